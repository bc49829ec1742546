/- Proved here: what the machine does at calls of the functions that the laws reach is what plain functions of the same names say, or a row of the given statement out of that. No conditions. Written by a program of this session over the printer of the kit. -/
import Derived.Test.YtaoicceakgipgaaDoorTx0
namespace Go.Proofs.YtaoicceakgipgaaDoor.T
open Go.RowKit Go.Proofs.YtaoicceakgipgaaDoorW.PrintWords Go.Proofs.YtaoicceakgipgaaDoorW.PrintLast Go.Proofs.YtaoicceakgipgaaDoorW.PrintMore
attribute [local go_sem] max2_int min2_int max_two min_two max_three min_three max_four min_four   -- for this text's walks alone
set_option linter.unusedVariables false
set_option linter.unusedSimpArgs false

/-- a claim's cells -/
def clc (c : S28) : List Value := [.int .i64 c.f0, .int .i64 c.f1, .int .i64 c.f2, .bool c.f3]
/-- a book's cells -/
def bkc (B : List S28) : Array Value := (B.flatMap clc).toArray
/-- admit.none reads as it was laid -/
def GG (w : World) : Prop := w.cell? ⟨0, 0, none⟩ = some (.int .i64 0) ∧ w.cell? ⟨0, 1, none⟩ = some (.int .i64 0) ∧ w.cell? ⟨0, 2, none⟩ = some (.int .i64 0) ∧ w.cell? ⟨0, 3, none⟩ = some (.bool false)
/-- is it the zero claim? -/
def clz (c : S28) : Bool := c.f0 == 0 && (c.f1 == 0 && (c.f2 == 0 && !c.f3))
def bkGet (B : List S28) (s : Int) : S28 := B.getD s.toNat z28
/-- is there a claim at the slot? -/
def bkAt (B : List S28) (s : Int) : Bool := decide (0 ≤ s) && (decide (s < 64) && !clz (bkGet B s))
def bkNew : List S28 := List.replicate 64 z28
def bkL (B : List S28) : List S28 := B.filter fun c => !clz c
def bkSumOf (n : Int) (l : List S28) : Int := l.foldl (fun n c => wrap64 (n + mx c.f1 c.f2)) n
def bkSum (B : List S28) : Int := bkSumOf 0 (bkL B)
def bkSet (B : List S28) (s : Int) (c : S28) : List S28 := B.set s.toNat c
def shareB (n : Int) : Bool := decide (n ≥ 1) && decide (n ≤ 1048576)
def bkAdd (B : List S28) (s u : Int) : Option Int × List S28 :=
 if s < 0 then (some 1, B) else if s ≥ 64 then (some 1, B) else if bkAt B s = true then (some 30, B) else if shareB u = false then (some 2, B) else
 if wrap64 (bkSum B + u) > 1048576 then (some 80, B) else (none, bkSet B s ⟨s, u, 0, false⟩)
def bkResize (B : List S28) (s u : Int) : Option Int × List S28 :=
 if bkAt B s = false then (some 20, B) else if (bkGet B s).f3 = true then (some 92, B) else if shareB u = false then (some 2, B) else
 if wrap64 (wrap64 (bkSum B - mx (bkGet B s).f1 (bkGet B s).f2) + mx (bkGet B s).f1 u) > 1048576 then (some 80, B) else
 (none, bkSet B s ⟨(bkGet B s).f0, (bkGet B s).f1, u, (bkGet B s).f3⟩)
def bkDie (B : List S28) (s : Int) : Option Int × List S28 :=
 if bkAt B s = false then (some 20, B) else if (bkGet B s).f3 = true then (some 92, B) else (none, bkSet B s ⟨(bkGet B s).f0, (bkGet B s).f1, (bkGet B s).f2, true⟩)
def bkCross (B : List S28) (s : Int) : Int × Option Int × List S28 :=
 if bkAt B s = false then (0, some 20, B) else if (bkGet B s).f3 = true then (2, none, bkSet B s z28) else if (bkGet B s).f2 = 0 then (0, none, B) else
 (1, none, bkSet B s ⟨(bkGet B s).f0, (bkGet B s).f2, 0, (bkGet B s).f3⟩)
def bkOf (B : List S28) (s : Int) : Int × Int × Int × Bool × Bool × List S28 :=
 if bkAt B s = true then ((bkGet B s).f0, (bkGet B s).f1, (bkGet B s).f2, (bkGet B s).f3, true, B) else (0, 0, 0, false, false, B)
theorem GG.below {w W : World} (h : GG w) (hb : Below w.heap.size w W) : GG W := by
 obtain ⟨h0, h1, h2, h3⟩ := h
 have hl : (0 : Nat) < w.heap.size := block_lt_of_cell h0
 exact ⟨(hb.cell (p := ⟨0, 0, none⟩) hl).trans h0, (hb.cell (p := ⟨0, 1, none⟩) hl).trans h1, (hb.cell (p := ⟨0, 2, none⟩) hl).trans h2, (hb.cell (p := ⟨0, 3, none⟩) hl).trans h3⟩
/-- A state of type 61 at block g of W; what its slices lead to came in by w0. -/
def IsS61 (w0 W : World) (g : Nat) (f0 : List S28) : Prop := W.heap[g]? = some (.cells (bkc f0) 61 (0, 0)) ∧ w0.heap.size ≤ g ∧ GG w0 ∧ f0.length = 64
theorem IsS61.grown {w0 W : World} {g : Nat} {f0 : List S28} {W1 : World} {row : Option Nat} (h : IsS61 w0 W g f0) (hw : W.grownBy W1 row) (hne : some g ≠ row) : IsS61 w0 W1 g f0 := by
 obtain ⟨hb, hg⟩ := h
 exact ⟨blk_grown hb hw hne, hg⟩
theorem IsS61.own_neN {w0 W : World} {g : Nat} {f0 : List S28} {α : Type} {d : Kd α} {e : Nat} {base : Nat} {ok : Nat → Prop} {v : Value} {xs : List α} (h : IsS61 w0 W g f0) (ho : Kd.N d e W base ok v xs) (ht : e ≠ 61) : some g ≠ v.ownBlock := by
 obtain ⟨hb, hg⟩ := h
 exact Kd.N_ne ho hb ht
theorem IsS61.fresh {w0 W : World} {g : Nat} {f0 : List S28} (h : IsS61 w0 W g f0) : ∀ k, W.heap.size ≤ k → k ≠ g := by
 obtain ⟨hb, hg⟩ := h
 exact Kd.freshB hb
theorem IsS61.kept {w0 W : World} {g : Nat} {f0 : List S28} {W1 : World} {S : Nat → Prop} (h : IsS61 w0 W g f0) (hk : Kept W W1 S) (hne : ¬ S g) : IsS61 w0 W1 g f0 := by
 obtain ⟨hb, hg⟩ := h
 exact ⟨blk_kept hb hk hne, hg⟩
theorem IsS61.below {w0 W : World} {g : Nat} {f0 : List S28} {W1 : World} (h : IsS61 w0 W g f0) (hw : Below W.heap.size W W1) : IsS61 w0 W1 g f0 := h.grown (grown_of_below hw none) (by simp)
theorem IsS61.alloc {w0 W : World} {g : Nat} {f0 : List S28} (h : IsS61 w0 W g f0) (o : Obj) : IsS61 w0 (W.alloc o) g f0 := h.below (below_alloc (Below.refl _ _) o)
theorem IsS61.drewN {w0 W : World} {g : Nat} {f0 : List S28} (h : IsS61 w0 W g f0) (m : Nat) : IsS61 w0 (W.drewN m) g f0 := h
theorem IsS61.drew {w0 W : World} {g : Nat} {f0 : List S28} (h : IsS61 w0 W g f0) : IsS61 w0 W.drew g f0 := h
theorem IsS61.at_ {w0 W : World} {g : Nat} {f0 : List S28} {w' : World} {m : Nat} (hq : W.drewN m = w') (h : IsS61 w0 W g f0) : IsS61 w0 w' g f0 := by subst hq; exact IsS61.drewN h m
theorem IsS61.apart {w0 W : World} {g : Nat} {f0 : List S28} {α : Type} {d : Kd α} {e : Nat} {base : Nat} {ok : Nat → Prop} {v : Value} {xs : List α} (h : IsS61 w0 W g f0) (ho : d.R e W base ok v xs) (ht : ∀ q, q ∈ e :: d.E → q ≠ 61) : d.R e W base (fun k => ok k ∧ k ≠ g) v xs := by
 obtain ⟨hb, hg⟩ := h
 exact Kd.R_types ho hb ht
theorem IsS61.own_ne {w0 W : World} {g : Nat} {f0 : List S28} {α : Type} {d : Kd α} {e : Nat} {base : Nat} {ok : Nat → Prop} {v : Value} {xs : List α} (h : IsS61 w0 W g f0) (ho : d.R e W base ok v xs) (ht : e ≠ 61) : some g ≠ v.ownBlock := by
 obtain ⟨hb, hg⟩ := h
 exact Kd.R_ne ho hb ht
theorem IsS61.apartQ {w0 W : World} {g : Nat} {f0 : List S28} {α : Type} {d : Kd α} {e : Nat} {base : Nat} {ok : Nat → Prop} {v : Value} {xs : List α} (h : IsS61 w0 W g f0) (ho : d.Q e W base ok v xs) (ht : ∀ q, q ∈ e :: d.E → q ≠ 61) : d.Q e W base (fun k => ok k ∧ k ≠ g) v xs := by
 obtain ⟨hb, hg⟩ := h
 exact Kd.Q_types ho hb ht
theorem IsS61.own_neQ {w0 W : World} {g : Nat} {f0 : List S28} {α : Type} {d : Kd α} {e : Nat} {base : Nat} {ok : Nat → Prop} {v : Value} {xs : List α} (h : IsS61 w0 W g f0) (ho : d.Q e W base ok v xs) (ht : e ≠ 61) : some g ≠ v.ownBlock := by
 obtain ⟨hb, hg⟩ := h
 exact Kd.Q_ne ho hb ht
theorem IsS61.apartS {w0 W : World} {g : Nat} {f0 : List S28} {α : Type} {d : Kd α} {e : Nat} {base : Nat} {ok : Nat → Prop} {v : Value} {xs : List α} (h : IsS61 w0 W g f0) (ho : d.S e W base ok v xs) (ht : ∀ q, q ∈ e :: d.E → q ≠ 61) : d.S e W base (fun k => ok k ∧ k ≠ g) v xs := by
 obtain ⟨hb, hg⟩ := h
 exact Kd.S_types ho hb ht
theorem IsS61.own_neS {w0 W : World} {g : Nat} {f0 : List S28} {α : Type} {d : Kd α} {e : Nat} {base : Nat} {ok : Nat → Prop} {v : Value} {xs : List α} (h : IsS61 w0 W g f0) (ho : d.S e W base ok v xs) (ht : e ≠ 61) : some g ≠ v.ownBlock := by
 obtain ⟨hb, hg⟩ := h
 exact Kd.S_ne ho hb ht
theorem IsS61.lt {w0 W : World} {g : Nat} {f0 : List S28} (h : IsS61 w0 W g f0) : g < W.heap.size := by
 obtain ⟨hb, hg⟩ := h
 exact blk_lt hb
theorem IsS61.ge {w0 W : World} {g : Nat} {f0 : List S28} (h : IsS61 w0 W g f0) : w0.heap.size ≤ g := by
 obtain ⟨hb, hg⟩ := h
 exact hg.1
theorem IsS61.ne_blk {w0 W : World} {g : Nat} {f0 : List S28} {a : Nat} {cs : Array Value} {t : TypeId} {fr : Nat × Nat} (h : IsS61 w0 W g f0) (hb2 : W.heap[a]? = some (.cells cs t fr)) (ht : t ≠ 61) : g ≠ a := by
 obtain ⟨hb, hg⟩ := h
 rintro rfl
 rw [hb] at hb2
 injection hb2 with hb2
 injection hb2 with _ ht2
 exact ht ht2.symm
theorem IsS61.far {w0 W : World} {g : Nat} {f0 : List S28} {p : Addr} (h : IsS61 w0 W g f0) (hne : g ≠ p.block) (u : Value) : IsS61 w0 (W.setCell p u) g f0 := by
 obtain ⟨hb, hg⟩ := h
 exact ⟨blk_far hb hne u, hg⟩
theorem IsS61.gg {w0 W : World} {g : Nat} {f0 : List S28} (h : IsS61 w0 W g f0) : GG w0 := h.2.2.1
section
theorem bkEq (d : Nat) (w : World) (x0 y0 : Int) (x1 y1 : Int) (x2 y2 : Int) (x3 y3 : Bool) :
 (Op.equalIn (d + 2) 28 (.agg #[.int .i64 x0, .int .i64 x1, .int .i64 x2, .bool x3]) (.agg #[.int .i64 y0, .int .i64 y1, .int .i64 y2, .bool y3])).run Tryd.prog w = .ok (x0 == y0 && (x1 == y1 && (x2 == y2 && (x3 == y3)))) w := by
 refine eqA_of Tryd.underlying28 (by kernel_rfl) ?_
 refine eqf_cons (by rfl) (by go_simp; rfl) (by go_simp; rfl) (by go_simp) ?_
 refine eqf_cons (by rfl) (by go_simp; rfl) (by go_simp; rfl) (by go_simp) ?_
 refine eqf_cons (by rfl) (by go_simp; rfl) (by go_simp; rfl) (by go_simp) ?_
 exact eqf_last (by rfl) (by go_simp; rfl) (by go_simp; rfl) (by go_simp)
attribute [local go_sem high] bkEq
theorem clc_len (c : S28) : (clc c).length = 4 := rfl
theorem bkl_len : ∀ (B : List S28), (B.flatMap clc).length = B.length * 4
 | [] => rfl
 | c :: r => by rw [List.flatMap_cons, List.length_append, clc_len, bkl_len r, List.length_cons]; omega
theorem bkl_get : ∀ (B : List S28) (i q : Nat), i < B.length → q < 4 → (B.flatMap clc)[i * 4 + q]? = (clc (B.getD i z28))[q]?
 | [], _, _, h, _ => absurd h (by simp)
 | c :: r, 0, q, _, hq => by rw [List.flatMap_cons, List.getElem?_append_left (by rw [clc_len]; omega)]; simp
 | c :: r, i + 1, q, h, hq => by
  rw [List.flatMap_cons, List.getElem?_append_right (by rw [clc_len]; omega), clc_len, show (i + 1) * 4 + q - 4 = i * 4 + q from by omega, bkl_get r i q (by simpa using h) hq]
  simp
theorem bkc_get (B : List S28) (i q : Nat) (h : i < B.length) (hq : q < 4) : (bkc B)[i * 4 + q]? = (clc (B.getD i z28))[q]? := by
 unfold bkc; rw [List.getElem?_toArray]; exact bkl_get B i q h hq
theorem cells_of {w0 W : World} {g : Nat} {B : List S28} (h : IsS61 w0 W g B) {s : Int} (h0 : 0 ≤ s) (h1 : s < 64) :
  W.cell? ⟨g, s.toNat * 4, none⟩ = some (.int .i64 (bkGet B s).f0) ∧ W.cell? ⟨g, s.toNat * 4 + 1, none⟩ = some (.int .i64 (bkGet B s).f1) ∧ W.cell? ⟨g, s.toNat * 4 + 2, none⟩ = some (.int .i64 (bkGet B s).f2) ∧ W.cell? ⟨g, s.toNat * 4 + 3, none⟩ = some (.bool (bkGet B s).f3) := by
 have hl : s.toNat < B.length := by have := h.2.2.2; omega
 have key : ∀ q, q < 4 → W.cell? ⟨g, s.toNat * 4 + q, none⟩ = (clc (bkGet B s))[q]? := fun q hq => (cell_of_row W g _ _ 61 (0, 0) h.1).trans (bkc_get B _ q hl hq)
 exact ⟨key 0 (by omega), key 1 (by omega), key 2 (by omega), key 3 (by omega)⟩
theorem none_of {w : World} (h : GG w) : w.cell? ⟨0, 0, none⟩ = some (.int .i64 0) ∧ w.cell? ⟨0, 1, none⟩ = some (.int .i64 0) ∧ w.cell? ⟨0, 2, none⟩ = some (.int .i64 0) ∧ w.cell? ⟨0, 3, none⟩ = some (.bool false) := h
/-- what 'at' points at -/
def atV (B : List S28) (g : Nat) (s : Int) : Value := if bkAt B s = true then .pointer (some ⟨g, s.toNat * 4, none⟩) else .pointer none
theorem atV_t {B : List S28} {g : Nat} {s : Int} (h : bkAt B s = true) : atV B g s = .pointer (some ⟨g, s.toNat * 4, none⟩) := if_pos h
theorem atV_f {B : List S28} {g : Nat} {s : Int} (h : bkAt B s = false) : atV B g s = .pointer none := if_neg (by rw [h]; decide)
set_option maxHeartbeats 8000000 in
set_option maxRecDepth 100000 in
theorem bk_at.calls (g : Nat) (b0 : List S28) (a1 : Int) (w0 w : World) (hI : IsS61 w0 w g b0) (hB : Below w0.heap.size w0 w) :
  Calls Tryd.prog 28 #[.pointer (some ⟨g, 0, none⟩), .int .i64 a1] w fun e w' => e = .returned (atV b0 g a1) ∧ Drawn0 w w' := by
 have hu23 := Tryd.underlying23
 have hu61 := Tryd.underlying61
 have hu59 := Tryd.underlying59
 have hu28 := Tryd.underlying28
 have hu62 := Tryd.underlying62
 by_cases h0 : a1 < 0
 ·have hv : atV b0 g a1 = .pointer none := atV_f (by unfold bkAt; rw [decide_eq_false (by omega)]; rfl)
  rw [hv]
  have h0b : decide (a1 < 0) = true := decide_eq_true h0
  clear hv h0 hI hB
  go_enter Tryd.func28, Tryd.ntmps28
  go_wp2
  go_quiet (fail)
  go_wp2
  go_ret
  exact ⟨rfl, by repeat (first | exact Drawn0.refl _ | apply Drawn0.step)⟩
 have h0b : decide (a1 < 0) = false := decide_eq_false h0
 by_cases h1 : a1 < 64
 ·obtain ⟨c0, c1, c2, c3⟩ := cells_of hI (by omega) h1
  obtain ⟨n0, n1, n2, n3⟩ := none_of (hI.gg.below hB)
  have h1b : decide (64 ≤ a1) = false := decide_eq_false (by omega)
  have h1c : (a1 < 64) = True := eq_true h1
  have h1d : (0 ≤ a1) = True := eq_true (by omega)
  have hp : bkAt b0 a1 = !clz (bkGet b0 a1) := by unfold bkAt; rw [decide_eq_true (by omega), decide_eq_true h1]; rfl
  generalize bkGet b0 a1 = c at *
  cases hz : clz c with
  | true =>
   rw [hz] at hp
   rw [atV_f hp]
   have hz' : (c.f0 == 0 && (c.f1 == 0 && (c.f2 == 0 && !c.f3))) = true := hz
   clear hp hz h0 h1 hI hB
   go_enter Tryd.func28, Tryd.ntmps28
   go_wp2
   go_quiet (fail)
   go_wp2
   go_ret
   exact ⟨rfl, by repeat (first | exact Drawn0.refl _ | apply Drawn0.step)⟩
  | false =>
   rw [hz] at hp
   rw [atV_t hp]
   have hz' : (c.f0 == 0 && (c.f1 == 0 && (c.f2 == 0 && !c.f3))) = false := hz
   clear hp hz h0 h1 hI hB
   go_enter Tryd.func28, Tryd.ntmps28
   go_wp2
   go_quiet (fail)
   go_wp2
   go_ret
   exact ⟨rfl, by repeat (first | exact Drawn0.refl _ | apply Drawn0.step)⟩
 ·have hv : atV b0 g a1 = .pointer none := atV_f (by unfold bkAt; rw [decide_eq_false (show ¬ a1 < 64 from h1)]; simp)
  rw [hv]
  have h1b : decide (64 ≤ a1) = true := decide_eq_true (by omega)
  clear hv h0 h1 hI hB
  go_enter Tryd.func28, Tryd.ntmps28
  go_wp2
  go_quiet (fail)
  go_wp2
  go_ret
  exact ⟨rfl, by repeat (first | exact Drawn0.refl _ | apply Drawn0.step)⟩
theorem bkl_set : ∀ (B : List S28) (i q : Nat) (v : Value) (c : S28), i < B.length → q < 4 → clc c = (clc (B.getD i z28)).set q v → (B.flatMap clc).set (i * 4 + q) v = (B.set i c).flatMap clc
 | [], _, _, _, _, h, _, _ => absurd h (by simp)
 | d :: r, 0, q, v, c, _, hq, hc => by
  simp only [List.getD_cons_zero] at hc
  rw [List.set_cons_zero, List.flatMap_cons, List.flatMap_cons, hc, List.set_append_left _ _ (by rw [clc_len]; omega)]
  simp
 | d :: r, i + 1, q, v, c, h, hq, hc => by
  simp only [List.getD_cons_succ] at hc
  rw [List.set_cons_succ, List.flatMap_cons, List.flatMap_cons, List.set_append_right _ _ (by rw [clc_len]; omega), clc_len, show (i + 1) * 4 + q - 4 = i * 4 + q from by omega,
   bkl_set r i q v c (by simpa using h) hq hc]
theorem S_set {w0 W : World} {g : Nat} {B : List S28} (h : IsS61 w0 W g B) {s : Int} (h0 : 0 ≤ s) (h1 : s < 64) (q : Nat) (v : Value) (c : S28) (hq : q < 4) (hc : clc c = (clc (bkGet B s)).set q v) :
  IsS61 w0 (W.setCell ⟨g, s.toNat * 4 + q, none⟩ v) g (bkSet B s c) := by
 refine ⟨?_, h.2.1, h.2.2.1, by unfold bkSet; rw [List.length_set]; exact h.2.2.2⟩
 rw [heap_setCell_same W g _ _ 61 v h.1]
 congr 2
 unfold bkc bkSet
 rw [List.setIfInBounds_toArray]
 congr 1
 exact bkl_set B s.toNat q v c (by rw [h.2.2.2]; omega) hq hc
theorem bkGet_set {B : List S28} (hB : B.length = 64) {s : Int} (h0 : 0 ≤ s) (h1 : s < 64) (c : S28) : bkGet (bkSet B s c) s = c := by
 unfold bkGet bkSet
 have : s.toNat < B.length := by omega
 simp [List.getD, this]
theorem bkSet_set (B : List S28) (s : Int) (c d : S28) : bkSet (bkSet B s c) s d = bkSet B s d := by
 unfold bkSet; exact List.set_set _
theorem S_set4 {w0 W : World} {g : Nat} {B : List S28} (h : IsS61 w0 W g B) {s : Int} (h0 : 0 ≤ s) (h1 : s < 64) (a b c : Int) (d : Bool) :
  IsS61 w0 ((((W.setCell ⟨g, s.toNat * 4, none⟩ (.int .i64 a)).setCell ⟨g, s.toNat * 4 + 1, none⟩ (.int .i64 b)).setCell ⟨g, s.toNat * 4 + 2, none⟩ (.int .i64 c)).setCell ⟨g, s.toNat * 4 + 3, none⟩ (.bool d)) g (bkSet B s ⟨a, b, c, d⟩) := by
 have x0 := S_set h h0 h1 0 (.int .i64 a) ⟨a, (bkGet B s).f1, (bkGet B s).f2, (bkGet B s).f3⟩ (by omega) rfl
 have x1 := S_set x0 h0 h1 1 (.int .i64 b) ⟨a, b, (bkGet B s).f2, (bkGet B s).f3⟩ (by omega) (by rw [bkGet_set h.2.2.2 h0 h1]; rfl)
 rw [bkSet_set] at x1
 have x2 := S_set x1 h0 h1 2 (.int .i64 c) ⟨a, b, c, (bkGet B s).f3⟩ (by omega) (by rw [bkGet_set h.2.2.2 h0 h1]; rfl)
 rw [bkSet_set] at x2
 have x3 := S_set x2 h0 h1 3 (.bool d) ⟨a, b, c, d⟩ (by omega) (by rw [bkGet_set h.2.2.2 h0 h1]; rfl)
 rw [bkSet_set] at x3
 exact x3
theorem at_in {B : List S28} {s : Int} (h : bkAt B s = true) : 0 ≤ s ∧ s < 64 := by
 unfold bkAt at h
 rw [Bool.and_eq_true, Bool.and_eq_true] at h
 exact ⟨of_decide_eq_true h.1, of_decide_eq_true h.2.1⟩
theorem froz_of {w0 W : World} {g : Nat} {B : List S28} (h : IsS61 w0 W g B) (j : Nat) : W.frozen? ⟨g, j, none⟩ = false := frozen_of_row W g j _ 61 h.1
/-- what stays, while a statement draws its order -/
def RsOk (w0 w : World) (g : Nat) (B : List S28) (W : World) : Prop := IsS61 w0 W g B ∧ Below w0.heap.size w0 W ∧ KeepBut w W g none
theorem RsOk.drew {w0 w : World} {g : Nat} {B : List S28} {W : World} (h : RsOk w0 w g B W) : RsOk w0 w g B W.drew := ⟨h.1, below_drew1 h.2.1, keep_drew h.2.2⟩
theorem RsOk.drewN {w0 w : World} {g : Nat} {B : List S28} {W : World} (h : RsOk w0 w g B W) (n : Nat) : RsOk w0 w g B (W.drewN n) := ⟨h.1, pw_below_drewN h.2.1 n, keep_drewN h.2.2 n⟩
theorem RsOk.below {w0 w : World} {g : Nat} {B : List S28} {W W1 : World} (h : RsOk w0 w g B W) (hb : Below W.heap.size W W1) : RsOk w0 w g B W1 := ⟨h.1.below hb, below_step h.2.1 hb, KeepBut.trans h.2.2 (KeepBut.of_below hb g none) (.inl rfl)⟩
end

def admit_New.f : Option (List S28) := some bkNew
section
attribute [local go_sem high] bkEq
set_option maxHeartbeats 8000000 in
set_option maxRecDepth 100000 in
theorem admit_New.calls (r : List S28) (w0 w : World) (hG : GG w0) (hB : Below w0.heap.size w0 w) (h : admit_New.f  = some r) :
 Calls Tryd.prog 9 #[] w fun e w' => ∃ g_ : Nat, e = .returned (.pointer (some ⟨g_, 0, none⟩)) ∧ IsS61 w0 w' g_ r ∧ Below w0.heap.size w0 w' ∧ Below w.heap.size w w' := by
 obtain rfl := Option.some.inj h
 obtain ⟨C, hC⟩ : ∃ C, C = bkc bkNew := ⟨_, rfl⟩
 have hz : ∀ W : World, (zeroValue 61).run Tryd.prog W = .ok (.agg C) W := by rw [hC]; intro W; kernel_rfl
 have HC := Aside0.mk hC
 have HB := Aside0.mk hB
 have HG := Aside0.mk hG
 clear h hC hB hG
 go_enter Tryd.func9, Tryd.ntmps9
 go_wp2
 go_ret
 exact ⟨w.heap.size, rfl, ⟨by rw [← HC.out]; exact heap_alloc_new w _, HB.out.size, HG.out, by simp [bkNew]⟩, below_alloc HB.out _, below_alloc (Below.refl _ _) _⟩
end

def bk_List.f (b0 : List S28) : Option ((List S28) × List S28) := some (bkL b0, b0)
section
attribute [local go_sem high] bkEq
theorem size_al (w : World) {o : Obj} : (w.alloc o).heap.size = w.heap.size + 1 := by simp
theorem take_flat : ∀ (B : List S28) (i : Nat), i < B.length → ((B.flatMap clc).drop (i * 4)).take 4 = clc (B.getD i z28)
 | [], _, h => absurd h (by simp)
 | c :: r, 0, _ => by simp [clc]
 | c :: r, i + 1, h => by
  have h' : i < r.length := by simpa using h
  have e : (i + 1) * 4 = (clc c).length + i * 4 := by rw [clc_len]; omega
  rw [List.flatMap_cons, e, List.drop_append]
  rw [List.drop_of_length_le (by omega), List.nil_append, show (clc c).length + i * 4 - (clc c).length = i * 4 from by omega, take_flat r i h']
  simp
theorem run_idx {B : List S28} (hB : B.length = 64) {i : Nat} (hi : i < 64) (W : World) :
  (Instr.index 59 (.agg (bkc B)) (.int .i64 (i : Int))).run Tryd.prog W = .ok (.agg #[.int .i64 (B.getD i z28).f0, .int .i64 (B.getD i z28).f1, .int .i64 (B.getD i z28).f2, .bool (B.getD i z28).f3]) W := by
 have hs : ∀ W : World, (sizeOf 28).run Tryd.prog W = .ok 4 W := fun W => by kernel_rfl
 have ha : ∀ W : World, (isAgg 28).run Tryd.prog W = .ok true W := fun W => by kernel_rfl
 have he : (bkc B).extract (i * 4) (i * 4 + 4) = #[.int .i64 (B.getD i z28).f0, .int .i64 (B.getD i z28).f1, .int .i64 (B.getD i z28).f2, .bool (B.getD i z28).f3] := by
  apply Array.ext'
  rw [Array.toList_extract]
  show List.extract (bkc B).toList _ _ = clc (B.getD i z28)
  rw [List.extract_eq_take_drop, show i * 4 + 4 - i * 4 = 4 from by omega]
  exact take_flat B i (by omega)
 simp [Instr.index, asIntOf, run_underlying Tryd.underlying59, part, hs, ha, he, Sem.run_bind, hi]
theorem run_all {w0 W : World} {g : Nat} {B : List S28} (h : IsS61 w0 W g B) : (Instr.loadAt 59 (.pointer (some ⟨g, 0, none⟩))).run Tryd.prog W = .ok (.agg (bkc B)) W := by
 simp only [Instr.loadAt, Instr.sureAddr, Sem.run_bind, Sem.run_pure, Result.andThen_ok]
 refine run_loadVar_row W g 61 59 _ (0, 0) _ h.1 Tryd.underlying59 rfl ?_
 have hn : (Tryd.prog.info? 59).map (·.size) = some 256 := by kernel_rfl
 rw [hn]
 have := bkl_len B
 rw [h.2.2.2] at this
 simp [bkc, this]
theorem bkl_take {B : List S28} {i : Nat} (h : i < B.length) : bkL (B.take (i + 1)) = if clz (B.getD i z28) = true then bkL (B.take i) else bkL (B.take i) ++ [B.getD i z28] := by
 rw [List.take_succ_eq_append_getElem h]
 unfold bkL
 rw [List.filter_append]
 have e : B.getD i z28 = B[i] := by simp [List.getD, List.getElem?_eq_getElem h]
 rw [e]
 cases hz : clz B[i] <;> simp [hz]
set_option maxHeartbeats 8000000 in
set_option maxRecDepth 100000 in
theorem bk_List.calls (g : Nat) (b0 : List S28) (r1 : List S28) (r2 : List S28) (w0 w : World) (hI : IsS61 w0 w g b0) (hB : Below w0.heap.size w0 w) (h : bk_List.f b0  = some (r1, r2)) :
 Calls Tryd.prog 22 #[.pointer (some ⟨g, 0, none⟩)] w fun e w' => ∃ v0_ : Value, e = .returned (v0_) ∧ Kd.R k28 28 w' w.heap.size (fun _ => True) v0_ r1 ∧ IsS61 w0 w' g r2 ∧ Below w0.heap.size w0 w' ∧ KeepBut w w' g none := by
 simp only [bk_List.f, Option.some.injEq, Prod.mk.injEq] at h
 obtain ⟨rfl, rfl⟩ := h
 have hu23 := Tryd.underlying23
 have hu61 := Tryd.underlying61
 have hu28 := Tryd.underlying28
 have hgc := hI.1
 have hn : (Tryd.prog.info? 59).map (·.size) = some (bkc b0).size := by
  have e1 : (Tryd.prog.info? 59).map (·.size) = some 256 := by kernel_rfl
  have e2 := bkl_len b0
  rw [hI.2.2.2] at e2
  rw [e1]; simp [bkc, e2]
 have hix := fun (i : Nat) (hi : i < 64) (W : World) => run_idx hI.2.2.2 hi W
 have HL := Aside0.mk hI.2.2.2
 generalize hC : bkc b0 = C at hgc hix hn
 have HX := Aside0.mk hix
 have HG := Aside0.mk (hI.gg.below hB)
 have HI := Aside0.mk hI
 have HB0 := Aside0.mk hB
 have HB := Aside0.mk (Below.refl w.heap.size w)
 have HGC := Aside0.mk hgc
 have HN := Aside0.mk hn
 clear hI hB hix hC hgc hn
 go_enter Tryd.func22, Tryd.ntmps22
 go_wp2_with (first | (refine wpList_load_row rfl 59 (.tmp 11) rfl g rfl 61 C (0, 0) _ HGC.out Tryd.underlying59 rfl HN.out ?_))
 go_loopg [3, 13] 65 (fun kq v3 v13 w' => ∃ (i : Nat), v13 = .int .i64 (i : Int) ∧ Aside0 (kq + i = 65) ∧ Aside0 (i ≤ 64) ∧ Aside0 (Kd.R k28 28 w' w.heap.size (fun _ => True) v3 (bkL (b0.take i))) ∧ Aside0 (Below w.heap.size w w'))
 case atStart => exact ⟨0, rfl, ⟨rfl⟩, ⟨by decide⟩, ⟨Kd.R_nil _ _ _ _ _⟩, HB⟩
 case round =>
  clear HB HGC HN
  obtain ⟨i, rfl, HK, HK2, HO3, HB⟩ := hrel
  cases gk with
  | zero => exact absurd HK.out (by have := HK2.out; omega)
  | succ k2 =>
   by_cases hlt : i < 64
   ·have c8 : decide ((i : Int) < 64) = true := decide_eq_true (by omega)
    have hx := HX.out i hlt
    have hs : bkL (b0.take (i + 1)) = if clz (b0.getD i z28) = true then bkL (b0.take i) else bkL (b0.take i) ++ [b0.getD i z28] := bkl_take (by rw [HL.out]; exact hlt)
    have hll : (bkL (b0.take i)).length ≤ 64 := by
     unfold bkL; exact Nat.le_trans (List.length_filter_le _ _) (Nat.le_trans (by rw [List.length_take]; exact Nat.min_le_left _ _) (Nat.le_of_lt hlt))
    have HLL := Aside0.mk hll
    clear hll
    generalize b0.getD i z28 = c at *
    have HM := Aside0.mk (show k2 < k2 + 1 ∧ k2 + (i + 1) = 65 ∧ i + 1 ≤ 64 from ⟨by omega, by have := HK.out; omega, by omega⟩)
    have hw : IntKind.i64.wrap ((i : Int) + 1) = ((i + 1 : Nat) : Int) := by rw [IntWalk.i64_in _ (by omega)]; omega
    have hw2 : wrap64 ((i : Int) + 1) = ((i + 1 : Nat) : Int) := by unfold wrap64; omega
    obtain ⟨n0, n1, n2, n3⟩ := none_of (HG.out.below (below_alloc HB.out (.cells #[.int .i64 c.f0, .int .i64 c.f1, .int .i64 c.f2, .bool c.f3] 28)))
    clear HK HK2 hlt
    cases hz : clz c with
    | true =>
     rw [if_pos hz] at hs
     have hz' : (!(c.f0 == 0) || (!(c.f1 == 0) || (!(c.f2 == 0) || c.f3))) = false := by
      have : (c.f0 == 0 && (c.f1 == 0 && (c.f2 == 0 && !c.f3))) = true := hz
      revert this; cases (c.f0 == 0) <;> cases (c.f1 == 0) <;> cases (c.f2 == 0) <;> cases c.f3 <;> decide
     have HS := Aside0.mk hs
     clear hs hz
     go_wp2
     go_roundg k2
     case measure => exact HM.out.1
     case rel => exact ⟨i + 1, by first | rfl | (simp; done) | (simp [*]; done), ⟨HM.out.2.1⟩, ⟨HM.out.2.2⟩, ⟨by rw [HS.out]; exact Kd.R_below HO3.out (below_alloc (Below.refl _ _) _)⟩, ⟨below_alloc HB.out _⟩⟩
    | false =>
     rw [if_neg (by rw [hz]; decide)] at hs
     have hz' : (!(c.f0 == 0) || (!(c.f1 == 0) || (!(c.f2 == 0) || c.f3))) = true := by
      have : (c.f0 == 0 && (c.f1 == 0 && (c.f2 == 0 && !c.f3))) = false := hz
      revert this; cases (c.f0 == 0) <;> cases (c.f1 == 0) <;> cases (c.f2 == 0) <;> cases c.f3 <;> decide
     have HS := Aside0.mk hs
     clear hs hz
     go_wp2_with (first | ((with_reducible refine gate_builtin (b := .append) (xs := #[.tmp 19, .tmp 21]) rfl ?_); at_builtin; refine Kd.R_append k28 (w0 := w) w.heap.size rfl (.tmp 19) (.tmp 21) 45 28 (.agg #[(.int .i64 0), (.int .i64 0), (.int .i64 0), (.bool false)]) 32 rfl Tryd.underlying45 info28 rfl (by decide) (by omega) u3 (bkL (b0.take i)) c [.int .i64 c.f0, .int .i64 c.f1, .int .i64 c.f2, .bool c.f3] (fun _ => True) (fun _ => False) rfl ?aX ?aP (fun _ hk => hk.elim) ?aF ?aO ?aB ?aS ?aL ?_; (case aX => (show Value.slice (some ⟨wr.heap.size + 1, 0, none⟩) 1 1 = _; rw [← size_al wr])); (case aP => exact k28_mkM _ _ _ c); (case aF => exact fun _ _ => trivial); (case aO => exact Kd.R_below HO3.out (below_alloc (Below.refl _ _) _)); (case aB => exact below_alloc HB.out _); (case aS => exact (below_alloc HB.out _).size); (case aL => have := HLL.out; omega); intro v1 w1 ho hb hg hat; rw [← HS.out] at ho; have HO4 := Aside0.mk ho; have HB4 := Aside0.mk hb; clear ho hb hg hat))
     go_roundg k2
     case measure => exact HM.out.1
     case rel => exact ⟨i + 1, by first | rfl | (simp; done) | (simp [*]; done), ⟨HM.out.2.1⟩, ⟨HM.out.2.2⟩, HO4, HB4⟩
   ·have hi : i = 64 := by have := HK2.out; omega
    subst hi
    have c8 : decide ((64 : Int) < 64) = false := by decide
    have HT : Aside0 (bkL (b0.take 64) = bkL b0) := ⟨by rw [List.take_of_length_le (by rw [HL.out]; exact Nat.le_refl _)]⟩
    clear hlt HK HK2
    go_wp2
    go_ret
    exact ⟨_, rfl, by rw [← HT.out]; exact HO3.out, HI.out.below HB.out, below_step HB0.out HB.out, KeepBut.of_below HB.out g none⟩
end

/-! ### admit_Claim_counts: function 29 -/
def admit_Claim_counts.f (a0_0 : Int) (a0_1 : Int) (a0_2 : Int) (a0_3 : Bool) : Option (Int) := some (mx a0_1 a0_2)
set_option maxHeartbeats 8000000 in
set_option maxRecDepth 100000 in
theorem admit_Claim_counts.calls (a0_0 : Int) (a0_1 : Int) (a0_2 : Int) (a0_3 : Bool) (r : Int) (w : World) (h : admit_Claim_counts.f a0_0 a0_1 a0_2 a0_3 = some r) :
  Calls Tryd.prog 29 #[.agg #[.int .i64 a0_0, .int .i64 a0_1, .int .i64 a0_2, .bool a0_3]] w fun e w' => e = .returned (.int .i64 r) ∧ Below w.heap.size w w' := by
 have hu28 := Tryd.underlying28
 have HB := Aside0.mk (Below.refl w.heap.size w)
 have H : (some (mx a0_1 a0_2)) = some r := h
 clear h
 obtain ⟨ji2, hji2⟩ : ∃ j_ : Int, (mx a0_1 a0_2) = j_ := ⟨_, rfl⟩
 replace H : (some ji2) = some r := by first | (rw [hji2] at H; exact H) | (simp only [hji2] at H ⊢; exact H)
 have hji2_ : (if a0_1 < a0_2 then a0_2 else a0_1) = ji2 := hji2
 obtain rfl := Option.some.inj H
 go_enter Tryd.func29, Tryd.ntmps29
 go_wp2_with (first | ((with_reducible refine gate_dst (N := 1) rfl ?_); refine box_event ?hg (N := 1) ?hd (cs := #[.int .i64 a0_0, .int .i64 a0_1, .int .i64 a0_2, .bool a0_3]) (t := 28) ?hr ?_; (case hd => rfl); (case hg => rfl); (case hr => first | (go_simp; done) | (go_simp; rfl)); intro gb101 hg w3 hbox hb; have n0_ := Aside0.mk (below_step (by repeat (first | (with_reducible first | exact HB.out | apply below_alloc | apply pw_below_drewN | apply below_drew1) | exact HB.out)) hb); have n1_ := Aside0.mk (hbox); have n2_ := Aside0.mk ((by rw [hg]; exact (below_size (by repeat (first | (with_reducible first | exact HB.out | apply below_alloc | apply pw_below_drewN | apply below_drew1) | exact HB.out))) : w.heap.size ≤ gb101)); have n3_ := Aside0.mk ((by rw [hg]; exact (below_size (by repeat (first | (with_reducible first | exact HB.out | apply below_alloc | apply pw_below_drewN | apply below_drew1) | exact HB.out))) : w.heap.size ≤ gb101)); clear HB; have HB := n0_; have BK101 := n1_; have GW101 := n2_; have GE101 := n3_; clear n0_ n1_ n2_ n3_; clear hb hbox hg; have hcz4_0 : w3.cell? ⟨gb101, 0, none⟩ = some (.int .i64 a0_0) := (blk_cell BK101.out 0).trans (by rfl); have hcz4_1 : w3.cell? ⟨gb101, 1, none⟩ = some (.int .i64 a0_1) := (blk_cell BK101.out 1).trans (by rfl); have hcz4_2 : w3.cell? ⟨gb101, 2, none⟩ = some (.int .i64 a0_2) := (blk_cell BK101.out 2).trans (by rfl); have hcz4_3 : w3.cell? ⟨gb101, 3, none⟩ = some (.bool a0_3) := (blk_cell BK101.out 3).trans (by rfl); have hfz4_0 := blk_frozen BK101.out 0; have hfz4_1 := blk_frozen BK101.out 1; have hfz4_2 := blk_frozen BK101.out 2; have hfz4_3 := blk_frozen BK101.out 3))
 go_ret
 exact ⟨by first | rfl | (simp [errW_none, errW_some] <;> rfl) | (simp only [← hji2]; first | rfl | (simp [errW_none, errW_some] <;> rfl)) | (simp [*, errW_none, errW_some] <;> rfl), by repeat (first | (with_reducible first | exact HB.out | apply below_alloc | apply pw_below_drewN | apply below_drew1 | refine below_set ?_ GE101.out) | exact HB.out)⟩

end Go.Proofs.YtaoicceakgipgaaDoor.T
