/- Three rows of numbers beside one another: what a world is like that holds them, and how it goes on. No conditions. -/
import Derived.Test.YtdonlmbhamcjdaaRRRPlayS
namespace Go.Proofs.YtdonlmbhamcjdaaRRR.Ply
open Go.RowKit Go.Proofs.YtdonlmbhamcjdaaRRRW.PrintWords Go.Proofs.YtdonlmbhamcjdaaRRRW.PrintLast
set_option linter.unusedVariables false
/-- a row of n numbers in block g -/
def RowAt (W : World) (g n : Nat) (f : Nat → Int) : Prop := ∃ c : Array Value, W.heap[g]? = some (.cells c 3 (0, 0)) ∧ c.size = n ∧ ∀ i, i < n → c[i]? = some (.int .i64 (f i))
theorem RowAt.same {W W' : World} {g n : Nat} {f : Nat → Int} (h : RowAt W g n f) (e : W'.heap[g]? = W.heap[g]?) : RowAt W' g n f := by unfold RowAt; rw [e]; exact h
theorem RowAt.rd {W : World} {g n : Nat} {f : Nat → Int} (h : RowAt W g n f) {i : Nat} (hi : i < n) : W.cell? ⟨g, i, none⟩ = some (.int .i64 (f i)) ∧ W.frozen? ⟨g, i, none⟩ = false := by
  obtain ⟨c, h1, h2, h3⟩ := h
  exact ⟨(cell_of h1 i).trans (h3 i hi), frozen_of h1 i⟩
theorem RowAt.set {W : World} {g n : Nat} {f : Nat → Int} (h : RowAt W g n f) {i : Nat} (hi : i < n) (x : Int) : RowAt (W.setCell ⟨g, i, none⟩ (.int .i64 x)) g n (upd f i x) := by
  obtain ⟨c, h1, h2, h3⟩ := h
  refine ⟨_, heap_setCell_same W g i c 3 _ h1, by simpa using h2, fun k hk => ?_⟩
  by_cases e : k = i
  · subst e
    rw [upd_same, Array.getElem?_setIfInBounds_self_of_lt (by omega)]
  · rw [upd_other _ _ e, Array.getElem?_setIfInBounds_ne (Ne.symm e)]
    exact h3 k hk
theorem RowAt.lt {W : World} {g n : Nat} {f : Nat → Int} (h : RowAt W g n f) : g < W.heap.size := by
  obtain ⟨c, h1, _⟩ := h; exact lt_of_heap h1
/-- such a row, read as a slice -/
theorem RowAt.row {W : World} {g n : Nat} {f : Nat → Int} (h : RowAt W g n f) (hn : n ≤ 1048576) : Kd.C (Kd.int .i64) W (some ⟨g, 0, none⟩) n ((List.range n).map f) := by
  obtain ⟨co, g1, g2, g3⟩ := h
  have hpl : ((List.range n).map f).length = n := by simp
  have hr : Kd.R (Kd.int .i64) 3 W 0 (fun _ => True) (.slice (some ⟨g, 0, none⟩) n n) ((List.range n).map f) := by
    refine Kd.R_of_own ⟨by simp [encs], .inr ⟨g, n, co, by rw [hpl], by omega, g1, by rw [hpl]; exact Nat.le_refl _, by simp only [maxLen]; omega, by omega, ?_⟩⟩ (fun _ _ => trivial)
    rw [hpl]
    apply List.ext_getElem
    · simp [encs, g2]
    · intro m m1 m2
      have hm : m < n := by
        simp [g2] at m1
        omega
      have e1 := g3 m hm
      have e2 : co.toList[m]? = some (.int .i64 (f m)) := by rw [Array.getElem?_toList]; exact e1
      rw [List.getElem_take]
      have e3 := (List.getElem?_eq_some_iff.1 e2).2
      rw [e3]
      simp [encs]
  have := (Kd.R_reads' hr).2.2
  rw [hpl] at this
  exact this
structure S3 (n a b c b0 : Nat) (W0 : World) (f g h : Nat → Int) (W : World) : Prop where
  ra : RowAt W a n f
  rb : RowAt W b n g
  rc : RowAt W c n h
  off : ∀ k, k < b0 → k ≠ a → k ≠ b → k ≠ c → W.heap[k]? = W0.heap[k]?
  size : b0 ≤ W.heap.size
  os : W.os = W0.os
  tape : W.tape = W0.tape
  output : W.output = W0.output
  ab : a < b0
  bb : b < b0
  cb : c < b0
  nab : a ≠ b
  nac : a ≠ c
  nbc : b ≠ c
section
variable {n a b c b0 : Nat} {W0 W : World} {f g h : Nat → Int}
theorem S3.drewN (H : S3 n a b c b0 W0 f g h W) (m : Nat) : S3 n a b c b0 W0 f g h (W.drewN m) := ⟨H.ra, H.rb, H.rc, H.off, H.size, H.os, H.tape, H.output, H.ab, H.bb, H.cb, H.nab, H.nac, H.nbc⟩
theorem S3.drew (H : S3 n a b c b0 W0 f g h W) : S3 n a b c b0 W0 f g h W.drew := H.drewN 1
theorem S3.setA (H : S3 n a b c b0 W0 f g h W) {i : Nat} (hi : i < n) (x : Int) : S3 n a b c b0 W0 (upd f i x) g h (W.setCell ⟨a, i, none⟩ (.int .i64 x)) := by
  have hk : ∀ k, k ≠ a → (W.setCell ⟨a, i, none⟩ (.int .i64 x)).heap[k]? = W.heap[k]? := fun k hk => heap_setCell_other W _ k _ hk
  exact ⟨H.ra.set hi x, H.rb.same (hk _ (Ne.symm H.nab)), H.rc.same (hk _ (Ne.symm H.nac)), fun k q1 q2 q3 q4 => (hk k q2).trans (H.off k q1 q2 q3 q4), by simpa using H.size, H.os, H.tape, H.output, H.ab, H.bb, H.cb, H.nab, H.nac, H.nbc⟩
theorem S3.setB (H : S3 n a b c b0 W0 f g h W) {i : Nat} (hi : i < n) (x : Int) : S3 n a b c b0 W0 f (upd g i x) h (W.setCell ⟨b, i, none⟩ (.int .i64 x)) := by
  have hk : ∀ k, k ≠ b → (W.setCell ⟨b, i, none⟩ (.int .i64 x)).heap[k]? = W.heap[k]? := fun k hk => heap_setCell_other W _ k _ hk
  exact ⟨H.ra.same (hk _ H.nab), H.rb.set hi x, H.rc.same (hk _ (Ne.symm H.nbc)), fun k q1 q2 q3 q4 => (hk k q3).trans (H.off k q1 q2 q3 q4), by simpa using H.size, H.os, H.tape, H.output, H.ab, H.bb, H.cb, H.nab, H.nac, H.nbc⟩
theorem S3.setC (H : S3 n a b c b0 W0 f g h W) {i : Nat} (hi : i < n) (x : Int) : S3 n a b c b0 W0 f g (upd h i x) (W.setCell ⟨c, i, none⟩ (.int .i64 x)) := by
  have hk : ∀ k, k ≠ c → (W.setCell ⟨c, i, none⟩ (.int .i64 x)).heap[k]? = W.heap[k]? := fun k hk => heap_setCell_other W _ k _ hk
  exact ⟨H.ra.same (hk _ H.nac), H.rb.same (hk _ H.nbc), H.rc.set hi x, fun k q1 q2 q3 q4 => (hk k q4).trans (H.off k q1 q2 q3 q4), by simpa using H.size, H.os, H.tape, H.output, H.ab, H.bb, H.cb, H.nab, H.nac, H.nbc⟩
/-- what was there ahead of the rows stays -/
theorem S3.below {wb : World} (H : S3 n a b c b0 W0 f g h W) (hb : Below wb.heap.size wb W0) (h1 : wb.heap.size ≤ a) (h2 : wb.heap.size ≤ b) (h3 : wb.heap.size ≤ c) (hs : W0.heap.size ≤ b0) : Below wb.heap.size wb W := by
  have := H.ab
  exact hb.trans ⟨H.os, H.tape, H.output, by have := H.size; omega, fun k hk => H.off k (by omega) (by omega) (by omega) (by omega)⟩
theorem madeN (n : Nat) {i : Nat} (h : i < n) : (madeCells #[Value.int .i64 0] n)[i]? = some (.int .i64 0) := by
  simp [madeCells, h, Nat.mod_one]
theorem S3.start (n : Nat) (W : World) : S3 n W.heap.size (W.heap.size + 1) (W.heap.size + 2) (W.heap.size + 3) (((W.alloc (.cells (madeCells #[Value.int .i64 0] n) 3)).alloc (.cells (madeCells #[Value.int .i64 0] n) 3)).alloc (.cells (madeCells #[Value.int .i64 0] n) 3)) (fun _ => 0) (fun _ => 0) (fun _ => 0)
    (((W.alloc (.cells (madeCells #[Value.int .i64 0] n) 3)).alloc (.cells (madeCells #[Value.int .i64 0] n) 3)).alloc (.cells (madeCells #[Value.int .i64 0] n) 3)) := by
  have h1 := blk_new W (.cells (madeCells #[Value.int .i64 0] n) 3)
  have h2 := blk_new (W.alloc (.cells (madeCells #[Value.int .i64 0] n) 3)) (.cells (madeCells #[Value.int .i64 0] n) 3)
  have h3 := blk_new ((W.alloc (.cells (madeCells #[Value.int .i64 0] n) 3)).alloc (.cells (madeCells #[Value.int .i64 0] n) 3)) (.cells (madeCells #[Value.int .i64 0] n) 3)
  simp only [World.size_alloc] at h2 h3
  have g2 := (Below.heap_alloc ((W.alloc (.cells (madeCells #[Value.int .i64 0] n) 3)).alloc (.cells (madeCells #[Value.int .i64 0] n) 3)) (.cells (madeCells #[Value.int .i64 0] n) 3) (W.heap.size + 1) (by simp)).trans h2
  have g1 := (Below.heap_alloc ((W.alloc (.cells (madeCells #[Value.int .i64 0] n) 3)).alloc (.cells (madeCells #[Value.int .i64 0] n) 3)) (.cells (madeCells #[Value.int .i64 0] n) 3) W.heap.size (by simp; omega)).trans ((Below.heap_alloc (W.alloc (.cells (madeCells #[Value.int .i64 0] n) 3)) (.cells (madeCells #[Value.int .i64 0] n) 3) W.heap.size (by simp)).trans h1)
  exact ⟨⟨_, g1, by simp [size_madeCells], fun i hi => madeN n hi⟩, ⟨_, g2, by simp [size_madeCells], fun i hi => madeN n hi⟩, ⟨_, h3, by simp [size_madeCells], fun i hi => madeN n hi⟩, fun k _ _ _ _ => rfl, by simp, rfl, rfl, rfl, by omega, by omega, by omega, by omega, by omega, by omega⟩
end
end Go.Proofs.YtdonlmbhamcjdaaRRR.Ply
