/- tithelaw11.num: an error's number, by errors.As: where the variable errors.errorType holds its handle. No conditions beside that one. -/
import Derived.Test.YtfmchkplnglepaaDoorAsE
import Derived.Below
namespace Go.Proofs.YtfmchkplnglepaaDoor.Q
open Go.RowKit Go.Extern.Stop Go.Stop Go.Extern
/-- the variable errors.errorType reads as the program's text lays it -/
def GG (w : World) : Prop := w.cell? ⟨0, 0, none⟩ = some (.iface 115 (.agg #[.pointer (some ⟨1, 26, none⟩)]))
theorem GG.below {w w' : World} (h : GG w) (hB : Below w.heap.size w w') : GG w' := by
  unfold GG at *
  rw [hB.cell (World.block_lt_of_cell? w _ h)]; exact h
theorem num_none (w : World) : Calls Tryd.prog 9 #[.nilIface] w fun e w' => e = .returned (.int .i64 0) ∧ w' = w.alloc (.cells #[.int .i64 0] 73) := by
  go_enter Tryd.func9, Tryd.ntmps9
  go_wp2
  go_ret
  exact ⟨rfl, rfl⟩
set_option maxHeartbeats 4000000 in
theorem num_some (a : Int) (w : World) (hg : GG w) : Calls Tryd.prog 9 #[.iface 73 (.int .i64 a)] w fun e w' => e = .returned (.int .i64 a) ∧ Below w.heap.size w w' := by
  unfold GG at hg
  have hlt : 0 < w.heap.size := by
    rcases Nat.eq_zero_or_pos w.heap.size with h0 | h
    · simp [World.cell?, h0] at hg
    · exact h
  have hgA : (w.alloc (.cells #[.int .i64 0] 73)).cell? ⟨0, 0, none⟩ = some (.iface 115 (.agg #[.pointer (some ⟨1, 26, none⟩)])) := by
    rw [World.cell?_alloc_lt _ _ ⟨0, 0, none⟩ hlt]; exact hg
  have htA : (w.alloc (.cells #[.int .i64 0] 73)).cell? ⟨w.heap.size, 0, none⟩ = some (.int .i64 0) := by simp
  have hfA : (w.alloc (.cells #[.int .i64 0] 73)).frozen? ⟨w.heap.size, 0, none⟩ = false := by simp
  have hit := as_hit a ⟨w.heap.size, 0, none⟩ (.int .i64 0) (w.alloc (.cells #[.int .i64 0] 73)) hgA htA hfA
  have key : ∀ W : World, (∃ W0 : World, Below w.heap.size w W0 ∧ (W0.cell? ⟨w.heap.size, 0, none⟩).isSome = true ∧ W = W0.setCell ⟨w.heap.size, 0, none⟩ (.int .i64 a)) → W.cell? ⟨w.heap.size, 0, none⟩ = some (.int .i64 a) ∧ Below w.heap.size w W := by
    rintro W ⟨W0, h1, h2, rfl⟩
    exact ⟨World.cell?_setCell_same' _ _ _ h2, h1.setCell (Nat.le_refl _) _⟩
  have hit2 : Calls Tryd.prog 42 #[.iface 73 (.int .i64 a), .iface 77 (.pointer (some ⟨w.heap.size, 0, none⟩))] (w.alloc (.cells #[.int .i64 0] 73)) fun ev w' => ev = .returned (.bool true) ∧ w'.cell? ⟨w.heap.size, 0, none⟩ = some (.int .i64 a) ∧ Below w.heap.size w w' := by
    refine hit.mono ?_
    rintro e w' ⟨rfl, hw⟩
    refine ⟨rfl, key w' ⟨_, ?_, ?_, hw⟩⟩
    · exact (((((Below.refl w.heap.size w).alloc (Nat.le_refl _) _).alloc (by simp) _).alloc (by simp; omega) _).alloc (by simp; omega) _).alloc (by simp; omega) _
    · rw [World.cell?_alloc_lt _ _ ⟨w.heap.size, 0, none⟩ (by simp; omega), World.cell?_alloc_lt _ _ ⟨w.heap.size, 0, none⟩ (by simp; omega), World.cell?_alloc_lt _ _ ⟨w.heap.size, 0, none⟩ (by simp; omega), World.cell?_alloc_lt _ _ ⟨w.heap.size, 0, none⟩ (by simp), htA]; rfl
  clear hit key
  go_enter Tryd.func9, Tryd.ntmps9
  go_wp2_with (first | (go_at_call 42; refine hit2.mono ?_; rintro e w2 ⟨rfl, hc, hb⟩))
  go_ret
  exact ⟨rfl, hb⟩
end Go.Proofs.YtfmchkplnglepaaDoor.Q
