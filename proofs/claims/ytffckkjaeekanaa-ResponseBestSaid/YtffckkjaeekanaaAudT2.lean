/- The row of entries as cells: from the call's own row and back to it. No conditions. -/
import Derived.Test.YtffckkjaeekanaaWWords
import Derived.Test.YtffckkjaeekanaaWLast
import Derived.Laws.OwnMore
import Derived.Test.YtffckkjaeekanaaAudM
namespace Go.Proofs.Ytffckkjaeekanaa.Aud
open Go.RowKit Go.Proofs.YtffckkjaeekanaaW.PrintWords Go.Proofs.YtffckkjaeekanaaW.PrintLast
set_option linter.unusedVariables false
def updV (f : Nat → Value) (i : Nat) (v : Value) : Nat → Value := fun k => if k = i then v else f k
theorem updV_same (f : Nat → Value) (i : Nat) (v : Value) : updV f i v i = v := if_pos rfl
theorem updV_other (f : Nat → Value) {i k : Nat} (v : Value) (h : k ≠ i) : updV f i v k = f k := if_neg h
/-- a block of n cells -/
def CellsAt (W : World) (g n t : Nat) (f : Nat → Value) : Prop := ∃ c : Array Value, W.heap[g]? = some (.cells c t (0, 0)) ∧ c.size = n ∧ ∀ i, i < n → c[i]? = some (f i)
theorem CellsAt.same {W W' : World} {g n t : Nat} {f : Nat → Value} (h : CellsAt W g n t f) (e : W'.heap[g]? = W.heap[g]?) : CellsAt W' g n t f := by unfold CellsAt; rw [e]; exact h
theorem CellsAt.rd {W : World} {g n t : Nat} {f : Nat → Value} (h : CellsAt W g n t f) {i : Nat} (hi : i < n) : W.cell? ⟨g, i, none⟩ = some (f i) ∧ W.frozen? ⟨g, i, none⟩ = false := by
  obtain ⟨c, h1, h2, h3⟩ := h
  exact ⟨(blk_cell h1 i).trans (h3 i hi), blk_frozen h1 i⟩
theorem CellsAt.lt {W : World} {g n t : Nat} {f : Nat → Value} (h : CellsAt W g n t f) : g < W.heap.size := by
  obtain ⟨c, h1, _⟩ := h
  exact (Array.getElem?_eq_some_iff.1 h1).1
theorem CellsAt.set {W : World} {g n t : Nat} {f : Nat → Value} (h : CellsAt W g n t f) {i : Nat} (hi : i < n) (v : Value) : CellsAt (W.setCell ⟨g, i, none⟩ v) g n t (updV f i v) := by
  obtain ⟨c, h1, h2, h3⟩ := h
  refine ⟨_, heap_setCell_same W g i c t _ h1, by simpa using h2, fun k hk => ?_⟩
  by_cases e : k = i
  · subst e
    rw [updV_same, Array.getElem?_setIfInBounds_self_of_lt (by omega)]
  · rw [updV_other _ _ e, Array.getElem?_setIfInBounds_ne (Ne.symm e)]
    exact h3 k hk
structure S2 (na ta a nb tb b b0 : Nat) (W0 : World) (f g : Nat → Value) (W : World) : Prop where
  ra : CellsAt W a na ta f
  rb : CellsAt W b nb tb g
  off : ∀ k, k < b0 → k ≠ a → k ≠ b → W.heap[k]? = W0.heap[k]?
  size : b0 ≤ W.heap.size
  os : W.os = W0.os
  tape : W.tape = W0.tape
  output : W.output = W0.output
  ab : a < b0
  bb : b < b0
  nab : a ≠ b
variable {na ta a nb tb b b0 : Nat} {W0 W : World} {f g : Nat → Value}
theorem S2.drewN (H : S2 na ta a nb tb b b0 W0 f g W) (m : Nat) : S2 na ta a nb tb b b0 W0 f g (W.drewN m) := ⟨H.ra, H.rb, H.off, H.size, H.os, H.tape, H.output, H.ab, H.bb, H.nab⟩
/-- what is made behind them leaves them -/
theorem S2.step {N : Nat} {W' : World} (H : S2 na ta a nb tb b b0 W0 f g W) (hb : Below N W W') (hN : b0 ≤ N) : S2 na ta a nb tb b b0 W0 f g W' := by
  have h1 := H.ab
  have h2 := H.bb
  exact ⟨H.ra.same (hb.block a (by omega)), H.rb.same (hb.block b (by omega)), fun k q1 q2 q3 => (hb.block k (by omega)).trans (H.off k q1 q2 q3), Nat.le_trans H.size hb.size, hb.os.trans H.os, hb.tape.trans H.tape, hb.output.trans H.output, h1, h2, H.nab⟩
/-- what was there ahead of them stays -/
theorem S2.below {wb : World} (H : S2 na ta a nb tb b b0 W0 f g W) (hb : Below wb.heap.size wb W0) (h1 : wb.heap.size ≤ a) (h2 : wb.heap.size ≤ b) (hs : W0.heap.size ≤ b0) : Below wb.heap.size wb W := by
  have := H.ab
  exact hb.trans ⟨H.os, H.tape, H.output, by have := H.size; omega, fun k hk => H.off k (by omega) (by omega) (by omega)⟩
theorem S2.setA (H : S2 na ta a nb tb b b0 W0 f g W) {i : Nat} (hi : i < na) (v : Value) : S2 na ta a nb tb b b0 W0 (updV f i v) g (W.setCell ⟨a, i, none⟩ v) := by
  have hk : ∀ k, k ≠ a → (W.setCell ⟨a, i, none⟩ v).heap[k]? = W.heap[k]? := fun k hk => heap_setCell_other W _ k _ hk
  exact ⟨H.ra.set hi v, H.rb.same (hk _ (Ne.symm H.nab)), fun k q1 q2 q3 => (hk k q2).trans (H.off k q1 q2 q3), by simpa using H.size, H.os, H.tape, H.output, H.ab, H.bb, H.nab⟩
theorem S2.setB (H : S2 na ta a nb tb b b0 W0 f g W) {i : Nat} (hi : i < nb) (v : Value) : S2 na ta a nb tb b b0 W0 f (updV g i v) (W.setCell ⟨b, i, none⟩ v) := by
  have hk : ∀ k, k ≠ b → (W.setCell ⟨b, i, none⟩ v).heap[k]? = W.heap[k]? := fun k hk => heap_setCell_other W _ k _ hk
  exact ⟨H.ra.same (hk _ H.nab), H.rb.set hi v, fun k q1 q2 q3 => (hk k q3).trans (H.off k q1 q2 q3), by simpa using H.size, H.os, H.tape, H.output, H.ab, H.bb, H.nab⟩
end Go.Proofs.Ytffckkjaeekanaa.Aud
namespace Go.Proofs.Ytffckkjaeekanaa.B
open Go.RowKit Go.Proofs.YtffckkjaeekanaaW.PrintWords Go.Proofs.YtffckkjaeekanaaW.PrintLast Go.Proofs.YtffckkjaeekanaaW.PrintMore Go.Proofs.Ytffckkjaeekanaa.Aud
set_option linter.unusedVariables false
/-- the j-th cell of an entry -/
def cell39 (x : S39) (j : Nat) : Value := if j = 0 then .int .i64 x.f0 else if j = 1 then .int .i64 x.f1 else if j = 2 then .int .i64 x.f2 else .int .i64 x.f3
def outV (l : List S39) (ps : Nat → Int) (c : Nat) : Value := cell39 (prio (rd_T39 l ((c / 4 : Nat) : Int)) (ps (c / 4))) (c % 4)
def hasV (has : Nat → Bool) (c : Nat) : Value := .bool (has c)
theorem outV_set (l : List S39) (ps : Nat → Int) (i : Nat) (v : Int) : updV (outV l ps) (i * 4 + 3) (.int .i64 v) = outV l (setP ps i v) := by
  funext c
  by_cases h : c = i * 4 + 3
  · subst h
    rw [updV_same]
    have e1 : (i * 4 + 3) / 4 = i := by omega
    have e2 : (i * 4 + 3) % 4 = 3 := by omega
    unfold outV setP
    rw [e1, e2]
    simp [cell39, prio]
  · rw [updV_other _ _ h]
    unfold outV setP
    by_cases e : c / 4 = i
    · have : c % 4 ≠ 3 := by omega
      rw [if_pos e]
      unfold cell39
      by_cases h0 : c % 4 = 0
      · simp [h0, prio]
      · by_cases h1 : c % 4 = 1
        · simp [h1, prio]
        · have h2 : c % 4 = 2 := by omega
          simp [h2, prio]
    · rw [if_neg e]
theorem hasV_set (has : Nat → Bool) (i : Nat) : updV (hasV has) i (.bool true) = hasV (setB has i) := by
  funext c
  by_cases h : c = i
  · subst h
    rw [updV_same]
    simp [hasV, setB]
  · rw [updV_other _ _ h]
    simp [hasV, setB, h]
theorem prio_self (x : S39) : prio x x.f3 = x := rfl
theorem rdT39_get {l : List S39} {i : Nat} (h : i < l.length) : rd_T39 l (i : Int) = l[i] := by simp [rd_T39, List.getD, h]
/-- the call's own row of all entries, cell by cell -/
theorem cells_of_R {W : World} {base g : Nat} {ok : Nat → Prop} {l : List S39} (h : Kd.R k39 39 W base ok (.slice (some ⟨g, 0, none⟩) l.length l.length) l) : CellsAt W g (l.length * 4) 39 (outV l (au0 l).ps) := by
  obtain ⟨_, inner, ⟨hlen, h2⟩, hrep⟩ := h
  have hz : k39.sz = 4 := rfl
  rw [hz] at hlen
  rcases h2 with ⟨h1, _⟩ | ⟨g', cap, cur, h1, hg, hh, hnc, hcm, hcs, htk⟩
  · cases h1
  · have e1 : g = g' := by
      injection h1 with a1 a2 a3
      injection a1 with a1
      injection a1
    have e2 : l.length = cap := by injection h1
    subst e1
    subst e2
    rw [hz] at hcs htk
    refine ⟨cur, hh, hcs, fun i hi => ?_⟩
    have hj : i / 4 < l.length := by omega
    have hp : l[i / 4]? = some (rd_T39 l ((i / 4 : Nat) : Int)) := by rw [rdT39_get hj]; exact List.getElem?_eq_getElem hj
    have hM := k39_openM (hrep.2 (i / 4) _ hp)
    rw [hz] at hM
    have e3 : inner[i]? = ((inner.drop (i / 4 * 4)).take 4)[i % 4]? := by
      rw [List.getElem?_take_of_lt (by omega), List.getElem?_drop, show i / 4 * 4 + i % 4 = i by omega]
    have e4 : cur[i]? = inner[i]? := by
      rw [← htk, List.getElem?_take_of_lt hi, Array.getElem?_toList]
    rw [e4, e3, hM]
    have e5 : i % 4 = 0 ∨ i % 4 = 1 ∨ i % 4 = 2 ∨ i % 4 = 3 := by omega
    unfold outV au0
    rcases e5 with e | e | e | e <;> rw [e] <;> rfl
theorem outA_len (l : List S39) (ps : Nat → Int) : (outA l ps).length = l.length := by simp [outA]
/-- and back -/
theorem R_of_cells {W : World} {base g : Nat} {l : List S39} {ps : Nat → Int} (h : CellsAt W g (l.length * 4) 39 (outV l ps)) (hb : base ≤ g) (hm : l.length ≤ maxLen) : Kd.R k39 39 W base (fun _ => True) (.slice (some ⟨g, 0, none⟩) l.length l.length) (outA l ps) := by
  obtain ⟨c, h1, h2, h3⟩ := h
  have hz : k39.sz = 4 := rfl
  refine ⟨fun _ _ => trivial, c.toList, ⟨by rw [outA_len, hz]; simpa using h2, .inr ⟨g, l.length, c, by rw [outA_len], hb, h1, by rw [outA_len]; exact Nat.le_refl _, hm, by rw [hz]; exact h2, by rw [outA_len, hz, List.take_of_length_le (by simp [h2])]⟩⟩, by rw [outA_len, hz]; simpa using h2, fun j p hp => ?_⟩
  have hj : j < l.length := by
    have := (List.getElem?_eq_some_iff.1 hp).1
    rwa [outA_len] at this
  have hp2 : p = prio (rd_T39 l (j : Int)) (ps j) := by
    have := (List.getElem?_eq_some_iff.1 hp).2
    simp [outA] at this
    exact this.symm
  subst hp2
  rw [hz]
  have key : ∀ i, i < 4 → c[j * 4 + i]? = some (cell39 (prio (rd_T39 l (j : Int)) (ps j)) i) := by
    intro i hi
    rw [h3 (j * 4 + i) (by omega)]
    unfold outV
    rw [show (j * 4 + i) / 4 = j by omega, show (j * 4 + i) % 4 = i by omega]
  have : (c.toList.drop (j * 4)).take 4 = [.int .i64 (prio (rd_T39 l (j : Int)) (ps j)).f0, .int .i64 (prio (rd_T39 l (j : Int)) (ps j)).f1, .int .i64 (prio (rd_T39 l (j : Int)) (ps j)).f2, .int .i64 (prio (rd_T39 l (j : Int)) (ps j)).f3] := by
    apply List.ext_getElem?
    intro i
    by_cases hi : i < 4
    · rw [List.getElem?_take_of_lt hi, List.getElem?_drop, Array.getElem?_toList, key i hi]
      have e5 : i = 0 ∨ i = 1 ∨ i = 2 ∨ i = 3 := by omega
      rcases e5 with e | e | e | e <;> subst e <;> rfl
    · rw [List.getElem?_eq_none (by rw [List.length_take]; omega), List.getElem?_eq_none (by simp; omega)]
  rw [this]
  exact k39_mkM _ _ _ _
end Go.Proofs.Ytffckkjaeekanaa.B
