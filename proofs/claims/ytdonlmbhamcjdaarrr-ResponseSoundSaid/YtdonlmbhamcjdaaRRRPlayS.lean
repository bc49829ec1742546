/- A row of records, each with a queue of numbers and a number, beside a row of numbers: what a world is like that holds them, and how it goes on. No conditions. -/
import Derived.Test.YtdonlmbhamcjdaaRRRWWords
import Derived.Test.YtdonlmbhamcjdaaRRRWLast
import Derived.ArgAppend
import Derived.Laws.Rows
namespace Go.Proofs.YtdonlmbhamcjdaaRRR.Ply
open Go.RowKit Go.Proofs.YtdonlmbhamcjdaaRRRW.PrintWords Go.Proofs.YtdonlmbhamcjdaaRRRW.PrintLast
set_option linter.unusedVariables false
def upd {β : Type} (f : Nat → β) (i : Nat) (x : β) : Nat → β := fun k => if k = i then x else f k
theorem upd_same {β : Type} (f : Nat → β) (i : Nat) (x : β) : upd f i x i = x := if_pos rfl
theorem upd_other {β : Type} (f : Nat → β) {i k : Nat} (x : β) (h : k ≠ i) : upd f i x k = f k := if_neg h
/-- the value of a queue: a slice of its own block, from some place on -/
def WQ (W : World) (b0 : Nat) (v : Value) (q : List Int) : Prop :=
  (v = .slice none 0 0 ∧ q = []) ∨ ∃ b o c bc, v = .slice (some ⟨b, o, none⟩) q.length c ∧ b0 ≤ b ∧ W.heap[b]? = some (.cells bc 3 (0, 0)) ∧ q.length ≤ c ∧ o + c ≤ bc.size ∧ ∀ k (h : k < q.length), bc[o + k]? = some (.int .i64 q[k])
theorem WQ.same {W W' : World} {b0 : Nat} {v : Value} {q : List Int} (h : WQ W b0 v q) (hk : ∀ b, v.ownBlock = some b → W'.heap[b]? = W.heap[b]?) : WQ W' b0 v q := by
  rcases h with h | ⟨b, o, c, bc, rfl, h1, h2, h3, h4, h5⟩
  · exact .inl h
  · exact .inr ⟨b, o, c, bc, rfl, h1, by rw [hk b rfl]; exact h2, h3, h4, h5⟩
theorem lt_of_heap {W : World} {b : Nat} {o : Obj} (h : W.heap[b]? = some o) : b < W.heap.size := (Array.getElem?_eq_some_iff.1 h).1
theorem WQ.blk {W : World} {b0 : Nat} {v : Value} {q : List Int} (h : WQ W b0 v q) {b : Nat} (hb : v.ownBlock = some b) : b0 ≤ b ∧ b < W.heap.size := by
  rcases h with ⟨rfl, _⟩ | ⟨b', o, c, bc, rfl, h1, h2, h3, h4, h5⟩
  · cases hb
  · have : b' = b := by simpa [Value.ownBlock] using hb
    subst this
    exact ⟨h1, lt_of_heap h2⟩
structure PS (n O J b0 : Nat) (W0 : World) (vs : Nat → Value) (qs : Nat → List Int) (ls out : Nat → Int) (W : World) : Prop where
  o : ∃ co : Array Value, W.heap[O]? = some (.cells co 3 (0, 0)) ∧ co.size = n ∧ ∀ i, i < n → co[i]? = some (.int .i64 (out i))
  j : ∃ cj : Array Value, W.heap[J]? = some (.cells cj 94 (0, 0)) ∧ n * 2 ≤ cj.size ∧ ∀ i, i < n → cj[i * 2]? = some (vs i) ∧ cj[i * 2 + 1]? = some (.int .i64 (ls i))
  q : ∀ i, i < n → WQ W b0 (vs i) (qs i)
  sep : ∀ i k, i < n → k < n → i ≠ k → ∀ b, (vs i).ownBlock = some b → (vs k).ownBlock ≠ some b
  off : ∀ k, k < b0 → k ≠ O → k ≠ J → W.heap[k]? = W0.heap[k]?
  size : b0 ≤ W.heap.size
  os : W.os = W0.os
  tape : W.tape = W0.tape
  output : W.output = W0.output
  ob : O < b0
  jb : J < b0
  oj : O ≠ J
section
variable {n O J b0 : Nat} {W0 W : World} {vs : Nat → Value} {qs : Nat → List Int} {ls out : Nat → Int}
theorem PS.drewN (h : PS n O J b0 W0 vs qs ls out W) (m : Nat) : PS n O J b0 W0 vs qs ls out (W.drewN m) := ⟨h.o, h.j, h.q, h.sep, h.off, h.size, h.os, h.tape, h.output, h.ob, h.jb, h.oj⟩
theorem PS.drew (h : PS n O J b0 W0 vs qs ls out W) : PS n O J b0 W0 vs qs ls out W.drew := h.drewN 1
/-- old blocks stay -/
theorem PS.grown {W' : World} (h : PS n O J b0 W0 vs qs ls out W) (g : W.grownBy W' none) : PS n O J b0 W0 vs qs ls out W' := by
  have hk : ∀ k, k < W.heap.size → W'.heap[k]? = W.heap[k]? := fun k hk => g.block k hk (by simp)
  have hs := h.size
  have ho := h.ob
  have hj := h.jb
  exact ⟨by rw [hk O (by omega)]; exact h.o, by rw [hk J (by omega)]; exact h.j, fun i hi => (h.q i hi).same fun b hb => hk b ((h.q i hi).blk hb).2, h.sep,
    fun k h1 h2 h3 => (hk k (by omega)).trans (h.off k h1 h2 h3), Nat.le_trans hs g.size, g.os.trans h.os, g.tape.trans h.tape, g.output.trans h.output, ho, hj, h.oj⟩
theorem PS.alloc (h : PS n O J b0 W0 vs qs ls out W) (o : Obj) : PS n O J b0 W0 vs qs ls out (W.alloc o) := h.grown (World.grownBy_alloc W o none)
theorem cell_of {W : World} {g : Nat} {c : Array Value} {t : TypeId} (h : W.heap[g]? = some (.cells c t (0, 0))) (i : Nat) : W.cell? ⟨g, i, none⟩ = c[i]? := by simp [World.cell?, h]
theorem frozen_of {W : World} {g : Nat} {c : Array Value} {t : TypeId} (h : W.heap[g]? = some (.cells c t (0, 0))) (i : Nat) : W.frozen? ⟨g, i, none⟩ = false := by simp [World.frozen?, h]
theorem PS.rdO (h : PS n O J b0 W0 vs qs ls out W) {i : Nat} (hi : i < n) : W.cell? ⟨O, i, none⟩ = some (.int .i64 (out i)) ∧ W.frozen? ⟨O, i, none⟩ = false := by
  obtain ⟨c, h1, h2, h3⟩ := h.o
  exact ⟨(cell_of h1 i).trans (h3 i hi), frozen_of h1 i⟩
theorem PS.rdQ (h : PS n O J b0 W0 vs qs ls out W) {i : Nat} (hi : i < n) : W.cell? ⟨J, i * 2, none⟩ = some (vs i) ∧ W.frozen? ⟨J, i * 2, none⟩ = false := by
  obtain ⟨c, h1, h2, h3⟩ := h.j
  exact ⟨(cell_of h1 _).trans (h3 i hi).1, frozen_of h1 _⟩
theorem PS.rdL (h : PS n O J b0 W0 vs qs ls out W) {i : Nat} (hi : i < n) : W.cell? ⟨J, i * 2 + 1, none⟩ = some (.int .i64 (ls i)) ∧ W.frozen? ⟨J, i * 2 + 1, none⟩ = false := by
  obtain ⟨c, h1, h2, h3⟩ := h.j
  exact ⟨(cell_of h1 _).trans (h3 i hi).2, frozen_of h1 _⟩
theorem PS.setO (h : PS n O J b0 W0 vs qs ls out W) {i : Nat} (hi : i < n) (x : Int) : PS n O J b0 W0 vs qs ls (upd out i x) (W.setCell ⟨O, i, none⟩ (.int .i64 x)) := by
  obtain ⟨c, h1, h2, h3⟩ := h.o
  have hk : ∀ k, k ≠ O → (W.setCell ⟨O, i, none⟩ (.int .i64 x)).heap[k]? = W.heap[k]? := fun k hk => heap_setCell_other W _ k _ hk
  have ho := h.ob
  refine ⟨⟨_, heap_setCell_same W O i c 3 _ h1, by simpa using h2, fun k hkn => ?_⟩, by rw [hk J (Ne.symm h.oj)]; exact h.j, fun k hkn => (h.q k hkn).same fun b hb => hk b (by have := (h.q k hkn).blk hb; omega), h.sep,
    fun k q1 q2 q3 => (hk k q2).trans (h.off k q1 q2 q3), by simpa using h.size, h.os, h.tape, h.output, h.ob, h.jb, h.oj⟩
  by_cases e : k = i
  · subst e
    rw [upd_same, Array.getElem?_setIfInBounds_self_of_lt (by omega)]
  · rw [upd_other _ _ e, Array.getElem?_setIfInBounds_ne (Ne.symm e)]
    exact h3 k hkn
theorem PS.setL (h : PS n O J b0 W0 vs qs ls out W) {i : Nat} (hi : i < n) (x : Int) : PS n O J b0 W0 vs qs (upd ls i x) out (W.setCell ⟨J, i * 2 + 1, none⟩ (.int .i64 x)) := by
  obtain ⟨c, h1, h2, h3⟩ := h.j
  have hk : ∀ k, k ≠ J → (W.setCell ⟨J, i * 2 + 1, none⟩ (.int .i64 x)).heap[k]? = W.heap[k]? := fun k hk => heap_setCell_other W _ k _ hk
  have hj := h.jb
  refine ⟨by rw [hk O h.oj]; exact h.o, ⟨_, heap_setCell_same W J (i * 2 + 1) c 94 _ h1, by simpa using h2, fun k hkn => ⟨?_, ?_⟩⟩, fun k hkn => (h.q k hkn).same fun b hb => hk b (by have := (h.q k hkn).blk hb; omega), h.sep,
    fun k q1 q2 q3 => (hk k q3).trans (h.off k q1 q2 q3), by simpa using h.size, h.os, h.tape, h.output, h.ob, h.jb, h.oj⟩
  · rw [Array.getElem?_setIfInBounds_ne (by omega)]
    exact (h3 k hkn).1
  · by_cases e : k = i
    · subst e
      rw [upd_same, Array.getElem?_setIfInBounds_self_of_lt (by omega)]
    · rw [upd_other _ _ e, Array.getElem?_setIfInBounds_ne (by omega)]
      exact (h3 k hkn).2
/-- a queue's value is turned; its block is its own -/
theorem PS.setQ (h : PS n O J b0 W0 vs qs ls out W) {i : Nat} (hi : i < n) {v : Value} {q : List Int} (hq : WQ W b0 v q) (hs : ∀ k, k < n → k ≠ i → ∀ b, v.ownBlock = some b → (vs k).ownBlock ≠ some b) :
    PS n O J b0 W0 (upd vs i v) (upd qs i q) ls out (W.setCell ⟨J, i * 2, none⟩ v) := by
  obtain ⟨c, h1, h2, h3⟩ := h.j
  have hk : ∀ k, k ≠ J → (W.setCell ⟨J, i * 2, none⟩ v).heap[k]? = W.heap[k]? := fun k hk => heap_setCell_other W _ k _ hk
  have hj := h.jb
  refine ⟨by rw [hk O h.oj]; exact h.o, ⟨_, heap_setCell_same W J (i * 2) c 94 _ h1, by simpa using h2, fun k hkn => ⟨?_, ?_⟩⟩, fun k hkn => ?_, fun a b ha hb hab x hx => ?_,
    fun k q1 q2 q3 => (hk k q3).trans (h.off k q1 q2 q3), by simpa using h.size, h.os, h.tape, h.output, h.ob, h.jb, h.oj⟩
  · by_cases e : k = i
    · subst e
      rw [upd_same, Array.getElem?_setIfInBounds_self_of_lt (by omega)]
    · rw [upd_other _ _ e, Array.getElem?_setIfInBounds_ne (by omega)]
      exact (h3 k hkn).1
  · rw [Array.getElem?_setIfInBounds_ne (by omega)]
    exact (h3 k hkn).2
  · by_cases e : k = i
    · subst e
      rw [upd_same, upd_same]
      exact hq.same fun b hb => hk b (by have := hq.blk hb; omega)
    · rw [upd_other _ _ e, upd_other _ _ e]
      exact (h.q k hkn).same fun b hb => hk b (by have := (h.q k hkn).blk hb; omega)
  · by_cases e : a = i
    · subst e
      rw [upd_same] at hx
      rw [upd_other _ _ (Ne.symm hab)]
      exact hs b hb (Ne.symm hab) x hx
    · rw [upd_other _ _ e] at hx
      by_cases e2 : b = i
      · subst e2
        rw [upd_same]
        intro hv
        exact hs a ha e x hv hx
      · rw [upd_other _ _ e2]
        exact h.sep a b ha hb hab x hx
/-- the first one goes -/
theorem PS.pop (h : PS n O J b0 W0 vs qs ls out W) {i : Nat} (hi : i < n) {a : Int} {q : List Int} (hq : qs i = a :: q) :
    ∃ b o c, vs i = .slice (some ⟨b, o, none⟩) (q.length + 1) c ∧ q.length + 1 ≤ c ∧ W.cell? ⟨b, o, none⟩ = some (.int .i64 a) ∧
      ∀ v, (v = .slice (some ⟨b, o + 1, none⟩) q.length (c - 1) ∨ (c = 1 ∧ v = .slice (some ⟨b, o, none⟩) q.length (c - 1))) → PS n O J b0 W0 (upd vs i v) (upd qs i q) ls out (W.setCell ⟨J, i * 2, none⟩ v) := by
  have hw := h.q i hi
  rw [hq] at hw
  rcases hw with ⟨_, h0⟩ | ⟨b, o, c, bc, hv, h1, h2, h3, h4, h5⟩
  · cases h0
  · have h3' : q.length + 1 ≤ c := by simpa using h3
    refine ⟨b, o, c, by simpa using hv, h3', (cell_of h2 o).trans (by have := h5 0 (by simp); rw [Nat.add_zero] at this; exact this), ?_⟩
    intro v hvv
    have hsep : ∀ k, k < n → k ≠ i → ∀ x, v.ownBlock = some x → (vs k).ownBlock ≠ some x := by
      intro k hk hki x hx
      refine h.sep i k hi hk (Ne.symm hki) x ?_
      rw [hv]
      rcases hvv with rfl | ⟨_, rfl⟩
      · simpa [Value.ownBlock] using hx
      · simpa [Value.ownBlock] using hx
    refine h.setQ hi ?_ hsep
    rcases hvv with rfl | ⟨rfl, rfl⟩
    · refine .inr ⟨b, o + 1, c - 1, bc, rfl, h1, h2, by omega, by omega, fun k hk => ?_⟩
      have := h5 (k + 1) (by simpa using hk)
      rw [show o + 1 + k = o + (k + 1) by omega, this]
      simp
    · have hq0 : q.length = 0 := by omega
      refine .inr ⟨b, o, 0, bc, rfl, h1, h2, by omega, by omega, fun k hk => ?_⟩
      omega
theorem PS.pop' (h : PS n O J b0 W0 vs qs ls out W) {i : Nat} (hi : i < n) {a : Int} {q : List Int} (hq : qs i = a :: q) {b o c : Nat} (hv : vs i = .slice (some ⟨b, o, none⟩) (q.length + 1) c) :
    W.cell? ⟨b, o, none⟩ = some (.int .i64 a) ∧ ∀ v, (v = .slice (some ⟨b, o + 1, none⟩) q.length (c - 1) ∨ (c = 1 ∧ v = .slice (some ⟨b, o, none⟩) q.length (c - 1))) → PS n O J b0 W0 (upd vs i v) (upd qs i q) ls out (W.setCell ⟨J, i * 2, none⟩ v) := by
  obtain ⟨b', o', c', hv', _, h1, h2⟩ := h.pop hi hq
  rw [hv] at hv'
  injection hv' with e1 e2 e3
  injection e1 with e1
  injection e1 with e1 e4 e5
  subst e1 e3 e4
  exact ⟨h1, h2⟩
/-- one more, where there is room -/
theorem PS.room (h : PS n O J b0 W0 vs qs ls out W) {i : Nat} (hi : i < n) {b o c : Nat} (hv : vs i = .slice (some ⟨b, o, none⟩) (qs i).length c) (hr : (qs i).length + 1 ≤ c) (x : Int) :
    (W.cell? ⟨b, o + (qs i).length, none⟩).isSome = true ∧ W.frozen? ⟨b, o + (qs i).length, none⟩ = false ∧
      PS n O J b0 W0 (upd vs i (.slice (some ⟨b, o, none⟩) ((qs i).length + 1) c)) (upd qs i (qs i ++ [x])) ls out ((W.setCell ⟨b, o + (qs i).length, none⟩ (.int .i64 x)).setCell ⟨J, i * 2, none⟩ (.slice (some ⟨b, o, none⟩) ((qs i).length + 1) c)) := by
  have hw := h.q i hi
  rw [hv] at hw
  rcases hw with ⟨h0, _⟩ | ⟨b', o', c', bc, hv', h1, h2, h3, h4, h5⟩
  · cases h0
  · injection hv' with e1 e2 e3
    injection e1 with e1
    injection e1 with e1 e4 e5
    subst e1 e3 e4
    have hob := h.ob
    have hjb := h.jb
    refine ⟨by rw [cell_of h2]; simp; omega, frozen_of h2 _, ?_⟩
    have hk : ∀ k, k ≠ b → (W.setCell ⟨b, o + (qs i).length, none⟩ (.int .i64 x)).heap[k]? = W.heap[k]? := fun k hk => heap_setCell_other W _ k _ hk
    have hown : (vs i).ownBlock = some b := by rw [hv]; rfl
    have h' : PS n O J b0 W0 vs qs ls out (W.setCell ⟨b, o + (qs i).length, none⟩ (.int .i64 x)) := by
      refine ⟨by rw [hk O (by omega)]; exact h.o, by rw [hk J (by omega)]; exact h.j, fun k hkn => ?_, h.sep, fun k q1 q2 q3 => (hk k (by omega)).trans (h.off k q1 q2 q3), by simpa using h.size, h.os, h.tape, h.output, h.ob, h.jb, h.oj⟩
      by_cases e : k = i
      · subst e
        rw [hv]
        refine .inr ⟨b, o, c, _, rfl, h1, heap_setCell_same W b _ bc 3 _ h2, h3, by simpa using h4, fun m hm => ?_⟩
        rw [Array.getElem?_setIfInBounds_ne (by omega)]
        exact h5 m hm
      · exact (h.q k hkn).same fun z hz => hk z (fun e2 => h.sep i k hi hkn (Ne.symm e) b hown (e2 ▸ hz))
    refine h'.setQ hi ?_ ?_
    · have hl : (qs i ++ [x]).length = (qs i).length + 1 := by simp
      refine .inr ⟨b, o, c, _, by rw [hl], h1, heap_setCell_same W b _ bc 3 _ h2, by rw [hl]; exact hr, by simpa using h4, fun m hm => ?_⟩
      rw [hl] at hm
      by_cases e : m = (qs i).length
      · subst e
        rw [Array.getElem?_setIfInBounds_self_of_lt (by omega)]
        simp
      · rw [Array.getElem?_setIfInBounds_ne (by omega), h5 m (by omega)]
        rw [List.getElem_append_left (by omega)]
    · intro k hkn hki z hz
      have : b = z := by simpa [Value.ownBlock] using hz
      subst this
      exact h.sep i k hi hkn (Ne.symm hki) b hown
/-- one more, in a new block -/
theorem PS.grow (h : PS n O J b0 W0 vs qs ls out W) {i : Nat} (hi : i < n) {W' : World} {v : Value} (g : W.grownBy W' none) (x : Int) (hr : W'.ownsRow W.heap.size 3 1 v ((qs i).length + 1) ((qs i).map (fun z => Value.int .i64 z) ++ [.int .i64 x])) :
    PS n O J b0 W0 (upd vs i v) (upd qs i (qs i ++ [x])) ls out (W'.setCell ⟨J, i * 2, none⟩ v) := by
  obtain ⟨hlen, h0 | ⟨gg, cap, cur, rfl, hg, hh, hnc, hcm, hcs, htk⟩⟩ := hr
  · omega
  · refine (h.grown g).setQ hi ?_ ?_
    · have hl : (qs i ++ [x]).length = (qs i).length + 1 := by simp
      refine .inr ⟨gg, 0, cap, cur, by rw [hl], Nat.le_trans h.size hg, hh, by rw [hl]; exact hnc, by omega, fun k hk => ?_⟩
      have e1 : (cur.toList.take (((qs i).length + 1) * 1))[k]? = some (.int .i64 (qs i ++ [x])[k]) := by
        rw [htk, show (qs i).map (fun z => Value.int .i64 z) ++ [.int .i64 x] = (qs i ++ [x]).map (fun z => Value.int .i64 z) by simp, List.getElem?_map, List.getElem?_eq_getElem hk]
        rfl
      rw [List.getElem?_take, if_pos (by omega)] at e1
      rw [Nat.zero_add]
      simpa using e1
    · intro k hkn hki z hz
      have : gg = z := by simpa [Value.ownBlock] using hz
      subst this
      intro hb
      have := ((h.q k hkn).blk hb).2
      omega
theorem WQ.form {W : World} {b0 : Nat} {v : Value} {q : List Int} (h : WQ W b0 v q) : ∃ A c, v = .slice A q.length c := by
  rcases h with ⟨rfl, rfl⟩ | ⟨b, o, c, bc, rfl, _⟩
  · exact ⟨none, 0, rfl⟩
  · exact ⟨_, _, rfl⟩
/-- append(queue, x), behind 'at_builtin': the world is that with the variadic's box -/
theorem PS.append {P : Program} {ops : Array Oper} {rest : List Oper} {op : Oper} {a : Act} {Q : Exit → Act → World → Prop} (h : PS n O J b0 W0 vs qs ls out W) {i : Nat} (hi : i < n) (hl : (qs i).length ≤ 100000) (x : Int)
    (ht : P.underlying 23 = some (.slice 3)) (hinfo : (P.info? 3).map (fun i => (i.zero, i.size, i.bytes)) = some (some (.int .i64 0), 1, 8))
    (hgd : op.guard = none) (s z : Operand) (ho : op.op = .call { callee := .builtin .append, args := #[s, z], argTypes := #[23, 23] }) (hs : a.eval s = vs i) (hz : a.eval z = .slice (some ⟨W.heap.size, 0, none⟩) 1 1)
    (hK : ∀ v1 w1, PS n O J b0 W0 (upd vs i v1) (upd qs i (qs i ++ [x])) ls out (w1.setCell ⟨J, i * 2, none⟩ v1) → (∃ u, w1.cell? ⟨J, i * 2, none⟩ = some u) → w1.frozen? ⟨J, i * 2, none⟩ = false → wpList P ops Q rest (a.put op.dst v1) w1) :
    wpList P ops Q (op :: rest) a (W.alloc (.cells #[.int .i64 x] 3)) := by
  obtain ⟨i0, hi0, hzz⟩ := Option.map_eq_some_iff.1 hinfo
  simp only [Prod.mk.injEq] at hzz
  obtain ⟨hz0, hz1, hz2⟩ := hzz
  have h' := h.alloc (.cells #[.int .i64 x] 3)
  have hlit : (W.alloc (.cells #[.int .i64 x] 3)).cell? ⟨W.heap.size, 0, none⟩ = some (.int .i64 x) := by
    rw [cell_of (blk_new W (.cells #[.int .i64 x] 3))]; rfl
  have hc : ∀ j u, [Value.int .i64 x][j]? = some u → (W.alloc (.cells #[.int .i64 x] 3)).cell? ((⟨W.heap.size, 0, none⟩ : Addr).add j) = some u := by
    intro j u hj
    cases j with
    | zero => simp only [List.getElem?_cons_zero, Option.some.injEq] at hj; subst hj; exact hlit
    | succ j => simp at hj
  have h1c : ∀ u ∈ [Value.int .i64 x], u.oneCell' = true := by
    intro u hu
    rw [List.mem_singleton.1 hu]; rfl
  have grow : ∀ v' w', w'.ownsRow (W.alloc (.cells #[.int .i64 x] 3)).heap.size 3 1 v' ((qs i).length + 1) ((qs i).map (fun z => Value.int .i64 z) ++ [Value.int .i64 x]) → (W.alloc (.cells #[.int .i64 x] 3)).grownBy w' none → wpList P ops Q rest (a.put op.dst v') w' := by
    intro v' w' hr hg
    have hh := h'.grown hg
    exact hK v' w' (h'.grow hi hg x hr) ⟨_, (hh.rdQ hi).1⟩ (hh.rdQ hi).2
  rcases h'.q i hi with ⟨hv, hq⟩ | ⟨b, o, c, bc, hv, h1, h2, h3, h4, h5⟩
  · have hr := wpList_append_grows (P := P) (W.alloc (.cells #[.int .i64 x] 3)) (ops := ops) (rest := rest) (o := op) (a := a) (Q := Q) hgd s z 23 ho 3 i0 (.int .i64 0) 1 8 ht hi0 hz0 hz1 hz2 rfl (by decide) none 0 0 [] (by rw [hs, hv]) (fun _ => ⟨rfl, rfl⟩) rfl (fun b hb => by cases hb) ⟨W.heap.size, 0, none⟩ 1 1 [.int .i64 x] hz rfl hc h1c (by omega) (by decide) (by decide)
    refine hr fun v' w' r1 r2 => grow v' w' ?_ r2
    rw [hq]
    simpa using r1
  · refine wpList_append_arg (P := P) (W.alloc (.cells #[.int .i64 x] 3)) hgd s z 23 ho 3 i0 (.int .i64 0) 1 8 ht hi0 hz0 hz1 hz2 rfl (by decide) b o (qs i).length c ((qs i).map (fun z => Value.int .i64 z)) (by rw [hs, hv]) (by simp) ?_ ⟨W.heap.size, 0, none⟩ 1 1 [.int .i64 x] hz rfl hc h1c ?_ (by simp only [maxLen]; omega) (by omega) ?_ (fun _ => grow)
    · intro j u hj
      rw [cell_of h2]
      rw [List.getElem?_map] at hj
      obtain ⟨y, hy, rfl⟩ := Option.map_eq_some_iff.1 hj
      obtain ⟨hjl, rfl⟩ := List.getElem?_eq_some_iff.1 hy
      exact h5 j hjl
    · intro hroom j hj
      have := h'.room hi hv hroom x
      have hj0 : j = 0 := by simpa using hj
      subst hj0
      rw [Nat.mul_one, Nat.add_zero]
      exact ⟨this.1, this.2.1⟩
    · intro hroom
      obtain ⟨r1, r2, r3⟩ := h'.room hi hv hroom x
      have e : (W.alloc (.cells #[.int .i64 x] 3)).setCells b (o + (qs i).length * 1) [.int .i64 x] = (W.alloc (.cells #[.int .i64 x] 3)).setCell ⟨b, o + (qs i).length, none⟩ (.int .i64 x) := by
        rw [Nat.mul_one]; rfl
      rw [e]
      have hbJ : (⟨J, i * 2, none⟩ : Addr) ≠ ⟨b, o + (qs i).length, none⟩ := by
        intro e2
        injection e2 with e3
        have := h.jb
        omega
      refine hK _ _ r3 ?_ ?_
      · exact ⟨_, (World.cell?_setCell_other _ _ _ _ (Ne.symm hbJ)).trans (h'.rdQ hi).1⟩
      · rw [World.frozen?_setCell]; exact (h'.rdQ hi).2
end
end Go.Proofs.YtdonlmbhamcjdaaRRR.Ply
