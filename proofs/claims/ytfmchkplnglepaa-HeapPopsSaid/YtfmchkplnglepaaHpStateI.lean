/- Proved here: what a heap is to the machine (a struct of a row and a map that belong to it), and what swap does to it. No conditions. -/
import Derived.Test.YtfmchkplnglepaaHpMap
import Derived.Test.YtfmchkplnglepaaRx4
import Derived.BigRegion
import Derived.BigQuiet
import Derived.Deep.RegionHeld3
import Derived.Maps.AppendAt
namespace Go.Proofs.Ytfmchkplnglepaa.HpI
open Go.RowKit Go.Proofs.YtfmchkplnglepaaW.PrintWords Go.Proofs.YtfmchkplnglepaaW.PrintLast Go.Proofs.YtfmchkplnglepaaW.PrintMore
open Go Go.Maps Go.Proofs.Ytfmchkplnglepaa.Hp
set_option linter.unusedVariables false
set_option linter.unusedSimpArgs false
abbrev En := Int × Int
def z : En := (0, 0)
abbrev dE : Kd En := Kd.pair (Kd.int .i64) (Kd.int .i64)
def kv (x : Int) : Value := .int .i64 x
theorem dE_open {w : World} {base : Nat} {ok : Nat → Prop} {x : En} {cs : List Value} (h : dE.M w base ok x cs) : cs = [.int .i64 x.1, kv x.2] := by
  obtain ⟨a, b, rfl, h1, h2⟩ := h
  obtain rfl : a = _ := h1
  obtain rfl : b = _ := h2
  rfl
theorem dE_mk (w : World) (base : Nat) (ok : Nat → Prop) (x : En) : dE.M w base ok x [.int .i64 x.1, kv x.2] := ⟨[.int .i64 x.1], [kv x.2], rfl, rfl, rfl⟩
/-- blocks that P does not let in are kept -/
def Off (P : Nat → Prop) (W W' : World) : Prop := W'.os = W.os ∧ W'.tape = W.tape ∧ W'.output = W.output ∧ W.heap.size ≤ W'.heap.size ∧ ∀ k, k < W.heap.size → ¬ P k → W'.heap[k]? = W.heap[k]?
theorem Off.refl (P : Nat → Prop) (W : World) : Off P W W := ⟨rfl, rfl, rfl, Nat.le_refl _, fun _ _ _ => rfl⟩
theorem Off.trans {P : Nat → Prop} {W W1 W2 : World} (h : Off P W W1) (k : Off P W1 W2) : Off P W W2 :=
  ⟨k.1.trans h.1, k.2.1.trans h.2.1, k.2.2.1.trans h.2.2.1, Nat.le_trans h.2.2.2.1 k.2.2.2.1, fun i hi hn => (k.2.2.2.2 i (Nat.lt_of_lt_of_le hi h.2.2.2.1) hn).trans (h.2.2.2.2 i hi hn)⟩
theorem Off.drewN {P : Nat → Prop} {W W1 : World} (h : Off P W W1) (n : Nat) : Off P W (W1.drewN n) := h
theorem Off.drew {P : Nat → Prop} {W W1 : World} (h : Off P W W1) : Off P W W1.drew := h
theorem Off.grown {P : Nat → Prop} {W W1 W2 : World} {row : Option Nat} (h : Off P W W1) (hg : W1.grownBy W2 row) (hr : ∀ k, row = some k → P k) : Off P W W2 :=
  h.trans ⟨hg.os, hg.tape, hg.output, hg.size, fun k hk hn => hg.block k hk (fun e => hn (hr k e.symm))⟩
theorem Off.alloc {P : Nat → Prop} {W W1 : World} (h : Off P W W1) (o : Obj) : Off P W (W1.alloc o) := h.grown (World.grownBy_alloc _ _ none) (by simp)
/-- a heap at block g: its row, its map, and what they hold; all blocks in P -/
def HP (P : Nat → Prop) (g : Nat) (es : List En) (W : World) : Prop :=
  ∃ (A : Option Addr) (c bm : Nat) (D : DataW Unit), W.heap[g]? = some (.cells #[.slice A es.length c, .map (some bm)] 66 (0, 0)) ∧ P g ∧ P bm ∧ bm ≠ g ∧
    Kd.R dE 68 W 0 (fun k => P k ∧ k ≠ g ∧ k ≠ bm) (.slice A es.length c) es ∧ W.ownsMap Try.prog 3 (plainElem Try.prog 3) bm (Maps.size D) D ∧ MapOk (es.map (·.1)) D ∧ es.length ≤ 1000000 ∧
    ∀ e ∈ es, -9223372036854775808 ≤ e.1 ∧ e.1 ≤ 9223372036854775807
theorem HP.drewN {P : Nat → Prop} {g : Nat} {es : List En} {W : World} (h : HP P g es W) (n : Nat) : HP P g es (W.drewN n) := by
  obtain ⟨A, c, bm, D, h1, h2, h3, h4, h5, h6, h7⟩ := h
  exact ⟨A, c, bm, D, h1, h2, h3, h4, Kd.R_drewN h5 n, h6, h7⟩
theorem HP.len {P : Nat → Prop} {g : Nat} {es : List En} {W : World} (h : HP P g es W) : es.length ≤ 1000000 := by
  obtain ⟨A, c, bm, D, h1, h2, h3, h4, h5, h6, h7, h8, h9⟩ := h
  exact h8
theorem HP.wf {P : Nat → Prop} {g : Nat} {es : List En} {W : World} (h : HP P g es W) : ∀ e ∈ es, -9223372036854775808 ≤ e.1 ∧ e.1 ≤ 9223372036854775807 := by
  obtain ⟨A, c, bm, D, h1, h2, h3, h4, h5, h6, h7, h8, h9⟩ := h
  exact h9
/-- what lies off P may turn -/
theorem HP.off {P : Nat → Prop} {g : Nat} {es : List En} {W W1 : World} (h : HP P g es W) (hk : ∀ k, k < W.heap.size → P k → W1.heap[k]? = W.heap[k]?) : HP P g es W1 := by
  obtain ⟨A, c, bm, D, h1, h2, h3, h4, h5, h6, h7⟩ := h
  have hg : g < W.heap.size := (Array.getElem?_eq_some_iff.1 h1).1
  obtain ⟨xs, clock, hb, q⟩ := h6
  exact ⟨A, c, bm, D, (hk g hg h2).trans h1, h2, h3, h4, Kd.R_step h5 (fun k hp hl => hk k hl hp.1), ⟨xs, clock, (hk bm (Array.getElem?_eq_some_iff.1 hb).1 h3).trans hb, q⟩, h7⟩
theorem wf_int {a : Int} (h0 : -9223372036854775808 ≤ a) (h1 : a ≤ 9223372036854775807) : (Lit.int .i64 a).wf = true := WalkArith.wf_i64 ⟨h0, h1⟩
theorem law3 : Keyed Try.prog 3 := int_keyed Try.underlying3
theorem zero3 (w : World) : (zeroValue 3).run Try.prog w = .ok (.int .i64 0) w := by kernel_rfl
theorem key3 {a : Int} (h0 : -9223372036854775808 ≤ a) (h1 : a ≤ 9223372036854775807) : keyOf Try.prog 3 (.int .i64 a) = some (lk a) := keyOf_int_mk Try.underlying3 (wf_int h0 h1)
theorem elem3 {a : Int} (h0 : -9223372036854775808 ≤ a) (h1 : a ≤ 9223372036854775807) : plainElem (H := Unit) Try.prog 3 (.int .i64 a) = some (.lit (.int .i64 a), []) := plainElem_int Try.underlying3 (wf_int h0 h1)
/-- an element of an own row is written whole: the run's equation -/
theorem R_run {α : Type} {d : Kd α} {P : Program} {W : World} {base e g n cap : Nat} {ok okp : Nat → Prop} {xs : List α} {x' : α} {u : Value} {t : TypeId} (HO : d.R e W base ok (.slice (some ⟨g, 0, none⟩) n cap) xs) (i : Nat) (hi : i < n)
    (hu : u.cells.toList.length = d.sz) (ht : (P.info? t).map (·.size) = some d.sz) (h1 : ∀ q ∈ u.cells.toList, q.oneCell' = true) (hM : d.M W base okp x' u.cells.toList) (hokp : ∀ k, okp k → ok k ∧ k ≠ g) :
    d.R e (W.setCells g (i * d.sz) u.cells.toList) base ok (.slice (some ⟨g, 0, none⟩) n cap) (xs.set i x') ∧ W.grownBy (W.setCells g (i * d.sz) u.cells.toList) (some g) := by
  have hnx : n = xs.length := (Kd.R_reads' HO).1
  obtain ⟨_, inner0, hown0, hr0⟩ := id HO
  have hil : i < xs.length := by omega
  have hsg : i * d.sz + d.sz ≤ inner0.length := by rw [hr0.1, ← Nat.succ_mul]; exact Nat.mul_le_mul_right _ hil
  obtain ⟨x0, hx0⟩ : ∃ x0, xs[i]? = some x0 := ⟨_, List.getElem?_eq_getElem hil⟩
  obtain ⟨ce, hcl, hMM, hcc, hfr⟩ := Kd.R_elem HO x0 (i : Int) (by omega) (by omega)
  simp only [Int.toNat_natCast] at hcc
  have e1 : ce.take 0 ++ u.cells.toList ++ ce.drop (0 + u.cells.toList.length) = u.cells.toList := by
    rw [List.drop_eq_nil_of_le (by omega)]; simp
  obtain ⟨hrow, hg⟩ := Kd.R_seg HO (i : Int) (by omega) (by omega) (c := ce) (seg := u.cells.toList) (j := 0) hcl hcc (by omega) (x' := x') (okp := okp) (by rw [e1]; exact hM) hokp
  simp only [Int.toNat_natCast, Nat.add_zero] at hrow hg
  exact ⟨hrow, hg⟩
def swp (es : List En) (i j : Nat) : List En := (es.set i (es.getD j z)).set j (es.getD i z)
theorem swp_len (es : List En) (i j : Nat) : (swp es i j).length = es.length := by simp [swp]
theorem getD_fst (es : List En) (i : Nat) : (es.map (·.1)).getD i 0 = (es.getD i z).1 := by
  rw [List.getD_eq_getElem?_getD, List.getElem?_map, List.getD_eq_getElem?_getD]
  cases es[i]? <;> rfl
theorem swp_fst (es : List En) (i j : Nat) : (swp es i j).map (·.1) = ((es.map (·.1)).set i ((es.map (·.1)).getD j 0)).set j ((es.map (·.1)).getD i 0) := by
  unfold swp
  rw [List.map_set, List.map_set, getD_fst, getD_fst]
theorem mem_swp {es : List En} {i j : Nat} (hi : i < es.length) (hj : j < es.length) {e : En} (h : e ∈ swp es i j) : e ∈ es := by
  have gm : ∀ m, m < es.length → es.getD m z ∈ es := fun m hm => by rw [List.getD_eq_getElem?_getD, List.getElem?_eq_getElem hm]; exact List.getElem_mem hm
  rcases List.mem_or_eq_of_mem_set h with h | rfl
  · rcases List.mem_or_eq_of_mem_set h with h | rfl
    · exact h
    · exact gm j hj
  · exact gm i hi
theorem elem_cells {P : Nat → Prop} {W : World} {g n c : Nat} {es : List En} (h : Kd.R dE 68 W 0 P (.slice (some ⟨g, 0, none⟩) n c) es) {i : Nat} (hi : i < n) :
    W.cell? ⟨g, i * 2, none⟩ = some (.int .i64 (es.getD i z).1) ∧ W.cell? ⟨g, i * 2 + 1, none⟩ = some (kv (es.getD i z).2) ∧ W.frozen? ⟨g, i * 2, none⟩ = false ∧ W.frozen? ⟨g, i * 2 + 1, none⟩ = false := by
  obtain ⟨ce, hcl, hM, hcc, hfr⟩ := Kd.R_elem h z (i : Int) (by omega) (by omega)
  simp only [Int.toNat_natCast] at hcc hM hfr
  obtain rfl := dE_open hM
  exact ⟨hcc 0 _ rfl, hcc 1 _ rfl, hfr 0, hfr 1⟩
end Go.Proofs.Ytfmchkplnglepaa.HpI
