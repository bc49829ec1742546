/- How a law's arguments are opened: rows of structs, of bools, rows of rows, structs, read as plain lists and records. No conditions. -/
import Derived.Test.YtffckkjaeekanaaWWords
import Derived.Deep.Slices
import Derived.SizedLaws
import Derived.ChangeSlices
namespace Go.Proofs.YtffckkjaeekanaaW.PrintWords
open Go.RowKit Go.ChangeShapes Go.WideShapes

/-- whatever reads as a datum of type t is told by d, and meets Q -/
def Opens {α : Type} (P : Program) (d : Kd α) (t : TypeId) (Q : α → Prop) : Prop :=
  ∀ {H : Type} (enc : TypeId × Value → H) (w : World) (base : Nat) (spare : Nat → Bool) (held : Bool) (fuel : Nat) (cs : List Value) (x : DataW H × List MemPlace),
    DataW.trod enc P w base spare held fuel t cs = some x → ∃ v, d.K w v cs ∧ Q v

theorem Opens.int {P : Program} {t : TypeId} {k : IntKind} (ht : P.underlying t = some (.int k)) : Opens P (Kd.int k) t (fun n => (Lit.int k n).wf = true) := by
  intro H enc w base spare held fuel cs x h
  obtain ⟨n, rfl, _, hw⟩ := DataW.trod_int ht h
  exact ⟨n, rfl, hw⟩

theorem Opens.bool {P : Program} {t : TypeId} (ht : P.underlying t = some .bool) : Opens P Kd.bool t (fun _ => True) := by
  intro H enc w base spare held fuel cs x h
  obtain ⟨n, rfl, _⟩ := DataW.trod_bool ht h
  exact ⟨n, rfl, trivial⟩

theorem Opens.string {P : Program} {t : TypeId} (ht : P.underlying t = some .string) : Opens P Kd.string t (fun s => s.size ≤ maxLen) := by
  intro H enc w base spare held fuel cs x h
  obtain ⟨n, rfl, _, hw⟩ := DataW.trod_string ht h
  exact ⟨n, rfl, hw⟩

theorem cut2 {cs : List Value} {a b : Nat} (h : cs.length = a + b) : cs = (cs.drop 0).take a ++ (cs.drop a).take b := by
  rw [List.drop_zero, List.take_of_length_le (l := cs.drop a) (by rw [List.length_drop]; omega), List.take_append_drop]

theorem Opens.struct2 {α β γ : Type} {P : Program} {t : TypeId} {f0 f1 : Field} {d0 : Kd α} {d1 : Kd β} {Q0 : α → Prop} {Q1 : β → Prop} {proj : γ → α × β} (mk : α → β → γ) (hmk : ∀ a b, proj (mk a b) = (a, b))
    (ht : P.underlying t = some (.struct #[f0, f1])) (h0 : Opens P d0 f0.type Q0) (h1 : Opens P d1 f1.type Q1)
    (o0 : f0.offset = 0) (o1 : f1.offset = d0.sz) (c0 : P.cellsOf f0.type = d0.sz) (c1 : P.cellsOf f1.type = d1.sz) (ct : P.cellsOf t = d0.sz + d1.sz) :
    Opens P (Kd.iso (Kd.pair d0 d1) proj) t (fun x => Q0 (proj x).1 ∧ Q1 (proj x).2) := by
  intro H enc w base spare held fuel cs x h
  obtain ⟨xs, n, _, _, hl, hlen, hf⟩ := DataW.trod_struct ht h
  match xs, hlen with
  | [y0, y1], _ =>
    have g0 := hf 0 f0 rfl
    have g1 := hf 1 f1 rfl
    rw [o0, c0] at g0
    rw [o1, c1] at g1
    obtain ⟨v0, k0, q0⟩ := h0 enc w base spare held n _ _ g0
    obtain ⟨v1, k1, q1⟩ := h1 enc w base spare held n _ _ g1
    rw [ct] at hl
    refine ⟨mk v0 v1, ?_, by simp only [hmk]; exact ⟨q0, q1⟩⟩
    show (Kd.pair d0 d1).K w (proj (mk v0 v1)) cs
    rw [hmk]
    exact ⟨_, _, cut2 hl, k0, k1⟩

theorem Opens.struct3 {α β γ δ : Type} {P : Program} {t : TypeId} {f0 f1 f2 : Field} {d0 : Kd α} {d1 : Kd β} {d2 : Kd γ} {Q0 : α → Prop} {Q1 : β → Prop} {Q2 : γ → Prop} {proj : δ → α × β × γ} (mk : α → β → γ → δ) (hmk : ∀ a b c, proj (mk a b c) = (a, b, c))
    (ht : P.underlying t = some (.struct #[f0, f1, f2])) (h0 : Opens P d0 f0.type Q0) (h1 : Opens P d1 f1.type Q1) (h2 : Opens P d2 f2.type Q2)
    (o0 : f0.offset = 0) (o1 : f1.offset = d0.sz) (o2 : f2.offset = d0.sz + d1.sz) (c0 : P.cellsOf f0.type = d0.sz) (c1 : P.cellsOf f1.type = d1.sz) (c2 : P.cellsOf f2.type = d2.sz) (ct : P.cellsOf t = d0.sz + (d1.sz + d2.sz)) :
    Opens P (Kd.iso (Kd.pair d0 (Kd.pair d1 d2)) proj) t (fun x => Q0 (proj x).1 ∧ Q1 (proj x).2.1 ∧ Q2 (proj x).2.2) := by
  intro H enc w base spare held fuel cs x h
  obtain ⟨xs, n, _, _, hl, hlen, hf⟩ := DataW.trod_struct ht h
  match xs, hlen with
  | [y0, y1, y2], _ =>
    have g0 := hf 0 f0 rfl
    have g1 := hf 1 f1 rfl
    have g2 := hf 2 f2 rfl
    rw [o0, c0] at g0
    rw [o1, c1] at g1
    rw [o2, c2] at g2
    obtain ⟨v0, k0, q0⟩ := h0 enc w base spare held n _ _ g0
    obtain ⟨v1, k1, q1⟩ := h1 enc w base spare held n _ _ g1
    obtain ⟨v2, k2, q2⟩ := h2 enc w base spare held n _ _ g2
    rw [ct] at hl
    have e1 := cut2 hl
    have hl2 : (cs.drop d0.sz).length = d1.sz + d2.sz := by rw [List.length_drop]; omega
    have e2 := cut2 hl2
    rw [List.drop_drop, List.drop_drop, Nat.add_zero] at e2
    refine ⟨mk v0 v1 v2, ?_, by simp only [hmk]; exact ⟨q0, q1, q2⟩⟩
    show (Kd.pair d0 (Kd.pair d1 d2)).K w (proj (mk v0 v1 v2)) cs
    rw [hmk]
    refine ⟨_, _, e1, k0, ?_⟩
    rw [List.take_of_length_le (by omega)]
    exact ⟨_, _, e2, k1, k2⟩

theorem Opens.struct4 {α β γ δ ε : Type} {P : Program} {t : TypeId} {f0 f1 f2 f3 : Field} {d0 : Kd α} {d1 : Kd β} {d2 : Kd γ} {d3 : Kd δ} {Q0 : α → Prop} {Q1 : β → Prop} {Q2 : γ → Prop} {Q3 : δ → Prop} {proj : ε → α × β × γ × δ} (mk : α → β → γ → δ → ε) (hmk : ∀ a b c d, proj (mk a b c d) = (a, b, c, d))
    (ht : P.underlying t = some (.struct #[f0, f1, f2, f3])) (h0 : Opens P d0 f0.type Q0) (h1 : Opens P d1 f1.type Q1) (h2 : Opens P d2 f2.type Q2) (h3 : Opens P d3 f3.type Q3)
    (o0 : f0.offset = 0) (o1 : f1.offset = d0.sz) (o2 : f2.offset = d0.sz + d1.sz) (o3 : f3.offset = d0.sz + d1.sz + d2.sz) (c0 : P.cellsOf f0.type = d0.sz) (c1 : P.cellsOf f1.type = d1.sz) (c2 : P.cellsOf f2.type = d2.sz) (c3 : P.cellsOf f3.type = d3.sz)
    (ct : P.cellsOf t = d0.sz + (d1.sz + (d2.sz + d3.sz))) :
    Opens P (Kd.iso (Kd.pair d0 (Kd.pair d1 (Kd.pair d2 d3))) proj) t (fun x => Q0 (proj x).1 ∧ Q1 (proj x).2.1 ∧ Q2 (proj x).2.2.1 ∧ Q3 (proj x).2.2.2) := by
  intro H enc w base spare held fuel cs x h
  obtain ⟨xs, n, _, _, hl, hlen, hf⟩ := DataW.trod_struct ht h
  match xs, hlen with
  | [y0, y1, y2, y3], _ =>
    have g0 := hf 0 f0 rfl
    have g1 := hf 1 f1 rfl
    have g2 := hf 2 f2 rfl
    have g3 := hf 3 f3 rfl
    rw [o0, c0] at g0
    rw [o1, c1] at g1
    rw [o2, c2] at g2
    rw [o3, c3] at g3
    obtain ⟨v0, k0, q0⟩ := h0 enc w base spare held n _ _ g0
    obtain ⟨v1, k1, q1⟩ := h1 enc w base spare held n _ _ g1
    obtain ⟨v2, k2, q2⟩ := h2 enc w base spare held n _ _ g2
    obtain ⟨v3, k3, q3⟩ := h3 enc w base spare held n _ _ g3
    rw [ct] at hl
    have e1 := cut2 hl
    have hl2 : (cs.drop d0.sz).length = d1.sz + (d2.sz + d3.sz) := by rw [List.length_drop]; omega
    have e2 := cut2 hl2
    rw [List.drop_drop, List.drop_drop, Nat.add_zero] at e2
    have hl3 : (cs.drop (d0.sz + d1.sz)).length = d2.sz + d3.sz := by rw [List.length_drop]; omega
    have e3 := cut2 hl3
    rw [List.drop_drop, List.drop_drop, Nat.add_zero] at e3
    refine ⟨mk v0 v1 v2 v3, ?_, by simp only [hmk]; exact ⟨q0, q1, q2, q3⟩⟩
    show (Kd.pair d0 (Kd.pair d1 (Kd.pair d2 d3))).K w (proj (mk v0 v1 v2 v3)) cs
    rw [hmk]
    refine ⟨_, _, e1, k0, ?_⟩
    rw [List.take_of_length_le (by omega)]
    refine ⟨_, _, e2, k1, ?_⟩
    rw [List.take_of_length_le (by omega)]
    exact ⟨_, _, e3, k2, k3⟩

/-- the elements' own readings, gathered -/
theorem gather {α : Type} {R : Nat → α → Prop} : ∀ (n : Nat), (∀ i, i < n → ∃ v, R i v) → ∃ l : List α, l.length = n ∧ ∀ i v, l[i]? = some v → R i v
  | 0, _ => ⟨[], rfl, fun i v h => by simp at h⟩
  | n + 1, h => by
    obtain ⟨l, hl, hr⟩ := gather n (fun i hi => h i (by omega))
    obtain ⟨v, hv⟩ := h n (by omega)
    refine ⟨l ++ [v], by simp [hl], fun i u hu => ?_⟩
    by_cases hi : i < n
    · rw [List.getElem?_append_left (by omega)] at hu; exact hr i u hu
    · rw [List.getElem?_append_right (by omega), hl] at hu
      have : i = n := by
        by_cases e : i = n
        · exact e
        · rw [List.getElem?_eq_none (by simp; omega)] at hu; cases hu
      subst this
      simp at hu; subst hu; exact hv

/-- a row: its elements, told one by one -/
theorem open_elems {H : Type} {enc : TypeId × Value → H} {P : Program} {α : Type} {d : Kd α} {t e : TypeId} {Q : α → Prop} {w : World} {base : Nat} {spare : Nat → Bool} {held : Bool} {fuel : Nat} {cs : List Value} {x : DataW H × List MemPlace}
    (ht : P.underlying t = some (.slice e)) (hc : P.cellsOf e = d.sz) (O : Opens P d e Q) (h : DataW.trod enc P w base spare held fuel t cs = some x) :
    ∃ (l : List α) (A : Option Addr) (c : Nat), cs = [.slice A l.length c] ∧ l.length ≤ c ∧ d.C w A l.length l ∧ (∀ v ∈ l, Q v) ∧ l.length ≤ maxLen ∧ (x = (.nil, []) ∧ l = [] ∨ ∃ elems sp ps, x = (.slice elems sp, ps) ∧ elems.length = l.length) := by
  rcases Go.Deep.open_slice ht h with ⟨rfl, rfl⟩ | ⟨a, len, cap, m, n, D, Pl, rfl, _, hl, hm, hmm, rfl, hx⟩
  · exact ⟨[], none, 0, rfl, Nat.le_refl _, Kd.C_nil d w, fun v hv => by simp at hv, Nat.zero_le _, .inl ⟨rfl, rfl⟩⟩
  · have hlm : len ≤ m := by rw [hmm]; split <;> omega
    obtain ⟨l, hlen, hr⟩ := gather (R := fun i v => ∃ cs', w.cells? base (a.add (i * P.cellsOf e)) (P.cellsOf e) = some cs' ∧ d.K w v cs' ∧ Q v) len (fun i hi => by
      obtain ⟨cs', h1, h2⟩ := hx i (by omega)
      obtain ⟨v, h3, h4⟩ := O enc w base spare held n cs' _ h2
      exact ⟨v, cs', h1, h3, h4⟩)
    subst hlen
    refine ⟨l, some a, cap, rfl, hl, ⟨rfl, ?_, fun _ => ⟨a, rfl, fun j p hj => ?_⟩⟩, fun v hv => ?_, Nat.le_trans hl hm, .inr ⟨_, _, _, rfl, by simp⟩⟩
    · have : l.length ≤ maxLen := Nat.le_trans hl hm
      unfold maxLen at this; omega
    · obtain ⟨cs', h1, h2, _⟩ := hr j p hj
      obtain ⟨_, h3, h4⟩ := World.cells?_some h1
      rw [hc] at h3 h4
      refine ⟨cs', h3, h2, fun i u hu => ?_⟩
      have hi : i < d.sz := by rw [← h3]; exact (List.getElem?_eq_some_iff.1 hu).1
      have := h4 i hi
      rw [Addr.add_add] at this
      exact this.trans hu
    · obtain ⟨i, hi⟩ := List.mem_iff_getElem?.1 hv
      obtain ⟨_, _, _, h5⟩ := hr i v hi
      exact h5

theorem Opens.slice {α : Type} {P : Program} {d : Kd α} {t e : TypeId} {Q : α → Prop} (ht : P.underlying t = some (.slice e)) (hc : P.cellsOf e = d.sz) (O : Opens P d e Q) :
    Opens P (Kd.slice e d) t (fun l => (∀ v ∈ l, Q v) ∧ l.length ≤ maxLen) := by
  intro H enc w base spare held fuel cs x h
  obtain ⟨l, A, c, rfl, h1, h2, h3, h4, _⟩ := open_elems ht hc O h
  exact ⟨l, ⟨A, c, rfl, h1, h2⟩, h3, h4⟩

/-- a law's argument that is a row -/
theorem open_row {H : Type} {enc : TypeId × Value → H} {P : Program} {α : Type} {d : Kd α} {t e : TypeId} {Q : α → Prop} {W : World} {base : Nat} {spare : Nat → Bool} {held : Bool} {a : Option Addr} {len cap : Nat} {dd : DataW H} {ps : List MemPlace} {ts : List TypeId} {ds : List (DataW H)} {j B : Nat}
    (hsz : (DataW.weightsEach P ts ds).all (· ≤ reachBytes) = true) (htj : ts[j]? = some t) (hdj : ds[j]? = some dd) (ht : P.underlying t = some (.slice e)) (hc : P.cellsOf e = d.sz) (hB : P.bytesOf e = B) (O : Opens P d e Q)
    (h : DataW.Trod enc P W base spare held t (.slice a len cap) dd ps) :
    ∃ l : List α, len = l.length ∧ l.length ≤ cap ∧ d.C W a l.length l ∧ (∀ v ∈ l, Q v) ∧ l.length ≤ maxLen ∧ l.length * B ≤ 140737488351232 := by
  obtain ⟨fuel, hf⟩ := h
  obtain ⟨l, A, c, hcs, h1, h2, h3, h4, h5⟩ := open_elems ht hc O hf
  simp [Value.cells] at hcs
  obtain ⟨rfl, rfl, rfl⟩ := hcs
  refine ⟨l, rfl, h1, h2, h3, h4, ?_⟩
  rcases h5 with ⟨_, rfl⟩ | ⟨elems, sp, _, hx, hl⟩
  · simp
  · obtain ⟨rfl, _⟩ := Prod.mk.inj hx
    have z := sized_slice hsz htj hdj ht
    rw [hB, hl] at z
    exact Nat.le_trans (Nat.mul_le_mul_right _ (Nat.le_add_right _ _)) z
end Go.Proofs.YtffckkjaeekanaaW.PrintWords
