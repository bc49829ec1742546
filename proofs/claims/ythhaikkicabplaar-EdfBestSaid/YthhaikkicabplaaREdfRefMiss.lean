/- What the reference of edf.Missed answers. No conditions. -/
import Derived.Test.YthhaikkicabplaaRXx25
import Derived.Test.YthhaikkicabplaaRXx27
import Derived.Test.YthhaikkicabplaaREdfMiss
import Derived.Test.YthhaikkicabplaaREdfRefValid
namespace Go.Proofs.YthhaikkicabplaaR.Pure
open Go Go.RowKit Tithe Go.Proofs.YthhaikkicabplaaR.X Go.Proofs.YthhaikkicabplaaRW.PrintWords Go.Proofs.YthhaikkicabplaaRW.PrintLast Go.Proofs.YthhaikkicabplaaRW.PrintMore

theorem refMissed_items (l : List S43) (hv : vLL l = 0) (pl : List Int) (hpl : pl.length ≤ 4096) :
    ∀ (d i : Nat), i + d = l.length →
      Evt (fun k => titheref10_Missed.l1 k l pl ((List.range i).map (fun j => missI (It l) (rd pl) pl.length j)) i) ((List.range l.length).map (fun j => missI (It l) (rd pl) pl.length j), 0) := by
  have hI := It_fine hv
  have hm : l.length ≤ 64 := hI.1
  intro d
  induction d with
  | zero =>
    intro i hi
    obtain rfl : i = l.length := by omega
    refine Evt.succ ?_
    simp only [titheref10_Missed.l1]
    exact Evt.ifn (by omega) (Evt.pure fun _ => rfl)
  | succ d ih =>
    intro i hi
    have hil : i < l.length := by omega
    have him : i < (It l).m := hil
    have hIi := hI.2 i him
    have hx : rd_T43 l (i : Int) = ⟨(It l).q i, (It l).p i, (It l).s i⟩ := rfl
    have nx := ih (i + 1) (by omega)
    rw [List.range_succ, List.map_append] at nx
    have periods : ∀ (f : Nat) (a c : Int), 0 ≤ a → a ≤ 1073741824 + 4096 → (pl.length : Int) < a + f → f ≤ pl.length + 1 → 0 ≤ c → c + f ≤ pl.length + 1 →
        c + missN (rd pl) pl.length i ((It l).q i) ((It l).p i) f a = missI (It l) (rd pl) pl.length i →
        Evt (fun k => titheref10_Missed.l2 k l pl ((List.range i).map (fun j => missI (It l) (rd pl) pl.length j)) i c a ((It l).q i) ((It l).p i) ((It l).s i)) ((List.range l.length).map (fun j => missI (It l) (rd pl) pl.length j), 0) := by
      intro f
      induction f with
      | zero =>
        intro a c ha0 ha1 hf _ h0 _ heq
        refine Evt.succ ?_
        simp only [titheref10_Missed.l2]
        rw [w64 (n := a + (It l).p i) (by omega) (by omega), w1 i (by omega)]
        refine Evt.ifn (by omega) (Evt.ifp (by simp; omega) ?_)
        simp only [missN] at heq
        rw [show c = missI (It l) (rd pl) pl.length i by omega]
        exact nx
      | succ f ihf =>
        intro a c ha0 ha1 hf hf1 h0 hle heq
        simp only [missN] at heq
        by_cases hin : a + (It l).p i ≤ pl.length
        · rw [if_pos hin] at heq
          obtain ⟨a', rfl⟩ : ∃ a' : Nat, a = a' := ⟨a.toNat, by omega⟩
          obtain ⟨pp, hpp⟩ : ∃ pp : Nat, (It l).p i = pp := ⟨((It l).p i).toNat, by omega⟩
          have count : ∀ (d u : Nat), u + d = pp → Evt (fun k => titheref10_Missed.l3 k l pl ((List.range i).map (fun j => missI (It l) (rd pl) pl.length j)) i c a' (cn (rd pl) i a' ((a' : Int) + u)) ((a' + u : Nat) : Int) ((It l).q i) ((It l).p i) ((It l).s i)) ((List.range l.length).map (fun j => missI (It l) (rd pl) pl.length j), 0) := by
            intro d
            induction d with
            | zero =>
              intro u hu
              obtain rfl : u = pp := by omega
              refine Evt.succ ?_
              simp only [titheref10_Missed.l3]
              rw [w64 (n := (a' : Int) + (It l).p i) (by omega) (by omega)]
              refine Evt.ifn (by omega) ?_
              rw [hpp] at heq
              by_cases hc : cn (rd pl) i a' ((a' : Int) + u) < (It l).q i
              · rw [if_pos hc, ← hpp] at heq
                refine Evt.ifp hc ?_
                rw [w64 (n := c + 1) (by omega) (by omega)]
                exact ihf _ _ (by omega) (by omega) (by omega) (by omega) (by omega) (by omega) (by omega)
              · rw [if_neg hc, ← hpp] at heq
                exact Evt.ifn hc (ihf _ _ (by omega) (by omega) (by omega) (by omega) (by omega) (by omega) (by omega))
            | succ d ihd =>
              intro u hu
              refine Evt.succ ?_
              simp only [titheref10_Missed.l3]
              have hcn := cn_succ (rd pl) i (a := (a' : Int)) (b := (a' : Int) + u) (by omega)
              have hb0 := cn_nonneg (rd pl) i (a' : Int) ((a' : Int) + u)
              have hb1 : cn (rd pl) i (a' : Int) ((a' : Int) + u) ≤ u := by
                have key : ∀ v : Nat, cn (rd pl) i (a' : Int) ((a' : Int) + v) ≤ v := by
                  intro v
                  induction v with
                  | zero => simp [cn_self]
                  | succ v ihv =>
                    have := cn_succ (rd pl) i (a := (a' : Int)) (b := (a' : Int) + v) (by omega)
                    rw [show (a' : Int) + ((v + 1 : Nat) : Int) = (a' : Int) + v + 1 by omega, this]
                    split <;> omega
                exact key u
              rw [w1 (a' + u) (by omega), w64 (n := (a' : Int) + (It l).p i) (by omega) (by omega)]
              have nx2 := ihd (u + 1) (by omega)
              rw [show (a' : Int) + ((u + 1 : Nat) : Int) = (a' : Int) + u + 1 by omega, hcn, show a' + (u + 1) = a' + u + 1 by omega] at nx2
              refine Evt.ifp (by omega) (Evt.ifp (by omega) (Evt.ifp (by omega) ?_))
              rw [show ((a' + u : Nat) : Int) = (a' : Int) + u by omega]
              by_cases hc : rd pl ((a' : Int) + u) = i
              · rw [if_pos hc] at nx2
                refine Evt.ifp hc ?_
                rw [w64 (n := cn (rd pl) i (a' : Int) ((a' : Int) + u) + 1) (by omega) (by omega)]; exact nx2
              · rw [if_neg hc] at nx2
                refine Evt.ifn hc ?_
                rw [show cn (rd pl) i (a' : Int) ((a' : Int) + u) + 0 = cn (rd pl) i (a' : Int) ((a' : Int) + u) by omega] at nx2
                exact nx2
          refine Evt.succ ?_
          simp only [titheref10_Missed.l2]
          rw [w64 (n := (a' : Int) + (It l).p i) (by omega) (by omega)]
          refine Evt.ifp (by omega) ?_
          have c0 := count pp 0 (by omega)
          rw [show (a' : Int) + ((0 : Nat) : Int) = a' by omega, cn_self] at c0
          exact c0
        · rw [if_neg hin] at heq
          refine Evt.succ ?_
          simp only [titheref10_Missed.l2]
          rw [w64 (n := a + (It l).p i) (by omega) (by omega), w1 i (by omega)]
          refine Evt.ifn hin (Evt.ifp (by simp; omega) ?_)
          rw [show c = missI (It l) (rd pl) pl.length i by omega]
          exact nx
    refine Evt.succ ?_
    simp only [titheref10_Missed.l1]
    rw [hx]
    simp only []
    refine Evt.ifp (by omega) (Evt.ifp (by omega) ?_)
    exact periods (pl.length + 1) ((It l).s i) 0 (by omega) (by omega) (by omega) (by omega) (by omega) (by omega) (by unfold missI; omega)

theorem refMissed_evt (l : List S43) (hl : l.length ≤ 140737488351232) (pl : List Int) :
    ∃ o e, Evt (fun k => titheref10_Missed.f k l pl) (o, e) ∧ MissIs l pl o e := by
  unfold titheref10_Missed.f
  by_cases h1 : (pl.length : Int) > 4096
  · exact ⟨[], 1, Evt.ifp h1 (Evt.pure fun _ => rfl), .inl ⟨.inl (by omega), rfl, rfl⟩⟩
  · have check : ∀ (d i : Nat), i + d = pl.length → (∀ t, t < i → ¬ (rd pl (t : Nat) < -1 ∨ (l.length : Int) ≤ rd pl (t : Nat))) →
        ∃ o e, Evt (fun k => titheref10_Missed.l0 k l pl i) (o, e) ∧ MissIs l pl o e := by
      intro d
      induction d with
      | zero =>
        intro i hi ha
        have hnb : ¬ (4096 < pl.length ∨ Bad pl l.length) := by
          rintro (h | ⟨t, ht, hb⟩)
          · omega
          · exact ha t (by omega) hb
        have hV := ref_Valid_evt l hl
        by_cases hv : vLL l = 0
        · rw [hv] at hV
          refine ⟨_, 0, Evt.succ ?_, .inr (.inr ⟨hnb, hv, rfl, rfl⟩)⟩
          simp only [titheref10_Missed.l0]
          refine Evt.ifn (by omega) (Evt.bind hV (Evt.ifp rfl ?_))
          exact refMissed_items l hv pl (by omega) l.length 0 (by omega)
        · refine ⟨[], vLL l, Evt.succ ?_, .inr (.inl ⟨hnb, hv, rfl, rfl⟩)⟩
          simp only [titheref10_Missed.l0]
          exact Evt.ifn (by omega) (Evt.bind hV (Evt.ifn hv (Evt.pure fun _ => rfl)))
      | succ d ih =>
        intro i hi ha
        by_cases hb1 : rd pl (i : Nat) < -1
        · refine ⟨[], 1, Evt.succ ?_, .inl ⟨.inr ⟨i, by omega, .inl hb1⟩, rfl, rfl⟩⟩
          simp only [titheref10_Missed.l0]
          exact Evt.ifp (by omega) (Evt.ifp (by omega) (Evt.ifp hb1 (Evt.pure fun _ => rfl)))
        · by_cases hb2 : rd pl (i : Nat) ≥ (l.length : Int)
          · refine ⟨[], 1, Evt.succ ?_, .inl ⟨.inr ⟨i, by omega, .inr hb2⟩, rfl, rfl⟩⟩
            simp only [titheref10_Missed.l0]
            exact Evt.ifp (by omega) (Evt.ifp (by omega) (Evt.ifn hb1 (Evt.ifp hb2 (Evt.pure fun _ => rfl))))
          · obtain ⟨o, e, ho, hoe⟩ := ih (i + 1) (by omega) (fun t ht => by
              by_cases h : t = i
              · rw [h]; rintro (h | h)
                · exact hb1 h
                · exact hb2 h
              · exact ha t (by omega))
            refine ⟨o, e, Evt.succ ?_, hoe⟩
            simp only [titheref10_Missed.l0]
            rw [w1 i (by omega)]
            exact Evt.ifp (by omega) (Evt.ifp (by omega) (Evt.ifn hb1 (Evt.ifn hb2 ho)))
    obtain ⟨o, e, ho, hoe⟩ := check pl.length 0 (by omega) (fun t ht => by omega)
    exact ⟨o, e, Evt.ifn h1 ho, hoe⟩

theorem MissIs.length {l : List S43} {n o : List Int} {e : Int} (h : MissIs l n o e) (hl : l.length ≤ 140737488351232) : o.length ≤ 140737488351232 := by
  rcases h with ⟨_, rfl, _⟩ | ⟨_, _, rfl, _⟩ | ⟨_, _, _, rfl⟩
  · simp
  · simp
  · simpa using hl

theorem some_evt (o : List Int) (hl : o.length ≤ 140737488351232) : Evt (fun k => tithelaw10_some.f k o) (decide (∃ j, j < o.length ∧ rd o (j : Nat) ≠ 0)) := by
  unfold tithelaw10_some.f
  have key : ∀ (d i : Nat), i + d = o.length → (∀ j, j < i → rd o (j : Nat) = 0) → Evt (fun k => tithelaw10_some.l0 k o i) (decide (∃ j, j < o.length ∧ rd o (j : Nat) ≠ 0)) := by
    intro d
    induction d with
    | zero =>
      intro i hi ha
      refine Evt.succ ?_
      simp only [tithelaw10_some.l0]
      refine Evt.ifn (by omega) (Evt.pure fun _ => ?_)
      rw [decide_eq_false]
      rintro ⟨j, hj, hne⟩
      exact hne (ha j (by omega))
    | succ d ih =>
      intro i hi ha
      refine Evt.succ ?_
      simp only [tithelaw10_some.l0]
      refine Evt.ifp (by omega) (Evt.ifp (by omega) ?_)
      by_cases h : rd o (i : Nat) = 0
      · refine Evt.ifp h ?_
        rw [w1 i (by omega)]
        refine ih (i + 1) (by omega) (fun j hj => ?_)
        by_cases e : j = i
        · rw [e]; exact h
        · exact ha j (by omega)
      · refine Evt.ifn h (Evt.pure fun _ => ?_)
        rw [decide_eq_true ⟨i, by omega, h⟩]
  exact key o.length 0 (by omega) (fun j hj => by omega)

/-- nothing is missed: each period that lies in the plan has its budget -/
theorem miss_none {l : List S43} (hv : vLL l = 0) (pl : List Int) :
    (¬ ∃ j, j < ((List.range l.length).map (fun j => missI (It l) (rd pl) pl.length j)).length ∧ rd ((List.range l.length).map (fun j => missI (It l) (rd pl) pl.length j)) (j : Nat) ≠ 0) ↔
      ∀ j, j < (It l).m → ∀ k : Nat, (It l).s j + k * (It l).p j + (It l).p j ≤ pl.length → (It l).q j ≤ cn (rd pl) j ((It l).s j + k * (It l).p j) ((It l).s j + k * (It l).p j + (It l).p j) := by
  have hI := It_fine hv
  have hrd : ∀ j, j < l.length → rd ((List.range l.length).map (fun j => missI (It l) (rd pl) pl.length j)) (j : Nat) = missI (It l) (rd pl) pl.length j := by
    intro j hj
    rw [rdI (by simpa using hj)]; simp
  have hz : ∀ j, j < l.length → (missI (It l) (rd pl) pl.length j = 0 ↔ ∀ k : Nat, (It l).s j + k * (It l).p j + (It l).p j ≤ pl.length → (It l).q j ≤ cn (rd pl) j ((It l).s j + k * (It l).p j) ((It l).s j + k * (It l).p j + (It l).p j)) := by
    intro j hj
    have := hI.2 j hj
    unfold missI
    exact missN_zero (by omega) _ _ (by omega)
  constructor
  · intro h j hj k hk
    have hj' : j < l.length := hj
    have h0 : missI (It l) (rd pl) pl.length j = 0 := by
      by_cases e : missI (It l) (rd pl) pl.length j = 0
      · exact e
      · exact absurd ⟨j, by simpa using hj', by rw [hrd j hj']; exact e⟩ h
    exact (hz j hj').1 h0 k hk
  · rintro h ⟨j, hj, hne⟩
    have hj' : j < l.length := by simpa using hj
    rw [hrd j hj'] at hne
    exact hne ((hz j hj').2 (fun k hk => h j hj' k hk))
end Go.Proofs.YthhaikkicabplaaR.Pure
