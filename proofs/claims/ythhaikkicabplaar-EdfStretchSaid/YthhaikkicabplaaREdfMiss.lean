/- What edf.Missed and its reference answer: the error, or of each item how many of its periods that lie in the plan have too little. No conditions. -/
import Derived.Test.YthhaikkicabplaaRXx18
import Derived.Test.YthhaikkicabplaaREdfPlan
import Derived.Test.YthhaikkicabplaaREdfWorks
namespace Go.Proofs.YthhaikkicabplaaR.Pure
open Go Go.RowKit Tithe Go.Proofs.YthhaikkicabplaaR.X Go.Proofs.YthhaikkicabplaaRW.PrintWords Go.Proofs.YthhaikkicabplaaRW.PrintLast Go.Proofs.YthhaikkicabplaaRW.PrintMore

/-- how many periods from a time on that lie in n ticks have too little -/
def missN (pl : Int → Int) (n : Int) (j : Nat) (q p : Int) : Nat → Int → Int
  | 0, _ => 0
  | f + 1, a => if a + p ≤ n then (if cn pl j a (a + p) < q then 1 else 0) + missN pl n j q p f (a + p) else 0
def missI (I : Items) (pl : Int → Int) (n : Nat) (j : Nat) : Int := missN pl n j (I.q j) (I.p j) (n + 1) (I.s j)

theorem missN_nonneg (pl : Int → Int) (n : Int) (j : Nat) (q p : Int) : ∀ (f : Nat) (a : Int), 0 ≤ missN pl n j q p f a ∧ missN pl n j q p f a ≤ f
  | 0, _ => by simp [missN]
  | f + 1, a => by
    have := missN_nonneg pl n j q p f (a + p)
    simp only [missN]
    split
    · split <;> omega
    · omega

theorem missN_zero {pl : Int → Int} {n : Int} {j : Nat} {q p : Int} (hp : 1 ≤ p) : ∀ (f : Nat) (a : Int), n < a + f →
    (missN pl n j q p f a = 0 ↔ ∀ k : Nat, a + k * p + p ≤ n → q ≤ cn pl j (a + k * p) (a + k * p + p))
  | 0, a, h => by
    simp only [missN, true_iff]
    intro k hk
    have : 0 ≤ (k : Int) * p := Int.mul_nonneg (by omega) (by omega)
    omega
  | f + 1, a, h => by
    have ih := missN_zero (pl := pl) (n := n) (j := j) (q := q) hp f (a + p) (by omega)
    have h0 := missN_nonneg pl n j q p f (a + p)
    simp only [missN]
    by_cases hle : a + p ≤ n
    · rw [if_pos hle]
      constructor
      · intro hz
        have hz2 : missN pl n j q p f (a + p) = 0 := by split at hz <;> omega
        have hc : ¬ cn pl j a (a + p) < q := by
          intro hc; rw [if_pos hc] at hz; omega
        intro k hk
        cases k with
        | zero => simp at hk ⊢; omega
        | succ k =>
          have e : a + ((k + 1 : Nat) : Int) * p = a + p + k * p := by rw [show ((k + 1 : Nat) : Int) = (k : Int) + 1 by omega, Int.add_mul]; omega
          rw [e] at hk ⊢
          exact ih.1 hz2 k hk
      · intro hall
        have h1 := hall 0 (by simp; omega)
        simp at h1
        rw [if_neg (by omega), ih.2 (fun k hk => ?_)]; rfl
        have e : a + ((k + 1 : Nat) : Int) * p = a + p + k * p := by rw [show ((k + 1 : Nat) : Int) = (k : Int) + 1 by omega, Int.add_mul]; omega
        have := hall (k + 1)
        rw [e] at this
        exact this hk
    · rw [if_neg hle]
      simp only [true_iff]
      intro k hk
      have : 0 ≤ (k : Int) * p := Int.mul_nonneg (by omega) (by omega)
      omega

/-- a plan with a number that is no place -/
def Bad (pl : List Int) (m : Nat) : Prop := ∃ t, t < pl.length ∧ (rd pl (t : Nat) < -1 ∨ (m : Int) ≤ rd pl (t : Nat))

/-- what Missed answers -/
def MissIs (l : List S43) (pl : List Int) (o : List Int) (e : Int) : Prop :=
  ((4096 < pl.length ∨ Bad pl l.length) ∧ o = [] ∧ e = 1) ∨ (¬ (4096 < pl.length ∨ Bad pl l.length) ∧ vLL l ≠ 0 ∧ o = [] ∧ e = vLL l) ∨
  (¬ (4096 < pl.length ∨ Bad pl l.length) ∧ vLL l = 0 ∧ e = 0 ∧ o = (List.range l.length).map (fun j => missI (It l) (rd pl) pl.length j))

theorem MissIs.uniq {l : List S43} {n : List Int} {p p' : List Int} {e e' : Int} (h : MissIs l n p e) (h' : MissIs l n p' e') : p = p' ∧ e = e' := by
  rcases h with ⟨a, rfl, rfl⟩ | ⟨a, b, rfl, rfl⟩ | ⟨a, b, rfl, rfl⟩ <;> rcases h' with ⟨a', rfl, rfl⟩ | ⟨a', b', rfl, rfl⟩ | ⟨a', b', rfl, rfl⟩
  · exact ⟨rfl, rfl⟩
  · exact absurd a a'
  · exact absurd a a'
  · exact absurd a' a
  · exact ⟨rfl, rfl⟩
  · exact absurd b' b
  · exact absurd a' a
  · exact absurd b b'
  · exact ⟨rfl, rfl⟩

theorem missed_items (l : List S43) (hv : vLL l = 0) (pl : List Int) (hpl : pl.length ≤ 4096) :
    ∀ (d i : Nat) (o : List Int), i + d = l.length → o.length = l.length → (∀ j, j < i → rd o j = missI (It l) (rd pl) pl.length j) → (∀ j, i ≤ j → j < l.length → rd o j = 0) →
      Evt (fun k => edf_Missed.l1 k pl o (l.map cv) (l.length : Int) i) ((List.range l.length).map (fun j => missI (It l) (rd pl) pl.length j), none) := by
  have hI := It_fine hv
  have hm : l.length ≤ 64 := hI.1
  intro d
  induction d with
  | zero =>
    intro i o hi ho ha _
    obtain rfl : i = l.length := by omega
    refine Evt.succ ?_
    simp only [edf_Missed.l1]
    refine Evt.ifn (by omega) (Evt.pure fun _ => ?_)
    congr 2
    apply List.ext_getElem (by simp [ho])
    intro j h1 h2
    have := ha j (by omega)
    rw [rdI h1] at this
    rw [this]; simp
  | succ d ih =>
    intro i o hi ho ha hz
    have hil : i < l.length := by omega
    have him : i < (It l).m := hil
    have hIi := hI.2 i him
    have hx : rd_T55 (l.map cv) (i : Int) = ⟨(It l).q i, (It l).p i, (It l).s i⟩ := by rw [rd55 hil]; rfl
    have next : ∀ o' : List Int, o'.length = l.length → (∀ j, j < l.length → j ≠ i → rd o' j = rd o j) → rd o' i = missI (It l) (rd pl) pl.length i →
        Evt (fun k => edf_Missed.l1 k pl o' (l.map cv) (l.length : Int) (wrap64 ((i : Int) + 1))) ((List.range l.length).map (fun j => missI (It l) (rd pl) pl.length j), none) := by
      intro o' ho' h1 h2
      rw [w1 i (by omega)]
      refine ih (i + 1) o' (by omega) ho' (fun j hj => ?_) (fun j hj hjl => ?_)
      · by_cases h : j = i
        · rw [h]; exact h2
        · rw [h1 j (by omega) h]; exact ha j (by omega)
      · rw [h1 j hjl (by omega)]; exact hz j (by omega) hjl
    -- the periods of i, one behind the other
    have periods : ∀ (f : Nat) (a : Int) (o' : List Int), 0 ≤ a → a ≤ 1073741824 + 4096 → (pl.length : Int) < a + f → f ≤ pl.length + 1 → o'.length = l.length → (∀ j, j < l.length → j ≠ i → rd o' j = rd o j) →
        0 ≤ rd o' i → rd o' i + f ≤ pl.length + 1 → rd o' i + missN (rd pl) pl.length i ((It l).q i) ((It l).p i) f a = missI (It l) (rd pl) pl.length i →
        Evt (fun k => edf_Missed.l2 k pl o' i a (l.map cv) (l.length : Int) i ((It l).q i) ((It l).p i) ((It l).s i)) ((List.range l.length).map (fun j => missI (It l) (rd pl) pl.length j), none) := by
      intro f
      induction f with
      | zero =>
        intro a o' ha0 ha1 hf _ ho' h1 h0 _ heq
        refine Evt.succ ?_
        simp only [edf_Missed.l2]
        rw [w64 (n := a + (It l).p i) (by omega) (by omega)]
        refine Evt.ifn (by omega) (next o' ho' h1 ?_)
        simp only [missN] at heq; omega
      | succ f ihf =>
        intro a o' ha0 ha1 hf hf1 ho' h1 h0 hle heq
        simp only [missN] at heq
        by_cases hin : a + (It l).p i ≤ pl.length
        · rw [if_pos hin] at heq
          obtain ⟨a', rfl⟩ : ∃ a' : Nat, a = a' := ⟨a.toNat, by omega⟩
          obtain ⟨pp, hpp⟩ : ∃ pp : Nat, (It l).p i = pp := ⟨((It l).p i).toNat, by omega⟩
          have hnext : ∀ o'' : List Int, o''.length = l.length → (∀ j, j < l.length → j ≠ i → rd o'' j = rd o' j) → rd o'' i = rd o' i + (if cn (rd pl) i a' (a' + (It l).p i) < (It l).q i then 1 else 0) →
              Evt (fun k => edf_Missed.l2 k pl o'' i ((a' : Int) + (It l).p i) (l.map cv) (l.length : Int) i ((It l).q i) ((It l).p i) ((It l).s i)) ((List.range l.length).map (fun j => missI (It l) (rd pl) pl.length j), none) := by
            intro o'' ho'' h1' h2'
            refine ihf _ o'' (by omega) (by omega) (by omega) (by omega) ho'' (fun j hj hne => by rw [h1' j hj hne]; exact h1 j hj hne) ?_ ?_ ?_
            · rw [h2']; split <;> omega
            · rw [h2']; split <;> omega
            · rw [h2']; omega
          have hpiece : ∀ u, u < pp → rd ((pl.take (a' + pp)).drop a') (u : Int) = rd pl ((a' : Int) + u) := by
            intro u hu
            rw [rdI (by rw [List.length_drop, List.length_take]; omega), show ((a' : Int) + u) = ((a' + u : Nat) : Int) by omega, rdI (by omega)]
            simp
          have hplen : ((pl.take (a' + pp)).drop a').length = pp := by rw [List.length_drop, List.length_take]; omega
          have count : ∀ (d u : Nat), u + d = pp → Evt (fun k => edf_Missed.l3 k pl o' i a' (cn (rd pl) i a' ((a' : Int) + u)) (l.map cv) (l.length : Int) i ((pl.take (a' + pp)).drop a') (pp : Int) u ((It l).q i) ((It l).p i) ((It l).s i)) ((List.range l.length).map (fun j => missI (It l) (rd pl) pl.length j), none) := by
            intro d
            induction d with
            | zero =>
              intro u hu
              obtain rfl : u = pp := by omega
              refine Evt.succ ?_
              simp only [edf_Missed.l3]
              refine Evt.ifn (by omega) ?_
              rw [w64 (n := (a' : Int) + (It l).p i) (by omega) (by omega), show (i : Int).toNat = i by omega]
              by_cases hc : cn (rd pl) i a' ((a' : Int) + u) < (It l).q i
              · refine Evt.ifp hc (Evt.ifp (by omega) (Evt.ifp (by omega) ?_))
                refine hnext _ (by simp [ho']) (fun j hj hne => ?_) ?_
                · unfold rd; rw [show (j : Int).toNat = j by omega]; simp [List.getD, Ne.symm hne]
                · have hv1 : wrap64 (rd o' i + 1) = rd o' i + 1 := w64 (by omega) (by omega)
                  rw [hv1, hpp, if_pos hc]
                  unfold rd; rw [show (i : Int).toNat = i by omega]; simp [List.getD, show i < o'.length by omega]
              · refine Evt.ifn hc (hnext o' ho' (fun _ _ _ => rfl) ?_)
                rw [hpp, if_neg hc]; omega
            | succ d ihd =>
              intro u hu
              refine Evt.succ ?_
              simp only [edf_Missed.l3]
              have hcn := cn_succ (rd pl) i (a := (a' : Int)) (b := (a' : Int) + u) (by omega)
              have hb0 := cn_nonneg (rd pl) i (a' : Int) ((a' : Int) + u)
              have hb1 : cn (rd pl) i (a' : Int) ((a' : Int) + u) ≤ u := by
                have key : ∀ v : Nat, cn (rd pl) i (a' : Int) ((a' : Int) + v) ≤ v := by
                  intro v
                  induction v with
                  | zero => simp [cn_self]
                  | succ v ihv =>
                    have := cn_succ (rd pl) i (a := (a' : Int)) (b := (a' : Int) + v) (by omega)
                    rw [show (a' : Int) + ((v + 1 : Nat) : Int) = (a' : Int) + v + 1 by omega, this]
                    split <;> omega
                exact key u
              rw [w1 u (by omega), hpiece u (by omega)]
              have nx := ihd (u + 1) (by omega)
              rw [show (a' : Int) + ((u + 1 : Nat) : Int) = (a' : Int) + u + 1 by omega, hcn] at nx
              refine Evt.ifp (by omega) (Evt.ifp (by omega) (Evt.ifp (by rw [hplen]; omega) ?_))
              by_cases hc : rd pl ((a' : Int) + u) = i
              · rw [if_pos hc] at nx
                refine Evt.ifp hc ?_
                rw [w64 (n := cn (rd pl) i (a' : Int) ((a' : Int) + u) + 1) (by omega) (by omega)]; exact nx
              · rw [if_neg hc] at nx
                refine Evt.ifn hc ?_
                rw [show cn (rd pl) i (a' : Int) ((a' : Int) + u) + 0 = cn (rd pl) i (a' : Int) ((a' : Int) + u) by omega] at nx
                exact nx
          refine Evt.succ ?_
          simp only [edf_Missed.l2]
          rw [w64 (n := (a' : Int) + (It l).p i) (by omega) (by omega)]
          refine Evt.ifp (by omega) (Evt.ifp (by omega) (Evt.ifp (by omega) ?_))
          have c0 := count pp 0 (by omega)
          rw [show (a' : Int) + ((0 : Nat) : Int) = a' by omega, cn_self] at c0
          rw [show ((a' : Int) + (It l).p i).toNat = a' + pp by omega, show ((a' : Int)).toNat = a' by omega, hplen]
          exact c0
        · rw [if_neg hin] at heq
          refine Evt.succ ?_
          simp only [edf_Missed.l2]
          rw [w64 (n := a + (It l).p i) (by omega) (by omega)]
          exact Evt.ifn hin (next o' ho' h1 (by omega))
    refine Evt.succ ?_
    simp only [edf_Missed.l1]
    rw [hx]
    simp only []
    refine Evt.ifp (by omega) (Evt.ifp (by omega) (Evt.ifp (by simp; omega) ?_))
    have hz0 := hz i (Nat.le_refl _) hil
    exact periods (pl.length + 1) ((It l).s i) o (by omega) (by omega) (by omega) (by omega) ho (fun _ _ _ => rfl) (by omega) (by omega) (by rw [hz0]; unfold missI; omega)

theorem Missed_evt (l : List S43) (hl : l.length ≤ 140737488351232) (pl : List Int) :
    ∃ o e, Evt (fun k => edf_Missed.f k (l.map cv) pl) (o, opt e) ∧ MissIs l pl o e := by
  unfold edf_Missed.f
  by_cases h1 : (pl.length : Int) > 4096
  · exact ⟨[], 1, Evt.ifp h1 (Evt.pure fun _ => rfl), .inl ⟨.inl (by omega), rfl, rfl⟩⟩
  · have check : ∀ (d i : Nat), i + d = pl.length → (∀ t, t < i → ¬ (rd pl (t : Nat) < -1 ∨ (l.length : Int) ≤ rd pl (t : Nat))) →
        ∃ o e, Evt (fun k => edf_Missed.l0 k (l.map cv) pl pl (pl.length : Int) i) (o, opt e) ∧ MissIs l pl o e := by
      intro d
      induction d with
      | zero =>
        intro i hi ha
        have hnb : ¬ (4096 < pl.length ∨ Bad pl l.length) := by
          rintro (h | ⟨t, ht, hb⟩)
          · omega
          · exact ha t (by omega) hb
        have hV := edf_Valid_evt l hl
        by_cases hv : vLL l = 0
        · rw [hv, opt_zero] at hV
          have hm : l.length ≤ 64 := (It_fine hv).1
          refine ⟨_, 0, Evt.succ ?_, .inr (.inr ⟨hnb, hv, rfl, rfl⟩)⟩
          simp only [edf_Missed.l0]
          refine Evt.ifn (by omega) (Evt.bind hV (Evt.ifp rfl ?_))
          rw [List.length_map]
          refine Evt.ifp (by omega) (Evt.ifp (by omega) ?_)
          exact missed_items l hv pl (by omega) l.length 0 _ (by omega) (by simp) (fun j hj => by omega) (fun j _ hj => by
            rw [rdI (by simp; omega)]; simp)
        · rw [opt_pos hv] at hV
          refine ⟨[], vLL l, Evt.succ ?_, .inr (.inl ⟨hnb, hv, rfl, rfl⟩)⟩
          simp only [edf_Missed.l0]
          rw [opt_pos hv]
          exact Evt.ifn (by omega) (Evt.bind hV (Evt.ifn (by simp) (Evt.pure fun _ => rfl)))
      | succ d ih =>
        intro i hi ha
        by_cases hb1 : rd pl (i : Nat) < -1
        · refine ⟨[], 1, Evt.succ ?_, .inl ⟨.inr ⟨i, by omega, .inl hb1⟩, rfl, rfl⟩⟩
          simp only [edf_Missed.l0]
          exact Evt.ifp (by omega) (Evt.ifp (by omega) (Evt.ifp (by omega) (Evt.ifp hb1 (Evt.pure fun _ => rfl))))
        · by_cases hb2 : rd pl (i : Nat) ≥ (l.length : Int)
          · refine ⟨[], 1, Evt.succ ?_, .inl ⟨.inr ⟨i, by omega, .inr hb2⟩, rfl, rfl⟩⟩
            simp only [edf_Missed.l0]
            rw [List.length_map]
            exact Evt.ifp (by omega) (Evt.ifp (by omega) (Evt.ifp (by omega) (Evt.ifn hb1 (Evt.ifp hb2 (Evt.pure fun _ => rfl)))))
          · obtain ⟨o, e, ho, hoe⟩ := ih (i + 1) (by omega) (fun t ht => by
              by_cases h : t = i
              · rw [h]; rintro (h | h)
                · exact hb1 h
                · exact hb2 h
              · exact ha t (by omega))
            refine ⟨o, e, Evt.succ ?_, hoe⟩
            simp only [edf_Missed.l0]
            rw [w1 i (by omega)]
            exact Evt.ifp (by omega) (Evt.ifp (by omega) (Evt.ifp (by omega) (Evt.ifn hb1 (Evt.ifn (by rw [List.length_map]; exact hb2) ho))))
    obtain ⟨o, e, ho, hoe⟩ := check pl.length 0 (by omega) (fun t ht => by omega)
    exact ⟨o, e, Evt.ifn h1 ho, hoe⟩
end Go.Proofs.YthhaikkicabplaaR.Pure
