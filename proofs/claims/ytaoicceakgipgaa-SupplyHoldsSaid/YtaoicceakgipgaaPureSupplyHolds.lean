/- Proved: the law SupplyHolds over its printed function: no stretch of a supply has less than Least, none more than Most, no gap is longer than Gap. No conditions. -/
import Derived.Test.YtaoicceakgipgaaXx4
import Derived.Test.YtaoicceakgipgaaSupplyBase
namespace Go.Proofs.Ytaoicceakgipgaa.Pure
open Go Go.RowKit Tithe Go.Proofs.Ytaoicceakgipgaa.X Go.Proofs.YtaoicceakgipgaaW.PrintWords Go.Proofs.YtaoicceakgipgaaW.PrintLast Go.Proofs.YtaoicceakgipgaaW.PrintMore

/-- it answers a row of five periods -/
def Good (P Q : Nat) (g : Nat → Option (List Bool)) : Prop := ∃ row, Evt g row ∧ Periods P Q 5 row
theorem Good.succ {P Q : Nat} {g : Nat → Option (List Bool)} (h : Good P Q (fun k => g (k + 1))) : Good P Q g := by
  obtain ⟨r, h, h2⟩ := h; exact ⟨r, h.succ, h2⟩
theorem Good.ifp {P Q : Nat} {c : Prop} [Decidable c] {a b : Nat → Option (List Bool)} (h : c) (h2 : Good P Q a) : Good P Q (fun k => if c then a k else b k) := by
  obtain ⟨r, h1, h3⟩ := h2; exact ⟨r, Evt.ifp h h1, h3⟩
theorem Good.ifn {P Q : Nat} {c : Prop} [Decidable c] {a b : Nat → Option (List Bool)} (h : ¬ c) (h2 : Good P Q b) : Good P Q (fun k => if c then a k else b k) := by
  obtain ⟨r, h1, h3⟩ := h2; exact ⟨r, Evt.ifn h h1, h3⟩

/-- a period in which j places from a place on are given -/
def Filled (P at_ j : Nat) (l : List Bool) : Prop := l.length = P ∧ ct l = j ∧ ∀ i (h : i < l.length), l[i] = true → ∃ j', j' < j ∧ (at_ + j') % P = i

theorem filled_zero (P at_ : Nat) : Filled P at_ 0 (List.replicate P false) :=
  ⟨by simp, ct_replicate_false P, fun i h hi => by simp at hi⟩

theorem mod_apart {P a j j' : Nat} (h : j' < j) (hj : j < P) : (a + j') % P ≠ (a + j) % P := by
  intro e
  have h1 := Nat.div_add_mod (a + j') P
  have h2 := Nat.div_add_mod (a + j) P
  rw [e] at h1
  have h3 : P * ((a + j) / P) = P * ((a + j') / P) + (j - j') := by omega
  have h4 : P * ((a + j) / P - (a + j') / P) = j - j' := by rw [Nat.mul_sub]; omega
  rcases Nat.eq_zero_or_pos ((a + j) / P - (a + j') / P) with h5 | h5
  · rw [h5] at h4; omega
  · have : P * 1 ≤ P * ((a + j) / P - (a + j') / P) := Nat.mul_le_mul_left _ h5
    omega

theorem filled_step {P at_ j : Nat} {l : List Bool} (h : Filled P at_ j l) (hj : j < P) : Filled P at_ (j + 1) (l.set ((at_ + j) % P) true) := by
  obtain ⟨h1, h2, h3⟩ := h
  have hP : (at_ + j) % P < l.length := by rw [h1]; exact Nat.mod_lt _ (by omega)
  have hf : l[(at_ + j) % P] = false := by
    cases hb : l[(at_ + j) % P] with
    | false => rfl
    | true => obtain ⟨j', h4, h5⟩ := h3 _ hP hb; exact absurd h5 (mod_apart h4 hj)
  refine ⟨by simp [h1], by rw [ct_set _ _ hP hf, h2], fun i hi hb => ?_⟩
  rw [List.getElem_set] at hb
  by_cases e : (at_ + j) % P = i
  · exact ⟨j, by omega, e⟩
  · rw [if_neg e] at hb
    obtain ⟨j', h4, h5⟩ := h3 i (by simpa using hi) hb
    exact ⟨j', by omega, h5⟩

theorem l1_good (pl : List Int) (P Q : Nat) (hP : 1 ≤ P) (hP9 : P ≤ 9) (hQ : Q ≤ P) (x2 x8 : Int) (x7 : List Bool) (hx7 : x7.length ≤ 45) (at_ : Nat) (hat : at_ < P)
    (next : ∀ b, b.length = P → ct b = Q → Good P Q (fun k => tithelaw21_given.l0 k pl x2 (x7 ++ b) (wrap64 (x8 + 1)) Q P)) :
    ∀ (d j : Nat) (l : List Bool), j + d = Q → Filled P at_ j l → Good P Q (fun k => tithelaw21_given.l1 k pl x2 x7 x8 l at_ j Q P) := by
  intro d
  induction d with
  | zero =>
    intro j l h hf
    refine Good.succ ?_
    simp only [tithelaw21_given.l1]
    refine Good.ifn (by omega) (Good.ifp ?_ (next l hf.1 (by rw [hf.2.1]; omega)))
    rw [hf.1]; omega
  | succ d ih =>
    intro j l h hf
    refine Good.succ ?_
    simp only [tithelaw21_given.l1]
    have e : Int.tmod (wrap64 ((at_ : Int) + (j : Int))) (P : Int) = (((at_ + j) % P : Nat) : Int) := by
      rw [w64 (by omega) (by omega), tmod_pos (by omega)]; rfl
    have hlt := Nat.mod_lt (at_ + j) (show P > 0 by omega)
    rw [e, w64 (n := (j : Int) + 1) (by omega) (by omega)]
    refine Good.ifp (by omega) (Good.ifn (by omega) (Good.ifp (by omega) (Good.ifp (by rw [hf.1]; omega) ?_)))
    have := ih (j + 1) _ (by omega) (filled_step hf (by omega))
    rw [show ((j + 1 : Nat) : Int) = (j : Int) + 1 by omega] at this
    exact this

theorem given_good (pl : List Int) (hpl : pl.length * 8 ≤ 140737488351232) (P Q : Nat) (hP : 1 ≤ P) (hP9 : P ≤ 9) (hQ : Q ≤ P) :
    ∀ (d n : Nat) (l : List Bool), n + d = 5 → Periods P Q n l → Good P Q (fun k => tithelaw21_given.l0 k pl 5 l n Q P) := by
  intro d
  induction d with
  | zero =>
    intro n l h hp
    obtain rfl : n = 5 := by omega
    refine Good.succ ?_
    simp only [tithelaw21_given.l0]
    exact Good.ifn (by omega) ⟨l, Evt.pure fun _ => rfl, hp⟩
  | succ d ih =>
    intro n l h hp
    refine Good.succ ?_
    simp only [tithelaw21_given.l0]
    have hlen := hp.length
    have hn5 : n * P ≤ 5 * 9 := Nat.mul_le_mul (by omega) (by omega)
    have next : ∀ b, b.length = P → ct b = Q → Good P Q (fun k => tithelaw21_given.l0 k pl 5 (l ++ b) (wrap64 ((n : Int) + 1)) Q P) := by
      intro b h1 h2
      have := ih (n + 1) (l ++ b) (by omega) ⟨l, b, rfl, hp, h1, h2⟩
      rw [w64 (by omega) (by omega)]
      rw [show ((n + 1 : Nat) : Int) = (n : Int) + 1 by omega] at this
      exact this
    have e : (P : Int).toNat = P := by omega
    refine Good.ifp (by omega) (Good.ifp (by omega) (Good.ifp (by omega) ?_))
    simp only [Option.bind_some]
    rw [e]
    by_cases hz : (pl.length : Int) > 0
    · refine Good.ifp hz (Good.ifn (by omega) (Good.ifp ?_ (Good.ifp ?_ (Good.ifn ?_ ?_))))
      · rw [tmod_pos (by omega)]; exact Int.emod_nonneg _ (by omega)
      · rw [tmod_pos (by omega)]; exact Int.emod_lt_of_pos _ hz
      · rw [u64_same (by omega) (by omega)]; omega
      · generalize rd pl _ = z
        have hm := umod (n := z) (c := P) (by omega) (by omega)
        rw [u64_same (n := (P : Int)) (by omega) (by omega)]
        obtain ⟨a, ha⟩ : ∃ a : Nat, wrap64 (Int.tmod (IntKind.u64.wrap z) (P : Int)) = a := ⟨(wrap64 (Int.tmod (IntKind.u64.wrap z) (P : Int))).toNat, by omega⟩
        rw [ha] at hm ⊢
        refine Good.succ ?_
        simp only [tithelaw21_given.j1]
        exact l1_good pl P Q hP hP9 hQ 5 n l (by omega) a (by omega) next Q 0 _ (by omega) (filled_zero P a)
    · refine Good.ifn hz (Good.succ ?_)
      simp only [tithelaw21_given.j1]
      exact l1_good pl P Q hP hP9 hQ 5 n l (by omega) 0 (by omega) next Q 0 _ (by omega) (filled_zero P 0)

/-- what a stretch of such a row has -/
theorem stretch {P Q : Nat} {row : List Bool} (hP : 1 ≤ P) (hQ : 1 ≤ Q) (hQP : Q ≤ P) (h : Periods P Q 5 row) (from_ t : Nat) (hft : from_ + t ≤ row.length) :
    lst Q P t ≤ ct ((row.take (from_ + t)).drop from_) ∧ (ct ((row.take (from_ + t)).drop from_) : Int) ≤ t - lst (P - Q) P t ∧
      ((ct ((row.take (from_ + t)).drop from_) : Int) = 0 → (t : Int) ≤ 2 * (P - Q)) := by
  have hl := h.length
  have ec := ct_take_drop (row.take (from_ + t)) from_
  rw [List.take_take, Nat.min_eq_left (by omega)] at ec
  have e1 := Nat.div_add_mod from_ P
  have e2 := Nat.div_add_mod (from_ + t) P
  have r1 := Nat.mod_lt from_ (show P > 0 by omega)
  have r2 := Nat.mod_lt (from_ + t) (show P > 0 by omega)
  rw [Nat.mul_comm] at e1 e2
  have p1 := h.part (from_ / P) (from_ % P) r1 (by rw [e1]; omega)
  have p2 := h.part ((from_ + t) / P) ((from_ + t) % P) r2 (by rw [e2]; omega)
  rw [e1] at p1
  rw [e2] at p2
  have hd : from_ / P ≤ (from_ + t) / P := Nat.div_le_div_right (by omega)
  have hCt : ct ((row.take (from_ + t)).drop from_) ≤ t := by
    have := ct_le ((row.take (from_ + t)).drop from_)
    rw [List.length_drop, List.length_take] at this
    omega
  generalize ct (row.take from_) = A at *
  generalize ct (row.take (from_ + t)) = B at *
  generalize ct ((row.take (from_ + t)).drop from_) = C at *
  generalize hm : from_ / P = m at *
  generalize hr : from_ % P = r at *
  generalize hm' : (from_ + t) / P = m' at *
  generalize hr' : (from_ + t) % P = r' at *
  obtain ⟨d, rfl⟩ : ∃ d, m' = m + d := ⟨m' - m, by omega⟩
  have q1 : ((m * Q : Nat) : Int) = (m : Int) * Q := by simp
  have q2 : (((m + d) * Q : Nat) : Int) = ((m : Int) + d) * Q := by simp
  have q3 : ((m * P : Nat) : Int) = (m : Int) * P := by simp
  have q4 : (((m + d) * P : Nat) : Int) = ((m : Int) + d) * P := by simp
  have lower : lst Q P t ≤ (B : Int) - A := by
    refine window (m := m) (d := d) (r := r) (r' := r') (by omega) (by omega) (by omega) (by omega) (by omega) (by omega) (by omega) (by omega) (by omega) ?_ (by omega) (by omega)
    by_cases h0 : r' = 0
    · omega
    · have := p2.2.2.2.1; rw [if_neg h0] at this; omega
  have upper : lst (P - Q) P t ≤ (((from_ + t : Nat) : Int) - B) - (from_ - A) := by
    refine window (m := m) (d := d) (r := r) (r' := r') (by omega) (by omega) (by omega) (by omega) (by omega) (by omega) ?_ ?_ ?_ ?_ ?_ (by omega)
    · rw [Int.mul_sub]
      by_cases h0 : r = 0
      · have := p1.2.2.2.2 h0; omega
      · have := p1.2.2.2.1; rw [if_neg h0] at this; omega
    · rw [Int.mul_sub]; omega
    · rw [Int.mul_sub]; omega
    · rw [Int.mul_sub]; omega
    · omega
  refine ⟨by omega, by omega, fun h0 => ?_⟩
  by_cases hg : (t : Int) ≤ 2 * (P - Q)
  · exact hg
  · have := (lst_ge_iff (q := Q) (p := P) (n := 1) (t := t) (by omega) (by omega) (by omega)).2 (by
      unfold wt; simp; omega)
    omega

theorem loops {P Q : Nat} {row : List Bool} (hP : 1 ≤ P) (hP9 : P ≤ 9) (hQ : 1 ≤ Q) (hQP : Q ≤ P) (h : Periods P Q 5 row) :
    ∀ (d t : Nat), t + d = row.length + 1 → Evt (fun k => tithelaw21_SupplyHolds.l0 k row (2 * (P - Q)) t Q P) true := by
  have hl : row.length ≤ 45 := by rw [h.length]; exact Nat.mul_le_mul (Nat.le_refl 5) hP9
  intro d
  induction d with
  | zero =>
    intro t ht
    refine Evt.succ ?_
    simp only [tithelaw21_SupplyHolds.l0]
    refine Evt.ifn (by omega) (Evt.call sure_ok (Evt.pure fun _ => rfl))
  | succ d ih =>
    intro t ht
    have inner : ∀ (e f : Nat), f + e = row.length + 1 - t → Evt (fun k => tithelaw21_SupplyHolds.l1 k row (2 * (P - Q)) t (lst Q P t) (t - lst (P - Q) P t) f Q P) true := by
      intro e
      induction e with
      | zero =>
        intro f hf
        refine Evt.succ ?_
        simp only [tithelaw21_SupplyHolds.l1]
        rw [w64 (n := (f : Int) + t) (by omega) (by omega), w64 (n := (t : Int) + 1) (by omega) (by omega)]
        refine Evt.ifn (by omega) ?_
        have := ih (t + 1) (by omega)
        rwa [show ((t + 1 : Nat) : Int) = (t : Int) + 1 by omega] at this
      | succ e ihe =>
        intro f hf
        refine Evt.succ ?_
        simp only [tithelaw21_SupplyHolds.l1]
        rw [w64 (n := (f : Int) + t) (by omega) (by omega), w64 (n := (f : Int) + 1) (by omega) (by omega)]
        refine Evt.ifp (by omega) (Evt.ifp (by omega) (Evt.ifp (by omega) ?_))
        rw [show ((f : Int) + t).toNat = f + t by omega, show (f : Int).toNat = f by omega]
        have hs := stretch hP hQ hQP h f t (by omega)
        have next := ihe (f + 1) (by omega)
        rw [show ((f + 1 : Nat) : Int) = (f : Int) + 1 by omega] at next
        refine Evt.bind (count_evt _ (by rw [List.length_drop, List.length_take]; omega)) (Evt.ifn (by omega) (Evt.ifn (by omega) ?_))
        by_cases h0 : (ct ((row.take (f + t)).drop f) : Int) = 0
        · have := hs.2.2 h0
          refine Evt.ifp h0 (Evt.ifn (by omega) next)
        · exact Evt.ifn h0 next
    refine Evt.succ ?_
    simp only [tithelaw21_SupplyHolds.l0]
    refine Evt.ifp (by omega) (Evt.call (Least_ok (by omega) (by omega) (by omega) (by omega) (by omega)) (Evt.call (Most_ok (by omega) (by omega) (by omega) (by omega) (by omega)) ?_))
    simp only [Option.isNone_none, if_true]
    refine Evt.succ ?_
    simp only [tithelaw21_SupplyHolds.j1]
    refine Evt.ifn (by simp) ?_
    have := inner (row.length + 1 - t) 0 (by omega)
    exact this

theorem SupplyHolds : tithelaw21_SupplyHolds.Pure := by
  intro q p pl _ _ _ hpl _
  refine Evt.ex ?_
  have hp := umod (n := p) (c := 9) (by omega) (by omega)
  obtain ⟨p', hp'⟩ : ∃ p' : Nat, wrap64 (Int.tmod (IntKind.u64.wrap p) 9) = p' := ⟨(wrap64 (Int.tmod (IntKind.u64.wrap p) 9)).toNat, by omega⟩
  unfold tithelaw21_SupplyHolds.f
  rw [hp'] at hp ⊢
  rw [w64 (n := 1 + (p' : Int)) (by omega) (by omega), u64_same (n := 1 + (p' : Int)) (by omega) (by omega)]
  have hq := umod (n := q) (c := 1 + (p' : Int)) (by omega) (by omega)
  obtain ⟨q', hq'⟩ : ∃ q' : Nat, wrap64 (Int.tmod (IntKind.u64.wrap q) (1 + (p' : Int))) = q' := ⟨(wrap64 (Int.tmod (IntKind.u64.wrap q) (1 + (p' : Int)))).toNat, by omega⟩
  rw [hq'] at hq ⊢
  rw [w64 (n := 1 + (q' : Int)) (by omega) (by omega)]
  obtain ⟨row, hrow, hper⟩ := given_good pl hpl (1 + p') (1 + q') (by omega) (by omega) (by omega) 5 0 [] (by omega) (by simp [Periods])
  rw [show ((1 + p' : Nat) : Int) = 1 + (p' : Int) by omega, show ((1 + q' : Nat) : Int) = 1 + (q' : Int) by omega] at hrow
  refine Evt.ifn (by omega) (Evt.bind (a := row) ?_ ?_)
  · simpa [tithelaw21_given.f] using hrow
  · have hg : supply_Gap.f (1 + (q' : Int)) (1 + (p' : Int)) = some (2 * ((1 + (p' : Int)) - (1 + (q' : Int))), none) := by
      unfold supply_Gap.f
      rw [valid_ok (by omega) (by omega) (by omega)]
      simp only [Option.bind_some, Option.isNone_none, if_true]
      rw [w64 (n := 1 + (p' : Int) - (1 + (q' : Int))) (by omega) (by omega), w64 (by omega) (by omega)]
    refine Evt.call hg ?_
    simp only [Option.isNone_none, if_true]
    have := loops (P := 1 + p') (Q := 1 + q') (by omega) (by omega) (by omega) (by omega) hper (row.length + 1) 0 (by omega)
    rw [show ((1 + p' : Nat) : Int) = 1 + (p' : Int) by omega, show ((1 + q' : Nat) : Int) = 1 + (q' : Int) by omega] at this
    exact this
end Go.Proofs.Ytaoicceakgipgaa.Pure
