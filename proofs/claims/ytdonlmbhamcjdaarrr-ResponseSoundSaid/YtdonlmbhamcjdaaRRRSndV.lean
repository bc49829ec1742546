/- The row of ticks of a reservation, and what it brings in any stretch: never less than the least supply. No conditions. -/
import Derived.Test.YtdonlmbhamcjdaaRRRSndU
import Derived.Test.YtdonlmbhamcjdaaRRRJx13
namespace Go.Proofs.YtdonlmbhamcjdaaRRR.Pure
open Go Go.RowKit Tithe Go.Proofs.YtdonlmbhamcjdaaRRR.Ply Go.Proofs.YtdonlmbhamcjdaaRRR.J Go.Proofs.YtdonlmbhamcjdaaRRRW.PrintWords Go.Proofs.YtdonlmbhamcjdaaRRRW.PrintLast Go.Proofs.YtdonlmbhamcjdaaRRRW.PrintMore
set_option linter.unusedVariables false
theorem getD_set {row : List Bool} {v u : Nat} (hv : v < row.length) : (row.set v true).getD u false = true ↔ row.getD u false = true ∨ u = v := by
  rw [List.getD_eq_getElem?_getD, List.getD_eq_getElem?_getD, List.getElem?_set]
  by_cases e : v = u
  · subst e; simp [hv]
  · rw [if_neg e]
    constructor
    · exact fun h => .inl h
    · rintro (h | h)
      · exact h
      · exact absurd h.symm e
theorem divmod {P k r : Nat} (h : r < P) : (k * P + r) / P = k ∧ (k * P + r) % P = r := by
  rw [Nat.add_comm]
  exact ⟨by rw [Nat.add_mul_div_right _ _ (by omega), Nat.div_eq_of_lt h, Nat.zero_add], by rw [Nat.add_mul_mod_self_right, Nat.mod_eq_of_lt h]⟩
theorem tk_inner {P Q n : Nat} {ws : List Int} (hQ : 1 ≤ Q) (hQP : Q ≤ P) (hP : P ≤ 200) (hn : n ≤ 1500) {a s : Nat} (ha : a < n) (hs : s + Q ≤ P) {row r : List Bool}
    (hc : ∀ row', row'.length = n → (∀ u, u < n → (row'.getD u false = true ↔ row.getD u false = true ∨ (a + s ≤ u ∧ u < a + s + Q))) → Evt (fun k => tithelaw22_ticks.l0 k row' ((a + P : Nat) : Int) (Q : Int) (P : Int) ws (n : Int)) r) :
    ∀ (d j : Nat) (row1 : List Bool), j + d = Q → row1.length = n → (∀ u, u < n → (row1.getD u false = true ↔ row.getD u false = true ∨ (a + s ≤ u ∧ u < a + s + j))) → Evt (fun k => tithelaw22_ticks.l1 k row1 (a : Int) (s : Int) (j : Int) (Q : Int) (P : Int) ws (n : Int)) r := by
  intro d
  induction d with
  | zero =>
    intro j row1 hj hl h
    refine Evt.succ ?_
    simp only [tithelaw22_ticks.l1]
    refine Evt.ifn (by omega) ?_
    rw [w64 (n := (a : Int) + (P : Int)) (by omega) (by omega), show (a : Int) + (P : Int) = ((a + P : Nat) : Int) by omega]
    obtain rfl : j = Q := by omega
    exact hc row1 hl h
  | succ d ih =>
    intro j row1 hj hl h
    refine Evt.succ ?_
    simp only [tithelaw22_ticks.l1]
    rw [w64 (n := (a : Int) + (s : Int)) (by omega) (by omega), w64 (n := (a : Int) + (s : Int) + (j : Int)) (by omega) (by omega), w1 j (by omega)]
    refine Evt.ifp (by omega) ?_
    by_cases hlt : (a : Int) + (s : Int) + (j : Int) < (n : Int)
    · refine Evt.ifp hlt (Evt.ifp (by omega) (Evt.ifp (by omega) (ih (j + 1) _ (by omega) (by rw [List.length_set]; exact hl) ?_)))
      rw [show ((a : Int) + (s : Int) + (j : Int)).toNat = a + s + j by omega]
      intro u hu
      rw [getD_set (by omega), h u hu, or_assoc]
      refine or_congr_right ?_
      omega
    · refine Evt.ifn hlt (ih (j + 1) _ (by omega) hl ?_)
      intro u hu
      rw [h u hu]
      refine or_congr_right ?_
      omega
/-- where the ticks lie: m periods so far -/
def Tk (P Q n m : Nat) (row : List Bool) (sh : Nat → Nat) : Prop := row.length = n ∧ (∀ i, sh i + Q ≤ P) ∧ ∀ u, u < n → (row.getD u false = true ↔ (u / P < m ∧ sh (u / P) ≤ u % P ∧ u % P < sh (u / P) + Q))
theorem Tk.step {P Q n m s : Nat} {row row' : List Bool} {sh : Nat → Nat} (h : Tk P Q n m row sh) (hP : 1 ≤ P) (hs : s + Q ≤ P) (hl : row'.length = n) (h' : ∀ u, u < n → (row'.getD u false = true ↔ row.getD u false = true ∨ (m * P + s ≤ u ∧ u < m * P + s + Q))) : Tk P Q n (m + 1) row' (fun i => if i = m then s else sh i) := by
  refine ⟨hl, fun i => ?_, fun u hu => ?_⟩
  · show (if i = m then s else sh i) + Q ≤ P
    split
    · exact hs
    · exact h.2.1 i
  · rw [h' u hu, h.2.2 u hu]
    show _ ↔ (u / P < m + 1 ∧ (if u / P = m then s else sh (u / P)) ≤ u % P ∧ u % P < (if u / P = m then s else sh (u / P)) + Q)
    have e := Nat.div_add_mod u P
    have hr := Nat.mod_lt u (show 0 < P by omega)
    generalize u / P = k at *
    generalize u % P = r at *
    rw [Nat.mul_comm] at e
    by_cases hk : k = m
    · subst hk
      rw [if_pos rfl]
      omega
    · rw [if_neg hk]
      constructor
      · rintro (h1 | h1)
        · exact ⟨by omega, h1.2⟩
        · exfalso
          rcases Nat.lt_or_gt_of_ne hk with h2 | h2
          · have := Nat.mul_le_mul_right P (show k + 1 ≤ m by omega)
            rw [Nat.add_mul] at this
            omega
          · have := Nat.mul_le_mul_right P (show m + 1 ≤ k by omega)
            rw [Nat.add_mul] at this
            omega
      · rintro ⟨h1, h2⟩
        exact .inl ⟨by omega, h2⟩
theorem tk_outer {P Q n : Nat} {ws : List Int} (hQ : 1 ≤ Q) (hQP : Q ≤ P) (hP : P ≤ 200) (hn : n ≤ 1500) :
    ∀ (d m : Nat) (row : List Bool) (sh : Nat → Nat), n ≤ m * P + d → Tk P Q n m row sh → ∃ M row' sh', Evt (fun k => tithelaw22_ticks.l0 k row ((m * P : Nat) : Int) (Q : Int) (P : Int) ws (n : Int)) row' ∧ n ≤ M * P ∧ Tk P Q n M row' sh' := by
  intro d
  induction d with
  | zero =>
    intro m row sh hd h
    refine ⟨m, row, sh, Evt.succ ?_, by omega, h⟩
    simp only [tithelaw22_ticks.l0]
    exact Evt.ifn (by omega) (Evt.pure fun _ => rfl)
  | succ d ih =>
    intro m row sh hd h
    by_cases hlt : m * P < n
    · have hsm : (m + 1) * P = m * P + P := Nat.succ_mul m P
      have way : ∀ v : Int, ∃ s : Nat, s + Q ≤ P ∧ ∀ r, Evt (fun k => tithelaw22_ticks.l1 k row ((m * P : Nat) : Int) (s : Int) 0 (Q : Int) (P : Int) ws (n : Int)) r → Evt (fun k => tithelaw22_ticks.j1 k row ((m * P : Nat) : Int) v (Q : Int) (P : Int) ws (n : Int)) r := by
        intro v
        have e1 : wrap64 ((P : Int) - (Q : Int)) = (P : Int) - (Q : Int) := w64 (by omega) (by omega)
        have e2 : wrap64 ((P : Int) - (Q : Int) + 1) = (P : Int) - (Q : Int) + 1 := w64 (by omega) (by omega)
        by_cases c1 : (Int.tmod (wrap64 ((Int.tmod v 3) + 3)) 3) = 1
        · refine ⟨P - Q, by omega, fun r hr => Evt.succ ?_⟩
          simp only [tithelaw22_ticks.j1]
          refine Evt.ifp c1 (Evt.succ ?_)
          simp only [tithelaw22_ticks.j2]
          rw [e1, show (P : Int) - (Q : Int) = ((P - Q : Nat) : Int) by omega]
          exact hr
        · by_cases c2 : (Int.tmod (wrap64 ((Int.tmod v 3) + 3)) 3) = 2
          · obtain ⟨z, hz⟩ : ∃ z, z = Int.tmod (wrap64 (Int.tdiv v 3)) ((P : Int) - (Q : Int) + 1) := ⟨_, rfl⟩
            have hz1 : z < (P : Int) - (Q : Int) + 1 := by rw [hz]; exact Int.tmod_lt_of_pos _ (by omega)
            have hz2 : -((P : Int) - (Q : Int) + 1) < z := by rw [hz]; exact Int.lt_tmod_of_pos _ (by omega)
            have e3 : wrap64 (z + (P : Int)) = z + (P : Int) := w64 (by omega) (by omega)
            have h1 : 0 ≤ Int.tmod (z + (P : Int)) ((P : Int) - (Q : Int) + 1) := Int.tmod_nonneg _ (by omega)
            have h2 : Int.tmod (z + (P : Int)) ((P : Int) - (Q : Int) + 1) < (P : Int) - (Q : Int) + 1 := Int.tmod_lt_of_pos _ (by omega)
            refine ⟨(Int.tmod (z + (P : Int)) ((P : Int) - (Q : Int) + 1)).toNat, by omega, fun r hr => Evt.succ ?_⟩
            rw [Int.toNat_of_nonneg h1] at hr
            simp only [tithelaw22_ticks.j1]
            rw [e1, e2, ← hz, e3]
            refine Evt.ifn c1 (Evt.ifp c2 (Evt.ifn (by omega) (Evt.succ ?_)))
            simp only [tithelaw22_ticks.j2]
            exact hr
          · refine ⟨0, by omega, fun r hr => Evt.succ ?_⟩
            simp only [tithelaw22_ticks.j1]
            refine Evt.ifn c1 (Evt.ifn c2 (Evt.succ ?_))
            simp only [tithelaw22_ticks.j2]
            exact hr
      have go : ∀ v : Int, ∃ M row' sh', Evt (fun k => tithelaw22_ticks.j1 k row ((m * P : Nat) : Int) v (Q : Int) (P : Int) ws (n : Int)) row' ∧ n ≤ M * P ∧ Tk P Q n M row' sh' := by
        intro v
        obtain ⟨s, hs, hw⟩ := way v
        obtain ⟨row1, hl1, hc1⟩ : ∃ row1 : List Bool, row1.length = n ∧ ∀ u, u < n → (row1.getD u false = true ↔ row.getD u false = true ∨ (m * P + s ≤ u ∧ u < m * P + s + Q)) := by
          refine ⟨(List.range n).map fun u => row.getD u false || decide (m * P + s ≤ u ∧ u < m * P + s + Q), by simp, fun u hu => ?_⟩
          rw [List.getD_eq_getElem?_getD, List.getElem?_map, List.getElem?_range hu]
          simp
        have huniq : ∀ row2 : List Bool, row2.length = n → (∀ u, u < n → (row2.getD u false = true ↔ row.getD u false = true ∨ (m * P + s ≤ u ∧ u < m * P + s + Q))) → row2 = row1 := by
          intro row2 hl2 hc2
          apply List.ext_getElem
          · omega
          · intro u h1 h2
            have a1 := hc1 u (by omega)
            have a2 := hc2 u (by omega)
            rw [← a1] at a2
            have e1 : row1.getD u false = row1[u] := by simp [List.getD, h2]
            have e2 : row2.getD u false = row2[u] := by simp [List.getD, h1]
            rw [e1, e2] at a2
            exact Bool.eq_iff_iff.2 a2
        obtain ⟨M, row', sh', y1, y2, y3⟩ := ih (m + 1) row1 _ (by omega) (h.step (by omega) hs hl1 hc1)
        refine ⟨M, row', sh', hw row' ?_, y2, y3⟩
        refine tk_inner hQ hQP hP hn hlt hs (fun row2 hl2 hc2 => ?_) Q 0 row (by omega) h.1 (fun u hu => by
          constructor
          · exact fun hh => .inl hh
          · rintro (hh | hh)
            · exact hh
            · omega)
        rw [huniq row2 hl2 hc2, ← hsm]
        exact y1
      by_cases hw : 0 < ws.length
      · have hm1 : m ≤ m * P := Nat.le_mul_of_pos_right m (by omega)
        have e1 : wrap64 (Int.tdiv ((m * P : Nat) : Int) (P : Int)) = (m : Int) := by
          rw [Int.tdiv_eq_ediv_of_nonneg (by omega), show ((m * P : Nat) : Int) = (m : Int) * (P : Int) by simp, Int.mul_ediv_cancel _ (by omega)]
          exact w64 (by omega) (by omega)
        have h1 : 0 ≤ Int.tmod (m : Int) (ws.length : Int) := Int.tmod_nonneg _ (by omega)
        have h2 : Int.tmod (m : Int) (ws.length : Int) < (ws.length : Int) := Int.tmod_lt_of_pos _ (by omega)
        obtain ⟨M, row', sh', y1, y2, y3⟩ := go (rd ws (Int.tmod (m : Int) (ws.length : Int)))
        refine ⟨M, row', sh', Evt.succ ?_, y2, y3⟩
        simp only [tithelaw22_ticks.l0]
        rw [e1]
        exact Evt.ifp (by omega) (Evt.ifp (by omega) (Evt.ifn (by omega) (Evt.ifn (by omega) (Evt.ifp h1 (Evt.ifp h2 y1)))))
      · obtain ⟨M, row', sh', y1, y2, y3⟩ := go 0
        refine ⟨M, row', sh', Evt.succ ?_, y2, y3⟩
        simp only [tithelaw22_ticks.l0]
        exact Evt.ifp (by omega) (Evt.ifn (by omega) y1)
    · refine ⟨m, row, sh, Evt.succ ?_, by omega, h⟩
      simp only [tithelaw22_ticks.l0]
      exact Evt.ifn (by omega) (Evt.pure fun _ => rfl)
theorem sp_add (row : List Bool) (s : Nat) : ∀ d : Nat, sp row 0 (s + d) = sp row 0 s + sp row s d
  | 0 => by simp [sp]
  | d + 1 => by
    have ih := sp_add row s d
    show sp row 0 (s + d) + (if row.getD (0 + (s + d)) false = true then 1 else 0) = sp row 0 s + (sp row s d + if row.getD (s + d) false = true then 1 else 0)
    rw [Nat.zero_add]
    omega
theorem sp_nonneg (row : List Bool) (s : Nat) : ∀ d : Nat, 0 ≤ sp row s d
  | 0 => Int.le_refl _
  | d + 1 => by
    have ih := sp_nonneg row s d
    simp only [sp]
    split <;> omega
theorem sp_zero {P Q n M : Nat} {row : List Bool} {sh : Nat → Nat} (h : Tk P Q n M row sh) (hP : 1 ≤ P) (hM : n ≤ M * P) : ∀ u, u ≤ n → sp row 0 u = (((u / P) * Q + min Q (u % P - sh (u / P)) : Nat) : Int)
  | 0, _ => by simp [sp]
  | u + 1, hu => by
    have ih := sp_zero h hP hM u (by omega)
    show sp row 0 u + (if row.getD (0 + u) false = true then 1 else 0) = _
    rw [Nat.zero_add, ih]
    have hr := Nat.mod_lt u (show 0 < P by omega)
    have e := Nat.div_add_mod u P
    have hb := h.2.2 u (by omega)
    have hkM : u / P < M := by
      rw [Nat.div_lt_iff_lt_mul (by omega)]; omega
    have hsk := h.2.1 (u / P)
    generalize u / P = k at *
    generalize u % P = r at *
    rw [Nat.mul_comm] at e
    by_cases hc : r + 1 < P
    · obtain ⟨d1, d2⟩ := divmod (k := k) hc
      rw [show u + 1 = k * P + (r + 1) by omega, d1, d2]
      by_cases hg : row.getD u false = true
      · have := hb.1 hg
        rw [if_pos hg]; omega
      · have : ¬ (k < M ∧ sh k ≤ r ∧ r < sh k + Q) := fun hh => hg (hb.2 hh)
        rw [if_neg hg]; omega
    · obtain ⟨d1, d2⟩ := divmod (k := k + 1) (show 0 < P by omega)
      have e3 : (k + 1) * P = k * P + P := Nat.succ_mul k P
      have e4 : (k + 1) * Q = k * Q + Q := Nat.succ_mul k Q
      rw [show u + 1 = (k + 1) * P + 0 by omega, d1, d2, e4]
      by_cases hg : row.getD u false = true
      · have := hb.1 hg
        rw [if_pos hg]; omega
      · have : ¬ (k < M ∧ sh k ≤ r ∧ r < sh k + Q) := fun hh => hg (hb.2 hh)
        rw [if_neg hg]; omega
theorem supply_ge {P Q n M : Nat} {row : List Bool} {sh : Nat → Nat} (h : Tk P Q n M row sh) (hQP : Q ≤ P) (hP : 1 ≤ P) (hM : n ≤ M * P) {s d : Nat} (hsd : s + d ≤ n) : lst (Q : Int) (P : Int) (d : Int) ≤ sp row s d := by
  have h1 := sp_zero h hP hM s (by omega)
  have h2 := sp_zero h hP hM (s + d) hsd
  have h3 := sp_add row s d
  have h4 := sp_nonneg row s d
  have r1 := Nat.mod_lt s (show 0 < P by omega)
  have r2 := Nat.mod_lt (s + d) (show 0 < P by omega)
  have e1 := Nat.div_add_mod s P
  have e2 := Nat.div_add_mod (s + d) P
  have k1 := h.2.1 (s / P)
  have k2 := h.2.1 ((s + d) / P)
  rw [Nat.mul_comm] at e1 e2
  generalize s / P = k at *
  generalize s % P = r at *
  generalize (s + d) / P = k' at *
  generalize (s + d) % P = r' at *
  have c1 : (s : Int) = (k : Int) * (P : Int) + (r : Int) := by rw [← e1]; simp
  have c2 : ((s + d : Nat) : Int) = (k' : Int) * (P : Int) + (r' : Int) := by rw [← e2]; simp
  have m1 : ((k * Q : Nat) : Int) = (k : Int) * (Q : Int) := by simp
  have m2 : ((k' * Q : Nat) : Int) = (k' : Int) * (Q : Int) := by simp
  have ee : (k : Int) + ((k' : Int) - (k : Int)) = (k' : Int) := by omega
  have w := window (q := (Q : Int)) (p := (P : Int)) (m := (k : Int)) (d := (k' : Int) - (k : Int)) (r := (r : Int)) (r' := (r' : Int)) (a := sp row 0 s) (b := sp row 0 (s + d)) (t := (d : Int)) (by omega) (by omega) (by omega) (by omega) (by omega) (by omega) (by omega) (by omega) (by rw [ee]; omega) (by rw [ee]; omega) (by omega) (by rw [ee]; omega)
  omega
theorem ticks_evt {q p n : Int} (ws : List Int) (hq : 1 ≤ q) (hqp : q ≤ p) (hp : p ≤ 200) (h0 : 0 ≤ n) (hn : n ≤ 1500) : ∃ row : List Bool, Evt (fun k => tithelaw22_ticks.f k q p ws n) row ∧ (row.length : Int) = n ∧ ∀ s d : Nat, s + d ≤ row.length → lst q p (d : Int) ≤ sp row s d := by
  obtain ⟨Q, rfl⟩ : ∃ Q : Nat, q = (Q : Int) := ⟨q.toNat, by omega⟩
  obtain ⟨P, rfl⟩ : ∃ P : Nat, p = (P : Int) := ⟨p.toNat, by omega⟩
  obtain ⟨N, rfl⟩ : ∃ N : Nat, n = (N : Int) := ⟨n.toNat, by omega⟩
  obtain ⟨M, row, sh, y1, y2, y3⟩ := tk_outer (ws := ws) (P := P) (Q := Q) (n := N) (by omega) (by omega) (by omega) (by omega) N 0 (List.replicate N false) (fun _ => 0) (by omega) ⟨by simp, fun _ => (show 0 + Q ≤ P by omega), fun u hu => by simp [List.getD, hu]⟩
  refine ⟨row, ?_, by rw [y3.1], fun s d hsd => supply_ge y3 (by omega) (by omega) y2 (by rw [y3.1] at hsd; exact hsd)⟩
  unfold tithelaw22_ticks.f
  rw [Int.toNat_natCast]
  refine Evt.ifp (by omega) (Evt.ifp (by omega) ?_)
  rw [Nat.zero_mul] at y1
  exact y1
end Go.Proofs.YtdonlmbhamcjdaaRRR.Pure
