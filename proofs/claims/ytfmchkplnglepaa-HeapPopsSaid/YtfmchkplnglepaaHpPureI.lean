/- A heap in a row, in plain Lean: up and down mend it, the first is the least, what goes in comes out in order. No conditions. -/
import Derived.Test.YtfmchkplnglepaaHpRemI
namespace Go.Proofs.Ytfmchkplnglepaa.HpI
open Go Go.Proofs.Ytfmchkplnglepaa.Hp
set_option linter.unusedVariables false
set_option linter.unusedSimpArgs false
theorem bef_iff (a b : En) : bef a b = true ↔ a.2 < b.2 ∨ (a.2 = b.2 ∧ a.1 < b.1) := by unfold bef; simp
theorem bef_asymm {a b : En} (h : bef a b = true) : bef b a = false := by
  cases h2 : bef b a with
  | false => rfl
  | true => rw [bef_iff] at h h2; omega
theorem bef_trans {a b c : En} (h : bef a b = true) (k : bef b c = true) : bef a c = true := by
  rw [bef_iff] at *; omega
theorem bef_total (a b : En) : bef a b = true ∨ bef b a = true ∨ a = b := by
  rw [bef_iff, bef_iff]
  by_cases h : a = b
  · exact Or.inr (Or.inr h)
  · have : ¬ (a.1 = b.1 ∧ a.2 = b.2) := fun e => h (Prod.ext e.1 e.2)
    omega
theorem bef_irr (a : En) : bef a a = false := by
  cases h : bef a a with
  | false => rfl
  | true => exact (bef_asymm h).symm.trans h |>.symm
/-- not ahead of -/
theorem nb_trans {a b c : En} (h1 : bef a b = false) (h2 : bef b c = false) : bef a c = false := by
  cases h : bef a c with
  | false => rfl
  | true =>
    rcases bef_total b c with h3 | h3 | h3
    · rw [h3] at h2; cases h2
    · rw [bef_trans h h3] at h1; cases h1
    · subst h3; rw [h] at h1; cases h1
theorem bef_nb {a b : En} (h : bef a b = true) : bef b a = false := bef_asymm h
def at' (es : List En) (i : Nat) : En := es.getD i z
def Okk (es : List En) (k : Nat) : Prop := bef (at' es k) (at' es ((k - 1) / 2)) = false
def IsHeap (es : List En) : Prop := ∀ k, 0 < k → k < es.length → Okk es k
def B (es : List En) (i : Nat) : Prop := ∀ k, 0 < k → k < es.length → k ≠ i → (k - 1) / 2 ≠ i → Okk es k
def C (es : List En) (i : Nat) : Prop := ∀ k, 0 < k → k < es.length → (k - 1) / 2 = i → 0 < i → bef (at' es k) (at' es ((i - 1) / 2)) = false
def K (es : List En) (i : Nat) : Prop := ∀ k, 0 < k → k < es.length → (k - 1) / 2 = i → Okk es k
theorem at_swp {es : List En} {i j : Nat} (hi : i < es.length) (hj : j < es.length) (m : Nat) : at' (swp es i j) m = if m = j then at' es i else if m = i then at' es j else at' es m := by
  unfold at' swp
  simp only [List.getD_eq_getElem?_getD, List.getElem?_set, List.length_set]
  by_cases h1 : m = j
  · subst h1; simp [hj]
  · by_cases h2 : m = i
    · subst h2; simp [h1, Ne.symm h1, hi]
    · simp [h1, h2, Ne.symm h1, Ne.symm h2]
theorem up_U : ∀ (f : Nat) (es : List En) (i : Nat), i < f → i < es.length → B es i → C es i → K es i → IsHeap (upL f es i)
  | 0, _, i, h, _, _, _, _ => by omega
  | f + 1, es, i, hf, hi, hB, hC, hK => by
    unfold upL
    by_cases hc : 0 < i ∧ bef (es.getD i z) (es.getD ((i - 1) / 2) z) = true
    · rw [if_pos hc]
      obtain ⟨h0, hb⟩ := hc
      have hb' : bef (at' es i) (at' es ((i - 1) / 2)) = true := hb
      have hp : (i - 1) / 2 < i := by omega
      have hpl : (i - 1) / 2 < es.length := by omega
      have hs := at_swp hi hpl
      generalize hP : (i - 1) / 2 = p at *
      refine up_U f _ p (by omega) (by rw [swp_len]; exact hpl) ?_ ?_ ?_
      · intro k k0 k1 k2 k3
        rw [swp_len] at k1
        unfold Okk
        rw [hs, hs]
        by_cases ki : k = i
        · subst ki; exact absurd hP k3
        rw [if_neg k2, if_neg ki, if_neg k3]
        by_cases kp : (k - 1) / 2 = i
        · rw [if_pos kp]
          have := hC k k0 k1 kp h0
          rw [hP] at this
          exact this
        · rw [if_neg kp]; exact hB k k0 k1 ki kp
      · intro k k0 k1 k2 k3
        rw [swp_len] at k1
        rw [hs, hs]
        have hpp : (p - 1) / 2 ≠ p := by omega
        have hpi : (p - 1) / 2 ≠ i := by omega
        rw [if_neg hpp, if_neg hpi]
        have hkp : k ≠ p := by omega
        rw [if_neg hkp]
        have hpg := hB p k3 hpl (by omega) hpi
        by_cases ki : k = i
        · rw [if_pos ki]; exact hpg
        · rw [if_neg ki]
          have h2 := hB k k0 k1 ki (by omega)
          unfold Okk at h2 hpg
          rw [k2] at h2
          exact nb_trans h2 hpg
      · intro k k0 k1 k2
        rw [swp_len] at k1
        unfold Okk
        rw [hs, hs, k2, if_pos rfl]
        have hkp : k ≠ p := by omega
        rw [if_neg hkp]
        by_cases ki : k = i
        · rw [if_pos ki]; exact bef_nb hb'
        · rw [if_neg ki]
          have h2 := hB k k0 k1 ki (by omega)
          unfold Okk at h2
          rw [k2] at h2
          exact nb_trans h2 (bef_nb hb')
    · rw [if_neg hc]
      intro k k0 k1
      by_cases ki : k = i
      · subst ki
        cases h : bef (es.getD k z) (es.getD ((k - 1) / 2) z) with
        | false => exact h
        | true => exact absurd ⟨k0, h⟩ hc
      · by_cases kp : (k - 1) / 2 = i
        · exact hK k k0 k1 kp
        · exact hB k k0 k1 ki kp
/-- what down starts from -/
def Dn (es : List En) (i : Nat) : Prop := B es i ∧ C es i ∧ (0 < i → i < es.length → Okk es i)
theorem heap_Dn {es : List En} (h : IsHeap es) (i : Nat) (hi : i < es.length) : Dn es i := by
  refine ⟨fun k a b _ _ => h k a b, fun k a b c d => ?_, fun a b => h i a b⟩
  have h1 := h k a b
  have h2 := h i d hi
  unfold Okk at h1 h2
  rw [c] at h1
  exact nb_trans h1 h2
theorem up_A {es : List En} {i : Nat} (hi : i < es.length) (hB : B es i) (hC : C es i) : IsHeap (upL (i + 1) es i) ∨ (upL (i + 1) es i = es ∧ Dn es i) := by
  by_cases hc : 0 < i ∧ bef (es.getD i z) (es.getD ((i - 1) / 2) z) = true
  · left
    -- one step by hand, then U
    unfold upL
    rw [if_pos hc]
    obtain ⟨h0, hb⟩ := hc
    have hb' : bef (at' es i) (at' es ((i - 1) / 2)) = true := hb
    have hp : (i - 1) / 2 < i := by omega
    have hpl : (i - 1) / 2 < es.length := by omega
    have hs := at_swp hi hpl
    generalize hP : (i - 1) / 2 = p at *
    refine up_U i _ p (by omega) (by rw [swp_len]; exact hpl) ?_ ?_ ?_
    · intro k k0 k1 k2 k3
      rw [swp_len] at k1
      unfold Okk
      rw [hs, hs]
      by_cases ki : k = i
      · subst ki; exact absurd hP k3
      rw [if_neg k2, if_neg ki, if_neg k3]
      by_cases kp : (k - 1) / 2 = i
      · rw [if_pos kp]
        have := hC k k0 k1 kp h0
        rw [hP] at this
        exact this
      · rw [if_neg kp]; exact hB k k0 k1 ki kp
    · intro k k0 k1 k2 k3
      rw [swp_len] at k1
      rw [hs, hs]
      have hpp : (p - 1) / 2 ≠ p := by omega
      have hpi : (p - 1) / 2 ≠ i := by omega
      rw [if_neg hpp, if_neg hpi]
      have hkp : k ≠ p := by omega
      rw [if_neg hkp]
      have hpg := hB p k3 hpl (by omega) hpi
      by_cases ki : k = i
      · rw [if_pos ki]; exact hpg
      · rw [if_neg ki]
        have h2 := hB k k0 k1 ki (by omega)
        unfold Okk at h2 hpg
        rw [k2] at h2
        exact nb_trans h2 hpg
    · intro k k0 k1 k2
      rw [swp_len] at k1
      unfold Okk
      rw [hs, hs, k2, if_pos rfl]
      have hkp : k ≠ p := by omega
      rw [if_neg hkp]
      by_cases ki : k = i
      · rw [if_pos ki]; exact bef_nb hb'
      · rw [if_neg ki]
        have h2 := hB k k0 k1 ki (by omega)
        unfold Okk at h2
        rw [k2] at h2
        exact nb_trans h2 (bef_nb hb')
  · right
    refine ⟨by unfold upL; rw [if_neg hc], hB, hC, fun k0 _ => ?_⟩
    cases h : bef (es.getD i z) (es.getD ((i - 1) / 2) z) with
    | false => exact h
    | true => exact absurd ⟨k0, h⟩ hc
theorem up_Dn {es : List En} {i : Nat} (hi : i < es.length) (hB : B es i) (hC : C es i) : Dn (upL (i + 1) es i) i := by
  rcases up_A hi hB hC with h | ⟨h, hd⟩
  · exact heap_Dn h i (by rw [upL_len]; exact hi)
  · rw [h]; exact hd
theorem step_le (es : List En) (l k : Nat) : bef (at' es l) (at' es (step es l k)) = false ∧ (k < es.length → bef (at' es k) (at' es (step es l k)) = false) := by
  unfold step
  by_cases h : k < es.length ∧ bef (es.getD k z) (es.getD l z) = true
  · rw [if_pos h]; exact ⟨bef_nb h.2, fun _ => bef_irr _⟩
  · rw [if_neg h]
    refine ⟨bef_irr _, fun hk => ?_⟩
    cases hb : bef (es.getD k z) (es.getD l z) with
    | false => exact hb
    | true => exact absurd ⟨hk, hb⟩ h
theorem least_le (es : List En) (i : Nat) : bef (at' es i) (at' es (leastL es i)) = false ∧ (2 * i + 1 < es.length → bef (at' es (2 * i + 1)) (at' es (leastL es i)) = false) ∧ (2 * i + 2 < es.length → bef (at' es (2 * i + 2)) (at' es (leastL es i)) = false) := by
  have h1 := step_le es i (2 * i + 1)
  have h2 := step_le es (step es i (2 * i + 1)) (2 * i + 2)
  exact ⟨nb_trans h1.1 h2.1, fun h => nb_trans (h1.2 h) h2.1, h2.2⟩
theorem least_is (es : List En) (i : Nat) : leastL es i = i ∨ ((leastL es i = 2 * i + 1 ∨ leastL es i = 2 * i + 2) ∧ bef (at' es (leastL es i)) (at' es i) = true) := by
  have key : ∀ l k, step es l k = l ∨ (step es l k = k ∧ bef (at' es k) (at' es l) = true) := by
    intro l k
    unfold step
    by_cases h : k < es.length ∧ bef (es.getD k z) (es.getD l z) = true
    · rw [if_pos h]; exact Or.inr ⟨rfl, h.2⟩
    · rw [if_neg h]; exact Or.inl rfl
  unfold leastL
  rcases key i (2 * i + 1) with h1 | ⟨h1, b1⟩
  · rw [h1]
    rcases key i (2 * i + 2) with h2 | ⟨h2, b2⟩
    · exact Or.inl h2
    · right; rw [h2]; exact ⟨Or.inr rfl, b2⟩
  · rw [h1]
    rcases key (2 * i + 1) (2 * i + 2) with h2 | ⟨h2, b2⟩
    · right; rw [h2]; exact ⟨Or.inl rfl, b1⟩
    · right; rw [h2]; exact ⟨Or.inr rfl, bef_trans b2 b1⟩
theorem down_D : ∀ (f : Nat) (es : List En) (i : Nat), es.length < f + i → i < es.length → Dn es i → IsHeap (downL f es i)
  | 0, es, i, h, hi, _ => by omega
  | f + 1, es, i, hf, hi, ⟨hB, hC, hO⟩ => by
    unfold downL
    obtain ⟨le0, le1, le2⟩ := least_le es i
    have hll := leastL_lt hi
    rcases least_is es i with h | ⟨hch, hb⟩
    · rw [if_pos h]
      rw [h] at le1 le2
      intro k k0 k1
      by_cases ki : k = i
      · subst ki; exact hO k0 k1
      · by_cases kp : (k - 1) / 2 = i
        · unfold Okk
          rw [kp]
          rcases (show k = 2 * i + 1 ∨ k = 2 * i + 2 by omega) with e | e
          · rw [e]; exact le1 (by omega)
          · rw [e]; exact le2 (by omega)
        · exact hB k k0 k1 ki kp
    · have hne : leastL es i ≠ i := by omega
      rw [if_neg hne]
      generalize leastL es i = l at *
      have hpl : (l - 1) / 2 = i := by omega
      have hs := at_swp hi hll
      refine down_D f _ l (by rw [swp_len]; omega) (by rw [swp_len]; exact hll) ⟨?_, ?_, ?_⟩
      · intro k k0 k1 k2 k3
        rw [swp_len] at k1
        unfold Okk
        rw [hs, hs, if_neg k2, if_neg k3]
        by_cases ki : k = i
        · subst ki
          rw [if_pos rfl, if_neg (show (k - 1) / 2 ≠ k by omega)]
          exact hC l (by omega) hll hpl k0
        · rw [if_neg ki]
          by_cases kp : (k - 1) / 2 = i
          · rw [if_pos kp]
            rcases (show k = 2 * i + 1 ∨ k = 2 * i + 2 by omega) with e | e
            · rw [e]; exact le1 (by omega)
            · rw [e]; exact le2 (by omega)
          · rw [if_neg kp]; exact hB k k0 k1 ki kp
      · intro k k0 k1 k2 k3
        rw [swp_len] at k1
        rw [hs, hs, hpl, if_neg (show i ≠ l from Ne.symm hne), if_pos rfl, if_neg (show k ≠ l by omega), if_neg (show k ≠ i by omega)]
        have h2 := hB k k0 k1 (by omega) (by omega)
        unfold Okk at h2
        rw [k2] at h2
        exact h2
      · intro k0 k1
        unfold Okk
        rw [hs, hs, if_pos rfl, hpl, if_neg (show i ≠ l from Ne.symm hne), if_pos rfl]
        exact bef_nb hb
theorem heap_first {es : List En} (h : IsHeap es) : ∀ (i : Nat), i < es.length → bef (at' es i) (at' es 0) = false
  | 0, _ => bef_irr _
  | i + 1, hi => nb_trans (h (i + 1) (by omega) hi) (heap_first h ((i + 1 - 1) / 2) (by omega))
termination_by i => i
decreasing_by omega
end Go.Proofs.Ytfmchkplnglepaa.HpI
