/- Rows of true and false: how many of a stretch are true. Plain lists. No conditions. -/
import Derived.RowKit
namespace Tithe

/-- how many are true -/
def ct (l : List Bool) : Nat := l.count true

theorem ct_append (a b : List Bool) : ct (a ++ b) = ct a + ct b := by simp [ct]
theorem ct_nil : ct [] = 0 := rfl
theorem ct_le (l : List Bool) : ct l ≤ l.length := List.count_le_length
theorem ct_replicate_false (n : Nat) : ct (List.replicate n false) = 0 := by simp [ct, List.count_replicate]
theorem ct_take_drop (l : List Bool) (n : Nat) : ct (l.take n) + ct (l.drop n) = ct l := by rw [← ct_append, List.take_append_drop]

theorem ct_set (l : List Bool) (i : Nat) (h : i < l.length) (hf : l[i] = false) : ct (l.set i true) = ct l + 1 := by
  have h1 := ct_take_drop l i
  have h2 : l.drop i = false :: l.drop (i + 1) := by rw [← hf]; exact (List.drop_eq_getElem_cons h)
  have h3 : l.set i true = l.take i ++ true :: l.drop (i + 1) := List.set_eq_take_append_cons_drop.trans (by rw [if_pos h])
  rw [h3, ct_append]
  rw [h2] at h1
  simp only [ct, List.count_cons, beq_self_eq_true, if_true] at *
  simp at h1; omega

/-- a period of P with Q: what a beginning of it has -/
theorem ct_part {l : List Bool} {P Q : Nat} (hP : l.length = P) (hQ : ct l = Q) (r : Nat) (hr : r ≤ P) : ct (l.take r) ≤ Q ∧ ct (l.take r) ≤ r ∧ Q + r ≤ ct (l.take r) + P := by
  have h1 := ct_take_drop l r
  have h2 := ct_le (l.take r)
  have h3 := ct_le (l.drop r)
  rw [List.length_take] at h2
  rw [List.length_drop] at h3
  omega

/-- a row of n periods of P, each with Q -/
def Periods (P Q : Nat) : Nat → List Bool → Prop
  | 0, l => l = []
  | n + 1, l => ∃ a b, l = a ++ b ∧ Periods P Q n a ∧ b.length = P ∧ ct b = Q

theorem Periods.length {P Q : Nat} : ∀ {n l}, Periods P Q n l → l.length = n * P
  | 0, _, h => by simp only [Periods] at h; subst h; simp
  | n + 1, _, ⟨a, b, e, h, hb, _⟩ => by subst e; rw [List.length_append, h.length, hb, Nat.succ_mul]

theorem Periods.ct {P Q : Nat} : ∀ {n l}, Periods P Q n l → ct l = n * Q
  | 0, _, h => by simp only [Periods] at h; subst h; simp [Tithe.ct]
  | n + 1, _, ⟨a, b, e, h, _, hb⟩ => by subst e; rw [ct_append, h.ct, hb, Nat.succ_mul]

/-- what the first m periods and r more have -/
theorem Periods.part {P Q : Nat} : ∀ {n l}, Periods P Q n l → ∀ m r, r < P → m * P + r ≤ n * P →
    m * Q ≤ Tithe.ct (l.take (m * P + r)) ∧ Tithe.ct (l.take (m * P + r)) ≤ m * Q + Q ∧ Tithe.ct (l.take (m * P + r)) ≤ m * Q + r ∧ m * Q + Q + r ≤ Tithe.ct (l.take (m * P + r)) + P + (if r = 0 then Q else 0) ∧ (r = 0 → Tithe.ct (l.take (m * P + r)) = m * Q)
  | 0, l, h, m, r, hr, hle => by
    simp only [Periods] at h; subst h
    obtain rfl : r = 0 := by omega
    have : m * P = 0 := by omega
    have hm : m = 0 := by rcases Nat.mul_eq_zero.1 this with h | h <;> omega
    subst hm; simp [Tithe.ct]
  | n + 1, l, ⟨a, b, e, h, hb, hq⟩, m, r, hr, hle => by
    subst e
    by_cases hm : m * P + r ≤ n * P
    · have := h.part m r hr hm
      rw [List.take_append_of_le_length (by rw [h.length]; exact hm)]; exact this
    · have hmn : m * P + r < (n + 1) * P ∨ m * P + r = (n + 1) * P := by omega
      have hle1 : n ≤ m := by
        by_cases h' : n ≤ m
        · exact h'
        · have : (m + 1) * P ≤ n * P := Nat.mul_le_mul_right _ (by omega)
          rw [Nat.succ_mul] at this; omega
      have hle2 : m ≤ n + 1 := by
        by_cases h' : m ≤ n + 1
        · exact h'
        · have : (n + 2) * P ≤ m * P := Nat.mul_le_mul_right _ (by omega)
          rw [Nat.succ_mul, Nat.succ_mul] at this; rw [Nat.succ_mul] at hle; omega
      by_cases h1 : m = n + 1
      · subst h1
        obtain rfl : r = 0 := by omega
        have hl : (a ++ b).length = (n + 1) * P := by rw [List.length_append, h.length, hb, Nat.succ_mul]
        rw [List.take_of_length_le (by rw [hl]; omega), ct_append, h.ct, hq, Nat.succ_mul]
        simp
      · obtain rfl : m = n := by omega
        have ht : (a ++ b).take (m * P + r) = a ++ b.take r := by
          rw [List.take_append, h.length, List.take_of_length_le (by rw [h.length]; omega)]; congr 2; omega
        have hp := ct_part hb hq r (by omega)
        rw [ht, ct_append, h.ct]
        refine ⟨by omega, by omega, by omega, by split <;> omega, fun h0 => by omega⟩
end Tithe
