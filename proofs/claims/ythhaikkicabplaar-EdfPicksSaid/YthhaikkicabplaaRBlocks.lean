/- The stable sort's blocks in plain Lean: blocks of s elements are sorted, then blocks of 2s. No conditions. -/
import Derived.Test.YthhaikkicabplaaRMerge
namespace Tithe.Sym
open Go.Sort Go.Proofs
set_option linter.unusedVariables false
section
variable {α : Type} {T : α → α → Bool} {xs d : List α}
theorem good_out {i s : Nat} (hd : d.length = xs.length) (h : xs.length ≤ i) : Good T xs d i s := by
  unfold Good
  rw [seg_out d i _ (by omega), seg_out xs i _ h]
  exact ⟨List.Pairwise.nil, List.Perm.refl _⟩
/-- a block off the changed stretch -/
theorem good_fore {A M M' C : List α} {i s : Nat} (h : Good T xs (A ++ M ++ C) i s) (hi : i + s ≤ A.length) : Good T xs (A ++ M' ++ C) i s := by
  unfold Good at h ⊢
  rw [seg_fore A M' M C i (i + s) hi]; exact h
theorem good_hind {A M M' C : List α} {i s : Nat} (h : Good T xs (A ++ M ++ C) i s) (hm : M.length = M'.length) (hi : A.length + M.length ≤ i) : Good T xs (A ++ M' ++ C) i s := by
  unfold Good at h ⊢
  rw [← seg_hind A M M' C i (i + s) hm hi]; exact h
/-- the phase of blocks of s, so many done; behind them all as it was -/
def P1 (T : α → α → Bool) (xs d : List α) (s k : Nat) : Prop := d.length = xs.length ∧ (∀ q, q < k → Good T xs d (q * s) s) ∧ d.drop (k * s) = xs.drop (k * s)
theorem p1_start (s : Nat) : P1 T xs xs s 0 := ⟨rfl, fun q hq => absurd hq (by omega), rfl⟩
theorem p1_step {s k b : Nat} {M : List α} (h : P1 T xs d s k) (hb : b ≤ d.length) (hkb : k * s ≤ b) (hs : b ≤ k * s + s) (he : b = d.length ∨ b = k * s + s) (hM : Srt T M) (hp : M.Perm (seg d (k * s) b)) :
    P1 T xs (d.take (k * s) ++ M ++ d.drop b) s (k + 1) := by
  obtain ⟨h1, h2, h3⟩ := h
  have hA : (d.take (k * s)).length = k * s := by rw [List.length_take]; omega
  have hl : (seg d (k * s) b).length = b - k * s := seg_len d _ _ hb
  have hML : M.length = b - k * s := by rw [hp.length_eq, hl]
  have hd := seg_split d (k * s) b hkb
  have hlen : (d.take (k * s) ++ M ++ d.drop b).length = xs.length := by
    rw [List.length_append, List.length_append, hA, hML, List.length_drop]; omega
  refine ⟨hlen, fun q hq => ?_, ?_⟩
  · by_cases e : q = k
    · subst e
      have e1 : seg (d.take (q * s) ++ M ++ d.drop b) (q * s) (q * s + s) = M := by
        rcases he with he | he
        · have e0 : d.drop b = [] := List.drop_of_length_le (by omega)
          rw [e0]
          have := seg_of_end (d.take (q * s)) M (q * s + s) (by rw [hA, hML]; omega)
          rw [hA] at this; exact this
        · have := seg_of (d.take (q * s)) M (d.drop b)
          rw [hA, hML, show q * s + (b - q * s) = q * s + s by omega] at this
          exact this
      have e2 : seg d (q * s) b = seg xs (q * s) (q * s + s) := by
        have e3 : seg d (q * s) b = seg d (q * s) (q * s + s) := by
          rcases he with he | he
          · rw [seg_past d (q * s) (q * s + s) (by omega), he]
          · rw [he]
        rw [e3]; unfold seg; rw [h3]
      unfold Good
      rw [e1, ← e2]
      exact ⟨hM, hp⟩
    · have hqk : q < k := by omega
      have := h2 q hqk
      rw [hd] at this
      exact good_fore this (by rw [hA]; exact mul_step hqk)
  · rw [Nat.succ_mul]
    have h4 : d.drop (k * s + s) = xs.drop (k * s + s) := by
      have := congrArg (List.drop s) h3
      rwa [List.drop_drop, List.drop_drop] at this
    rw [← h4]
    rcases he with he | he
    · rw [List.drop_of_length_le (by omega), List.drop_of_length_le (by omega)]
    · have e5 : (d.take (k * s) ++ M).length = b := by rw [List.length_append, hA, hML]; omega
      rw [← he]
      have := List.drop_left (l₁ := d.take (k * s) ++ M) (l₂ := d.drop b)
      rw [e5] at this
      exact this
theorem p1_end {s k : Nat} (h : P1 T xs d s k) (hk : xs.length ≤ k * s) : d.length = xs.length ∧ ∀ q, Good T xs d (q * s) s := by
  refine ⟨h.1, fun q => ?_⟩
  by_cases hq : q < k
  · exact h.2.1 q hq
  · refine good_out h.1 ?_
    have : k * s ≤ q * s := Nat.mul_le_mul_right s (by omega)
    omega
/-- the phase from blocks of s to blocks of 2s, so many done -/
def P2 (T : α → α → Bool) (xs d : List α) (s k : Nat) : Prop := d.length = xs.length ∧ (∀ q, q < k → Good T xs d (q * (2 * s)) (2 * s)) ∧ (∀ q, 2 * k ≤ q → Good T xs d (q * s) s)
theorem p2_start {s : Nat} (h : d.length = xs.length ∧ ∀ q, Good T xs d (q * s) s) : P2 T xs d s 0 := ⟨h.1, fun q hq => absurd hq (by omega), fun q _ => h.2 q⟩
/-- the two stretches that are merged -/
theorem p2_two {s k b : Nat} (h : P2 T xs d s k) (hm : k * (2 * s) + s ≤ b) (hb : b ≤ d.length) (he : b = d.length ∧ b ≤ k * (2 * s) + 2 * s ∨ b = k * (2 * s) + 2 * s) :
    Srt T (seg d (k * (2 * s)) (k * (2 * s) + s)) ∧ Srt T (seg d (k * (2 * s) + s) b) ∧ (seg d (k * (2 * s)) (k * (2 * s) + s)).Perm (seg xs (k * (2 * s)) (k * (2 * s) + s)) ∧ (seg d (k * (2 * s) + s) b).Perm (seg xs (k * (2 * s) + s) (k * (2 * s) + 2 * s)) := by
  obtain ⟨h1, h2, h3⟩ := h
  have e1 : (2 * k) * s = k * (2 * s) := by rw [Nat.mul_comm 2 k, Nat.mul_assoc]
  have e2 : (2 * k + 1) * s = k * (2 * s) + s := by rw [Nat.succ_mul, e1]
  have a := h3 (2 * k) (by omega)
  have c := h3 (2 * k + 1) (by omega)
  unfold Good at a c
  rw [e1] at a
  rw [e2] at c
  have e3 : seg d (k * (2 * s) + s) (k * (2 * s) + s + s) = seg d (k * (2 * s) + s) b := by
    rcases he with ⟨he, _⟩ | he
    · rw [seg_past d _ _ (show d.length ≤ k * (2 * s) + s + s by omega), he]
    · rw [he]; congr 1; omega
  rw [e3, show k * (2 * s) + s + s = k * (2 * s) + 2 * s by omega] at c
  exact ⟨a.1, c.1, a.2, c.2⟩
theorem p2_step {s k b : Nat} {M : List α} (h : P2 T xs d s k) (hm : k * (2 * s) + s ≤ b) (hb : b ≤ d.length) (he : b = d.length ∧ b ≤ k * (2 * s) + 2 * s ∨ b = k * (2 * s) + 2 * s) (hM : Srt T M) (hp : M.Perm (seg d (k * (2 * s)) (k * (2 * s) + s) ++ seg d (k * (2 * s) + s) b)) :
    P2 T xs (d.take (k * (2 * s)) ++ M ++ d.drop b) s (k + 1) := by
  obtain ⟨t1, t2, t3, t4⟩ := p2_two h hm hb he
  obtain ⟨h1, h2, h3⟩ := h
  obtain ⟨a, ha⟩ : ∃ a, a = k * (2 * s) := ⟨_, rfl⟩
  rw [← ha] at hm he hp t1 t2 t3 t4 ⊢
  have hA : (d.take a).length = a := by rw [List.length_take]; omega
  have hML : M.length = b - a := by rw [hp.length_eq, List.length_append, seg_len d _ _ (by omega), seg_len d _ _ (by omega)]; omega
  have hd := seg_split d a b (by omega)
  have hlen : (d.take a ++ M ++ d.drop b).length = xs.length := by
    rw [List.length_append, List.length_append, hA, hML, List.length_drop]; omega
  have hsl := seg_len d a b hb
  refine ⟨hlen, fun q hq => ?_, fun q hq => ?_⟩
  · by_cases e : q = k
    · subst e
      rw [← ha]
      have e1 : seg (d.take a ++ M ++ d.drop b) a (a + 2 * s) = M := by
        rcases he with ⟨he, he2⟩ | he
        · have e0 : d.drop b = [] := List.drop_of_length_le (by omega)
          rw [e0]
          have := seg_of_end (d.take a) M (a + 2 * s) (by rw [hA, hML]; omega)
          rw [hA] at this; exact this
        · have := seg_of (d.take a) M (d.drop b)
          rw [hA, hML, show a + (b - a) = a + 2 * s by omega] at this
          exact this
      unfold Good
      rw [e1]
      refine ⟨hM, hp.trans ?_⟩
      rw [← seg_join xs a (a + s) (a + 2 * s) (by omega) (by omega)]
      exact t3.append t4
    · have hqk : q < k := by omega
      have := h2 q hqk
      rw [hd] at this
      exact good_fore this (by rw [hA, ha]; exact mul_step hqk)
  · have e4 : (k + 1) * (2 * s) ≤ q * s := by
      have := Nat.mul_le_mul_right s hq
      have e5 : 2 * (k + 1) * s = (k + 1) * (2 * s) := by rw [Nat.mul_comm 2 (k + 1), Nat.mul_assoc]
      omega
    rw [Nat.succ_mul, ← ha] at e4
    by_cases ho : xs.length ≤ q * s
    · exact good_out hlen ho
    · have := h3 q (by omega)
      rw [hd] at this
      refine good_hind this (by rw [hsl, hML]) ?_
      rw [hA, hsl]
      rcases he with ⟨he, he2⟩ | he
      · omega
      · omega
/-- no second stretch: nothing to merge -/
theorem p2_last {s k : Nat} (h : P2 T xs d s k) (hn : xs.length ≤ k * (2 * s) + s) : d.length = xs.length ∧ ∀ q, Good T xs d (q * (2 * s)) (2 * s) := by
  obtain ⟨h1, h2, h3⟩ := h
  refine ⟨h1, fun q => ?_⟩
  by_cases hq : q < k
  · exact h2 q hq
  · by_cases e : q = k
    · subst e
      have e1 : (2 * q) * s = q * (2 * s) := by rw [Nat.mul_comm 2 q, Nat.mul_assoc]
      have a := h3 (2 * q) (by omega)
      unfold Good at a ⊢
      rw [e1] at a
      rw [seg_past d _ _ (show d.length ≤ q * (2 * s) + 2 * s by omega), seg_past xs _ _ (show xs.length ≤ q * (2 * s) + 2 * s by omega)]
      rw [seg_past d _ _ (show d.length ≤ q * (2 * s) + s by omega), seg_past xs _ _ (show xs.length ≤ q * (2 * s) + s by omega)] at a
      exact a
    · refine good_out h1 ?_
      have := mul_step (show k < q by omega) (s := 2 * s)
      omega
theorem p2_end {s k : Nat} (h : P2 T xs d s k) (hn : xs.length ≤ k * (2 * s)) : d.length = xs.length ∧ ∀ q, Good T xs d (q * (2 * s)) (2 * s) := p2_last h (by omega)
theorem good_all {s : Nat} (h : d.length = xs.length ∧ ∀ q, Good T xs d (q * s) s) (hs : xs.length ≤ s) : Srt T d ∧ d.Perm xs := by
  have := h.2 0
  unfold Good at this
  rw [Nat.zero_mul, Nat.zero_add, seg_all d s (by omega), seg_all xs s (by omega)] at this
  exact this
end
end Tithe.Sym
