/- The stable sort's plain law: the insertion sort on a stretch, the merge's searches, the blocks. No conditions. -/
import Derived.Sort.WalkA
import Derived.Test.YthhaikkicabplaaRSymM
import Derived.Test.YthhaikkicabplaaRStable
namespace Tithe.Sym
open Go.Sort Go.Proofs
set_option linter.unusedVariables false
section
variable {α : Type} [Inhabited α]
theorem get_arr (xs : List α) (i : Nat) : xs.toArray[i]! = xs.getD i default := by
  simp [List.getD_eq_getElem?_getD, getElem!_def]
  cases xs[i]? <;> rfl
theorem swp_arr (xs : List α) (i j : Nat) : swp xs.toArray i j = (sw default xs i j).toArray := by
  unfold swp sw
  rw [get_arr, get_arr, List.setIfInBounds_toArray, List.setIfInBounds_toArray]
theorem getD_mid (A B : List α) (x : α) : (A ++ x :: B).getD A.length default = x := by
  simp
theorem getD_mid2 (A B C : List α) (i : Nat) (h : i < B.length) : (A ++ B ++ C).getD (A.length + i) default = B.getD i default := by
  rw [List.append_assoc, getD_app_r]
  simp [List.getD_eq_getElem?_getD, List.getElem?_append_left h]
theorem getD_eq (L : List α) (i : Nat) (h : i < L.length) : L.getD i default = L[i] := by
  simp [h]
/-- two neighbours -/
theorem sw_adj (B D : List α) (x y : α) : sw default (B ++ x :: y :: D) B.length (B.length + 1) = B ++ y :: x :: D := by
  have := sw_mid default B [] D x y
  simpa using this
theorem sw_adj' (B D : List α) (x y : α) : sw default (B ++ x :: y :: D) (B.length + 1) B.length = B ++ y :: x :: D := by
  rw [← sw_adj B D x y]
  unfold sw
  rw [List.set_comm _ _ (by omega)]

variable (lt : α → α → Bool)
theorem insInner_seg (A : List α) (x : α) : ∀ (R C : List α), insInner lt A.length (A.length + R.length) (A ++ R.reverse ++ x :: C).toArray = (A ++ (ins lt x R).reverse ++ C).toArray
  | [], C => by
    rw [insInner_stop _ _ _ _ (Or.inl (by simp))]
    simp [ins]
  | a :: r, C => by
    have e : A ++ (a :: r).reverse ++ x :: C = (A ++ r.reverse) ++ a :: x :: C := by simp
    have hl : (A ++ r.reverse).length = A.length + r.length := by simp
    have h1 : (A ++ (a :: r).reverse ++ x :: C).toArray[A.length + (a :: r).length]! = x := by
      rw [get_arr, e]
      have := getD_app_r default (A ++ r.reverse) (a :: x :: C) 1
      rw [hl] at this
      rw [show A.length + (a :: r).length = A.length + r.length + 1 by simp; omega, this]
      rfl
    have h2 : (A ++ (a :: r).reverse ++ x :: C).toArray[A.length + (a :: r).length - 1]! = a := by
      rw [get_arr, e]
      have := getD_app_r default (A ++ r.reverse) (a :: x :: C) 0
      rw [hl] at this
      rw [show A.length + (a :: r).length - 1 = A.length + r.length + 0 by simp, this]
      rfl
    have h3 : swp (A ++ (a :: r).reverse ++ x :: C).toArray (A.length + (a :: r).length) (A.length + (a :: r).length - 1) = (A ++ r.reverse ++ x :: (a :: C)).toArray := by
      rw [swp_arr, e]
      have := sw_adj' (A ++ r.reverse) C a x
      rw [hl] at this
      rw [← this]
      rfl
    by_cases h : lt x a = true
    · rw [insInner_go _ _ _ _ (by simp) (by rw [h1, h2]; exact h), h3]
      have := insInner_seg A x r (a :: C)
      rw [show A.length + (a :: r).length - 1 = A.length + r.length by simp, this]
      simp [ins, h]
    · rw [insInner_stop _ _ _ _ (Or.inr (by rw [h1, h2]; simpa using h))]
      simp [ins, h]
theorem insOuter_seg (A : List α) : ∀ (xs R C : List α), insOuter lt A.length (A.length + R.length + xs.length) (A.length + R.length) (A ++ R.reverse ++ xs ++ C).toArray = (A ++ (xs.foldl (fun R x => ins lt x R) R).reverse ++ C).toArray
  | [], R, C => by rw [insOuter_stop _ _ _ _ _ (by simp)]; simp
  | x :: xs, R, C => by
    rw [insOuter_go _ _ _ _ _ (by simp)]
    have h1 := insInner_seg lt A x R (xs ++ C)
    have e : A ++ R.reverse ++ x :: xs ++ C = A ++ R.reverse ++ x :: (xs ++ C) := by simp
    rw [e, h1]
    have := insOuter_seg A xs (ins lt x R) C
    rw [ins_length] at this
    simp only [List.length_cons, List.foldl]
    rw [show A.length + R.length + (xs.length + 1) = A.length + (R.length + 1) + xs.length by omega, show A.length + R.length + 1 = A.length + (R.length + 1) by omega, ← this]
    simp
theorem insertionSort_seg (A M C : List α) {a b : Nat} (ha : a = A.length) (hb : b = A.length + M.length) : insertionSort lt (A ++ M ++ C).toArray a b = (A ++ srt lt M ++ C).toArray := by
  subst ha hb
  unfold insertionSort srt
  cases M with
  | nil => rw [insOuter_stop _ _ _ _ _ (by simp)]; rfl
  | cons x xs =>
    have := insOuter_seg lt A xs [x] C
    simp only [List.foldl, ins]
    simp only [List.length_cons, List.length_nil] at this ⊢
    rw [show A.length + (xs.length + 1) = A.length + (0 + 1) + xs.length by omega]
    rw [← this]
    simp
end
section
variable {α : Type} {T : α → α → Bool}
theorem ins_srt (hT : Ord T) (lt : α → α → Bool) (x : α) (R : List α) (hR : R.Pairwise (fun b a => T a b = true)) (hx : ∀ a ∈ R, (lt x a = true → T x a = true) ∧ (lt x a = false → T a x = true)) :
    (ins lt x R).Pairwise (fun b a => T a b = true) := by
  induction R with
  | nil => simp [ins]
  | cons a r ih =>
    simp only [ins]
    rw [List.pairwise_cons] at hR
    have ha := hx a (List.mem_cons_self ..)
    by_cases h : lt x a = true
    · rw [if_pos h, List.pairwise_cons]
      refine ⟨fun y hy => ?_, ih hR.2 (fun y hy => hx y (List.mem_cons_of_mem _ hy))⟩
      rcases (ins_mem _).1 hy with rfl | hy
      · exact ha.1 h
      · exact hR.1 y hy
    · rw [if_neg h, List.pairwise_cons]
      refine ⟨fun y hy => ?_, List.pairwise_cons.2 hR⟩
      have hax := ha.2 (by simpa using h)
      rcases List.mem_cons.1 hy with rfl | hy
      · exact hax
      · exact hT.trans (hR.1 y hy) hax
theorem fold_srt (hT : Ord T) (lt : α → α → Bool) : ∀ (xs R : List α), R.Pairwise (fun b a => T a b = true) → xs.Pairwise (fun a x => (lt x a = true → T x a = true) ∧ (lt x a = false → T a x = true)) →
    (∀ a ∈ R, ∀ x ∈ xs, (lt x a = true → T x a = true) ∧ (lt x a = false → T a x = true)) → (xs.foldl (fun R x => ins lt x R) R).Pairwise (fun b a => T a b = true)
  | [], _, hR, _, _ => hR
  | x :: xs, R, hR, hxs, h => by
    rw [List.pairwise_cons] at hxs
    refine fold_srt hT lt xs _ (ins_srt hT lt x R hR (fun a ha => h a ha x (List.mem_cons_self ..))) hxs.2 ?_
    intro a ha y hy
    rcases (ins_mem _).1 ha with rfl | ha
    · exact hxs.1 y hy
    · exact h a ha y (List.mem_cons_of_mem _ hy)
theorem srt_srt (hT : Ord T) (lt : α → α → Bool) (xs : List α) (hxs : xs.Pairwise (fun a x => (lt x a = true → T x a = true) ∧ (lt x a = false → T a x = true))) : Srt T (Tithe.srt lt xs) := by
  unfold Tithe.srt Srt
  rw [List.pairwise_reverse]
  exact fold_srt hT lt xs [] List.Pairwise.nil hxs (by simp)
end
section
variable {α : Type} (T : α → α → Bool)
/-- the search for one element's place: below i all are ahead of it -/
def Lo (R : List α) (x : α) (i : Nat) : Prop := ∀ (k : Nat) (hk : k < i) (h : k < R.length), T R[k] x = true
/-- from j on all are behind it -/
def Hi (R : List α) (x : α) (j : Nat) : Prop := ∀ (k : Nat) (hk : j ≤ k) (h : k < R.length), T x R[k] = true
variable {T}
theorem lo_zero (R : List α) (x : α) : Lo T R x 0 := fun k hk => absurd hk (by omega)
theorem hi_end (R : List α) (x : α) : Hi T R x R.length := fun k hk h => absurd h (by omega)
theorem one_in (hT : Ord T) {x : α} {R : List α} (hR : Srt T R) {i : Nat} (hi : i ≤ R.length) (h1 : Lo T R x i) (h2 : Hi T R x i) :
    Srt T (R.take i ++ x :: R.drop i) ∧ (R.take i ++ x :: R.drop i).Perm (x :: R) := ins_at hT hR hi (fun k hk => h1 k hk (by omega)) (fun k hk h => h2 k hk h)
end
section
variable {α : Type} [Inhabited α] {T : α → α → Bool}
theorem lo_step (hT : Ord T) {R : List α} (hR : Srt T R) {x : α} {h : Nat} (hl : h < R.length) (ht : T (R.getD h default) x = true) : Lo T R x (h + 1) := by
  rw [getD_eq _ _ hl] at ht
  intro k hk hkl
  by_cases e : k = h
  · subst e; exact ht
  · exact hT.trans (srt_get hR (by omega) hl) ht
theorem hi_step (hT : Ord T) {R : List α} (hR : Srt T R) {x : α} {h : Nat} (hl : h < R.length) (ht : T x (R.getD h default) = true) : Hi T R x h := by
  rw [getD_eq _ _ hl] at ht
  intro k hk hkl
  by_cases e : k = h
  · subst e; exact ht
  · exact hT.trans ht (srt_get hR (by omega) hkl)
/-- the symmetric search: c and p - c -/
def Bs (L R : List α) (T : α → α → Bool) (a m n s0 r0 s r : Nat) : Prop :=
  s0 ≤ s ∧ s ≤ r ∧ r ≤ r0 ∧ (s = s0 ∨ T (L.getD (s - 1 - a) default) (R.getD (n - s - m) default) = true) ∧ (r = r0 ∨ T (R.getD (n - 1 - r - m) default) (L.getD (r - a) default) = true)
theorem halves' (hT : Ord T) {L R M N : List α} (hL : Srt T L) (hR : Srt T R) {a m b mid s s0 r0 : Nat} (hm : m = a + L.length) (hb : b = m + R.length) (hmid : mid = (a + b) / 2) (hL2 : 1 < L.length) (hR2 : 1 < R.length)
    (h0 : (mid < m ∧ s0 = mid + m - b ∧ r0 = mid) ∨ (m ≤ mid ∧ s0 = a ∧ r0 = m)) (h : Bs L R T a m (mid + m) s0 r0 s s)
    (hM : Srt T M ∧ M.Perm (L.take (s - a) ++ R.take (mid - s))) (hN : Srt T N ∧ N.Perm (L.drop (s - a) ++ R.drop (mid - s))) : Srt T (M ++ N) ∧ (M ++ N).Perm (L ++ R) := by
  obtain ⟨b1, b2, b3, b4, b5⟩ := h
  refine halves hT hL hR (s := s - a) (e := mid - s) (by omega) (by omega) ?_ ?_ hM hN
  · intro h1 h2
    rcases b4 with b4 | b4
    · exfalso; omega
    · rw [getD_eq _ _ (by omega), getD_eq _ _ (by omega)] at b4
      have e1 : s - 1 - a = s - a - 1 := by omega
      have e2 : mid + m - s - m = mid - s := by omega
      simp only [e1, e2] at b4
      exact b4
  · intro h1 h2
    rcases b5 with b5 | b5
    · exfalso; omega
    · rw [getD_eq _ _ (by omega), getD_eq _ _ (by omega)] at b5
      have e1 : mid + m - 1 - s - m = mid - s - 1 := by omega
      simp only [e1] at b5
      exact b5
end
section
variable {α : Type}
/-- a stretch -/
def seg (l : List α) (i j : Nat) : List α := (l.drop i).take (j - i)
theorem seg_split (l : List α) (i j : Nat) (h : i ≤ j) : l = l.take i ++ seg l i j ++ l.drop j := by
  unfold seg
  have h1 : (l.drop i).take (j - i) ++ l.drop j = l.drop i := by
    have : l.drop j = (l.drop i).drop (j - i) := by rw [List.drop_drop]; congr 1; omega
    rw [this, List.take_append_drop]
  rw [List.append_assoc, h1, List.take_append_drop]
theorem seg_len (l : List α) (i j : Nat) (h : j ≤ l.length) : (seg l i j).length = j - i := by
  unfold seg; rw [List.length_take, List.length_drop]; omega
theorem seg_join (l : List α) (i j k : Nat) (h1 : i ≤ j) (h2 : j ≤ k) : seg l i j ++ seg l j k = seg l i k := by
  unfold seg
  have : l.drop j = (l.drop i).drop (j - i) := by rw [List.drop_drop]; congr 1; omega
  rw [this]
  have e : k - i = (j - i) + (k - j) := by omega
  rw [e, List.take_add]
theorem seg_out (l : List α) (i j : Nat) (h : l.length ≤ i) : seg l i j = [] := by
  unfold seg; rw [List.drop_of_length_le h]; simp
theorem seg_past (l : List α) (i j : Nat) (h : l.length ≤ j) : seg l i j = seg l i l.length := by
  unfold seg
  rw [List.take_of_length_le (by rw [List.length_drop]; omega), List.take_of_length_le (by rw [List.length_drop]; omega)]
theorem seg_all (l : List α) (j : Nat) (h : l.length ≤ j) : seg l 0 j = l := by
  unfold seg; rw [List.drop_zero, List.take_of_length_le (by omega)]
theorem seg_of (A M C : List α) : seg (A ++ M ++ C) A.length (A.length + M.length) = M := by
  unfold seg
  rw [List.append_assoc, List.drop_left, Nat.add_sub_cancel_left, List.take_left]
theorem seg_of_end (A M : List α) (j : Nat) (h : A.length + M.length ≤ j) : seg (A ++ M ++ []) A.length j = M := by
  unfold seg
  rw [List.append_nil, List.drop_left, List.take_of_length_le (by omega)]
theorem seg_fore (A M M' C : List α) (i j : Nat) (h : j ≤ A.length) : seg (A ++ M ++ C) i j = seg (A ++ M' ++ C) i j := by
  unfold seg
  by_cases hi : i ≤ A.length
  · rw [List.append_assoc, List.append_assoc, List.drop_append_of_le_length hi, List.drop_append_of_le_length hi, List.take_append_of_le_length (by rw [List.length_drop]; omega), List.take_append_of_le_length (by rw [List.length_drop]; omega)]
  · rw [show j - i = 0 by omega]; simp
theorem seg_hind (A M M' C : List α) (i j : Nat) (hm : M.length = M'.length) (h : A.length + M.length ≤ i) : seg (A ++ M ++ C) i j = seg (A ++ M' ++ C) i j := by
  unfold seg
  have e : ∀ X : List α, X.length = M.length → (A ++ X ++ C).drop i = C.drop (i - A.length - M.length) := by
    intro X hX
    have : i = (A ++ X).length + (i - A.length - M.length) := by rw [List.length_append]; omega
    rw [this, ← List.drop_drop, List.drop_left]
    congr 1; rw [List.length_append]; omega
  rw [e M rfl, e M' hm.symm]
theorem seg_mem {l : List α} {i j : Nat} {x : α} (h : x ∈ seg l i j) : x ∈ l := List.mem_of_mem_drop (List.mem_of_mem_take h)
theorem seg_pw {R : α → α → Prop} {l : List α} (h : l.Pairwise R) (i j k : Nat) (h1 : i ≤ j) (h2 : j ≤ k) : ∀ x ∈ seg l i j, ∀ y ∈ seg l j k, R x y := by
  have h3 : (seg l i k).Pairwise R := (h.sublist (List.drop_sublist i l)).sublist (List.take_sublist _ _)
  rw [← seg_join l i j k h1 h2] at h3
  exact (List.pairwise_append.1 h3).2.2
theorem seg_pw1 {R : α → α → Prop} {l : List α} (h : l.Pairwise R) (i j : Nat) : (seg l i j).Pairwise R := (h.sublist (List.drop_sublist i l)).sublist (List.take_sublist _ _)
/-- one block is sorted -/
def Good (T : α → α → Bool) (xs d : List α) (i s : Nat) : Prop := Srt T (seg d i (i + s)) ∧ (seg d i (i + s)).Perm (seg xs i (i + s))
theorem mul_step {q k s : Nat} (h : q < k) : q * s + s ≤ k * s := by
  have := Nat.mul_le_mul_right s (Nat.succ_le_of_lt h)
  rwa [Nat.succ_mul] at this
end
end Tithe.Sym
