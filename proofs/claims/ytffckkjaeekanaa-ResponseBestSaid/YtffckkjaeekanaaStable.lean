/- The insertion sort, as a function over lists; it is stable. No conditions. -/
import Derived.Sort.Defs
namespace Tithe
open Go.Sort

section
variable {α : Type} (lt : α → α → Bool)
/-- x goes into a row that is turned round: the greatest first -/
def ins (x : α) : List α → List α
  | [] => [x]
  | a :: r => if lt x a then a :: ins x r else x :: a :: r
/-- one after the other -/
def srt (xs : List α) : List α := (xs.foldl (fun R x => ins lt x R) []).reverse

theorem ins_mem {x y : α} {R : List α} : y ∈ ins lt x R ↔ y = x ∨ y ∈ R := by
  induction R with
  | nil => simp [ins]
  | cons a r ih =>
    simp only [ins]
    by_cases h : lt x a = true
    · rw [if_pos h]; simp only [List.mem_cons, ih]; constructor
      · rintro (h | h | h) <;> simp [h]
      · rintro (h | h | h) <;> simp [h]
    · rw [if_neg h]; simp
theorem ins_length (x : α) (R : List α) : (ins lt x R).length = R.length + 1 := by
  induction R with
  | nil => rfl
  | cons a r ih =>
    simp only [ins]
    by_cases h : lt x a = true
    · rw [if_pos h]; simp [ih]
    · rw [if_neg h]; simp
theorem ins_perm (x : α) (R : List α) : (ins lt x R).Perm (x :: R) := by
  induction R with
  | nil => exact .refl _
  | cons a r ih =>
    simp only [ins]
    by_cases h : lt x a = true
    · rw [if_pos h]; exact (List.Perm.cons a ih).trans (List.Perm.swap x a r)
    · rw [if_neg h]
theorem fold_perm (xs R : List α) : (xs.foldl (fun R x => ins lt x R) R).Perm (xs ++ R) := by
  induction xs generalizing R with
  | nil => exact .refl _
  | cons x xs ih =>
    simp only [List.foldl]
    refine (ih (ins lt x R)).trans ?_
    refine ((ins_perm lt x R).append_left xs).trans ?_
    simp
theorem srt_perm (xs : List α) : (srt lt xs).Perm xs := by
  unfold srt
  refine (List.reverse_perm _).trans ?_
  simpa using fold_perm lt xs []

variable [Inhabited α]
theorem swp_list (B C : List α) (a x : α) : swp (B ++ a :: x :: C).toArray (B.length + 1) B.length = (B ++ x :: a :: C).toArray := by
  unfold swp
  have h1 : (B ++ a :: x :: C).toArray[B.length]! = a := by simp
  have h2 : (B ++ a :: x :: C).toArray[B.length + 1]! = x := by simp
  rw [h1, h2, List.setIfInBounds_toArray, List.setIfInBounds_toArray]
  congr 1
  rw [List.set_append_right _ _ (by omega), List.set_append_right _ _ (by omega)]
  simp [show B.length + 1 - B.length = 1 by omega]
theorem insInner_list (x : α) : ∀ (R C : List α), insInner lt 0 R.length (R.reverse ++ x :: C).toArray = ((ins lt x R).reverse ++ C).toArray
  | [], C => by simp [insInner, ins]
  | a :: r, C => by
    have e : (a :: r).reverse ++ x :: C = r.reverse ++ a :: x :: C := by simp
    have h1 : (r.reverse ++ a :: x :: C).toArray[r.length]! = a := by simp
    have h2 : (r.reverse ++ a :: x :: C).toArray[r.length + 1]! = x := by simp
    have h3 : swp (r.reverse ++ a :: x :: C).toArray (r.length + 1) r.length = (r.reverse ++ x :: a :: C).toArray := by
      have := swp_list r.reverse C a x
      simpa using this
    rw [e]
    simp only [List.length_cons, insInner, ins]
    rw [h1, h2, h3]
    by_cases h : lt x a = true
    · rw [if_pos (by simp [h]), if_pos h, insInner_list x r (a :: C)]
      simp
    · rw [if_neg (by simp [h]), if_neg h]
      simp
theorem insOuter_list : ∀ (xs R : List α), insOuter lt 0 (R.length + xs.length) R.length (R.reverse ++ xs).toArray = (xs.foldl (fun R x => ins lt x R) R).reverse.toArray
  | [], R => by rw [insOuter, if_neg (by simp)]; simp
  | x :: xs, R => by
    rw [insOuter, if_pos (by simp), insInner_list]
    have := insOuter_list xs (ins lt x R)
    rw [ins_length] at this
    simp only [List.length_cons, List.foldl]
    rw [show R.length + (xs.length + 1) = R.length + 1 + xs.length by omega]
    exact this
theorem insertionSort_list (xs : List α) : insertionSort lt xs.toArray 0 xs.length = (srt lt xs).toArray := by
  cases xs with
  | nil => unfold insertionSort; rw [insOuter, if_neg (by simp)]; rfl
  | cons x xs =>
    have := insOuter_list lt xs [x]
    unfold insertionSort srt
    simp only [List.foldl, ins]
    rw [show (x :: xs).length = [x].length + xs.length by simp; omega]
    exact this
end

section
variable {α : Type}
/-- who is ahead: by keys, of the same key by places -/
def ahd (key : α → Int) (pos : α → Int) (a b : α) : Prop := key a < key b ∨ key a = key b ∧ pos a < pos b
theorem ins_sorted (key pos : α → Int) (x : α) (R : List α) (hR : R.Pairwise (fun b a => ahd key pos a b)) (hx : ∀ a ∈ R, pos a < pos x) :
    (ins (fun a b => decide (key a < key b)) x R).Pairwise (fun b a => ahd key pos a b) := by
  induction R with
  | nil => simp [ins]
  | cons a r ih =>
    simp only [ins]
    rw [List.pairwise_cons] at hR
    by_cases h : key x < key a
    · rw [if_pos (by simp [h]), List.pairwise_cons]
      refine ⟨fun y hy => ?_, ih hR.2 (fun y hy => hx y (List.mem_cons_of_mem _ hy))⟩
      rcases (ins_mem _).1 hy with rfl | hy
      · exact .inl h
      · exact hR.1 y hy
    · rw [if_neg (by simp [h]), List.pairwise_cons]
      refine ⟨fun y hy => ?_, List.pairwise_cons.2 hR⟩
      have hp := hx y hy
      rcases List.mem_cons.1 hy with rfl | hy
      · unfold ahd; omega
      · have := hR.1 y hy
        unfold ahd at this ⊢; omega
theorem fold_sorted (key pos : α → Int) : ∀ (xs R : List α), R.Pairwise (fun b a => ahd key pos a b) → xs.Pairwise (fun a b => pos a < pos b) → (∀ a ∈ R, ∀ x ∈ xs, pos a < pos x) →
    (xs.foldl (fun R x => ins (fun a b => decide (key a < key b)) x R) R).Pairwise (fun b a => ahd key pos a b)
  | [], _, hR, _, _ => hR
  | x :: xs, R, hR, hxs, h => by
    rw [List.pairwise_cons] at hxs
    refine fold_sorted key pos xs _ (ins_sorted key pos x R hR (fun a ha => h a ha x (List.mem_cons_self ..))) hxs.2 ?_
    intro a ha y hy
    rcases (ins_mem _).1 ha with rfl | ha
    · exact hxs.1 y hy
    · exact h a ha y (List.mem_cons_of_mem _ hy)
theorem srt_sorted (key pos : α → Int) (xs : List α) (hxs : xs.Pairwise (fun a b => pos a < pos b)) : (srt (fun a b => decide (key a < key b)) xs).Pairwise (ahd key pos) := by
  unfold srt
  rw [List.pairwise_reverse]
  exact fold_sorted key pos xs [] List.Pairwise.nil hxs (by simp)
end
theorem insertionSort_list' {α : Type} [Inhabited α] (lt : α → α → Bool) (xs : List α) {n : Nat} (h : xs.length = n) : insertionSort lt xs.toArray 0 n = (srt lt xs).toArray := by
  subst h; exact insertionSort_list lt xs
theorem ins_map {α β : Type} (f : α → β) (l1 : α → α → Bool) (l2 : β → β → Bool) (h : ∀ x y, l1 x y = l2 (f x) (f y)) (x : α) (R : List α) : (ins l1 x R).map f = ins l2 (f x) (R.map f) := by
  induction R with
  | nil => rfl
  | cons a r ih =>
    simp only [ins, List.map_cons]
    rw [← h x a]
    by_cases hc : l1 x a = true
    · rw [if_pos hc, if_pos hc, List.map_cons, ih]
    · rw [if_neg hc, if_neg hc, List.map_cons, List.map_cons]
theorem fold_map {α β : Type} (f : α → β) (l1 : α → α → Bool) (l2 : β → β → Bool) (h : ∀ x y, l1 x y = l2 (f x) (f y)) : ∀ (xs R : List α), (xs.foldl (fun R x => ins l1 x R) R).map f = (xs.map f).foldl (fun R x => ins l2 x R) (R.map f)
  | [], _ => rfl
  | x :: xs, R => by
    simp only [List.foldl, List.map_cons]
    rw [fold_map f l1 l2 h xs, ins_map f l1 l2 h]
theorem srt_map {α β : Type} (f : α → β) (l1 : α → α → Bool) (l2 : β → β → Bool) (h : ∀ x y, l1 x y = l2 (f x) (f y)) (xs : List α) : (srt l1 xs).map f = srt l2 (xs.map f) := by
  unfold srt
  rw [List.map_reverse, fold_map f l1 l2 h]
  rfl
theorem srt_length {α : Type} (lt : α → α → Bool) (xs : List α) : (srt lt xs).length = xs.length := (srt_perm lt xs).length_eq
end Tithe
