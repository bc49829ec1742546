/- The stable sort's merge in plain Lean: two sorted stretches, cut at one place each, their fore parts and hind parts merged, are merged. No conditions. -/
import Derived.RowKit
namespace Tithe.Sym
set_option linter.unusedVariables false
section
variable {α : Type} (T : α → α → Bool)
/-- sorted, strictly -/
def Srt (l : List α) : Prop := l.Pairwise fun a b => T a b = true
/-- a strict order -/
structure Ord : Prop where
  irr : ∀ a, T a a = false
  trans : ∀ {a b c}, T a b = true → T b c = true → T a c = true
variable {T}
theorem srt_append {A B : List α} (ha : Srt T A) (hb : Srt T B) (h : ∀ a ∈ A, ∀ b ∈ B, T a b = true) : Srt T (A ++ B) := List.pairwise_append.2 ⟨ha, hb, h⟩
theorem srt_cross {A B : List α} (h : Srt T (A ++ B)) : ∀ a ∈ A, ∀ b ∈ B, T a b = true := (List.pairwise_append.1 h).2.2
theorem srt_take {l : List α} (h : Srt T l) (n : Nat) : Srt T (l.take n) := h.sublist (List.take_sublist n l)
theorem srt_drop {l : List α} (h : Srt T l) (n : Nat) : Srt T (l.drop n) := h.sublist (List.drop_sublist n l)
theorem srt_get {l : List α} (h : Srt T l) {i j : Nat} (hij : i < j) (hj : j < l.length) : T (l[i]'(by omega)) l[j] = true := List.pairwise_iff_getElem.1 h i j (by omega) hj hij
/-- one sorted list has no other order -/
theorem srt_uniq (hT : Ord T) : ∀ {A B : List α}, Srt T A → Srt T B → A.Perm B → A = B
  | [], B, _, _, hp => (List.Perm.nil_eq hp)
  | x :: r, [], _, _, hp => absurd hp.length_eq (by simp)
  | x :: r, y :: s, h1, h2, hp => by
    have e : x = y := by
      have hx := hp.mem_iff.1 (List.mem_cons_self (a := x) (l := r))
      have hy := hp.mem_iff.2 (List.mem_cons_self (a := y) (l := s))
      rcases List.mem_cons.1 hx with e | hx
      · exact e
      rcases List.mem_cons.1 hy with e | hy
      · exact e.symm
      have a := (List.pairwise_cons.1 h2).1 x hx
      have b := (List.pairwise_cons.1 h1).1 y hy
      have := hT.trans a b
      rw [hT.irr] at this; cases this
    subst e
    rw [srt_uniq hT (List.pairwise_cons.1 h1).2 (List.pairwise_cons.1 h2).2 ((List.perm_cons x).1 hp)]
theorem mem_take_le (hT : Ord T) {l : List α} (h : Srt T l) {s : Nat} (hs : 0 < s) (hl : s ≤ l.length) {x : α} (hx : x ∈ l.take s) : x = l[s - 1]'(by omega) ∨ T x (l[s - 1]'(by omega)) = true := by
  obtain ⟨i, hi, rfl⟩ := List.getElem_of_mem hx
  rw [List.length_take] at hi
  rw [List.getElem_take]
  by_cases e : i = s - 1
  · subst e; exact Or.inl rfl
  · exact Or.inr (srt_get h (by omega) (by omega))
theorem mem_drop_le (hT : Ord T) {l : List α} (h : Srt T l) {s : Nat} (hl : s < l.length) {x : α} (hx : x ∈ l.drop s) : x = l[s] ∨ T l[s] x = true := by
  obtain ⟨i, hi, rfl⟩ := List.getElem_of_mem hx
  rw [List.length_drop] at hi
  rw [List.getElem_drop]
  by_cases e : i = 0
  · subst e; exact Or.inl rfl
  · exact Or.inr (srt_get h (by omega) (by omega))
/-- the cut: each fore part lies below the other's hind part -/
theorem cross (hT : Ord T) {L R : List α} (hL : Srt T L) (hR : Srt T R) {s e : Nat} (hs : s ≤ L.length) (he : e ≤ R.length)
    (h1 : ∀ (h0 : 0 < s) (h : e < R.length), T (L[s - 1]'(by omega)) R[e] = true) (h2 : ∀ (h0 : 0 < e) (h : s < L.length), T (R[e - 1]'(by omega)) L[s] = true) :
    ∀ a ∈ L.take s ++ R.take e, ∀ b ∈ L.drop s ++ R.drop e, T a b = true := by
  intro a ha b hb
  have lt2 : ∀ {x y z : α}, (x = y ∨ T x y = true) → T y z = true → T x z = true := fun h k => h.elim (fun e => e ▸ k) (fun h => hT.trans h k)
  have lt3 : ∀ {x y z : α}, T x y = true → (z = y ∨ T y z = true) → T x z = true := fun h k => k.elim (fun e => e ▸ h) (fun k => hT.trans h k)
  rcases List.mem_append.1 ha with ha | ha
  · rcases List.mem_append.1 hb with hb | hb
    · have hh : Srt T (L.take s ++ L.drop s) := by rw [List.take_append_drop]; exact hL
      exact srt_cross hh a ha b hb
    · have s0 : 0 < s := by
        rcases Nat.eq_zero_or_pos s with h | h
        · subst h; simp at ha
        · exact h
      have e0 : e < R.length := by
        rcases Nat.lt_or_ge e R.length with h | h
        · exact h
        · rw [List.drop_of_length_le h] at hb; cases hb
      exact lt2 (mem_take_le hT hL s0 hs ha) (lt3 (h1 s0 e0) (mem_drop_le hT hR e0 hb))
  · rcases List.mem_append.1 hb with hb | hb
    · have e0 : 0 < e := by
        rcases Nat.eq_zero_or_pos e with h | h
        · subst h; simp at ha
        · exact h
      have s0 : s < L.length := by
        rcases Nat.lt_or_ge s L.length with h | h
        · exact h
        · rw [List.drop_of_length_le h] at hb; cases hb
      exact lt2 (mem_take_le hT hR e0 he ha) (lt3 (h2 e0 s0) (mem_drop_le hT hL s0 hb))
    · have hh : Srt T (R.take e ++ R.drop e) := by rw [List.take_append_drop]; exact hR
      exact srt_cross hh a ha b hb
/-- both halves merged: all merged -/
theorem halves (hT : Ord T) {L R M N : List α} (hL : Srt T L) (hR : Srt T R) {s e : Nat} (hs : s ≤ L.length) (he : e ≤ R.length)
    (h1 : ∀ (h0 : 0 < s) (h : e < R.length), T (L[s - 1]'(by omega)) R[e] = true) (h2 : ∀ (h0 : 0 < e) (h : s < L.length), T (R[e - 1]'(by omega)) L[s] = true)
    (hM : Srt T M ∧ M.Perm (L.take s ++ R.take e)) (hN : Srt T N ∧ N.Perm (L.drop s ++ R.drop e)) : Srt T (M ++ N) ∧ (M ++ N).Perm (L ++ R) := by
  refine ⟨srt_append hM.1 hN.1 fun a ha b hb => cross hT hL hR hs he h1 h2 a (hM.2.mem_iff.1 ha) b (hN.2.mem_iff.1 hb), ?_⟩
  refine (hM.2.append hN.2).trans ?_
  have e1 : (L.take s ++ R.take e ++ (L.drop s ++ R.drop e)).Perm (L.take s ++ (L.drop s ++ (R.take e ++ R.drop e))) := by
    rw [List.append_assoc]
    refine List.Perm.append_left _ ?_
    rw [← List.append_assoc, ← List.append_assoc]
    exact List.Perm.append_right _ List.perm_append_comm
  refine e1.trans ?_
  rw [← List.append_assoc, List.take_append_drop, List.take_append_drop]
/-- one element put into its place -/
theorem ins_at (hT : Ord T) {x : α} {R : List α} (hR : Srt T R) {i : Nat} (hi : i ≤ R.length) (h1 : ∀ (k : Nat) (hk : k < i), T (R[k]'(by omega)) x = true) (h2 : ∀ (k : Nat) (hk : i ≤ k) (h : k < R.length), T x R[k] = true) :
    Srt T (R.take i ++ x :: R.drop i) ∧ (R.take i ++ x :: R.drop i).Perm (x :: R) := by
  have hx : ∀ b ∈ R.drop i, T x b = true := by
    intro b hb
    obtain ⟨k, hk, rfl⟩ := List.getElem_of_mem hb
    rw [List.length_drop] at hk
    rw [List.getElem_drop]
    exact h2 (i + k) (by omega) (by omega)
  have hy : ∀ a ∈ R.take i, T a x = true := by
    intro a ha
    obtain ⟨k, hk, rfl⟩ := List.getElem_of_mem ha
    rw [List.length_take] at hk
    rw [List.getElem_take]
    exact h1 k (by omega)
  refine ⟨srt_append (srt_take hR i) (List.pairwise_cons.2 ⟨hx, srt_drop hR i⟩) fun a ha b hb => ?_, ?_⟩
  · rcases List.mem_cons.1 hb with rfl | hb
    · exact hy a ha
    · exact hT.trans (hy a ha) (hx b hb)
  · have := (List.perm_middle (a := x) (l₁ := R.take i) (l₂ := R.drop i))
    rw [List.take_append_drop] at this
    exact this
end
section
variable {α : Type}
/-- two places changed -/
def sw (d : α) (xs : List α) (i j : Nat) : List α := (xs.set i (xs.getD j d)).set j (xs.getD i d)
theorem sw_len (d : α) (xs : List α) (i j : Nat) : (sw d xs i j).length = xs.length := by unfold sw; simp
theorem getD_app_r (d : α) (A B : List α) (i : Nat) : (A ++ B).getD (A.length + i) d = B.getD i d := by
  simp [List.getD_eq_getElem?_getD, List.getElem?_append_right]
theorem set_app_r (A B : List α) (i : Nat) (x : α) : (A ++ B).set (A.length + i) x = A ++ B.set i x := by
  rw [List.set_append, if_neg (by omega), Nat.add_sub_cancel_left]
/-- the first of one stretch against the first of another -/
theorem sw_mid (d : α) (A B C : List α) (x y : α) : sw d (A ++ x :: (B ++ y :: C)) A.length (A.length + (B.length + 1)) = A ++ y :: (B ++ x :: C) := by
  have e1 : (A ++ x :: (B ++ y :: C)).getD A.length d = x := by
    simp
  have e2 : (A ++ x :: (B ++ y :: C)).getD (A.length + (B.length + 1)) d = y := by
    rw [getD_app_r]
    simp
  unfold sw
  rw [e1, e2]
  have s1 : (A ++ x :: (B ++ y :: C)).set A.length y = A ++ y :: (B ++ y :: C) := by
    simp
  rw [s1, set_app_r]
  have s2 : (y :: (B ++ y :: C)).set (B.length + 1) x = y :: (B ++ x :: C) := by
    rw [List.set_cons_succ]
    simp
  rw [s2]
/-- k of two stretches changed -/
theorem sw_range (d : α) {A X B Y C : List α} (h : X.length = Y.length) {k : Nat} (hk : k < X.length) :
    sw d (A ++ (Y.take k ++ X.drop k) ++ B ++ (X.take k ++ Y.drop k) ++ C) (A.length + k) (A.length + X.length + B.length + k) = A ++ (Y.take (k + 1) ++ X.drop (k + 1)) ++ B ++ (X.take (k + 1) ++ Y.drop (k + 1)) ++ C := by
  have hy : k < Y.length := by omega
  have l1 : (A ++ Y.take k).length = A.length + k := by rw [List.length_append, List.length_take]; omega
  have l2 : (X.drop (k + 1) ++ B ++ X.take k).length + 1 = X.length + B.length := by
    simp only [List.length_append, List.length_drop, List.length_take]; omega
  have e : A ++ (Y.take k ++ X.drop k) ++ B ++ (X.take k ++ Y.drop k) ++ C = (A ++ Y.take k) ++ X[k] :: ((X.drop (k + 1) ++ B ++ X.take k) ++ Y[k] :: (Y.drop (k + 1) ++ C)) := by
    rw [List.drop_eq_getElem_cons hk, List.drop_eq_getElem_cons hy]
    simp only [List.append_assoc, List.cons_append]
  have e2 : A ++ (Y.take (k + 1) ++ X.drop (k + 1)) ++ B ++ (X.take (k + 1) ++ Y.drop (k + 1)) ++ C = (A ++ Y.take k) ++ Y[k] :: ((X.drop (k + 1) ++ B ++ X.take k) ++ X[k] :: (Y.drop (k + 1) ++ C)) := by
    rw [List.take_succ_eq_append_getElem hk, List.take_succ_eq_append_getElem hy]
    simp only [List.append_assoc, List.cons_append, List.nil_append]
  have hm := sw_mid d (A ++ Y.take k) (X.drop (k + 1) ++ B ++ X.take k) (Y.drop (k + 1) ++ C) X[k] Y[k]
  rw [l1, l2, show A.length + k + (X.length + B.length) = A.length + X.length + B.length + k by omega] at hm
  rw [e, e2]
  exact hm
end
end Tithe.Sym
