/- Audsley: the program's and the document's way find the same entries. No conditions. -/
import Derived.Test.YtffckkjaeekanaaRResB
import Derived.Test.YtffckkjaeekanaaAudM
namespace Go.Proofs.Ytffckkjaeekanaa.Pure
open Go Go.RowKit Tithe Go.Proofs.Ytffckkjaeekanaa.B Go.Proofs.YtffckkjaeekanaaW.PrintWords Go.Proofs.YtffckkjaeekanaaW.PrintLast Go.Proofs.YtffckkjaeekanaaW.PrintMore
/-- a sum over the first n numbers -/
def sm : Nat → (Nat → Int) → Int
  | 0, _ => 0
  | n + 1, g => sm n g + g n
theorem sm_congr {g g' : Nat → Int} : ∀ {n : Nat}, (∀ k, k < n → g k = g' k) → sm n g = sm n g'
  | 0, _ => rfl
  | n + 1, h => by
    show sm n g + g n = sm n g' + g' n
    rw [sm_congr (fun k hk => h k (by omega)), h n (by omega)]
theorem sm_filter (p : Nat → Bool) (g : Nat → Int) : ∀ n, (((List.range n).filter p).map g).sum = sm n (fun k => if p k = true then g k else 0)
  | 0 => rfl
  | n + 1 => by
    rw [List.range_succ, List.filter_append, List.map_append, List.sum_append, sm_filter p g n]
    show _ = sm n _ + _
    congr 1
    by_cases h : p n = true
    · simp [h]
    · simp [h]
theorem sm_map (L : List S39) (f : S39 → Int) : (L.map f).sum = sm L.length (fun k => f (rd_T39 L (k : Int))) := by
  have h := sm_filter (fun _ => true) (fun k => f (rd_T39 L (k : Int))) L.length
  rw [List.filter_eq_self.2 (fun _ _ => rfl)] at h
  rw [show (sm L.length fun k => f (rd_T39 L (k : Int))) = sm L.length (fun k => if true = true then f (rd_T39 L (k : Int)) else 0) from sm_congr (fun _ _ => rfl), ← h]
  congr 1
  apply List.ext_getElem
  · simp
  · intro i h1 h2
    have hi : i < L.length := by simpa using h1
    simp [rd_get hi]
theorem sm_but {g : Nat → Int} {j : Nat} : ∀ {n : Nat}, j < n → sm n (fun k => if k ≠ j then g k else 0) = sm n g - g j
  | n + 1, h => by
    show sm n _ + (if n ≠ j then g n else 0) = sm n g + g n - g j
    by_cases e : n = j
    · subst e
      rw [if_neg (by simp), sm_congr (g' := g) (fun k hk => if_pos (by omega))]
      omega
    · rw [if_pos e, sm_but (by omega)]
      omega
/-- the level by a sum -/
theorem lev_sum {l : List S39} {j : Nat} (hj : j < l.length) (t : Int) : lev l j t = (rd_T39 l (j : Int)).f1 + sm l.length (fun k => if ab l k j = true then rq (rd_T39 l (k : Int)) t else 0) := by
  unfold lev rs
  rw [ahl_sum hj, sm_filter]
theorem rq_prio (x : S39) (p t : Int) : rq (prio x p) t = rq x t := rfl
/-- what those without a place ask for, but i -/
def Sq (l : List S39) (has : Nat → Bool) (i : Nat) (t : Int) : Int := sm l.length (fun k => if k ≠ i ∧ has k = false then rq (rd_T39 l (k : Int)) t else 0)
theorem okp_prio {x : S39} (h : okp x) {p : Int} (h0 : 0 ≤ p) (h1 : p ≤ 31) : okp (prio x p) := by
  obtain ⟨a, b, c, d, e, f, _, _⟩ := h
  exact ⟨a, b, c, d, e, f, h0, h1⟩
theorem okp_rd {l : List S39} (hok : ∀ x ∈ l, okp x) {k : Nat} (hk : k < l.length) : okp (rd_T39 l (k : Int)) := by
  rw [rd_get hk]; exact hok _ (List.getElem_mem hk)
/-! the program's list -/
theorem tryN_len' (l : List S39) (has : Nat → Bool) (i : Nat) : ∀ n, (tryN l has i n).length ≤ n
  | 0 => Nat.le_refl _
  | n + 1 => by
    have := tryN_len' l has i n
    unfold tryN
    split
    · simp; omega
    · split
      · simp; omega
      · omega
theorem tryN_ok {l : List S39} (hok : ∀ x ∈ l, okp x) (has : Nat → Bool) (i : Nat) : ∀ n, n ≤ l.length → ∀ x ∈ tryN l has i n, okp x
  | 0, _, x, hx => by simp [tryN] at hx
  | n + 1, hn, x, hx => by
    have ih := tryN_ok hok has i n (by omega)
    have h0 := okp_rd hok (k := n) (by omega)
    unfold tryN at hx
    split at hx
    · rcases List.mem_append.1 hx with h | h
      · exact ih x h
      · obtain rfl := List.mem_singleton.1 h
        exact okp_prio h0 (by omega) (by omega)
    · split at hx
      · rcases List.mem_append.1 hx with h | h
        · exact ih x h
        · obtain rfl := List.mem_singleton.1 h
          exact okp_prio h0 (by omega) (by omega)
      · exact ih x hx
theorem tryN_sum (l : List S39) (has : Nat → Bool) (i : Nat) (t : Int) : ∀ n, rs (tryN l has i n) t = sm n (fun k => if k = i ∨ has k = false then rq (rd_T39 l (k : Int)) t else 0)
  | 0 => rfl
  | n + 1 => by
    have ih := tryN_sum l has i t n
    show rs (tryN l has i (n + 1)) t = sm n (fun k => if k = i ∨ has k = false then rq (rd_T39 l (k : Int)) t else 0) + (if n = i ∨ has n = false then rq (rd_T39 l (n : Int)) t else 0)
    rw [← ih]
    by_cases h : n = i
    · rw [show tryN l has i (n + 1) = tryN l has i n ++ [prio (rd_T39 l (n : Int)) 1] from if_pos h, rs_append, rs_cons, rs_nil, rq_prio, if_pos (Or.inl h)]; omega
    · by_cases h2 : has n = false
      · rw [show tryN l has i (n + 1) = tryN l has i n ++ [prio (rd_T39 l (n : Int)) 0] from (if_neg h).trans (if_pos h2), rs_append, rs_cons, rs_nil, rq_prio, if_pos (Or.inr h2)]; omega
      · rw [show tryN l has i (n + 1) = tryN l has i n from (if_neg h).trans (if_neg h2), if_neg (by rintro (h3 | h3); exact h h3; exact h2 h3)]; omega
theorem rd_append_left {L M : List S39} {k : Nat} (h : k < L.length) : rd_T39 (L ++ M) (k : Int) = rd_T39 L (k : Int) := by
  rw [rd_get h, rd_get (by rw [List.length_append]; omega), List.getElem_append_left h]
theorem rd_append_at {L : List S39} {x : S39} : rd_T39 (L ++ [x]) (L.length : Int) = x := by
  rw [rd_get (by simp)]; simp
/-- where i lies, and that it is alone at 1 -/
theorem tryN_at (l : List S39) (has : Nat → Bool) (i : Nat) : ∀ n, (i < n → atN l has i n < (tryN l has i n).length ∧ rd_T39 (tryN l has i n) ((atN l has i n : Nat) : Int) = prio (rd_T39 l (i : Int)) 1) ∧ (∀ k, k < (tryN l has i n).length → (i < n → k ≠ atN l has i n) → (rd_T39 (tryN l has i n) (k : Int)).f3 = 0)
  | 0 => ⟨fun h => absurd h (by omega), fun k hk => by simp [tryN] at hk⟩
  | n + 1 => by
    obtain ⟨ih1, ih2⟩ := tryN_at l has i n
    by_cases h : n = i
    · have e1 : tryN l has i (n + 1) = tryN l has i n ++ [prio (rd_T39 l (n : Int)) 1] := if_pos h
      have e2 : atN l has i (n + 1) = (tryN l has i n).length := if_pos h
      rw [e1, e2]
      refine ⟨fun _ => ⟨by simp, by rw [rd_append_at, h]⟩, fun k hk hne => ?_⟩
      have hne := hne (by omega)
      rw [List.length_append, List.length_singleton] at hk
      rw [rd_append_left (by omega)]
      exact ih2 k (by omega) (fun h2 => by omega)
    · have e2 : atN l has i (n + 1) = atN l has i n := if_neg h
      rw [e2]
      by_cases h2 : has n = false
      · have e1 : tryN l has i (n + 1) = tryN l has i n ++ [prio (rd_T39 l (n : Int)) 0] := (if_neg h).trans (if_pos h2)
        rw [e1]
        refine ⟨fun hi => ?_, fun k hk hne => ?_⟩
        · obtain ⟨a, b⟩ := ih1 (by omega)
          exact ⟨by rw [List.length_append]; omega, by rw [rd_append_left a]; exact b⟩
        · rw [List.length_append, List.length_singleton] at hk
          by_cases e : k = (tryN l has i n).length
          · rw [e, rd_append_at]; rfl
          · rw [rd_append_left (by omega)]
            exact ih2 k (by omega) (fun h3 => hne (by omega))
      · have e1 : tryN l has i (n + 1) = tryN l has i n := (if_neg h).trans (if_neg h2)
        rw [e1]
        exact ⟨fun hi => ih1 (by omega), fun k hk hne => ih2 k hk (fun h3 => hne (by omega))⟩
theorem try_lev {l : List S39} {has : Nat → Bool} {i : Nat} (hi : i < l.length) (t : Int) : lev (tryN l has i l.length) (atN l has i l.length) t = (rd_T39 l (i : Int)).f1 + Sq l has i t := by
  obtain ⟨h1, h2⟩ := tryN_at l has i l.length
  obtain ⟨h1, h3⟩ := h1 hi
  rw [lev_sum h1, h3]
  show (rd_T39 l (i : Int)).f1 + _ = _
  congr 1
  rw [sm_congr (g' := fun k => if k ≠ atN l has i l.length then rq (rd_T39 (tryN l has i l.length) (k : Int)) t else 0), sm_but h1, h3]
  · have e := sm_map (tryN l has i l.length) (fun x => rq x t)
    have e2 := tryN_sum l has i t l.length
    unfold rs at e2
    rw [e2] at e
    rw [← e, rq_prio]
    unfold Sq
    have e3 := sm_but (g := fun k => if k = i ∨ has k = false then rq (rd_T39 l (k : Int)) t else 0) hi
    simp only [true_or, if_true] at e3
    rw [← e3]
    refine sm_congr fun k _ => ?_
    by_cases hk : k = i
    · subst hk; simp
    · by_cases hh : has k = false
      · simp [hk, hh]
      · simp [hk, hh]
  · intro k hk
    have : ab (tryN l has i l.length) k (atN l has i l.length) = decide (k ≠ atN l has i l.length) := by
      unfold ab
      rw [h3]
      by_cases e : k = atN l has i l.length
      · subst e
        rw [h3]
        simp
      · have := h2 k hk (fun _ => e)
        rw [this]
        simp [e, prio]
    rw [this]
    by_cases e : k = atN l has i l.length
    · simp [e]
    · simp [e]
theorem rd_map_int (n : Nat) (f : Nat → Int) {k : Nat} (hk : k < n) : rd ((List.range n).map f) (k : Int) = f k := by
  simp [rd, List.getD, hk]
/-- how many of the first n have no place -/
def cnt (has : Nat → Bool) : Nat → Nat
  | 0 => 0
  | n + 1 => cnt has n + if has n = true then 0 else 1
theorem cnt_none (n : Nat) : cnt (fun _ => false) n = n := by
  induction n with
  | zero => rfl
  | succ n ih => show cnt _ n + _ = _; rw [ih]; simp
theorem cnt_set {has : Nat → Bool} {i : Nat} (hh : has i = false) : ∀ {n : Nat}, (i < n → cnt (setB has i) n + 1 = cnt has n) ∧ (n ≤ i → cnt (setB has i) n = cnt has n)
  | 0 => ⟨fun h => absurd h (by omega), fun _ => rfl⟩
  | n + 1 => by
    obtain ⟨a, b⟩ := cnt_set hh (n := n)
    constructor
    · intro h
      show cnt _ n + _ + 1 = cnt has n + _
      by_cases e : n = i
      · subst e
        rw [b (Nat.le_refl _)]
        simp [setB, hh]
      · have := a (by omega)
        have e2 : setB has i n = has n := if_neg e
        rw [e2]; omega
    · intro h
      show cnt _ n + _ = cnt has n + _
      have e2 : setB has i n = has n := if_neg (by omega)
      rw [b (by omega), e2]
theorem cnt_zero {has : Nat → Bool} : ∀ {n : Nat}, cnt has n = 0 → ∀ k, k < n → has k = true
  | 0, _, k, hk => absurd hk (by omega)
  | n + 1, h, k, hk => by
    have h' : cnt has n + (if has n = true then 0 else 1) = 0 := h
    by_cases e : k = n
    · subst e
      by_cases hq : has k = true
      · exact hq
      · rw [if_neg hq] at h'; omega
    · exact cnt_zero (n := n) (by omega) k (by omega)
theorem cnt_one {has : Nat → Bool} {n i k : Nat} (h : cnt has n = 1) (hi : i < n) (hh : has i = false) (hk : k < n) (hhk : has k = false) : k = i := by
  have h0 : cnt (setB has i) n = 0 := by have := (cnt_set hh (n := n)).1 hi; omega
  have := cnt_zero h0 k hk
  unfold setB at this
  by_cases e : k = i
  · exact e
  · rw [if_neg e, hhk] at this; simp at this
end Go.Proofs.Ytffckkjaeekanaa.Pure
