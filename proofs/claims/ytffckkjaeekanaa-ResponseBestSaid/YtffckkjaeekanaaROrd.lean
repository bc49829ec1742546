/- The order of all work: the insertion sort's and the counting one are one. No conditions. -/
import Derived.Test.YtffckkjaeekanaaRDem
import Derived.Test.YtffckkjaeekanaaBx4
import Derived.Test.YtffckkjaeekanaaBx5
import Derived.Test.YtffckkjaeekanaaBx12
namespace Go.Proofs.Ytffckkjaeekanaa.Pure
open Go Go.RowKit Tithe Go.Proofs.Ytffckkjaeekanaa.B Go.Proofs.YtffckkjaeekanaaW.PrintWords Go.Proofs.YtffckkjaeekanaaW.PrintLast Go.Proofs.YtffckkjaeekanaaW.PrintMore

/-- is k ahead of i? -/
def ab (l : List S39) (k i : Nat) : Bool := decide ((rd_T39 l (k : Int)).f3 < (rd_T39 l (i : Int)).f3 ∨ (rd_T39 l (k : Int)).f3 = (rd_T39 l (i : Int)).f3 ∧ k < i)
/-- the places, those ahead first -/
def ol (l : List S39) : List Nat := srt (fun i k : Nat => decide ((rd_T39 l (i : Int)).f3 < (rd_T39 l (k : Int)).f3)) (List.range l.length)
theorem ordl_eq (l : List S39) : ordl l = (ol l).map fun j : Nat => (j : Int) := rfl
theorem ol_perm (l : List S39) : (ol l).Perm (List.range l.length) := srt_perm _ _
theorem ol_length (l : List S39) : (ol l).length = l.length := by rw [(ol_perm l).length_eq, List.length_range]
theorem ol_mem {l : List S39} {i : Nat} : i ∈ ol l ↔ i < l.length := by rw [(ol_perm l).mem_iff, List.mem_range]
theorem ol_nodup (l : List S39) : (ol l).Nodup := (ol_perm l).nodup_iff.2 List.nodup_range
theorem ol_sorted (l : List S39) : (ol l).Pairwise (fun a b => ab l a b = true) := by
  refine List.Pairwise.imp ?_ (srt_sorted (fun i : Nat => (rd_T39 l (i : Int)).f3) (fun i : Nat => (i : Int)) (List.range l.length) ?_)
  · intro a b h
    simp only [ahd] at h
    unfold ab
    rw [decide_eq_true_eq]; omega
  · refine List.Pairwise.imp ?_ List.pairwise_lt_range
    intro a b h; omega
theorem ab_irr (l : List S39) (i : Nat) : ab l i i = false := by unfold ab; rw [decide_eq_false_iff_not]; omega
theorem ab_asymm {l : List S39} {a b : Nat} (h : ab l a b = true) : ab l b a = false := by
  unfold ab at *; rw [decide_eq_true_eq] at h; rw [decide_eq_false_iff_not]; omega
theorem ol_split {l : List S39} {i : Nat} (hi : i < l.length) : ∃ A B, ol l = A ++ i :: B ∧ (∀ k ∈ A, ab l k i = true) ∧ (∀ k ∈ B, ab l k i = false) ∧ i ∉ A := by
  obtain ⟨A, B, h⟩ := List.append_of_mem (ol_mem.2 hi)
  have hs := ol_sorted l
  have hn := ol_nodup l
  rw [h] at hs hn
  rw [List.pairwise_append] at hs
  rw [List.nodup_append] at hn
  refine ⟨A, B, h, fun k hk => hs.2.2 k hk i (List.mem_cons_self ..), fun k hk => ?_, fun hA => hn.2.2 i hA i (List.mem_cons_self ..) rfl⟩
  have := (List.pairwise_cons.1 hs.2.1).1 k hk
  exact ab_asymm this
theorem filter_split {l : List S39} {i : Nat} {A B : List Nat} (h : ol l = A ++ i :: B) (hA : ∀ k ∈ A, ab l k i = true) (hB : ∀ k ∈ B, ab l k i = false) : (ol l).filter (fun k => ab l k i) = A := by
  rw [h, List.filter_append, List.filter_cons_of_neg (by rw [ab_irr]; simp), List.filter_eq_self.2 (fun k hk => hA k hk), List.filter_eq_nil_iff.2 (fun k hk => by rw [hB k hk]; simp), List.append_nil]
theorem perm_sum {l1 l2 : List Nat} (h : l1.Perm l2) (f : Nat → Int) : (l1.map f).sum = (l2.map f).sum := by
  induction h with
  | nil => rfl
  | cons x _ ih => simp only [List.map_cons, List.sum_cons, ih]
  | swap x y l => simp only [List.map_cons, List.sum_cons]; omega
  | trans _ _ ih1 ih2 => exact ih1.trans ih2
theorem take_split {A B : List Nat} {i : Nat} (h : i ∉ A) : (A ++ i :: B).takeWhile (fun j => j != i) = A := by
  induction A with
  | nil => simp
  | cons a A ih =>
    rw [List.mem_cons, not_or] at h
    rw [List.cons_append, List.takeWhile_cons, if_pos (bne_iff_ne.2 (fun e => h.1 e.symm)), ih h.2]
/-- the entries that are ahead of one -/
def ahl (l : List S39) (i : Nat) : List S39 := ((ol l).takeWhile (fun j => j != i)).map fun j : Nat => rd_T39 l (j : Int)
/-- a sum over those ahead: along the order, or along the places -/
theorem ahl_sum {l : List S39} {i : Nat} (hi : i < l.length) (f : S39 → Int) : ((ahl l i).map f).sum = (((List.range l.length).filter fun k => ab l k i).map fun k : Nat => f (rd_T39 l (k : Int))).sum := by
  obtain ⟨A, B, h, hA, hB, hn⟩ := ol_split hi
  unfold ahl
  rw [h, take_split hn, List.map_map]
  have hp := ((ol_perm l).filter (fun k => ab l k i))
  rw [filter_split h hA hB] at hp
  exact perm_sum hp (fun k : Nat => f (rd_T39 l (k : Int)))

theorem rd_map (L : List Nat) {i : Nat} (h : i < L.length) : rd (L.map fun j : Nat => (j : Int)) (i : Int) = (L[i] : Int) := by
  simp [rd, List.getD, h]

theorem ahead_evt {l : List S39} (hl : l.length ≤ 8) (i : Nat) : Evt (fun k => demand_ahead.f k l (i : Int)) (ahl l i) := by
  unfold demand_ahead.f
  refine Evt.call (a := ordl l) (by unfold demand_order.f; rw [if_pos (by omega)]) ?_
  rw [ordl_eq]
  have hlen : ((ol l).map fun j : Nat => (j : Int)).length = (ol l).length := List.length_map _
  rw [hlen]
  have key : ∀ (d p : Nat) (acc : List S39), p + d = (ol l).length → acc.length ≤ p → Evt (fun k => demand_ahead.l0 k l (i : Int) acc ((ol l).map fun j : Nat => (j : Int)) ((ol l).length : Int) p) (acc ++ (((ol l).drop p).takeWhile (fun j => j != i)).map fun j : Nat => rd_T39 l (j : Int)) := by
    intro d
    induction d with
    | zero =>
      intro p acc hp _
      refine Evt.succ (Evt.pure fun k => ?_)
      simp only [demand_ahead.l0]
      rw [if_neg (by omega), List.drop_of_length_le (by omega)]; simp
    | succ d ih =>
      intro p acc hp ha
      have h8 := ol_length l
      refine Evt.succ ?_
      simp only [demand_ahead.l0]
      rw [w1 p (by omega), hlen, rd_map (ol l) (by omega)]
      have hm : (ol l)[p] < l.length := ol_mem.1 (List.getElem_mem _)
      refine Evt.ifp (by omega) (Evt.ifp (by omega) (Evt.ifp (by omega) ?_))
      rw [List.drop_eq_getElem_cons (show p < (ol l).length by omega), List.takeWhile_cons]
      by_cases he : (ol l)[p] = i
      · rw [if_neg (by simp [he])]
        refine Evt.ifp (by omega) (Evt.pure fun _ => by simp)
      · rw [if_pos (bne_iff_ne.2 he)]
        refine Evt.ifn (by omega) (Evt.ifp (by omega) (Evt.ifp (by omega) (Evt.ifp (by omega) ?_)))
        have := ih (p + 1) (acc ++ [rd_T39 l ((ol l)[p] : Int)]) (by omega) (by simp; omega)
        rw [List.map_cons, show acc ++ rd_T39 l ((ol l)[p] : Int) :: ((ol l).drop (p + 1) |>.takeWhile (fun j => j != i)).map (fun j : Nat => rd_T39 l (j : Int)) = (acc ++ [rd_T39 l ((ol l)[p] : Int)]) ++ ((ol l).drop (p + 1) |>.takeWhile (fun j => j != i)).map (fun j : Nat => rd_T39 l (j : Int)) by simp]
        exact this
  have := key (ol l).length 0 [] (by omega) (by simp)
  simpa [ahl] using this

theorem Ahead_ok {l : List S39} {k i : Nat} (hk : k < l.length) (hi : i < l.length) : titheref20_Ahead.f l (k : Int) (i : Int) = some (ab l k i) := by
  unfold titheref20_Ahead.f ab
  rw [if_pos (by omega), if_pos (by omega), if_pos (by omega), if_pos (by omega)]
  by_cases h1 : (rd_T39 l (k : Int)).f3 < (rd_T39 l (i : Int)).f3
  · rw [if_pos h1, decide_eq_true (.inl h1)]
  · rw [if_neg h1]
    by_cases h2 : (rd_T39 l (k : Int)).f3 = (rd_T39 l (i : Int)).f3
    · rw [if_pos h2]
      by_cases h3 : k < i
      · rw [decide_eq_true (by omega), decide_eq_true (.inr ⟨h2, h3⟩)]
      · rw [decide_eq_false (by omega), decide_eq_false (by omega)]
    · rw [if_neg h2, decide_eq_false (by omega)]

end Go.Proofs.Ytffckkjaeekanaa.Pure
