/- Small words on books of claims: what the reference's functions and the book's own do to a list of claims. No conditions. -/
import Derived.Test.YtaoicceakgipgaaDoorAid
import Derived.Test.YtaoicceakgipgaaDoorTx7
import Derived.Test.YtaoicceakgipgaaDoorTx3
import Derived.Test.YtaoicceakgipgaaDoorTx5
import Derived.Test.YtaoicceakgipgaaDoorTx7
import Derived.Test.YtaoicceakgipgaaDoorTx6
import Derived.Test.YtaoicceakgipgaaDoorTx8
import Derived.Test.YtaoicceakgipgaaDoorTx4
namespace Go.Proofs.YtaoicceakgipgaaDoor.Pure
open Go Go.RowKit Tithe Go.Proofs.YtaoicceakgipgaaDoor.T Go.Proofs.YtaoicceakgipgaaDoorW.PrintWords Go.Proofs.YtaoicceakgipgaaDoorW.PrintLast Go.Proofs.YtaoicceakgipgaaDoorW.PrintMore
set_option linter.unusedVariables false
set_option linter.unusedSimpArgs false
def cnt (c : S51) : Int := mx c.f1 c.f2
def tot (l : List S51) : Int := (l.map cnt).sum
def cv (c : S28) : S51 := ⟨c.f0, c.f1, c.f2, c.f3⟩
/-- the numbers of a claim that may be -/
def okc (c : S51) : Prop := 1 ≤ c.f1 ∧ c.f1 ≤ 1048576 ∧ 0 ≤ c.f2 ∧ c.f2 ≤ 1048576
theorem cnt_b {c : S51} (h : okc c) : 1 ≤ cnt c ∧ cnt c ≤ 1048576 := by
  obtain ⟨a, b, d, e⟩ := h
  unfold cnt mx; split <;> omega
theorem tot_nil : tot [] = 0 := rfl
theorem tot_cons (c : S51) (l : List S51) : tot (c :: l) = cnt c + tot l := by simp [tot]
theorem tot_append (a b : List S51) : tot (a ++ b) = tot a + tot b := by simp [tot]
theorem tot_b : ∀ (l : List S51), (∀ c ∈ l, okc c) → 0 ≤ tot l ∧ tot l ≤ l.length * 1048576
  | [], _ => by simp [tot]
  | c :: r, h => by
    have a := cnt_b (h c (List.mem_cons_self ..))
    have b := tot_b r (fun x hx => h x (List.mem_cons_of_mem _ hx))
    rw [tot_cons, List.length_cons]; omega
theorem rd_mid (P : List S51) (c : S51) (Q : List S51) : rd_T51 (P ++ c :: Q) (P.length : Int) = c := by simp [rd_T51]
theorem rd_mid28 (P : List S28) (c : S28) (Q : List S28) : rd_T28 (P ++ c :: Q) (P.length : Int) = c := by simp [rd_T28]
theorem nx {α : Type} (P : List α) (c : α) (h : P.length ≤ 1000) : wrap64 ((P.length : Int) + 1) = ((P ++ [c]).length : Int) := by
  rw [List.length_append, List.length_singleton]; exact w1 _ (by omega)
theorem as_mid {α : Type} (P : List α) (c : α) (Q : List α) : P ++ c :: Q = (P ++ [c]) ++ Q := by simp
theorem Sum_from : ∀ (Q P : List S51), (P ++ Q).length ≤ 1000 → (∀ c ∈ P ++ Q, okc c) → Evt (fun k => titheref08_Sum.l0 k (P ++ Q) (tot P) (P.length : Int)) (tot (P ++ Q))
  | [], P, hl, hk => by
    refine Evt.succ (Evt.pure fun k => ?_)
    simp only [titheref08_Sum.l0]
    rw [if_neg (by simp)]; simp
  | c :: Q, P, hl, hk => by
    have hc : (P ++ c :: Q).length = P.length + (Q.length + 1) := by simp
    have b := cnt_b (hk c (by simp))
    have t := tot_b P (fun x hx => hk x (List.mem_append_left _ hx))
    have e : wrap64 (tot P + mx c.f1 c.f2) = tot (P ++ [c]) := by
      rw [tot_append, tot_cons, tot_nil, Int.add_zero]; exact w64 (by unfold cnt at b; omega) (by unfold cnt at b; omega)
    have ih := Sum_from Q (P ++ [c]) (by simpa using hl) (by simpa using hk)
    refine Evt.succ ?_
    simp only [titheref08_Sum.l0]
    rw [rd_mid, e, nx P c (by omega), as_mid]
    refine Evt.ifp (by rw [List.length_append, List.length_append]; simp; omega) (Evt.ifp (by omega) ?_)
    simpa using ih
theorem Sum_evt {l : List S51} (hl : l.length ≤ 1000) (hk : ∀ c ∈ l, okc c) : Evt (fun k => titheref08_Sum.f k l) (tot l) := by
  unfold titheref08_Sum.f
  have := Sum_from l [] (by simpa using hl) (by simpa using hk)
  rw [tot_nil] at this
  simpa using this
theorem Find_from {s : Int} : ∀ (Q P : List S51), (P ++ Q).length ≤ 1000 → (∀ c ∈ Q, c.f0 ≠ s) → Evt (fun k => titheref08_Find.l0 k (P ++ Q) s (P.length : Int)) (-1)
  | [], P, hl, hk => by
    refine Evt.succ (Evt.pure fun k => ?_)
    simp only [titheref08_Find.l0]
    rw [if_neg (by simp)]
  | c :: Q, P, hl, hk => by
    have hc : (P ++ c :: Q).length = P.length + (Q.length + 1) := by simp
    have ih := Find_from (s := s) Q (P ++ [c]) (by simpa using hl) (fun x hx => hk x (List.mem_cons_of_mem _ hx))
    refine Evt.succ ?_
    simp only [titheref08_Find.l0]
    rw [rd_mid, nx P c (by omega)]
    refine Evt.ifp (by omega) (Evt.ifp (by omega) (Evt.ifn (hk c (List.mem_cons_self ..)) ?_))
    rw [as_mid]; exact ih
theorem Find_miss {s : Int} {l : List S51} (hl : l.length ≤ 1000) (hk : ∀ c ∈ l, c.f0 ≠ s) : Evt (fun k => titheref08_Find.f k l s) (-1) := by
  unfold titheref08_Find.f
  have := Find_from (s := s) l [] (by simpa using hl) hk
  simpa using this
theorem Find_at {s : Int} {c : S51} {R : List S51} (hc : c.f0 = s) : ∀ (Q P : List S51), (P ++ (Q ++ c :: R)).length ≤ 1000 → (∀ x ∈ Q, x.f0 ≠ s) →
    Evt (fun k => titheref08_Find.l0 k (P ++ (Q ++ c :: R)) s (P.length : Int)) ((P ++ Q).length : Int)
  | [], P, hl, hk => by
    have hc2 : (P ++ ([] ++ c :: R)).length = P.length + (R.length + 1) := by simp
    refine Evt.succ ?_
    simp only [titheref08_Find.l0, List.nil_append] at *
    rw [rd_mid]
    refine Evt.ifp (by omega) (Evt.ifp (by omega) (Evt.ifp hc (Evt.pure fun k => by simp)))
  | d :: Q, P, hl, hk => by
    have hc2 : (P ++ (d :: Q ++ c :: R)).length = P.length + (Q.length + 1 + (R.length + 1)) := by simp; omega
    have ih := Find_at hc Q (P ++ [d]) (by simpa using hl) (fun x hx => hk x (List.mem_cons_of_mem _ hx))
    refine Evt.succ ?_
    simp only [titheref08_Find.l0, List.cons_append] at *
    rw [rd_mid, nx P d (by omega)]
    refine Evt.ifp (by omega) (Evt.ifp (by omega) (Evt.ifn (hk d (List.mem_cons_self ..)) ?_))
    simpa using ih
theorem Find_hit {s : Int} {c : S51} {P R : List S51} (hc : c.f0 = s) (hl : (P ++ c :: R).length ≤ 1000) (hk : ∀ x ∈ P, x.f0 ≠ s) :
    Evt (fun k => titheref08_Find.f k (P ++ c :: R) s) (P.length : Int) := by
  unfold titheref08_Find.f
  have := Find_at (R := R) hc P [] (by simpa using hl) hk
  simpa using this
theorem share_ok {n : Int} : titheref08_share.f n = some (shareB n) := by
  unfold titheref08_share.f shareB
  by_cases hh : n ≥ 1
  · rw [if_pos hh, decide_eq_true hh, Bool.true_and]
  · rw [if_neg hh, decide_eq_false hh, Bool.false_and]
theorem shareB_t {n : Int} (h : shareB n = true) : 1 ≤ n ∧ n ≤ 1048576 := by
  unfold shareB at h
  rw [Bool.and_eq_true] at h
  exact ⟨of_decide_eq_true h.1, of_decide_eq_true h.2⟩
theorem twin_ok {l : List S51} (h : l.length ≤ 1000) : titheref08_twin.f l = some l := by
  unfold titheref08_twin.f
  rw [if_pos (by simp; omega)]; rfl
/-- behind the place of the new claim -/
theorem Add_tail {s n : Int} {L1 : List S51} : ∀ (Q P : List S51), (L1 ++ (P ++ Q)).length ≤ 1000 →
    Evt (fun k => titheref08_Add.l0 k (L1 ++ (P ++ Q)) s n (L1 ++ ⟨s, n, 0, false⟩ :: P) true ((L1 ++ P).length : Int)) (L1 ++ ⟨s, n, 0, false⟩ :: (P ++ Q), 0)
  | [], P, hl => by
    refine Evt.succ ?_
    simp only [titheref08_Add.l0]
    refine Evt.ifn (by simp) (Evt.ifp (by simp) (Evt.pure fun k => by simp))
  | c :: Q, P, hl => by
    have hc : (L1 ++ (P ++ c :: Q)).length = L1.length + P.length + (Q.length + 1) := by simp; omega
    have hc2 : (L1 ++ P).length = L1.length + P.length := by simp
    have hc3 : (L1 ++ (⟨s, n, 0, false⟩ : S51) :: P).length = L1.length + P.length + 1 := by simp; omega
    have ih := Add_tail (s := s) (n := n) (L1 := L1) Q (P ++ [c]) (by simpa using hl)
    have hr : rd_T51 (L1 ++ (P ++ c :: Q)) ((L1 ++ P).length : Int) = c := by rw [← List.append_assoc]; exact rd_mid _ _ _
    have ih2 : Evt (fun k => titheref08_Add.l0 k (L1 ++ (P ++ c :: Q)) s n (L1 ++ (⟨s, n, 0, false⟩ : S51) :: P ++ [c]) true ((L1 ++ P ++ [c]).length : Int)) (L1 ++ ⟨s, n, 0, false⟩ :: (P ++ c :: Q), 0) := by
      simpa using ih
    refine Evt.succ ?_
    simp only [titheref08_Add.l0]
    rw [hr, nx (L1 ++ P) c (by omega)]
    refine Evt.ifp (by omega) (Evt.ifp (by omega) ?_)
    by_cases h : c.f0 > s
    · exact Evt.ifp h (Evt.ifp (by simp) (Evt.ifp (by omega) ih2))
    · exact Evt.ifn h (Evt.ifp (by omega) ih2)
theorem Add_head {s n : Int} {L2 : List S51} (h2 : ∀ x ∈ L2, s < x.f0) : ∀ (Q P : List S51), (P ++ (Q ++ L2)).length ≤ 1000 → (∀ x ∈ Q, x.f0 < s) →
    Evt (fun k => titheref08_Add.l0 k (P ++ (Q ++ L2)) s n P false (P.length : Int)) (P ++ (Q ++ ⟨s, n, 0, false⟩ :: L2), 0)
  | c :: Q, P, hl, h1 => by
    have hc : (P ++ (c :: Q ++ L2)).length = P.length + (Q.length + L2.length + 1) := by simp
    have ih := Add_head (n := n) h2 Q (P ++ [c]) (by simpa using hl) (fun x hx => h1 x (List.mem_cons_of_mem _ hx))
    have hn : ¬ c.f0 > s := by have := h1 c (List.mem_cons_self ..); omega
    refine Evt.succ ?_
    simp only [titheref08_Add.l0, List.cons_append] at *
    rw [rd_mid, nx P c (by omega)]
    refine Evt.ifp (by omega) (Evt.ifp (by omega) (Evt.ifn hn (Evt.ifp (by omega) ?_)))
    simpa using ih
  | [], P, hl, h1 => by
    cases L2 with
    | nil =>
      refine Evt.succ ?_
      simp only [titheref08_Add.l0, List.nil_append, List.append_nil] at *
      exact Evt.ifn (by omega) (Evt.ifn (by simp) (Evt.ifp (by omega) (Evt.pure fun k => rfl)))
    | cons c R =>
      have hc : (P ++ ([] ++ c :: R)).length = P.length + (R.length + 1) := by simp
      have hp := h2 c (List.mem_cons_self ..)
      have tl := Add_tail (s := s) (n := n) (L1 := P) R [c] (by simpa using hl)
      refine Evt.succ ?_
      simp only [titheref08_Add.l0, List.nil_append] at *
      rw [rd_mid, nx P c (by omega)]
      refine Evt.ifp (by omega) (Evt.ifp (by omega) (Evt.ifp (by omega) (Evt.ifn (by simp) (Evt.ifp (by omega) ?_))))
      refine Evt.call rfl (Evt.ifp (by simp; omega) ?_)
      simpa using tl
theorem same_from : ∀ (Q P : List S28), (P ++ Q).length ≤ 1000 → Evt (fun k => tithelaw08_same.l0 k (P ++ Q) ((P ++ Q).map cv) (P.length : Int)) true
  | [], P, hl => by
    refine Evt.succ (Evt.pure fun k => ?_)
    simp only [tithelaw08_same.l0]
    rw [if_neg (by simp)]
  | c :: Q, P, hl => by
    have hc : (P ++ c :: Q).length = P.length + (Q.length + 1) := by simp
    have hm : ((P ++ c :: Q).map cv).length = P.length + (Q.length + 1) := by simp
    have ih := same_from Q (P ++ [c]) (by simpa using hl)
    have hr : rd_T51 ((P ++ c :: Q).map cv) (P.length : Int) = cv c := by
      have := rd_mid (P.map cv) (cv c) (Q.map cv)
      simpa using this
    refine Evt.succ ?_
    simp only [tithelaw08_same.l0]
    rw [rd_mid28, hr, nx P c (by omega)]
    refine Evt.ifp (by omega) (Evt.ifp (by omega) (Evt.ifp (by omega) (Evt.ifn (by simp [cv]) ?_)))
    rw [as_mid]; exact ih
theorem same_evt {l : List S28} (hl : l.length ≤ 1000) : Evt (fun k => tithelaw08_same.f k l (l.map cv)) true := by
  unfold tithelaw08_same.f
  have := same_from l [] (by simpa using hl)
  exact Evt.ifp (by simp) (by simpa using this)
theorem num_none : tithelaw08_num.f none = some 0 := rfl
theorem num_some (x : Int) : tithelaw08_num.f (some x) = some x := rfl
end Go.Proofs.YtaoicceakgipgaaDoor.Pure
