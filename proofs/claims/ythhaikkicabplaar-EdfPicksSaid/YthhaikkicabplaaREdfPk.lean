/- What Pick answers, the program's and the reference's; two lists are the same; the head. No conditions. (Lines of EdfBase, EdfWorks, EdfRefPick.) -/
import Derived.Test.YthhaikkicabplaaRPx9
import Derived.Test.YthhaikkicabplaaRPx11
import Derived.Test.YthhaikkicabplaaRAid
namespace Go.Proofs.YthhaikkicabplaaR.Pure
open Go Go.RowKit Tithe Go.Proofs.YthhaikkicabplaaR.P Go.Proofs.YthhaikkicabplaaRW.PrintWords Go.Proofs.YthhaikkicabplaaRW.PrintLast Go.Proofs.YthhaikkicabplaaRW.PrintMore

theorem rd59 {l : List S59} {i : Nat} (h : i < l.length) : rd_T59 l (i : Int) = l[i] := by
  simp [rd_T59, List.getD, List.getElem?_eq_getElem h]
theorem rdI {l : List Int} {i : Nat} (h : i < l.length) : rd l (i : Int) = l[i] := by
  simp [rd, List.getD, List.getElem?_eq_getElem h]

/-! ### who is picked -/
/-- of m children with budgets, slots, ends: who is picked -/
def Ahd (sl en : Nat → Int) (j k : Nat) : Prop := en j < en k ∨ (en j = en k ∧ (sl j < sl k ∨ (sl j = sl k ∧ j ≤ k)))
def PickIs (m : Nat) (sl lf en : Nat → Int) (r : Int) : Prop :=
  (r = -1 ∧ ∀ j, j < m → lf j ≤ 0) ∨ ∃ j : Nat, j < m ∧ r = j ∧ 0 < lf j ∧ ∀ k, k < m → 0 < lf k → Ahd sl en j k

theorem PickIs.uniq {m : Nat} {sl lf en : Nat → Int} {r r' : Int} (h : PickIs m sl lf en r) (h' : PickIs m sl lf en r') : r = r' := by
  rcases h with ⟨rfl, h⟩ | ⟨j, hj, rfl, hl, h⟩ <;> rcases h' with ⟨rfl, h'⟩ | ⟨j', hj', rfl, hl', h'⟩
  · rfl
  · have := h j' hj'; omega
  · have := h' j hj; omega
  · have a := h j' hj' hl'
    have b := h' j hj hl
    unfold Ahd at a b; omega

theorem PickIs.congr {m : Nat} {sl lf en sl' lf' en' : Nat → Int} {r : Int} (h : PickIs m sl lf en r) (e : ∀ j, j < m → sl j = sl' j ∧ lf j = lf' j ∧ (0 < lf j → en j = en' j)) : PickIs m sl' lf' en' r := by
  rcases h with ⟨rfl, h⟩ | ⟨j, hj, rfl, hl, h⟩
  · exact .inl ⟨rfl, fun j hj => by have := e j hj; have := h j hj; omega⟩
  · refine .inr ⟨j, hj, rfl, by have := e j hj; omega, fun k hk hlk => ?_⟩
    have e1 := e j hj
    have e2 := e k hk
    have := h k hk (by omega)
    have := e1.2.2 hl
    have := e2.2.2 (by omega)
    unfold Ahd at *; omega

theorem PickIs.step {i : Nat} {sl lf en : Nat → Int} {b : Int} (h : PickIs i sl lf en b) (hl : lf i ≤ 0) : PickIs (i + 1) sl lf en b := by
  rcases h with ⟨rfl, h⟩ | ⟨j, hj, rfl, hlj, h⟩
  · exact .inl ⟨rfl, fun j hj => by
      by_cases e : j = i
      · subst e; exact hl
      · exact h j (by omega)⟩
  · refine .inr ⟨j, by omega, rfl, hlj, fun k hk hlk => ?_⟩
    by_cases e : k = i
    · subst e; omega
    · exact h k (by omega) hlk

theorem PickIs.first {i : Nat} {sl lf en : Nat → Int} {b : Int} (h : PickIs i sl lf en b) (hb : b < 0) (hl : 0 < lf i) : PickIs (i + 1) sl lf en i := by
  rcases h with ⟨rfl, h⟩ | ⟨j, hj, rfl, hlj, h⟩
  · refine .inr ⟨i, by omega, rfl, hl, fun k hk hlk => ?_⟩
    by_cases e : k = i
    · subst e; unfold Ahd; omega
    · have := h k (by omega); omega
  · omega

theorem PickIs.turn {i : Nat} {sl lf en : Nat → Int} {b : Nat} (h : PickIs i sl lf en b) (hl : 0 < lf i) (hlt : en i < en b ∨ (en i = en b ∧ sl i < sl b)) : PickIs (i + 1) sl lf en i := by
  rcases h with ⟨e, h⟩ | ⟨j, hj, e, hlj, h⟩
  · omega
  · obtain rfl : b = j := by omega
    refine .inr ⟨i, by omega, rfl, hl, fun k hk hlk => ?_⟩
    by_cases e : k = i
    · subst e; unfold Ahd; omega
    · have := h k (by omega) hlk; unfold Ahd at *; omega

theorem PickIs.stay {i : Nat} {sl lf en : Nat → Int} {b : Nat} (h : PickIs i sl lf en b) (hlt : ¬ (en i < en b ∨ (en i = en b ∧ sl i < sl b))) : PickIs (i + 1) sl lf en b := by
  rcases h with ⟨e, h⟩ | ⟨j, hj, e, hlj, h⟩
  · omega
  · obtain rfl : b = j := by omega
    refine .inr ⟨b, by omega, rfl, hlj, fun k hk hlk => ?_⟩
    by_cases e : k = i
    · subst e; unfold Ahd; omega
    · exact h k (by omega) hlk

theorem PickIs.range {m : Nat} {sl lf en : Nat → Int} {r : Int} (h : PickIs m sl lf en r) : r = -1 ∨ (0 ≤ r ∧ r < m) := by
  rcases h with ⟨h, _⟩ | ⟨j, hj, rfl, _⟩
  · exact .inl h
  · exact .inr (by omega)

def cmpI (a b : Int) : Int := if a < b then -1 else if a > b then 1 else 0
theorem compare_eq (a b : Int) : cmp_Compare_int.f a b = some (cmpI a b) := by
  unfold cmp_Compare_int.f cmp_isNaN_int.f cmpI
  simp only [Option.bind_some, bne_self_eq_false, Bool.false_eq_true, if_false]
  split
  · rfl
  · split <;> rfl

theorem order_evt (a0 a1 a2 b0 b1 b2 : Int) : ∃ c, Evt (fun k => edf_order.f k a0 a1 a2 b0 b1 b2) c ∧ (c < 0 ↔ (a2 < b2 ∨ (a2 = b2 ∧ a0 < b0))) := by
  have key : ∀ x y : Int, Evt (fun k => cmp_Or_int.f k [x, y]) (if x = 0 then y else x) := by
    intro x y
    unfold cmp_Or_int.f
    refine Evt.succ ?_
    simp only [cmp_Or_int.l0]
    refine Evt.ifp (by simp) (Evt.ifp (by omega) (Evt.ifp (by simp) ?_))
    have e0 : rd [x, y] 0 = x := rfl
    rw [e0]
    by_cases h : x = 0
    · refine Evt.ifp h ?_
      rw [if_pos h, show wrap64 (0 + 1) = 1 from by unfold wrap64; omega]
      refine Evt.succ ?_
      simp only [cmp_Or_int.l0]
      refine Evt.ifp (by simp) (Evt.ifp (by omega) (Evt.ifp (by simp) ?_))
      have e1 : rd [x, y] 1 = y := rfl
      rw [e1]
      by_cases h2 : y = 0
      · refine Evt.ifp h2 ?_
        rw [h2, show wrap64 (1 + 1) = 2 from by unfold wrap64; omega]
        refine Evt.succ ?_
        simp only [cmp_Or_int.l0]
        exact Evt.ifn (by simp) (Evt.pure fun _ => rfl)
      · exact Evt.ifn h2 (Evt.pure fun _ => rfl)
    · rw [if_neg h]; exact Evt.ifn h (Evt.pure fun _ => rfl)
  refine ⟨if cmpI a2 b2 = 0 then cmpI a0 b0 else cmpI a2 b2, ?_, ?_⟩
  · unfold edf_order.f
    exact Evt.call (compare_eq _ _) (Evt.call (compare_eq _ _) (Evt.bind (key _ _) (Evt.pure fun _ => rfl)))
  · unfold cmpI
    by_cases h1 : a2 < b2
    · simp [h1]
    · by_cases h2 : a2 > b2
      · simp [h1, h2]; omega
      · obtain rfl : a2 = b2 := by omega
        by_cases h3 : a0 < b0
        · simp [h3]
        · by_cases h4 : a0 > b0
          · simp [h3, h4]
          · simp [h3, h4]

theorem Pick_evt (c : List S59) (hc : c.length ≤ 140737488351232) :
    ∃ r, Evt (fun k => edf_Pick.f k c) r ∧ PickIs c.length (fun j => (rd_T59 c j).f0) (fun j => (rd_T59 c j).f1) (fun j => (rd_T59 c j).f2) r := by
  have key : ∀ (d i : Nat) (b : Int), i + d = c.length → PickIs i (fun j => (rd_T59 c j).f0) (fun j => (rd_T59 c j).f1) (fun j => (rd_T59 c j).f2) b →
      ∃ r, Evt (fun k => edf_Pick.l0 k c b c (c.length : Int) i) r ∧ PickIs c.length (fun j => (rd_T59 c j).f0) (fun j => (rd_T59 c j).f1) (fun j => (rd_T59 c j).f2) r := by
    intro d
    induction d with
    | zero =>
      intro i b h hp
      obtain rfl : i = c.length := by omega
      refine ⟨b, Evt.succ ?_, hp⟩
      simp only [edf_Pick.l0]
      exact Evt.ifn (by omega) (Evt.pure fun _ => rfl)
    | succ d ih =>
      intro i b h hp
      have hi : i < c.length := by omega
      by_cases hl : (rd_T59 c i).f1 > 0
      · by_cases hb : b < 0
        · obtain ⟨r, hr, hp'⟩ := ih (i + 1) i (by omega) (hp.first hb hl)
          refine ⟨r, Evt.succ ?_, hp'⟩
          simp only [edf_Pick.l0]
          rw [w1 i (by omega)]
          exact Evt.ifp (by omega) (Evt.ifp (by omega) (Evt.ifp (by omega) (Evt.ifp hl (Evt.ifp hb hr))))
        · have hrg := hp.range
          obtain ⟨b', rfl⟩ : ∃ b' : Nat, b = b' := ⟨b.toNat, by omega⟩
          obtain ⟨o, ho, hoi⟩ := order_evt (rd_T59 c i).f0 (rd_T59 c i).f1 (rd_T59 c i).f2 (rd_T59 c b').f0 (rd_T59 c b').f1 (rd_T59 c b').f2
          by_cases hlt : o < 0
          · obtain ⟨r, hr, hp'⟩ := ih (i + 1) i (by omega) (hp.turn hl (hoi.1 hlt))
            refine ⟨r, Evt.succ ?_, hp'⟩
            simp only [edf_Pick.l0]
            rw [w1 i (by omega)]
            exact Evt.ifp (by omega) (Evt.ifp (by omega) (Evt.ifp (by omega) (Evt.ifp hl (Evt.ifn hb (Evt.ifp (by omega) (Evt.ifp (by omega) (Evt.bind ho (Evt.ifp hlt hr))))))))
          · obtain ⟨r, hr, hp'⟩ := ih (i + 1) b' (by omega) (hp.stay (fun hh => hlt (hoi.2 hh)))
            refine ⟨r, Evt.succ ?_, hp'⟩
            simp only [edf_Pick.l0]
            rw [w1 i (by omega)]
            exact Evt.ifp (by omega) (Evt.ifp (by omega) (Evt.ifp (by omega) (Evt.ifp hl (Evt.ifn hb (Evt.ifp (by omega) (Evt.ifp (by omega) (Evt.bind ho (Evt.ifn hlt hr))))))))
      · obtain ⟨r, hr, hp'⟩ := ih (i + 1) b (by omega) (hp.step (by omega))
        refine ⟨r, Evt.succ ?_, hp'⟩
        simp only [edf_Pick.l0]
        rw [w1 i (by omega)]
        exact Evt.ifp (by omega) (Evt.ifp (by omega) (Evt.ifp (by omega) (Evt.ifn hl hr)))
  exact key c.length 0 (-1) (by omega) (.inl ⟨rfl, fun j hj => by omega⟩)

theorem same_evt (a b : List Int) (ha : a.length ≤ 140737488351232) : Evt (fun k => tithelaw10_same.f k a b) (decide (a = b)) := by
  unfold tithelaw10_same.f
  by_cases hl : (a.length : Int) = b.length
  · refine Evt.ifp hl ?_
    have hl' : a.length = b.length := by omega
    have key : ∀ (d i : Nat), i + d = a.length → Evt (fun k => tithelaw10_same.l0 k a b i) (decide (a.drop i = b.drop i)) := by
      intro d
      induction d with
      | zero =>
        intro i h
        refine Evt.succ ?_
        simp only [tithelaw10_same.l0]
        rw [List.drop_of_length_le (by omega), List.drop_of_length_le (by omega)]
        exact Evt.ifn (by omega) (Evt.pure fun _ => by simp)
      | succ d ih =>
        intro i h
        refine Evt.succ ?_
        simp only [tithelaw10_same.l0]
        have h1 : i < a.length := by omega
        have h2 : i < b.length := by omega
        refine Evt.ifp (by omega) (Evt.ifp (by omega) (Evt.ifp (by omega) ?_))
        rw [List.drop_eq_getElem_cons h1, List.drop_eq_getElem_cons h2, rdI h1, rdI h2]
        by_cases he : a[i] = b[i]
        · refine Evt.ifp he ?_
          rw [w64 (by omega) (by omega)]
          have := ih (i + 1) (by omega)
          rw [show ((i + 1 : Nat) : Int) = (i : Int) + 1 by omega] at this
          have hd : (a[i] :: a.drop (i + 1) = b[i] :: b.drop (i + 1)) ↔ (a.drop (i + 1) = b.drop (i + 1)) := ⟨fun h => (List.cons.inj h).2, fun h => by rw [h, he]⟩
          rw [show decide (a[i] :: a.drop (i + 1) = b[i] :: b.drop (i + 1)) = decide (a.drop (i + 1) = b.drop (i + 1)) from decide_eq_decide.2 hd]
          exact this
        · refine Evt.ifn he (Evt.pure fun _ => ?_)
          rw [decide_eq_false (fun h => he (by simpa using (List.cons.inj h).1))]
    exact key a.length 0 (by omega)
  · refine Evt.ifn hl (Evt.pure fun _ => ?_)
    rw [decide_eq_false (fun h => hl (by rw [h]))]

theorem same_true (a : List Int) (ha : a.length ≤ 140737488351232) : Evt (fun k => tithelaw10_same.f k a a) true := by
  have := same_evt a a ha
  rwa [decide_eq_true rfl] at this

theorem works_evt : Evt (fun k => tithelaw10_works.f k) true := by
  have h : tithelaw10_works.f 60 = some true := by decide +kernel
  exact ⟨60, fun k hk => at_rounds (tithelaw10_works.mono) hk h⟩
theorem rd60 {l : List S60} {i : Nat} (h : i < l.length) : rd_T60 l (i : Int) = l[i] := by
  simp [rd_T60, List.getD, List.getElem?_eq_getElem h]
theorem refPick_evt (c : List S60) (hc : c.length ≤ 140737488351232) :
    ∃ r, Evt (fun k => titheref10_Pick.f k c) r ∧ PickIs c.length (fun j => (rd_T60 c j).f0) (fun j => (rd_T60 c j).f1) (fun j => (rd_T60 c j).f2) r := by
  have key : ∀ (d i : Nat) (b : Int), i + d = c.length → PickIs i (fun j => (rd_T60 c j).f0) (fun j => (rd_T60 c j).f1) (fun j => (rd_T60 c j).f2) b →
      ∃ r, Evt (fun k => titheref10_Pick.l0 k c b i) r ∧ PickIs c.length (fun j => (rd_T60 c j).f0) (fun j => (rd_T60 c j).f1) (fun j => (rd_T60 c j).f2) r := by
    intro d
    induction d with
    | zero =>
      intro i b h hp
      obtain rfl : i = c.length := by omega
      refine ⟨b, Evt.succ ?_, hp⟩
      simp only [titheref10_Pick.l0]
      exact Evt.ifn (by omega) (Evt.pure fun _ => rfl)
    | succ d ih =>
      intro i b h hp
      have hi : i < c.length := by omega
      by_cases hl : (rd_T60 c i).f1 > 0
      · by_cases hb : b < 0
        · obtain ⟨r, hr, hp'⟩ := ih (i + 1) i (by omega) (hp.first hb hl)
          refine ⟨r, Evt.succ ?_, hp'⟩
          simp only [titheref10_Pick.l0]
          rw [w1 i (by omega)]
          exact Evt.ifp (by omega) (Evt.ifp (by omega) (Evt.ifp hl (Evt.ifp hb hr)))
        · have hrg := hp.range
          obtain ⟨b', rfl⟩ : ∃ b' : Nat, b = b' := ⟨b.toNat, by omega⟩
          have ha : titheref10_ahead.f c i b' = some (decide ((rd_T60 c i).f2 < (rd_T60 c b').f2 ∨ ((rd_T60 c i).f2 = (rd_T60 c b').f2 ∧ (rd_T60 c i).f0 < (rd_T60 c b').f0))) := by
            unfold titheref10_ahead.f
            rw [if_pos (by omega), if_pos (by omega), if_pos (by omega), if_pos (by omega)]
            have hib : (b' : Int) < i := by
              rcases hp with ⟨e, _⟩ | ⟨j, hj, e, _⟩ <;> omega
            split
            · split
              · congr 1; rw [decide_eq_decide]; omega
              · congr 1; rw [decide_eq_decide]; omega
            · congr 1; rw [decide_eq_decide]; omega
          by_cases hlt : (rd_T60 c i).f2 < (rd_T60 c b').f2 ∨ ((rd_T60 c i).f2 = (rd_T60 c b').f2 ∧ (rd_T60 c i).f0 < (rd_T60 c b').f0)
          · obtain ⟨r, hr, hp'⟩ := ih (i + 1) i (by omega) (hp.turn hl hlt)
            refine ⟨r, Evt.succ ?_, hp'⟩
            simp only [titheref10_Pick.l0]
            rw [w1 i (by omega)]
            exact Evt.ifp (by omega) (Evt.ifp (by omega) (Evt.ifp hl (Evt.ifn hb (Evt.call ha (Evt.ifp (decide_eq_true hlt) hr)))))
          · obtain ⟨r, hr, hp'⟩ := ih (i + 1) b' (by omega) (hp.stay hlt)
            refine ⟨r, Evt.succ ?_, hp'⟩
            simp only [titheref10_Pick.l0]
            rw [w1 i (by omega)]
            exact Evt.ifp (by omega) (Evt.ifp (by omega) (Evt.ifp hl (Evt.ifn hb (Evt.call ha (Evt.ifn (by rw [decide_eq_false hlt]; simp) hr)))))
      · obtain ⟨r, hr, hp'⟩ := ih (i + 1) b (by omega) (hp.step (by omega))
        refine ⟨r, Evt.succ ?_, hp'⟩
        simp only [titheref10_Pick.l0]
        rw [w1 i (by omega)]
        exact Evt.ifp (by omega) (Evt.ifp (by omega) (Evt.ifn hl hr))
  exact key c.length 0 (-1) (by omega) (.inl ⟨rfl, fun j hj => by omega⟩)
end Go.Proofs.YthhaikkicabplaaR.Pure
