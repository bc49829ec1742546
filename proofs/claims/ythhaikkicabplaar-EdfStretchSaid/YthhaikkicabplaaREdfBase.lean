/- What the functions of the package edf answer, as plain lists: valid items, who is picked, the plan. No conditions. -/
import Derived.Test.YthhaikkicabplaaRXx9
import Derived.Test.YthhaikkicabplaaRXx10
import Derived.Test.YthhaikkicabplaaRAid
import Derived.Test.YthhaikkicabplaaREdf
namespace Go.Proofs.YthhaikkicabplaaR.Pure
open Go Go.RowKit Tithe Go.Proofs.YthhaikkicabplaaR.X Go.Proofs.YthhaikkicabplaaRW.PrintWords Go.Proofs.YthhaikkicabplaaRW.PrintLast Go.Proofs.YthhaikkicabplaaRW.PrintMore

def cv (x : S43) : S55 := ⟨x.f0, x.f1, x.f2⟩

theorem rd43 {l : List S43} {i : Nat} (h : i < l.length) : rd_T43 l (i : Int) = l[i] := by
  simp [rd_T43, List.getD, List.getElem?_eq_getElem h]
theorem rd55 {l : List S43} {i : Nat} (h : i < l.length) : rd_T55 (l.map cv) (i : Int) = cv (rd_T43 l (i : Int)) := by
  rw [rd43 h]; simp [rd_T55, List.getD, h]
theorem rd59 {l : List S59} {i : Nat} (h : i < l.length) : rd_T59 l (i : Int) = l[i] := by
  simp [rd_T59, List.getD, List.getElem?_eq_getElem h]
theorem rdI {l : List Int} {i : Nat} (h : i < l.length) : rd l (i : Int) = l[i] := by
  simp [rd, List.getD, List.getElem?_eq_getElem h]

/-! ### valid items -/
def vI (q p s : Int) : Int := if 1 ≤ q ∧ q ≤ p ∧ p ≤ 1048576 then (if 0 ≤ s ∧ s ≤ 1073741824 then 0 else 1) else 2
def opt (e : Int) : Option Int := if e = 0 then none else some e
theorem opt_zero : opt 0 = none := rfl
theorem opt_pos {e : Int} (h : e ≠ 0) : opt e = some e := if_neg h

theorem vI_two {q p s : Int} (h : ¬ (1 ≤ q ∧ q ≤ p ∧ p ≤ 1048576)) : vI q p s = 2 := if_neg h
theorem vI_one {q p s : Int} (h : 1 ≤ q ∧ q ≤ p ∧ p ≤ 1048576) (h2 : ¬ (0 ≤ s ∧ s ≤ 1073741824)) : vI q p s = 1 := by unfold vI; rw [if_pos h, if_neg h2]
theorem vI_ok {q p s : Int} (h : 1 ≤ q ∧ q ≤ p ∧ p ≤ 1048576) (h2 : 0 ≤ s ∧ s ≤ 1073741824) : vI q p s = 0 := by unfold vI; rw [if_pos h, if_pos h2]

theorem item_valid (q p s : Int) : edf_Item_valid.f q p s = some (opt (vI q p s)) := by
  unfold edf_Item_valid.f fixed_Valid.f
  by_cases h1 : q < 1
  · rw [if_pos h1, vI_two (by omega)]; rfl
  · rw [if_neg h1]
    by_cases h2 : p > 1048576
    · rw [if_pos h2, vI_two (by omega)]; rfl
    · rw [if_neg h2]
      by_cases h3 : q > p
      · rw [if_pos h3, vI_two (by omega)]; rfl
      · rw [if_neg h3]
        simp only [Option.bind_some, Option.isNone_none, if_true]
        by_cases h4 : s < 0
        · rw [if_pos h4, vI_one (by omega) (by omega)]; rfl
        · rw [if_neg h4]
          by_cases h5 : s > 1073741824
          · rw [if_pos h5, vI_one (by omega) (by omega)]; rfl
          · rw [if_neg h5, vI_ok (by omega) (by omega)]; rfl

/-- the first item's error -/
def vL : List S43 → Int
  | [] => 0
  | x :: r => if vI x.f0 x.f1 x.f2 = 0 then vL r else vI x.f0 x.f1 x.f2
def vLL (l : List S43) : Int := if (l.length : Int) > 64 then 3 else vL l

theorem vL_zero {l : List S43} (h : vL l = 0) : ∀ x ∈ l, 1 ≤ x.f0 ∧ x.f0 ≤ x.f1 ∧ x.f1 ≤ 1048576 ∧ 0 ≤ x.f2 ∧ x.f2 ≤ 1073741824 := by
  induction l with
  | nil => intro x hx; simp at hx
  | cons y r ih =>
    intro x hx
    simp only [vL] at h
    by_cases hy : vI y.f0 y.f1 y.f2 = 0
    · rw [if_pos hy] at h
      rcases List.mem_cons.1 hx with rfl | hx
      · unfold vI at hy
        split at hy
        · split at hy
          · omega
          · omega
        · omega
      · exact ih h x hx
    · rw [if_neg hy] at h; exact absurd h hy

theorem vLL_zero {l : List S43} (h : vLL l = 0) : l.length ≤ 64 ∧ ∀ x ∈ l, 1 ≤ x.f0 ∧ x.f0 ≤ x.f1 ∧ x.f1 ≤ 1048576 ∧ 0 ≤ x.f2 ∧ x.f2 ≤ 1073741824 := by
  unfold vLL at h
  split at h
  · omega
  · exact ⟨by omega, vL_zero h⟩

theorem edf_Valid_evt (l : List S43) (hl : l.length ≤ 140737488351232) : Evt (fun k => edf_Valid.f k (l.map cv)) (opt (vLL l)) := by
  have key : ∀ (d i : Nat), i + d = l.length → Evt (fun k => edf_Valid.l0 k (l.map cv) ((l.map cv).length : Int) i) (opt (vL (l.drop i))) := by
    intro d
    induction d with
    | zero =>
      intro i h
      refine Evt.succ ?_
      simp only [edf_Valid.l0]
      rw [List.drop_of_length_le (by omega)]
      exact Evt.ifn (by simp; omega) (Evt.pure fun _ => rfl)
    | succ d ih =>
      intro i h
      have hi : i < l.length := by omega
      refine Evt.succ ?_
      simp only [edf_Valid.l0]
      rw [List.drop_eq_getElem_cons hi]
      refine Evt.ifp (by simp; omega) (Evt.ifp (by omega) (Evt.ifp (by simp; omega) ?_))
      have hv0 : edf_Item_valid.f (rd_T55 (l.map cv) i).f0 (rd_T55 (l.map cv) i).f1 (rd_T55 (l.map cv) i).f2 = some (opt (vI l[i].f0 l[i].f1 l[i].f2)) := by
        rw [rd55 hi, rd43 hi]; exact item_valid _ _ _
      simp only [vL]
      by_cases hv : vI l[i].f0 l[i].f1 l[i].f2 = 0
      · rw [if_pos hv]
        rw [hv, opt_zero] at hv0
        refine Evt.call hv0 (Evt.ifp rfl ?_)
        rw [w64 (by omega) (by omega)]
        have := ih (i + 1) (by omega)
        rwa [show ((i + 1 : Nat) : Int) = (i : Int) + 1 by omega] at this
      · rw [if_neg hv]
        rw [opt_pos hv] at hv0
        rw [opt_pos hv]
        exact Evt.call hv0 (Evt.ifn (by simp) (Evt.pure fun _ => rfl))
  unfold edf_Valid.f vLL
  by_cases h : (l.length : Int) > 64
  · rw [if_pos h]
    exact Evt.ifp (by simpa using h) (Evt.pure fun _ => rfl)
  · rw [if_neg h]
    refine Evt.ifn (by simpa using h) ?_
    exact key l.length 0 (by omega)

theorem items_evt (l : List S43) (hl : l.length * 24 ≤ 140737488351232) : Evt (fun k => tithelaw10_items.f k l) (l.map cv) := by
  have key : ∀ (d i : Nat), i + d = l.length → Evt (fun k => tithelaw10_items.l0 k l ((l.take i).map cv) i) (l.map cv) := by
    intro d
    induction d with
    | zero =>
      intro i h
      refine Evt.succ ?_
      simp only [tithelaw10_items.l0]
      rw [List.take_of_length_le (by omega)]
      exact Evt.ifn (by omega) (Evt.pure fun _ => rfl)
    | succ d ih =>
      intro i h
      have hi : i < l.length := by omega
      refine Evt.succ ?_
      simp only [tithelaw10_items.l0]
      refine Evt.ifp (by omega) (Evt.ifp (by omega) (Evt.ifp (by simp; omega) ?_))
      rw [w64 (by omega) (by omega)]
      have := ih (i + 1) (by omega)
      rw [show ((i + 1 : Nat) : Int) = (i : Int) + 1 by omega, List.take_succ_eq_append_getElem hi, List.map_append] at this
      rw [rd43 hi]
      exact this
  unfold tithelaw10_items.f
  exact key l.length 0 (by omega)

/-! ### who is picked -/
/-- of m children with budgets, slots, ends: who is picked -/
def Ahd (sl en : Nat → Int) (j k : Nat) : Prop := en j < en k ∨ (en j = en k ∧ (sl j < sl k ∨ (sl j = sl k ∧ j ≤ k)))
def PickIs (m : Nat) (sl lf en : Nat → Int) (r : Int) : Prop :=
  (r = -1 ∧ ∀ j, j < m → lf j ≤ 0) ∨ ∃ j : Nat, j < m ∧ r = j ∧ 0 < lf j ∧ ∀ k, k < m → 0 < lf k → Ahd sl en j k

theorem PickIs.uniq {m : Nat} {sl lf en : Nat → Int} {r r' : Int} (h : PickIs m sl lf en r) (h' : PickIs m sl lf en r') : r = r' := by
  rcases h with ⟨rfl, h⟩ | ⟨j, hj, rfl, hl, h⟩ <;> rcases h' with ⟨rfl, h'⟩ | ⟨j', hj', rfl, hl', h'⟩
  · rfl
  · have := h j' hj'; omega
  · have := h' j hj; omega
  · have a := h j' hj' hl'
    have b := h' j hj hl
    unfold Ahd at a b; omega

theorem PickIs.congr {m : Nat} {sl lf en sl' lf' en' : Nat → Int} {r : Int} (h : PickIs m sl lf en r) (e : ∀ j, j < m → sl j = sl' j ∧ lf j = lf' j ∧ (0 < lf j → en j = en' j)) : PickIs m sl' lf' en' r := by
  rcases h with ⟨rfl, h⟩ | ⟨j, hj, rfl, hl, h⟩
  · exact .inl ⟨rfl, fun j hj => by have := e j hj; have := h j hj; omega⟩
  · refine .inr ⟨j, hj, rfl, by have := e j hj; omega, fun k hk hlk => ?_⟩
    have e1 := e j hj
    have e2 := e k hk
    have := h k hk (by omega)
    have := e1.2.2 hl
    have := e2.2.2 (by omega)
    unfold Ahd at *; omega

theorem PickIs.step {i : Nat} {sl lf en : Nat → Int} {b : Int} (h : PickIs i sl lf en b) (hl : lf i ≤ 0) : PickIs (i + 1) sl lf en b := by
  rcases h with ⟨rfl, h⟩ | ⟨j, hj, rfl, hlj, h⟩
  · exact .inl ⟨rfl, fun j hj => by
      by_cases e : j = i
      · subst e; exact hl
      · exact h j (by omega)⟩
  · refine .inr ⟨j, by omega, rfl, hlj, fun k hk hlk => ?_⟩
    by_cases e : k = i
    · subst e; omega
    · exact h k (by omega) hlk

theorem PickIs.first {i : Nat} {sl lf en : Nat → Int} {b : Int} (h : PickIs i sl lf en b) (hb : b < 0) (hl : 0 < lf i) : PickIs (i + 1) sl lf en i := by
  rcases h with ⟨rfl, h⟩ | ⟨j, hj, rfl, hlj, h⟩
  · refine .inr ⟨i, by omega, rfl, hl, fun k hk hlk => ?_⟩
    by_cases e : k = i
    · subst e; unfold Ahd; omega
    · have := h k (by omega); omega
  · omega

theorem PickIs.turn {i : Nat} {sl lf en : Nat → Int} {b : Nat} (h : PickIs i sl lf en b) (hl : 0 < lf i) (hlt : en i < en b ∨ (en i = en b ∧ sl i < sl b)) : PickIs (i + 1) sl lf en i := by
  rcases h with ⟨e, h⟩ | ⟨j, hj, e, hlj, h⟩
  · omega
  · obtain rfl : b = j := by omega
    refine .inr ⟨i, by omega, rfl, hl, fun k hk hlk => ?_⟩
    by_cases e : k = i
    · subst e; unfold Ahd; omega
    · have := h k (by omega) hlk; unfold Ahd at *; omega

theorem PickIs.stay {i : Nat} {sl lf en : Nat → Int} {b : Nat} (h : PickIs i sl lf en b) (hlt : ¬ (en i < en b ∨ (en i = en b ∧ sl i < sl b))) : PickIs (i + 1) sl lf en b := by
  rcases h with ⟨e, h⟩ | ⟨j, hj, e, hlj, h⟩
  · omega
  · obtain rfl : b = j := by omega
    refine .inr ⟨b, by omega, rfl, hlj, fun k hk hlk => ?_⟩
    by_cases e : k = i
    · subst e; unfold Ahd; omega
    · exact h k (by omega) hlk

theorem PickIs.range {m : Nat} {sl lf en : Nat → Int} {r : Int} (h : PickIs m sl lf en r) : r = -1 ∨ (0 ≤ r ∧ r < m) := by
  rcases h with ⟨h, _⟩ | ⟨j, hj, rfl, _⟩
  · exact .inl h
  · exact .inr (by omega)

def cmpI (a b : Int) : Int := if a < b then -1 else if a > b then 1 else 0
theorem compare_eq (a b : Int) : cmp_Compare_int.f a b = some (cmpI a b) := by
  unfold cmp_Compare_int.f cmp_isNaN_int.f cmpI
  simp only [Option.bind_some, bne_self_eq_false, Bool.false_eq_true, if_false]
  split
  · rfl
  · split <;> rfl

theorem order_evt (a0 a1 a2 b0 b1 b2 : Int) : ∃ c, Evt (fun k => edf_order.f k a0 a1 a2 b0 b1 b2) c ∧ (c < 0 ↔ (a2 < b2 ∨ (a2 = b2 ∧ a0 < b0))) := by
  have key : ∀ x y : Int, Evt (fun k => cmp_Or_int.f k [x, y]) (if x = 0 then y else x) := by
    intro x y
    unfold cmp_Or_int.f
    refine Evt.succ ?_
    simp only [cmp_Or_int.l0]
    refine Evt.ifp (by simp) (Evt.ifp (by omega) (Evt.ifp (by simp) ?_))
    have e0 : rd [x, y] 0 = x := rfl
    rw [e0]
    by_cases h : x = 0
    · refine Evt.ifp h ?_
      rw [if_pos h, show wrap64 (0 + 1) = 1 from by unfold wrap64; omega]
      refine Evt.succ ?_
      simp only [cmp_Or_int.l0]
      refine Evt.ifp (by simp) (Evt.ifp (by omega) (Evt.ifp (by simp) ?_))
      have e1 : rd [x, y] 1 = y := rfl
      rw [e1]
      by_cases h2 : y = 0
      · refine Evt.ifp h2 ?_
        rw [h2, show wrap64 (1 + 1) = 2 from by unfold wrap64; omega]
        refine Evt.succ ?_
        simp only [cmp_Or_int.l0]
        exact Evt.ifn (by simp) (Evt.pure fun _ => rfl)
      · exact Evt.ifn h2 (Evt.pure fun _ => rfl)
    · rw [if_neg h]; exact Evt.ifn h (Evt.pure fun _ => rfl)
  refine ⟨if cmpI a2 b2 = 0 then cmpI a0 b0 else cmpI a2 b2, ?_, ?_⟩
  · unfold edf_order.f
    exact Evt.call (compare_eq _ _) (Evt.call (compare_eq _ _) (Evt.bind (key _ _) (Evt.pure fun _ => rfl)))
  · unfold cmpI
    by_cases h1 : a2 < b2
    · simp [h1]
    · by_cases h2 : a2 > b2
      · simp [h1, h2]; omega
      · obtain rfl : a2 = b2 := by omega
        by_cases h3 : a0 < b0
        · simp [h3]
        · by_cases h4 : a0 > b0
          · simp [h3, h4]
          · simp [h3, h4]

theorem Pick_evt (c : List S59) (hc : c.length ≤ 140737488351232) :
    ∃ r, Evt (fun k => edf_Pick.f k c) r ∧ PickIs c.length (fun j => (rd_T59 c j).f0) (fun j => (rd_T59 c j).f1) (fun j => (rd_T59 c j).f2) r := by
  have key : ∀ (d i : Nat) (b : Int), i + d = c.length → PickIs i (fun j => (rd_T59 c j).f0) (fun j => (rd_T59 c j).f1) (fun j => (rd_T59 c j).f2) b →
      ∃ r, Evt (fun k => edf_Pick.l0 k c b c (c.length : Int) i) r ∧ PickIs c.length (fun j => (rd_T59 c j).f0) (fun j => (rd_T59 c j).f1) (fun j => (rd_T59 c j).f2) r := by
    intro d
    induction d with
    | zero =>
      intro i b h hp
      obtain rfl : i = c.length := by omega
      refine ⟨b, Evt.succ ?_, hp⟩
      simp only [edf_Pick.l0]
      exact Evt.ifn (by omega) (Evt.pure fun _ => rfl)
    | succ d ih =>
      intro i b h hp
      have hi : i < c.length := by omega
      by_cases hl : (rd_T59 c i).f1 > 0
      · by_cases hb : b < 0
        · obtain ⟨r, hr, hp'⟩ := ih (i + 1) i (by omega) (hp.first hb hl)
          refine ⟨r, Evt.succ ?_, hp'⟩
          simp only [edf_Pick.l0]
          rw [w1 i (by omega)]
          exact Evt.ifp (by omega) (Evt.ifp (by omega) (Evt.ifp (by omega) (Evt.ifp hl (Evt.ifp hb hr))))
        · have hrg := hp.range
          obtain ⟨b', rfl⟩ : ∃ b' : Nat, b = b' := ⟨b.toNat, by omega⟩
          obtain ⟨o, ho, hoi⟩ := order_evt (rd_T59 c i).f0 (rd_T59 c i).f1 (rd_T59 c i).f2 (rd_T59 c b').f0 (rd_T59 c b').f1 (rd_T59 c b').f2
          by_cases hlt : o < 0
          · obtain ⟨r, hr, hp'⟩ := ih (i + 1) i (by omega) (hp.turn hl (hoi.1 hlt))
            refine ⟨r, Evt.succ ?_, hp'⟩
            simp only [edf_Pick.l0]
            rw [w1 i (by omega)]
            exact Evt.ifp (by omega) (Evt.ifp (by omega) (Evt.ifp (by omega) (Evt.ifp hl (Evt.ifn hb (Evt.ifp (by omega) (Evt.ifp (by omega) (Evt.bind ho (Evt.ifp hlt hr))))))))
          · obtain ⟨r, hr, hp'⟩ := ih (i + 1) b' (by omega) (hp.stay (fun hh => hlt (hoi.2 hh)))
            refine ⟨r, Evt.succ ?_, hp'⟩
            simp only [edf_Pick.l0]
            rw [w1 i (by omega)]
            exact Evt.ifp (by omega) (Evt.ifp (by omega) (Evt.ifp (by omega) (Evt.ifp hl (Evt.ifn hb (Evt.ifp (by omega) (Evt.ifp (by omega) (Evt.bind ho (Evt.ifn hlt hr))))))))
      · obtain ⟨r, hr, hp'⟩ := ih (i + 1) b (by omega) (hp.step (by omega))
        refine ⟨r, Evt.succ ?_, hp'⟩
        simp only [edf_Pick.l0]
        rw [w1 i (by omega)]
        exact Evt.ifp (by omega) (Evt.ifp (by omega) (Evt.ifp (by omega) (Evt.ifn hl hr)))
  exact key c.length 0 (-1) (by omega) (.inl ⟨rfl, fun j hj => by omega⟩)

end Go.Proofs.YthhaikkicabplaaR.Pure
