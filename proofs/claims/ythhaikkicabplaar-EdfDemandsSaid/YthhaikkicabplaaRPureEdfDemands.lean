/- Several texts of this session merged (EdfDem EdfFeas EdfRefDem EdfRefFeas LastEdfDemands), so that the claim has fewer files. No conditions. -/
import Derived.Test.YthhaikkicabplaaRXx22
import Derived.Test.YthhaikkicabplaaRXx30
import Derived.Test.YthhaikkicabplaaREdfPlan
import Derived.Test.YthhaikkicabplaaREdfWorks
import Derived.Test.YthhaikkicabplaaRXx32
import Derived.Test.YthhaikkicabplaaRXx31
import Derived.Test.YthhaikkicabplaaREdfRefValid
import Derived.Test.YthhaikkicabplaaRXx33
import Derived.Test.YthhaikkicabplaaRDefEdfDemands
namespace Go.Proofs.YthhaikkicabplaaR.Pure
open Go Go.RowKit Tithe Go.Proofs.YthhaikkicabplaaR.X Go.Proofs.YthhaikkicabplaaRW.PrintWords Go.Proofs.YthhaikkicabplaaRW.PrintLast Go.Proofs.YthhaikkicabplaaRW.PrintMore

theorem mx_max (a b : Int) : mx a b = max a b := by unfold mx; omega

/-- a time -/
def Tm (a : Int) : Prop := 0 ≤ a ∧ a ≤ 1073741824
instance (a : Int) : Decidable (Tm a) := inferInstanceAs (Decidable (0 ≤ a ∧ a ≤ 1073741824))

theorem wi_back {s p a b : Int} (hp : 0 < p) (h : b < a) : wi s p a b = 0 := by
  obtain ⟨f0, f1, f2⟩ := fst_spec (s := s) (a := a) hp
  obtain ⟨l0, l1, l2⟩ := lastp_spec (s := s) (b := b) hp
  unfold wi
  have : lastp s p b ≤ fst s p a := by
    by_cases h1 : 1 ≤ lastp s p b
    · have := l1 h1
      exact mul_cancel hp (by omega)
    · omega
  omega

theorem wi_nonneg (s p a b : Int) : 0 ≤ wi s p a b := by unfold wi; omega

theorem qwi {s p q a b : Int} (hq : 0 ≤ q) (hqp : q ≤ p) (hp : 0 < p) (ha : Tm a) (hb : Tm b) : 0 ≤ q * wi s p a b ∧ q * wi s p a b ≤ 1073741824 ∧ wi s p a b ≤ 1073741824 := by
  have h0 := wi_nonneg s p a b
  have h1 : 0 ≤ q * wi s p a b := Int.mul_nonneg hq h0
  refine ⟨h1, ?_⟩
  by_cases hab : a ≤ b
  · have h2 := Items.wi_mul (s := s) hp hab
    have h3 : q * wi s p a b ≤ p * wi s p a b := Int.mul_le_mul_of_nonneg_right hqp h0
    have h4 : wi s p a b * 1 ≤ wi s p a b * p := Int.mul_le_mul_of_nonneg_left (by omega) h0
    rw [Int.mul_comm p] at h3
    have := ha.1; have := hb.2
    omega
  · rw [wi_back hp (by omega)]; omega

theorem within_eq {q p s a b : Int} (hp : 1 ≤ p) (hp2 : p ≤ 1048576) (hs : Tm s) (ha : Tm a) (hb : Tm b) : edf_Item_within.f q p s a b = some (wi s p a b) := by
  obtain ⟨s0, s1⟩ := hs
  obtain ⟨a0, a1⟩ := ha
  obtain ⟨b0, b1⟩ := hb
  unfold edf_Item_within.f
  rw [if_neg (by omega), w64 (n := b - s) (by omega) (by omega), w64 (n := a - s) (by omega) (by omega), mx_max, mx_max, mx_max]
  unfold wi lastp fst
  generalize hx : max (a - s) 0 = x
  generalize hy : max (b - s) 0 = y
  have hx0 : 0 ≤ x ∧ x ≤ 1073741824 := by omega
  have hy0 : 0 ≤ y ∧ y ≤ 1073741824 := by omega
  have e1 : 0 ≤ y / p ∧ y / p ≤ y := ⟨Int.ediv_nonneg (by omega) (by omega), Int.ediv_le_self _ (by omega)⟩
  have e2 : 0 ≤ (x + p - 1) / p ∧ (x + p - 1) / p ≤ x + p - 1 := ⟨Int.ediv_nonneg (by omega) (by omega), Int.ediv_le_self _ (by omega)⟩
  rw [w64 (n := x + p) (by omega) (by omega), w64 (n := x + p - 1) (by omega) (by omega), tdiv_pos (by omega), w64 (n := y / p) (by omega) (by omega), w64 (n := (x + p - 1) / p) (by omega) (by omega), w64 (by omega) (by omega)]

theorem ref_wi {s p a b : Int} (hp : 0 < p) : max 0 (b - (s + fst s p a * p)) / p = wi s p a b := by
  obtain ⟨f0, f1, f2⟩ := fst_spec (s := s) (a := a) hp
  have hfp : 0 ≤ fst s p a * p := Int.mul_nonneg f0 (by omega)
  unfold wi lastp
  by_cases h : s + fst s p a * p ≤ b
  · rw [show max 0 (b - (s + fst s p a * p)) = (b - s) + (-(fst s p a)) * p by rw [Int.neg_mul]; omega, Int.add_mul_ediv_right _ _ (by omega), show max (b - s) 0 = b - s by omega]
    have := Int.ediv_nonneg (a := b - s - fst s p a * p) (b := p) (by omega) (by omega)
    have e : (b - s - fst s p a * p) / p = (b - s) / p + -(fst s p a) := by
      rw [show b - s - fst s p a * p = (b - s) + (-(fst s p a)) * p by rw [Int.neg_mul]; omega, Int.add_mul_ediv_right _ _ (by omega)]
    omega
  · rw [show max 0 (b - (s + fst s p a * p)) = 0 by omega, Int.zero_ediv]
    have : max (b - s) 0 / p ≤ fst s p a := by
      have h1 := Int.mul_ediv_add_emod (max (b - s) 0) p
      have h2 := Int.emod_nonneg (max (b - s) 0) (b := p) (by omega)
      rw [Int.mul_comm] at h1
      exact mul_cancel hp (by omega)
    omega

theorem refwithin_eq {q p s a b : Int} (hp : 1 ≤ p) (hp2 : p ≤ 1048576) (hs : Tm s) (ha : Tm a) (hb : Tm b) : titheref10_within.f q p s a b = some (wi s p a b) := by
  have hw := ref_wi (s := s) (a := a) (b := b) (p := p) (by omega)
  obtain ⟨f0, f1, f2⟩ := fst_spec (s := s) (a := a) (p := p) (by omega)
  obtain ⟨s0, s1⟩ := hs
  obtain ⟨a0, a1⟩ := ha
  obtain ⟨b0, b1⟩ := hb
  have hfp : 0 ≤ fst s p a * p := Int.mul_nonneg f0 (by omega)
  have hd : ∀ y : Int, 0 ≤ y → y ≤ 1073741824 → wrap64 (y / p) = y / p := fun y h0 h1 => by
    have := Int.ediv_nonneg (a := y) (b := p) h0 (by omega)
    have := Int.ediv_le_self (a := y) p h0
    exact w64 (by omega) (by omega)
  unfold titheref10_within.f
  by_cases h : a > s
  · rw [if_pos h, if_neg (by omega)]
    have hk : (a - s + p - 1) / p = fst s p a := by unfold fst; rw [show max (a - s) 0 = a - s by omega]
    have hkb : fst s p a * p ≤ a - s + p - 1 := by
      rw [← hk]
      have h1 := Int.mul_ediv_add_emod (a - s + p - 1) p
      have h2 := Int.emod_nonneg (a - s + p - 1) (b := p) (by omega)
      rw [Int.mul_comm] at h1; omega
    have hk1 : fst s p a ≤ fst s p a * p := by have := Int.mul_le_mul_of_nonneg_left hp f0; omega
    rw [w64 (n := a - s) (by omega) (by omega), w64 (n := a - s + p) (by omega) (by omega), w64 (n := a - s + p - 1) (by omega) (by omega), tdiv_pos (by omega), hk,
      w64 (n := fst s p a) (by omega) (by omega), w64 (n := fst s p a * p) (by omega) (by omega), w64 (n := s + fst s p a * p) (by omega) (by omega), w64 (n := b - (s + fst s p a * p)) (by omega) (by omega), mx_max, hd _ (by omega) (by omega), hw]
  · rw [if_neg h, if_neg (by omega)]
    have hk : fst s p a = 0 := by
      have := f2 0 (Int.le_refl 0) (by omega); omega
    rw [hk] at hw
    rw [w64 (n := 0 * p) (by omega) (by omega), w64 (n := s + 0 * p) (by omega) (by omega), w64 (n := b - (s + 0 * p)) (by omega) (by omega), mx_max, hd _ (by omega) (by omega), hw]

/-- the sum, item by item -/
theorem dem_bound {I : Items} (hI : Fine I) {a b : Int} (ha : Tm a) (hb : Tm b) : ∀ i, i ≤ I.m → 0 ≤ sm (fun j => I.q j * wi (I.s j) (I.p j) a b) i ∧ sm (fun j => I.q j * wi (I.s j) (I.p j) a b) i ≤ i * 1073741824 := by
  intro i
  induction i with
  | zero => intro _; simp [sm]
  | succ i ih =>
    intro h
    have ih := ih (by omega)
    have hi := hI.2 i (by omega)
    have := qwi (s := I.s i) (p := I.p i) (q := I.q i) (by omega) (by omega) (by omega) ha hb
    simp only [sm]; omega

theorem demand_evt (l : List S43) (hv : vLL l = 0) {a b : Int} (ha : Tm a) (hb : Tm b) : Evt (fun k => edf_demand.f k (l.map cv) a b) ((It l).dem a b) := by
  have hI := It_fine hv
  have hm : l.length ≤ 64 := hI.1
  have key : ∀ (d i : Nat), i + d = l.length → Evt (fun k => edf_demand.l0 k a b (sm (fun j => (It l).q j * wi ((It l).s j) ((It l).p j) a b) i) (l.map cv) (l.length : Int) i) ((It l).dem a b) := by
    intro d
    induction d with
    | zero =>
      intro i hi
      obtain rfl : i = l.length := by omega
      refine Evt.succ ?_
      simp only [edf_demand.l0]
      exact Evt.ifn (by omega) (Evt.pure fun _ => rfl)
    | succ d ih =>
      intro i hi
      have hil : i < l.length := by omega
      have him : i < (It l).m := hil
      have hIi := hI.2 i him
      have hx : rd_T55 (l.map cv) (i : Int) = ⟨(It l).q i, (It l).p i, (It l).s i⟩ := by rw [rd55 hil]; rfl
      have hbd := dem_bound hI ha hb i (by omega)
      have hq := qwi (s := (It l).s i) (p := (It l).p i) (q := (It l).q i) (by omega) (by omega) (by omega) ha hb
      have nx := ih (i + 1) (by omega)
      simp only [sm] at nx
      refine Evt.succ ?_
      simp only [edf_demand.l0]
      rw [hx]
      simp only []
      refine Evt.ifp (by omega) (Evt.ifp (by omega) (Evt.ifp (by simp; omega) (Evt.call (within_eq (by omega) (by omega) ⟨by omega, by omega⟩ ha hb) ?_)))
      rw [w1 i (by omega), w64 (n := (It l).q i * wi ((It l).s i) ((It l).p i) a b) (by omega) (by omega), w64 (by omega) (by omega)]
      exact nx
  have := key l.length 0 (by omega)
  unfold edf_demand.f
  rw [List.length_map]
  exact this

theorem is_eq (a : Int) : edf_is.f a = some (decide (Tm a)) := by
  unfold edf_is.f
  by_cases h : a ≥ 0
  · rw [if_pos h]
    by_cases h2 : a ≤ 1073741824
    · rw [decide_eq_true h2, decide_eq_true (show Tm a from ⟨h, h2⟩)]
    · rw [decide_eq_false h2, decide_eq_false (show ¬ Tm a from fun hh => h2 hh.2)]
  · rw [if_neg h, decide_eq_false (show ¬ Tm a from fun hh => h hh.1)]

/-- what Demand answers -/
def DemIs (l : List S43) (a b v e : Int) : Prop :=
  (¬ (Tm a ∧ Tm b) ∧ v = 0 ∧ e = 1) ∨ ((Tm a ∧ Tm b) ∧ vLL l ≠ 0 ∧ v = 0 ∧ e = vLL l) ∨ ((Tm a ∧ Tm b) ∧ vLL l = 0 ∧ e = 0 ∧ v = (It l).dem a b)
theorem DemIs.uniq {l : List S43} {a b v v' e e' : Int} (h : DemIs l a b v e) (h' : DemIs l a b v' e') : v = v' ∧ e = e' := by
  rcases h with ⟨a, rfl, rfl⟩ | ⟨a, b, rfl, rfl⟩ | ⟨a, b, rfl, rfl⟩ <;> rcases h' with ⟨a', rfl, rfl⟩ | ⟨a', b', rfl, rfl⟩ | ⟨a', b', rfl, rfl⟩
  · exact ⟨rfl, rfl⟩
  · exact absurd a' a
  · exact absurd a' a
  · exact absurd a a'
  · exact ⟨rfl, rfl⟩
  · exact absurd b' b
  · exact absurd a a'
  · exact absurd b b'
  · exact ⟨rfl, rfl⟩

theorem Demand_evt (l : List S43) (hl : l.length ≤ 140737488351232) (a b : Int) : ∃ v e, Evt (fun k => edf_Demand.f k (l.map cv) a b) (v, opt e) ∧ DemIs l a b v e := by
  have bad : ∀ x, x = true → Evt (fun k => edf_Demand.j0 k (l.map cv) a b x) (0, opt 1) := by
    intro x hx; refine Evt.succ ?_; simp only [edf_Demand.j0]; exact Evt.ifp hx (Evt.pure fun _ => rfl)
  unfold edf_Demand.f
  by_cases ha : Tm a
  · by_cases hb : Tm b
    · have hV := edf_Valid_evt l hl
      by_cases hv : vLL l = 0
      · rw [hv, opt_zero] at hV
        refine ⟨_, 0, Evt.call (is_eq a) (Evt.ifp (decide_eq_true ha) (Evt.call (is_eq b) (Evt.succ ?_))), .inr (.inr ⟨⟨ha, hb⟩, hv, rfl, rfl⟩)⟩
        simp only [edf_Demand.j0]
        exact Evt.ifn (by simp [hb]) (Evt.bind hV (Evt.ifp rfl (Evt.bind (demand_evt l hv ha hb) (Evt.pure fun _ => rfl))))
      · rw [opt_pos hv] at hV
        refine ⟨0, vLL l, Evt.call (is_eq a) (Evt.ifp (decide_eq_true ha) (Evt.call (is_eq b) (Evt.succ ?_))), .inr (.inl ⟨⟨ha, hb⟩, hv, rfl, rfl⟩)⟩
        simp only [edf_Demand.j0]
        rw [opt_pos hv]
        exact Evt.ifn (by simp [hb]) (Evt.bind hV (Evt.ifn (by simp) (Evt.pure fun _ => rfl)))
    · exact ⟨0, 1, Evt.call (is_eq a) (Evt.ifp (decide_eq_true ha) (Evt.call (is_eq b) (bad _ (by simp [hb])))), .inl ⟨fun h => hb h.2, rfl, rfl⟩⟩
  · exact ⟨0, 1, Evt.call (is_eq a) (Evt.ifn (by simp [ha]) (bad _ rfl)), .inl ⟨fun h => ha h.1, rfl, rfl⟩⟩

/-- the first stretch in [0,n] that asks for too much, or none -/
def FeasOk (I : Items) (n : Int) (ok : Bool) (x y : Int) : Prop :=
  (ok = true ∧ x = 0 ∧ y = 0 ∧ ∀ a c : Int, 0 ≤ a → a ≤ c → c ≤ n → I.dem a c ≤ c - a) ∨
  (ok = false ∧ 0 ≤ x ∧ x ≤ y ∧ y ≤ n ∧ y - x < I.dem x y ∧ ∀ a c : Int, 0 ≤ a → a ≤ c → c ≤ n → (a < x ∨ (a = x ∧ c < y)) → I.dem a c ≤ c - a)

theorem FeasOk.uniq {I : Items} {n : Int} {ok ok' : Bool} {x y x' y' : Int} (h : FeasOk I n ok x y) (h' : FeasOk I n ok' x' y') : ok = ok' ∧ x = x' ∧ y = y' := by
  rcases h with ⟨rfl, rfl, rfl, h⟩ | ⟨rfl, a1, a2, a3, a4, h⟩ <;> rcases h' with ⟨rfl, rfl, rfl, h'⟩ | ⟨rfl, b1, b2, b3, b4, h'⟩
  · exact ⟨rfl, rfl, rfl⟩
  · have := h x' y' b1 b2 b3; omega
  · have := h' x y a1 a2 a3; omega
  · by_cases c1 : x < x'
    · have := h' x y a1 a2 a3 (.inl c1); omega
    · by_cases c2 : x' < x
      · have := h x' y' b1 b2 b3 (.inl c2); omega
      · obtain rfl : x = x' := by omega
        by_cases c3 : y < y'
        · have := h' x y a1 a2 a3 (.inr ⟨rfl, c3⟩); omega
        · by_cases c4 : y' < y
          · have := h x y' b1 b2 b3 (.inr ⟨rfl, c4⟩); omega
          · exact ⟨rfl, rfl, by omega⟩

def FeasIs (l : List S43) (n : Int) (ok : Bool) (x y e : Int) : Prop :=
  ((n < 0 ∨ 256 < n) ∧ ok = false ∧ x = 0 ∧ y = 0 ∧ e = 1) ∨ ((0 ≤ n ∧ n ≤ 256) ∧ vLL l ≠ 0 ∧ ok = false ∧ x = 0 ∧ y = 0 ∧ e = vLL l) ∨ ((0 ≤ n ∧ n ≤ 256) ∧ vLL l = 0 ∧ e = 0 ∧ FeasOk (It l) n ok x y)

theorem FeasIs.uniq {l : List S43} {n : Int} {ok ok' : Bool} {x y x' y' e e' : Int} (h : FeasIs l n ok x y e) (h' : FeasIs l n ok' x' y' e') : ok = ok' ∧ x = x' ∧ y = y' ∧ e = e' := by
  rcases h with ⟨a, rfl, rfl, rfl, rfl⟩ | ⟨a, b, rfl, rfl, rfl, rfl⟩ | ⟨a, b, rfl, c⟩ <;> rcases h' with ⟨a', rfl, rfl, rfl, rfl⟩ | ⟨a', b', rfl, rfl, rfl, rfl⟩ | ⟨a', b', rfl, c'⟩
  · exact ⟨rfl, rfl, rfl, rfl⟩
  · omega
  · omega
  · omega
  · exact ⟨rfl, rfl, rfl, rfl⟩
  · exact absurd b' b
  · omega
  · exact absurd b b'
  · obtain ⟨h1, h2, h3⟩ := c.uniq c'
    exact ⟨h1, h2, h3, rfl⟩

theorem feas_inner (l : List S43) (hv : vLL l = 0) {n : Int} (hn : n ≤ 256) (a : Nat) (ha : a ≤ 257)
    (hlow : ∀ x c : Int, 0 ≤ x → x ≤ c → c ≤ n → x < a → (It l).dem x c ≤ c - x)
    (nx : (∀ x c : Int, 0 ≤ x → x ≤ c → c ≤ n → x < (a + 1 : Nat) → (It l).dem x c ≤ c - x) → ∃ ok x y, Evt (fun k => edf_Feasible.l0 k (l.map cv) n (a + 1 : Nat)) (ok, x, y, none) ∧ FeasOk (It l) n ok x y) :
    ∀ (d : Nat) (c : Nat), n + 1 - c ≤ d → a ≤ c → (∀ c' : Int, a ≤ c' → c' < c → (It l).dem a c' ≤ c' - a) → ∃ ok x y, Evt (fun k => edf_Feasible.l1 k (l.map cv) n a c) (ok, x, y, none) ∧ FeasOk (It l) n ok x y := by
  have out : ∀ c : Nat, ¬ (c : Int) ≤ n → a ≤ c → (∀ c' : Int, a ≤ c' → c' < c → (It l).dem a c' ≤ c' - a) → ∃ ok x y, Evt (fun k => edf_Feasible.l1 k (l.map cv) n a c) (ok, x, y, none) ∧ FeasOk (It l) n ok x y := by
    intro c hc hac h
    obtain ⟨ok, x, y, h1, h2⟩ := nx (fun x c' h0 h1 h2 h3 => by
      by_cases hx : x < a
      · exact hlow x c' h0 h1 h2 hx
      · obtain rfl : x = a := by omega
        exact h c' h1 (by omega))
    refine ⟨ok, x, y, Evt.succ ?_, h2⟩
    simp only [edf_Feasible.l1]
    rw [w1 a (by omega)]
    exact Evt.ifn hc h1
  intro d
  induction d with
  | zero => intro c hd hac h; exact out c (by omega) hac h
  | succ d ih =>
    intro c hd hac h
    by_cases hc : (c : Int) ≤ n
    · have hdm := demand_evt l hv (a := a) (b := c) ⟨by omega, by omega⟩ ⟨by omega, by omega⟩
      by_cases hg : (c : Int) - a < (It l).dem a c
      · refine ⟨false, a, c, Evt.succ ?_, .inr ⟨rfl, by omega, by omega, hc, hg, fun x c' h0 h1 h2 h3 => ?_⟩⟩
        · simp only [edf_Feasible.l1]
          rw [w64 (n := (c : Int) - a) (by omega) (by omega)]
          exact Evt.ifp hc (Evt.bind hdm (Evt.ifp (by omega) (Evt.pure fun _ => rfl)))
        · rcases h3 with h3 | ⟨rfl, h3⟩
          · exact hlow x c' h0 h1 h2 h3
          · exact h c' h1 h3
      · obtain ⟨ok, x, y, h1, h2⟩ := ih (c + 1) (by omega) (by omega) (fun c' h1 h2 => by
          by_cases hx : c' < c
          · exact h c' h1 hx
          · obtain rfl : c' = c := by omega
            omega)
        refine ⟨ok, x, y, Evt.succ ?_, h2⟩
        simp only [edf_Feasible.l1]
        rw [w64 (n := (c : Int) - a) (by omega) (by omega), w1 c (by omega)]
        exact Evt.ifp hc (Evt.bind hdm (Evt.ifn (by omega) h1))
    · exact out c hc hac h

theorem feas_outer (l : List S43) (hv : vLL l = 0) {n : Int} (hn : n ≤ 256) : ∀ (d : Nat) (a : Nat), n + 1 - a ≤ d → a ≤ 257 →
    (∀ x c : Int, 0 ≤ x → x ≤ c → c ≤ n → x < a → (It l).dem x c ≤ c - x) → ∃ ok x y, Evt (fun k => edf_Feasible.l0 k (l.map cv) n a) (ok, x, y, none) ∧ FeasOk (It l) n ok x y := by
  intro d
  induction d with
  | zero =>
    intro a hd ha hlow
    refine ⟨true, 0, 0, Evt.succ ?_, .inl ⟨rfl, rfl, rfl, fun x c h0 h1 h2 => hlow x c h0 h1 h2 (by omega)⟩⟩
    simp only [edf_Feasible.l0]
    exact Evt.ifn (by omega) (Evt.pure fun _ => rfl)
  | succ d ih =>
    intro a hd ha hlow
    by_cases hc : (a : Int) ≤ n
    · obtain ⟨ok, x, y, h1, h2⟩ := feas_inner l hv hn a ha hlow (fun h => ih (a + 1) (by omega) (by omega) h) (n + 1 - a).toNat a (by omega) (by omega) (fun c' h1 h2 => by omega)
      refine ⟨ok, x, y, Evt.succ ?_, h2⟩
      simp only [edf_Feasible.l0]
      exact Evt.ifp hc h1
    · exact ih a (by omega) ha hlow

theorem Feasible_evt (l : List S43) (hl : l.length ≤ 140737488351232) (n : Int) : ∃ ok x y e, Evt (fun k => edf_Feasible.f k (l.map cv) n) (ok, x, y, opt e) ∧ FeasIs l n ok x y e := by
  have bad : ∀ b, b = true → Evt (fun k => edf_Feasible.j0 k (l.map cv) n b) (false, 0, 0, opt 1) := by
    intro b hb; refine Evt.succ ?_; simp only [edf_Feasible.j0]; exact Evt.ifp hb (Evt.pure fun _ => rfl)
  unfold edf_Feasible.f
  by_cases h1 : n < 0
  · exact ⟨false, 0, 0, 1, Evt.ifp h1 (bad _ rfl), .inl ⟨.inl h1, rfl, rfl, rfl, rfl⟩⟩
  by_cases h2 : n > 256
  · exact ⟨false, 0, 0, 1, Evt.ifn h1 (bad _ (decide_eq_true h2)), .inl ⟨.inr h2, rfl, rfl, rfl, rfl⟩⟩
  have hV := edf_Valid_evt l hl
  by_cases hv : vLL l = 0
  · rw [hv, opt_zero] at hV
    obtain ⟨ok, x, y, h3, h4⟩ := feas_outer l hv (n := n) (by omega) 257 0 (by omega) (by omega) (fun x c h0 _ _ h => by omega)
    refine ⟨ok, x, y, 0, Evt.ifn h1 (Evt.succ ?_), .inr (.inr ⟨by omega, hv, rfl, h4⟩)⟩
    simp only [edf_Feasible.j0]
    exact Evt.ifn (by simpa using h2) (Evt.bind hV (Evt.ifp rfl h3))
  · rw [opt_pos hv] at hV
    refine ⟨false, 0, 0, vLL l, Evt.ifn h1 (Evt.succ ?_), .inr (.inl ⟨by omega, hv, rfl, rfl, rfl, rfl⟩)⟩
    simp only [edf_Feasible.j0]
    rw [opt_pos hv]
    exact Evt.ifn (by simpa using h2) (Evt.bind hV (Evt.ifn (by simp) (Evt.pure fun _ => rfl)))

theorem sm_zero' {f : Nat → Int} {m : Nat} (h : ∀ j, j < m → f j = 0) : sm f m = 0 := by
  rw [sm_congr h, sm_zero]

theorem refdem_loop (l : List S43) (hv : vLL l = 0) {a b : Int} (ha : Tm a) (hb : Tm b) (hab : a ≤ b) : ∀ (d i : Nat), i + d = l.length →
    Evt (fun k => titheref10_Demand.l0 k l a b (sm (fun j => (It l).q j * wi ((It l).s j) ((It l).p j) a b) i) i) ((It l).dem a b, 0) := by
  have hI := It_fine hv
  have hm : l.length ≤ 64 := hI.1
  intro d
  induction d with
  | zero =>
    intro i hi
    obtain rfl : i = l.length := by omega
    refine Evt.succ ?_
    simp only [titheref10_Demand.l0]
    exact Evt.ifn (by omega) (Evt.pure fun _ => rfl)
  | succ d ih =>
    intro i hi
    have him : i < (It l).m := by show i < l.length; omega
    have hIi := hI.2 i him
    have hx : rd_T43 l (i : Int) = ⟨(It l).q i, (It l).p i, (It l).s i⟩ := rfl
    have hbd := dem_bound hI ha hb i (by omega)
    have hq := qwi (s := (It l).s i) (p := (It l).p i) (q := (It l).q i) (by omega) (by omega) (by omega) ha hb
    have nx := ih (i + 1) (by omega)
    simp only [sm] at nx
    refine Evt.succ ?_
    simp only [titheref10_Demand.l0]
    rw [hx]
    simp only []
    refine Evt.ifp (by omega) (Evt.ifp (by omega) (Evt.ifp (by omega) (Evt.call (refwithin_eq (by omega) (by omega) ⟨by omega, by omega⟩ ha hb) ?_)))
    rw [w1 i (by omega), w64 (n := (It l).q i * wi ((It l).s i) ((It l).p i) a b) (by omega) (by omega), w64 (by omega) (by omega)]
    exact nx

theorem dem_back {I : Items} (hI : Fine I) {a b : Int} (h : b < a) : I.dem a b = 0 := by
  refine sm_zero' (fun j hj => ?_)
  rw [wi_back (by have := hI.2 j hj; omega) h, Int.mul_zero]

theorem refdem_l0 (l : List S43) (hv : vLL l = 0) {a b : Int} (ha : Tm a) (hb : Tm b) : Evt (fun k => titheref10_Demand.l0 k l a b 0 0) ((It l).dem a b, 0) := by
  by_cases hab : a ≤ b
  · exact refdem_loop l hv ha hb hab l.length 0 (by omega)
  · rw [dem_back (It_fine hv) (by omega)]
    refine Evt.succ ?_
    simp only [titheref10_Demand.l0]
    by_cases h : (0 : Int) < (l.length : Int)
    · exact Evt.ifp h (Evt.ifn (by omega) (Evt.pure fun _ => rfl))
    · exact Evt.ifn h (Evt.pure fun _ => rfl)

theorem refDemand_evt (l : List S43) (hl : l.length ≤ 140737488351232) (a b : Int) : ∃ v e, Evt (fun k => titheref10_Demand.f k l a b) (v, e) ∧ DemIs l a b v e := by
  have bad : ∀ x, x = true → Evt (fun k => titheref10_Demand.j0 k l a b x) (0, 1) := by
    intro x hx; refine Evt.succ ?_; simp only [titheref10_Demand.j0]; exact Evt.ifp hx (Evt.pure fun _ => rfl)
  unfold titheref10_Demand.f
  by_cases h1 : a < 0
  · exact ⟨0, 1, Evt.ifp h1 (bad _ rfl), .inl ⟨fun h => by have := h.1.1; omega, rfl, rfl⟩⟩
  by_cases h2 : a > 1073741824
  · exact ⟨0, 1, Evt.ifn h1 (Evt.ifp h2 (bad _ rfl)), .inl ⟨fun h => by have := h.1.2; omega, rfl, rfl⟩⟩
  by_cases h3 : b < 0
  · exact ⟨0, 1, Evt.ifn h1 (Evt.ifn h2 (Evt.ifp h3 (bad _ rfl))), .inl ⟨fun h => by have := h.2.1; omega, rfl, rfl⟩⟩
  by_cases h4 : b > 1073741824
  · exact ⟨0, 1, Evt.ifn h1 (Evt.ifn h2 (Evt.ifn h3 (bad _ (decide_eq_true h4)))), .inl ⟨fun h => by have := h.2.2; omega, rfl, rfl⟩⟩
  have ha : Tm a := ⟨by omega, by omega⟩
  have hb : Tm b := ⟨by omega, by omega⟩
  have hV := ref_Valid_evt l hl
  by_cases hv : vLL l = 0
  · rw [hv] at hV
    refine ⟨_, 0, Evt.ifn h1 (Evt.ifn h2 (Evt.ifn h3 (Evt.succ ?_))), .inr (.inr ⟨⟨ha, hb⟩, hv, rfl, rfl⟩)⟩
    simp only [titheref10_Demand.j0]
    exact Evt.ifn (by simpa using h4) (Evt.bind hV (Evt.ifp rfl (refdem_l0 l hv ha hb)))
  · refine ⟨0, vLL l, Evt.ifn h1 (Evt.ifn h2 (Evt.ifn h3 (Evt.succ ?_))), .inr (.inl ⟨⟨ha, hb⟩, hv, rfl, rfl⟩)⟩
    simp only [titheref10_Demand.j0]
    exact Evt.ifn (by simpa using h4) (Evt.bind hV (Evt.ifn hv (Evt.pure fun _ => rfl)))

theorem refDemand_ok (l : List S43) (hv : vLL l = 0) {a b : Int} (ha : Tm a) (hb : Tm b) : Evt (fun k => titheref10_Demand.f k l a b) ((It l).dem a b, 0) := by
  have hm : l.length ≤ 64 := (It_fine hv).1
  obtain ⟨v, e, h, h2⟩ := refDemand_evt l (by omega) a b
  rcases h2 with ⟨h2, _⟩ | ⟨_, h2, _⟩ | ⟨_, _, rfl, rfl⟩
  · exact absurd ⟨ha, hb⟩ h2
  · exact absurd hv h2
  · exact h

theorem rfeas_inner (l : List S43) (hv : vLL l = 0) {n : Int} (hn : n ≤ 256) (a : Nat) (ha : a ≤ 257)
    (hlow : ∀ x c : Int, 0 ≤ x → x ≤ c → c ≤ n → x < a → (It l).dem x c ≤ c - x)
    (nx : (∀ x c : Int, 0 ≤ x → x ≤ c → c ≤ n → x < (a + 1 : Nat) → (It l).dem x c ≤ c - x) → ∃ ok x y, Evt (fun k => titheref10_Feasible.l0 k l n (a + 1 : Nat)) (ok, x, y, 0) ∧ FeasOk (It l) n ok x y) :
    ∀ (d : Nat) (c : Nat), n + 1 - c ≤ d → a ≤ c → (∀ c' : Int, a ≤ c' → c' < c → (It l).dem a c' ≤ c' - a) → ∃ ok x y, Evt (fun k => titheref10_Feasible.l1 k l n a c) (ok, x, y, 0) ∧ FeasOk (It l) n ok x y := by
  have out : ∀ c : Nat, ¬ (c : Int) ≤ n → a ≤ c → (∀ c' : Int, a ≤ c' → c' < c → (It l).dem a c' ≤ c' - a) → ∃ ok x y, Evt (fun k => titheref10_Feasible.l1 k l n a c) (ok, x, y, 0) ∧ FeasOk (It l) n ok x y := by
    intro c hc hac h
    obtain ⟨ok, x, y, h1, h2⟩ := nx (fun x c' h0 h1 h2 h3 => by
      by_cases hx : x < a
      · exact hlow x c' h0 h1 h2 hx
      · obtain rfl : x = a := by omega
        exact h c' h1 (by omega))
    refine ⟨ok, x, y, Evt.succ ?_, h2⟩
    simp only [titheref10_Feasible.l1]
    rw [w1 a (by omega)]
    exact Evt.ifn hc h1
  intro d
  induction d with
  | zero => intro c hd hac h; exact out c (by omega) hac h
  | succ d ih =>
    intro c hd hac h
    by_cases hc : (c : Int) ≤ n
    · have hdm := refDemand_ok l hv (a := a) (b := c) ⟨by omega, by omega⟩ ⟨by omega, by omega⟩
      by_cases hg : (c : Int) - a < (It l).dem a c
      · refine ⟨false, a, c, Evt.succ ?_, .inr ⟨rfl, by omega, by omega, hc, hg, fun x c' h0 h1 h2 h3 => ?_⟩⟩
        · simp only [titheref10_Feasible.l1]
          rw [w64 (n := (c : Int) - a) (by omega) (by omega)]
          exact Evt.ifp hc (Evt.bind hdm (Evt.ifp (by omega) (Evt.pure fun _ => rfl)))
        · rcases h3 with h3 | ⟨rfl, h3⟩
          · exact hlow x c' h0 h1 h2 h3
          · exact h c' h1 h3
      · obtain ⟨ok, x, y, h1, h2⟩ := ih (c + 1) (by omega) (by omega) (fun c' h1 h2 => by
          by_cases hx : c' < c
          · exact h c' h1 hx
          · obtain rfl : c' = c := by omega
            omega)
        refine ⟨ok, x, y, Evt.succ ?_, h2⟩
        simp only [titheref10_Feasible.l1]
        rw [w64 (n := (c : Int) - a) (by omega) (by omega), w1 c (by omega)]
        exact Evt.ifp hc (Evt.bind hdm (Evt.ifn (by omega) h1))
    · exact out c hc hac h

theorem rfeas_outer (l : List S43) (hv : vLL l = 0) {n : Int} (hn : n ≤ 256) : ∀ (d : Nat) (a : Nat), n + 1 - a ≤ d → a ≤ 257 →
    (∀ x c : Int, 0 ≤ x → x ≤ c → c ≤ n → x < a → (It l).dem x c ≤ c - x) → ∃ ok x y, Evt (fun k => titheref10_Feasible.l0 k l n a) (ok, x, y, 0) ∧ FeasOk (It l) n ok x y := by
  intro d
  induction d with
  | zero =>
    intro a hd ha hlow
    refine ⟨true, 0, 0, Evt.succ ?_, .inl ⟨rfl, rfl, rfl, fun x c h0 h1 h2 => hlow x c h0 h1 h2 (by omega)⟩⟩
    simp only [titheref10_Feasible.l0]
    exact Evt.ifn (by omega) (Evt.pure fun _ => rfl)
  | succ d ih =>
    intro a hd ha hlow
    by_cases hc : (a : Int) ≤ n
    · obtain ⟨ok, x, y, h1, h2⟩ := rfeas_inner l hv hn a ha hlow (fun h => ih (a + 1) (by omega) (by omega) h) (n + 1 - a).toNat a (by omega) (by omega) (fun c' h1 h2 => by omega)
      refine ⟨ok, x, y, Evt.succ ?_, h2⟩
      simp only [titheref10_Feasible.l0]
      exact Evt.ifp hc h1
    · exact ih a (by omega) ha hlow

theorem refFeasible_evt (l : List S43) (hl : l.length ≤ 140737488351232) (n : Int) : ∃ ok x y e, Evt (fun k => titheref10_Feasible.f k l n) (ok, x, y, e) ∧ FeasIs l n ok x y e := by
  have bad : ∀ b, b = true → Evt (fun k => titheref10_Feasible.j0 k l n b) (false, 0, 0, 1) := by
    intro b hb; refine Evt.succ ?_; simp only [titheref10_Feasible.j0]; exact Evt.ifp hb (Evt.pure fun _ => rfl)
  unfold titheref10_Feasible.f
  by_cases h1 : n < 0
  · exact ⟨false, 0, 0, 1, Evt.ifp h1 (bad _ rfl), .inl ⟨.inl h1, rfl, rfl, rfl, rfl⟩⟩
  by_cases h2 : n > 256
  · exact ⟨false, 0, 0, 1, Evt.ifn h1 (bad _ (decide_eq_true h2)), .inl ⟨.inr h2, rfl, rfl, rfl, rfl⟩⟩
  have hV := ref_Valid_evt l hl
  by_cases hv : vLL l = 0
  · rw [hv] at hV
    obtain ⟨ok, x, y, h3, h4⟩ := rfeas_outer l hv (n := n) (by omega) 257 0 (by omega) (by omega) (fun x c h0 _ _ h => by omega)
    refine ⟨ok, x, y, 0, Evt.ifn h1 (Evt.succ ?_), .inr (.inr ⟨by omega, hv, rfl, h4⟩)⟩
    simp only [titheref10_Feasible.j0]
    exact Evt.ifn (by simpa using h2) (Evt.bind hV (Evt.ifp rfl h3))
  · refine ⟨false, 0, 0, vLL l, Evt.ifn h1 (Evt.succ ?_), .inr (.inl ⟨by omega, hv, rfl, rfl, rfl, rfl⟩)⟩
    simp only [titheref10_Feasible.j0]
    exact Evt.ifn (by simpa using h2) (Evt.bind hV (Evt.ifn hv (Evt.pure fun _ => rfl)))

theorem EdfDemands : tithelaw10_EdfDemands.Pure := by
  intro l a b _ hl _ _ _
  refine Evt.ex ?_
  have hll : l.length ≤ 140737488351232 := by omega
  obtain ⟨v, e, hv, hve⟩ := Demand_evt l hll a b
  obtain ⟨v', e', hv', hve'⟩ := refDemand_evt l hll a b
  obtain ⟨rfl, rfl⟩ := hve.uniq hve'
  have fin : ∀ n, Evt (fun k => tithelaw10_EdfDemands.j1 k l v (opt e) v e n) true := by
    intro n
    obtain ⟨ok, x, y, f, hf, hfi⟩ := Feasible_evt l hll n
    obtain ⟨ok', x', y', f', hf', hfi'⟩ := refFeasible_evt l hll n
    obtain ⟨rfl, rfl, rfl, rfl⟩ := hfi.uniq hfi'
    refine Evt.succ ?_
    simp only [tithelaw10_EdfDemands.j1]
    exact Evt.bind (items_evt l hl) (Evt.bind hf (Evt.bind hf' (Evt.ifp (by trivial) (Evt.call (num_opt e) (Evt.ifp (by trivial) (Evt.ifp (by simp) (Evt.ifp (by trivial) (Evt.ifp (by trivial) (Evt.call (num_opt f) (Evt.ifp (by trivial)
      (Evt.bind works_evt (Evt.pure fun _ => rfl))))))))))))
  have step : ∀ c, Evt (fun k => tithelaw10_EdfDemands.j0 k l v (opt e) v e b c) true := by
    intro c
    refine Evt.succ ?_
    simp only [tithelaw10_EdfDemands.j0]
    by_cases hc : c = true
    · exact Evt.ifp hc (fin 40)
    · exact Evt.ifn hc (fin b)
  unfold tithelaw10_EdfDemands.f
  refine Evt.bind (items_evt l hl) (Evt.bind hv (Evt.bind hv' ?_))
  by_cases h : b > 40
  · exact Evt.ifp h (step _)
  · exact Evt.ifn h (step _)
end Go.Proofs.YthhaikkicabplaaR.Pure
