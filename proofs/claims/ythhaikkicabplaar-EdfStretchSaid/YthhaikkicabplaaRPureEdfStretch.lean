/- Several texts of this session merged (EdfDemOwn EdfFeas EdfRefMiss EdfRule LastEdfStretch), so that the claim has fewer files. No conditions. -/
import Derived.Test.YthhaikkicabplaaRXx22
import Derived.Test.YthhaikkicabplaaREdfPlan
import Derived.Test.YthhaikkicabplaaREdfWorks
import Derived.Test.YthhaikkicabplaaRXx32
import Derived.Test.YthhaikkicabplaaRXx25
import Derived.Test.YthhaikkicabplaaRXx27
import Derived.Test.YthhaikkicabplaaREdfMiss
import Derived.Test.YthhaikkicabplaaREdfRefValid
import Derived.Test.YthhaikkicabplaaRDefEdfStretch
namespace Go.Proofs.YthhaikkicabplaaR.Pure
open Go Go.RowKit Tithe Go.Proofs.YthhaikkicabplaaR.X Go.Proofs.YthhaikkicabplaaRW.PrintWords Go.Proofs.YthhaikkicabplaaRW.PrintLast Go.Proofs.YthhaikkicabplaaRW.PrintMore

theorem mx_max (a b : Int) : mx a b = max a b := by unfold mx; omega

/-- a time -/
def Tm (a : Int) : Prop := 0 ≤ a ∧ a ≤ 1073741824
instance (a : Int) : Decidable (Tm a) := inferInstanceAs (Decidable (0 ≤ a ∧ a ≤ 1073741824))

theorem wi_back {s p a b : Int} (hp : 0 < p) (h : b < a) : wi s p a b = 0 := by
  obtain ⟨f0, f1, f2⟩ := fst_spec (s := s) (a := a) hp
  obtain ⟨l0, l1, l2⟩ := lastp_spec (s := s) (b := b) hp
  unfold wi
  have : lastp s p b ≤ fst s p a := by
    by_cases h1 : 1 ≤ lastp s p b
    · have := l1 h1
      exact mul_cancel hp (by omega)
    · omega
  omega

theorem wi_nonneg (s p a b : Int) : 0 ≤ wi s p a b := by unfold wi; omega

theorem qwi {s p q a b : Int} (hq : 0 ≤ q) (hqp : q ≤ p) (hp : 0 < p) (ha : Tm a) (hb : Tm b) : 0 ≤ q * wi s p a b ∧ q * wi s p a b ≤ 1073741824 ∧ wi s p a b ≤ 1073741824 := by
  have h0 := wi_nonneg s p a b
  have h1 : 0 ≤ q * wi s p a b := Int.mul_nonneg hq h0
  refine ⟨h1, ?_⟩
  by_cases hab : a ≤ b
  · have h2 := Items.wi_mul (s := s) hp hab
    have h3 : q * wi s p a b ≤ p * wi s p a b := Int.mul_le_mul_of_nonneg_right hqp h0
    have h4 : wi s p a b * 1 ≤ wi s p a b * p := Int.mul_le_mul_of_nonneg_left (by omega) h0
    rw [Int.mul_comm p] at h3
    have := ha.1; have := hb.2
    omega
  · rw [wi_back hp (by omega)]; omega

theorem within_eq {q p s a b : Int} (hp : 1 ≤ p) (hp2 : p ≤ 1048576) (hs : Tm s) (ha : Tm a) (hb : Tm b) : edf_Item_within.f q p s a b = some (wi s p a b) := by
  obtain ⟨s0, s1⟩ := hs
  obtain ⟨a0, a1⟩ := ha
  obtain ⟨b0, b1⟩ := hb
  unfold edf_Item_within.f
  rw [if_neg (by omega), w64 (n := b - s) (by omega) (by omega), w64 (n := a - s) (by omega) (by omega), mx_max, mx_max, mx_max]
  unfold wi lastp fst
  generalize hx : max (a - s) 0 = x
  generalize hy : max (b - s) 0 = y
  have hx0 : 0 ≤ x ∧ x ≤ 1073741824 := by omega
  have hy0 : 0 ≤ y ∧ y ≤ 1073741824 := by omega
  have e1 : 0 ≤ y / p ∧ y / p ≤ y := ⟨Int.ediv_nonneg (by omega) (by omega), Int.ediv_le_self _ (by omega)⟩
  have e2 : 0 ≤ (x + p - 1) / p ∧ (x + p - 1) / p ≤ x + p - 1 := ⟨Int.ediv_nonneg (by omega) (by omega), Int.ediv_le_self _ (by omega)⟩
  rw [w64 (n := x + p) (by omega) (by omega), w64 (n := x + p - 1) (by omega) (by omega), tdiv_pos (by omega), w64 (n := y / p) (by omega) (by omega), w64 (n := (x + p - 1) / p) (by omega) (by omega), w64 (by omega) (by omega)]

/-- the sum, item by item -/
theorem dem_bound {I : Items} (hI : Fine I) {a b : Int} (ha : Tm a) (hb : Tm b) : ∀ i, i ≤ I.m → 0 ≤ sm (fun j => I.q j * wi (I.s j) (I.p j) a b) i ∧ sm (fun j => I.q j * wi (I.s j) (I.p j) a b) i ≤ i * 1073741824 := by
  intro i
  induction i with
  | zero => intro _; simp [sm]
  | succ i ih =>
    intro h
    have ih := ih (by omega)
    have hi := hI.2 i (by omega)
    have := qwi (s := I.s i) (p := I.p i) (q := I.q i) (by omega) (by omega) (by omega) ha hb
    simp only [sm]; omega

theorem demand_evt (l : List S43) (hv : vLL l = 0) {a b : Int} (ha : Tm a) (hb : Tm b) : Evt (fun k => edf_demand.f k (l.map cv) a b) ((It l).dem a b) := by
  have hI := It_fine hv
  have hm : l.length ≤ 64 := hI.1
  have key : ∀ (d i : Nat), i + d = l.length → Evt (fun k => edf_demand.l0 k a b (sm (fun j => (It l).q j * wi ((It l).s j) ((It l).p j) a b) i) (l.map cv) (l.length : Int) i) ((It l).dem a b) := by
    intro d
    induction d with
    | zero =>
      intro i hi
      obtain rfl : i = l.length := by omega
      refine Evt.succ ?_
      simp only [edf_demand.l0]
      exact Evt.ifn (by omega) (Evt.pure fun _ => rfl)
    | succ d ih =>
      intro i hi
      have hil : i < l.length := by omega
      have him : i < (It l).m := hil
      have hIi := hI.2 i him
      have hx : rd_T55 (l.map cv) (i : Int) = ⟨(It l).q i, (It l).p i, (It l).s i⟩ := by rw [rd55 hil]; rfl
      have hbd := dem_bound hI ha hb i (by omega)
      have hq := qwi (s := (It l).s i) (p := (It l).p i) (q := (It l).q i) (by omega) (by omega) (by omega) ha hb
      have nx := ih (i + 1) (by omega)
      simp only [sm] at nx
      refine Evt.succ ?_
      simp only [edf_demand.l0]
      rw [hx]
      simp only []
      refine Evt.ifp (by omega) (Evt.ifp (by omega) (Evt.ifp (by simp; omega) (Evt.call (within_eq (by omega) (by omega) ⟨by omega, by omega⟩ ha hb) ?_)))
      rw [w1 i (by omega), w64 (n := (It l).q i * wi ((It l).s i) ((It l).p i) a b) (by omega) (by omega), w64 (by omega) (by omega)]
      exact nx
  have := key l.length 0 (by omega)
  unfold edf_demand.f
  rw [List.length_map]
  exact this

theorem is_eq (a : Int) : edf_is.f a = some (decide (Tm a)) := by
  unfold edf_is.f
  by_cases h : a ≥ 0
  · rw [if_pos h]
    by_cases h2 : a ≤ 1073741824
    · rw [decide_eq_true h2, decide_eq_true (show Tm a from ⟨h, h2⟩)]
    · rw [decide_eq_false h2, decide_eq_false (show ¬ Tm a from fun hh => h2 hh.2)]
  · rw [if_neg h, decide_eq_false (show ¬ Tm a from fun hh => h hh.1)]

/-- what Demand answers -/
def DemIs (l : List S43) (a b v e : Int) : Prop :=
  (¬ (Tm a ∧ Tm b) ∧ v = 0 ∧ e = 1) ∨ ((Tm a ∧ Tm b) ∧ vLL l ≠ 0 ∧ v = 0 ∧ e = vLL l) ∨ ((Tm a ∧ Tm b) ∧ vLL l = 0 ∧ e = 0 ∧ v = (It l).dem a b)
theorem DemIs.uniq {l : List S43} {a b v v' e e' : Int} (h : DemIs l a b v e) (h' : DemIs l a b v' e') : v = v' ∧ e = e' := by
  rcases h with ⟨a, rfl, rfl⟩ | ⟨a, b, rfl, rfl⟩ | ⟨a, b, rfl, rfl⟩ <;> rcases h' with ⟨a', rfl, rfl⟩ | ⟨a', b', rfl, rfl⟩ | ⟨a', b', rfl, rfl⟩
  · exact ⟨rfl, rfl⟩
  · exact absurd a' a
  · exact absurd a' a
  · exact absurd a a'
  · exact ⟨rfl, rfl⟩
  · exact absurd b' b
  · exact absurd a a'
  · exact absurd b b'
  · exact ⟨rfl, rfl⟩

theorem Demand_evt (l : List S43) (hl : l.length ≤ 140737488351232) (a b : Int) : ∃ v e, Evt (fun k => edf_Demand.f k (l.map cv) a b) (v, opt e) ∧ DemIs l a b v e := by
  have bad : ∀ x, x = true → Evt (fun k => edf_Demand.j0 k (l.map cv) a b x) (0, opt 1) := by
    intro x hx; refine Evt.succ ?_; simp only [edf_Demand.j0]; exact Evt.ifp hx (Evt.pure fun _ => rfl)
  unfold edf_Demand.f
  by_cases ha : Tm a
  · by_cases hb : Tm b
    · have hV := edf_Valid_evt l hl
      by_cases hv : vLL l = 0
      · rw [hv, opt_zero] at hV
        refine ⟨_, 0, Evt.call (is_eq a) (Evt.ifp (decide_eq_true ha) (Evt.call (is_eq b) (Evt.succ ?_))), .inr (.inr ⟨⟨ha, hb⟩, hv, rfl, rfl⟩)⟩
        simp only [edf_Demand.j0]
        exact Evt.ifn (by simp [hb]) (Evt.bind hV (Evt.ifp rfl (Evt.bind (demand_evt l hv ha hb) (Evt.pure fun _ => rfl))))
      · rw [opt_pos hv] at hV
        refine ⟨0, vLL l, Evt.call (is_eq a) (Evt.ifp (decide_eq_true ha) (Evt.call (is_eq b) (Evt.succ ?_))), .inr (.inl ⟨⟨ha, hb⟩, hv, rfl, rfl⟩)⟩
        simp only [edf_Demand.j0]
        rw [opt_pos hv]
        exact Evt.ifn (by simp [hb]) (Evt.bind hV (Evt.ifn (by simp) (Evt.pure fun _ => rfl)))
    · exact ⟨0, 1, Evt.call (is_eq a) (Evt.ifp (decide_eq_true ha) (Evt.call (is_eq b) (bad _ (by simp [hb])))), .inl ⟨fun h => hb h.2, rfl, rfl⟩⟩
  · exact ⟨0, 1, Evt.call (is_eq a) (Evt.ifn (by simp [ha]) (bad _ rfl)), .inl ⟨fun h => ha h.1, rfl, rfl⟩⟩

/-- the first stretch in [0,n] that asks for too much, or none -/
def FeasOk (I : Items) (n : Int) (ok : Bool) (x y : Int) : Prop :=
  (ok = true ∧ x = 0 ∧ y = 0 ∧ ∀ a c : Int, 0 ≤ a → a ≤ c → c ≤ n → I.dem a c ≤ c - a) ∨
  (ok = false ∧ 0 ≤ x ∧ x ≤ y ∧ y ≤ n ∧ y - x < I.dem x y ∧ ∀ a c : Int, 0 ≤ a → a ≤ c → c ≤ n → (a < x ∨ (a = x ∧ c < y)) → I.dem a c ≤ c - a)

theorem FeasOk.uniq {I : Items} {n : Int} {ok ok' : Bool} {x y x' y' : Int} (h : FeasOk I n ok x y) (h' : FeasOk I n ok' x' y') : ok = ok' ∧ x = x' ∧ y = y' := by
  rcases h with ⟨rfl, rfl, rfl, h⟩ | ⟨rfl, a1, a2, a3, a4, h⟩ <;> rcases h' with ⟨rfl, rfl, rfl, h'⟩ | ⟨rfl, b1, b2, b3, b4, h'⟩
  · exact ⟨rfl, rfl, rfl⟩
  · have := h x' y' b1 b2 b3; omega
  · have := h' x y a1 a2 a3; omega
  · by_cases c1 : x < x'
    · have := h' x y a1 a2 a3 (.inl c1); omega
    · by_cases c2 : x' < x
      · have := h x' y' b1 b2 b3 (.inl c2); omega
      · obtain rfl : x = x' := by omega
        by_cases c3 : y < y'
        · have := h' x y a1 a2 a3 (.inr ⟨rfl, c3⟩); omega
        · by_cases c4 : y' < y
          · have := h x y' b1 b2 b3 (.inr ⟨rfl, c4⟩); omega
          · exact ⟨rfl, rfl, by omega⟩

def FeasIs (l : List S43) (n : Int) (ok : Bool) (x y e : Int) : Prop :=
  ((n < 0 ∨ 256 < n) ∧ ok = false ∧ x = 0 ∧ y = 0 ∧ e = 1) ∨ ((0 ≤ n ∧ n ≤ 256) ∧ vLL l ≠ 0 ∧ ok = false ∧ x = 0 ∧ y = 0 ∧ e = vLL l) ∨ ((0 ≤ n ∧ n ≤ 256) ∧ vLL l = 0 ∧ e = 0 ∧ FeasOk (It l) n ok x y)

theorem FeasIs.uniq {l : List S43} {n : Int} {ok ok' : Bool} {x y x' y' e e' : Int} (h : FeasIs l n ok x y e) (h' : FeasIs l n ok' x' y' e') : ok = ok' ∧ x = x' ∧ y = y' ∧ e = e' := by
  rcases h with ⟨a, rfl, rfl, rfl, rfl⟩ | ⟨a, b, rfl, rfl, rfl, rfl⟩ | ⟨a, b, rfl, c⟩ <;> rcases h' with ⟨a', rfl, rfl, rfl, rfl⟩ | ⟨a', b', rfl, rfl, rfl, rfl⟩ | ⟨a', b', rfl, c'⟩
  · exact ⟨rfl, rfl, rfl, rfl⟩
  · omega
  · omega
  · omega
  · exact ⟨rfl, rfl, rfl, rfl⟩
  · exact absurd b' b
  · omega
  · exact absurd b b'
  · obtain ⟨h1, h2, h3⟩ := c.uniq c'
    exact ⟨h1, h2, h3, rfl⟩

theorem feas_inner (l : List S43) (hv : vLL l = 0) {n : Int} (hn : n ≤ 256) (a : Nat) (ha : a ≤ 257)
    (hlow : ∀ x c : Int, 0 ≤ x → x ≤ c → c ≤ n → x < a → (It l).dem x c ≤ c - x)
    (nx : (∀ x c : Int, 0 ≤ x → x ≤ c → c ≤ n → x < (a + 1 : Nat) → (It l).dem x c ≤ c - x) → ∃ ok x y, Evt (fun k => edf_Feasible.l0 k (l.map cv) n (a + 1 : Nat)) (ok, x, y, none) ∧ FeasOk (It l) n ok x y) :
    ∀ (d : Nat) (c : Nat), n + 1 - c ≤ d → a ≤ c → (∀ c' : Int, a ≤ c' → c' < c → (It l).dem a c' ≤ c' - a) → ∃ ok x y, Evt (fun k => edf_Feasible.l1 k (l.map cv) n a c) (ok, x, y, none) ∧ FeasOk (It l) n ok x y := by
  have out : ∀ c : Nat, ¬ (c : Int) ≤ n → a ≤ c → (∀ c' : Int, a ≤ c' → c' < c → (It l).dem a c' ≤ c' - a) → ∃ ok x y, Evt (fun k => edf_Feasible.l1 k (l.map cv) n a c) (ok, x, y, none) ∧ FeasOk (It l) n ok x y := by
    intro c hc hac h
    obtain ⟨ok, x, y, h1, h2⟩ := nx (fun x c' h0 h1 h2 h3 => by
      by_cases hx : x < a
      · exact hlow x c' h0 h1 h2 hx
      · obtain rfl : x = a := by omega
        exact h c' h1 (by omega))
    refine ⟨ok, x, y, Evt.succ ?_, h2⟩
    simp only [edf_Feasible.l1]
    rw [w1 a (by omega)]
    exact Evt.ifn hc h1
  intro d
  induction d with
  | zero => intro c hd hac h; exact out c (by omega) hac h
  | succ d ih =>
    intro c hd hac h
    by_cases hc : (c : Int) ≤ n
    · have hdm := demand_evt l hv (a := a) (b := c) ⟨by omega, by omega⟩ ⟨by omega, by omega⟩
      by_cases hg : (c : Int) - a < (It l).dem a c
      · refine ⟨false, a, c, Evt.succ ?_, .inr ⟨rfl, by omega, by omega, hc, hg, fun x c' h0 h1 h2 h3 => ?_⟩⟩
        · simp only [edf_Feasible.l1]
          rw [w64 (n := (c : Int) - a) (by omega) (by omega)]
          exact Evt.ifp hc (Evt.bind hdm (Evt.ifp (by omega) (Evt.pure fun _ => rfl)))
        · rcases h3 with h3 | ⟨rfl, h3⟩
          · exact hlow x c' h0 h1 h2 h3
          · exact h c' h1 h3
      · obtain ⟨ok, x, y, h1, h2⟩ := ih (c + 1) (by omega) (by omega) (fun c' h1 h2 => by
          by_cases hx : c' < c
          · exact h c' h1 hx
          · obtain rfl : c' = c := by omega
            omega)
        refine ⟨ok, x, y, Evt.succ ?_, h2⟩
        simp only [edf_Feasible.l1]
        rw [w64 (n := (c : Int) - a) (by omega) (by omega), w1 c (by omega)]
        exact Evt.ifp hc (Evt.bind hdm (Evt.ifn (by omega) h1))
    · exact out c hc hac h

theorem feas_outer (l : List S43) (hv : vLL l = 0) {n : Int} (hn : n ≤ 256) : ∀ (d : Nat) (a : Nat), n + 1 - a ≤ d → a ≤ 257 →
    (∀ x c : Int, 0 ≤ x → x ≤ c → c ≤ n → x < a → (It l).dem x c ≤ c - x) → ∃ ok x y, Evt (fun k => edf_Feasible.l0 k (l.map cv) n a) (ok, x, y, none) ∧ FeasOk (It l) n ok x y := by
  intro d
  induction d with
  | zero =>
    intro a hd ha hlow
    refine ⟨true, 0, 0, Evt.succ ?_, .inl ⟨rfl, rfl, rfl, fun x c h0 h1 h2 => hlow x c h0 h1 h2 (by omega)⟩⟩
    simp only [edf_Feasible.l0]
    exact Evt.ifn (by omega) (Evt.pure fun _ => rfl)
  | succ d ih =>
    intro a hd ha hlow
    by_cases hc : (a : Int) ≤ n
    · obtain ⟨ok, x, y, h1, h2⟩ := feas_inner l hv hn a ha hlow (fun h => ih (a + 1) (by omega) (by omega) h) (n + 1 - a).toNat a (by omega) (by omega) (fun c' h1 h2 => by omega)
      refine ⟨ok, x, y, Evt.succ ?_, h2⟩
      simp only [edf_Feasible.l0]
      exact Evt.ifp hc h1
    · exact ih a (by omega) ha hlow

theorem Feasible_evt (l : List S43) (hl : l.length ≤ 140737488351232) (n : Int) : ∃ ok x y e, Evt (fun k => edf_Feasible.f k (l.map cv) n) (ok, x, y, opt e) ∧ FeasIs l n ok x y e := by
  have bad : ∀ b, b = true → Evt (fun k => edf_Feasible.j0 k (l.map cv) n b) (false, 0, 0, opt 1) := by
    intro b hb; refine Evt.succ ?_; simp only [edf_Feasible.j0]; exact Evt.ifp hb (Evt.pure fun _ => rfl)
  unfold edf_Feasible.f
  by_cases h1 : n < 0
  · exact ⟨false, 0, 0, 1, Evt.ifp h1 (bad _ rfl), .inl ⟨.inl h1, rfl, rfl, rfl, rfl⟩⟩
  by_cases h2 : n > 256
  · exact ⟨false, 0, 0, 1, Evt.ifn h1 (bad _ (decide_eq_true h2)), .inl ⟨.inr h2, rfl, rfl, rfl, rfl⟩⟩
  have hV := edf_Valid_evt l hl
  by_cases hv : vLL l = 0
  · rw [hv, opt_zero] at hV
    obtain ⟨ok, x, y, h3, h4⟩ := feas_outer l hv (n := n) (by omega) 257 0 (by omega) (by omega) (fun x c h0 _ _ h => by omega)
    refine ⟨ok, x, y, 0, Evt.ifn h1 (Evt.succ ?_), .inr (.inr ⟨by omega, hv, rfl, h4⟩)⟩
    simp only [edf_Feasible.j0]
    exact Evt.ifn (by simpa using h2) (Evt.bind hV (Evt.ifp rfl h3))
  · rw [opt_pos hv] at hV
    refine ⟨false, 0, 0, vLL l, Evt.ifn h1 (Evt.succ ?_), .inr (.inl ⟨by omega, hv, rfl, rfl, rfl, rfl⟩)⟩
    simp only [edf_Feasible.j0]
    rw [opt_pos hv]
    exact Evt.ifn (by simpa using h2) (Evt.bind hV (Evt.ifn (by simp) (Evt.pure fun _ => rfl)))

theorem refMissed_items (l : List S43) (hv : vLL l = 0) (pl : List Int) (hpl : pl.length ≤ 4096) :
    ∀ (d i : Nat), i + d = l.length →
      Evt (fun k => titheref10_Missed.l1 k l pl ((List.range i).map (fun j => missI (It l) (rd pl) pl.length j)) i) ((List.range l.length).map (fun j => missI (It l) (rd pl) pl.length j), 0) := by
  have hI := It_fine hv
  have hm : l.length ≤ 64 := hI.1
  intro d
  induction d with
  | zero =>
    intro i hi
    obtain rfl : i = l.length := by omega
    refine Evt.succ ?_
    simp only [titheref10_Missed.l1]
    exact Evt.ifn (by omega) (Evt.pure fun _ => rfl)
  | succ d ih =>
    intro i hi
    have hil : i < l.length := by omega
    have him : i < (It l).m := hil
    have hIi := hI.2 i him
    have hx : rd_T43 l (i : Int) = ⟨(It l).q i, (It l).p i, (It l).s i⟩ := rfl
    have nx := ih (i + 1) (by omega)
    rw [List.range_succ, List.map_append] at nx
    have periods : ∀ (f : Nat) (a c : Int), 0 ≤ a → a ≤ 1073741824 + 4096 → (pl.length : Int) < a + f → f ≤ pl.length + 1 → 0 ≤ c → c + f ≤ pl.length + 1 →
        c + missN (rd pl) pl.length i ((It l).q i) ((It l).p i) f a = missI (It l) (rd pl) pl.length i →
        Evt (fun k => titheref10_Missed.l2 k l pl ((List.range i).map (fun j => missI (It l) (rd pl) pl.length j)) i c a ((It l).q i) ((It l).p i) ((It l).s i)) ((List.range l.length).map (fun j => missI (It l) (rd pl) pl.length j), 0) := by
      intro f
      induction f with
      | zero =>
        intro a c ha0 ha1 hf _ h0 _ heq
        refine Evt.succ ?_
        simp only [titheref10_Missed.l2]
        rw [w64 (n := a + (It l).p i) (by omega) (by omega), w1 i (by omega)]
        refine Evt.ifn (by omega) (Evt.ifp (by simp; omega) ?_)
        simp only [missN] at heq
        rw [show c = missI (It l) (rd pl) pl.length i by omega]
        exact nx
      | succ f ihf =>
        intro a c ha0 ha1 hf hf1 h0 hle heq
        simp only [missN] at heq
        by_cases hin : a + (It l).p i ≤ pl.length
        · rw [if_pos hin] at heq
          obtain ⟨a', rfl⟩ : ∃ a' : Nat, a = a' := ⟨a.toNat, by omega⟩
          obtain ⟨pp, hpp⟩ : ∃ pp : Nat, (It l).p i = pp := ⟨((It l).p i).toNat, by omega⟩
          have count : ∀ (d u : Nat), u + d = pp → Evt (fun k => titheref10_Missed.l3 k l pl ((List.range i).map (fun j => missI (It l) (rd pl) pl.length j)) i c a' (cn (rd pl) i a' ((a' : Int) + u)) ((a' + u : Nat) : Int) ((It l).q i) ((It l).p i) ((It l).s i)) ((List.range l.length).map (fun j => missI (It l) (rd pl) pl.length j), 0) := by
            intro d
            induction d with
            | zero =>
              intro u hu
              obtain rfl : u = pp := by omega
              refine Evt.succ ?_
              simp only [titheref10_Missed.l3]
              rw [w64 (n := (a' : Int) + (It l).p i) (by omega) (by omega)]
              refine Evt.ifn (by omega) ?_
              rw [hpp] at heq
              by_cases hc : cn (rd pl) i a' ((a' : Int) + u) < (It l).q i
              · rw [if_pos hc, ← hpp] at heq
                refine Evt.ifp hc ?_
                rw [w64 (n := c + 1) (by omega) (by omega)]
                exact ihf _ _ (by omega) (by omega) (by omega) (by omega) (by omega) (by omega) (by omega)
              · rw [if_neg hc, ← hpp] at heq
                exact Evt.ifn hc (ihf _ _ (by omega) (by omega) (by omega) (by omega) (by omega) (by omega) (by omega))
            | succ d ihd =>
              intro u hu
              refine Evt.succ ?_
              simp only [titheref10_Missed.l3]
              have hcn := cn_succ (rd pl) i (a := (a' : Int)) (b := (a' : Int) + u) (by omega)
              have hb0 := cn_nonneg (rd pl) i (a' : Int) ((a' : Int) + u)
              have hb1 : cn (rd pl) i (a' : Int) ((a' : Int) + u) ≤ u := by
                have key : ∀ v : Nat, cn (rd pl) i (a' : Int) ((a' : Int) + v) ≤ v := by
                  intro v
                  induction v with
                  | zero => simp [cn_self]
                  | succ v ihv =>
                    have := cn_succ (rd pl) i (a := (a' : Int)) (b := (a' : Int) + v) (by omega)
                    rw [show (a' : Int) + ((v + 1 : Nat) : Int) = (a' : Int) + v + 1 by omega, this]
                    split <;> omega
                exact key u
              rw [w1 (a' + u) (by omega), w64 (n := (a' : Int) + (It l).p i) (by omega) (by omega)]
              have nx2 := ihd (u + 1) (by omega)
              rw [show (a' : Int) + ((u + 1 : Nat) : Int) = (a' : Int) + u + 1 by omega, hcn, show a' + (u + 1) = a' + u + 1 by omega] at nx2
              refine Evt.ifp (by omega) (Evt.ifp (by omega) (Evt.ifp (by omega) ?_))
              rw [show ((a' + u : Nat) : Int) = (a' : Int) + u by omega]
              by_cases hc : rd pl ((a' : Int) + u) = i
              · rw [if_pos hc] at nx2
                refine Evt.ifp hc ?_
                rw [w64 (n := cn (rd pl) i (a' : Int) ((a' : Int) + u) + 1) (by omega) (by omega)]; exact nx2
              · rw [if_neg hc] at nx2
                refine Evt.ifn hc ?_
                rw [show cn (rd pl) i (a' : Int) ((a' : Int) + u) + 0 = cn (rd pl) i (a' : Int) ((a' : Int) + u) by omega] at nx2
                exact nx2
          refine Evt.succ ?_
          simp only [titheref10_Missed.l2]
          rw [w64 (n := (a' : Int) + (It l).p i) (by omega) (by omega)]
          refine Evt.ifp (by omega) ?_
          have c0 := count pp 0 (by omega)
          rw [show (a' : Int) + ((0 : Nat) : Int) = a' by omega, cn_self] at c0
          exact c0
        · rw [if_neg hin] at heq
          refine Evt.succ ?_
          simp only [titheref10_Missed.l2]
          rw [w64 (n := a + (It l).p i) (by omega) (by omega), w1 i (by omega)]
          refine Evt.ifn hin (Evt.ifp (by simp; omega) ?_)
          rw [show c = missI (It l) (rd pl) pl.length i by omega]
          exact nx
    refine Evt.succ ?_
    simp only [titheref10_Missed.l1]
    rw [hx]
    simp only []
    refine Evt.ifp (by omega) (Evt.ifp (by omega) ?_)
    exact periods (pl.length + 1) ((It l).s i) 0 (by omega) (by omega) (by omega) (by omega) (by omega) (by omega) (by unfold missI; omega)

theorem refMissed_evt (l : List S43) (hl : l.length ≤ 140737488351232) (pl : List Int) :
    ∃ o e, Evt (fun k => titheref10_Missed.f k l pl) (o, e) ∧ MissIs l pl o e := by
  unfold titheref10_Missed.f
  by_cases h1 : (pl.length : Int) > 4096
  · exact ⟨[], 1, Evt.ifp h1 (Evt.pure fun _ => rfl), .inl ⟨.inl (by omega), rfl, rfl⟩⟩
  · have check : ∀ (d i : Nat), i + d = pl.length → (∀ t, t < i → ¬ (rd pl (t : Nat) < -1 ∨ (l.length : Int) ≤ rd pl (t : Nat))) →
        ∃ o e, Evt (fun k => titheref10_Missed.l0 k l pl i) (o, e) ∧ MissIs l pl o e := by
      intro d
      induction d with
      | zero =>
        intro i hi ha
        have hnb : ¬ (4096 < pl.length ∨ Bad pl l.length) := by
          rintro (h | ⟨t, ht, hb⟩)
          · omega
          · exact ha t (by omega) hb
        have hV := ref_Valid_evt l hl
        by_cases hv : vLL l = 0
        · rw [hv] at hV
          refine ⟨_, 0, Evt.succ ?_, .inr (.inr ⟨hnb, hv, rfl, rfl⟩)⟩
          simp only [titheref10_Missed.l0]
          refine Evt.ifn (by omega) (Evt.bind hV (Evt.ifp rfl ?_))
          exact refMissed_items l hv pl (by omega) l.length 0 (by omega)
        · refine ⟨[], vLL l, Evt.succ ?_, .inr (.inl ⟨hnb, hv, rfl, rfl⟩)⟩
          simp only [titheref10_Missed.l0]
          exact Evt.ifn (by omega) (Evt.bind hV (Evt.ifn hv (Evt.pure fun _ => rfl)))
      | succ d ih =>
        intro i hi ha
        by_cases hb1 : rd pl (i : Nat) < -1
        · refine ⟨[], 1, Evt.succ ?_, .inl ⟨.inr ⟨i, by omega, .inl hb1⟩, rfl, rfl⟩⟩
          simp only [titheref10_Missed.l0]
          exact Evt.ifp (by omega) (Evt.ifp (by omega) (Evt.ifp hb1 (Evt.pure fun _ => rfl)))
        · by_cases hb2 : rd pl (i : Nat) ≥ (l.length : Int)
          · refine ⟨[], 1, Evt.succ ?_, .inl ⟨.inr ⟨i, by omega, .inr hb2⟩, rfl, rfl⟩⟩
            simp only [titheref10_Missed.l0]
            exact Evt.ifp (by omega) (Evt.ifp (by omega) (Evt.ifn hb1 (Evt.ifp hb2 (Evt.pure fun _ => rfl))))
          · obtain ⟨o, e, ho, hoe⟩ := ih (i + 1) (by omega) (fun t ht => by
              by_cases h : t = i
              · rw [h]; rintro (h | h)
                · exact hb1 h
                · exact hb2 h
              · exact ha t (by omega))
            refine ⟨o, e, Evt.succ ?_, hoe⟩
            simp only [titheref10_Missed.l0]
            rw [w1 i (by omega)]
            exact Evt.ifp (by omega) (Evt.ifp (by omega) (Evt.ifn hb1 (Evt.ifn hb2 ho)))
    obtain ⟨o, e, ho, hoe⟩ := check pl.length 0 (by omega) (fun t ht => by omega)
    exact ⟨o, e, Evt.ifn h1 ho, hoe⟩

theorem MissIs.length {l : List S43} {n o : List Int} {e : Int} (h : MissIs l n o e) (hl : l.length ≤ 140737488351232) : o.length ≤ 140737488351232 := by
  rcases h with ⟨_, rfl, _⟩ | ⟨_, _, rfl, _⟩ | ⟨_, _, _, rfl⟩
  · simp
  · simp
  · simpa using hl

theorem some_evt (o : List Int) (hl : o.length ≤ 140737488351232) : Evt (fun k => tithelaw10_some.f k o) (decide (∃ j, j < o.length ∧ rd o (j : Nat) ≠ 0)) := by
  unfold tithelaw10_some.f
  have key : ∀ (d i : Nat), i + d = o.length → (∀ j, j < i → rd o (j : Nat) = 0) → Evt (fun k => tithelaw10_some.l0 k o i) (decide (∃ j, j < o.length ∧ rd o (j : Nat) ≠ 0)) := by
    intro d
    induction d with
    | zero =>
      intro i hi ha
      refine Evt.succ ?_
      simp only [tithelaw10_some.l0]
      refine Evt.ifn (by omega) (Evt.pure fun _ => ?_)
      rw [decide_eq_false]
      rintro ⟨j, hj, hne⟩
      exact hne (ha j (by omega))
    | succ d ih =>
      intro i hi ha
      refine Evt.succ ?_
      simp only [tithelaw10_some.l0]
      refine Evt.ifp (by omega) (Evt.ifp (by omega) ?_)
      by_cases h : rd o (i : Nat) = 0
      · refine Evt.ifp h ?_
        rw [w1 i (by omega)]
        refine ih (i + 1) (by omega) (fun j hj => ?_)
        by_cases e : j = i
        · rw [e]; exact h
        · exact ha j (by omega)
      · refine Evt.ifn h (Evt.pure fun _ => ?_)
        rw [decide_eq_true ⟨i, by omega, h⟩]
  exact key o.length 0 (by omega) (fun j hj => by omega)

/-- nothing is missed: each period that lies in the plan has its budget -/
theorem miss_none {l : List S43} (hv : vLL l = 0) (pl : List Int) :
    (¬ ∃ j, j < ((List.range l.length).map (fun j => missI (It l) (rd pl) pl.length j)).length ∧ rd ((List.range l.length).map (fun j => missI (It l) (rd pl) pl.length j)) (j : Nat) ≠ 0) ↔
      ∀ j, j < (It l).m → ∀ k : Nat, (It l).s j + k * (It l).p j + (It l).p j ≤ pl.length → (It l).q j ≤ cn (rd pl) j ((It l).s j + k * (It l).p j) ((It l).s j + k * (It l).p j + (It l).p j) := by
  have hI := It_fine hv
  have hrd : ∀ j, j < l.length → rd ((List.range l.length).map (fun j => missI (It l) (rd pl) pl.length j)) (j : Nat) = missI (It l) (rd pl) pl.length j := by
    intro j hj
    rw [rdI (by simpa using hj)]; simp
  have hz : ∀ j, j < l.length → (missI (It l) (rd pl) pl.length j = 0 ↔ ∀ k : Nat, (It l).s j + k * (It l).p j + (It l).p j ≤ pl.length → (It l).q j ≤ cn (rd pl) j ((It l).s j + k * (It l).p j) ((It l).s j + k * (It l).p j + (It l).p j)) := by
    intro j hj
    have := hI.2 j hj
    unfold missI
    exact missN_zero (by omega) _ _ (by omega)
  constructor
  · intro h j hj k hk
    have hj' : j < l.length := hj
    have h0 : missI (It l) (rd pl) pl.length j = 0 := by
      by_cases e : missI (It l) (rd pl) pl.length j = 0
      · exact e
      · exact absurd ⟨j, by simpa using hj', by rw [hrd j hj']; exact e⟩ h
    exact (hz j hj').1 h0 k hk
  · rintro h ⟨j, hj, hne⟩
    have hj' : j < l.length := by simpa using hj
    rw [hrd j hj'] at hne
    exact hne ((hz j hj').2 (fun k hk => h j hj' k hk))

theorem pick_rule {I : Items} {pl : Int → Int} {t : Int} (h : PickIs I.m (fun j => (j : Int)) (lfA I pl t) (enA I t) (pl t)) : I.Rule pl t := by
  have hEl : ∀ j, I.El pl j t → 0 < lfA I pl t j ∧ enA I t j = I.en j t := by
    rintro j ⟨h1, h2⟩
    unfold lfA enA
    rw [if_neg (by omega), if_neg (by omega)]
    exact ⟨by omega, rfl⟩
  have hBack : ∀ j, 0 < lfA I pl t j → I.El pl j t ∧ enA I t j = I.en j t := by
    intro j h
    unfold lfA at h
    unfold enA
    by_cases hs : t < I.s j
    · rw [if_pos hs] at h; omega
    · rw [if_neg hs] at h ⊢
      exact ⟨⟨by omega, by omega⟩, rfl⟩
  rcases h with ⟨h1, h2⟩ | ⟨j, hj, h1, h2, h3⟩
  · refine .inl ⟨h1, fun j hj hel => ?_⟩
    have a := h2 j hj
    have b := (hEl j hel).1
    omega
  · obtain ⟨e1, e2⟩ := hBack j h2
    refine .inr ⟨j, hj, h1, e1, fun k hk hel => ?_⟩
    obtain ⟨f1, f2⟩ := hEl k hel
    have := h3 k hk f1
    rw [← e2, ← f2]
    rcases this with h | ⟨h, _⟩
    · exact Int.le_of_lt h
    · exact Int.le_of_eq h

theorem greedy_rule {I : Items} {p : List Int} {n : Nat} (hg : Greedy I p n) : ∀ t : Int, 0 ≤ t → t < n → I.Rule (rd p) t := by
  intro t h0 h1
  obtain ⟨t', rfl⟩ : ∃ t' : Nat, t = t' := ⟨t.toNat, by omega⟩
  exact pick_rule (hg.2 t' (by omega))

theorem greedy_not_bad {I : Items} {p : List Int} {n : Nat} (hg : Greedy I p n) : ¬ Bad p I.m := by
  rintro ⟨t, ht, hb⟩
  have := (hg.2 t (by have := hg.1; omega)).range
  omega

/-- each period has its budget at least -/
def AllHad (I : Items) (pl : Int → Int) (n : Int) : Prop := ∀ j, j < I.m → ∀ k : Nat, I.s j + k * I.p j + I.p j ≤ n → I.q j ≤ cn pl j (I.s j + k * I.p j) (I.s j + k * I.p j + I.p j)

/-- where no stretch asks for too much, nothing is missed -/
theorem greedy_all {I : Items} (hI : Fine I) {p : List Int} {n : Nat} (hg : Greedy I p n) (hd : ∀ a b : Int, 0 ≤ a → a ≤ b → b ≤ n → I.dem a b ≤ b - a) : AllHad I (rd p) n := by
  intro j hj k hk
  by_cases h : I.q j ≤ cn (rd p) j (I.s j + k * I.p j) (I.s j + k * I.p j + I.p j)
  · exact h
  · obtain ⟨a, b, h0, h1, h2, h3⟩ := Items.missed hI.ok (greedy_rule hg) hj (k := k) (by omega) hk (by omega)
    have := hd a b h0 h1 h2
    omega

/-- where any plan misses nothing, no stretch asks for too much -/
theorem all_dem {I : Items} (hI : Fine I) {pl : Int → Int} {n : Int} (h : AllHad I pl n) {a b : Int} (hab : a ≤ b) (hb : b ≤ n) : I.dem a b ≤ b - a := by
  by_cases hd : I.dem a b ≤ b - a
  · exact hd
  · refine absurd ?_ (fun h => h)
    refine Items.too_much hI.ok pl hab hb (by omega) (fun j hj k hk hle => ?_)
    obtain ⟨k', rfl⟩ : ∃ k' : Nat, k = k' := ⟨k.toNat, by omega⟩
    exact h j hj k' hle

theorem greedy_best {I : Items} (hI : Fine I) {p : List Int} {n : Nat} (hg : Greedy I p n) {pl : Int → Int} (h : AllHad I pl n) : AllHad I (rd p) n :=
  greedy_all hI hg (fun _ _ _ hab hb => all_dem hI h hab hb)

theorem EdfStretch : tithelaw10_EdfStretch.Pure := by
  intro l n0 _ hl _ _
  refine Evt.ex ?_
  have hll : l.length ≤ 140737488351232 := by omega
  obtain ⟨n1, n2⟩ := pmod (a := n0) (c := 41) (by omega) (by omega)
  unfold tithelaw10_EdfStretch.f
  generalize Int.tmod (wrap64 (Int.tmod n0 41 + 41)) 41 = n at n1 n2 ⊢
  obtain ⟨p, e, hp, hpe⟩ := Plan_evt l hll n
  obtain ⟨ok, x, y, f, hf, hfi⟩ := Feasible_evt l hll n
  have end_ : Evt (fun k => (tithelaw10_works.f k).bind fun t => some t) true := Evt.bind works_evt (Evt.pure fun _ => rfl)
  refine Evt.bind (items_evt l hl) (Evt.bind hp (Evt.bind (items_evt l hl) (Evt.bind hf ?_)))
  by_cases hv : vLL l = 0
  · rcases hpe with ⟨h, _, _⟩ | ⟨_, h, _⟩ | ⟨_, _, rfl, hg⟩
    · omega
    · exact absurd hv h
    rcases hfi with ⟨h, _⟩ | ⟨_, h, _⟩ | ⟨_, _, rfl, hok⟩
    · omega
    · exact absurd hv h
    have hI := It_fine hv
    refine Evt.ifp rfl (Evt.ifp rfl (Evt.succ ?_))
    simp only [tithelaw10_EdfStretch.j0]
    obtain ⟨o2, e2, ho2, hoe2⟩ := refMissed_evt l hll p
    have hlen := hg.1
    refine Evt.ifn (by simp) (Evt.bind ho2 ?_)
    rcases hoe2 with ⟨h | h, _, _⟩ | ⟨_, h, _⟩ | ⟨_, _, rfl, rfl⟩
    · omega
    · exact absurd h (greedy_not_bad hg)
    · exact absurd hv h
    refine Evt.ifp rfl (Evt.bind (some_evt _ (by simpa using hll)) ?_)
    have hn : ((n.toNat : Nat) : Int) = n := by omega
    have hnone := miss_none hv p
    have hpn : (p.length : Int) = n := by omega
    rcases hok with ⟨rfl, rfl, rfl, hd⟩ | ⟨rfl, a1, a2, a3, a4, _⟩
    · have hall : AllHad (It l) (rd p) n := by
        have := greedy_all hI hg (by rw [hn]; exact hd)
        rwa [hn] at this
      dsimp only
      rw [decide_eq_false (hnone.2 (by rw [hpn]; exact hall))]
      refine Evt.succ ?_
      simp only [tithelaw10_EdfStretch.j1]
      exact Evt.ifn (by simp) (Evt.ifp (by trivial) end_)
    · have hnot : ¬ AllHad (It l) (rd p) n := fun h => by
        have := all_dem hI h a2 a3; omega
      dsimp only
      rw [decide_eq_true (Classical.byContradiction fun h => hnot (by have := hnone.1 h; rwa [hpn] at this))]
      refine Evt.succ ?_
      simp only [tithelaw10_EdfStretch.j1]
      obtain ⟨v, g, hd, hdi⟩ := Demand_evt l hll x y
      refine Evt.ifn (by simp) (Evt.ifn (by simp) (Evt.bind (items_evt l hl) (Evt.bind hd ?_)))
      rcases hdi with ⟨h, _, _⟩ | ⟨_, h, _⟩ | ⟨_, _, rfl, rfl⟩
      · exact absurd ⟨⟨by omega, by omega⟩, ⟨by omega, by omega⟩⟩ h
      · exact absurd hv h
      · rw [w64 (n := y - x) (by omega) (by omega)]
        exact Evt.ifp rfl (Evt.ifp (by omega) (Evt.ifp (by omega) (Evt.ifp (by omega) end_)))
  · rcases hpe with ⟨h, _, _⟩ | ⟨_, _, rfl, rfl⟩ | ⟨_, h, _⟩
    · omega
    · rcases hfi with ⟨h, _⟩ | ⟨_, _, rfl, rfl, rfl, rfl⟩ | ⟨_, h, _⟩
      · omega
      · have hb : (opt (vLL l)).isNone = false := by rw [opt_pos hv]; rfl
        refine Evt.ifn (by simp [hb]) (Evt.succ ?_)
        simp only [tithelaw10_EdfStretch.j0]
        have hs : some ((opt (vLL l)).getD 0) = opt (vLL l) := by rw [opt_pos hv]; rfl
        rw [hs]
        exact Evt.ifp (by trivial) (Evt.call (num_opt _) (Evt.call (num_opt _) (Evt.ifp (by trivial) end_)))
      · exact absurd h hv
    · exact absurd h hv
end Go.Proofs.YthhaikkicabplaaR.Pure
