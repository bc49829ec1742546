/- The least supply of a reservation, and the wait for it (Shin and Lee): plain numbers. No conditions. -/
/-! The least supply of q in each p, in any t ticks (Shin and Lee): plain numbers. -/
namespace Tithe

/-- what u ticks behind the first gap bring -/
def fsup (q p u : Int) : Int := u / p * q + max 0 (u - u / p * p - (p - q))

/-- the least supply -/
def lst (q p t : Int) : Int := if t ≤ p - q then 0 else fsup q p (t - (p - q))

theorem div_mul_add {k p r : Int} (h0 : 0 ≤ r) (h1 : r < p) : (k * p + r) / p = k := by
  rw [Int.add_comm, Int.add_mul_ediv_right _ _ (by omega), Int.ediv_eq_zero_of_lt h0 h1]; omega

theorem fsup_eq {q p k r : Int} (h0 : 0 ≤ r) (h1 : r < p) : fsup q p (k * p + r) = k * q + max 0 (r - (p - q)) := by
  unfold fsup
  rw [div_mul_add h0 h1]
  have : k * p + r - k * p = r := by omega
  rw [this]

theorem split {p : Int} (u : Int) (hp : 0 < p) : ∃ k r : Int, u = k * p + r ∧ 0 ≤ r ∧ r < p :=
  ⟨u / p, u % p, by have := Int.mul_ediv_add_emod u p; rw [Int.mul_comm]; omega, Int.emod_nonneg _ (by omega), Int.emod_lt_of_pos _ hp⟩

theorem fsup_step {q p : Int} (u : Int) (hp : 0 < p) (hq : 0 ≤ q) (hqp : q ≤ p) :
    fsup q p u ≤ fsup q p (u + 1) ∧ fsup q p (u + 1) ≤ fsup q p u + 1 := by
  obtain ⟨k, r, rfl, h0, h1⟩ := split u hp
  by_cases h : r + 1 < p
  · have : k * p + r + 1 = k * p + (r + 1) := by omega
    rw [this, fsup_eq h0 h1, fsup_eq (by omega) h]; omega
  · have : k * p + r + 1 = (k + 1) * p + 0 := by rw [Int.add_mul]; omega
    rw [this, fsup_eq h0 h1, fsup_eq (by omega) hp, Int.add_mul]; omega

theorem fsup_zero {q p : Int} (hp : 0 < p) (hqp : q ≤ p) : fsup q p 0 = 0 := by
  have := fsup_eq (q := q) (p := p) (k := 0) (r := 0) (by omega) hp
  simp at this; rw [this]; omega

theorem lst_step {q p : Int} (t : Int) (hp : 0 < p) (hq : 0 ≤ q) (hqp : q ≤ p) :
    lst q p t ≤ lst q p (t + 1) ∧ lst q p (t + 1) ≤ lst q p t + 1 := by
  unfold lst
  by_cases h : t ≤ p - q
  · rw [if_pos h]
    by_cases h2 : t + 1 ≤ p - q
    · rw [if_pos h2]; omega
    · rw [if_neg h2]
      have : t + 1 - (p - q) = 0 + 1 := by omega
      rw [this]
      have := fsup_step (q := q) 0 hp hq hqp
      rw [fsup_zero hp hqp] at this; omega
  · rw [if_neg h, if_neg (by omega)]
    have : t + 1 - (p - q) = (t - (p - q)) + 1 := by omega
    rw [this]
    exact fsup_step _ hp hq hqp

theorem lst_mono_nat {q p : Int} (hp : 0 < p) (hq : 0 ≤ q) (hqp : q ≤ p) (t : Int) (d : Nat) : lst q p t ≤ lst q p (t + d) ∧ lst q p (t + d) ≤ lst q p t + d := by
  induction d with
  | zero => simp
  | succ d ih => have := lst_step (t + d) hp hq hqp; have e : t + ((d + 1 : Nat) : Int) = t + d + 1 := by omega
                 rw [e]; omega

theorem lst_mono {q p s t : Int} (hp : 0 < p) (hq : 0 ≤ q) (hqp : q ≤ p) (h : s ≤ t) : lst q p s ≤ lst q p t := by
  have := lst_mono_nat hp hq hqp s (t - s).toNat
  rw [show s + ((t - s).toNat : Int) = t by omega] at this; omega

theorem lst_lip {q p s t : Int} (hp : 0 < p) (hq : 0 ≤ q) (hqp : q ≤ p) (h : s ≤ t) : lst q p t ≤ lst q p s + (t - s) := by
  have := lst_mono_nat hp hq hqp s (t - s).toNat
  rw [show s + ((t - s).toNat : Int) = t by omega] at this; omega

theorem lst_nonneg {q p t : Int} (hp : 0 < p) (hq : 0 ≤ q) (hqp : q ≤ p) : 0 ≤ lst q p t := by
  by_cases h : t ≤ p - q
  · unfold lst; rw [if_pos h]; omega
  · have := lst_mono (q := q) (p := p) (s := 0) (t := t) hp hq hqp (by omega)
    have e : lst q p 0 = 0 := by unfold lst; rw [if_pos (by omega)]
    omega

theorem lst_le {q p t : Int} (hp : 0 < p) (hq : 0 ≤ q) (hqp : q ≤ p) (h : 0 ≤ t) : lst q p t ≤ t := by
  have := lst_lip (q := q) (p := p) (s := 0) (t := t) hp hq hqp h
  have e : lst q p 0 = 0 := by unfold lst; rw [if_pos (by omega)]
  omega

/-- the wait for n ticks -/
def wt (q p n : Int) : Int := if n = 0 then 0 else 2 * (p - q) + (n - 1) / q * p + n - (n - 1) / q * q

theorem wt_eq {q p k r : Int} (h0 : 0 ≤ r) (h1 : r < q) (hk : 0 ≤ k) : wt q p (k * q + r + 1) = 2 * (p - q) + k * p + r + 1 := by
  unfold wt
  have hkq : 0 ≤ k * q := Int.mul_nonneg hk (by omega)
  rw [if_neg (by omega), show k * q + r + 1 - 1 = k * q + r by omega, div_mul_add h0 h1]; omega

theorem lst_wt {q p n : Int} (hq : 1 ≤ q) (hqp : q ≤ p) (hn : 1 ≤ n) : lst q p (wt q p n) = n ∧ lst q p (wt q p n - 1) = n - 1 := by
  obtain ⟨k, r, e, h0, h1⟩ := split (n - 1) (p := q) (by omega)
  have hk : 0 ≤ k := by
    by_cases h : 0 ≤ k
    · exact h
    · have : k * q ≤ -1 * q := Int.mul_le_mul_of_nonneg_right (by omega) (by omega)
      omega
  have hkp : 0 ≤ k * p := Int.mul_nonneg hk (by omega)
  obtain rfl : n = k * q + r + 1 := by omega
  rw [wt_eq h0 h1 hk]
  constructor
  · unfold lst
    rw [if_neg (by omega)]
    by_cases h : p - q + r + 1 < p
    · rw [show 2 * (p - q) + k * p + r + 1 - (p - q) = k * p + (p - q + r + 1) by omega, fsup_eq (by omega) h]; omega
    · rw [show 2 * (p - q) + k * p + r + 1 - (p - q) = (k + 1) * p + 0 by rw [Int.add_mul]; omega, fsup_eq (by omega) (by omega), Int.add_mul]; omega
  · unfold lst
    by_cases h : 2 * (p - q) + k * p + r + 1 - 1 ≤ p - q
    · rw [if_pos h]
      have : k * p = 0 := by omega
      rcases Int.mul_eq_zero.1 this with rfl | h'
      · omega
      · omega
    · rw [if_neg h, show 2 * (p - q) + k * p + r + 1 - 1 - (p - q) = k * p + (p - q + r) by omega, fsup_eq (by omega) (by omega)]; omega

theorem wt_pos {q p n : Int} (hq : 1 ≤ q) (hqp : q ≤ p) (hn : 1 ≤ n) : n ≤ wt q p n := by
  have h := (lst_wt hq hqp hn).1
  by_cases h0 : 0 ≤ wt q p n
  · have := lst_le (q := q) (p := p) (by omega) (by omega) hqp h0; omega
  · have : lst q p (wt q p n) = 0 := by unfold lst; rw [if_pos (by omega)]
    omega

/-- enough comes just from the wait on -/
theorem lst_ge_iff {q p n t : Int} (hq : 1 ≤ q) (hqp : q ≤ p) (hn : 1 ≤ n) : n ≤ lst q p t ↔ wt q p n ≤ t := by
  have h := lst_wt (p := p) hq hqp hn
  constructor
  · intro h1
    by_cases h2 : wt q p n ≤ t
    · exact h2
    · have := lst_mono (q := q) (p := p) (s := t) (t := wt q p n - 1) (by omega) (by omega) hqp (by omega); omega
  · intro h1
    have := lst_mono (q := q) (p := p) (by omega) (by omega) hqp h1; omega

theorem wt_mono {q p m n : Int} (hq : 1 ≤ q) (hqp : q ≤ p) (hm : 0 ≤ m) (h : m ≤ n) : wt q p m ≤ wt q p n := by
  by_cases h0 : m = 0
  · subst h0
    by_cases h1 : n = 0
    · subst h1; exact Int.le_refl _
    · have := wt_pos (p := p) hq hqp (n := n) (by omega)
      have e : wt q p 0 = 0 := by unfold wt; rw [if_pos rfl]
      omega
  · rw [← lst_ge_iff hq hqp (by omega), (lst_wt hq hqp (by omega)).1]; exact h

/-- more budget brings no less -/
theorem lst_mono_q1 {q p : Int} (t : Int) (hq : 0 ≤ q) (hqp : q + 1 ≤ p) : lst q p t ≤ lst (q + 1) p t := by
  have hp : 0 < p := by omega
  by_cases h : t ≤ p - q
  · have := lst_nonneg (q := q + 1) (p := p) (t := t) hp (by omega) hqp
    have e : lst q p t = 0 := by unfold lst; rw [if_pos h]
    omega
  · unfold lst
    rw [if_neg h, if_neg (by omega), show t - (p - (q + 1)) = t - (p - q) + 1 by omega]
    generalize hu : t - (p - q) = u
    obtain ⟨k, r, e, h0, h1⟩ := split u hp
    have hk : 0 ≤ k := by
      by_cases hk : 0 ≤ k
      · exact hk
      · have : k * p ≤ -1 * p := Int.mul_le_mul_of_nonneg_right (by omega) (by omega)
        omega
    subst e
    rw [fsup_eq h0 h1]
    by_cases h2 : r + 1 < p
    · rw [show k * p + r + 1 = k * p + (r + 1) by omega, fsup_eq (by omega) h2, Int.mul_add]; omega
    · rw [show k * p + r + 1 = (k + 1) * p + 0 by rw [Int.add_mul]; omega, fsup_eq (by omega) hp, Int.add_mul, Int.mul_add]; omega

theorem lst_mono_q {q q' p t : Int} (hq : 0 ≤ q) (h : q ≤ q') (hqp : q' ≤ p) : lst q p t ≤ lst q' p t := by
  obtain ⟨d, rfl⟩ : ∃ d : Nat, q' = q + d := ⟨(q' - q).toNat, by omega⟩
  clear h
  induction d with
  | zero => simp
  | succ d ih =>
    have h1 := ih (by omega)
    have h2 := lst_mono_q1 (q := q + d) (p := p) t (by omega) (by omega)
    rw [show q + ((d + 1 : Nat) : Int) = q + d + 1 by omega]; omega
end Tithe

namespace Tithe
/-- a stretch over rows of periods with q in each: never less than the least supply. (m periods and r: so far a; m + d periods and r': b.) -/
theorem window {q p m d r r' a b t : Int} (hq : 0 ≤ q) (hqp : q ≤ p) (h0 : 0 ≤ r) (h1 : r < p) (h0' : 0 ≤ r') (h1' : r' < p)
    (ha : a ≤ m * q + q) (ha' : a ≤ m * q + r) (hb : (m + d) * q ≤ b) (hb' : (m + d) * q + r' ≤ b + (p - q)) (hab : a ≤ b)
    (ht : t = (m + d) * p + r' - (m * p + r)) : lst q p t ≤ b - a := by
  rw [Int.add_mul] at hb hb' ht
  unfold lst
  by_cases h : t ≤ p - q
  · rw [if_pos h]; omega
  · rw [if_neg h]
    by_cases c : 0 ≤ r' - r - p + q
    · rw [show t - (p - q) = d * p + (r' - r - p + q) by omega, fsup_eq c (by omega)]; omega
    · by_cases c2 : -p ≤ r' - r - p + q
      · rw [show t - (p - q) = (d - 1) * p + (r' - r - p + q + p) by rw [Int.sub_mul]; omega, fsup_eq (by omega) (by omega), Int.sub_mul]; omega
      · rw [show t - (p - q) = (d - 2) * p + (r' - r - p + q + 2 * p) by rw [Int.sub_mul]; omega, fsup_eq (by omega) (by omega), Int.sub_mul]; omega
end Tithe
