/- Earliest deadline first: plain numbers. No conditions. -/
/-! Earliest deadline first on one processor, items that begin at any time: plain numbers. -/
namespace Tithe

/-- how often i has a tick of n on end from a on -/
def cnt (pl : Int → Int) (i a : Int) : Nat → Int
  | 0 => 0
  | n + 1 => cnt pl i a n + (if pl (a + n) = i then 1 else 0)

/-- the same, from a to b -/
def cn (pl : Int → Int) (i a b : Int) : Int := cnt pl i a (b - a).toNat

theorem cnt_nonneg (pl : Int → Int) (i a : Int) (n : Nat) : 0 ≤ cnt pl i a n := by
  induction n with
  | zero => simp [cnt]
  | succ n ih => simp only [cnt]; split <;> omega

theorem cnt_add (pl : Int → Int) (i a : Int) (n m : Nat) : cnt pl i a (n + m) = cnt pl i a n + cnt pl i (a + n) m := by
  induction m with
  | zero => simp [cnt]
  | succ m ih =>
    rw [← Nat.add_assoc]; simp only [cnt]; rw [ih, show a + ((n + m : Nat) : Int) = a + n + m by omega]; omega

theorem cn_self (pl : Int → Int) (i a : Int) : cn pl i a a = 0 := by simp [cn, cnt]

theorem cn_nonneg (pl : Int → Int) (i a b : Int) : 0 ≤ cn pl i a b := cnt_nonneg _ _ _ _

theorem cn_add (pl : Int → Int) (i : Int) {a b c : Int} (h1 : a ≤ b) (h2 : b ≤ c) : cn pl i a c = cn pl i a b + cn pl i b c := by
  unfold cn
  rw [show (c - a).toNat = (b - a).toNat + (c - b).toNat by omega, cnt_add, show a + ((b - a).toNat : Int) = b by omega]

theorem cn_succ (pl : Int → Int) (i : Int) {a b : Int} (h : a ≤ b) : cn pl i a (b + 1) = cn pl i a b + (if pl b = i then 1 else 0) := by
  unfold cn
  rw [show (b + 1 - a).toNat = (b - a).toNat + 1 by omega]; simp only [cnt]
  rw [show a + ((b - a).toNat : Int) = b by omega]

theorem cn_mono (pl : Int → Int) (i : Int) {a b c : Int} (h1 : a ≤ b) (h2 : b ≤ c) : cn pl i a b ≤ cn pl i a c := by
  have := cn_add pl i h1 h2; have := cn_nonneg pl i b c; omega

theorem cn_zero {pl : Int → Int} {i a b : Int} (h : ∀ t, a ≤ t → t < b → pl t ≠ i) : cn pl i a b = 0 := by
  unfold cn
  have : ∀ n : Nat, (n : Int) ≤ (b - a).toNat → cnt pl i a n = 0 := by
    intro n
    induction n with
    | zero => intro _; rfl
    | succ n ih =>
      intro hn
      simp only [cnt]; rw [ih (by omega), if_neg (h _ (by omega) (by omega))]; rfl
  exact this _ (Int.le_refl _)

/-- the sum of f 0 .. f (m-1) -/
def sm (f : Nat → Int) : Nat → Int
  | 0 => 0
  | m + 1 => sm f m + f m

theorem sm_le {f g : Nat → Int} {m : Nat} (h : ∀ j, j < m → f j ≤ g j) : sm f m ≤ sm g m := by
  induction m with
  | zero => simp [sm]
  | succ m ih => simp only [sm]; have := ih (fun j hj => h j (by omega)); have := h m (by omega); omega

theorem sm_lt {f g : Nat → Int} {m : Nat} (h : ∀ j, j < m → f j ≤ g j) {i : Nat} (hi : i < m) (hlt : f i < g i) : sm f m < sm g m := by
  induction m with
  | zero => omega
  | succ m ih =>
    simp only [sm]
    by_cases e : i = m
    · subst e; have := sm_le (f := f) (g := g) (m := i) (fun j hj => h j (by omega)); omega
    · have := ih (fun j hj => h j (by omega)) (by omega); have := h m (by omega); omega

theorem sm_add (f g : Nat → Int) (m : Nat) : sm (fun j => f j + g j) m = sm f m + sm g m := by
  induction m with
  | zero => simp [sm]
  | succ m ih => simp only [sm]; rw [ih]; omega

theorem sm_zero (m : Nat) : sm (fun _ => 0) m = 0 := by
  induction m with
  | zero => rfl
  | succ m ih => simp only [sm]; rw [ih]; rfl

theorem sm_congr {f g : Nat → Int} {m : Nat} (h : ∀ j, j < m → f j = g j) : sm f m = sm g m := by
  induction m with
  | zero => rfl
  | succ m ih => simp only [sm]; rw [ih (fun j hj => h j (by omega)), h m (by omega)]

theorem sm_mul (c : Int) (f : Nat → Int) (m : Nat) : sm (fun j => c * f j) m = c * sm f m := by
  induction m with
  | zero => simp [sm]
  | succ m ih => simp only [sm]; rw [ih, Int.mul_add]

/-- one of m is met at most once -/
theorem sm_one (x : Int) (m : Nat) : sm (fun j => if x = (j : Int) then 1 else 0) m = if 0 ≤ x ∧ x < m then 1 else 0 := by
  induction m with
  | zero => simp only [sm]; rw [if_neg (by omega)]
  | succ m ih => simp only [sm]; rw [ih]; split <;> split <;> split <;> omega

theorem sm_cnt (pl : Int → Int) (m : Nat) (a : Int) (n : Nat) :
    sm (fun j => cnt pl j a n) m ≤ n ∧ ((∀ k : Nat, k < n → 0 ≤ pl (a + k) ∧ pl (a + k) < m) → sm (fun j => cnt pl j a n) m = n) := by
  induction n with
  | zero => simp only [cnt]; rw [sm_zero]; simp
  | succ n ih =>
    simp only [cnt]
    rw [sm_add (fun j => cnt pl j a n), sm_one]
    obtain ⟨h1, h2⟩ := ih
    constructor
    · split <;> omega
    · intro h
      rw [h2 (fun k hk => h k (by omega)), if_pos (h n (by omega))]; omega

theorem sm_cn_le (pl : Int → Int) (m : Nat) {a b : Int} (h : a ≤ b) : sm (fun j => cn pl j a b) m ≤ b - a := by
  have := (sm_cnt pl m a (b - a).toNat).1
  unfold cn; omega

theorem sm_cn_eq (pl : Int → Int) (m : Nat) {a b : Int} (h : a ≤ b) (hb : ∀ t, a ≤ t → t < b → 0 ≤ pl t ∧ pl t < m) : sm (fun j => cn pl j a b) m = b - a := by
  have := (sm_cnt pl m a (b - a).toNat).2 (fun k hk => hb _ (by omega) (by omega))
  unfold cn; omega

/-! ### periods -/

theorem dsplit {p : Int} (u : Int) (hp : 0 < p) : ∃ k r : Int, u = k * p + r ∧ 0 ≤ r ∧ r < p :=
  ⟨u / p, u % p, by have := Int.mul_ediv_add_emod u p; rw [Int.mul_comm]; omega, Int.emod_nonneg _ (by omega), Int.emod_lt_of_pos _ hp⟩

/-- where the period at a time began -/
def bg (s p t : Int) : Int := t - (t - s) % p

theorem bg_le {s p t : Int} (hp : 0 < p) : bg s p t ≤ t := by unfold bg; have := Int.emod_nonneg (t - s) (b := p) (by omega); omega
theorem lt_bg {s p t : Int} (hp : 0 < p) : t < bg s p t + p := by unfold bg; have := Int.emod_lt_of_pos (t - s) hp; omega

theorem bg_form (s p t : Int) : bg s p t = s + (t - s) / p * p := by
  unfold bg; have := Int.mul_ediv_add_emod (t - s) p; rw [Int.mul_comm] at this; omega

theorem ge_of_mul {k p : Int} (hp : 0 < p) (h : 0 ≤ k * p + (p - 1)) : 0 ≤ k := by
  by_cases hk : 0 ≤ k
  · exact hk
  · have : k * p ≤ -1 * p := Int.mul_le_mul_of_nonneg_right (by omega) (by omega)
    omega

theorem mul_cancel {a b p : Int} (hp : 0 < p) (h : a * p ≤ b * p + (p - 1)) : a ≤ b := by
  have := ge_of_mul (k := b - a) hp (by rw [Int.sub_mul]; omega); omega

theorem bg_eq {s p t k : Int} (hp : 0 < p) (h1 : s + k * p ≤ t) (h2 : t < s + k * p + p) : bg s p t = s + k * p := by
  have e := bg_form s p t
  have a := bg_le (s := s) (t := t) hp
  have b := lt_bg (s := s) (t := t) hp
  rw [e] at a b
  have : (t - s) / p ≤ k := mul_cancel hp (by omega)
  have : k ≤ (t - s) / p := mul_cancel hp (by omega)
  rw [e, show (t - s) / p = k by omega]

/-- the first period that begins not ahead of a time, the end of the last that ends not behind one -/
def fst (s p a : Int) : Int := (max (a - s) 0 + p - 1) / p
def lastp (s p b : Int) : Int := max (b - s) 0 / p
/-- how many periods lie in a stretch -/
def wi (s p a b : Int) : Int := max (lastp s p b - fst s p a) 0

theorem fst_spec {s p a : Int} (hp : 0 < p) : 0 ≤ fst s p a ∧ a ≤ s + fst s p a * p ∧ ∀ k, 0 ≤ k → a ≤ s + k * p → fst s p a ≤ k := by
  unfold fst
  generalize hx : max (a - s) 0 = x
  have hx0 : 0 ≤ x := by omega
  have h1 := Int.mul_ediv_add_emod (x + p - 1) p
  have h2 := Int.emod_nonneg (x + p - 1) (b := p) (by omega)
  have h3 := Int.emod_lt_of_pos (x + p - 1) hp
  rw [Int.mul_comm] at h1
  have h0 : 0 ≤ (x + p - 1) / p := Int.ediv_nonneg (by omega) (by omega)
  refine ⟨h0, by omega, fun k hk h => ?_⟩
  have : 0 ≤ k * p := Int.mul_nonneg hk (by omega)
  exact mul_cancel hp (by omega)

theorem lastp_spec {s p b : Int} (hp : 0 < p) : 0 ≤ lastp s p b ∧ (1 ≤ lastp s p b → s + lastp s p b * p ≤ b) ∧ ∀ k, s + k * p ≤ b → k ≤ lastp s p b := by
  unfold lastp
  generalize hx : max (b - s) 0 = x
  have hx0 : 0 ≤ x := by omega
  have h1 := Int.mul_ediv_add_emod x p
  have h2 := Int.emod_nonneg x (b := p) (by omega)
  have h3 := Int.emod_lt_of_pos x hp
  rw [Int.mul_comm] at h1
  have h0 : 0 ≤ x / p := Int.ediv_nonneg (by omega) (by omega)
  refine ⟨h0, fun h => ?_, fun k h => mul_cancel hp (by omega)⟩
  have : 1 * p ≤ x / p * p := Int.mul_le_mul_of_nonneg_right h (by omega)
  omega

theorem lastp_at {s p k : Int} (hp : 0 < p) (hk : 0 ≤ k) : lastp s p (s + k * p) = k := by
  obtain ⟨l0, l1, l2⟩ := lastp_spec (s := s) (b := s + k * p) hp
  have := l2 k (Int.le_refl _)
  by_cases h : 1 ≤ lastp s p (s + k * p)
  · have := l1 h
    have := mul_cancel (a := lastp s p (s + k * p)) (b := k) hp (by omega)
    omega
  · omega

/-- a row of whole periods: none has more than q, none less -/
theorem cn_periods_le {pl : Int → Int} {i s p q : Int} (hp : 0 < p) (K : Int) (n : Nat) (h : ∀ k, K ≤ k → k < K + n → cn pl i (s + k * p) (s + k * p + p) ≤ q) :
    cn pl i (s + K * p) (s + (K + n) * p) ≤ n * q := by
  induction n with
  | zero => simp [cn_self]
  | succ n ih =>
    have h1 := ih (fun k a b => h k a (by omega))
    have h2 := h (K + n) (by omega) (by omega)
    have e : s + (K + ((n + 1 : Nat) : Int)) * p = s + (K + n) * p + p := by rw [show K + ((n + 1 : Nat) : Int) = K + n + 1 by omega, Int.add_mul (K + n)]; omega
    have : 0 ≤ (n : Int) * p := Int.mul_nonneg (by omega) (by omega)
    rw [e, cn_add pl i (b := s + (K + n) * p) (by rw [Int.add_mul]; omega) (by omega), show (((n + 1 : Nat) : Int)) * q = n * q + q by rw [show ((n + 1 : Nat) : Int) = n + 1 by omega, Int.add_mul]; omega]
    omega

theorem cn_periods_ge {pl : Int → Int} {i s p q : Int} (hp : 0 < p) (K : Int) (n : Nat) (h : ∀ k, K ≤ k → k < K + n → q ≤ cn pl i (s + k * p) (s + k * p + p)) :
    n * q ≤ cn pl i (s + K * p) (s + (K + n) * p) := by
  induction n with
  | zero => simp [cn_self]
  | succ n ih =>
    have h1 := ih (fun k a b => h k a (by omega))
    have h2 := h (K + n) (by omega) (by omega)
    have e : s + (K + ((n + 1 : Nat) : Int)) * p = s + (K + n) * p + p := by rw [show K + ((n + 1 : Nat) : Int) = K + n + 1 by omega, Int.add_mul (K + n)]; omega
    have : 0 ≤ (n : Int) * p := Int.mul_nonneg (by omega) (by omega)
    rw [e, cn_add pl i (b := s + (K + n) * p) (by rw [Int.add_mul]; omega) (by omega), show (((n + 1 : Nat) : Int)) * q = n * q + q by rw [show ((n + 1 : Nat) : Int) = n + 1 by omega, Int.add_mul]; omega]
    omega

/-- where each tick of i in a stretch is one of a period that lies in it, and no period has more than q -/
theorem cn_le_wi {pl : Int → Int} {i s p q a b : Int} (hp : 0 < p)
    (hin : ∀ t, a ≤ t → t < b → pl t = i → s ≤ t ∧ a ≤ bg s p t ∧ bg s p t + p ≤ b)
    (hle : ∀ k, 0 ≤ k → s + k * p + p ≤ b → cn pl i (s + k * p) (s + k * p + p) ≤ q) : cn pl i a b ≤ q * wi s p a b := by
  obtain ⟨f0, f1, f2⟩ := fst_spec (s := s) (a := a) hp
  obtain ⟨l0, l1, l2⟩ := lastp_spec (s := s) (b := b) hp
  have key : ∀ t, a ≤ t → t < b → pl t = i → s + fst s p a * p ≤ t ∧ t < s + lastp s p b * p := by
    intro t h1 h2 h3
    obtain ⟨g0, g1, g2⟩ := hin t h1 h2 h3
    have e := bg_form s p t
    have hk : 0 ≤ (t - s) / p := Int.ediv_nonneg (by omega) (by omega)
    have k1 := f2 ((t - s) / p) hk (by omega)
    have k2 := l2 ((t - s) / p + 1) (by rw [Int.add_mul]; omega)
    have m1 : fst s p a * p ≤ (t - s) / p * p := Int.mul_le_mul_of_nonneg_right k1 (by omega)
    have m2 : ((t - s) / p + 1) * p ≤ lastp s p b * p := Int.mul_le_mul_of_nonneg_right k2 (by omega)
    rw [Int.add_mul] at m2
    have := bg_le (s := s) (t := t) hp
    have := lt_bg (s := s) (t := t) hp
    omega
  by_cases h : lastp s p b ≤ fst s p a
  · have m : lastp s p b * p ≤ fst s p a * p := Int.mul_le_mul_of_nonneg_right h (by omega)
    rw [cn_zero (fun t h1 h2 h3 => by have := key t h1 h2 h3; omega)]
    unfold wi; rw [show max (lastp s p b - fst s p a) 0 = 0 by omega]; omega
  · have l1 := l1 (by omega)
    have m : fst s p a * p ≤ lastp s p b * p := Int.mul_le_mul_of_nonneg_right (by omega) (by omega)
    rw [cn_add pl i (a := a) (b := s + fst s p a * p) (c := b) f1 (by omega), cn_add pl i (a := s + fst s p a * p) (b := s + lastp s p b * p) (c := b) (by omega) l1,
      cn_zero (a := a) (fun t h1 h2 h3 => by have := key t h1 (by omega) h3; omega), cn_zero (a := s + lastp s p b * p) (fun t h1 h2 h3 => by have := key t (by omega) h2 h3; omega)]
    have := cn_periods_le (pl := pl) (i := i) (s := s) (q := q) hp (fst s p a) (lastp s p b - fst s p a).toNat (fun k h1 h2 => hle k (by omega) (by
      have : (k + 1) * p ≤ lastp s p b * p := Int.mul_le_mul_of_nonneg_right (by omega) (by omega)
      rw [Int.add_mul] at this; omega))
    rw [show fst s p a + ((lastp s p b - fst s p a).toNat : Int) = lastp s p b by omega, show ((lastp s p b - fst s p a).toNat : Int) = wi s p a b by unfold wi; omega, Int.mul_comm (wi s p a b)] at this
    omega

/-- where each period in a stretch has q at least -/
theorem wi_le_cn {pl : Int → Int} {i s p q a b : Int} (hp : 0 < p)
    (hge : ∀ k, 0 ≤ k → a ≤ s + k * p → s + k * p + p ≤ b → q ≤ cn pl i (s + k * p) (s + k * p + p)) : q * wi s p a b ≤ cn pl i a b := by
  obtain ⟨f0, f1, f2⟩ := fst_spec (s := s) (a := a) hp
  obtain ⟨l0, l1, l2⟩ := lastp_spec (s := s) (b := b) hp
  by_cases h : lastp s p b ≤ fst s p a
  · unfold wi; rw [show max (lastp s p b - fst s p a) 0 = 0 by omega]; have := cn_nonneg pl i a b; omega
  · have l1 := l1 (by omega)
    have m : fst s p a * p ≤ lastp s p b * p := Int.mul_le_mul_of_nonneg_right (by omega) (by omega)
    rw [cn_add pl i (a := a) (b := s + fst s p a * p) (c := b) f1 (by omega), cn_add pl i (a := s + fst s p a * p) (b := s + lastp s p b * p) (c := b) (by omega) l1]
    have := cn_periods_ge (pl := pl) (i := i) (s := s) (q := q) hp (fst s p a) (lastp s p b - fst s p a).toNat (fun k h1 h2 => hge k (by omega) (by
      have : fst s p a * p ≤ k * p := Int.mul_le_mul_of_nonneg_right h1 (by omega)
      omega) (by
      have : (k + 1) * p ≤ lastp s p b * p := Int.mul_le_mul_of_nonneg_right (by omega) (by omega)
      rw [Int.add_mul] at this; omega))
    rw [show fst s p a + ((lastp s p b - fst s p a).toNat : Int) = lastp s p b by omega, show ((lastp s p b - fst s p a).toNat : Int) = wi s p a b by unfold wi; omega, Int.mul_comm (wi s p a b)] at this
    have := cn_nonneg pl i a (s + fst s p a * p); have := cn_nonneg pl i (s + lastp s p b * p) b
    omega

/-! ### the rule -/

/-- m items: budgets, periods, begins -/
structure Items where
  m : Nat
  q : Nat → Int
  p : Nat → Int
  s : Nat → Int

namespace Items
variable (I : Items)

def Ok : Prop := ∀ j, j < I.m → 1 ≤ I.q j ∧ I.q j ≤ I.p j ∧ 0 ≤ I.s j

/-- what must be given in a stretch -/
def dem (a b : Int) : Int := sm (fun j => I.q j * wi (I.s j) (I.p j) a b) I.m

/-- what j has had of its period at a time -/
def had (pl : Int → Int) (j : Nat) (t : Int) : Int := cn pl j (bg (I.s j) (I.p j) t) t
/-- the end of that period -/
def en (j : Nat) (t : Int) : Int := bg (I.s j) (I.p j) t + I.p j
/-- j could have the tick t -/
def El (pl : Int → Int) (j : Nat) (t : Int) : Prop := I.s j ≤ t ∧ I.had pl j t < I.q j

/-- the tick t goes to one that could have it, whose period ends first -/
def Rule (pl : Int → Int) (t : Int) : Prop :=
  (pl t = -1 ∧ ∀ j, j < I.m → ¬ I.El pl j t) ∨ ∃ j, j < I.m ∧ pl t = (j : Int) ∧ I.El pl j t ∧ ∀ k, k < I.m → I.El pl k t → I.en j t ≤ I.en k t

variable {I}

theorem rule_cases {pl : Int → Int} {t : Int} (h : I.Rule pl t) : pl t = -1 ∨ (0 ≤ pl t ∧ pl t < I.m) := by
  rcases h with ⟨h, _⟩ | ⟨j, h1, h2, _⟩
  · exact .inl h
  · exact .inr (by omega)

/-- whoever has a tick could have it -/
theorem rule_el {pl : Int → Int} {t : Int} (h : I.Rule pl t) {j : Nat} (hj : pl t = (j : Int)) : j < I.m ∧ I.El pl j t ∧ ∀ k, k < I.m → I.El pl k t → I.en j t ≤ I.en k t := by
  rcases h with ⟨h, _⟩ | ⟨i, h1, h2, h3, h4⟩
  · omega
  · obtain rfl : i = j := by omega
    exact ⟨h1, h3, h4⟩

/-- no period ever has more than its budget -/
theorem period_le (ok : I.Ok) {pl : Int → Int} {N : Int} (hr : ∀ t, 0 ≤ t → t < N → I.Rule pl t) {j : Nat} (hj : j < I.m) {k : Int} (hk : 0 ≤ k) (n : Nat) :
    (n : Int) ≤ I.p j → I.s j + k * I.p j + n ≤ N → cn pl j (I.s j + k * I.p j) (I.s j + k * I.p j + n) ≤ I.q j := by
  obtain ⟨o1, o2, o3⟩ := ok j hj
  have hkp : 0 ≤ k * I.p j := Int.mul_nonneg hk (by omega)
  induction n with
  | zero => intro _ _; simp [cn_self]; omega
  | succ n ih =>
    intro h1 h2
    have ih := ih (by omega) (by omega)
    rw [show I.s j + k * I.p j + ((n + 1 : Nat) : Int) = I.s j + k * I.p j + n + 1 by omega, cn_succ _ _ (by omega)]
    by_cases e : pl (I.s j + k * I.p j + n) = (j : Int)
    · rw [if_pos e]
      have := (rule_el (hr _ (by omega) (by omega)) e).2.1.2
      unfold had at this
      rw [bg_eq (by omega) (by omega : I.s j + k * I.p j ≤ _) (by omega)] at this
      omega
    · rw [if_neg e]; omega

theorem period_le' (ok : I.Ok) {pl : Int → Int} {N : Int} (hr : ∀ t, 0 ≤ t → t < N → I.Rule pl t) {j : Nat} (hj : j < I.m) {k : Int} (hk : 0 ≤ k) (h : I.s j + k * I.p j + I.p j ≤ N) :
    cn pl j (I.s j + k * I.p j) (I.s j + k * I.p j + I.p j) ≤ I.q j := by
  obtain ⟨o1, o2, o3⟩ := ok j hj
  have := period_le ok hr hj hk (I.p j).toNat (by omega) (by omega)
  rwa [show ((I.p j).toNat : Int) = I.p j by omega] at this

/-- the last stretch up to d in which all ticks are good -/
theorem last_stretch (P : Int → Prop) (d : Nat) : ∃ a : Int, 0 ≤ a ∧ a ≤ d ∧ (∀ t, a ≤ t → t < d → P t) ∧ (0 < a → ¬ P (a - 1)) := by
  induction d with
  | zero => exact ⟨0, by omega, by omega, fun t _ _ => by omega, fun h => by omega⟩
  | succ d ih =>
    by_cases h : P (d : Int)
    · obtain ⟨a, h0, h1, h2, h3⟩ := ih
      refine ⟨a, h0, by omega, fun t h4 h5 => ?_, h3⟩
      by_cases e : t = d
      · subst e; exact h
      · exact h2 t h4 (by omega)
    · exact ⟨d + 1, by omega, by omega, fun t _ _ => by omega, fun _ => by rwa [show (d : Int) + 1 - 1 = d by omega]⟩

/-- **A period that has too little: some stretch asks for more than it has.** -/
theorem missed (ok : I.Ok) {pl : Int → Int} {N : Int} (hr : ∀ t, 0 ≤ t → t < N → I.Rule pl t) {i : Nat} (hi : i < I.m) {k : Int} (hk : 0 ≤ k)
    (hN : I.s i + k * I.p i + I.p i ≤ N) (hm : cn pl i (I.s i + k * I.p i) (I.s i + k * I.p i + I.p i) < I.q i) :
    ∃ a b : Int, 0 ≤ a ∧ a ≤ b ∧ b ≤ N ∧ b - a < I.dem a b := by
  obtain ⟨o1, o2, o3⟩ := ok i hi
  have hkp : 0 ≤ k * I.p i := Int.mul_nonneg hk (by omega)
  generalize hd : I.s i + k * I.p i + I.p i = d at *
  have hd0 : 0 ≤ d := by omega
  obtain ⟨a, a0, a1, a2, a3⟩ := last_stretch (fun t => ∃ j, j < I.m ∧ pl t = (j : Int) ∧ I.en j t ≤ d) d.toNat
  rw [show (d.toNat : Int) = d by omega] at a1 a2
  -- at the tick ahead of a nobody whose period ends by d could have it
  have hb : 0 < a → ∀ j, j < I.m → I.El pl j (a - 1) → d < I.en j (a - 1) := by
    intro h0 j hj hel
    have hno := a3 h0
    rcases hr (a - 1) (by omega) (by omega) with ⟨h, h'⟩ | ⟨j', h1, h2, h3, h4⟩
    · exact absurd hel (h' j hj)
    · have := h4 j hj hel
      have : ¬ I.en j' (a - 1) ≤ d := fun hle => hno ⟨j', h1, h2, hle⟩
      omega
  -- so every period that is served behind a began there
  have hin : ∀ j, j < I.m → ∀ t, a ≤ t → t < d → pl t = (j : Int) → I.s j ≤ t ∧ a ≤ bg (I.s j) (I.p j) t ∧ bg (I.s j) (I.p j) t + I.p j ≤ d := by
    intro j hj t h1 h2 h3
    obtain ⟨p1, p2, p3⟩ := ok j hj
    obtain ⟨_, hel, _⟩ := rule_el (hr t (by omega) (by omega)) h3
    obtain ⟨j', q1, q2, q3⟩ := a2 t h1 h2
    obtain rfl : j' = j := by omega
    refine ⟨hel.1, ?_, q3⟩
    by_cases hlt : a ≤ bg (I.s j') (I.p j') t
    · exact hlt
    · exfalso
      have e := bg_form (I.s j') (I.p j') t
      have hk' : 0 ≤ (t - I.s j') / I.p j' := Int.ediv_nonneg (by have := hel.1; omega) (by omega)
      have hkp' : 0 ≤ (t - I.s j') / I.p j' * I.p j' := Int.mul_nonneg hk' (by omega)
      have hlb := lt_bg (s := I.s j') (t := t) (p := I.p j') (by omega)
      have e2 : bg (I.s j') (I.p j') (a - 1) = bg (I.s j') (I.p j') t := by
        rw [e]; exact bg_eq (by omega) (by omega) (by omega)
      have hel' : I.El pl j' (a - 1) := by
        refine ⟨by omega, ?_⟩
        have hh := hel.2
        unfold had at hh ⊢
        rw [e2]
        have := cn_mono pl j' (a := bg (I.s j') (I.p j') t) (b := a - 1) (c := t) (by omega) (by omega)
        omega
      have := hb (by omega) j' hj hel'
      unfold en at this q3
      rw [e2] at this; omega
  -- the missed period began there too
  have hbeg : a ≤ I.s i + k * I.p i := by
    by_cases hlt : a ≤ I.s i + k * I.p i
    · exact hlt
    · exfalso
      have e2 : bg (I.s i) (I.p i) (a - 1) = I.s i + k * I.p i := bg_eq (by omega) (by omega) (by omega)
      have hel' : I.El pl i (a - 1) := by
        refine ⟨by omega, ?_⟩
        unfold had; rw [e2]
        have := cn_mono pl i (a := I.s i + k * I.p i) (b := a - 1) (c := d) (by omega) (by omega)
        omega
      have := hb (by omega) i hi hel'
      unfold en at this; rw [e2] at this; omega
  refine ⟨a, d, a0, a1, hN, ?_⟩
  have htot := sm_cn_eq pl I.m (a := a) (b := d) a1 (fun t h1 h2 => by obtain ⟨j, h3, h4, _⟩ := a2 t h1 h2; omega)
  rw [← htot]
  unfold dem
  refine sm_lt (i := i) (fun j hj => ?_) hi ?_
  · obtain ⟨p1, p2, p3⟩ := ok j hj
    exact cn_le_wi (by omega) (hin j hj) (fun k hk h => period_le' ok hr hj hk (by omega))
  · have hb' : I.s i + k * I.p i = d - I.p i := by omega
    have h1 : cn pl i a (d - I.p i) ≤ I.q i * wi (I.s i) (I.p i) a (d - I.p i) := by
      refine cn_le_wi (by omega) (fun t h1 h2 h3 => ?_) (fun k' hk' h => period_le' ok hr hi hk' (by omega))
      obtain ⟨g1, g2, g3⟩ := hin i hi t h1 (by omega) h3
      refine ⟨g1, g2, ?_⟩
      have e := bg_form (I.s i) (I.p i) t
      have := bg_le (s := I.s i) (t := t) (p := I.p i) (by omega)
      have : (t - I.s i) / I.p i + 1 ≤ k := mul_cancel (p := I.p i) (by omega) (by rw [Int.add_mul]; omega)
      have := Int.mul_le_mul_of_nonneg_right (c := I.p i) this (by omega)
      rw [Int.add_mul] at this; omega
    have h2 := cn_add pl i (a := a) (b := d - I.p i) (c := d) (by omega) (by omega)
    rw [← hb'] at h1 h2
    have h3 : wi (I.s i) (I.p i) a d = wi (I.s i) (I.p i) a (I.s i + k * I.p i) + 1 := by
      have f2 := (fst_spec (s := I.s i) (a := a) (p := I.p i) (by omega)).2.2 k hk hbeg
      have e1 : lastp (I.s i) (I.p i) (I.s i + k * I.p i) = k := lastp_at (by omega) hk
      have e2 : lastp (I.s i) (I.p i) d = k + 1 := by rw [show d = I.s i + (k + 1) * I.p i by rw [Int.add_mul]; omega]; exact lastp_at (by omega) (by omega)
      unfold wi; rw [e1, e2]; omega
    show cn pl i a d < I.q i * wi (I.s i) (I.p i) a d
    rw [h3, Int.mul_add]; omega

/-- a stretch that asks for more than it has: in any plan some period has too little -/
theorem too_much {I : Items} (ok : I.Ok) (pl : Int → Int) {N a b : Int} (hab : a ≤ b) (hb : b ≤ N) (hd : b - a < I.dem a b)
    (hall : ∀ j, j < I.m → ∀ k, 0 ≤ k → I.s j + k * I.p j + I.p j ≤ N → I.q j ≤ cn pl j (I.s j + k * I.p j) (I.s j + k * I.p j + I.p j)) : False := by
  have h1 := sm_cn_le pl I.m hab
  have h2 : I.dem a b ≤ sm (fun j => cn pl j a b) I.m := sm_le fun j hj => by
    obtain ⟨p1, p2, p3⟩ := ok j hj
    exact wi_le_cn (by omega) fun k hk _ h => hall j hj k hk (by omega)
  omega

/-- periods times their number are at most the stretch -/
theorem wi_mul {s p a b : Int} (hp : 0 < p) (hab : a ≤ b) : wi s p a b * p ≤ b - a := by
  obtain ⟨f0, f1, f2⟩ := fst_spec (s := s) (a := a) hp
  obtain ⟨l0, l1, l2⟩ := lastp_spec (s := s) (b := b) hp
  unfold wi
  by_cases h : lastp s p b ≤ fst s p a
  · rw [show max (lastp s p b - fst s p a) 0 = 0 by omega]; omega
  · rw [show max (lastp s p b - fst s p a) 0 = lastp s p b - fst s p a by omega, Int.sub_mul]
    have := l1 (by omega); omega

/-- **Liu and Layland**: shares that are together at most the whole: no stretch asks for too much -/
theorem shares {I : Items} (ok : I.Ok) {U : Int} (hU : 0 < U) (sh : Nat → Int) (hs : ∀ j, j < I.m → I.q j * U ≤ sh j * I.p j) (hsum : sm sh I.m ≤ U) {a b : Int} (hab : a ≤ b) :
    I.dem a b ≤ b - a := by
  have h1 : U * I.dem a b ≤ (b - a) * sm sh I.m := by
    unfold dem
    rw [← sm_mul, ← sm_mul]
    refine sm_le fun j hj => ?_
    obtain ⟨p1, p2, p3⟩ := ok j hj
    have w0 : 0 ≤ wi (I.s j) (I.p j) a b := by unfold wi; omega
    have w1 := wi_mul (s := I.s j) (p := I.p j) (by omega) hab
    have s0 : 0 ≤ sh j := by
      by_cases h : 0 ≤ sh j
      · exact h
      · have : sh j * I.p j ≤ -1 * I.p j := Int.mul_le_mul_of_nonneg_right (by omega) (by omega)
        have : 0 ≤ I.q j * U := Int.mul_nonneg (by omega) (by omega)
        have := hs j hj; omega
    have e1 := Int.mul_le_mul_of_nonneg_right (hs j hj) w0
    have e2 := Int.mul_le_mul_of_nonneg_left w1 s0
    have r1 : U * (I.q j * wi (I.s j) (I.p j) a b) = I.q j * U * wi (I.s j) (I.p j) a b := by rw [← Int.mul_assoc, Int.mul_comm U]
    have r2 : sh j * I.p j * wi (I.s j) (I.p j) a b = sh j * (wi (I.s j) (I.p j) a b * I.p j) := by rw [Int.mul_assoc, Int.mul_comm (I.p j)]
    rw [r1, Int.mul_comm (b - a)]; omega
  have h2 : (b - a) * sm sh I.m ≤ (b - a) * U := Int.mul_le_mul_of_nonneg_left hsum (by omega)
  rw [Int.mul_comm U] at h1
  exact Int.le_of_mul_le_mul_right (a := U) (by omega) hU
end Items
end Tithe
