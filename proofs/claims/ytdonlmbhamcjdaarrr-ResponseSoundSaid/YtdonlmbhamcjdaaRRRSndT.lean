/- Joseph and Pandya, Shin and Lee, in plain Lean: where each entry's level is supplied at its response, no job is late in the play tick by tick. No conditions. -/
import Derived.Test.YtdonlmbhamcjdaaRRRSndM
import Derived.Test.YtdonlmbhamcjdaaRRRPlB
namespace Go.Proofs.YtdonlmbhamcjdaaRRR.Pure
open Go Go.RowKit Tithe Go.Proofs.YtdonlmbhamcjdaaRRR.Ply Go.Proofs.YtdonlmbhamcjdaaRRR.J Go.Proofs.YtdonlmbhamcjdaaRRRW.PrintWords Go.Proofs.YtdonlmbhamcjdaaRRRW.PrintLast Go.Proofs.YtdonlmbhamcjdaaRRRW.PrintMore
set_option linter.unusedVariables false
/-- what is left of the entries of a list -/
def pn (hp : List Nat) (x : Sm) : Int := (hp.map x.lf).sum
theorem pn_nil (x : Sm) : pn [] x = 0 := rfl
theorem pn_cons (i : Nat) (r : List Nat) (x : Sm) : pn (i :: r) x = x.lf i + pn r x := by simp [pn]
theorem pn_nonneg {hp : List Nat} {x : Sm} (h : ∀ j ∈ hp, 0 ≤ x.lf j) : 0 ≤ pn hp x := by
  induction hp with
  | nil => simp [pn_nil]
  | cons i r ih =>
    rw [pn_cons]
    have h1 := h i (List.mem_cons_self ..)
    have h2 := ih fun j hj => h j (List.mem_cons_of_mem _ hj)
    omega
theorem pn_zero {hp : List Nat} {x : Sm} (h : ∀ j ∈ hp, 0 ≤ x.lf j) (h0 : pn hp x = 0) : ∀ j ∈ hp, x.lf j = 0 := by
  induction hp with
  | nil => intro j hj; cases hj
  | cons i r ih =>
    rw [pn_cons] at h0
    have h1 := h i (List.mem_cons_self ..)
    have h2 := pn_nonneg (hp := r) (x := x) fun j hj => h j (List.mem_cons_of_mem _ hj)
    intro j hj
    rcases List.mem_cons.1 hj with rfl | hj
    · omega
    · exact ih (fun k hk => h k (List.mem_cons_of_mem _ hk)) (by omega) j hj
theorem giveM_off {t : Int} {j : Nat} : ∀ (ord : List Nat) (x : Sm), j ∉ ord → (giveM t ord x).lf j = x.lf j ∧ (giveM t ord x).cm = x.cm
  | [], x, _ => ⟨rfl, rfl⟩
  | i :: r, x, h => by
    have hij : j ≠ i := fun e => h (e ▸ List.mem_cons_self ..)
    unfold giveM
    split
    · split
      · exact ⟨upd_other _ _ hij, rfl⟩
      · exact ⟨upd_other _ _ hij, rfl⟩
    · exact giveM_off r x (fun hh => h (List.mem_cons_of_mem _ hh))
theorem giveM_cm {t : Int} : ∀ (ord : List Nat) (x : Sm), (giveM t ord x).cm = x.cm
  | [], x => rfl
  | i :: r, x => by
    unfold giveM
    split
    · split <;> rfl
    · exact giveM_cm r x
theorem giveM_le {t : Int} : ∀ (ord : List Nat) (x : Sm) (j : Nat), (giveM t ord x).lf j ≤ x.lf j
  | [], x, j => Int.le_refl _
  | i :: r, x, j => by
    unfold giveM
    split
    · split
      · simp only [upd]
        split
        · rename_i h1 h2 h3; subst h3; omega
        · exact Int.le_refl _
      · simp only [upd]
        split
        · rename_i h1 h2 h3; subst h3; omega
        · exact Int.le_refl _
    · exact giveM_le r x j
theorem pn_upd_off {hp : List Nat} {i : Nat} {x : Sm} {v : Int} {cm mo : Nat → Int} (h : i ∉ hp) : pn hp ⟨upd x.lf i v, cm, mo⟩ = pn hp x := by
  induction hp with
  | nil => rfl
  | cons j r ih =>
    rw [pn_cons, pn_cons, ih (fun hh => h (List.mem_cons_of_mem _ hh))]
    simp only
    rw [upd_other _ _ (fun e => h (by rw [← e]; exact List.mem_cons_self ..))]
theorem giveM_pn {t : Int} {B : List Nat} : ∀ (hp : List Nat) (x : Sm), (hp ++ B).Nodup → (∀ j ∈ hp, 0 ≤ x.lf j) → pn hp (giveM t (hp ++ B) x) = if 0 < pn hp x then pn hp x - 1 else pn hp x
  | [], x, _, _ => by simp [pn_nil]
  | i :: r, x, hn, h => by
    have hn2 : i ∉ r ++ B ∧ (r ++ B).Nodup := List.nodup_cons.1 hn
    have h1 := h i (List.mem_cons_self ..)
    have h2 := pn_nonneg (hp := r) (x := x) fun j hj => h j (List.mem_cons_of_mem _ hj)
    have hir : i ∉ r := fun hh => hn2.1 (List.mem_append_left _ hh)
    by_cases hp : 0 < x.lf i
    · have e : ∃ cm mo, giveM t (i :: r ++ B) x = ⟨upd x.lf i (x.lf i - 1), cm, mo⟩ := by
        by_cases hl : x.lf i = 1
        · exact ⟨x.cm, upd x.mo i (max (x.mo i) (t + 1 - x.cm i)), (giveM_last (r := r ++ B) hl).trans (by rw [hl]; rfl)⟩
        · exact ⟨x.cm, x.mo, giveM_less (r := r ++ B) hp hl⟩
      obtain ⟨cm, mo, e⟩ := e
      rw [e, pn_cons, pn_cons, pn_upd_off hir, if_pos (by omega)]
      simp only [upd_same]
      omega
    · have e : giveM t (i :: r ++ B) x = giveM t (r ++ B) x := giveM_skip hp
      rw [e, pn_cons, pn_cons, giveM_pn r x hn2.2 (fun j hj => h j (List.mem_cons_of_mem _ hj)), (giveM_off (t := t) (r ++ B) x hn2.1).1]
      have : x.lf i = 0 := by omega
      rw [this, Int.zero_add, Int.zero_add]
section
variable {l : List S43} {st : List Int}
/-- what is released at t of the entries of a list -/
def rw_ (l : List S43) (st : List Int) (hp : List Nat) (t : Int) : Int := (hp.map fun j : Nat => if rc l st t j = true then (rd_T43 l (j : Int)).f1 else 0).sum
theorem relM_pn {hp : List Nat} {x : Sm} {t : Int} (hlt : ∀ j ∈ hp, j < l.length) (h : ∀ j ∈ hp, 0 ≤ x.lf j) : pn hp (relM l st t l.length x) ≤ pn hp x + rw_ l st hp t := by
  induction hp with
  | nil => simp [pn_nil, rw_]
  | cons i r ih =>
    have := ih (fun j hj => hlt j (List.mem_cons_of_mem _ hj)) (fun j hj => h j (List.mem_cons_of_mem _ hj))
    have h1 := h i (List.mem_cons_self ..)
    have h2 := hlt i (List.mem_cons_self ..)
    rw [pn_cons, pn_cons]
    simp only [rw_, List.map_cons, List.sum_cons] at this ⊢
    have e : (relM l st t l.length x).lf i ≤ x.lf i + (if rc l st t i = true then (rd_T43 l (i : Int)).f1 else 0) := by
      simp only [relM]
      by_cases hc : rc l st t i = true
      · rw [if_pos ⟨h2, hc⟩, if_pos hc]; omega
      · rw [if_neg (fun hh => hc hh.2), if_neg hc]; omega
    omega
/-- the state behind t ticks -/
def sq (l : List S43) (st : List Int) (ord : List Nat) (row : List Bool) : Nat → Sm
  | 0 => m0
  | t + 1 => tickM l st ord (t : Int) (row.getD t false) (sq l st ord row t)
/-- the ticks of a stretch -/
def sp (row : List Bool) (a : Nat) : Nat → Int
  | 0 => 0
  | d + 1 => sp row a d + if row.getD (a + d) false = true then 1 else 0
/-- the releases of an entry in a stretch -/
def rn (l : List S43) (st : List Int) (j s : Nat) : Nat → Int
  | 0 => 0
  | d + 1 => rn l st j s d + if rc l st ((s + d : Nat) : Int) j = true then 1 else 0
/-- the work released in a stretch -/
def wk (l : List S43) (st : List Int) (hp : List Nat) (s d : Nat) : Int := (hp.map fun j : Nat => (rd_T43 l (j : Int)).f1 * rn l st j s d).sum
theorem wk_zero (hp : List Nat) (s : Nat) : wk l st hp s 0 = 0 := by
  unfold wk
  induction hp with
  | nil => rfl
  | cons i r ih => simp only [List.map_cons, List.sum_cons, rn] at ih ⊢; omega
theorem wk_succ (hp : List Nat) (s d : Nat) : wk l st hp s (d + 1) = wk l st hp s d + rw_ l st hp ((s + d : Nat) : Int) := by
  unfold wk rw_
  induction hp with
  | nil => rfl
  | cons i r ih =>
    simp only [List.map_cons, List.sum_cons, rn] at ih ⊢
    have e : (rd_T43 l (i : Int)).f1 * (rn l st i s d + if rc l st ((s + d : Nat) : Int) i = true then 1 else 0) = (rd_T43 l (i : Int)).f1 * rn l st i s d + if rc l st ((s + d : Nat) : Int) i = true then (rd_T43 l (i : Int)).f1 else 0 := by
      rw [Int.mul_add]
      split <;> simp
    rw [e]
    omega
theorem rc_iff {t : Int} {j : Nat} : rc l st t j = true ↔ rd st (j : Int) ≤ t ∧ (t - rd st (j : Int)) % (rd_T43 l (j : Int)).f0 = 0 := by
  unfold rc; simp
theorem mul_ge {e u : Int} (he : 1 ≤ e) (hu : 0 < u) (h : u % e = 0) : e ≤ u := Int.le_of_dvd hu (Int.dvd_of_emod_eq_zero h)
theorem rc_apart {j : Nat} {a b : Int} (he : 1 ≤ (rd_T43 l (j : Int)).f0) (ha : (a - rd st (j : Int)) % (rd_T43 l (j : Int)).f0 = 0) (hb : (b - rd st (j : Int)) % (rd_T43 l (j : Int)).f0 = 0) (hab : a < b) : (rd_T43 l (j : Int)).f0 ≤ b - a := by
  refine mul_ge he (by omega) ?_
  rw [show b - a = (b - rd st (j : Int)) - (a - rd st (j : Int)) by omega, Int.sub_emod, ha, hb]; simp
theorem rn_le {j : Nat} (he : 1 ≤ (rd_T43 l (j : Int)).f0) (s : Nat) : ∀ d : Nat, rn l st j s d = 0 ∨ ∃ b : Nat, b < d ∧ rc l st ((s + b : Nat) : Int) j = true ∧ rn l st j s d ≤ (b : Int) / (rd_T43 l (j : Int)).f0 + 1
  | 0 => .inl rfl
  | d + 1 => by
    have ih := rn_le he s d
    simp only [rn]
    by_cases hc : rc l st ((s + d : Nat) : Int) j = true
    · rw [if_pos hc]
      refine .inr ⟨d, by omega, hc, ?_⟩
      have h0 : 0 ≤ (d : Int) / (rd_T43 l (j : Int)).f0 := Int.ediv_nonneg (by omega) (by omega)
      rcases ih with h | ⟨b, hb, hcb, h⟩
      · omega
      · have h1 := rc_apart he (rc_iff.1 hcb).2 (rc_iff.1 hc).2 (by omega)
        have h2 : ((b : Int) + (rd_T43 l (j : Int)).f0) / (rd_T43 l (j : Int)).f0 ≤ (d : Int) / (rd_T43 l (j : Int)).f0 := Int.ediv_le_ediv (by omega) (by omega)
        rw [Int.add_ediv_of_dvd_right (Int.dvd_refl _), Int.ediv_self (by omega)] at h2
        omega
    · rw [if_neg hc, Int.add_zero]
      rcases ih with h | ⟨b, hb, hcb, h⟩
      · exact .inl h
      · exact .inr ⟨b, by omega, hcb, h⟩
theorem rn_cl {j : Nat} (he : 1 ≤ (rd_T43 l (j : Int)).f0) (s d : Nat) : rn l st j s d ≤ cl (rd_T43 l (j : Int)).f0 (d : Int) := by
  rcases rn_le (st := st) he s d with h | ⟨b, hb, _, h⟩
  · rw [h]; exact cl_nonneg he (by omega)
  · unfold cl
    have h2 : ((b : Int) + (rd_T43 l (j : Int)).f0) / (rd_T43 l (j : Int)).f0 ≤ ((d : Int) + (rd_T43 l (j : Int)).f0 - 1) / (rd_T43 l (j : Int)).f0 := Int.ediv_le_ediv (by omega) (by omega)
    rw [Int.add_ediv_of_dvd_right (Int.dvd_refl _), Int.ediv_self (by omega)] at h2
    omega
end
end Go.Proofs.YtdonlmbhamcjdaaRRR.Pure
