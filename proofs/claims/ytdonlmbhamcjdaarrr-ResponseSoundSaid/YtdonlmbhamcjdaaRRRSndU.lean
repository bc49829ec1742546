/- Joseph and Pandya, Shin and Lee, in plain Lean, second part: the stretch in which an entry is served, and that nothing is late. No conditions. -/
import Derived.Test.YtdonlmbhamcjdaaRRRSndT
namespace Go.Proofs.YtdonlmbhamcjdaaRRR.Pure
open Go Go.RowKit Tithe Go.Proofs.YtdonlmbhamcjdaaRRR.Ply Go.Proofs.YtdonlmbhamcjdaaRRR.J Go.Proofs.YtdonlmbhamcjdaaRRRW.PrintWords Go.Proofs.YtdonlmbhamcjdaaRRRW.PrintLast Go.Proofs.YtdonlmbhamcjdaaRRRW.PrintMore
set_option linter.unusedVariables false
theorem giveM_nn {t : Int} : ∀ (ord : List Nat) (x : Sm), (∀ k, 0 ≤ x.lf k) → ∀ k, 0 ≤ (giveM t ord x).lf k
  | [], x, h, k => h k
  | i :: r, x, h, k => by
    unfold giveM
    split
    · split
      · by_cases e : k = i
        · subst e; simp only [upd_same]; omega
        · simp only [upd_other _ _ e]; exact h k
      · by_cases e : k = i
        · subst e; simp only [upd_same]; omega
        · simp only [upd_other _ _ e]; exact h k
    · exact giveM_nn r x h k
section
variable {l : List S43} {st : List Int} {row : List Bool}
theorem relM_nn (hC : ∀ k, k < l.length → 1 ≤ (rd_T43 l (k : Int)).f1) {x : Sm} (h : ∀ k, 0 ≤ x.lf k) (t : Int) (k : Nat) : 0 ≤ (relM l st t l.length x).lf k := by
  simp only [relM]
  split
  · rename_i hh; have := hC k hh.1; omega
  · exact h k
theorem tick_nn (hC : ∀ k, k < l.length → 1 ≤ (rd_T43 l (k : Int)).f1) {x : Sm} (h : ∀ k, 0 ≤ x.lf k) (ord : List Nat) (t : Int) (g : Bool) (k : Nat) : 0 ≤ (tickM l st ord t g x).lf k := by
  unfold tickM
  split
  · exact giveM_nn _ _ (relM_nn hC h t) k
  · exact relM_nn hC h t k
theorem sq_nn (hC : ∀ k, k < l.length → 1 ≤ (rd_T43 l (k : Int)).f1) (ord : List Nat) : ∀ (t k : Nat), 0 ≤ (sq l st ord row t).lf k
  | 0, k => Int.le_refl _
  | t + 1, k => tick_nn hC (sq_nn hC ord t) _ _ _ k
theorem tick_pn {hp B : List Nat} (hn : (hp ++ B).Nodup) (hlt : ∀ j ∈ hp, j < l.length) (hC : ∀ k, k < l.length → 1 ≤ (rd_T43 l (k : Int)).f1) {x : Sm} (h : ∀ k, 0 ≤ x.lf k) (t : Int) (g : Bool) (h0 : 0 < pn hp (tickM l st (hp ++ B) t g x)) : pn hp (tickM l st (hp ++ B) t g x) + (if g = true then 1 else 0) ≤ pn hp x + rw_ l st hp t := by
  have h1 := relM_pn (st := st) (t := t) hlt (fun j _ => h j)
  have h2 := relM_nn (st := st) hC h t
  cases g with
  | false =>
    have e : tickM l st (hp ++ B) t false x = relM l st t l.length x := by unfold tickM; rw [if_neg (by simp)]
    rw [e] at h0 ⊢
    rw [if_neg (by simp)]
    omega
  | true =>
    have e : tickM l st (hp ++ B) t true x = giveM t (hp ++ B) (relM l st t l.length x) := by unfold tickM; rw [if_pos rfl]
    rw [e] at h0 ⊢
    have h3 := giveM_pn (t := t) hp (relM l st t l.length x) hn (fun j _ => h2 j)
    rw [if_pos rfl]
    by_cases h4 : 0 < pn hp (relM l st t l.length x)
    · rw [if_pos h4] at h3; omega
    · rw [if_neg h4] at h3; omega
theorem busy_sum {hp B : List Nat} (hn : (hp ++ B).Nodup) (hlt : ∀ j ∈ hp, j < l.length) (hC : ∀ k, k < l.length → 1 ≤ (rd_T43 l (k : Int)).f1) {s : Nat} (h0 : pn hp (sq l st (hp ++ B) row s) = 0) : ∀ d : Nat, (∀ t, 1 ≤ t → t ≤ d → pn hp (sq l st (hp ++ B) row (s + t)) ≠ 0) → pn hp (sq l st (hp ++ B) row (s + d)) + sp row s d ≤ wk l st hp s d
  | 0, _ => by
    rw [wk_zero]
    simp only [sp, Nat.add_zero]
    omega
  | d + 1, hz => by
    have ih := busy_sum hn hlt hC h0 d (fun t a b => hz t a (by omega))
    have h1 := hz (d + 1) (by omega) (by omega)
    have h2 := pn_nonneg (hp := hp) (x := sq l st (hp ++ B) row (s + (d + 1))) fun j _ => sq_nn hC (hp ++ B) (s + (d + 1)) j
    have h3 := tick_pn (st := st) hn hlt hC (sq_nn hC (hp ++ B) (s + d)) ((s + d : Nat) : Int) (row.getD (s + d) false) (by
      show 0 < pn hp (sq l st (hp ++ B) row (s + (d + 1)))
      omega)
    have h4 : pn hp (sq l st (hp ++ B) row (s + (d + 1))) + (if row.getD (s + d) false = true then 1 else 0) ≤ pn hp (sq l st (hp ++ B) row (s + d)) + rw_ l st hp ((s + d : Nat) : Int) := h3
    rw [wk_succ]
    simp only [sp]
    omega
/-- the level of an entry, those ahead of it listed -/
def levN (l : List S43) (A : List Nat) (i : Nat) (d : Int) : Int := (rd_T43 l (i : Int)).f1 + (A.map fun j : Nat => (rd_T43 l (j : Int)).f1 * cl (rd_T43 l (j : Int)).f0 d).sum
theorem wk_append (A : List Nat) (i s d : Nat) : wk l st (A ++ [i]) s d = wk l st A s d + (rd_T43 l (i : Int)).f1 * rn l st i s d := by
  unfold wk
  rw [List.map_append, List.sum_append]
  simp
theorem wk_ahead {A : List Nat} {s d : Nat} (hE : ∀ j ∈ A, 1 ≤ (rd_T43 l (j : Int)).f0 ∧ 1 ≤ (rd_T43 l (j : Int)).f1) : wk l st A s d ≤ (A.map fun j : Nat => (rd_T43 l (j : Int)).f1 * cl (rd_T43 l (j : Int)).f0 (d : Int)).sum := by
  unfold wk
  induction A with
  | nil => exact Int.le_refl _
  | cons i r ih =>
    have h1 := ih fun j hj => hE j (List.mem_cons_of_mem _ hj)
    have h2 := hE i (List.mem_cons_self ..)
    have h3 := Int.mul_le_mul_of_nonneg_left (rn_cl (st := st) h2.1 s d) (show 0 ≤ (rd_T43 l (i : Int)).f1 by omega)
    simp only [List.map_cons, List.sum_cons] at h1 ⊢
    omega
theorem wk_le {A : List Nat} {i s d : Nat} (hE : ∀ j ∈ A, 1 ≤ (rd_T43 l (j : Int)).f0 ∧ 1 ≤ (rd_T43 l (j : Int)).f1) (hi : 1 ≤ (rd_T43 l (i : Int)).f0 ∧ 1 ≤ (rd_T43 l (i : Int)).f1) (hd : 1 ≤ d) (hdE : (d : Int) ≤ (rd_T43 l (i : Int)).f0) : wk l st (A ++ [i]) s d ≤ levN l A i (d : Int) := by
  rw [wk_append]
  have h1 := wk_ahead (st := st) (s := s) (d := d) hE
  have h2 := rn_cl (st := st) hi.1 s d
  have h3 : cl (rd_T43 l (i : Int)).f0 (d : Int) = 1 := by
    unfold cl
    rw [show (d : Int) + (rd_T43 l (i : Int)).f0 - 1 = ((d : Int) - 1) + (rd_T43 l (i : Int)).f0 by omega, Int.add_ediv_of_dvd_right (Int.dvd_refl _), Int.ediv_self (by omega), Int.ediv_eq_zero_of_lt (by omega) (by omega)]
    rfl
  rw [h3] at h2
  have h4 := Int.mul_le_mul_of_nonneg_left h2 (show 0 ≤ (rd_T43 l (i : Int)).f1 by omega)
  unfold levN
  omega
/-- what is known of an entry -/
structure Ent (l : List S43) (row : List Bool) (A B : List Nat) (i d : Nat) : Prop where
  nd : ((A ++ [i]) ++ B).Nodup
  lt : ∀ j ∈ A ++ [i], j < l.length
  d1 : 1 ≤ d
  dE : (d : Int) ≤ (rd_T43 l (i : Int)).f0
  lev : ∀ s, s + d ≤ row.length → levN l A i (d : Int) ≤ sp row s d
theorem busy {A B : List Nat} {i d : Nat} (hC : ∀ k, k < l.length → 1 ≤ (rd_T43 l (k : Int)).f0 ∧ 1 ≤ (rd_T43 l (k : Int)).f1) (H : Ent l row A B i d) {s : Nat} (h0 : pn (A ++ [i]) (sq l st ((A ++ [i]) ++ B) row s) = 0) (hs : s + d ≤ row.length) : ∃ t, 1 ≤ t ∧ t ≤ d ∧ pn (A ++ [i]) (sq l st ((A ++ [i]) ++ B) row (s + t)) = 0 := by
  apply Classical.byContradiction
  intro hno
  have hC1 : ∀ k, k < l.length → 1 ≤ (rd_T43 l (k : Int)).f1 := fun k hk => (hC k hk).2
  have h1 := busy_sum H.nd H.lt hC1 h0 d (fun t a b e => hno ⟨t, a, b, e⟩)
  have h2 := wk_le (st := st) (s := s) (fun j hj => hC j (H.lt j (List.mem_append_left _ hj))) (hC i (H.lt i (List.mem_append_right _ (List.mem_singleton.2 rfl)))) H.d1 H.dE
  have h3 := H.lev s hs
  have h4 := pn_nonneg (hp := A ++ [i]) (x := sq l st ((A ++ [i]) ++ B) row (s + d)) fun j _ => sq_nn hC1 _ (s + d) j
  exact hno ⟨d, H.d1, Nat.le_refl _, by omega⟩
theorem pn_m0 (hp : List Nat) : pn hp m0 = 0 := by
  induction hp with
  | nil => rfl
  | cons i r ih => rw [pn_cons, ih]; rfl
theorem zeros {A B : List Nat} {i d : Nat} (hC : ∀ k, k < l.length → 1 ≤ (rd_T43 l (k : Int)).f0 ∧ 1 ≤ (rd_T43 l (k : Int)).f1) (H : Ent l row A B i d) : ∀ T, T ≤ row.length → ∃ s, s ≤ T ∧ T < s + d ∧ pn (A ++ [i]) (sq l st ((A ++ [i]) ++ B) row s) = 0
  | 0, _ => ⟨0, Nat.le_refl _, by have := H.d1; omega, pn_m0 _⟩
  | T + 1, h => by
    obtain ⟨s, h1, h2, h3⟩ := zeros hC H T (by omega)
    by_cases h4 : T + 1 < s + d
    · exact ⟨s, by omega, h4, h3⟩
    · obtain ⟨t, a, b, c⟩ := busy hC H h3 (by omega)
      exact ⟨s + t, by omega, by omega, c⟩
theorem tick_cm {ord : List Nat} (i : Nat) (t : Int) (g : Bool) (x : Sm) : (i < l.length ∧ rc l st t i = true ∧ (tickM l st ord t g x).cm i = t) ∨ ((tickM l st ord t g x).lf i ≤ x.lf i ∧ (tickM l st ord t g x).cm i = x.cm i) := by
  have h1 : (tickM l st ord t g x).cm i = (relM l st t l.length x).cm i := by
    unfold tickM
    split
    · rw [giveM_cm]
    · rfl
  have h2 : (tickM l st ord t g x).lf i ≤ (relM l st t l.length x).lf i := by
    unfold tickM
    split
    · exact giveM_le _ _ _
    · exact Int.le_refl _
  by_cases hc : i < l.length ∧ rc l st t i = true
  · exact .inl ⟨hc.1, hc.2, by rw [h1]; simp only [relM]; rw [if_pos hc]⟩
  · refine .inr ⟨?_, ?_⟩
    · have e : (relM l st t l.length x).lf i = x.lf i := by simp only [relM]; rw [if_neg hc]
      omega
    · rw [h1]; simp only [relM]; rw [if_neg hc]
theorem since {ord : List Nat} {i s : Nat} (h0 : (sq l st ord row s).lf i = 0) : ∀ u, (sq l st ord row (s + u)).lf i ≤ 0 ∨ (s : Int) ≤ (sq l st ord row (s + u)).cm i
  | 0 => .inl (by rw [Nat.add_zero]; omega)
  | u + 1 => by
    have ih := since h0 u
    have h := tick_cm (l := l) (st := st) (ord := ord) i ((s + u : Nat) : Int) (row.getD (s + u) false) (sq l st ord row (s + u))
    have e : sq l st ord row (s + (u + 1)) = tickM l st ord ((s + u : Nat) : Int) (row.getD (s + u) false) (sq l st ord row (s + u)) := rfl
    rw [← e] at h
    omega
theorem came {ord : List Nat} {i : Nat} : ∀ u, 0 < (sq l st ord row u).lf i → rc l st ((sq l st ord row u).cm i) i = true ∧ (sq l st ord row u).cm i < (u : Int)
  | 0, h => by have : (sq l st ord row 0).lf i = 0 := rfl; omega
  | u + 1, h0 => by
    have h := tick_cm (l := l) (st := st) (ord := ord) i (u : Int) (row.getD u false) (sq l st ord row u)
    have e : sq l st ord row (u + 1) = tickM l st ord (u : Int) (row.getD u false) (sq l st ord row u) := rfl
    rw [← e] at h
    rcases h with ⟨_, h1, h2⟩ | ⟨h1, h2⟩
    · rw [h2]; exact ⟨h1, by omega⟩
    · have ih := came (ord := ord) (i := i) u (by omega)
      rw [h2]
      exact ⟨ih.1, by omega⟩
/-- an entry at any time: what is left of it came less than d ago -/
theorem young {A B : List Nat} {i d : Nat} (hC : ∀ k, k < l.length → 1 ≤ (rd_T43 l (k : Int)).f0 ∧ 1 ≤ (rd_T43 l (k : Int)).f1) (H : Ent l row A B i d) {T : Nat} (hT : T ≤ row.length) (h : 0 < (sq l st ((A ++ [i]) ++ B) row T).lf i) : (T : Int) - (sq l st ((A ++ [i]) ++ B) row T).cm i < (d : Int) := by
  obtain ⟨s, h1, h2, h3⟩ := zeros (st := st) hC H T hT
  have h4 := pn_zero (hp := A ++ [i]) (x := sq l st ((A ++ [i]) ++ B) row s) (fun j _ => sq_nn (fun k hk => (hC k hk).2) _ s j) h3 i (List.mem_append_right _ (List.mem_singleton.2 rfl))
  have h5 := since (u := T - s) h4
  rw [show s + (T - s) = T by omega] at h5
  omega
/-- no release finds the one ahead unfinished -/
theorem single {A B : List Nat} {i d : Nat} (hC : ∀ k, k < l.length → 1 ≤ (rd_T43 l (k : Int)).f0 ∧ 1 ≤ (rd_T43 l (k : Int)).f1) (H : Ent l row A B i d) {T : Nat} (hT : T ≤ row.length) (hr : rc l st (T : Int) i = true) : ¬ 0 < (sq l st ((A ++ [i]) ++ B) row T).lf i := by
  intro h
  have h1 := young hC H hT h
  have h2 := came T h
  have h3 := rc_apart (l := l) (st := st) (j := i) (hC i (H.lt i (List.mem_append_right _ (List.mem_singleton.2 rfl)))).1 (rc_iff.1 h2.1).2 (rc_iff.1 hr).2 h2.2
  have h4 := H.dE
  omega
/-- nothing is late -/
theorem okM_all {ord : List Nat} {rs : List Int} (hC : ∀ k, k < l.length → 1 ≤ (rd_T43 l (k : Int)).f0 ∧ 1 ≤ (rd_T43 l (k : Int)).f1)
    (hall : ∀ i, i < l.length → ∃ A B, ord = (A ++ [i]) ++ B ∧ Ent l row A B i (rd rs (i : Int)).toNat ∧ rd rs (i : Int) ≤ (rd_T43 l (i : Int)).f2) :
    ∀ d t : Nat, t + d = row.length → okM l st ord rs (row.drop t) (t : Int) (sq l st ord row t) = true
  | 0, t, h => by rw [List.drop_of_length_le (by omega)]; rfl
  | d + 1, t, h => by
    have hlt : t < row.length := by omega
    have ih := okM_all hC hall d (t + 1) (by omega)
    rw [List.drop_eq_getElem_cons hlt]
    have e1 : row[t] = row.getD t false := by simp [List.getD, hlt]
    have e2 : tickM l st ord (t : Int) row[t] (sq l st ord row t) = sq l st ord row (t + 1) := by rw [e1]; rfl
    unfold okM
    rw [e2, show (t : Int) + 1 = ((t + 1 : Nat) : Int) by omega, ih, Bool.and_true, Bool.and_eq_true]
    refine ⟨?_, ?_⟩
    · unfold okRel
      rw [List.all_eq_true]
      intro k hk
      obtain ⟨A, B, rfl, H, _⟩ := hall k (List.mem_range.1 hk)
      cases hr : rc l st (t : Int) k with
      | false => rfl
      | true =>
        have := single hC H (by omega) hr
        rw [decide_eq_false this]; rfl
    · unfold okEnd
      rw [List.all_eq_true]
      intro k hk
      obtain ⟨A, B, rfl, H, hD⟩ := hall k (List.mem_range.1 hk)
      rw [decide_eq_false (show ¬ (rd_T43 l (k : Int)).f2 < rd rs (k : Int) by omega)]
      by_cases h0 : 0 < (sq l st ((A ++ [k]) ++ B) row (t + 1)).lf k
      · have h1 := young hC H (by omega) h0
        have h2 := H.d1
        rw [decide_eq_false (show ¬ rd rs (k : Int) ≤ (t : Int) + 1 - (sq l st ((A ++ [k]) ++ B) row (t + 1)).cm k by omega)]
        simp
      · rw [decide_eq_false h0]; rfl
theorem runM_sq {ord : List Nat} : ∀ d t : Nat, t + d = row.length → runM l st ord (row.drop t) (t : Int) (sq l st ord row t) = sq l st ord row row.length
  | 0, t, h => by
    have : t = row.length := by omega
    subst this
    rw [List.drop_of_length_le (Nat.le_refl _)]; rfl
  | d + 1, t, h => by
    have hlt : t < row.length := by omega
    have ih := runM_sq (ord := ord) d (t + 1) (by omega)
    rw [List.drop_eq_getElem_cons hlt]
    have e1 : row[t] = row.getD t false := by simp [List.getD, hlt]
    unfold runM
    rw [show tickM l st ord (t : Int) row[t] (sq l st ord row t) = sq l st ord row (t + 1) by rw [e1]; rfl, show (t : Int) + 1 = ((t + 1 : Nat) : Int) by omega]
    exact ih
end
/-- the play with queues and that without: the same -/
structure Lk (n : Nat) (x : St) (y : Sm) : Prop where
  out : ∀ k, k < n → x.out k = y.mo k
  pos : ∀ k, k < n → 0 < y.lf k → x.qs k = [y.cm k] ∧ x.ls k = y.lf k
  neg : ∀ k, k < n → ¬ 0 < y.lf k → x.qs k = []
theorem Lk.rel {l : List S43} {st : List Int} {t : Int} {x : St} {y : Sm} (hC : ∀ k, k < l.length → 1 ≤ (rd_T43 l (k : Int)).f1) (h : Lk l.length x y) (hok : okRel l st t y = true) : Lk l.length (relK l st t l.length x) (relM l st t l.length y) := by
  refine ⟨h.out, fun k hk h0 => ?_, fun k hk h0 => ?_⟩
  · simp only [relM, relK] at h0 ⊢
    by_cases hr : rc l st t k = true
    · have h1 := okRel_at hok hk hr
      have h2 := h.neg k hk h1
      rw [if_pos ⟨hk, hr⟩, if_pos ⟨hk, hr⟩, if_pos ⟨hk, hr, h2⟩, if_pos ⟨hk, hr⟩, h2]
      exact ⟨rfl, rfl⟩
    · rw [if_neg (fun hh => hr hh.2)] at h0
      rw [if_neg (fun hh => hr hh.2), if_neg (fun hh => hr hh.2), if_neg (fun hh => hr hh.2.1), if_neg (fun hh => hr hh.2)]
      exact h.pos k hk h0
  · simp only [relM, relK] at h0 ⊢
    by_cases hr : rc l st t k = true
    · rw [if_pos ⟨hk, hr⟩] at h0
      have := hC k hk
      omega
    · rw [if_neg (fun hh => hr hh.2)] at h0
      rw [if_neg (fun hh => hr hh.2)]
      exact h.neg k hk h0
theorem Lk.give {l : List S43} {t : Int} : ∀ {ord : List Nat} {x : St} {y : Sm}, (∀ i ∈ ord, i < l.length) → Lk l.length x y → Lk l.length (giveS l t ord x) (giveM t ord y)
  | [], x, y, _, h => h
  | i :: r, x, y, hm, h => by
    have hi := hm i (List.mem_cons_self ..)
    by_cases h0 : 0 < y.lf i
    · obtain ⟨h1, h2⟩ := h.pos i hi h0
      by_cases hl : y.lf i = 1
      · rw [give_last h1 (h2.trans hl), giveM_last hl]
        refine ⟨fun k hk => ?_, fun k hk hp => ?_, fun k hk hp => ?_⟩
        · by_cases e : k = i
          · subst e; simp only [upd_same]; rw [h.out k hk]
          · simp only [upd_other _ _ e]; exact h.out k hk
        · by_cases e : k = i
          · subst e; simp only [upd_same] at hp; omega
          · simp only [upd_other _ _ e] at hp ⊢; exact h.pos k hk hp
        · by_cases e : k = i
          · subst e; simp only [upd_same]
          · simp only [upd_other _ _ e] at hp ⊢; exact h.neg k hk hp
      · rw [give_less h1 (by rw [h2]; exact hl), giveM_less h0 hl]
        refine ⟨h.out, fun k hk hp => ?_, fun k hk hp => ?_⟩
        · by_cases e : k = i
          · subst e; simp only [upd_same] at hp ⊢; rw [h2]; exact ⟨h1, rfl⟩
          · simp only [upd_other _ _ e] at hp ⊢; exact h.pos k hk hp
        · by_cases e : k = i
          · subst e; simp only [upd_same] at hp; omega
          · simp only [upd_other _ _ e] at hp ⊢; exact h.neg k hk hp
    · rw [give_skip (h.neg i hi h0), giveM_skip h0]
      exact Lk.give (fun j hj => hm j (List.mem_cons_of_mem _ hj)) h
theorem Lk.run {l : List S43} {st : List Int} {ord : List Nat} {rs : List Int} (hC : ∀ k, k < l.length → 1 ≤ (rd_T43 l (k : Int)).f1) (hm : ∀ i ∈ ord, i < l.length) : ∀ {row : List Bool} {t : Int} {x : St} {y : Sm}, okM l st ord rs row t y = true → Lk l.length x y → Lk l.length (runS l st ord row t x) (runM l st ord row t y)
  | [], _, _, _, _, h => h
  | g :: r, t, x, y, hok, h => by
    unfold okM at hok
    rw [Bool.and_eq_true, Bool.and_eq_true] at hok
    unfold runS runM
    refine Lk.run hC hm hok.2 ?_
    have h1 := h.rel hC hok.1.1
    cases g with
    | false =>
      unfold tickS tickM
      rw [if_neg (by simp), if_neg (by simp)]
      exact h1
    | true =>
      unfold tickS tickM
      rw [if_pos rfl, if_pos rfl]
      exact Lk.give hm h1
theorem play_mo {l : List S43} {st : List Int} {ord : List Nat} {rs : List Int} {row : List Bool} (hC : ∀ k, k < l.length → 1 ≤ (rd_T43 l (k : Int)).f1) (hm : ∀ i ∈ ord, i < l.length) (hok : okM l st ord rs row 0 m0 = true) : playL l st ord row = moL l st ord row := by
  have h := Lk.run hC hm (x := x0) hok ⟨fun _ _ => rfl, fun k _ h0 => absurd h0 (by simp [m0]), fun _ _ _ => rfl⟩
  unfold playL moL
  apply List.map_congr_left
  intro k hk
  exact h.out k (List.mem_range.1 hk)
end Go.Proofs.YtdonlmbhamcjdaaRRR.Pure
