/- What response.Play does, tick by tick, as plain functions: queues, what is left of the first, the longest times. No conditions. -/
import Derived.Test.YtdonlmbhamcjdaaRRRPlayS
import Derived.Test.YtdonlmbhamcjdaaRRRJx0
namespace Go.Proofs.YtdonlmbhamcjdaaRRR.J
open Go.RowKit Go.Proofs.YtdonlmbhamcjdaaRRR.Ply Go.Proofs.YtdonlmbhamcjdaaRRRW.PrintWords Go.Proofs.YtdonlmbhamcjdaaRRRW.PrintLast Go.Proofs.YtdonlmbhamcjdaaRRRW.PrintMore
set_option linter.unusedVariables false
structure St where
  qs : Nat → List Int
  ls : Nat → Int
  out : Nat → Int
/-- a release at t -/
def rc (l : List S43) (st : List Int) (t : Int) (k : Nat) : Bool := decide (rd st (k : Int) ≤ t) && decide ((t - rd st (k : Int)) % (rd_T43 l (k : Int)).f0 = 0)
/-- the releases of the first kk entries -/
def relK (l : List S43) (st : List Int) (t : Int) (kk : Nat) (x : St) : St :=
  ⟨fun k => if k < kk ∧ rc l st t k = true then x.qs k ++ [t] else x.qs k, fun k => if k < kk ∧ rc l st t k = true ∧ x.qs k = [] then (rd_T43 l (k : Int)).f1 else x.ls k, x.out⟩
/-- one tick is given -/
def giveS (l : List S43) (t : Int) : List Nat → St → St
  | [], x => x
  | i :: r, x => match x.qs i with
    | [] => giveS l t r x
    | a :: q => if x.ls i = 1 then ⟨upd x.qs i q, upd (upd x.ls i 0) i (rd_T43 l (i : Int)).f1, upd x.out i (max (x.out i) (t + 1 - a))⟩ else ⟨x.qs, upd x.ls i (x.ls i - 1), x.out⟩
def tickS (l : List S43) (st : List Int) (ord : List Nat) (t : Int) (g : Bool) (x : St) : St := if g = true then giveS l t ord (relK l st t l.length x) else relK l st t l.length x
def runS (l : List S43) (st : List Int) (ord : List Nat) : List Bool → Int → St → St
  | [], _, x => x
  | g :: r, t, x => runS l st ord r (t + 1) (tickS l st ord t g x)
def x0 : St := ⟨fun _ => [], fun _ => 0, fun _ => 0⟩
def playL (l : List S43) (st : List Int) (ord : List Nat) (row : List Bool) : List Int := (List.range l.length).map (runS l st ord row 0 x0).out
theorem relK_zero (l : List S43) (st : List Int) (t : Int) (x : St) : relK l st t 0 x = x := by
  unfold relK; simp
theorem relK_not {l : List S43} {st : List Int} {t : Int} {kk : Nat} (x : St) (h : rc l st t kk = false) : relK l st t (kk + 1) x = relK l st t kk x := by
  have e : ∀ k, (k < kk + 1 ∧ rc l st t k = true) ↔ (k < kk ∧ rc l st t k = true) := by
    intro k
    constructor
    · rintro ⟨h1, h2⟩
      refine ⟨?_, h2⟩
      by_cases e : k = kk
      · subst e; rw [h] at h2; cases h2
      · omega
    · rintro ⟨h1, h2⟩; exact ⟨by omega, h2⟩
  unfold relK
  congr 1
  · funext k
    simp only [e k]
  · funext k
    have e2 : (k < kk + 1 ∧ rc l st t k = true ∧ x.qs k = []) ↔ (k < kk ∧ rc l st t k = true ∧ x.qs k = []) := by rw [← and_assoc, e k, and_assoc]
    simp only [e2]
theorem relK_qs {l : List S43} {st : List Int} {t : Int} {kk : Nat} (x : St) : (relK l st t kk x).qs kk = x.qs kk := by
  unfold relK; simp
theorem relK_some {l : List S43} {st : List Int} {t : Int} {kk : Nat} (x : St) (h : rc l st t kk = true) :
    (relK l st t (kk + 1) x).qs = upd (relK l st t kk x).qs kk (x.qs kk ++ [t]) ∧ (relK l st t (kk + 1) x).out = (relK l st t kk x).out ∧
    (relK l st t (kk + 1) x).ls = if x.qs kk = [] then upd (relK l st t kk x).ls kk (rd_T43 l (kk : Int)).f1 else (relK l st t kk x).ls := by
  refine ⟨?_, rfl, ?_⟩
  · funext k
    unfold relK upd
    by_cases e : k = kk
    · subst e; simp [h]
    · have : k < kk + 1 ↔ k < kk := by omega
      simp [e, this]
  · by_cases hq : x.qs kk = []
    · rw [if_pos hq]
      funext k
      unfold relK upd
      by_cases e : k = kk
      · subst e; simp [h, hq]
      · have : k < kk + 1 ↔ k < kk := by omega
        simp [e, this]
    · rw [if_neg hq]
      funext k
      unfold relK
      by_cases e : k = kk
      · subst e; simp [hq]
      · have : k < kk + 1 ↔ k < kk := by omega
        simp [this]
/-- the numbers are small -/
structure Inv (n m : Nat) (x : St) : Prop where
  len : ∀ k, k < n → (x.qs k).length ≤ m
  rng : ∀ k, k < n → ∀ a ∈ x.qs k, 0 ≤ a ∧ a ≤ 4096
  lft : ∀ k, k < n → x.qs k ≠ [] → 1 ≤ x.ls k ∧ x.ls k ≤ 1152921504606846976
theorem Inv.zero (n : Nat) : Inv n 0 x0 := ⟨fun _ _ => Nat.le_refl _, fun _ _ a ha => (by cases ha), fun _ _ h => absurd rfl h⟩
theorem Inv.rel {l : List S43} {st : List Int} {t : Int} {n m : Nat} {x : St} (h : Inv n m x) (kk : Nat) (ht : 0 ≤ t ∧ t ≤ 4096) (hC : ∀ k, k < n → 1 ≤ (rd_T43 l (k : Int)).f1 ∧ (rd_T43 l (k : Int)).f1 ≤ 1152921504606846976) : Inv n (m + 1) (relK l st t kk x) := by
  refine ⟨fun k hk => ?_, fun k hk a ha => ?_, fun k hk hq => ?_⟩
  · have := h.len k hk
    simp only [relK]
    split
    · rw [List.length_append]; simp; omega
    · omega
  · simp only [relK] at ha
    split at ha
    · rcases List.mem_append.1 ha with ha | ha
      · exact h.rng k hk a ha
      · rw [List.mem_singleton.1 ha]; exact ht
    · exact h.rng k hk a ha
  · simp only [relK] at hq ⊢
    by_cases hx : x.qs k = []
    · by_cases hc : k < kk ∧ rc l st t k = true
      · rw [if_pos ⟨hc.1, hc.2, hx⟩]; exact hC k hk
      · rw [if_neg hc] at hq; exact absurd hx hq
    · rw [if_neg (fun hh => hx hh.2.2)]
      exact h.lft k hk hx
theorem Inv.give {l : List S43} {t : Int} {n m : Nat} (hC : ∀ k, k < n → 1 ≤ (rd_T43 l (k : Int)).f1 ∧ (rd_T43 l (k : Int)).f1 ≤ 1152921504606846976) : ∀ (ord : List Nat) {x : St}, Inv n m x → (∀ i ∈ ord, i < n) → Inv n m (giveS l t ord x)
  | [], x, h, _ => h
  | i :: r, x, h, ho => by
    have hi := ho i (List.mem_cons_self ..)
    unfold giveS
    split
    · exact Inv.give hC r h (fun k hk => ho k (List.mem_cons_of_mem _ hk))
    · rename_i a q hq
      split
      · refine ⟨fun k hk => ?_, fun k hk b hb => ?_, fun k hk hb => ?_⟩
        · by_cases e : k = i
          · subst e; simp only [upd_same]; have := h.len k hk; rw [hq] at this; simp at this; omega
          · simp only [upd_other _ _ e]; exact h.len k hk
        · by_cases e : k = i
          · subst e; simp only [upd_same] at hb; exact h.rng k hk b (by rw [hq]; exact List.mem_cons_of_mem _ hb)
          · simp only [upd_other _ _ e] at hb; exact h.rng k hk b hb
        · by_cases e : k = i
          · subst e; simp only [upd_same]; exact hC k hk
          · simp only [upd_other _ _ e] at hb ⊢; exact h.lft k hk hb
      · rename_i hl
        have h1 := h.lft i hi (by rw [hq]; simp)
        refine ⟨h.len, h.rng, fun k hk hb => ?_⟩
        by_cases e : k = i
        · subst e; simp only [upd_same]; omega
        · simp only [upd_other _ _ e]; exact h.lft k hk hb
theorem give_skip {l : List S43} {t : Int} {i : Nat} {r : List Nat} {x : St} (h : x.qs i = []) : giveS l t (i :: r) x = giveS l t r x := by
  conv => lhs; unfold giveS
  rw [h]
theorem give_last {l : List S43} {t : Int} {i : Nat} {r : List Nat} {x : St} {a : Int} {q : List Int} (h : x.qs i = a :: q) (h1 : x.ls i = 1) :
    giveS l t (i :: r) x = ⟨upd x.qs i q, upd (upd x.ls i 0) i (rd_T43 l (i : Int)).f1, upd x.out i (max (x.out i) (t + 1 - a))⟩ := by
  conv => lhs; unfold giveS
  rw [h]; simp [h1]
theorem give_less {l : List S43} {t : Int} {i : Nat} {r : List Nat} {x : St} {a : Int} {q : List Int} (h : x.qs i = a :: q) (h1 : x.ls i ≠ 1) :
    giveS l t (i :: r) x = ⟨x.qs, upd x.ls i (x.ls i - 1), x.out⟩ := by
  conv => lhs; unfold giveS
  rw [h]; simp [h1]
end Go.Proofs.YtdonlmbhamcjdaaRRR.J
