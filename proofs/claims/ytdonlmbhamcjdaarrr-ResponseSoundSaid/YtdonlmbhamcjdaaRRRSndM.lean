/- The law ResponseSound's own play, tick by tick, as plain functions. No conditions. -/
import Derived.Test.YtdonlmbhamcjdaaRRRPlayM
namespace Go.Proofs.YtdonlmbhamcjdaaRRR.J
open Go.RowKit Go.Proofs.YtdonlmbhamcjdaaRRR.Ply Go.Proofs.YtdonlmbhamcjdaaRRRW.PrintWords Go.Proofs.YtdonlmbhamcjdaaRRRW.PrintLast Go.Proofs.YtdonlmbhamcjdaaRRRW.PrintMore
set_option linter.unusedVariables false
structure Sm where
  lf : Nat → Int
  cm : Nat → Int
  mo : Nat → Int
/-- the releases of the first kk entries -/
def relM (l : List S43) (st : List Int) (t : Int) (kk : Nat) (x : Sm) : Sm :=
  ⟨fun k => if k < kk ∧ rc l st t k = true then (rd_T43 l (k : Int)).f1 else x.lf k, fun k => if k < kk ∧ rc l st t k = true then t else x.cm k, x.mo⟩
def giveM (t : Int) : List Nat → Sm → Sm
  | [], x => x
  | i :: r, x => if 0 < x.lf i then (if x.lf i = 1 then ⟨upd x.lf i 0, x.cm, upd x.mo i (max (x.mo i) (t + 1 - x.cm i))⟩ else ⟨upd x.lf i (x.lf i - 1), x.cm, x.mo⟩) else giveM t r x
def tickM (l : List S43) (st : List Int) (ord : List Nat) (t : Int) (g : Bool) (x : Sm) : Sm := if g = true then giveM t ord (relM l st t l.length x) else relM l st t l.length x
def runM (l : List S43) (st : List Int) (ord : List Nat) : List Bool → Int → Sm → Sm
  | [], _, x => x
  | g :: r, t, x => runM l st ord r (t + 1) (tickM l st ord t g x)
/-- no release finds the one ahead unfinished -/
def okRel (l : List S43) (st : List Int) (t : Int) (x : Sm) : Bool := (List.range l.length).all fun k => !(rc l st t k) || !(decide (0 < x.lf k))
/-- nothing is late behind the tick -/
def okEnd (l : List S43) (rs : List Int) (t : Int) (y : Sm) : Bool := (List.range l.length).all fun k => !(decide (0 < y.lf k) && decide (rd rs (k : Int) ≤ t + 1 - y.cm k)) && !(decide ((rd_T43 l (k : Int)).f2 < rd rs (k : Int)))
def okM (l : List S43) (st : List Int) (ord : List Nat) (rs : List Int) : List Bool → Int → Sm → Bool
  | [], _, _ => true
  | g :: r, t, x => okRel l st t x && okEnd l rs t (tickM l st ord t g x) && okM l st ord rs r (t + 1) (tickM l st ord t g x)
def m0 : Sm := ⟨fun _ => 0, fun _ => 0, fun _ => 0⟩
def moL (l : List S43) (st : List Int) (ord : List Nat) (row : List Bool) : List Int := (List.range l.length).map (runM l st ord row 0 m0).mo
theorem relM_zero (l : List S43) (st : List Int) (t : Int) (x : Sm) : relM l st t 0 x = x := by
  unfold relM; simp
theorem relM_not {l : List S43} {st : List Int} {t : Int} {kk : Nat} (x : Sm) (h : rc l st t kk = false) : relM l st t (kk + 1) x = relM l st t kk x := by
  have e : ∀ k, (k < kk + 1 ∧ rc l st t k = true) ↔ (k < kk ∧ rc l st t k = true) := by
    intro k
    constructor
    · rintro ⟨h1, h2⟩
      refine ⟨?_, h2⟩
      by_cases e : k = kk
      · subst e; rw [h] at h2; cases h2
      · omega
    · rintro ⟨h1, h2⟩; exact ⟨by omega, h2⟩
  unfold relM
  congr 1
  · funext k
    simp only [e k]
  · funext k
    simp only [e k]
theorem relM_lf {l : List S43} {st : List Int} {t : Int} {kk : Nat} (x : Sm) : (relM l st t kk x).lf kk = x.lf kk := by
  unfold relM; simp
theorem relM_some {l : List S43} {st : List Int} {t : Int} {kk : Nat} (x : Sm) (h : rc l st t kk = true) :
    (relM l st t (kk + 1) x).lf = upd (relM l st t kk x).lf kk (rd_T43 l (kk : Int)).f1 ∧ (relM l st t (kk + 1) x).cm = upd (relM l st t kk x).cm kk t ∧ (relM l st t (kk + 1) x).mo = (relM l st t kk x).mo := by
  refine ⟨?_, ?_, rfl⟩
  · funext k
    unfold relM upd
    by_cases e : k = kk
    · subst e; simp [h]
    · have : k < kk + 1 ↔ k < kk := by omega
      simp [e, this]
  · funext k
    unfold relM upd
    by_cases e : k = kk
    · subst e; simp [h]
    · have : k < kk + 1 ↔ k < kk := by omega
      simp [e, this]
/-- the numbers are small -/
structure InvM (n : Nat) (x : Sm) : Prop where
  lf : ∀ k, k < n → 0 ≤ x.lf k ∧ x.lf k ≤ 1152921504606846976
  cm : ∀ k, k < n → 0 ≤ x.cm k ∧ x.cm k ≤ 4096
theorem InvM.zero (n : Nat) : InvM n m0 := ⟨fun _ _ => ⟨by simp [m0], by simp [m0]⟩, fun _ _ => ⟨by simp [m0], by simp [m0]⟩⟩
theorem InvM.rel {l : List S43} {st : List Int} {t : Int} {n : Nat} {x : Sm} (h : InvM n x) (kk : Nat) (ht : 0 ≤ t ∧ t ≤ 4096) (hC : ∀ k, k < n → 1 ≤ (rd_T43 l (k : Int)).f1 ∧ (rd_T43 l (k : Int)).f1 ≤ 1152921504606846976) : InvM n (relM l st t kk x) := by
  refine ⟨fun k hk => ?_, fun k hk => ?_⟩
  · simp only [relM]
    split
    · have := hC k hk; omega
    · exact h.lf k hk
  · simp only [relM]
    split
    · exact ht
    · exact h.cm k hk
theorem InvM.give {t : Int} {n : Nat} : ∀ (ord : List Nat) {x : Sm}, InvM n x → InvM n (giveM t ord x)
  | [], x, h => h
  | i :: r, x, h => by
    unfold giveM
    split
    · split
      · refine ⟨fun k hk => ?_, h.cm⟩
        by_cases e : k = i
        · subst e; simp only [upd_same]; omega
        · simp only [upd_other _ _ e]; exact h.lf k hk
      · refine ⟨fun k hk => ?_, h.cm⟩
        by_cases e : k = i
        · subst e
          simp only [upd_same]
          have := h.lf k hk
          omega
        · simp only [upd_other _ _ e]; exact h.lf k hk
    · exact InvM.give r h
theorem giveM_skip {t : Int} {i : Nat} {r : List Nat} {x : Sm} (h : ¬ 0 < x.lf i) : giveM t (i :: r) x = giveM t r x := by
  conv => lhs; unfold giveM
  rw [if_neg h]
theorem giveM_last {t : Int} {i : Nat} {r : List Nat} {x : Sm} (h : x.lf i = 1) : giveM t (i :: r) x = ⟨upd x.lf i 0, x.cm, upd x.mo i (max (x.mo i) (t + 1 - x.cm i))⟩ := by
  conv => lhs; unfold giveM
  rw [if_pos (by omega), if_pos h]
theorem giveM_less {t : Int} {i : Nat} {r : List Nat} {x : Sm} (h0 : 0 < x.lf i) (h : x.lf i ≠ 1) : giveM t (i :: r) x = ⟨upd x.lf i (x.lf i - 1), x.cm, x.mo⟩ := by
  conv => lhs; unfold giveM
  rw [if_pos h0, if_neg h]
theorem okRel_at {l : List S43} {st : List Int} {t : Int} {x : Sm} (h : okRel l st t x = true) {k : Nat} (hk : k < l.length) (hr : rc l st t k = true) : ¬ 0 < x.lf k := by
  unfold okRel at h
  have := List.all_eq_true.1 h k (List.mem_range.2 hk)
  rw [hr] at this
  simpa using this
theorem okEnd_at {l : List S43} {rs : List Int} {t : Int} {y : Sm} (h : okEnd l rs t y = true) {k : Nat} (hk : k < l.length) : ¬ (0 < y.lf k ∧ rd rs (k : Int) ≤ t + 1 - y.cm k) ∧ ¬ (rd_T43 l (k : Int)).f2 < rd rs (k : Int) := by
  unfold okEnd at h
  have := List.all_eq_true.1 h k (List.mem_range.2 hk)
  simp only [Bool.and_eq_true, Bool.not_eq_true', Bool.and_eq_false_iff, decide_eq_false_iff_not] at this
  omega
end Go.Proofs.YtdonlmbhamcjdaaRRR.J
