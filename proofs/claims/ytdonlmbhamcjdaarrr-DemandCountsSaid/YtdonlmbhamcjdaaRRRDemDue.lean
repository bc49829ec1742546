/- What is asked for, what is due: of one entry, or the errors. No conditions. -/
import Derived.Test.YtdonlmbhamcjdaaRRRDemBase
import Derived.Test.YtdonlmbhamcjdaaRRREx12
import Derived.Test.YtdonlmbhamcjdaaRRREx12
namespace Go.Proofs.YtdonlmbhamcjdaaRRR.Pure
open Go Go.RowKit Tithe Go.Proofs.YtdonlmbhamcjdaaRRR.E Go.Proofs.YtdonlmbhamcjdaaRRRW.PrintWords Go.Proofs.YtdonlmbhamcjdaaRRRW.PrintLast Go.Proofs.YtdonlmbhamcjdaaRRRW.PrintMore

theorem one_eq (x : S43) (t : Int) : demand_one.f x.f0 x.f1 x.f2 x.f3 t = some (if okp x then (if 0 ≤ t ∧ t ≤ 1073741824 then none else some 1) else some 2) := by
  unfold demand_one.f
  rw [valid_eq, is_eq]
  by_cases h : okp x
  · rw [if_pos h, decide_eq_true h]
    simp only [Option.bind_some, if_true]
    by_cases h2 : 0 ≤ t ∧ t ≤ 1073741824
    · rw [if_pos h2, decide_eq_true h2]; rfl
    · rw [if_neg h2, decide_eq_false h2]; rfl
  · rw [if_neg h, decide_eq_false h]; rfl
theorem Requests_ok {x : S43} (hx : okp x) {t : Int} (h0 : 0 ≤ t) (h1 : t ≤ 1073741824) : demand_Requests.f x.f0 x.f1 x.f2 x.f3 t = some (rq x t, none) := by
  unfold demand_Requests.f
  rw [one_eq, if_pos hx, if_pos ⟨h0, h1⟩]
  simp only [Option.bind_some, Option.isNone_none, if_true]
  rw [requests_ok hx h0 (by omega)]; rfl
theorem Requests_bad {x : S43} (hx : ¬ okp x) (t : Int) : demand_Requests.f x.f0 x.f1 x.f2 x.f3 t = some (0, some 2) := by
  unfold demand_Requests.f
  rw [one_eq, if_neg hx]; rfl
theorem Requests_late {x : S43} (hx : okp x) {t : Int} (h : ¬ (0 ≤ t ∧ t ≤ 1073741824)) : demand_Requests.f x.f0 x.f1 x.f2 x.f3 t = some (0, some 1) := by
  unfold demand_Requests.f
  rw [one_eq, if_pos hx, if_neg h]; rfl
/-- what is due till a time -/
def du (x : S43) (t : Int) : Int := if t < x.f2 then 0 else x.f1 * ((t - x.f2) / x.f0 + 1)
theorem du_bounds {x : S43} (hx : okp x) {t : Int} (h0 : 0 ≤ t) (h1 : t ≤ 1073741824) : 0 ≤ du x t ∧ du x t ≤ 2251799813685248 := by
  obtain ⟨a, b, c, d, e, _⟩ := hx
  unfold du
  by_cases h : t < x.f2
  · rw [if_pos h]; omega
  · rw [if_neg h]
    have q0 : 0 ≤ (t - x.f2) / x.f0 := Int.ediv_nonneg (by omega) (by omega)
    have q1 : (t - x.f2) / x.f0 ≤ t - x.f2 := Int.ediv_le_self _ (by omega)
    refine ⟨Int.mul_nonneg (by omega) (by omega), ?_⟩
    have : x.f1 * ((t - x.f2) / x.f0 + 1) ≤ 1048576 * 1073741825 := Int.mul_le_mul d (by omega) (by omega) (by omega)
    omega
theorem due_ok {x : S43} (hx : okp x) {t : Int} (h0 : 0 ≤ t) (h1 : t ≤ 1073741824) : demand_due.f x.f0 x.f1 x.f2 x.f3 t = some (du x t) := by
  have hb := du_bounds hx h0 h1
  obtain ⟨a, b, c, d, e, _⟩ := hx
  unfold demand_due.f
  unfold du at *
  by_cases h : t < x.f2
  · rw [if_pos h, if_pos h]
  · rw [if_neg h] at hb
    rw [if_neg h, if_neg h]
    have q0 : 0 ≤ (t - x.f2) / x.f0 := Int.ediv_nonneg (by omega) (by omega)
    have q1 : (t - x.f2) / x.f0 ≤ t - x.f2 := Int.ediv_le_self _ (by omega)
    rw [if_neg (by omega), w64 (n := t - x.f2) (by omega) (by omega), tdiv_pos (by omega), w64 (n := (t - x.f2) / x.f0) (by omega) (by omega), w64 (n := (t - x.f2) / x.f0 + 1) (by omega) (by omega), w64 (by omega) (by omega)]
theorem Due_ok {x : S43} (hx : okp x) {t : Int} (h0 : 0 ≤ t) (h1 : t ≤ 1073741824) : demand_Due.f x.f0 x.f1 x.f2 x.f3 t = some (du x t, none) := by
  unfold demand_Due.f
  rw [one_eq, if_pos hx, if_pos ⟨h0, h1⟩]
  simp only [Option.bind_some, Option.isNone_none, if_true]
  rw [due_ok hx h0 h1]; rfl
theorem Due_bad {x : S43} (hx : ¬ okp x) (t : Int) : demand_Due.f x.f0 x.f1 x.f2 x.f3 t = some (0, some 2) := by
  unfold demand_Due.f
  rw [one_eq, if_neg hx]; rfl
theorem Due_late {x : S43} (hx : okp x) {t : Int} (h : ¬ (0 ≤ t ∧ t ≤ 1073741824)) : demand_Due.f x.f0 x.f1 x.f2 x.f3 t = some (0, some 1) := by
  unfold demand_Due.f
  rw [one_eq, if_pos hx, if_neg h]; rfl
end Go.Proofs.YtdonlmbhamcjdaaRRR.Pure
