/- Small words for the plain laws: a function with rounds answers, eventually; sums that do not wrap. No conditions. -/
import Derived.RowKit
namespace Tithe
open Go Go.RowKit

/-- a fact that omega does not look into -/
structure Hd (p : Prop) : Prop where
  out : p

/-- from some number of rounds on the answer is r -/
def Evt {α : Type} (g : Nat → Option α) (r : α) : Prop := ∃ K, ∀ k, K ≤ k → g k = some r

theorem Evt.ex {α : Type} {g : Nat → Option α} {r : α} (h : Evt g r) : ∃ k, g k = some r := by
  obtain ⟨K, h⟩ := h; exact ⟨K, h K (Nat.le_refl _)⟩
theorem Evt.pure {α : Type} {g : Nat → Option α} {r : α} (h : ∀ k, g k = some r) : Evt g r := ⟨0, fun k _ => h k⟩
theorem Evt.succ {α : Type} {g : Nat → Option α} {r : α} (h : Evt (fun k => g (k + 1)) r) : Evt g r := by
  obtain ⟨K, h⟩ := h
  refine ⟨K + 1, fun k hk => ?_⟩
  obtain ⟨m, rfl⟩ : ∃ m, k = m + 1 := ⟨k - 1, by omega⟩
  exact h m (by omega)
theorem Evt.congr {α : Type} {g g' : Nat → Option α} {r : α} (h : Evt g' r) (e : ∀ k, g k = g' k) : Evt g r := by
  obtain ⟨K, h⟩ := h; exact ⟨K, fun k hk => by rw [e]; exact h k hk⟩
theorem Evt.bind {α β : Type} {g : Nat → Option α} {f : Nat → α → Option β} {a : α} {r : β} (h : Evt g a) (h2 : Evt (fun k => f k a) r) :
    Evt (fun k => (g k).bind (f k)) r := by
  obtain ⟨K, h⟩ := h; obtain ⟨L, h2⟩ := h2
  exact ⟨K + L, fun k hk => by show (g k).bind (f k) = some r; rw [h k (by omega)]; exact h2 k (by omega)⟩
theorem Evt.ifp {α : Type} {c : Prop} [Decidable c] {a b : Nat → Option α} {r : α} (h : c) (h2 : Evt a r) : Evt (fun k => if c then a k else b k) r := by
  simp only [if_pos h]; exact h2
theorem Evt.ifn {α : Type} {c : Prop} [Decidable c] {a b : Nat → Option α} {r : α} (h : ¬ c) (h2 : Evt b r) : Evt (fun k => if c then a k else b k) r := by
  simp only [if_neg h]; exact h2
/-- a call without rounds -/
theorem Evt.call {α β : Type} {o : Option α} {f : Nat → α → Option β} {a : α} {r : β} (h : o = some a) (h2 : Evt (fun k => f k a) r) :
    Evt (fun k => o.bind (f k)) r := by
  subst h; exact h2
/-- two answers of one function are one -/
theorem Evt.inj {α : Type} {g : Nat → Option α} {a b : α} (h : Evt g a) (h2 : Evt g b) : a = b := by
  obtain ⟨K, h⟩ := h; obtain ⟨L, h2⟩ := h2
  have := (h (K + L) (by omega)).symm.trans (h2 (K + L) (by omega))
  exact Option.some.inj this

theorem w64 {n : Int} (h0 : -9223372036854775808 ≤ n) (h1 : n ≤ 9223372036854775807) : wrap64 n = n := by unfold wrap64; omega

theorem w1 (i : Nat) (h : i ≤ 9223372036854775806) : wrap64 ((i : Int) + 1) = ((i + 1 : Nat) : Int) := by rw [w64 (by omega) (by omega)]; omega

theorem wf64 {n : Int} (h : (Lit.int .i64 n).wf = true) : -9223372036854775808 ≤ n ∧ n ≤ 9223372036854775807 := by
  simp only [Lit.wf, IntKind.min, IntKind.max, IntKind.signed, IntKind.bits, Bool.and_eq_true, decide_eq_true_eq, if_true] at h
  omega

theorem u64_eq (n : Int) : IntKind.u64.wrap n = n % 18446744073709551616 := by
  simp only [IntKind.wrap, IntKind.signed, IntKind.bits]; rfl
theorem u64_nonneg (n : Int) : 0 ≤ IntKind.u64.wrap n := by rw [u64_eq]; omega
theorem u64_lt (n : Int) : IntKind.u64.wrap n < 18446744073709551616 := by rw [u64_eq]; omega
theorem u64_same {n : Int} (h0 : 0 ≤ n) (h1 : n ≤ 9223372036854775807) : IntKind.u64.wrap n = n := by rw [u64_eq]; omega

theorem tmod_pos {a b : Int} (ha : 0 ≤ a) : Int.tmod a b = a % b := Int.tmod_eq_emod_of_nonneg ha
theorem tdiv_pos {a b : Int} (ha : 0 ≤ a) : Int.tdiv a b = a / b := Int.tdiv_eq_ediv_of_nonneg ha

/-- n modulo c, as an unsigned number, plus 1 -/
theorem umod {n c : Int} (hc : 1 ≤ c) (hc2 : c ≤ 9223372036854775807) : 0 ≤ wrap64 (Int.tmod (IntKind.u64.wrap n) c) ∧ wrap64 (Int.tmod (IntKind.u64.wrap n) c) < c := by
  rw [tmod_pos (u64_nonneg n)]
  have h0 := Int.emod_nonneg (IntKind.u64.wrap n) (b := c) (by omega)
  have h1 := Int.emod_lt_of_pos (IntKind.u64.wrap n) (b := c) (by omega)
  rw [w64 (by omega) (by omega)]; exact ⟨h0, h1⟩
/-- (a % c + c) % c -/
theorem pmod {a c : Int} (hc : 1 ≤ c) (h : c ≤ 1099511627776) : 0 ≤ Int.tmod (wrap64 (Int.tmod a c + c)) c ∧ Int.tmod (wrap64 (Int.tmod a c + c)) c < c := by
  have h1 := Int.tmod_lt_of_pos a (b := c) (by omega)
  have h2 := Int.lt_tmod_of_pos a (b := c) (by omega)
  have e : wrap64 (Int.tmod a c + c) = Int.tmod a c + c := w64 (by omega) (by omega)
  rw [e, tmod_pos (by omega)]
  exact ⟨Int.emod_nonneg _ (by omega), Int.emod_lt_of_pos _ (by omega)⟩
end Tithe
