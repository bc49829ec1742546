/- Proved here: what the machine does at calls of the functions that the laws reach is what plain functions of the same names say, or a row of the given statement out of that. No conditions. Written by a program of this session over the printer of the kit. -/
import Derived.Test.YtaoicceakgipgaaBx0
import Derived.Test.YtaoicceakgipgaaBx1
namespace Go.Proofs.Ytaoicceakgipgaa.B
open Go.RowKit Go.Proofs.YtaoicceakgipgaaW.PrintWords Go.Proofs.YtaoicceakgipgaaW.PrintLast Go.Proofs.YtaoicceakgipgaaW.PrintMore
attribute [local go_sem] max2_int min2_int max_two min_two max_three min_three max_four min_four   -- for this text's walks alone
set_option linter.unusedVariables false
set_option linter.unusedSimpArgs false

def supply_row.bad (x : S24) : Bool := decide (x.f0 < 1 ∨ x.f1 > 1048576 ∨ x.f0 > x.f1)
theorem supply_row.valid (x : S24) : ∃ r, fixed_Valid.f x.f0 x.f1 = some r ∧ r.isSome = supply_row.bad x := by
 unfold fixed_Valid.f supply_row.bad
 by_cases h1 : x.f0 < 1
 ·exact ⟨_, if_pos h1, by rw [decide_eq_true (.inl h1)]; rfl⟩
 ·by_cases h2 : x.f1 > 1048576
  ·exact ⟨_, by rw [if_neg h1, if_pos h2], by rw [decide_eq_true (.inr (.inl h2))]; rfl⟩
  ·by_cases h3 : x.f0 > x.f1
   ·exact ⟨_, by rw [if_neg h1, if_neg h2, if_pos h3], by rw [decide_eq_true (.inr (.inr h3))]; rfl⟩
   ·exact ⟨_, by rw [if_neg h1, if_neg h2, if_neg h3], by rw [decide_eq_false (by rintro (h | h | h) <;> contradiction)]; rfl⟩
set_option maxHeartbeats 2000000 in
theorem supply_row.closure (x : S24) (w : World) : Calls Try.prog 22 #[.agg #[.int .i64 x.f0, .int .i64 x.f1]] w fun e w' => e = .returned (.bool (supply_row.bad x)) ∧ Below w.heap.size w w' := by
 obtain ⟨r, h1, h2⟩ := supply_row.valid x
 generalize supply_row.bad x = q at h2 ⊢
 have HC := fun W => fixed_Valid.calls _ _ _ W h1
 clear h1
 have hu24 := Try.underlying24
 rcases r with _ | e
 ·obtain rfl : false = q := h2
  try simp only [errW_none, errW_some] at HC
  go_enter Try.func22, Try.ntmps22
  go_wp2_with (first | (go_at_call 17; refine (HC _).mono ?_; rintro e w' ⟨rfl, hb'⟩) | go_in)
  all_goals (go_ret; exact ⟨by first | rfl | simp_all, ((Below.refl _ w).alloc (Nat.le_refl _) _).trans (hb'.mono (by simp))⟩)
 ·obtain rfl : true = q := h2
  try simp only [errW_none, errW_some] at HC
  go_enter Try.func22, Try.ntmps22
  go_wp2_with (first | (go_at_call 17; refine (HC _).mono ?_; rintro e w' ⟨rfl, hb'⟩) | go_in)
  all_goals (go_ret; exact ⟨by first | rfl | simp_all, ((Below.refl _ w).alloc (Nat.le_refl _) _).trans (hb'.mono (by simp))⟩)

theorem rd_T24_get {l : List S24} {i : Nat} (h : i < l.length) : rd_T24 l (i : Int) = l[i] := by
 simp [rd_T24, List.getD, List.getElem?_eq_getElem h]
theorem rd_T24_mem {l : List S24} {i : Nat} (h : i < l.length) : rd_T24 l (i : Int) ∈ l := by
 rw [rd_T24_get h]; exact List.getElem_mem h
theorem any_false {l : List S24} {p : S24 → Bool} (h : ∀ j : Nat, j < l.length → p (rd_T24 l (j : Int)) = false) : l.any p = false := by
 rw [List.any_eq_false]
 intro x hx
 obtain ⟨i, hi, rfl⟩ := List.getElem_of_mem hx
 rw [← rd_T24_get hi, h i hi]; simp
set_option maxHeartbeats 4000000 in
/-- slices.IndexFunc with that closure -/
theorem supply_row.index (A0 : Option Addr) (c0 : Nat) (l0 : List S24) (w : World) (hr0 : Kd.C k24 w A0 l0.length l0) (hc0 : l0.length ≤ c0) (hl : l0.length ≤ 140737488351232) :
  Calls Try.prog 24 #[.slice A0 l0.length c0, .func (.func 22) #[] #[]] w fun e w' => (∃ i : Int, e = .returned (.int .i64 i) ∧ decide (i ≥ 0) = l0.any supply_row.bad) ∧ Below w.heap.size w w' := by
 have hu24 := Try.underlying24
 have HR0 := Aside0.mk hr0
 have HC0 := Aside0.mk hc0
 have HL := Aside0.mk hl
 clear hr0 hc0 hl
 have HB := Aside0.mk (Below.refl w.heap.size w)
 go_enter Try.func24, Try.ntmps24
 go_wp2
 go_loopg [5, 8] l0.length (fun gg _ s8 wr => ∃ kk : Nat, kk ≤ l0.length ∧ l0.length - kk ≤ gg ∧ s8 = .int .i64 kk ∧ Aside0 (Below w.heap.size w wr) ∧ Aside0 (∀ j : Nat, j < kk → supply_row.bad (rd_T24 l0 (j : Int)) = false))
 case atStart => exact ⟨0, Nat.zero_le _, by omega, rfl, ⟨HB.out⟩, ⟨fun j hj => absurd hj (Nat.not_lt_zero _)⟩⟩
 case round =>
  obtain ⟨kk, hkk, hg, rfl, BW, A⟩ := hrel
  by_cases hlt : kk < l0.length
  ·have hltz : (kk : Int) < (l0.length : Int) := by omega
   have h0 : 0 ≤ (kk : Int) := by omega
   obtain ⟨ad, e1, hx0, hx1⟩ := at_T24 HR0.out (kk : Int) h0 hltz
   cases e1
   replace hx0 := (BW.out.cell (World.block_lt_of_cell? w _ hx0)).trans hx0
   replace hx1 := (BW.out.cell (World.block_lt_of_cell? w _ hx1)).trans hx1
   generalize hx : rd_T24 l0 (kk : Int) = x at hx0 hx1
   simp only [Int.toNat_natCast] at hx0 hx1
   have hcall := fun W => supply_row.closure x W
   have HLl := HL
   clear HR0 HC0 HL HB
   generalize hq : supply_row.bad x = q at hcall
   have hq' : Aside0 (supply_row.bad x = q) := ⟨hq⟩
   have hx' : Aside0 (rd_T24 l0 (kk : Int) = x) := ⟨hx⟩
   clear hx hq
   cases q with
   | true =>
    go_wp2_with (first | (go_at_call 22; refine (hcall _).mono ?_; rintro e w' ⟨rfl, hb'⟩))
    all_goals (go_ret; exact ⟨⟨kk, rfl, by rw [decide_eq_true (by omega : (kk : Int) ≥ 0)]; exact (List.any_eq_true.2 ⟨x, by rw [← hx'.out]; exact rd_T24_mem hlt, hq'.out⟩).symm⟩, BW.out.trans (hb'.mono BW.out.size)⟩)
   | false =>
    go_wp2_with (first | (go_at_call 22; refine (hcall _).mono ?_; rintro e w' ⟨rfl, hb'⟩))
    go_roundg (l0.length - (kk + 1))
    case measure => omega
    case rel => exact ⟨kk + 1, by omega, by omega, by rw [show wrap64 ((kk : Int) + 1) = ((kk + 1 : Nat) : Int) by unfold wrap64; have := HLl.out; omega], ⟨BW.out.trans (hb'.mono BW.out.size)⟩, ⟨fun j hj => by
     by_cases h : j = kk
     ·rw [h, hx'.out]; exact hq'.out
     ·exact A.out j (by omega)⟩⟩
  ·obtain rfl : kk = l0.length := by omega
   go_wp2
   all_goals (go_ret; exact ⟨⟨-1, rfl, by rw [decide_eq_false (by omega : ¬ (-1 : Int) ≥ 0)]; exact (any_false A.out).symm⟩, BW.out⟩)

theorem supply_row.contains (A0 : Option Addr) (c0 : Nat) (l0 : List S24) (w : World) (hr0 : Kd.C k24 w A0 l0.length l0) (hc0 : l0.length ≤ c0) (hl : l0.length ≤ 140737488351232) :
  Calls Try.prog 21 #[.slice A0 l0.length c0, .func (.func 22) #[] #[]] w fun e w' => e = .returned (.bool (l0.any supply_row.bad)) ∧ Below w.heap.size w w' := by
 have hcall := supply_row.index A0 c0 l0 w hr0 hc0 hl
 clear hr0
 generalize l0.any supply_row.bad = q at hcall ⊢
 go_enter Try.func21, Try.ntmps21
 go_wp2_with (first | (go_at_call 24; refine hcall.mono ?_; rintro e w' ⟨⟨i, rfl, hi⟩, hb'⟩))
 all_goals (go_ret; exact ⟨by rw [← hi]; rfl, hb'⟩)

def supply_row.f (l0 : List S24) (a1 : Int) : Option (Option Int) :=
 if l0.length ≤ 140737488351232 then some (if a1 < 0 ∨ a1 > 1073741824 then some 1 else if l0.any supply_row.bad = true then some 2 else if (l0.length : Int) > 8 then some 3 else none) else none
set_option maxHeartbeats 4000000 in
theorem supply_row.calls (A0 : Option Addr) (c0 : Nat) (l0 : List S24) (a1 : Int) (r : Option Int) (w : World) (hr0 : Kd.C k24 w A0 l0.length l0) (hc0 : l0.length ≤ c0) (h : supply_row.f l0 a1 = some r) :
  Calls Try.prog 18 #[.slice A0 l0.length c0, .int .i64 a1] w fun e w' => e = .returned (errW r) ∧ Below w.heap.size w w' := by
 unfold supply_row.f at h
 by_cases hl : l0.length ≤ 140737488351232
 case neg => rw [if_neg hl] at h; exact absurd h (by simp)
 rw [if_pos hl] at h
 have hcall := supply_row.contains A0 c0 l0 w hr0 hc0 hl
 clear hr0
 generalize l0.any supply_row.bad = q at hcall h
 have hu27 := Try.underlying27
 by_cases h1 : a1 < 0
 ·rw [if_pos (.inl h1)] at h
  obtain rfl := Option.some.inj h
  have b1 : decide (a1 < 0) = true := decide_eq_true h1
  go_enter Try.func18, Try.ntmps18
  go_wp2
  all_goals (go_ret; exact ⟨rfl, Below.refl _ w⟩)
 ·have b1 : decide (a1 < 0) = false := decide_eq_false h1
  by_cases h2 : a1 > 1073741824
  ·rw [if_pos (.inr h2)] at h
   obtain rfl := Option.some.inj h
   have b2 : decide (1073741824 < a1) = true := decide_eq_true h2
   go_enter Try.func18, Try.ntmps18
   go_wp2
   all_goals (go_ret; exact ⟨rfl, Below.refl _ w⟩)
  ·have b2 : decide (1073741824 < a1) = false := decide_eq_false h2
   rw [if_neg (by omega)] at h
   cases q with
   | true =>
    rw [if_pos rfl] at h
    obtain rfl := Option.some.inj h
    go_enter Try.func18, Try.ntmps18
    go_wp2_with (first | (go_at_call 21; refine hcall.mono ?_; rintro e w' ⟨rfl, hb'⟩))
    all_goals (go_ret; exact ⟨rfl, hb'⟩)
   | false =>
    rw [if_neg (by simp)] at h
    by_cases h3 : (l0.length : Int) > 8
    ·rw [if_pos h3] at h
     obtain rfl := Option.some.inj h
     have b3 : decide (8 < (l0.length : Int)) = true := decide_eq_true h3
     go_enter Try.func18, Try.ntmps18
     go_wp2_with (first | (go_at_call 21; refine hcall.mono ?_; rintro e w' ⟨rfl, hb'⟩))
     all_goals (go_ret; exact ⟨rfl, hb'⟩)
    ·rw [if_neg h3] at h
     obtain rfl := Option.some.inj h
     have b3 : decide (8 < (l0.length : Int)) = false := decide_eq_false h3
     go_enter Try.func18, Try.ntmps18
     go_wp2_with (first | (go_at_call 21; refine hcall.mono ?_; rintro e w' ⟨rfl, hb'⟩))
     all_goals (go_ret; exact ⟨rfl, hb'⟩)

end Go.Proofs.Ytaoicceakgipgaa.B
