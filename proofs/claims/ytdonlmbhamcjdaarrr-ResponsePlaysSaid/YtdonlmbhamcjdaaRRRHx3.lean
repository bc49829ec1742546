/- Proved here: what the machine does at calls of the functions that the laws reach is what plain functions of the same names say, or a row of the given statement out of that. No conditions. Written by a program of this session over the printer of the kit. -/
import Derived.Test.YtdonlmbhamcjdaaRRRHx0
import Derived.Test.YtdonlmbhamcjdaaRRRHx2
namespace Go.Proofs.YtdonlmbhamcjdaaRRR.H
open Go.RowKit Go.Proofs.YtdonlmbhamcjdaaRRRW.PrintWords Go.Proofs.YtdonlmbhamcjdaaRRRW.PrintLast Go.Proofs.YtdonlmbhamcjdaaRRRW.PrintMore
attribute [local go_sem] max2_int min2_int max_two min_two max_three min_three max_four min_four   -- for this text's walks alone
set_option linter.unusedVariables false
set_option linter.unusedSimpArgs false

/-! ### fixed_Valid: function 89 -/
def fixed_Valid.f (a0_0 : Int) (a0_1 : Int) : Option (Option Int) := if a0_0 < 1 then (some (some 2)) else (if a0_1 > 1048576 then (some (some 2)) else (if a0_0 > a0_1 then (some (some 2)) else (some none)))
set_option maxHeartbeats 8000000 in
set_option maxRecDepth 100000 in
theorem fixed_Valid.calls (a0_0 : Int) (a0_1 : Int) (r : Option Int) (w : World) (h : fixed_Valid.f a0_0 a0_1 = some r) :
  Calls Try.prog 89 #[.agg #[.int .i64 a0_0, .int .i64 a0_1]] w fun e w' => e = .returned (errW r) ∧ Below w.heap.size w w' := by
 have hu64 := Try.underlying64
 have hu25 := Try.underlying25
 have hu72 := Try.underlying72
 have HB := Aside0.mk (Below.refl w.heap.size w)
 have H : (if a0_0 < 1 then (some (some 2)) else (if a0_1 > 1048576 then (some (some 2)) else (if a0_0 > a0_1 then (some (some 2)) else (some none)))) = some r := h
 clear h
 by_cases c2 : a0_0 < 1
 ·rw [if_pos c2] at H
  have c2b0 : decide (a0_0 < 1) = true := decide_eq_true c2
  clear c2
  obtain rfl := Option.some.inj H
  go_enter Try.func89, Try.ntmps89
  go_wp2_with (first | ((with_reducible refine gate_dst (N := 1) rfl ?_); refine box_event ?hg (N := 1) ?hd (cs := #[.int .i64 a0_0, .int .i64 a0_1]) (t := 64) ?hr ?_; (case hd => rfl); (case hg => rfl); (case hr => first | (go_simp; done) | (go_simp; rfl)); intro gb115 hg w3 hbox hb; have n0_ := Aside0.mk (below_step (by repeat (first | (with_reducible first | exact HB.out | apply below_alloc | apply pw_below_drewN | apply below_drew1) | exact HB.out)) hb); have n1_ := Aside0.mk (hbox); have n2_ := Aside0.mk ((by rw [hg]; exact (below_size (by repeat (first | (with_reducible first | exact HB.out | apply below_alloc | apply pw_below_drewN | apply below_drew1) | exact HB.out))) : w.heap.size ≤ gb115)); have n3_ := Aside0.mk ((by rw [hg]; exact (below_size (by repeat (first | (with_reducible first | exact HB.out | apply below_alloc | apply pw_below_drewN | apply below_drew1) | exact HB.out))) : w.heap.size ≤ gb115)); clear HB; have HB := n0_; have BK115 := n1_; have GW115 := n2_; have GE115 := n3_; clear n0_ n1_ n2_ n3_; clear hb hbox hg; have hcz4_0 : w3.cell? ⟨gb115, 0, none⟩ = some (.int .i64 a0_0) := (blk_cell BK115.out 0).trans (by rfl); have hcz4_1 : w3.cell? ⟨gb115, 1, none⟩ = some (.int .i64 a0_1) := (blk_cell BK115.out 1).trans (by rfl); have hfz4_0 := blk_frozen BK115.out 0; have hfz4_1 := blk_frozen BK115.out 1))
  go_ret
  exact ⟨by first | rfl | (simp [errW_none, errW_some] <;> rfl) | (simp [*, errW_none, errW_some] <;> rfl), by repeat (first | (with_reducible first | exact HB.out | apply below_alloc | apply pw_below_drewN | apply below_drew1 | refine below_set ?_ GE115.out) | exact HB.out)⟩
 ·rw [if_neg c2] at H
  have c2b0 : decide (a0_0 < 1) = false := decide_eq_false c2
  clear c2
  by_cases c5 : a0_1 > 1048576
  ·rw [if_pos c5] at H
   have c5b0 : decide (1048576 < a0_1) = true := decide_eq_true c5
   clear c5
   obtain rfl := Option.some.inj H
   go_enter Try.func89, Try.ntmps89
   go_wp2_with (first | ((with_reducible refine gate_dst (N := 1) rfl ?_); refine box_event ?hg (N := 1) ?hd (cs := #[.int .i64 a0_0, .int .i64 a0_1]) (t := 64) ?hr ?_; (case hd => rfl); (case hg => rfl); (case hr => first | (go_simp; done) | (go_simp; rfl)); intro gb115 hg w6 hbox hb; have n0_ := Aside0.mk (below_step (by repeat (first | (with_reducible first | exact HB.out | apply below_alloc | apply pw_below_drewN | apply below_drew1) | exact HB.out)) hb); have n1_ := Aside0.mk (hbox); have n2_ := Aside0.mk ((by rw [hg]; exact (below_size (by repeat (first | (with_reducible first | exact HB.out | apply below_alloc | apply pw_below_drewN | apply below_drew1) | exact HB.out))) : w.heap.size ≤ gb115)); have n3_ := Aside0.mk ((by rw [hg]; exact (below_size (by repeat (first | (with_reducible first | exact HB.out | apply below_alloc | apply pw_below_drewN | apply below_drew1) | exact HB.out))) : w.heap.size ≤ gb115)); clear HB; have HB := n0_; have BK115 := n1_; have GW115 := n2_; have GE115 := n3_; clear n0_ n1_ n2_ n3_; clear hb hbox hg; have hcz7_0 : w6.cell? ⟨gb115, 0, none⟩ = some (.int .i64 a0_0) := (blk_cell BK115.out 0).trans (by rfl); have hcz7_1 : w6.cell? ⟨gb115, 1, none⟩ = some (.int .i64 a0_1) := (blk_cell BK115.out 1).trans (by rfl); have hfz7_0 := blk_frozen BK115.out 0; have hfz7_1 := blk_frozen BK115.out 1))
   go_ret
   exact ⟨by first | rfl | (simp [errW_none, errW_some] <;> rfl) | (simp [*, errW_none, errW_some] <;> rfl), by repeat (first | (with_reducible first | exact HB.out | apply below_alloc | apply pw_below_drewN | apply below_drew1 | refine below_set ?_ GE115.out) | exact HB.out)⟩
  ·rw [if_neg c5] at H
   have c5b0 : decide (1048576 < a0_1) = false := decide_eq_false c5
   clear c5
   by_cases c8 : a0_0 > a0_1
   ·rw [if_pos c8] at H
    have c8b0 : decide (a0_1 < a0_0) = true := decide_eq_true c8
    clear c8
    obtain rfl := Option.some.inj H
    go_enter Try.func89, Try.ntmps89
    go_wp2_with (first | ((with_reducible refine gate_dst (N := 1) rfl ?_); refine box_event ?hg (N := 1) ?hd (cs := #[.int .i64 a0_0, .int .i64 a0_1]) (t := 64) ?hr ?_; (case hd => rfl); (case hg => rfl); (case hr => first | (go_simp; done) | (go_simp; rfl)); intro gb115 hg w9 hbox hb; have n0_ := Aside0.mk (below_step (by repeat (first | (with_reducible first | exact HB.out | apply below_alloc | apply pw_below_drewN | apply below_drew1) | exact HB.out)) hb); have n1_ := Aside0.mk (hbox); have n2_ := Aside0.mk ((by rw [hg]; exact (below_size (by repeat (first | (with_reducible first | exact HB.out | apply below_alloc | apply pw_below_drewN | apply below_drew1) | exact HB.out))) : w.heap.size ≤ gb115)); have n3_ := Aside0.mk ((by rw [hg]; exact (below_size (by repeat (first | (with_reducible first | exact HB.out | apply below_alloc | apply pw_below_drewN | apply below_drew1) | exact HB.out))) : w.heap.size ≤ gb115)); clear HB; have HB := n0_; have BK115 := n1_; have GW115 := n2_; have GE115 := n3_; clear n0_ n1_ n2_ n3_; clear hb hbox hg; have hcz10_0 : w9.cell? ⟨gb115, 0, none⟩ = some (.int .i64 a0_0) := (blk_cell BK115.out 0).trans (by rfl); have hcz10_1 : w9.cell? ⟨gb115, 1, none⟩ = some (.int .i64 a0_1) := (blk_cell BK115.out 1).trans (by rfl); have hfz10_0 := blk_frozen BK115.out 0; have hfz10_1 := blk_frozen BK115.out 1))
    go_ret
    exact ⟨by first | rfl | (simp [errW_none, errW_some] <;> rfl) | (simp [*, errW_none, errW_some] <;> rfl), by repeat (first | (with_reducible first | exact HB.out | apply below_alloc | apply pw_below_drewN | apply below_drew1 | refine below_set ?_ GE115.out) | exact HB.out)⟩
   ·rw [if_neg c8] at H
    have c8b0 : decide (a0_1 < a0_0) = false := decide_eq_false c8
    clear c8
    obtain rfl := Option.some.inj H
    go_enter Try.func89, Try.ntmps89
    go_wp2_with (first | ((with_reducible refine gate_dst (N := 1) rfl ?_); refine box_event ?hg (N := 1) ?hd (cs := #[.int .i64 a0_0, .int .i64 a0_1]) (t := 64) ?hr ?_; (case hd => rfl); (case hg => rfl); (case hr => first | (go_simp; done) | (go_simp; rfl)); intro gb115 hg w11 hbox hb; have n0_ := Aside0.mk (below_step (by repeat (first | (with_reducible first | exact HB.out | apply below_alloc | apply pw_below_drewN | apply below_drew1) | exact HB.out)) hb); have n1_ := Aside0.mk (hbox); have n2_ := Aside0.mk ((by rw [hg]; exact (below_size (by repeat (first | (with_reducible first | exact HB.out | apply below_alloc | apply pw_below_drewN | apply below_drew1) | exact HB.out))) : w.heap.size ≤ gb115)); have n3_ := Aside0.mk ((by rw [hg]; exact (below_size (by repeat (first | (with_reducible first | exact HB.out | apply below_alloc | apply pw_below_drewN | apply below_drew1) | exact HB.out))) : w.heap.size ≤ gb115)); clear HB; have HB := n0_; have BK115 := n1_; have GW115 := n2_; have GE115 := n3_; clear n0_ n1_ n2_ n3_; clear hb hbox hg; have hcz12_0 : w11.cell? ⟨gb115, 0, none⟩ = some (.int .i64 a0_0) := (blk_cell BK115.out 0).trans (by rfl); have hcz12_1 : w11.cell? ⟨gb115, 1, none⟩ = some (.int .i64 a0_1) := (blk_cell BK115.out 1).trans (by rfl); have hfz12_0 := blk_frozen BK115.out 0; have hfz12_1 := blk_frozen BK115.out 1))
    go_ret
    exact ⟨by first | rfl | (simp [errW_none, errW_some] <;> rfl) | (simp [*, errW_none, errW_some] <;> rfl), by repeat (first | (with_reducible first | exact HB.out | apply below_alloc | apply pw_below_drewN | apply below_drew1 | refine below_set ?_ GE115.out) | exact HB.out)⟩

set_option maxRecDepth 100000
def supply_row.bad (x : S64) : Bool := decide (x.f0 < 1 ∨ x.f1 > 1048576 ∨ x.f0 > x.f1)
theorem supply_row.valid (x : S64) : ∃ r, fixed_Valid.f x.f0 x.f1 = some r ∧ r.isSome = supply_row.bad x := by
 unfold fixed_Valid.f supply_row.bad
 by_cases h1 : x.f0 < 1
 ·exact ⟨_, if_pos h1, by rw [decide_eq_true (.inl h1)]; rfl⟩
 ·by_cases h2 : x.f1 > 1048576
  ·exact ⟨_, by rw [if_neg h1, if_pos h2], by rw [decide_eq_true (.inr (.inl h2))]; rfl⟩
  ·by_cases h3 : x.f0 > x.f1
   ·exact ⟨_, by rw [if_neg h1, if_neg h2, if_pos h3], by rw [decide_eq_true (.inr (.inr h3))]; rfl⟩
   ·exact ⟨_, by rw [if_neg h1, if_neg h2, if_neg h3], by rw [decide_eq_false (by rintro (h | h | h) <;> contradiction)]; rfl⟩
set_option maxHeartbeats 2000000 in
theorem supply_row.closure (x : S64) (w : World) : Calls Try.prog 88 #[.agg #[.int .i64 x.f0, .int .i64 x.f1]] w fun e w' => e = .returned (.bool (supply_row.bad x)) ∧ Below w.heap.size w w' := by
 obtain ⟨r, h1, h2⟩ := supply_row.valid x
 generalize supply_row.bad x = q at h2 ⊢
 have HC := fun W => fixed_Valid.calls _ _ _ W h1
 clear h1
 have hu64 := Try.underlying64
 rcases r with _ | e
 ·obtain rfl : false = q := h2
  try simp only [errW_none, errW_some] at HC
  go_enter Try.func88, Try.ntmps88
  go_wp2_with (first | (go_at_call 89; refine (HC _).mono ?_; rintro e w' ⟨rfl, hb'⟩) | go_in)
  all_goals (go_ret; exact ⟨by first | rfl | simp_all, ((Below.refl _ w).alloc (Nat.le_refl _) _).trans (hb'.mono (by simp))⟩)
 ·obtain rfl : true = q := h2
  try simp only [errW_none, errW_some] at HC
  go_enter Try.func88, Try.ntmps88
  go_wp2_with (first | (go_at_call 89; refine (HC _).mono ?_; rintro e w' ⟨rfl, hb'⟩) | go_in)
  all_goals (go_ret; exact ⟨by first | rfl | simp_all, ((Below.refl _ w).alloc (Nat.le_refl _) _).trans (hb'.mono (by simp))⟩)

theorem rd_T24_get {l : List S64} {i : Nat} (h : i < l.length) : rd_T64 l (i : Int) = l[i] := by
 simp [rd_T64, List.getD, List.getElem?_eq_getElem h]
theorem rd_T24_mem {l : List S64} {i : Nat} (h : i < l.length) : rd_T64 l (i : Int) ∈ l := by
 rw [rd_T24_get h]; exact List.getElem_mem h
theorem any_false {l : List S64} {p : S64 → Bool} (h : ∀ j : Nat, j < l.length → p (rd_T64 l (j : Int)) = false) : l.any p = false := by
 rw [List.any_eq_false]
 intro x hx
 obtain ⟨i, hi, rfl⟩ := List.getElem_of_mem hx
 rw [← rd_T24_get hi, h i hi]; simp
set_option maxHeartbeats 4000000 in
/-- slices.IndexFunc with that closure -/
theorem supply_row.index (A0 : Option Addr) (c0 : Nat) (l0 : List S64) (w : World) (hr0 : Kd.C k64 w A0 l0.length l0) (hc0 : l0.length ≤ c0) (hl : l0.length ≤ 140737488351232) :
  Calls Try.prog 94 #[.slice A0 l0.length c0, .func (.func 88) #[] #[]] w fun e w' => (∃ i : Int, e = .returned (.int .i64 i) ∧ decide (i ≥ 0) = l0.any supply_row.bad) ∧ Below w.heap.size w w' := by
 have hu64 := Try.underlying64
 have HR0 := Aside0.mk hr0
 have HC0 := Aside0.mk hc0
 have HL := Aside0.mk hl
 clear hr0 hc0 hl
 have HB := Aside0.mk (Below.refl w.heap.size w)
 go_enter Try.func94, Try.ntmps94
 go_wp2
 go_loopg [5, 8] l0.length (fun gg _ s8 wr => ∃ kk : Nat, kk ≤ l0.length ∧ l0.length - kk ≤ gg ∧ s8 = .int .i64 kk ∧ Aside0 (Below w.heap.size w wr) ∧ Aside0 (∀ j : Nat, j < kk → supply_row.bad (rd_T64 l0 (j : Int)) = false))
 case atStart => exact ⟨0, Nat.zero_le _, by omega, rfl, ⟨HB.out⟩, ⟨fun j hj => absurd hj (Nat.not_lt_zero _)⟩⟩
 case round =>
  obtain ⟨kk, hkk, hg, rfl, BW, A⟩ := hrel
  by_cases hlt : kk < l0.length
  ·have hltz : (kk : Int) < (l0.length : Int) := by omega
   have h0 : 0 ≤ (kk : Int) := by omega
   obtain ⟨ad, e1, hx0, hx1⟩ := at_T64 HR0.out (kk : Int) h0 hltz
   cases e1
   replace hx0 := (BW.out.cell (World.block_lt_of_cell? w _ hx0)).trans hx0
   replace hx1 := (BW.out.cell (World.block_lt_of_cell? w _ hx1)).trans hx1
   generalize hx : rd_T64 l0 (kk : Int) = x at hx0 hx1
   simp only [Int.toNat_natCast] at hx0 hx1
   have hcall := fun W => supply_row.closure x W
   have HLl := HL
   clear HR0 HC0 HL HB
   generalize hq : supply_row.bad x = q at hcall
   have hq' : Aside0 (supply_row.bad x = q) := ⟨hq⟩
   have hx' : Aside0 (rd_T64 l0 (kk : Int) = x) := ⟨hx⟩
   clear hx hq
   cases q with
   | true =>
    go_wp2_with (first | (go_at_call 88; refine (hcall _).mono ?_; rintro e w' ⟨rfl, hb'⟩))
    all_goals (go_ret; exact ⟨⟨kk, rfl, by rw [decide_eq_true (by omega : (kk : Int) ≥ 0)]; exact (List.any_eq_true.2 ⟨x, by rw [← hx'.out]; exact rd_T24_mem hlt, hq'.out⟩).symm⟩, BW.out.trans (hb'.mono BW.out.size)⟩)
   | false =>
    go_wp2_with (first | (go_at_call 88; refine (hcall _).mono ?_; rintro e w' ⟨rfl, hb'⟩))
    go_roundg (l0.length - (kk + 1))
    case measure => omega
    case rel => exact ⟨kk + 1, by omega, by omega, by rw [show wrap64 ((kk : Int) + 1) = ((kk + 1 : Nat) : Int) by unfold wrap64; have := HLl.out; omega], ⟨BW.out.trans (hb'.mono BW.out.size)⟩, ⟨fun j hj => by
     by_cases h : j = kk
     ·rw [h, hx'.out]; exact hq'.out
     ·exact A.out j (by omega)⟩⟩
  ·obtain rfl : kk = l0.length := by omega
   go_wp2
   all_goals (go_ret; exact ⟨⟨-1, rfl, by rw [decide_eq_false (by omega : ¬ (-1 : Int) ≥ 0)]; exact (any_false A.out).symm⟩, BW.out⟩)

theorem supply_row.contains (A0 : Option Addr) (c0 : Nat) (l0 : List S64) (w : World) (hr0 : Kd.C k64 w A0 l0.length l0) (hc0 : l0.length ≤ c0) (hl : l0.length ≤ 140737488351232) :
  Calls Try.prog 87 #[.slice A0 l0.length c0, .func (.func 88) #[] #[]] w fun e w' => e = .returned (.bool (l0.any supply_row.bad)) ∧ Below w.heap.size w w' := by
 have hcall := supply_row.index A0 c0 l0 w hr0 hc0 hl
 clear hr0
 generalize l0.any supply_row.bad = q at hcall ⊢
 go_enter Try.func87, Try.ntmps87
 go_wp2_with (first | (go_at_call 94; refine hcall.mono ?_; rintro e w' ⟨⟨i, rfl, hi⟩, hb'⟩))
 all_goals (go_ret; exact ⟨by rw [← hi]; rfl, hb'⟩)

def supply_row.f (l0 : List S64) (a1 : Int) : Option (Option Int) :=
 if l0.length ≤ 140737488351232 then some (if a1 < 0 ∨ a1 > 1073741824 then some 1 else if l0.any supply_row.bad = true then some 2 else if (l0.length : Int) > 8 then some 3 else none) else none
set_option maxHeartbeats 4000000 in
theorem supply_row.calls (A0 : Option Addr) (c0 : Nat) (l0 : List S64) (a1 : Int) (r : Option Int) (w : World) (hr0 : Kd.C k64 w A0 l0.length l0) (hc0 : l0.length ≤ c0) (h : supply_row.f l0 a1 = some r) :
  Calls Try.prog 78 #[.slice A0 l0.length c0, .int .i64 a1] w fun e w' => e = .returned (errW r) ∧ Below w.heap.size w w' := by
 unfold supply_row.f at h
 by_cases hl : l0.length ≤ 140737488351232
 case neg => rw [if_neg hl] at h; exact absurd h (by simp)
 rw [if_pos hl] at h
 have hcall := supply_row.contains A0 c0 l0 w hr0 hc0 hl
 clear hr0
 generalize l0.any supply_row.bad = q at hcall h
 have hu25 := Try.underlying25
 by_cases h1 : a1 < 0
 ·rw [if_pos (.inl h1)] at h
  obtain rfl := Option.some.inj h
  have b1 : decide (a1 < 0) = true := decide_eq_true h1
  go_enter Try.func78, Try.ntmps78
  go_wp2
  all_goals (go_ret; exact ⟨rfl, Below.refl _ w⟩)
 ·have b1 : decide (a1 < 0) = false := decide_eq_false h1
  by_cases h2 : a1 > 1073741824
  ·rw [if_pos (.inr h2)] at h
   obtain rfl := Option.some.inj h
   have b2 : decide (1073741824 < a1) = true := decide_eq_true h2
   go_enter Try.func78, Try.ntmps78
   go_wp2
   all_goals (go_ret; exact ⟨rfl, Below.refl _ w⟩)
  ·have b2 : decide (1073741824 < a1) = false := decide_eq_false h2
   rw [if_neg (by omega)] at h
   cases q with
   | true =>
    rw [if_pos rfl] at h
    obtain rfl := Option.some.inj h
    go_enter Try.func78, Try.ntmps78
    go_wp2_with (first | (go_at_call 87; refine hcall.mono ?_; rintro e w' ⟨rfl, hb'⟩))
    all_goals (go_ret; exact ⟨rfl, hb'⟩)
   | false =>
    rw [if_neg (by simp)] at h
    by_cases h3 : (l0.length : Int) > 8
    ·rw [if_pos h3] at h
     obtain rfl := Option.some.inj h
     have b3 : decide (8 < (l0.length : Int)) = true := decide_eq_true h3
     go_enter Try.func78, Try.ntmps78
     go_wp2_with (first | (go_at_call 87; refine hcall.mono ?_; rintro e w' ⟨rfl, hb'⟩))
     all_goals (go_ret; exact ⟨rfl, hb'⟩)
    ·rw [if_neg h3] at h
     obtain rfl := Option.some.inj h
     have b3 : decide (8 < (l0.length : Int)) = false := decide_eq_false h3
     go_enter Try.func78, Try.ntmps78
     go_wp2_with (first | (go_at_call 87; refine hcall.mono ?_; rintro e w' ⟨rfl, hb'⟩))
     all_goals (go_ret; exact ⟨rfl, hb'⟩)

/-! ### supply_least: function 79 -/
def supply_least.f (a0 : Int) (a1 : Int) (a2 : Int) : Option (Int) := if a2 ≤ (wrap64 (a1 - a0)) then (some 0) else (if a1 = 0 then (none) else (some (wrap64 ((wrap64 ((wrap64 (Int.tdiv (wrap64 (a2 - (wrap64 (a1 - a0)))) a1)) * a0)) + (mx 0 (wrap64 ((wrap64 ((wrap64 (a2 - (wrap64 (a1 - a0)))) - (wrap64 ((wrap64 (Int.tdiv (wrap64 (a2 - (wrap64 (a1 - a0)))) a1)) * a1)))) - (wrap64 (a1 - a0)))))))))
set_option maxHeartbeats 8000000 in
set_option maxRecDepth 100000 in
theorem supply_least.calls (a0 : Int) (a1 : Int) (a2 : Int) (r : Int) (w : World) (h : supply_least.f a0 a1 a2 = some r) :
  Calls Try.prog 79 #[.int .i64 a0, .int .i64 a1, .int .i64 a2] w fun e w' => e = .returned (.int .i64 r) ∧ Below w.heap.size w w' := by
 have HB := Aside0.mk (Below.refl w.heap.size w)
 have H : (if a2 ≤ (wrap64 (a1 - a0)) then (some 0) else (if a1 = 0 then (none) else (some (wrap64 ((wrap64 ((wrap64 (Int.tdiv (wrap64 (a2 - (wrap64 (a1 - a0)))) a1)) * a0)) + (mx 0 (wrap64 ((wrap64 ((wrap64 (a2 - (wrap64 (a1 - a0)))) - (wrap64 ((wrap64 (Int.tdiv (wrap64 (a2 - (wrap64 (a1 - a0)))) a1)) * a1)))) - (wrap64 (a1 - a0)))))))))) = some r := h
 clear h
 by_cases c4 : a2 ≤ (wrap64 (a1 - a0))
 ·rw [if_pos c4] at H
  have c4b0 : decide (a2 ≤ (wrap64 (a1 - a0))) = true := decide_eq_true c4
  clear c4
  obtain rfl := Option.some.inj H
  go_enter Try.func79, Try.ntmps79
  go_wp2
  go_ret
  exact ⟨by first | rfl | (simp [errW_none, errW_some] <;> rfl) | (simp [*, errW_none, errW_some] <;> rfl), by repeat (first | (with_reducible first | exact HB.out | apply below_alloc | apply pw_below_drewN | apply below_drew1) | exact HB.out)⟩
 ·rw [if_neg c4] at H
  have c4b0 : decide (a2 ≤ (wrap64 (a1 - a0))) = false := decide_eq_false c4
  clear c4
  by_cases c5 : a1 = 0
  ·rw [if_pos c5] at H
   exact absurd H (by simp)
  ·rw [if_neg c5] at H
   have c5b0 : (a1 == 0) = false := beq_eq_false_iff_ne.mpr c5
   have c5b1 : (a1 != 0) = true := bne_iff_ne.mpr c5
   obtain ⟨ji6, hji6⟩ : ∃ j_ : Int, (mx 0 (wrap64 ((wrap64 ((wrap64 (a2 - (wrap64 (a1 - a0)))) - (wrap64 ((wrap64 (Int.tdiv (wrap64 (a2 - (wrap64 (a1 - a0)))) a1)) * a1)))) - (wrap64 (a1 - a0))))) = j_ := ⟨_, rfl⟩
   replace H : (some (wrap64 ((wrap64 ((wrap64 (Int.tdiv (wrap64 (a2 - (wrap64 (a1 - a0)))) a1)) * a0)) + (ji6)))) = some r := by first | (rw [hji6] at H; exact H) | (simp only [hji6] at H ⊢; exact H)
   (try (have hji6l : 0 ≤ ji6 := by (rw [← hji6]; unfold mx; (repeat' split) <;> omega)))
   (try (have hji6m : 0 ≤ ji6 := by omega))
   have hji6_ : (if 0 < (wrap64 ((wrap64 ((wrap64 (a2 - (wrap64 (a1 - a0)))) - (wrap64 ((wrap64 (Int.tdiv (wrap64 (a2 - (wrap64 (a1 - a0)))) a1)) * a1)))) - (wrap64 (a1 - a0)))) then (wrap64 ((wrap64 ((wrap64 (a2 - (wrap64 (a1 - a0)))) - (wrap64 ((wrap64 (Int.tdiv (wrap64 (a2 - (wrap64 (a1 - a0)))) a1)) * a1)))) - (wrap64 (a1 - a0)))) else 0) = ji6 := hji6
   obtain rfl := Option.some.inj H
   go_enter Try.func79, Try.ntmps79
   go_wp2
   go_ret
   exact ⟨by first | rfl | (simp [errW_none, errW_some] <;> rfl) | (simp only [← hji6]; first | rfl | (simp [errW_none, errW_some] <;> rfl)) | (simp [*, errW_none, errW_some] <;> rfl), by repeat (first | (with_reducible first | exact HB.out | apply below_alloc | apply pw_below_drewN | apply below_drew1) | exact HB.out)⟩

/-! ### supply_Down: function 70 -/
def supply_Down.l0 : Nat → Int → List (S64) → Int → Int → Option (Int × Option Int)
 | 0, _, _, _, _ => none
 | k + 1, x1, x15, x16, x17 => if x17 < x16 then (if 0 ≤ x17 then (if x17 < (x15.length : Int) then ((supply_least.f ((rd_T64 x15 x17).f0) ((rd_T64 x15 x17).f1) x1).bind fun t120 => (supply_Down.l0 k t120 x15 x16 (wrap64 (x17 + 1)))) else (none)) else (none)) else (some (x1, none))
def supply_Down.f (k : Nat) (l0 : List (S64)) (a1 : Int) : Option (Int × Option Int) := (supply_row.f l0 a1).bind fun t116 => (if t116.isNone = true then (supply_Down.l0 k a1 l0 (l0.length : Int) 0) else (some (0, some (t116.getD 0))))
theorem supply_Down.mono_l : ∀ k, (∀ y0 y1 y2 y3, LeO (supply_Down.l0 k y0 y1 y2 y3) (supply_Down.l0 (k + 1) y0 y1 y2 y3))
 | 0 => fun _ _ _ _ r h => by simp [supply_Down.l0] at h
 | k + 1 => by
  have ih0 := supply_Down.mono_l k
  ·intro y0 y1 y2 y3
   unfold supply_Down.l0
   repeat' first
   | (with_reducible exact ih0 _ _ _ _)
   | (with_reducible exact LeO.refl _)
   | (with_reducible exact LeO.none _)
   | (with_reducible refine LeO.ite ?_ ?_)
   | (with_reducible refine LeO.bind ?_ (fun _ => ?_))
   | exact ih0 _ _ _ _
   | exact LeO.none _
   | refine LeO.ite ?_ ?_
   | refine LeO.bind ?_ (fun _ => ?_)
theorem supply_Down.mono : ∀ a0 a1 k, LeO (supply_Down.f k a0 a1) (supply_Down.f (k + 1) a0 a1) := by
 intro a0 a1 k
 have ih0 := supply_Down.mono_l k
 unfold supply_Down.f
 repeat' first
   | (with_reducible exact ih0 _ _ _ _)
   | (with_reducible exact LeO.refl _)
   | (with_reducible exact LeO.none _)
   | (with_reducible refine LeO.ite ?_ ?_)
   | (with_reducible refine LeO.bind ?_ (fun _ => ?_))
   | exact ih0 _ _ _ _
   | exact LeO.none _
   | refine LeO.ite ?_ ?_
   | refine LeO.bind ?_ (fun _ => ?_)
set_option maxHeartbeats 8000000 in
set_option maxRecDepth 100000 in
theorem supply_Down.calls (k : Nat) (A0 : Option Addr) (c0 : Nat) (l0 : List (S64)) (a1 : Int) (r1 : Int) (r2 : Option Int) (w : World) (hr0 : Kd.C k64 w A0 l0.length l0) (hc0 : l0.length ≤ c0) (h : supply_Down.f k l0 a1 = some (r1, r2)) :
  Calls Try.prog 70 #[.slice A0 l0.length c0, .int .i64 a1] w fun e w' => e = .returned (.tuple #[.int .i64 r1, errW r2]) ∧ Below w.heap.size w w' := by
 have hu64 := Try.underlying64
 have hu25 := Try.underlying25
 have hu72 := Try.underlying72
 have HR0 := Aside0.mk hr0
 have HC0 := Aside0.mk hc0
 clear hr0 hc0
 have HB := Aside0.mk (Below.refl w.heap.size w)
 have H : ((supply_row.f l0 a1).bind fun t116 => (if t116.isNone = true then (supply_Down.l0 k a1 l0 (l0.length : Int) 0) else (some (0, some (t116.getD 0))))) = some (r1, r2) := h
 clear h
 replace H := Option.bind_eq_some_iff.mp H
 obtain ⟨t116, A30, H⟩ := H
 replace H : (if t116.isNone = true then (supply_Down.l0 k a1 l0 (l0.length : Int) 0) else (some (0, some (t116.getD 0)))) = some (r1, r2) := H
 have A3 := Aside0.mk A30
 clear A30
 rcases t116 with _ | q117
 ·have H1 : (supply_Down.l0 k a1 l0 (l0.length : Int) 0) = some (r1, r2) := by rw [if_pos (show (none : Option Int).isNone = true by rfl)] at H; exact H
  clear H
  have H := H1
  clear H1
  try simp only [errW_none, errW_some]
  have H' := Aside0.mk H
  clear H
  go_enter Try.func70, Try.ntmps70
  go_wp2_with (first | ((with_reducible refine gate_callee (f := 78) rfl ?_); refine goesL_ (some 11) rfl rfl Try.func78 (by kernel_rfl) rfl #[.slice A0 l0.length c0, .int .i64 a1] rfl (by (try simp only [List.map_toArray, List.map_cons, List.map_nil]); first | done | rfl | (simp only [List.length_drop, List.length_take]; rfl)) ?_; (with_reducible refine (supply_row.calls _ _ l0 a1 none _ ?side1 ?side2 A3.out).mono ?_); (case side1 => repeat (first | exact HR0.out | (with_reducible refine Kd.C_alloc ?_ _) | (with_reducible refine Kd.C_drewN ?_ _) | (with_reducible refine Kd.C_drew ?_))); (case side2 => exact HC0.out); rintro e w4 ⟨rfl, hb⟩; refine ⟨_, rfl, ?_⟩; have n0_ := Aside0.mk (below_step (by repeat (first | (with_reducible first | exact HB.out | apply below_alloc | apply pw_below_drewN | apply below_drew1) | exact HB.out)) hb); clear HB; have HB := n0_; clear n0_; (try clear hb); (try clear hb2); (try clear hk); (try clear hi); (try simp only [errW_none, errW_some])))
  go_loopg [1, 17] k (fun kq v1 v17 w' => ∃ (x1_1 : Int) (x17_1 : Int), v1 = .int .i64 x1_1 ∧ v17 = .int .i64 x17_1 ∧ Aside0 (supply_Down.l0 kq x1_1 l0 (l0.length : Int) x17_1 = some (r1, r2)) ∧ Aside0 (kq ≤ k) ∧ Aside0 (Below w.heap.size w w'))
  case atStart => exact ⟨(a1), (0), (by first | rfl | (simp; done) | (simp [*]; done)), (by first | rfl | (simp; done) | (simp [*]; done)), H', ⟨Nat.le_refl _⟩, ⟨by repeat (first | (with_reducible first | exact HB.out | apply below_alloc | apply pw_below_drewN | apply below_drew1) | exact HB.out)⟩⟩
  case round =>
   clear H'
   try clear q1
   try clear p2
   try clear q117
   obtain ⟨x1_1, x17_1, rfl, rfl, HA, HK1, HB⟩ := hrel
   cases gk with
   | zero => exact absurd HA.out (by simp [supply_Down.l0])
   | succ k1 =>
    have H := HA.out
    clear HA
    simp only [supply_Down.l0] at H
    by_cases c5 : x17_1 < (l0.length : Int)
    ·rw [if_pos c5] at H
     have c5b0 : decide (x17_1 < (l0.length : Int)) = true := decide_eq_true c5
     clear c5
     by_cases c6 : 0 ≤ x17_1
     ·rw [if_pos c6] at H
      have c6b0 : decide (0 ≤ x17_1) = true := decide_eq_true c6
      clear c6
      by_cases c7 : x17_1 < (l0.length : Int)
      ·rw [if_pos c7] at H
       have c7b0 : decide (x17_1 < (l0.length : Int)) = true := decide_eq_true c7
       clear c7
       replace H := Option.bind_eq_some_iff.mp H
       obtain ⟨t120, A80, H⟩ := H
       replace H : (supply_Down.l0 k1 t120 l0 (l0.length : Int) (wrap64 (x17_1 + 1))) = some (r1, r2) := H
       have A8 := Aside0.mk A80
       clear A80
       have H' := Aside0.mk H
       clear H
       have p118 : 0 ≤ (x17_1 : Int) := of_decide_eq_true (by first | (with_reducible assumption) | assumption)
       have q118 : x17_1 < (l0.length : Int) := of_decide_eq_true (by first | (with_reducible assumption) | assumption)
       obtain ⟨ad118, e118, hx118_0, hx118_1⟩ := at_T64 HR0.out x17_1 p118 q118
       cases e118
       replace hx118_0 := (HB.out.cell (World.block_lt_of_cell? w _ hx118_0)).trans hx118_0
       replace hx118_1 := (HB.out.cell (World.block_lt_of_cell? w _ hx118_1)).trans hx118_1
       replace p118 := eq_true p118
       replace q118 := eq_true q118
       go_wp2_with (first | ((with_reducible refine gate_dst (N := 8) rfl ?_); refine box_event ?hg (N := 8) ?hd (cs := #[.int .i64 0, .int .i64 0]) (t := 64) ?hr ?_; (case hd => rfl); (case hg => rfl); (case hr => first | (go_simp; done) | (go_simp; rfl)); intro gb119 hg w9 hbox hb; have n0_ := Aside0.mk (below_step (by repeat (first | (with_reducible first | exact HB.out | apply below_alloc | apply pw_below_drewN | apply below_drew1) | exact HB.out)) hb); have n1_ := Aside0.mk (hbox); have n2_ := Aside0.mk ((by rw [hg]; exact (below_size (by repeat (first | (with_reducible first | exact HB.out | apply below_alloc | apply pw_below_drewN | apply below_drew1) | exact HB.out))) : w.heap.size ≤ gb119)); have n3_ := Aside0.mk ((by rw [hg]; exact (below_size (by repeat (first | (with_reducible first | exact HB.out | apply below_alloc | apply pw_below_drewN | apply below_drew1) | exact HB.out))) : w.heap.size ≤ gb119)); clear HB; have HB := n0_; have BK119 := n1_; have GW119 := n2_; have GE119 := n3_; clear n0_ n1_ n2_ n3_; clear hb hbox hg; have hcz10_0 : w9.cell? ⟨gb119, 0, none⟩ = some (.int .i64 0) := (blk_cell BK119.out 0).trans (by rfl); have hcz10_1 : w9.cell? ⟨gb119, 1, none⟩ = some (.int .i64 0) := (blk_cell BK119.out 1).trans (by rfl); have hfz10_0 := blk_frozen BK119.out 0; have hfz10_1 := blk_frozen BK119.out 1) | ((with_reducible refine gate_callee (f := 79) rfl ?_); refine goesL_ (some 26) rfl rfl Try.func79 (by kernel_rfl) rfl #[.int .i64 ((rd_T64 l0 x17_1).f0), .int .i64 ((rd_T64 l0 x17_1).f1), .int .i64 x1_1] rfl (by (try simp only [List.map_toArray, List.map_cons, List.map_nil]); first | done | rfl | (simp only [List.length_drop, List.length_take]; rfl)) ?_; (with_reducible refine (supply_least.calls ((rd_T64 l0 x17_1).f0) ((rd_T64 l0 x17_1).f1) x1_1 t120 _ A8.out).mono ?_); rintro e w11 ⟨rfl, hb⟩; refine ⟨_, rfl, ?_⟩; have n0_ := Aside0.mk (blk_below (g := gb119) (o := .cells #[.int .i64 ((rd_T64 l0 x17_1).f0), .int .i64 ((rd_T64 l0 x17_1).f1)] 64 (0, 0)) (by (with_reducible repeat (first | refine blk_drewN ?_ _ | refine blk_drew ?_ | refine blk_alloc ?_ _)); refine blk_put (cs := #[.int .i64 ((rd_T64 l0 x17_1).f0), .int .i64 0]) ?_ 1 _ rfl; (with_reducible repeat (first | refine blk_drewN ?_ _ | refine blk_drew ?_ | refine blk_alloc ?_ _)); refine blk_put (cs := #[.int .i64 0, .int .i64 0]) ?_ 0 _ rfl; (with_reducible repeat (first | refine blk_drewN ?_ _ | refine blk_drew ?_ | refine blk_alloc ?_ _)); exact BK119.out) hb); have n1_ := Aside0.mk (below_step (by repeat (first | (with_reducible first | exact HB.out | apply below_alloc | apply pw_below_drewN | apply below_drew1 | refine below_set ?_ GE119.out) | exact HB.out)) hb); clear BK119; clear HB; have BK119 := n0_; have HB := n1_; clear n0_ n1_; (try clear hb); (try clear hb2); (try clear hk); (try clear hi)))
       go_roundg k1
       case measure => have := HK1.out; omega
       case rel => exact ⟨(t120), (wrap64 (x17_1 + 1)), (by first | rfl | (simp; done) | (simp [*]; done)), (by first | rfl | (simp; done) | (simp [*]; done)), H', ⟨by have := HK1.out; omega⟩, ⟨by repeat (first | (with_reducible first | exact HB.out | apply below_alloc | apply pw_below_drewN | apply below_drew1 | refine below_set ?_ GE119.out) | exact HB.out)⟩⟩
      ·rw [if_neg c7] at H
       exact absurd H (by simp)
     ·rw [if_neg c6] at H
      exact absurd H (by simp)
    ·rw [if_neg c5] at H
     have c5b0 : decide (x17_1 < (l0.length : Int)) = false := decide_eq_false c5
     clear c5
     simp only [Option.some.injEq, Prod.mk.injEq] at H
     obtain ⟨rfl, rfl⟩ := H
     go_wp2
     go_ret2
     exact ⟨by first | rfl | (simp [errW_none, errW_some] <;> rfl) | (simp [*, errW_none, errW_some] <;> rfl), by repeat (first | (with_reducible first | exact HB.out | apply below_alloc | apply pw_below_drewN | apply below_drew1) | exact HB.out)⟩
 ·have H1 : (some (0, some q117)) = some (r1, r2) := by rw [if_neg (show ¬ (some q117).isNone = true by simp)] at H; exact H
  clear H
  have H := H1
  clear H1
  try simp only [errW_none, errW_some]
  simp only [Option.some.injEq, Prod.mk.injEq] at H
  obtain ⟨rfl, rfl⟩ := H
  go_enter Try.func70, Try.ntmps70
  go_wp2_with (first | ((with_reducible refine gate_callee (f := 78) rfl ?_); refine goesL_ (some 11) rfl rfl Try.func78 (by kernel_rfl) rfl #[.slice A0 l0.length c0, .int .i64 a1] rfl (by (try simp only [List.map_toArray, List.map_cons, List.map_nil]); first | done | rfl | (simp only [List.length_drop, List.length_take]; rfl)) ?_; (with_reducible refine (supply_row.calls _ _ l0 a1 (some q117) _ ?side1 ?side2 A3.out).mono ?_); (case side1 => repeat (first | exact HR0.out | (with_reducible refine Kd.C_alloc ?_ _) | (with_reducible refine Kd.C_drewN ?_ _) | (with_reducible refine Kd.C_drew ?_))); (case side2 => exact HC0.out); rintro e w12 ⟨rfl, hb⟩; refine ⟨_, rfl, ?_⟩; have n0_ := Aside0.mk (below_step (by repeat (first | (with_reducible first | exact HB.out | apply below_alloc | apply pw_below_drewN | apply below_drew1) | exact HB.out)) hb); clear HB; have HB := n0_; clear n0_; (try clear hb); (try clear hb2); (try clear hk); (try clear hi); (try simp only [errW_none, errW_some])))
  go_ret2
  exact ⟨by first | rfl | (simp [errW_none, errW_some] <;> rfl) | (simp [*, errW_none, errW_some] <;> rfl), by repeat (first | (with_reducible first | exact HB.out | apply below_alloc | apply pw_below_drewN | apply below_drew1) | exact HB.out)⟩

/-! ### response_check: function 58 -/
def response_check.f (k : Nat) (l0 : List (S43)) (l1 : List (S64)) : Option (Option Int) := (demand_Valid.f k l0).bind fun t121 => (if t121.isNone = true then ((supply_Down.f k l1 0).bind fun bt123 => (some bt123.2)) else (some (some (t121.getD 0))))
theorem response_check.mono : ∀ a0 a1 k, LeO (response_check.f k a0 a1) (response_check.f (k + 1) a0 a1) := by
 intro a0 a1 k
 unfold response_check.f
 repeat' first
   | (with_reducible exact demand_Valid.mono _ _)
   | (with_reducible exact supply_Down.mono _ _ _)
   | (with_reducible exact LeO.refl _)
   | (with_reducible exact LeO.none _)
   | (with_reducible refine LeO.ite ?_ ?_)
   | (with_reducible refine LeO.bind ?_ (fun _ => ?_))
   | exact demand_Valid.mono _ _
   | exact supply_Down.mono _ _ _
   | exact LeO.none _
   | refine LeO.ite ?_ ?_
   | refine LeO.bind ?_ (fun _ => ?_)
set_option maxHeartbeats 8000000 in
set_option maxRecDepth 100000 in
theorem response_check.calls (k : Nat) (A0 : Option Addr) (c0 : Nat) (l0 : List (S43)) (A1 : Option Addr) (c1 : Nat) (l1 : List (S64)) (r : Option Int) (w : World) (hr0 : Kd.C k43 w A0 l0.length l0) (hc0 : l0.length ≤ c0) (hr1 : Kd.C k64 w A1 l1.length l1) (hc1 : l1.length ≤ c1) (h : response_check.f k l0 l1 = some r) :
  Calls Try.prog 58 #[.slice A0 l0.length c0, .slice A1 l1.length c1] w fun e w' => e = .returned (errW r) ∧ Below w.heap.size w w' := by
 have hu25 := Try.underlying25
 have hu72 := Try.underlying72
 have HR0 := Aside0.mk hr0
 have HC0 := Aside0.mk hc0
 clear hr0 hc0
 have HR1 := Aside0.mk hr1
 have HC1 := Aside0.mk hc1
 clear hr1 hc1
 have HB := Aside0.mk (Below.refl w.heap.size w)
 have H : ((demand_Valid.f k l0).bind fun t121 => (if t121.isNone = true then ((supply_Down.f k l1 0).bind fun bt123 => (some bt123.2)) else (some (some (t121.getD 0))))) = some r := h
 clear h
 replace H := Option.bind_eq_some_iff.mp H
 obtain ⟨t121, A30, H⟩ := H
 replace H : (if t121.isNone = true then ((supply_Down.f k l1 0).bind fun bt123 => (some bt123.2)) else (some (some (t121.getD 0)))) = some r := H
 have A3 := Aside0.mk A30
 clear A30
 rcases t121 with _ | q122
 ·have H1 : ((supply_Down.f k l1 0).bind fun bt123 => (some bt123.2)) = some r := by rw [if_pos (show (none : Option Int).isNone = true by rfl)] at H; exact H
  clear H
  have H := H1
  clear H1
  try simp only [errW_none, errW_some]
  replace H := Option.bind_eq_some_iff.mp H
  obtain ⟨⟨t123, t124⟩, A40, H⟩ := H
  replace H : (some t124) = some r := H
  have A4 := Aside0.mk A40
  clear A40
  obtain rfl := Option.some.inj H
  go_enter Try.func58, Try.ntmps58
  go_wp2_with (first | ((with_reducible refine gate_callee (f := 28) rfl ?_); refine goesL_ (some 9) rfl rfl Try.func28 (by kernel_rfl) rfl #[.slice A0 l0.length c0] rfl (by (try simp only [List.map_toArray, List.map_cons, List.map_nil]); first | done | rfl | (simp only [List.length_drop, List.length_take]; rfl)) ?_; (with_reducible refine (demand_Valid.calls k _ _ l0 none _ ?side1 ?side2 A3.out).mono ?_); (case side1 => repeat (first | exact HR0.out | (with_reducible refine Kd.C_alloc ?_ _) | (with_reducible refine Kd.C_drewN ?_ _) | (with_reducible refine Kd.C_drew ?_))); (case side2 => exact HC0.out); rintro e w5 ⟨rfl, hb⟩; refine ⟨_, rfl, ?_⟩; have n0_ := Aside0.mk (below_step (by repeat (first | (with_reducible first | exact HB.out | apply below_alloc | apply pw_below_drewN | apply below_drew1) | exact HB.out)) hb); clear HB; have HB := n0_; clear n0_; (try clear hb); (try clear hb2); (try clear hk); (try clear hi); (try simp only [errW_none, errW_some])) | ((with_reducible refine gate_callee (f := 70) rfl ?_); refine goesL_ (some 15) rfl rfl Try.func70 (by kernel_rfl) rfl #[.slice A1 l1.length c1, .int .i64 0] rfl (by (try simp only [List.map_toArray, List.map_cons, List.map_nil]); first | done | rfl | (simp only [List.length_drop, List.length_take]; rfl)) ?_; (with_reducible refine (supply_Down.calls k _ _ l1 0 t123 t124 _ ?side1 ?side2 A4.out).mono ?_); (case side1 => repeat (first | exact (Kd.C_below HR1.out HB.out) | (with_reducible refine Kd.C_alloc ?_ _) | (with_reducible refine Kd.C_drewN ?_ _) | (with_reducible refine Kd.C_drew ?_))); (case side2 => exact HC1.out); rintro e w6 ⟨rfl, hb⟩; refine ⟨_, rfl, ?_⟩; have n0_ := Aside0.mk (below_step (by repeat (first | (with_reducible first | exact HB.out | apply below_alloc | apply pw_below_drewN | apply below_drew1) | exact HB.out)) hb); clear HB; have HB := n0_; clear n0_; (try clear hb); (try clear hb2); (try clear hk); (try clear hi); (try simp only [errW_none, errW_some])))
  go_ret
  exact ⟨by first | rfl | (simp [errW_none, errW_some] <;> rfl) | (simp [*, errW_none, errW_some] <;> rfl), by repeat (first | (with_reducible first | exact HB.out | apply below_alloc | apply pw_below_drewN | apply below_drew1) | exact HB.out)⟩
 ·have H1 : (some (some q122)) = some r := by rw [if_neg (show ¬ (some q122).isNone = true by simp)] at H; exact H
  clear H
  have H := H1
  clear H1
  try simp only [errW_none, errW_some]
  obtain rfl := Option.some.inj H
  go_enter Try.func58, Try.ntmps58
  go_wp2_with (first | ((with_reducible refine gate_callee (f := 28) rfl ?_); refine goesL_ (some 9) rfl rfl Try.func28 (by kernel_rfl) rfl #[.slice A0 l0.length c0] rfl (by (try simp only [List.map_toArray, List.map_cons, List.map_nil]); first | done | rfl | (simp only [List.length_drop, List.length_take]; rfl)) ?_; (with_reducible refine (demand_Valid.calls k _ _ l0 (some q122) _ ?side1 ?side2 A3.out).mono ?_); (case side1 => repeat (first | exact HR0.out | (with_reducible refine Kd.C_alloc ?_ _) | (with_reducible refine Kd.C_drewN ?_ _) | (with_reducible refine Kd.C_drew ?_))); (case side2 => exact HC0.out); rintro e w7 ⟨rfl, hb⟩; refine ⟨_, rfl, ?_⟩; have n0_ := Aside0.mk (below_step (by repeat (first | (with_reducible first | exact HB.out | apply below_alloc | apply pw_below_drewN | apply below_drew1) | exact HB.out)) hb); clear HB; have HB := n0_; clear n0_; (try clear hb); (try clear hb2); (try clear hk); (try clear hi); (try simp only [errW_none, errW_some])))
  go_ret
  exact ⟨by first | rfl | (simp [errW_none, errW_some] <;> rfl) | (simp [*, errW_none, errW_some] <;> rfl), by repeat (first | (with_reducible first | exact HB.out | apply below_alloc | apply pw_below_drewN | apply below_drew1) | exact HB.out)⟩

end Go.Proofs.YtdonlmbhamcjdaaRRR.H
