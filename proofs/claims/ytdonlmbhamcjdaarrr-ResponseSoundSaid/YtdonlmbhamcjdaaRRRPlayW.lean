/- What response.Play answers, as a plain function: the errors, else the longest times of a play tick by tick. No conditions. -/
import Derived.Test.YtdonlmbhamcjdaaRRRPlayM
import Derived.Test.YtdonlmbhamcjdaaRRRJx12
import Derived.Test.YtdonlmbhamcjdaaRRRJx5
import Derived.Deep.DeepCutAuto
import Derived.Shelf.RegionOpenPlain
namespace Go.Proofs.YtdonlmbhamcjdaaRRR.J
open Go.RowKit Go.Proofs.YtdonlmbhamcjdaaRRR.Ply Go.Proofs.YtdonlmbhamcjdaaRRRW.PrintWords Go.Proofs.YtdonlmbhamcjdaaRRRW.PrintLast Go.Proofs.YtdonlmbhamcjdaaRRRW.PrintMore
set_option linter.unusedVariables false
/-- what is asked of the numbers -/
def okP (l : List S43) (st : List Int) (o : List Int) : Bool := decide (l.length ≤ 1048576) && l.all (fun x => decide (1 ≤ x.f0) && decide (x.f0 ≤ 1152921504606846976) && decide (1 ≤ x.f1) && decide (x.f1 ≤ 1152921504606846976)) && o.all (fun i => decide (0 ≤ i) && decide (i < (l.length : Int)))
def badS (st : List Int) : Bool := st.any fun s => decide (s < 0) || decide (s > 1073741824)
def response_Play.f (k : Nat) (l0 : List S43) (l1 : List Int) (l2 : List Bool) : Option (List Int × Option Int) :=
  (response_check.f k l0 []).bind fun e => if e.isSome = true then some ([], e) else
    if l1.length ≠ l0.length ∨ 4096 < l2.length then some ([], some 1) else if badS l1 = true then some ([], some 1) else
      (demand_Order.f k l0).bind fun o => if okP l0 l1 o.1 = true then some (playL l0 l1 (o.1.map Int.toNat) l2, none) else none
theorem response_Play.mono : ∀ l0 l1 l2 k, LeO (response_Play.f k l0 l1 l2) (response_Play.f (k + 1) l0 l1 l2) := by
  intro l0 l1 l2 k
  unfold response_Play.f
  refine LeO.bind (response_check.mono _ _ _) fun e => ?_
  refine LeO.ite (LeO.refl _) (LeO.ite (LeO.refl _) (LeO.ite (LeO.refl _) (LeO.bind (demand_Order.mono _ _) fun o => LeO.refl _)))
theorem made1 (n : Nat) {i : Nat} (h : i < n) : (madeCells #[Value.int .i64 0] n)[i]? = some (.int .i64 0) := by
  simp [madeCells, h, Nat.mod_one]
theorem made2 (n : Nat) {i : Nat} (h : i < n) : (madeCells #[Value.slice none 0 0, .int .i64 0] (n * 2))[i * 2]? = some (.slice none 0 0) ∧ (madeCells #[Value.slice none 0 0, .int .i64 0] (n * 2))[i * 2 + 1]? = some (.int .i64 0) := by
  have e1 : i * 2 % 2 = 0 := by omega
  have e2 : (i * 2 + 1) % 2 = 1 := by omega
  constructor
  · simp [madeCells, show i * 2 < n * 2 by omega, e1]
  · simp [madeCells, show i * 2 + 1 < n * 2 by omega, e2]
theorem PS.start (n : Nat) (W : World) : PS n W.heap.size (W.heap.size + 1) (W.heap.size + 2) ((W.alloc (.cells (madeCells #[Value.int .i64 0] n) 3)).alloc (.cells (madeCells #[Value.slice none 0 0, .int .i64 0] (n * 2)) 94)) (fun _ => .slice none 0 0) (fun _ => []) (fun _ => 0) (fun _ => 0) ((W.alloc (.cells (madeCells #[Value.int .i64 0] n) 3)).alloc (.cells (madeCells #[Value.slice none 0 0, .int .i64 0] (n * 2)) 94)) := by
  have h1 := blk_new W (.cells (madeCells #[Value.int .i64 0] n) 3)
  have h2 := blk_new (W.alloc (.cells (madeCells #[Value.int .i64 0] n) 3)) (.cells (madeCells #[Value.slice none 0 0, .int .i64 0] (n * 2)) 94)
  rw [World.size_alloc] at h2
  have h3 := (Below.heap_alloc (W.alloc (.cells (madeCells #[Value.int .i64 0] n) 3)) (.cells (madeCells #[Value.slice none 0 0, .int .i64 0] (n * 2)) 94) W.heap.size (by simp)).trans h1
  refine ⟨⟨_, h3, by simp [size_madeCells], fun i hi => made1 n hi⟩, ⟨_, h2, by simp [size_madeCells], fun i hi => made2 n hi⟩, fun i hi => .inl ⟨rfl, rfl⟩, fun i k _ _ _ b hb => (by cases hb), fun k _ _ _ => rfl, by simp, rfl, rfl, rfl, by omega, by omega, by omega⟩
/-- what was there ahead of both rows stays -/
theorem PS.below {n O J b0 : Nat} {W0 W wb : World} {vs : Nat → Value} {qs : Nat → List Int} {ls out : Nat → Int} (h : PS n O J b0 W0 vs qs ls out W) (hb : Below wb.heap.size wb W0) (hO : wb.heap.size ≤ O) (hJ : wb.heap.size ≤ J) (hs : W0.heap.size ≤ b0) : Below wb.heap.size wb W := by
  have := h.ob
  exact hb.trans ⟨h.os, h.tape, h.output, by have := h.size; omega, fun k hk => h.off k (by omega) (by omega) (by omega)⟩
theorem badS_not {st : List Int} (h : badS st = false) {k : Nat} (hk : k < st.length) : ¬ rd st (k : Int) < 0 ∧ ¬ rd st (k : Int) > 1073741824 := by
  unfold badS at h
  rw [List.any_eq_false] at h
  have := h st[k] (List.getElem_mem hk)
  have e : rd st (k : Int) = st[k] := by simp [rd, List.getD, hk]
  rw [e]
  simpa using this
theorem badS_some {st : List Int} (h : ∀ k : Nat, k < st.length → ¬ rd st (k : Int) < 0 ∧ ¬ rd st (k : Int) > 1073741824) : badS st = false := by
  unfold badS
  rw [List.any_eq_false]
  intro x hx
  obtain ⟨k, hk, rfl⟩ := List.getElem_of_mem hx
  have := h k hk
  have e : rd st (k : Int) = st[k] := by simp [rd, List.getD, hk]
  rw [e] at this
  simpa using this
set_option maxHeartbeats 8000000 in
set_option maxRecDepth 1000000 in
theorem response_Play.calls (k : Nat) (A0 : Option Addr) (c0 : Nat) (l0 : List (S43)) (A1 : Option Addr) (c1 : Nat) (l1 : List Int) (A2 : Option Addr) (c2 : Nat) (l2 : List Bool) (r1 : List Int) (r2 : Option Int) (w : World) (hr0 : Kd.C k43 w A0 l0.length l0) (hc0 : l0.length ≤ c0) (hr1 : Kd.C (Kd.int .i64) w A1 l1.length l1) (hc1 : l1.length ≤ c1) (hr2 : Kd.C Kd.bool w A2 l2.length l2) (hc2 : l2.length ≤ c2) (h : response_Play.f k l0 l1 l2 = some (r1, r2)) :
    Calls Try.prog 42 #[.slice A0 l0.length c0, .slice A1 l1.length c1, .slice A2 l2.length c2] w fun e w' => ∃ v0_ : Value, e = .returned (.tuple #[v0_, errW r2]) ∧ Kd.R (Kd.int .i64) 3 w' w.heap.size (fun _ => True) v0_ r1 ∧ Below w.heap.size w w' := by
  have hu25 := Try.underlying25
  have hu43 := Try.underlying43
  unfold response_Play.f at h
  obtain ⟨e0, he0, h⟩ := Option.bind_eq_some_iff.1 h
  have HCK := response_check.calls k A0 c0 l0 none 0 [] e0 w hr0 hc0 (Kd.C_nil _ _) (Nat.le_refl _) he0
  have HR0 := Aside0.mk hr0
  have HR1 := Aside0.mk hr1
  have HR2 := Aside0.mk hr2
  have HC0 := Aside0.mk hc0
  have HCC := Aside0.mk HCK
  clear hr0 hr1 hr2 hc0 HCK he0
  by_cases h1 : e0.isSome = true
  · rw [if_pos h1] at h
    obtain ⟨rfl, rfl⟩ : [] = r1 ∧ e0 = r2 := by simpa using h
    clear h
    obtain ⟨ec, rfl⟩ := Option.isSome_iff_exists.1 h1
    clear h1
    have hne := errW_some ec
    go_enter Try.func42, Try.ntmps42
    go_wp2_with (first | (go_at_call 58; refine HCC.out.mono ?_; rintro e w1 ⟨rfl, hb⟩; have HB := Aside0.mk hb; clear hb))
    go_ret2
    exact ⟨_, rfl, Kd.R_nil _ _ _ _ _, HB.out⟩
  · rw [if_neg h1] at h
    obtain rfl : e0 = none := by cases e0 with | none => rfl | some x => exact absurd rfl h1
    clear h1
    have hne := errW_none
    by_cases hlen : l1.length = l0.length
    case neg =>
      rw [if_pos (Or.inl hlen)] at h
      obtain ⟨rfl, rfl⟩ : [] = r1 ∧ some 1 = r2 := by simpa using h
      clear h
      have hlz : ¬ (l1.length : Int) = (l0.length : Int) := by omega
      have hlb : ((l1.length : Int) == (l0.length : Int)) = false := beq_eq_false_iff_ne.2 hlz
      clear hlen
      go_enter Try.func42, Try.ntmps42
      go_wp2_with (first | (go_at_call 58; refine HCC.out.mono ?_; rintro e w1 ⟨rfl, hb⟩; have HB := Aside0.mk hb; clear hb))
      go_ret2
      exact ⟨_, rfl, Kd.R_nil _ _ _ _ _, HB.out⟩
    have hlz : (l1.length : Int) = (l0.length : Int) := by omega
    have HLEN := Aside0.mk hlen
    by_cases hrow : 4096 < l2.length
    · rw [if_pos (Or.inr hrow)] at h
      obtain ⟨rfl, rfl⟩ : [] = r1 ∧ some 1 = r2 := by simpa using h
      clear h hlen
      have hrz : (4096 : Int) < (l2.length : Int) := by omega
      have hrd : decide ((l2.length : Int) > 4096) = true := decide_eq_true hrz
      go_enter Try.func42, Try.ntmps42
      go_wp2_with (first | (go_at_call 58; refine HCC.out.mono ?_; rintro e w1 ⟨rfl, hb⟩; have HB := Aside0.mk hb; clear hb))
      go_ret2
      exact ⟨_, rfl, Kd.R_nil _ _ _ _ _, HB.out⟩
    rw [if_neg (by rintro (h1 | h1); exact h1 hlen; exact hrow h1)] at h
    have hrz : ¬ (4096 : Int) < (l2.length : Int) := by omega
    have hrd : decide ((l2.length : Int) > 4096) = false := decide_eq_false hrz
    have hrow2 : l2.length ≤ 4096 := by omega
    have HROW := Aside0.mk hrow2
    clear hlen hrow hrow2
    have HH := Aside0.mk h
    clear h
    have hmk23 : ∀ W : World, l0.length ≤ 1048576 → (Instr.makeSlice 23 (.int .i64 (l0.length : Int)) (.int .i64 (l0.length : Int))).run Try.prog W = .ok (.slice (some ⟨W.heap.size, 0, none⟩) l0.length l0.length) (W.alloc (.cells (madeCells #[Value.int .i64 0] l0.length) 3)) := by
      intro W hl
      obtain ⟨i0, hi, hzz⟩ := Option.map_eq_some_iff.1 info3
      simp only [Prod.mk.injEq] at hzz
      obtain ⟨hz0, hz1, hz2⟩ := hzz
      have := run_make (P := Try.prog) W 23 3 i0 (.int .i64 0) Try.underlying23 hi hz0 .i64 .i64 (l0.length : Int) (l0.length : Int) (by omega) (by omega) (by rw [hz2]; omega) (by omega)
      rw [hz1] at this
      simp only [Int.toNat_natCast, Nat.mul_one] at this
      exact this
    have info94 : (Try.prog.info? 94).map (fun i => (i.zero, i.size, i.bytes)) = some (some (.agg #[.slice none 0 0, .int .i64 0]), 2, 32) := by kernel_rfl
    have hmk92 : ∀ W : World, l0.length ≤ 1048576 → (Instr.makeSlice 92 (.int .i64 (l0.length : Int)) (.int .i64 (l0.length : Int))).run Try.prog W = .ok (.slice (some ⟨W.heap.size, 0, none⟩) l0.length l0.length) (W.alloc (.cells (madeCells #[Value.slice none 0 0, .int .i64 0] (l0.length * 2)) 94)) := by
      intro W hl
      obtain ⟨i0, hi, hzz⟩ := Option.map_eq_some_iff.1 info94
      simp only [Prod.mk.injEq] at hzz
      obtain ⟨hz0, hz1, hz2⟩ := hzz
      have := run_make (P := Try.prog) W 92 94 i0 (.agg #[.slice none 0 0, .int .i64 0]) Try.underlying92 hi hz0 .i64 .i64 (l0.length : Int) (l0.length : Int) (by omega) (by omega) (by rw [hz2]; omega) (by omega)
      rw [hz1] at this
      simp only [Int.toNat_natCast] at this
      exact this
    clear info94
    have HM23 := Aside0.mk hmk23
    have HM92 := Aside0.mk hmk92
    clear hmk23 hmk92
    have hmax := Kd.C_max HR0.out
    have hmix : Try.prog.follows .mixedOrders = true := by kernel_rfl
    go_enter Try.func42, Try.ntmps42
    go_wp2_with (first | (go_at_call 58; refine HCC.out.mono ?_; rintro e w1 ⟨rfl, hb⟩; have HB := Aside0.mk hb; clear hb))
    go_loopg [40] l0.length (fun gg v40 wr => ∃ kk : Nat, kk ≤ l0.length ∧ v40 = .int .i64 (kk : Int) ∧ l0.length - kk ≤ gg ∧ Aside0 (Below w.heap.size w wr) ∧ Aside0 (∀ j : Nat, j < kk → ¬ rd l1 (j : Int) < 0 ∧ ¬ rd l1 (j : Int) > 1073741824))
    case atStart => exact ⟨0, by omega, rfl, by omega, HB, ⟨fun j hj => absurd hj (by omega)⟩⟩
    case round =>
      clear HB
      obtain ⟨kk, hkk, rfl, hgg, HB, HG⟩ := hrel
      by_cases hlt : kk < l0.length
      · have hltz : (kk : Int) < (l0.length : Int) := by omega
        have hltd : decide ((kk : Int) < (l0.length : Int)) = true := decide_eq_true hltz
        have hk0 : 0 ≤ (kk : Int) := by omega
        have HKN := Aside0.mk (show kk < l1.length from by have := HLEN.out; omega)
        obtain ⟨ad, e1, x0⟩ := Kd.at_int (Kd.C_below HR1.out HB.out) (kk : Int) hk0 (by have := HLEN.out; omega)
        cases e1
        generalize hx : rd l1 (kk : Int) = x at x0
        have HXX := Aside0.mk hx
        clear hx
        simp only [Int.toNat_natCast] at x0
        by_cases hb1 : x < 0
        · have hd1 : decide (x < 0) = true := decide_eq_true hb1
          go_wp2
          go_ret2
          have hbad : badS l1 = true := by
            cases hq : badS l1 with
            | true => rfl
            | false => have := badS_not hq HKN.out; rw [HXX.out] at this; exact absurd hb1 this.1
          have hh := HH.out
          rw [if_pos hbad] at hh
          obtain ⟨rfl, rfl⟩ : [] = r1 ∧ some 1 = r2 := by simpa using hh
          exact ⟨_, rfl, Kd.R_nil _ _ _ _ _, HB.out⟩
        · have hd1 : decide (x < 0) = false := decide_eq_false hb1
          by_cases hb2 : x > 1073741824
          · have hd2 : decide (x > 1073741824) = true := decide_eq_true hb2
            go_wp2
            go_ret2
            have hbad : badS l1 = true := by
              cases hq : badS l1 with
              | true => rfl
              | false => have := badS_not hq HKN.out; rw [HXX.out] at this; exact absurd hb2 this.2
            have hh := HH.out
            rw [if_pos hbad] at hh
            obtain ⟨rfl, rfl⟩ : [] = r1 ∧ some 1 = r2 := by simpa using hh
            exact ⟨_, rfl, Kd.R_nil _ _ _ _ _, HB.out⟩
          · have hd2 : decide (x > 1073741824) = false := decide_eq_false hb2
            have HG2 := Aside0.mk (show ∀ j : Nat, j < kk + 1 → ¬ rd l1 (j : Int) < 0 ∧ ¬ rd l1 (j : Int) > 1073741824 from by
              intro j hj
              by_cases e : j = kk
              · subst e; rw [HXX.out]; exact ⟨hb1, hb2⟩
              · exact HG.out j (by omega))
            go_wp2
            go_roundg (l0.length - (kk + 1))
            case measure => omega
            case rel => exact ⟨kk + 1, by omega, by first | rfl | go_num | (congr 1; unfold wrap64; omega) | (congr 1; omega), by omega, HB, HG2⟩
      · obtain rfl : kk = l0.length := by omega
        have hltd : decide ((l0.length : Int) < (l0.length : Int)) = false := decide_eq_false (by omega)
        have hgood := badS_some (st := l1) (fun k hk => HG.out k (by rw [HLEN.out] at hk; exact hk))
        have hh := HH.out
        rw [if_neg (by rw [hgood]; simp)] at hh
        obtain ⟨o, ho, hh⟩ := Option.bind_eq_some_iff.1 hh
        by_cases hok : okP l0 l1 o.1 = true
        case neg => rw [if_neg hok] at hh; exact absurd hh (by simp)
        rw [if_pos hok] at hh
        obtain ⟨rfl, rfl⟩ : playL l0 l1 (o.1.map Int.toNat) l2 = r1 ∧ none = r2 := by simpa using hh
        clear hh HH
        obtain ⟨o1, o2⟩ := o
        have HORD := Aside0.mk (demand_Order.calls k A0 c0 l0 o1 o2 wr (Kd.C_below HR0.out HB.out) HC0.out ho)
        have HOK := Aside0.mk (show (l0.length ≤ 1048576 ∧ ∀ x ∈ l0, 1 ≤ x.f0 ∧ x.f0 ≤ 1152921504606846976 ∧ 1 ≤ x.f1 ∧ x.f1 ≤ 1152921504606846976) ∧ ∀ i ∈ o1, 0 ≤ i ∧ i < (l0.length : Int) from by
          unfold okP at hok
          simp only [Bool.and_eq_true, decide_eq_true_eq, List.all_eq_true] at hok
          exact ⟨⟨hok.1.1, fun x hx => ⟨(hok.1.2 x hx).1.1.1, (hok.1.2 x hx).1.1.2, (hok.1.2 x hx).1.2, (hok.1.2 x hx).2⟩⟩, hok.2⟩)
        have hl0 := HOK.out.1.1
        have hmk23 := fun W => HM23.out W hl0
        have hmk92 := fun W => HM92.out W hl0
        clear hok ho hgood HM23 HM92
        go_wp2_with (first | (go_at_call 11; refine HORD.out.mono ?_; rintro e w1 ⟨vo, rfl, ho, hb⟩; obtain ⟨Ao, co, rfl⟩ := Kd.R_slice ho; have HO := Aside0.mk ho; have HB1 := Aside0.mk (HB.out.trans (hb.mono HB.out.size)); clear ho hb))
        have HKO := Aside0.mk (Kd.R_reads' HO.out).2.2
        have HPS := Aside0.mk (PS.start l0.length w1)
        have HBW := Aside0.mk (show Below w1.heap.size w1 ((w1.alloc (.cells (madeCells #[Value.int .i64 0] l0.length) 3)).alloc (.cells (madeCells #[Value.slice none 0 0, .int .i64 0] (l0.length * 2)) 94)) from ((Below.refl _ w1).alloc (Nat.le_refl _) _).alloc (by simp) _)
        have HSZ := Aside0.mk (show ((w1.alloc (.cells (madeCells #[Value.int .i64 0] l0.length) 3)).alloc (.cells (madeCells #[Value.slice none 0 0, .int .i64 0] (l0.length * 2)) 94)).heap.size = w1.heap.size + 2 from by simp)
        generalize hW0 : (w1.alloc (.cells (madeCells #[Value.int .i64 0] l0.length) 3)).alloc (.cells (madeCells #[Value.slice none 0 0, .int .i64 0] (l0.length * 2)) 94) = W0 at HPS HBW HSZ ⊢
        clear hW0 hmk23 hmk92 HCC
        have HBO : ∀ {vs : Nat → Value} {qs : Nat → List Int} {ls out : Nat → Int} {W : World}, PS l0.length w1.heap.size (w1.heap.size + 1) (w1.heap.size + 2) W0 vs qs ls out W → Below w1.heap.size w1 W := fun h => PS.below h HBW.out (Nat.le_refl _) (by omega) (by rw [HSZ.out]; omega)
        have HBP : ∀ {vs : Nat → Value} {qs : Nat → List Int} {ls out : Nat → Int} {W : World}, PS l0.length w1.heap.size (w1.heap.size + 1) (w1.heap.size + 2) W0 vs qs ls out W → Below w.heap.size w W := fun h => HB1.out.trans ((HBO h).mono HB1.out.size)
        have HBQ : ∀ {vs : Nat → Value} {qs : Nat → List Int} {ls out : Nat → Int} {W : World}, PS l0.length w1.heap.size (w1.heap.size + 1) (w1.heap.size + 2) W0 vs qs ls out W → Kd.C (Kd.int .i64) W Ao o1.length o1 := fun h => Kd.C_below HKO.out (HBO h)
        have HBQ := Aside0.mk @HBQ
        have HBO := Aside0.mk @HBO
        have HBP := Aside0.mk @HBP
        obtain ⟨O, hO⟩ : ∃ O, O = w1.heap.size := ⟨_, rfl⟩
        obtain ⟨J, hJ⟩ : ∃ J, J = w1.heap.size + 1 := ⟨_, rfl⟩
        obtain ⟨b0, hb0⟩ : ∃ b0, b0 = w1.heap.size + 2 := ⟨_, rfl⟩
        rw [← hb0, ← hJ, ← hO] at HPS HBO HBP HBQ
        rw [← hJ, ← hO]
        have HOO := Aside0.mk (show O = w1.heap.size ∧ J = w1.heap.size + 1 ∧ b0 = w1.heap.size + 2 from ⟨hO, hJ, hb0⟩)
        clear hO hJ hb0
        have hrm := HROW.out
        have homax := Kd.C_max HKO.out
        go_wp2
        go_loopg [65] l2.length (fun gg v65 wr => ∃ (t : Nat) (x : St) (vs : Nat → Value), t ≤ l2.length ∧ v65 = .int .i64 (t : Int) ∧ l2.length - t ≤ gg ∧ Aside0 (PS l0.length O J b0 W0 vs x.qs x.ls x.out wr) ∧ Aside0 (Inv l0.length t x) ∧ Aside0 (runS l0 l1 (o1.map Int.toNat) (l2.drop t) (t : Int) x = runS l0 l1 (o1.map Int.toNat) l2 0 x0))
        case atStart => exact ⟨0, x0, _, by omega, rfl, by omega, HPS, ⟨Inv.zero _⟩, ⟨rfl⟩⟩
        case round =>
          clear HPS
          obtain ⟨t, x, vs, htl, rfl, hgg2, HP, HI, HRUN⟩ := hrel
          by_cases htt : t < l2.length
          · have httz : (t : Int) < (l2.length : Int) := by omega
            have httd : decide ((t : Int) < (l2.length : Int)) = true := decide_eq_true httz
            have ht0 : 0 ≤ (t : Int) := by omega
            have htm : t < 4096 := by omega
            obtain ⟨ad2, e1, xb⟩ := Kd.at_bool (Kd.C_below HR2.out (HBP.out HP.out)) (t : Int) ht0 (by omega)
            cases e1
            obtain ⟨gv, hgv⟩ : ∃ g, rdOf false l2 (t : Int) = g := ⟨_, rfl⟩
            rw [hgv] at xb
            simp only [Int.toNat_natCast] at xb
            have HSTEP := Aside0.mk (show runS l0 l1 (o1.map Int.toNat) (l2.drop (t + 1)) ((t : Int) + 1) (tickS l0 l1 (o1.map Int.toNat) (t : Int) gv x) = runS l0 l1 (o1.map Int.toNat) l2 0 x0 from by
              rw [← HRUN.out, List.drop_eq_getElem_cons htt]
              have e : l2[t] = gv := by rw [← hgv]; simp [rdOf, htt]
              rw [e]
              rfl)
            clear hgv
            go_wp2
            go_loopg [72] l0.length (fun g2 v72 wr2 => ∃ (kk : Nat) (vs : Nat → Value), kk ≤ l0.length ∧ v72 = .int .i64 (kk : Int) ∧ l0.length - kk ≤ g2 ∧ Aside0 (PS l0.length O J b0 W0 vs (relK l0 l1 (t : Int) kk x).qs (relK l0 l1 (t : Int) kk x).ls x.out wr2))
            case atStart => exact ⟨0, vs, by omega, rfl, by omega, ⟨by rw [relK_zero]; exact HP.out⟩⟩
            case round =>
              clear HP xb
              obtain ⟨kk, vs, hkk, rfl, hg2, HP⟩ := hrel
              by_cases hlt : kk < l0.length
              · have hltz : (kk : Int) < (l0.length : Int) := by omega
                have hltd : decide ((kk : Int) < (l0.length : Int)) = true := decide_eq_true hltz
                have hk0 : 0 ≤ (kk : Int) := by omega
                obtain ⟨ad, e1, x0, x1, x2, x3⟩ := at_T43 (Kd.C_below HR0.out (HBP.out HP.out)) (kk : Int) hk0 hltz
                cases e1
                generalize hx : rd_T43 l0 (kk : Int) = p at x0 x1 x2 x3
                have HXX := Aside0.mk hx
                clear hx
                simp only [Int.toNat_natCast] at x0 x1 x2 x3
                go_upto_region 21 with (fail)
                have HPA := Aside0.mk (HP.out.alloc (Obj.cells #[.int .i64 p.f0, .int .i64 p.f1, .int .i64 p.f2, .int .i64 p.f3] 43))
                have y0 := (blk_cell (blk_new wr (Obj.cells #[.int .i64 p.f0, .int .i64 p.f1, .int .i64 p.f2, .int .i64 p.f3] 43)) 0).trans (by rfl)
                have y1 := (blk_cell (blk_new wr (Obj.cells #[.int .i64 p.f0, .int .i64 p.f1, .int .i64 p.f2, .int .i64 p.f3] 43)) 1).trans (by rfl)
                have HGX := Aside0.mk (show b0 ≤ wr.heap.size from HP.out.size)
                clear HP x0 x1 x2 x3
                generalize wr.alloc (Obj.cells #[.int .i64 p.f0, .int .i64 p.f1, .int .i64 p.f2, .int .i64 p.f3] 43) = w2 at HPA y0 y1 ⊢
                generalize wr.heap.size = gx at HGX y0 y1 ⊢
                obtain ⟨ad3, e1, z0⟩ := Kd.at_int (Kd.C_below HR1.out (HBP.out HPA.out)) (kk : Int) hk0 (by have := HLEN.out; omega)
                cases e1
                have HSG := Aside0.mk (HG.out kk hlt)
                generalize hs : rd l1 (kk : Int) = s at z0 HSG
                have HSS := Aside0.mk hs
                clear hs
                simp only [Int.toNat_natCast] at z0
                have HPP := Aside0.mk (show 1 ≤ p.f0 ∧ p.f0 ≤ 1152921504606846976 ∧ 1 ≤ p.f1 ∧ p.f1 ≤ 1152921504606846976 from by
                  have := HOK.out.1.2 p (by rw [← HXX.out, show rd_T43 l0 (kk : Int) = l0[kk] by simp [rd_T43, List.getD, hlt]]; exact List.getElem_mem hlt)
                  exact this)
                have hp0 : p.f0 ≠ 0 := by have := HPP.out; omega
                have hkl : IntKind.i64.wrap (kk : Int) = (kk : Int) := by rw [IntKind.wrap_i64]; omega
                by_cases q1 : s ≤ (t : Int)
                · have q1d : decide ((t : Int) ≥ s) = true := decide_eq_true q1
                  have hts : IntKind.i64.wrap ((t : Int) - s) = (t : Int) - s := by have := HSG.out; rw [IntKind.wrap_i64]; omega
                  obtain ⟨m, hm⟩ : ∃ m, Int.tmod ((t : Int) - s) p.f0 = m := ⟨_, rfl⟩
                  have hme : m = ((t : Int) - s) % p.f0 := by rw [← hm]; exact Int.tmod_eq_emod_of_nonneg (by omega)
                  have hmr : 0 ≤ m ∧ m < p.f0 := by
                    have := HPP.out
                    rw [hme]; exact ⟨Int.emod_nonneg _ hp0, Int.emod_lt_of_pos _ (by omega)⟩
                  have hmw : IntKind.i64.wrap m = m := by have := HPP.out; rw [IntKind.wrap_i64]; omega
                  have HRC := Aside0.mk (show rc l0 l1 (t : Int) kk = decide (m = 0) from by unfold rc; rw [HSS.out, HXX.out, ← hme, decide_eq_true q1]; rfl)
                  clear hme
                  by_cases q2 : m = 0
                  · have q2b : (m == 0) = true := by rw [q2]; rfl
                    have HRT := Aside0.mk (HRC.out.trans (decide_eq_true q2))
                    clear HRC
                    subst q2
                    go_wp2_with fail
                    go_big_region_o
                    have HP2 := Aside0.mk HPA.out.drew
                    have y1' : w2.drew.cell? ⟨gx, 1, none⟩ = some (.int .i64 p.f1) := y1
                    clear HPA y0 y1 z0
                    generalize w2.drew = w3 at HP2 y1' ⊢
                    obtain ⟨Aq, cq, hv⟩ := (HP2.out.q kk hlt).form
                    have hJ0 := (HP2.out.rdQ hlt)
                    rw [hv] at hJ0
                    obtain ⟨hJ1, hJ2⟩ := hJ0
                    have HV := Aside0.mk hv
                    clear hv
                    rw [relK_qs] at hJ1
                    obtain ⟨r1, r2, r3⟩ := relK_some x HRT.out
                    rw [HXX.out] at r3
                    have HREL := Aside0.mk (And.intro r1 (And.intro r2 r3))
                    clear r1 r2 r3
                    have hqlen : (x.qs kk).length ≤ 100000 := by have := HI.out.len kk hlt; omega
                    have HQL := Aside0.mk hqlen
                    clear hqlen
                    by_cases hq : x.qs kk = []
                    · have hq0 : (x.qs kk).length = 0 := by rw [hq]; rfl
                      obtain ⟨hL1, hL2⟩ := HP2.out.rdL hlt
                      have HP3 := Aside0.mk (HP2.out.setL hlt p.f1)
                      have HQE := Aside0.mk hq
                      have HVV := Aside0.mk (show vs kk = .slice Aq 0 cq from by rw [HV.out, relK_qs, hq0])
                      clear hq
                      go_upto_region 24 with (fail)
                      obtain ⟨hK1, hK2⟩ := HP3.out.rdQ hlt
                      rw [HVV.out] at hK1
                      clear hL1 hL2 hJ1 hJ2 y1' HP2
                      generalize w3.setCell ⟨J, kk * 2 + 1, none⟩ (.int .i64 p.f1) = w4 at HP3 hK1 hK2 ⊢
                      go_wp2_with (first | ((with_reducible refine gate_builtin (b := .append) (xs := #[.tmp 114, .tmp 116]) rfl ?_); at_builtin; refine PS.append HP3.out hlt (by rw [relK_qs]; exact HQL.out) (t : Int) Try.underlying23 info3 rfl (.tmp 114) (.tmp 116) rfl HVV.out.symm (by rfl) ?_; intro v1 w5 hPS hu hfz; obtain ⟨A5, c5, hv1⟩ := (hPS.q kk hlt).form; rw [upd_same, upd_same] at hv1; generalize List.length _ = m5 at hv1; subst hv1; obtain ⟨u5, hu5⟩ := hu; have HP5 := Aside0.mk hPS; clear hPS))
                      go_roundg (l0.length - (kk + 1))
                      case measure => omega
                      case rel => exact ⟨kk + 1, _, by omega, by first | rfl | go_num | (congr 1; unfold wrap64; omega) | (congr 1; omega), by omega, ⟨by have h5 := HP5.out; rw [relK_qs] at h5; rw [HREL.out.1, HREL.out.2.2, if_pos HQE.out]; exact h5⟩⟩
                    · have hq0 : (x.qs kk).length ≠ 0 := fun e => hq (List.length_eq_zero_iff.1 e)
                      have hq0z : ¬ ((x.qs kk).length : Int) = 0 := by omega
                      have hq0b : (((x.qs kk).length : Int) == 0) = false := beq_eq_false_iff_ne.2 hq0z
                      have HQE := Aside0.mk hq
                      have HVV := Aside0.mk (show vs kk = .slice Aq (x.qs kk).length cq from by rw [HV.out, relK_qs])
                      clear hq
                      go_upto_region 24 with (fail)
                      clear y1'
                      go_wp2_with (first | ((with_reducible refine gate_builtin (b := .append) (xs := #[.tmp 114, .tmp 116]) rfl ?_); at_builtin; refine PS.append HP2.out hlt (by rw [relK_qs]; exact HQL.out) (t : Int) Try.underlying23 info3 rfl (.tmp 114) (.tmp 116) rfl HVV.out.symm (by rfl) ?_; intro v1 w5 hPS hu hfz; obtain ⟨A5, c5, hv1⟩ := (hPS.q kk hlt).form; rw [upd_same, upd_same] at hv1; generalize List.length _ = m5 at hv1; subst hv1; obtain ⟨u5, hu5⟩ := hu; have HP5 := Aside0.mk hPS; clear hPS))
                      go_roundg (l0.length - (kk + 1))
                      case measure => omega
                      case rel => exact ⟨kk + 1, _, by omega, by first | rfl | go_num | (congr 1; unfold wrap64; omega) | (congr 1; omega), by omega, ⟨by have h5 := HP5.out; rw [relK_qs] at h5; rw [HREL.out.1, HREL.out.2.2, if_neg HQE.out]; exact h5⟩⟩
                  · have q2b : (m == 0) = false := beq_eq_false_iff_ne.2 q2
                    have HRF := Aside0.mk (HRC.out.trans (decide_eq_false q2))
                    clear HRC
                    go_wp2_with fail
                    go_big_region_o
                    have HP2 := Aside0.mk HPA.out.drew
                    clear HPA y0 y1 z0
                    generalize w2.drew = w3 at HP2 ⊢
                    go_wp2
                    go_roundg (l0.length - (kk + 1))
                    case measure => omega
                    case rel => exact ⟨kk + 1, vs, by omega, by first | rfl | go_num | (congr 1; unfold wrap64; omega) | (congr 1; omega), by omega, ⟨by rw [relK_not _ HRF.out]; exact HP2.out⟩⟩
                · have q1d : decide ((t : Int) ≥ s) = false := decide_eq_false q1
                  have HRC := Aside0.mk (show rc l0 l1 (t : Int) kk = false from by unfold rc; rw [HSS.out, decide_eq_false q1]; rfl)
                  go_wp2_with fail
                  go_big_region_o
                  have HP2 := Aside0.mk HPA.out.drew
                  clear HPA y0 y1 z0
                  generalize w2.drew = w3 at HP2 ⊢
                  go_wp2
                  go_roundg (l0.length - (kk + 1))
                  case measure => omega
                  case rel => exact ⟨kk + 1, vs, by omega, by first | rfl | go_num | (congr 1; unfold wrap64; omega) | (congr 1; omega), by omega, ⟨by rw [relK_not _ HRC.out]; exact HP2.out⟩⟩
              · obtain rfl : kk = l0.length := by omega
                have hltd : decide ((l0.length : Int) < (l0.length : Int)) = false := decide_eq_false (by omega)
                obtain ⟨y, hy⟩ : ∃ y, y = relK l0 l1 (t : Int) l0.length x := ⟨_, rfl⟩
                have HY := Aside0.mk hy
                have hout : x.out = y.out := by rw [hy]; rfl
                rw [← hy, hout] at HP
                have HCC := Aside0.mk (show ∀ k, k < l0.length → 1 ≤ (rd_T43 l0 (k : Int)).f1 ∧ (rd_T43 l0 (k : Int)).f1 ≤ 1152921504606846976 from by
                  intro k hk
                  have h := HOK.out.1.2 (rd_T43 l0 (k : Int)) (by rw [show rd_T43 l0 (k : Int) = l0[k] by simp [rd_T43, List.getD, hk]]; exact List.getElem_mem hk)
                  exact h.2.2)
                have HIY := Aside0.mk (show Inv l0.length (t + 1) y from by rw [hy]; exact HI.out.rel _ (by omega) HCC.out)
                clear hy hout
                cases gv with
                | false =>
                  go_wp2
                  go_roundg (l2.length - (t + 1))
                  case measure => omega
                  case rel => exact ⟨t + 1, y, vs, by omega, by first | rfl | go_num | (congr 1; unfold wrap64; omega) | (congr 1; omega), by omega, HP, HIY, ⟨by
                    have h := HSTEP.out
                    unfold tickS at h
                    rw [if_neg (by simp), ← HY.out] at h
                    rw [show ((t + 1 : Nat) : Int) = (t : Int) + 1 by omega]
                    exact h⟩⟩
                | true =>
                  have HST2 := Aside0.mk (show runS l0 l1 (o1.map Int.toNat) (l2.drop (t + 1)) ((t + 1 : Nat) : Int) (giveS l0 (t : Int) (o1.map Int.toNat) y) = runS l0 l1 (o1.map Int.toNat) l2 0 x0 from by
                    have h := HSTEP.out
                    unfold tickS at h
                    rw [if_pos rfl, ← HY.out] at h
                    rw [show ((t + 1 : Nat) : Int) = (t : Int) + 1 by omega]
                    exact h)
                  have HIG := Aside0.mk (show Inv l0.length (t + 1) (giveS l0 (t : Int) (o1.map Int.toNat) y) from Inv.give HCC.out _ HIY.out (by
                    intro i hi
                    obtain ⟨z, hz, rfl⟩ := List.mem_map.1 hi
                    have := HOK.out.2 z hz
                    omega))
                  clear HSTEP
                  go_wp2
                  go_loopg [125] o1.length (fun g3 v125 wr3 => ∃ p : Nat, p ≤ o1.length ∧ v125 = .int .i64 (p : Int) ∧ o1.length - p ≤ g3 ∧ Aside0 (PS l0.length O J b0 W0 vs y.qs y.ls y.out wr3) ∧ Aside0 (giveS l0 (t : Int) ((o1.map Int.toNat).drop p) y = giveS l0 (t : Int) (o1.map Int.toNat) y))
                  case atStart => exact ⟨0, by omega, rfl, by omega, HP, ⟨rfl⟩⟩
                  case round =>
                    clear HP
                    obtain ⟨p, hp, rfl, hg3, HP, HG3⟩ := hrel
                    by_cases hpt : p < o1.length
                    · have hpz : (p : Int) < (o1.length : Int) := by omega
                      have hpd : decide ((p : Int) < (o1.length : Int)) = true := decide_eq_true hpz
                      have hp0 : 0 ≤ (p : Int) := by omega
                      obtain ⟨ad4, e1, z0⟩ := Kd.at_int (HBQ.out HP.out) (p : Int) hp0 hpz
                      cases e1
                      have hrp : rd o1 (p : Int) = o1[p] := by simp [rd, List.getD, hpt]
                      have hmem := HOK.out.2 o1[p] (List.getElem_mem hpt)
                      obtain ⟨i, hi⟩ : ∃ i : Nat, o1[p] = (i : Int) := ⟨o1[p].toNat, by omega⟩
                      have hin : i < l0.length := by omega
                      have hdrop : (o1.map Int.toNat).drop p = i :: (o1.map Int.toNat).drop (p + 1) := by
                        rw [List.drop_eq_getElem_cons (by rw [List.length_map]; exact hpt)]
                        congr 1
                        rw [List.getElem_map, hi]; simp
                      rw [hrp, hi] at z0
                      simp only [Int.toNat_natCast] at z0
                      rw [hdrop] at HG3
                      clear hrp hmem hi hdrop
                      have hinz : (i : Int) < (l0.length : Int) := by omega
                      have hi0 : 0 ≤ (i : Int) := by omega
                      obtain ⟨Aq, cq, hv⟩ := (HP.out.q i hin).form
                      obtain ⟨hJ1, hJ2⟩ := HP.out.rdQ hin
                      rw [hv] at hJ1
                      have HV := Aside0.mk hv
                      clear hv
                      by_cases hq : y.qs i = []
                      · have hq0 : (y.qs i).length = 0 := by rw [hq]; rfl
                        have HQE := Aside0.mk hq
                        clear hq
                        go_wp2
                        go_roundg (o1.length - (p + 1))
                        case measure => omega
                        case rel => exact ⟨p + 1, by omega, by first | rfl | go_num | (congr 1; unfold wrap64; omega) | (congr 1; omega), by omega, HP, ⟨by rw [← HG3.out, give_skip HQE.out]⟩⟩
                      · obtain ⟨a, q, haq⟩ : ∃ a q, y.qs i = a :: q := by
                          cases hh : y.qs i with
                          | nil => exact absurd hh hq
                          | cons a q => exact ⟨a, q, rfl⟩
                        have hql : (y.qs i).length = q.length + 1 := by rw [haq]; rfl
                        rw [hql] at hJ1
                        have hqz : ¬ ((q.length : Int) + 1 = 0) := by omega
                        have hqzb : (((q.length : Int) + 1) == 0) = false := beq_eq_false_iff_ne.2 hqz
                        obtain ⟨hL1, hL2⟩ := HP.out.rdL hin
                        have HLF := Aside0.mk (HIY.out.lft i hin hq)
                        have HAR := Aside0.mk (HIY.out.rng i hin a (by rw [haq]; simp))
                        have HAQ := Aside0.mk haq
                        clear haq hq hql
                        generalize hls : y.ls i = lf at hL1 HLF
                        have HLS := Aside0.mk hls
                        clear hls
                        have hlw : IntKind.i64.wrap (lf - 1) = lf - 1 := by have := HLF.out; rw [IntKind.wrap_i64]; omega
                        obtain ⟨b, o, c, hvi, hcl, _, _⟩ := HP.out.pop hin HAQ.out
                        have hAq : Aq = some ⟨b, o, none⟩ ∧ cq = c := by
                          have h1 := HV.out
                          rw [hvi] at h1
                          injection h1 with e1 e2 e3
                          exact ⟨e1.symm, e3.symm⟩
                        rw [hAq.1, hAq.2] at hJ1
                        clear hAq
                        have HVI := Aside0.mk hvi
                        clear hvi HV
                        by_cases hl1 : lf = 1
                        · subst hl1
                          go_upto_region 33 with (fail)
                          have HP3 := Aside0.mk (HP.out.setL hin 0)
                          clear hJ1 hJ2 hL1 hL2 HP
                          generalize wr.setCell ⟨J, i * 2 + 1, none⟩ (.int .i64 0) = w4 at HP3 ⊢
                          have hL1 := (HP3.out.rdL hin).1
                          rw [upd_same] at hL1
                          obtain ⟨hJ1, hJ2⟩ := HP3.out.rdQ hin
                          rw [HVI.out] at hJ1
                          obtain ⟨hO1, hO2⟩ := HP3.out.rdO hin
                          have hC1 := (HP3.out.pop' hin HAQ.out HVI.out).1
                          generalize hoi : y.out i = oi at hO1
                          have HOI := Aside0.mk hoi
                          clear hoi
                          have hta : IntKind.i64.wrap ((t : Int) + 1 - a) = (t : Int) + 1 - a := by have := HAR.out; rw [IntKind.wrap_i64]; omega
                          have ht1 : IntKind.i64.wrap ((t : Int) + 1) = (t : Int) + 1 := by rw [IntKind.wrap_i64]; omega
                          go_wp2_with fail
                          go_big_region_o
                          have HP5 := Aside0.mk ((HP3.out.setO hin (max oi ((t : Int) + 1 - a))).drew)
                          clear hJ1 hJ2 hL1 hO1 hO2 hC1 HP3
                          generalize (w4.setCell ⟨O, i, none⟩ (.int .i64 (max oi ((t : Int) + 1 - a)))).drew = w5 at HP5 ⊢
                          obtain ⟨hJ1, hJ2⟩ := HP5.out.rdQ hin
                          rw [HVI.out] at hJ1
                          obtain ⟨hL1, hL2⟩ := HP5.out.rdL hin
                          rw [upd_same] at hL1
                          obtain ⟨ad5, e1, x0, x1, x2, x3⟩ := at_T43 (Kd.C_below HR0.out (HBP.out HP5.out)) (i : Int) hi0 hinz
                          cases e1
                          generalize hx : rd_T43 l0 (i : Int) = p5 at x0 x1 x2 x3
                          have HXX := Aside0.mk hx
                          clear hx
                          simp only [Int.toNat_natCast] at x0 x1 x2 x3
                          have hPOP := (HP5.out.pop' hin HAQ.out HVI.out).2
                          obtain ⟨c', rfl⟩ : ∃ c', c = c' + 1 := ⟨c - 1, by omega⟩
                          by_cases hc0 : c' = 0
                          · subst hc0
                            have hq00 : q.length = 0 := by omega
                            have hP6 := Aside0.mk (hPOP (.slice (some ⟨b, o, none⟩) 0 0) (.inr ⟨rfl, by rw [hq00]⟩))
                            have hL6 : (w5.setCell ⟨J, i * 2, none⟩ (.slice (some ⟨b, o, none⟩) 0 0)).cell? ⟨J, i * 2 + 1, none⟩ = some (.int .i64 0) := by rw [(hP6.out.rdL hin).1, upd_same]
                            clear hPOP
                            go_wp2_with fail
                            go_big_region_o
                            have HP7 := Aside0.mk ((hP6.out.setL hin p5.f1).drew)
                            clear hJ1 hJ2 hL1 hL2 hL6 hP6 HP5 x0 x1 x2 x3
                            generalize ((w5.setCell ⟨J, i * 2, none⟩ (.slice (some ⟨b, o, none⟩) 0 0)).setCell ⟨J, i * 2 + 1, none⟩ (.int .i64 p5.f1)).drew = w7 at HP7 ⊢
                            have HGV := Aside0.mk (show giveS l0 (t : Int) (o1.map Int.toNat) y = ⟨upd y.qs i q, upd (upd y.ls i 0) i p5.f1, upd y.out i (max oi ((t : Int) + 1 - a))⟩ from by rw [← HG3.out, give_last HAQ.out HLS.out, HXX.out, HOI.out])
                            go_wp2
                            go_roundg (l2.length - (t + 1))
                            case measure => omega
                            case rel => exact ⟨t + 1, _, _, by omega, by first | rfl | go_num | (congr 1; unfold wrap64; omega) | (congr 1; omega), by omega, ⟨by rw [HGV.out]; exact HP7.out⟩, HIG, HST2⟩
                          · skip
                            have hP6 := Aside0.mk (hPOP (.slice (some ⟨b, o + 1, none⟩) q.length c') (.inl (by simp)))
                            have hL6 : (w5.setCell ⟨J, i * 2, none⟩ (.slice (some ⟨b, o + 1, none⟩) q.length c')).cell? ⟨J, i * 2 + 1, none⟩ = some (.int .i64 0) := by rw [(hP6.out.rdL hin).1, upd_same]
                            clear hPOP
                            go_wp2_with fail
                            go_big_region_o
                            have HP7 := Aside0.mk ((hP6.out.setL hin p5.f1).drew)
                            clear hJ1 hJ2 hL1 hL2 hL6 hP6 HP5 x0 x1 x2 x3
                            generalize ((w5.setCell ⟨J, i * 2, none⟩ (.slice (some ⟨b, o + 1, none⟩) q.length c')).setCell ⟨J, i * 2 + 1, none⟩ (.int .i64 p5.f1)).drew = w7 at HP7 ⊢
                            have HGV := Aside0.mk (show giveS l0 (t : Int) (o1.map Int.toNat) y = ⟨upd y.qs i q, upd (upd y.ls i 0) i p5.f1, upd y.out i (max oi ((t : Int) + 1 - a))⟩ from by rw [← HG3.out, give_last HAQ.out HLS.out, HXX.out, HOI.out])
                            go_wp2
                            go_roundg (l2.length - (t + 1))
                            case measure => omega
                            case rel => exact ⟨t + 1, _, _, by omega, by first | rfl | go_num | (congr 1; unfold wrap64; omega) | (congr 1; omega), by omega, ⟨by rw [HGV.out]; exact HP7.out⟩, HIG, HST2⟩
                        · have hl1z : ¬ (lf - 1 = 0) := by omega
                          have hl1b : ((lf - 1) == 0) = false := beq_eq_false_iff_ne.2 hl1z
                          have HGV := Aside0.mk (show giveS l0 (t : Int) (o1.map Int.toNat) y = ⟨y.qs, upd y.ls i (lf - 1), y.out⟩ from by
                            rw [← HG3.out, give_less HAQ.out (by rw [HLS.out]; exact hl1), HLS.out])
                          clear hl1
                          go_upto_region 33 with (fail)
                          have HP3 := Aside0.mk (HP.out.setL hin (lf - 1))
                          clear hJ1 hJ2 hL1 hL2 HP
                          generalize wr.setCell ⟨J, i * 2 + 1, none⟩ (.int .i64 (lf - 1)) = w4 at HP3 ⊢
                          have hL1 := (HP3.out.rdL hin).1
                          rw [upd_same] at hL1
                          go_wp2
                          go_roundg (l2.length - (t + 1))
                          case measure => omega
                          case rel => exact ⟨t + 1, _, vs, by omega, by first | rfl | go_num | (congr 1; unfold wrap64; omega) | (congr 1; omega), by omega, ⟨by rw [HGV.out]; exact HP3.out⟩, HIG, HST2⟩
                    · have hpz : ¬ (p : Int) < (o1.length : Int) := by omega
                      have hpd : decide ((p : Int) < (o1.length : Int)) = false := decide_eq_false hpz
                      have HGV := Aside0.mk (show giveS l0 (t : Int) (o1.map Int.toNat) y = y from by
                        rw [← HG3.out, List.drop_of_length_le (by rw [List.length_map]; omega)]; rfl)
                      go_wp2
                      go_roundg (l2.length - (t + 1))
                      case measure => omega
                      case rel => exact ⟨t + 1, _, vs, by omega, by first | rfl | go_num | (congr 1; unfold wrap64; omega) | (congr 1; omega), by omega, ⟨by rw [HGV.out]; exact HP.out⟩, HIG, HST2⟩
          · have htz : ¬ (t : Int) < (l2.length : Int) := by omega
            have htd : decide ((t : Int) < (l2.length : Int)) = false := decide_eq_false htz
            have HFIN := Aside0.mk (show x = runS l0 l1 (o1.map Int.toNat) l2 0 x0 from by
              rw [← HRUN.out, List.drop_of_length_le (by omega)]; rfl)
            go_wp2
            go_ret2
            refine ⟨_, rfl, ?_, HBP.out HP.out⟩
            obtain ⟨co, g1, g2, g3⟩ := HP.out.o
            have hpl : (playL l0 l1 (o1.map Int.toNat) l2).length = l0.length := by unfold playL; simp
            have hw1 : w.heap.size ≤ w1.heap.size := HB1.out.size
            have hOw := HOO.out.1
            refine Kd.R_of_own ⟨by simp [encs], .inr ⟨O, l0.length, co, by rw [hpl]; rfl, by omega, g1, by rw [hpl]; exact Nat.le_refl _, by simp only [maxLen]; omega, by omega, ?_⟩⟩ (fun _ _ => trivial)
            rw [hpl]
            apply List.ext_getElem
            · simp [encs, hpl, g2]
            · intro m m1 m2
              have hm : m < l0.length := by
                simp [g2] at m1
                omega
              have e1 := g3 m hm
              have e2 : co.toList[m]? = some (.int .i64 (x.out m)) := by rw [Array.getElem?_toList]; exact e1
              rw [List.getElem_take]
              have e3 := (List.getElem?_eq_some_iff.1 e2).2
              rw [e3]
              have e4 : playL l0 l1 (o1.map Int.toNat) l2 = (List.range l0.length).map x.out := by unfold playL; rw [← HFIN.out]
              simp [encs, e4]
end Go.Proofs.YtdonlmbhamcjdaaRRR.J
