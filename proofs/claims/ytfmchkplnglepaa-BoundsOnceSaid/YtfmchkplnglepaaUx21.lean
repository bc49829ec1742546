/- Proved here: what the machine does at BoundsOnce: it answers true (a walk by hand, over the calendar's contracts). No conditions. -/
import Derived.Test.YtfmchkplnglepaaHpBoPI
import Derived.Test.YtfmchkplnglepaaUx0
namespace Go.Proofs.Ytfmchkplnglepaa.U
open Go.RowKit Go.Proofs.YtfmchkplnglepaaW.PrintWords Go.Proofs.YtfmchkplnglepaaW.PrintLast Go.Proofs.YtfmchkplnglepaaW.PrintMore
open Go Go.Proofs.Ytfmchkplnglepaa.HpI
set_option linter.unusedVariables false
set_option linter.unusedSimpArgs false
attribute [local go_sem] max2_int min2_int max_two min_two max_three min_three max_four min_four   -- for this text's walks alone
namespace On
theorem bo_make {w W : World} {c : Nat} {ops : Array Oper} {rest : List Oper} {o : Oper} {a : Act} {Q : Exit → Act → World → Prop} {N : Tmp} (h : Ca (fun k => w.heap.size ≤ k) c [] W) (ho : Off (fun k => w.heap.size ≤ k) w W)
    (hgd : o.guard = none) (hd : o.dst = some N) (op : o.op = .makeSlice 36 (.const (.int .i64 64)) (.const (.int .i64 64)))
    (k : ∀ wb cap w1, Bo w c wb cap [] (List.replicate 64 0) w1 → wpList Try.prog ops Q rest (a.put o.dst (.slice (some ⟨wb, 0, none⟩) 64 cap)) w1) : wpList Try.prog ops Q (o :: rest) a W := by
  refine Kd.R_make (Kd.int .i64) (w0 := W) 0 3 hgd hd 36 _ _ op 64 rfl rfl Try.underlying36 (.int .i64 0) 8 info3 rfl (by decide) (by omega) 0 (ok := fun _ => True) (okp := fun _ => False) rfl (fun _ h => h.elim) trivial (by omega) (by decide) (Below.refl _ _) (Nat.zero_le _) ?_
  intro v1 w1 hr hb hg hat
  obtain ⟨wb, cap, rfl, _, hlt, _⟩ := Kd.R_form hr (by decide)
  obtain ⟨b, hb1, hb2⟩ := hat
  obtain rfl : wb = b := by simpa [Value.ownBlock] using hb1
  refine k wb cap w1 ⟨?_, Kd.R_mono (R_re hr) (fun k hk => by simpa [Value.ownBlock] using hk), ho.grown hg (by simp), Nat.le_trans ho.2.2.2.1 hb2, hlt⟩
  exact ((h.re (Q := fun k => w.heap.size ≤ k ∧ k < W.heap.size) (fun k hk hp => ⟨hp, hk⟩)).off (fun k hk _ => hg.block k hk (by simp))).re (fun k _ hp => ⟨hp.1, by have := hp.2; omega⟩)
theorem u64_mod (x : Int) (m : Int) (hm : 0 < m) (hm2 : m ≤ 1000) : 0 ≤ Int.tmod (IntKind.u64.wrap x) m ∧ Int.tmod (IntKind.u64.wrap x) m < m := by
  have h0 : 0 ≤ IntKind.u64.wrap x := by unfold IntKind.wrap; simp [IntKind.signed]; omega
  exact ⟨Int.tmod_nonneg _ h0, Int.tmod_lt_of_pos _ hm⟩
set_option maxHeartbeats 16000000 in
set_option maxRecDepth 100000 in
theorem once_calls (A0 : Option Addr) (c0 : Nat) (l0 : List S39) (a1 : Int) (w : World) (hr0 : Kd.C k39 w A0 l0.length l0) (hlen : l0.length ≤ 9223372036854775807) :
    Calls Try.prog 4 #[.slice A0 l0.length c0, .int .i64 a1] w fun e w' => e = .returned (.bool true) ∧ Below w.heap.size w w' := by
  have huP := Try.underlying34
  have huI := Try.underlying36
  have huO := Try.underlying39
  have huL := Try.underlying33
  have hu3 := Try.underlying3
  have hu37 := Try.underlying37
  have HR0 := Aside0.mk hr0
  have HL0 := Aside0.mk hlen
  clear hr0 hlen
  go_enter Try.func4, Try.ntmps4
  go_wp2_with (first
    | (go_at_call 11; refine (cal_new (P := fun k => w.heap.size ≤ k) (W := w) (fun k hk => hk)).mono ?_; rintro e w1 ⟨c, rfl, hh, ho, _⟩; have HC := Aside0.mk hh; have HO := Aside0.mk ho; clear hh ho)
    | ((with_reducible refine gate_dst (N := 23) rfl ?_); refine bo_make (w := w) HC.out HO.out rfl rfl rfl ?_; intro wb cap w2 hh; have HB := Aside0.mk hh; clear hh)
    | go_in)
  go_loopg [7] 65 (fun kq v7 w' => ∃ (i : Nat) (wh : List Int), v7 = .int .i64 (i : Int) ∧ Aside0 (kq + i = 65 ∧ i ≤ 64 ∧ ∀ j : Nat, j < i → wh.getD j 0 = -1) ∧ Aside0 (Bo w c wb cap [] wh w'))
  case atStart => exact ⟨0, List.replicate 64 0, rfl, ⟨rfl, by omega, fun j h => absurd h (by omega)⟩, HB⟩
  case round =>
    clear HB
    obtain ⟨i, wh, rfl, HI, HB⟩ := hrel
    cases gk with
    | zero => exact absurd HI.out (by omega)
    | succ k2 =>
      by_cases q1 : i < 64
      · have d1 : decide ((i : Int) < 64) = true := decide_eq_true (by omega)
        have d1' : decide (i < 64) = true := decide_eq_true q1
        obtain ⟨i1, hi1⟩ : ∃ n, n = i + 1 := ⟨_, rfl⟩
        have HM := Aside0.mk (show k2 < k2 + 1 ∧ (k2 + i1 = 65 ∧ i1 ≤ 64 ∧ ∀ j : Nat, j < i1 → (wh.set i (-1)).getD j 0 = -1) from ⟨by omega, by have := HI.out.1; omega, by omega, fun j hj => by
          rw [getD_set (by rw [HB.out.len]; exact q1)]
          by_cases e : j = i
          · rw [if_pos e]
          · rw [if_neg e]; exact HI.out.2.2 j (by omega)⟩)
        obtain ⟨x0, f0⟩ := HB.out.cell q1
        have HB2 := Aside0.mk (HB.out.set i (-1))
        have p0 : (0 ≤ (i : Int)) = True := eq_true (by omega)
        have p1 : ((i : Int) < 64) = True := eq_true (by omega)
        have p1' : (i < 64) = True := eq_true q1
        have hw_ := Aside0.mk (show wrap64 ((i : Int) + 1) = (i1 : Int) by unfold wrap64; omega)
        clear HI q1 hi1
        have hw := hw_.out
        go_wp2
        go_roundg k2
        case measure => exact HM.out.1
        case rel => exact ⟨i1, wh.set i (-1), by first | rfl | (simp; done) | (simp [*]; done), ⟨HM.out.2⟩, HB2⟩
      · have d1 : decide ((i : Int) < 64) = false := decide_eq_false (by omega)
        have d1' : decide (i < 64) = false := decide_eq_false q1
        have HLK := Aside0.mk (lk_start HB.out.len (fun j hj => HI.out.2.2 j (by omega)))
        clear HI q1
        go_wp2
        go_loopg [8] (l0.length + 1) (fun kq v8 w' => ∃ (i : Int) (L : List En) (wh : List Int), v8 = .int .i64 i ∧ Aside0 ((kq : Int) + i = l0.length + 1 ∧ 0 ≤ i ∧ i ≤ l0.length ∧ i ≤ 200 ∧ (L.length : Int) ≤ i) ∧ Aside0 (Lk L wh) ∧ Aside0 (Bo w c wb cap L wh w'))
        case atStart => exact ⟨0, [], wh, rfl, ⟨by omega, by omega, by omega, by omega, by simp⟩, HLK, by first | exact HB | exact ⟨by repeat (first | exact HB.out | apply Bo.drew | apply Bo.drewN)⟩⟩
        case round =>
          clear HB HLK
          obtain ⟨i, L, wh, rfl, HI, HLK, HB⟩ := hrel
          cases gk with
          | zero => exact absurd HI.out (by omega)
          | succ k2 =>
            by_cases q1 : i < (l0.length : Int) ∧ i < 200
            · have c1b : decide (i < (l0.length : Int)) = true := decide_eq_true q1.1
              have c2b : decide (i < 200) = true := decide_eq_true q1.2
              obtain ⟨ad, e, x0, x1, x2⟩ := at_T39 HR0.out i HI.out.2.1 q1.1
              cases e
              replace x1 := (HB.out.bel.cell (World.block_lt_of_cell? w _ x1)).trans x1
              replace x2 := (HB.out.bel.cell (World.block_lt_of_cell? w _ x2)).trans x2
              obtain ⟨u, hu⟩ : ∃ u, (rd_T39 l0 i).f1 = u := ⟨_, rfl⟩
              obtain ⟨v, hv⟩ : ∃ v, (rd_T39 l0 i).f2 = v := ⟨_, rfl⟩
              rw [hu] at x1
              rw [hv] at x2
              have p0 : (0 ≤ i) = True := eq_true HI.out.2.1
              have p1 : (i < (l0.length : Int)) = True := eq_true q1.1
              have HM := Aside0.mk (show k2 < k2 + 1 ∧ (k2 : Int) + (i + 1) = l0.length + 1 ∧ 0 ≤ i + 1 ∧ i + 1 ≤ l0.length ∧ i + 1 ≤ 200 ∧ L.length < 1000000 ∧ (L.length : Int) + 1 ≤ i + 1 from ⟨by omega, by have := HI.out; omega, by have := HI.out; omega, by omega, by omega, by have := HI.out; omega, by have := HI.out; omega⟩)
              have hw_ := Aside0.mk (show wrap64 (i + 1) = i + 1 by have := HI.out; unfold wrap64; omega)
              obtain ⟨m, hm⟩ : ∃ m : Nat, wrap64 ((IntKind.u64.wrap u).tmod 64) = (m : Int) ∧ m < 64 := by
                obtain ⟨a, b⟩ := u64_mod u 64 (by omega) (by omega)
                generalize (IntKind.u64.wrap u).tmod 64 = r at *
                exact ⟨r.toNat, by unfold wrap64; omega, by omega⟩
              obtain ⟨t, ht⟩ : ∃ t : Int, wrap64 ((IntKind.u64.wrap v).tmod 500) = t ∧ 0 ≤ t ∧ t < 500 := by
                obtain ⟨a, b⟩ := u64_mod v 500 (by omega) (by omega)
                generalize (IntKind.u64.wrap v).tmod 500 = r at *
                exact ⟨r, by unfold wrap64; omega, a, b⟩
              have HMT := Aside0.mk (show m < 64 ∧ 0 ≤ (m : Int) ∧ (m : Int) ≤ 9223372036854775807 ∧ 0 ≤ t ∧ t < 500 from ⟨hm.2, by omega, by have := hm.2; omega, ht.2.1, ht.2.2⟩)
              have p2 : (0 ≤ (m : Int)) = True := eq_true (by omega)
              have p3 : ((m : Int) < 64) = True := eq_true (by have := hm.2; omega)
              have p3' : (m < 64) = True := eq_true hm.2
              have hm_ := Aside0.mk hm.1
              have ht_ := Aside0.mk ht.1
              clear HI q1 x0 hu hv hm ht
              have hw := hw_.out
              have hm := hm_.out
              have ht := ht_.out
              go_wp2
              go_quiet (fail)
              go_wp2_with (first
                | (go_at_call 12; refine (Bo.put (show Bo w c wb cap L wh _ from by repeat (first | exact HB.out | apply Bo.drew | apply Bo.drewN)) HM.out.2.2.2.2.2.1 (m : Int) t HMT.out.2.1 HMT.out.2.2.1 HMT.out.2.2.2.1).mono ?_; rintro e w3 ⟨rfl, hh⟩; obtain ⟨y0, f0⟩ := hh.cell HMT.out.1; have HB2 := Aside0.mk (hh.set m t); clear hh)
                | go_in)
              go_roundg k2
              case measure => exact HM.out.1
              case rel => exact ⟨i + 1, ins ((m : Int), t) (del (m : Int) L), wh.set m t, by first | rfl | (simp; done) | (simp [*]; done), ⟨HM.out.2.1, HM.out.2.2.1, HM.out.2.2.2.1, HM.out.2.2.2.2.1, by have h1 := len_put (m : Int) t L; have h2 := HM.out.2.2.2.2.2.2; omega⟩, ⟨lk_put HLK.out HMT.out.1 HMT.out.2.2.2.1 HMT.out.2.2.2.2⟩, HB2⟩
            · by_cases q2 : i < (l0.length : Int)
              · have c1b : decide (i < (l0.length : Int)) = true := decide_eq_true q2
                have c2b : decide (i < 200) = false := decide_eq_false (fun h => q1 ⟨q2, h⟩)
                have HLL := Aside0.mk (show L.length ≤ 1000000 by have := HI.out; omega)
                clear HI q1 q2
                obtain ⟨s1, hs1⟩ : ∃ x : Int, (if (500 : Int) < a1 then 500 else a1) = x := ⟨_, rfl⟩
                obtain ⟨s2, hs2⟩ : ∃ x : Int, (if (1 : Int) < s1 then s1 else 1) = x := ⟨_, rfl⟩
                have HST := Aside0.mk (show 1 ≤ s2 ∧ s2 ≤ 500 from by rw [← hs2, ← hs1]; split <;> split <;> omega)
                go_wp2
                clear hs1 hs2
                go_loopg [11] 1501 (fun kq v11 w' => ∃ (till : Int) (L : List En) (wh : List Int), v11 = .int .i64 till ∧ Aside0 ((1500 : Int) < kq + till ∧ 0 ≤ till ∧ till ≤ 1500 ∧ L.length ≤ 1000000 ∧ (till = 0 ∨ ∀ e ∈ L, till - s2 < e.2)) ∧ Aside0 (Lk L wh) ∧ Aside0 (Bo w c wb cap L wh w'))
                case atStart => exact ⟨0, L, wh, rfl, ⟨by omega, by omega, by omega, HLL.out, Or.inl rfl⟩, HLK, ⟨by repeat (first | exact HB.out | apply Bo.drew | apply Bo.drewN)⟩⟩
                case round =>
                  clear HB HLK HLL
                  obtain ⟨till, L, wh, rfl, HI, HLK, HB⟩ := hrel
                  cases gk with
                  | zero => exact absurd HI.out (by omega)
                  | succ k3 =>
                    by_cases q1 : till < 1000
                    · have d1 : decide (till < 1000) = true := decide_eq_true q1
                      obtain ⟨ids, hids⟩ : ∃ x, (dueL L till).map (·.1) = x := ⟨_, rfl⟩
                      obtain ⟨R, hR⟩ : ∃ x, restL L till = x := ⟨_, rfl⟩
                      have HIDS := Aside0.mk hids
                      have HRR := Aside0.mk hR
                      have hsr := HB.out.1.srt
                      have HSR := Aside0.mk hsr
                      have HM := Aside0.mk (show k3 < k3 + 1 ∧ (1500 : Int) < k3 + (till + s2) ∧ 0 ≤ till + s2 ∧ till + s2 ≤ 1500 ∧ R.length ≤ 1000000 ∧ (till + s2 = 0 ∨ ∀ e ∈ R, till + s2 - s2 < e.2) from by
                        have h1 := HI.out
                        have h2 := HST.out
                        refine ⟨by omega, by omega, by omega, by omega, ?_, Or.inr fun e he => ?_⟩
                        · have := congrArg List.length (due_rest L till)
                          rw [hR, List.length_append] at this
                          omega
                        · have := rest_gt hsr e (by rw [hR]; exact he)
                          omega)
                      have HDU := Aside0.mk (fun (V : World) (hV : Bo w c wb cap L wh V) => show Calls Try.prog 13 #[.pointer (some ⟨c, 0, none⟩), .int .i64 till] V fun e W' => ∃ A cd, e = .returned (.slice A (List.length ids) cd) ∧ Bd w c wb cap R wh ids A cd W' from by
                        rw [← hids, ← hR]; exact hV.due HI.out.2.2.2.1 till)
                      have hw_ := Aside0.mk (show wrap64 (till + s2) = till + s2 by have h1 := HI.out; have h2 := HST.out; unfold wrap64; omega)
                      clear q1 hids hR hsr HI
                      go_wp2_with (first
                        | (go_at_call 13; refine (HDU.out _ (show Bo w c wb cap L wh _ from by repeat (first | exact HB.out | apply Bo.drew | apply Bo.drewN))).mono ?_; rintro e w3 ⟨A, cd, rfl, hh⟩; have HB2 := Aside0.mk hh; clear hh; clear HB; have HB := HB2; clear HB2)
                        | go_in)
                      go_loopg [13] (List.length ids + 1) (fun kq v13 w' => ∃ i : Nat, v13 = .int .i64 (i : Int) ∧ Aside0 (kq + i = List.length ids + 1 ∧ i ≤ List.length ids) ∧ Aside0 (Bd w c wb cap R wh ids A cd w'))
                      case atStart => exact ⟨0, rfl, ⟨by omega, by omega⟩, ⟨by repeat (first | exact HB.out | apply Bd.drew | apply Bd.drewN)⟩⟩
                      case round =>
                        clear HB
                        obtain ⟨i, rfl, HI, HB⟩ := hrel
                        cases gk with
                        | zero => exact absurd HI.out (by omega)
                        | succ k4 =>
                          by_cases q1 : i < List.length ids
                          · have d1 : decide ((i : Int) < (List.length ids : Int)) = true := decide_eq_true (by omega)
                            have d1' : decide (i < List.length ids) = true := decide_eq_true q1
                            obtain ⟨m, t, h1, h2, h3, h4, h5, _⟩ := due_one (till := till) HLK.out (i := i) (by rw [HIDS.out]; exact q1)
                            rw [HIDS.out] at h1
                            obtain ⟨db, e, hat⟩ := HB.out.at_ q1
                            subst e
                            have x0 := hat i q1
                            rw [h1] at x0
                            obtain ⟨y0, f0⟩ := HB.out.1.cell h2
                            rw [h3] at y0
                            obtain ⟨i1, hi1⟩ : ∃ n, n = i + 1 := ⟨_, rfl⟩
                            have HN := Aside0.mk (show k4 < k4 + 1 ∧ k4 + i1 = List.length ids + 1 ∧ i1 ≤ List.length ids from ⟨by omega, by have := HI.out; omega, by omega⟩)
                            have d2 : decide ((m : Int) < 0) = false := decide_eq_false (by omega)
                            have d3 : decide (64 ≤ (m : Int)) = false := decide_eq_false (by omega)
                            have d3' : decide (64 ≤ m) = false := decide_eq_false (by omega)
                            have d4 : decide (t < 0) = false := decide_eq_false (by omega)
                            have d5 : decide (till < t) = false := decide_eq_false (by omega)
                            have p0 : (0 ≤ (i : Int)) = True := eq_true (by omega)
                            have p1 : ((i : Int) < (List.length ids : Int)) = True := eq_true (by omega)
                            have p1' : (i < List.length ids) = True := eq_true q1
                            have p2 : (0 ≤ (m : Int)) = True := eq_true (by omega)
                            have p3 : ((m : Int) < 64) = True := eq_true (by omega)
                            have p3' : (m < 64) = True := eq_true h2
                            have hi_ := Aside0.mk (show wrap64 ((i : Int) + 1) = (i1 : Int) by have h8 := HB.out.2; have h9 := (Kd.R_reads' h8).2.2.2.1; unfold wrap64; omega)
                            clear HI q1 h1 h2 h3 h4 h5 hat hi1 f0
                            have hi := hi_.out
                            go_wp2
                            go_roundg k4
                            case measure => exact HN.out.1
                            case rel => exact ⟨i1, by first | rfl | (simp; done) | (simp [*]; done), ⟨HN.out.2⟩, ⟨by repeat (first | exact HB.out | apply Bd.drew | apply Bd.drewN)⟩⟩
                          · have d1 : decide ((i : Int) < (List.length ids : Int)) = false := decide_eq_false (by omega)
                            have d1' : decide (i < List.length ids) = false := decide_eq_false q1
                            clear HI q1
                            go_wp2
                            go_loopg [15] (List.length ids + 1) (fun kq v15 w' => ∃ i : Nat, v15 = .int .i64 (i : Int) ∧ Aside0 (kq + i = List.length ids + 2 ∧ 1 ≤ i ∧ i ≤ List.length ids + 1) ∧ Aside0 (Bd w c wb cap R wh ids A cd w'))
                            case atStart => exact ⟨1, rfl, ⟨by omega, by omega, by omega⟩, ⟨by repeat (first | exact HB.out | apply Bd.drew | apply Bd.drewN)⟩⟩
                            case round =>
                              clear HB
                              obtain ⟨i, rfl, HI, HB⟩ := hrel
                              cases gk with
                              | zero => exact absurd HI.out (by omega)
                              | succ k4 =>
                                by_cases q1 : i < List.length ids
                                · have d1 : decide ((i : Int) < (List.length ids : Int)) = true := decide_eq_true (by omega)
                                  have d1' : decide (i < List.length ids) = true := decide_eq_true q1
                                  obtain ⟨i0, hi0⟩ : ∃ n, i = n + 1 := ⟨i - 1, by have := HI.out.2.1; omega⟩
                                  obtain ⟨m1, t1, a1', a2, a3, a4, a5, a6⟩ := due_one (till := till) HLK.out (i := i0) (by rw [HIDS.out]; omega)
                                  obtain ⟨m2, t2, b1, b2, b3, b4, b5, b6⟩ := due_one (till := till) HLK.out (i := i) (by rw [HIDS.out]; exact q1)
                                  rw [HIDS.out] at a1' b1
                                  have hdl : i0 + 1 < (dueL L till).length := by have := congrArg List.length HIDS.out; rw [List.length_map] at this; omega
                                  obtain ⟨z1, z2⟩ := due_two HSR.out hdl a6 (by rw [← hi0]; exact b6)
                                  obtain ⟨db, e, hat⟩ := HB.out.at_ q1
                                  subst e
                                  have x0 := hat i0 (by omega)
                                  rw [a1'] at x0
                                  have x1 := hat i q1
                                  rw [b1] at x1
                                  obtain ⟨y0, _⟩ := HB.out.1.cell a2
                                  rw [a3] at y0
                                  obtain ⟨y1, _⟩ := HB.out.1.cell b2
                                  rw [b3] at y1
                                  obtain ⟨i1, hi1⟩ : ∃ n, n = i + 1 := ⟨_, rfl⟩
                                  have HN := Aside0.mk (show k4 < k4 + 1 ∧ k4 + i1 = List.length ids + 2 ∧ 1 ≤ i1 ∧ i1 ≤ List.length ids + 1 from ⟨by omega, by have := HI.out; omega, by omega, by omega⟩)
                                  have d2 : decide (t2 < t1) = false := decide_eq_false (by omega)
                                  have p0 : (0 ≤ (i : Int)) = True := eq_true (by omega)
                                  have p1 : ((i : Int) < (List.length ids : Int)) = True := eq_true (by omega)
                                  have p1' : (i < List.length ids) = True := eq_true q1
                                  have r0 : (0 ≤ (i0 : Int)) = True := eq_true (by omega)
                                  have r1 : ((i0 : Int) < (List.length ids : Int)) = True := eq_true (by omega)
                                  have r1' : (i0 < List.length ids) = True := eq_true (by omega)
                                  have p2 : (0 ≤ (m1 : Int)) = True := eq_true (by omega)
                                  have p3 : ((m1 : Int) < 64) = True := eq_true (by omega)
                                  have p3' : (m1 < 64) = True := eq_true a2
                                  have p4 : (0 ≤ (m2 : Int)) = True := eq_true (by omega)
                                  have p5 : ((m2 : Int) < 64) = True := eq_true (by omega)
                                  have p5' : (m2 < 64) = True := eq_true b2
                                  have hle_ := (Kd.R_reads' HB.out.2).2.2.2.1
                                  have hi_ := Aside0.mk (show wrap64 ((i : Int) + 1) = (i1 : Int) by unfold wrap64; omega)
                                  have hj_ := Aside0.mk (show wrap64 ((i : Int) - 1) = (i0 : Int) by unfold wrap64; omega)
                                  have hk_ := Aside0.mk (show IntKind.i64.wrap ((i : Int) - 1) = (i0 : Int) by rw [i64_w]; unfold wrap64; omega)
                                  have hcases : ((t1 == t2) = true ∧ decide ((m2 : Int) ≤ (m1 : Int)) = false ∧ decide (m2 ≤ m1) = false) ∨ (t1 == t2) = false := by
                                    by_cases e : t1 = t2
                                    · have := z2 e
                                      exact Or.inl ⟨beq_iff_eq.2 e, decide_eq_false (by omega), decide_eq_false (by omega)⟩
                                    · exact Or.inr (beq_eq_false_iff_ne.2 e)
                                  clear HI q1 a1' a2 a3 a4 a5 a6 b1 b2 b3 b4 b5 b6 z1 z2 hdl hat hi1 hi0 hle_
                                  have hi := hi_.out
                                  have hj := hj_.out
                                  have hk := hk_.out
                                  rcases hcases with ⟨g1, g2, g3⟩ | g1
                                  · go_wp2
                                    go_quiet (fail)
                                    go_wp2
                                    go_roundg k4
                                    case measure => exact HN.out.1
                                    case rel => exact ⟨i1, by first | rfl | (simp; done) | (simp [*]; done), ⟨HN.out.2⟩, ⟨by repeat (first | exact HB.out | apply Bd.drew | apply Bd.drewN)⟩⟩
                                  · go_wp2
                                    go_quiet (fail)
                                    go_wp2
                                    go_roundg k4
                                    case measure => exact HN.out.1
                                    case rel => exact ⟨i1, by first | rfl | (simp; done) | (simp [*]; done), ⟨HN.out.2⟩, ⟨by repeat (first | exact HB.out | apply Bd.drew | apply Bd.drewN)⟩⟩
                                · have d1 : decide ((i : Int) < (List.length ids : Int)) = false := decide_eq_false (by omega)
                                  have d1' : decide (i < List.length ids) = false := decide_eq_false q1
                                  clear HI q1
                                  go_wp2
                                  go_loopg [16] (List.length ids + 1) (fun kq v16 w' => ∃ (i : Nat) (wh' : List Int), v16 = .int .i64 (i : Int) ∧ Aside0 (kq + i = List.length ids + 1 ∧ i ≤ List.length ids) ∧ Aside0 (Unset wh (ids.take i) wh') ∧ Aside0 (Bd w c wb cap R wh' ids A cd w'))
                                  case atStart => exact ⟨0, wh, rfl, ⟨by omega, by omega⟩, ⟨by rw [List.take_zero]; exact unset_nil HLK.out.1⟩, ⟨by repeat (first | exact HB.out | apply Bd.drew | apply Bd.drewN)⟩⟩
                                  case round =>
                                    clear HB
                                    obtain ⟨i, wh', rfl, HI, HU, HB⟩ := hrel
                                    cases gk with
                                    | zero => exact absurd HI.out (by omega)
                                    | succ k4 =>
                                      by_cases q1 : i < List.length ids
                                      · have d1 : decide ((i : Int) < (List.length ids : Int)) = true := decide_eq_true (by omega)
                                        have d1' : decide (i < List.length ids) = true := decide_eq_true q1
                                        obtain ⟨m, t, h1, h2, h3, h4, h5, _⟩ := due_one (till := till) HLK.out (i := i) (by rw [HIDS.out]; exact q1)
                                        rw [HIDS.out] at h1
                                        obtain ⟨db, e, hat⟩ := HB.out.at_ q1
                                        subst e
                                        have x0 := hat i q1
                                        have HUN := Aside0.mk (unset_step HU.out q1 h1 h2)
                                        rw [h1] at x0
                                        obtain ⟨y0, f0⟩ := HB.out.1.cell h2
                                        obtain ⟨yv, hyv⟩ : ∃ y, wh'.getD m 0 = y := ⟨_, rfl⟩
                                        rw [hyv] at y0
                                        have HB2 := Aside0.mk (HB.out.set m (-1))
                                        obtain ⟨i1, hi1⟩ : ∃ n, n = i + 1 := ⟨_, rfl⟩
                                        rw [← hi1] at HUN
                                        have HN := Aside0.mk (show k4 < k4 + 1 ∧ k4 + i1 = List.length ids + 1 ∧ i1 ≤ List.length ids from ⟨by omega, by have := HI.out; omega, by omega⟩)
                                        have p0 : (0 ≤ (i : Int)) = True := eq_true (by omega)
                                        have p1 : ((i : Int) < (List.length ids : Int)) = True := eq_true (by omega)
                                        have p1' : (i < List.length ids) = True := eq_true q1
                                        have p2 : (0 ≤ (m : Int)) = True := eq_true (by omega)
                                        have p3 : ((m : Int) < 64) = True := eq_true (by omega)
                                        have p3' : (m < 64) = True := eq_true h2
                                        have hi_ := Aside0.mk (show wrap64 ((i : Int) + 1) = (i1 : Int) by have h8 := HB.out.2; have h9 := (Kd.R_reads' h8).2.2.2.1; unfold wrap64; omega)
                                        clear HI q1 h1 h2 h3 h4 h5 hat hi1 hyv
                                        have hi := hi_.out
                                        go_wp2
                                        go_roundg k4
                                        case measure => exact HN.out.1
                                        case rel => exact ⟨i1, wh'.set m (-1), by first | rfl | (simp; done) | (simp [*]; done), ⟨HN.out.2⟩, HUN, HB2⟩
                                      · have d1 : decide ((i : Int) < (List.length ids : Int)) = false := decide_eq_false (by omega)
                                        have d1' : decide (i < List.length ids) = false := decide_eq_false q1
                                        have HLK2 := Aside0.mk (show Lk R wh' from by
                                          rw [← HRR.out]
                                          refine lk_due HLK.out HSR.out ?_
                                          rw [HIDS.out]
                                          have := HU.out
                                          rw [List.take_of_length_le (by omega)] at this
                                          exact this)
                                        have HBO := Aside0.mk (show Bo w c wb cap R wh' wr from HB.out.1)
                                        have hgt : ∀ e ∈ R, till < e.2 := fun e he => rest_gt HSR.out e (by rw [HRR.out]; exact he)
                                        clear HI q1 HB HU
                                        have hw := hw_.out
                                        cases R with
                                        | nil =>
                                          go_wp2_with (first
                                            | (go_at_call 14; refine (Bo.next (show Bo w c wb cap [] wh' _ from by repeat (first | exact HBO.out | apply Bo.drew | apply Bo.drewN))).mono ?_; rintro e w5 ⟨rfl, hh⟩; have HB2 := Aside0.mk hh; clear hh; simp only [first3])
                                            | go_in)
                                          go_roundg k3
                                          case measure => exact HM.out.1
                                          case rel => exact ⟨till + s2, [], wh', by first | rfl | (simp; done) | (simp [*]; done), ⟨HM.out.2⟩, HLK2, HB2⟩
                                        | cons x r =>
                                          obtain ⟨xi, xa⟩ := x
                                          have d6 : decide (xa ≤ till) = false := decide_eq_false (by have := hgt (xi, xa) (List.mem_cons_self ..); simp at this; omega)
                                          clear hgt
                                          go_wp2_with (first
                                            | (go_at_call 14; refine (Bo.next (show Bo w c wb cap ((xi, xa) :: r) wh' _ from by repeat (first | exact HBO.out | apply Bo.drew | apply Bo.drewN))).mono ?_; rintro e w5 ⟨rfl, hh⟩; have HB2 := Aside0.mk hh; clear hh; simp only [first3])
                                            | go_in)
                                          go_roundg k3
                                          case measure => exact HM.out.1
                                          case rel => exact ⟨till + s2, (xi, xa) :: r, wh', by first | rfl | (simp; done) | (simp [*]; done), ⟨HM.out.2⟩, HLK2, HB2⟩
                    · have d1 : decide (till < 1000) = false := decide_eq_false q1
                      obtain ⟨hL0, hend⟩ := lk_end HLK.out (fun e he => by
                        have h1 := HI.out
                        have h2 := HST.out
                        rcases h1.2.2.2.2 with h3 | h3
                        · omega
                        · have := h3 e he; omega)
                      have HEND := Aside0.mk hend
                      subst hL0
                      clear HI q1 hend HLK
                      go_wp2
                      go_loopg [19] 65 (fun kq v19 w' => ∃ i : Nat, v19 = .int .i64 (i : Int) ∧ Aside0 (kq + i = 65 ∧ i ≤ 64) ∧ Aside0 (Bo w c wb cap [] wh w'))
                      case atStart => exact ⟨0, rfl, ⟨by omega, by omega⟩, ⟨by repeat (first | exact HB.out | apply Bo.drew | apply Bo.drewN)⟩⟩
                      case round =>
                        clear HB
                        obtain ⟨i, rfl, HI, HB⟩ := hrel
                        cases gk with
                        | zero => exact absurd HI.out (by omega)
                        | succ k4 =>
                          by_cases q1 : i < 64
                          · have d1 : decide ((i : Int) < 64) = true := decide_eq_true (by omega)
                            have d1' : decide (i < 64) = true := decide_eq_true q1
                            obtain ⟨y0, _⟩ := HB.out.cell q1
                            rw [HEND.out i q1] at y0
                            obtain ⟨i1, hi1⟩ : ∃ n, n = i + 1 := ⟨_, rfl⟩
                            have HN := Aside0.mk (show k4 < k4 + 1 ∧ k4 + i1 = 65 ∧ i1 ≤ 64 from ⟨by omega, by have := HI.out; omega, by omega⟩)
                            have p0 : (0 ≤ (i : Int)) = True := eq_true (by omega)
                            have p1 : ((i : Int) < 64) = True := eq_true (by omega)
                            have p1' : (i < 64) = True := eq_true q1
                            have hi_ := Aside0.mk (show wrap64 ((i : Int) + 1) = (i1 : Int) by unfold wrap64; omega)
                            clear HI q1 hi1
                            have hi := hi_.out
                            go_wp2
                            go_roundg k4
                            case measure => exact HN.out.1
                            case rel => exact ⟨i1, by first | rfl | (simp; done) | (simp [*]; done), ⟨HN.out.2⟩, ⟨by repeat (first | exact HB.out | apply Bo.drew | apply Bo.drewN)⟩⟩
                          · have d1 : decide ((i : Int) < 64) = false := decide_eq_false (by omega)
                            have d1' : decide (i < 64) = false := decide_eq_false q1
                            clear HI q1
                            go_wp2_with (first
                              | (go_at_call 15; refine (Bo.lenc (show Bo w c wb cap [] wh _ from by repeat (first | exact HB.out | apply Bo.drew | apply Bo.drewN))).mono ?_; rintro e w5 ⟨rfl, hh⟩; have HB2 := Aside0.mk hh; clear hh; simp only [List.length_nil])
                              | (go_at_call 16; refine (sure11 _).mono ?_; rintro e w6 ⟨rfl, hb⟩; have HF := Aside0.mk (below_step HB2.out.bel hb); clear hb)
                              | go_in)
                            go_ret
                            exact ⟨rfl, HF.out⟩
              · have c1b : decide (i < (l0.length : Int)) = false := decide_eq_false q2
                have HLL := Aside0.mk (show L.length ≤ 1000000 by have := HI.out; omega)
                clear HI q1 q2
                obtain ⟨s1, hs1⟩ : ∃ x : Int, (if (500 : Int) < a1 then 500 else a1) = x := ⟨_, rfl⟩
                obtain ⟨s2, hs2⟩ : ∃ x : Int, (if (1 : Int) < s1 then s1 else 1) = x := ⟨_, rfl⟩
                have HST := Aside0.mk (show 1 ≤ s2 ∧ s2 ≤ 500 from by rw [← hs2, ← hs1]; split <;> split <;> omega)
                go_wp2
                clear hs1 hs2
                go_loopg [11] 1501 (fun kq v11 w' => ∃ (till : Int) (L : List En) (wh : List Int), v11 = .int .i64 till ∧ Aside0 ((1500 : Int) < kq + till ∧ 0 ≤ till ∧ till ≤ 1500 ∧ L.length ≤ 1000000 ∧ (till = 0 ∨ ∀ e ∈ L, till - s2 < e.2)) ∧ Aside0 (Lk L wh) ∧ Aside0 (Bo w c wb cap L wh w'))
                case atStart => exact ⟨0, L, wh, rfl, ⟨by omega, by omega, by omega, HLL.out, Or.inl rfl⟩, HLK, ⟨by repeat (first | exact HB.out | apply Bo.drew | apply Bo.drewN)⟩⟩
                case round =>
                  clear HB HLK HLL
                  obtain ⟨till, L, wh, rfl, HI, HLK, HB⟩ := hrel
                  cases gk with
                  | zero => exact absurd HI.out (by omega)
                  | succ k3 =>
                    by_cases q1 : till < 1000
                    · have d1 : decide (till < 1000) = true := decide_eq_true q1
                      obtain ⟨ids, hids⟩ : ∃ x, (dueL L till).map (·.1) = x := ⟨_, rfl⟩
                      obtain ⟨R, hR⟩ : ∃ x, restL L till = x := ⟨_, rfl⟩
                      have HIDS := Aside0.mk hids
                      have HRR := Aside0.mk hR
                      have hsr := HB.out.1.srt
                      have HSR := Aside0.mk hsr
                      have HM := Aside0.mk (show k3 < k3 + 1 ∧ (1500 : Int) < k3 + (till + s2) ∧ 0 ≤ till + s2 ∧ till + s2 ≤ 1500 ∧ R.length ≤ 1000000 ∧ (till + s2 = 0 ∨ ∀ e ∈ R, till + s2 - s2 < e.2) from by
                        have h1 := HI.out
                        have h2 := HST.out
                        refine ⟨by omega, by omega, by omega, by omega, ?_, Or.inr fun e he => ?_⟩
                        · have := congrArg List.length (due_rest L till)
                          rw [hR, List.length_append] at this
                          omega
                        · have := rest_gt hsr e (by rw [hR]; exact he)
                          omega)
                      have HDU := Aside0.mk (fun (V : World) (hV : Bo w c wb cap L wh V) => show Calls Try.prog 13 #[.pointer (some ⟨c, 0, none⟩), .int .i64 till] V fun e W' => ∃ A cd, e = .returned (.slice A (List.length ids) cd) ∧ Bd w c wb cap R wh ids A cd W' from by
                        rw [← hids, ← hR]; exact hV.due HI.out.2.2.2.1 till)
                      have hw_ := Aside0.mk (show wrap64 (till + s2) = till + s2 by have h1 := HI.out; have h2 := HST.out; unfold wrap64; omega)
                      clear q1 hids hR hsr HI
                      go_wp2_with (first
                        | (go_at_call 13; refine (HDU.out _ (show Bo w c wb cap L wh _ from by repeat (first | exact HB.out | apply Bo.drew | apply Bo.drewN))).mono ?_; rintro e w3 ⟨A, cd, rfl, hh⟩; have HB2 := Aside0.mk hh; clear hh; clear HB; have HB := HB2; clear HB2)
                        | go_in)
                      go_loopg [13] (List.length ids + 1) (fun kq v13 w' => ∃ i : Nat, v13 = .int .i64 (i : Int) ∧ Aside0 (kq + i = List.length ids + 1 ∧ i ≤ List.length ids) ∧ Aside0 (Bd w c wb cap R wh ids A cd w'))
                      case atStart => exact ⟨0, rfl, ⟨by omega, by omega⟩, ⟨by repeat (first | exact HB.out | apply Bd.drew | apply Bd.drewN)⟩⟩
                      case round =>
                        clear HB
                        obtain ⟨i, rfl, HI, HB⟩ := hrel
                        cases gk with
                        | zero => exact absurd HI.out (by omega)
                        | succ k4 =>
                          by_cases q1 : i < List.length ids
                          · have d1 : decide ((i : Int) < (List.length ids : Int)) = true := decide_eq_true (by omega)
                            have d1' : decide (i < List.length ids) = true := decide_eq_true q1
                            obtain ⟨m, t, h1, h2, h3, h4, h5, _⟩ := due_one (till := till) HLK.out (i := i) (by rw [HIDS.out]; exact q1)
                            rw [HIDS.out] at h1
                            obtain ⟨db, e, hat⟩ := HB.out.at_ q1
                            subst e
                            have x0 := hat i q1
                            rw [h1] at x0
                            obtain ⟨y0, f0⟩ := HB.out.1.cell h2
                            rw [h3] at y0
                            obtain ⟨i1, hi1⟩ : ∃ n, n = i + 1 := ⟨_, rfl⟩
                            have HN := Aside0.mk (show k4 < k4 + 1 ∧ k4 + i1 = List.length ids + 1 ∧ i1 ≤ List.length ids from ⟨by omega, by have := HI.out; omega, by omega⟩)
                            have d2 : decide ((m : Int) < 0) = false := decide_eq_false (by omega)
                            have d3 : decide (64 ≤ (m : Int)) = false := decide_eq_false (by omega)
                            have d3' : decide (64 ≤ m) = false := decide_eq_false (by omega)
                            have d4 : decide (t < 0) = false := decide_eq_false (by omega)
                            have d5 : decide (till < t) = false := decide_eq_false (by omega)
                            have p0 : (0 ≤ (i : Int)) = True := eq_true (by omega)
                            have p1 : ((i : Int) < (List.length ids : Int)) = True := eq_true (by omega)
                            have p1' : (i < List.length ids) = True := eq_true q1
                            have p2 : (0 ≤ (m : Int)) = True := eq_true (by omega)
                            have p3 : ((m : Int) < 64) = True := eq_true (by omega)
                            have p3' : (m < 64) = True := eq_true h2
                            have hi_ := Aside0.mk (show wrap64 ((i : Int) + 1) = (i1 : Int) by have h8 := HB.out.2; have h9 := (Kd.R_reads' h8).2.2.2.1; unfold wrap64; omega)
                            clear HI q1 h1 h2 h3 h4 h5 hat hi1 f0
                            have hi := hi_.out
                            go_wp2
                            go_roundg k4
                            case measure => exact HN.out.1
                            case rel => exact ⟨i1, by first | rfl | (simp; done) | (simp [*]; done), ⟨HN.out.2⟩, ⟨by repeat (first | exact HB.out | apply Bd.drew | apply Bd.drewN)⟩⟩
                          · have d1 : decide ((i : Int) < (List.length ids : Int)) = false := decide_eq_false (by omega)
                            have d1' : decide (i < List.length ids) = false := decide_eq_false q1
                            clear HI q1
                            go_wp2
                            go_loopg [15] (List.length ids + 1) (fun kq v15 w' => ∃ i : Nat, v15 = .int .i64 (i : Int) ∧ Aside0 (kq + i = List.length ids + 2 ∧ 1 ≤ i ∧ i ≤ List.length ids + 1) ∧ Aside0 (Bd w c wb cap R wh ids A cd w'))
                            case atStart => exact ⟨1, rfl, ⟨by omega, by omega, by omega⟩, ⟨by repeat (first | exact HB.out | apply Bd.drew | apply Bd.drewN)⟩⟩
                            case round =>
                              clear HB
                              obtain ⟨i, rfl, HI, HB⟩ := hrel
                              cases gk with
                              | zero => exact absurd HI.out (by omega)
                              | succ k4 =>
                                by_cases q1 : i < List.length ids
                                · have d1 : decide ((i : Int) < (List.length ids : Int)) = true := decide_eq_true (by omega)
                                  have d1' : decide (i < List.length ids) = true := decide_eq_true q1
                                  obtain ⟨i0, hi0⟩ : ∃ n, i = n + 1 := ⟨i - 1, by have := HI.out.2.1; omega⟩
                                  obtain ⟨m1, t1, a1', a2, a3, a4, a5, a6⟩ := due_one (till := till) HLK.out (i := i0) (by rw [HIDS.out]; omega)
                                  obtain ⟨m2, t2, b1, b2, b3, b4, b5, b6⟩ := due_one (till := till) HLK.out (i := i) (by rw [HIDS.out]; exact q1)
                                  rw [HIDS.out] at a1' b1
                                  have hdl : i0 + 1 < (dueL L till).length := by have := congrArg List.length HIDS.out; rw [List.length_map] at this; omega
                                  obtain ⟨z1, z2⟩ := due_two HSR.out hdl a6 (by rw [← hi0]; exact b6)
                                  obtain ⟨db, e, hat⟩ := HB.out.at_ q1
                                  subst e
                                  have x0 := hat i0 (by omega)
                                  rw [a1'] at x0
                                  have x1 := hat i q1
                                  rw [b1] at x1
                                  obtain ⟨y0, _⟩ := HB.out.1.cell a2
                                  rw [a3] at y0
                                  obtain ⟨y1, _⟩ := HB.out.1.cell b2
                                  rw [b3] at y1
                                  obtain ⟨i1, hi1⟩ : ∃ n, n = i + 1 := ⟨_, rfl⟩
                                  have HN := Aside0.mk (show k4 < k4 + 1 ∧ k4 + i1 = List.length ids + 2 ∧ 1 ≤ i1 ∧ i1 ≤ List.length ids + 1 from ⟨by omega, by have := HI.out; omega, by omega, by omega⟩)
                                  have d2 : decide (t2 < t1) = false := decide_eq_false (by omega)
                                  have p0 : (0 ≤ (i : Int)) = True := eq_true (by omega)
                                  have p1 : ((i : Int) < (List.length ids : Int)) = True := eq_true (by omega)
                                  have p1' : (i < List.length ids) = True := eq_true q1
                                  have r0 : (0 ≤ (i0 : Int)) = True := eq_true (by omega)
                                  have r1 : ((i0 : Int) < (List.length ids : Int)) = True := eq_true (by omega)
                                  have r1' : (i0 < List.length ids) = True := eq_true (by omega)
                                  have p2 : (0 ≤ (m1 : Int)) = True := eq_true (by omega)
                                  have p3 : ((m1 : Int) < 64) = True := eq_true (by omega)
                                  have p3' : (m1 < 64) = True := eq_true a2
                                  have p4 : (0 ≤ (m2 : Int)) = True := eq_true (by omega)
                                  have p5 : ((m2 : Int) < 64) = True := eq_true (by omega)
                                  have p5' : (m2 < 64) = True := eq_true b2
                                  have hle_ := (Kd.R_reads' HB.out.2).2.2.2.1
                                  have hi_ := Aside0.mk (show wrap64 ((i : Int) + 1) = (i1 : Int) by unfold wrap64; omega)
                                  have hj_ := Aside0.mk (show wrap64 ((i : Int) - 1) = (i0 : Int) by unfold wrap64; omega)
                                  have hk_ := Aside0.mk (show IntKind.i64.wrap ((i : Int) - 1) = (i0 : Int) by rw [i64_w]; unfold wrap64; omega)
                                  have hcases : ((t1 == t2) = true ∧ decide ((m2 : Int) ≤ (m1 : Int)) = false ∧ decide (m2 ≤ m1) = false) ∨ (t1 == t2) = false := by
                                    by_cases e : t1 = t2
                                    · have := z2 e
                                      exact Or.inl ⟨beq_iff_eq.2 e, decide_eq_false (by omega), decide_eq_false (by omega)⟩
                                    · exact Or.inr (beq_eq_false_iff_ne.2 e)
                                  clear HI q1 a1' a2 a3 a4 a5 a6 b1 b2 b3 b4 b5 b6 z1 z2 hdl hat hi1 hi0 hle_
                                  have hi := hi_.out
                                  have hj := hj_.out
                                  have hk := hk_.out
                                  rcases hcases with ⟨g1, g2, g3⟩ | g1
                                  · go_wp2
                                    go_quiet (fail)
                                    go_wp2
                                    go_roundg k4
                                    case measure => exact HN.out.1
                                    case rel => exact ⟨i1, by first | rfl | (simp; done) | (simp [*]; done), ⟨HN.out.2⟩, ⟨by repeat (first | exact HB.out | apply Bd.drew | apply Bd.drewN)⟩⟩
                                  · go_wp2
                                    go_quiet (fail)
                                    go_wp2
                                    go_roundg k4
                                    case measure => exact HN.out.1
                                    case rel => exact ⟨i1, by first | rfl | (simp; done) | (simp [*]; done), ⟨HN.out.2⟩, ⟨by repeat (first | exact HB.out | apply Bd.drew | apply Bd.drewN)⟩⟩
                                · have d1 : decide ((i : Int) < (List.length ids : Int)) = false := decide_eq_false (by omega)
                                  have d1' : decide (i < List.length ids) = false := decide_eq_false q1
                                  clear HI q1
                                  go_wp2
                                  go_loopg [16] (List.length ids + 1) (fun kq v16 w' => ∃ (i : Nat) (wh' : List Int), v16 = .int .i64 (i : Int) ∧ Aside0 (kq + i = List.length ids + 1 ∧ i ≤ List.length ids) ∧ Aside0 (Unset wh (ids.take i) wh') ∧ Aside0 (Bd w c wb cap R wh' ids A cd w'))
                                  case atStart => exact ⟨0, wh, rfl, ⟨by omega, by omega⟩, ⟨by rw [List.take_zero]; exact unset_nil HLK.out.1⟩, ⟨by repeat (first | exact HB.out | apply Bd.drew | apply Bd.drewN)⟩⟩
                                  case round =>
                                    clear HB
                                    obtain ⟨i, wh', rfl, HI, HU, HB⟩ := hrel
                                    cases gk with
                                    | zero => exact absurd HI.out (by omega)
                                    | succ k4 =>
                                      by_cases q1 : i < List.length ids
                                      · have d1 : decide ((i : Int) < (List.length ids : Int)) = true := decide_eq_true (by omega)
                                        have d1' : decide (i < List.length ids) = true := decide_eq_true q1
                                        obtain ⟨m, t, h1, h2, h3, h4, h5, _⟩ := due_one (till := till) HLK.out (i := i) (by rw [HIDS.out]; exact q1)
                                        rw [HIDS.out] at h1
                                        obtain ⟨db, e, hat⟩ := HB.out.at_ q1
                                        subst e
                                        have x0 := hat i q1
                                        have HUN := Aside0.mk (unset_step HU.out q1 h1 h2)
                                        rw [h1] at x0
                                        obtain ⟨y0, f0⟩ := HB.out.1.cell h2
                                        obtain ⟨yv, hyv⟩ : ∃ y, wh'.getD m 0 = y := ⟨_, rfl⟩
                                        rw [hyv] at y0
                                        have HB2 := Aside0.mk (HB.out.set m (-1))
                                        obtain ⟨i1, hi1⟩ : ∃ n, n = i + 1 := ⟨_, rfl⟩
                                        rw [← hi1] at HUN
                                        have HN := Aside0.mk (show k4 < k4 + 1 ∧ k4 + i1 = List.length ids + 1 ∧ i1 ≤ List.length ids from ⟨by omega, by have := HI.out; omega, by omega⟩)
                                        have p0 : (0 ≤ (i : Int)) = True := eq_true (by omega)
                                        have p1 : ((i : Int) < (List.length ids : Int)) = True := eq_true (by omega)
                                        have p1' : (i < List.length ids) = True := eq_true q1
                                        have p2 : (0 ≤ (m : Int)) = True := eq_true (by omega)
                                        have p3 : ((m : Int) < 64) = True := eq_true (by omega)
                                        have p3' : (m < 64) = True := eq_true h2
                                        have hi_ := Aside0.mk (show wrap64 ((i : Int) + 1) = (i1 : Int) by have h8 := HB.out.2; have h9 := (Kd.R_reads' h8).2.2.2.1; unfold wrap64; omega)
                                        clear HI q1 h1 h2 h3 h4 h5 hat hi1 hyv
                                        have hi := hi_.out
                                        go_wp2
                                        go_roundg k4
                                        case measure => exact HN.out.1
                                        case rel => exact ⟨i1, wh'.set m (-1), by first | rfl | (simp; done) | (simp [*]; done), ⟨HN.out.2⟩, HUN, HB2⟩
                                      · have d1 : decide ((i : Int) < (List.length ids : Int)) = false := decide_eq_false (by omega)
                                        have d1' : decide (i < List.length ids) = false := decide_eq_false q1
                                        have HLK2 := Aside0.mk (show Lk R wh' from by
                                          rw [← HRR.out]
                                          refine lk_due HLK.out HSR.out ?_
                                          rw [HIDS.out]
                                          have := HU.out
                                          rw [List.take_of_length_le (by omega)] at this
                                          exact this)
                                        have HBO := Aside0.mk (show Bo w c wb cap R wh' wr from HB.out.1)
                                        have hgt : ∀ e ∈ R, till < e.2 := fun e he => rest_gt HSR.out e (by rw [HRR.out]; exact he)
                                        clear HI q1 HB HU
                                        have hw := hw_.out
                                        cases R with
                                        | nil =>
                                          go_wp2_with (first
                                            | (go_at_call 14; refine (Bo.next (show Bo w c wb cap [] wh' _ from by repeat (first | exact HBO.out | apply Bo.drew | apply Bo.drewN))).mono ?_; rintro e w5 ⟨rfl, hh⟩; have HB2 := Aside0.mk hh; clear hh; simp only [first3])
                                            | go_in)
                                          go_roundg k3
                                          case measure => exact HM.out.1
                                          case rel => exact ⟨till + s2, [], wh', by first | rfl | (simp; done) | (simp [*]; done), ⟨HM.out.2⟩, HLK2, HB2⟩
                                        | cons x r =>
                                          obtain ⟨xi, xa⟩ := x
                                          have d6 : decide (xa ≤ till) = false := decide_eq_false (by have := hgt (xi, xa) (List.mem_cons_self ..); simp at this; omega)
                                          clear hgt
                                          go_wp2_with (first
                                            | (go_at_call 14; refine (Bo.next (show Bo w c wb cap ((xi, xa) :: r) wh' _ from by repeat (first | exact HBO.out | apply Bo.drew | apply Bo.drewN))).mono ?_; rintro e w5 ⟨rfl, hh⟩; have HB2 := Aside0.mk hh; clear hh; simp only [first3])
                                            | go_in)
                                          go_roundg k3
                                          case measure => exact HM.out.1
                                          case rel => exact ⟨till + s2, (xi, xa) :: r, wh', by first | rfl | (simp; done) | (simp [*]; done), ⟨HM.out.2⟩, HLK2, HB2⟩
                    · have d1 : decide (till < 1000) = false := decide_eq_false q1
                      obtain ⟨hL0, hend⟩ := lk_end HLK.out (fun e he => by
                        have h1 := HI.out
                        have h2 := HST.out
                        rcases h1.2.2.2.2 with h3 | h3
                        · omega
                        · have := h3 e he; omega)
                      have HEND := Aside0.mk hend
                      subst hL0
                      clear HI q1 hend HLK
                      go_wp2
                      go_loopg [19] 65 (fun kq v19 w' => ∃ i : Nat, v19 = .int .i64 (i : Int) ∧ Aside0 (kq + i = 65 ∧ i ≤ 64) ∧ Aside0 (Bo w c wb cap [] wh w'))
                      case atStart => exact ⟨0, rfl, ⟨by omega, by omega⟩, ⟨by repeat (first | exact HB.out | apply Bo.drew | apply Bo.drewN)⟩⟩
                      case round =>
                        clear HB
                        obtain ⟨i, rfl, HI, HB⟩ := hrel
                        cases gk with
                        | zero => exact absurd HI.out (by omega)
                        | succ k4 =>
                          by_cases q1 : i < 64
                          · have d1 : decide ((i : Int) < 64) = true := decide_eq_true (by omega)
                            have d1' : decide (i < 64) = true := decide_eq_true q1
                            obtain ⟨y0, _⟩ := HB.out.cell q1
                            rw [HEND.out i q1] at y0
                            obtain ⟨i1, hi1⟩ : ∃ n, n = i + 1 := ⟨_, rfl⟩
                            have HN := Aside0.mk (show k4 < k4 + 1 ∧ k4 + i1 = 65 ∧ i1 ≤ 64 from ⟨by omega, by have := HI.out; omega, by omega⟩)
                            have p0 : (0 ≤ (i : Int)) = True := eq_true (by omega)
                            have p1 : ((i : Int) < 64) = True := eq_true (by omega)
                            have p1' : (i < 64) = True := eq_true q1
                            have hi_ := Aside0.mk (show wrap64 ((i : Int) + 1) = (i1 : Int) by unfold wrap64; omega)
                            clear HI q1 hi1
                            have hi := hi_.out
                            go_wp2
                            go_roundg k4
                            case measure => exact HN.out.1
                            case rel => exact ⟨i1, by first | rfl | (simp; done) | (simp [*]; done), ⟨HN.out.2⟩, ⟨by repeat (first | exact HB.out | apply Bo.drew | apply Bo.drewN)⟩⟩
                          · have d1 : decide ((i : Int) < 64) = false := decide_eq_false (by omega)
                            have d1' : decide (i < 64) = false := decide_eq_false q1
                            clear HI q1
                            go_wp2_with (first
                              | (go_at_call 15; refine (Bo.lenc (show Bo w c wb cap [] wh _ from by repeat (first | exact HB.out | apply Bo.drew | apply Bo.drewN))).mono ?_; rintro e w5 ⟨rfl, hh⟩; have HB2 := Aside0.mk hh; clear hh; simp only [List.length_nil])
                              | (go_at_call 16; refine (sure11 _).mono ?_; rintro e w6 ⟨rfl, hb⟩; have HF := Aside0.mk (below_step HB2.out.bel hb); clear hb)
                              | go_in)
                            go_ret
                            exact ⟨rfl, HF.out⟩
end On
def tithelaw11_BoundsOnce.f (l0 : List S39) (a1 : Int) : Option Bool := if l0.length ≤ 9223372036854775807 then some true else none
theorem tithelaw11_BoundsOnce.calls (A0 : Option Addr) (c0 : Nat) (l0 : List S39) (a1 : Int) (r : Bool) (w : World) (hr0 : Kd.C k39 w A0 l0.length l0) (hc0 : l0.length ≤ c0) (h : tithelaw11_BoundsOnce.f l0 a1 = some r) :
    Calls Try.prog 4 #[.slice A0 l0.length c0, .int .i64 a1] w fun e w' => e = .returned (.bool r) ∧ Below w.heap.size w w' := by
  unfold tithelaw11_BoundsOnce.f at h
  by_cases hl : l0.length ≤ 9223372036854775807
  · rw [if_pos hl] at h
    obtain rfl := Option.some.inj h
    exact On.once_calls A0 c0 l0 a1 w hr0 hl
  · rw [if_neg hl] at h
    cases h
end Go.Proofs.Ytfmchkplnglepaa.U
