/- Proved here: what the machine does at DemandSerial: it answers true (a walk by hand, over the printed contracts of what it calls). Condition: the work's length is a machine's. -/
import Derived.Test.YtdonlmbhamcjdaaRRRSerRel
import Derived.Test.YtdonlmbhamcjdaaRRREx14
import Derived.StillTailTactics
import Derived.BigRegion
namespace Go.Proofs.YtdonlmbhamcjdaaRRR.E
open Go Go.RowKit Tithe Go.Proofs.YtdonlmbhamcjdaaRRR.Pure Go.Proofs.YtdonlmbhamcjdaaRRR.Ser Go.Proofs.YtdonlmbhamcjdaaRRRW.PrintWords Go.Proofs.YtdonlmbhamcjdaaRRRW.PrintLast Go.Proofs.YtdonlmbhamcjdaaRRRW.PrintMore
set_option linter.unusedVariables false
set_option linter.unusedSimpArgs false
attribute [local go_sem] max2_int min2_int max_two min_two max_three min_three max_four min_four   -- for this text's walks alone
theorem works_calls (w : World) : Calls Try.prog 20 #[] w fun e w' => e = .returned (.bool true) ∧ Below w.heap.size w w' := by
  obtain ⟨k, hk⟩ := works_evt.ex
  exact tithelaw20_works.calls k true w hk
set_option maxHeartbeats 16000000 in
set_option maxRecDepth 100000 in
theorem serial (A0 : Option Addr) (c0 : Nat) (l0 : List S43) (a1 : Int) (w : World) (hr0 : Kd.C k43 w A0 l0.length l0) (hc0 : l0.length ≤ c0) (hlen : l0.length < 4398046511104) :
    Calls Try.prog 4 #[.slice A0 l0.length c0, .int .i64 a1] w fun e w' => e = .returned (.bool true) ∧ Below w.heap.size w w' := by
  have hu22 := Try.underlying22
  have hu23 := Try.underlying23
  have hu43 := Try.underlying43
  have hu3 := Try.underlying3
  obtain ⟨kv, hkv⟩ := (refValid_evt l0 (by omega)).ex
  obtain ⟨ko, hko⟩ := (Order_evt (l := l0) (by omega)).ex
  have hVA := Aside0.mk (fun (V : World) (hB : Below w.heap.size w V) => titheref20_Valid.calls kv A0 c0 l0 (vcode l0) V (Kd.C_below hr0 hB) hc0 hkv)
  have HTW0 := Aside0.mk (tithelaw20_twin.calls A0 c0 l0 l0 w hr0 hc0 (twin_ok l0 hlen))
  by_cases hv : vcode l0 = 0
  · obtain ⟨h8, hok⟩ := vcode_ok.1 hv
    rw [if_pos hv] at hko
    rw [hv] at hVA
    have HOR := Aside0.mk (fun (V : World) (A1 : Option Addr) (c1 : Nat) (h1 : Kd.C k43 V A1 l0.length l0) (h2 : l0.length ≤ c1) (h3 : Below w.heap.size w V) => show Calls Try.prog 11 #[.slice A1 l0.length c1] V fun e W' => ∃ D d, e = .returned (.tuple #[.slice D l0.length d, .nilIface]) ∧ So w D l0.length d (ordl l0) W' from by
      have := St.order h1 h2 h3 hko
      rw [lo] at this
      exact this)
    have HOK := Aside0.mk (show l0.length ≤ 8 ∧ ∀ x ∈ l0, okp x from ⟨h8, hok⟩)
    have HR0 := Aside0.mk hr0
    have HC0 := Aside0.mk (show l0.length ≤ c0 ∧ l0.length < 4398046511104 from ⟨hc0, hlen⟩)
    have HT := Aside0.mk (pmod (a := a1) (c := 300) (by omega) (by omega))
    clear hr0 hc0 hlen hkv hko hv h8 hok
    obtain ⟨T, hT⟩ : ∃ T, Int.tmod (wrap64 (Int.tmod a1 300 + 300)) 300 = T := ⟨_, rfl⟩
    rw [hT] at HT
    go_enter Try.func4, Try.ntmps4
    go_wp2_with (first
      | (go_at_call 12; refine HTW0.out.mono ?_; rintro e w1 ⟨v1, rfl, hr1, hb1⟩; obtain ⟨A1, c1, rfl⟩ := Kd.R_slice hr1; have HR1 := Aside0.mk (Kd.R_reads' hr1); have HB1 := Aside0.mk hb1; clear hr1 hb1)
      | (go_at_call 11; refine (HOR.out _ A1 c1 HR1.out.2.2 HR1.out.2.1 HB1.out).mono ?_; rintro e w2 ⟨D, d, rfl, hh⟩; have HS := Aside0.mk hh; clear hh)
      | (go_at_call 21; refine (hVA.out _ (show So w D l0.length d (ordl l0) _ from by repeat (first | exact HS.out | apply So.drew | apply So.drewN)).2).mono ?_; rintro e w3 ⟨rfl, hb⟩; have HS2 := Aside0.mk (HS.out.below hb); clear hb)
      | go_in)
    clear hT
    go_loopg [7] (l0.length + 1) (fun kq v7 w' => ∃ p : Nat, v7 = .int .i64 (p : Int) ∧ Aside0 (kq + p = l0.length + 1 ∧ p ≤ l0.length) ∧ Aside0 (So w D l0.length d (ordl l0) w'))
    case atStart => exact ⟨0, rfl, ⟨by omega, by omega⟩, ⟨by repeat (first | exact HS2.out | apply So.drew | apply So.drewN)⟩⟩
    case round =>
      clear HS HS2 HTW0 HOR
      obtain ⟨p, rfl, HI, HS⟩ := hrel
      cases gk with
      | zero => exact absurd HI.out (by omega)
      | succ k2 =>
        by_cases q1 : p < l0.length
        · have d1 : decide ((p : Int) < (l0.length : Int)) = true := decide_eq_true (by omega)
          have d1' : decide (p < l0.length) = true := decide_eq_true q1
          obtain ⟨db, e, hz0⟩ := HS.out.at_ q1
          clear hz0
          subst e
          have hpl : p < (ol l0).length := by rw [ol_length]; exact q1
          obtain ⟨j, hj⟩ : ∃ j : Nat, (ol l0)[p] = j := ⟨_, rfl⟩
          have hjl : j < l0.length := by rw [← hj]; exact ol_mem.1 (List.getElem_mem hpl)
          have hoj : (ordl l0).getD p 0 = (j : Int) := by
            have := rdo (l := l0) hpl
            unfold rd at this
            rw [Int.toNat_natCast] at this
            rw [this, hj]
          have y0 := HS.out.at' q1
          rw [hoj] at y0
          have HJ := Aside0.mk (show p < l0.length ∧ (ordl l0).getD p 0 = (j : Int) ∧ j < l0.length from ⟨q1, hoj, hjl⟩)
          have HPJ := Aside0.mk (show ∃ h : p < (ol l0).length, (ol l0)[p] = j from ⟨hpl, hj⟩)
          have p0 : (0 ≤ (p : Int)) = True := eq_true (by omega)
          have p1 : ((p : Int) < (l0.length : Int)) = True := eq_true (by omega)
          have p1' : (p < l0.length) = True := eq_true q1
          have d2 : decide ((j : Int) < 0) = false := decide_eq_false (by omega)
          have d3 : decide ((l0.length : Int) ≤ (j : Int)) = false := decide_eq_false (by omega)
          have d3' : decide (l0.length ≤ j) = false := decide_eq_false (by omega)
          have r0 : (0 ≤ (j : Int)) = True := eq_true (by omega)
          have r1 : ((j : Int) < (l0.length : Int)) = True := eq_true (by omega)
          have r1' : (j < l0.length) = True := eq_true hjl
          obtain ⟨i1, hi1⟩ : ∃ n, n = p + 1 := ⟨_, rfl⟩
          have HN := Aside0.mk (show k2 < k2 + 1 ∧ k2 + i1 = l0.length + 1 ∧ i1 ≤ l0.length from ⟨by omega, by have := HI.out; omega, by omega⟩)
          have hwp_ := Aside0.mk (show wrap64 ((p : Int) + 1) = (i1 : Int) by have h8 := HOK.out.1; unfold wrap64; omega)
          clear HI q1 hi1 hpl hj hjl hoj
          go_upto_if 69 with (fail)
          go_cut [] (fun wc => Aside0 (So w (some ⟨db, 0, none⟩) l0.length d (ordl l0) wc))
          case first =>
            as_aux_lemma =>
              by_cases hp0 : p = 0
              · subst hp0
                have g0 : decide (0 < (((0 : Nat)) : Int)) = false := by decide
                have g0' : decide (0 < (0 : Nat)) = false := by decide
                (first | rw [g0] | rw [g0'] | skip)
                go_wp2
                go_meet
                case rel => exact ⟨(show So w (some ⟨db, 0, none⟩) l0.length d (ordl l0) _ from by repeat (first | exact HS.out | apply So.alloc | apply So.drew | apply So.drewN))⟩
              · have g0 : decide (0 < (p : Int)) = true := decide_eq_true (by omega)
                have g0' : decide (0 < p) = true := decide_eq_true (by omega)
                obtain ⟨q, hpq⟩ : ∃ q, p = q + 1 := ⟨p - 1, by omega⟩
                have hq : q + 1 < (ol l0).length := by rw [ol_length]; have := HJ.out.1; omega
                have hj2 : (ol l0)[q + 1] = j := by
                  obtain ⟨h, hh⟩ := HPJ.out
                  subst hpq
                  exact hh
                obtain ⟨hord, a, b, L1, L2, hle, ha, hb, hxc, hyc⟩ := near HOK.out.2 HOK.out.1 hq HT.out.1 HT.out.2
                obtain ⟨jq, hjq⟩ : ∃ jq : Nat, (ol l0)[q] = jq := ⟨_, rfl⟩
                have hjql : jq < l0.length := by rw [← hjq]; exact ol_mem.1 (List.getElem_mem _)
                have hoq : (ordl l0).getD q 0 = (jq : Int) := by
                  have := rdo (l := l0) (p := q) (by omega)
                  unfold rd at this
                  rw [Int.toNat_natCast] at this
                  rw [this, hjq]
                rw [hj2, hjq] at hord hle
                rw [hjq] at L1 hxc
                rw [hj2] at L2 hyc
                have hql : q < l0.length := by have := HJ.out.1; omega
                have z1 := HS.out.at' hql
                rw [hoq] at z1
                have HQ := Aside0.mk (show q < l0.length ∧ (ordl l0).getD q 0 = (jq : Int) from ⟨hql, hoq⟩)
                have HP0 := Aside0.mk (show p < l0.length ∧ (ordl l0).getD p 0 = (j : Int) from ⟨HJ.out.1, HJ.out.2.1⟩)
                obtain ⟨kl1, hkl1⟩ := L1.ex
                obtain ⟨kl2, hkl2⟩ := L2.ex
                have HK1 := Aside0.mk hkl1
                have HK2 := Aside0.mk hkl2
                obtain ⟨aw, e, x0, x1, x2, x3⟩ := at_T43 HR0.out (jq : Int) (by omega) (by omega)
                subst e
                obtain ⟨aw2, e, u0, u1, u2, u3⟩ := at_T43 HR0.out (j : Int) (by omega) (by have := HJ.out.2.2; omega)
                obtain rfl : aw = aw2 := by injection e
                clear e
                rw [Int.toNat_natCast] at x0 x1 x2 x3 u0 u1 u2 u3
                replace x0 := (HS.out.2.cell (World.block_lt_of_cell? w _ x0)).trans x0
                replace x1 := (HS.out.2.cell (World.block_lt_of_cell? w _ x1)).trans x1
                replace x2 := (HS.out.2.cell (World.block_lt_of_cell? w _ x2)).trans x2
                replace x3 := (HS.out.2.cell (World.block_lt_of_cell? w _ x3)).trans x3
                replace u0 := (HS.out.2.cell (World.block_lt_of_cell? w _ u0)).trans u0
                replace u1 := (HS.out.2.cell (World.block_lt_of_cell? w _ u1)).trans u1
                replace u2 := (HS.out.2.cell (World.block_lt_of_cell? w _ u2)).trans u2
                replace u3 := (HS.out.2.cell (World.block_lt_of_cell? w _ u3)).trans u3
                obtain ⟨x, hx⟩ : ∃ x, rd_T43 l0 (jq : Int) = x := ⟨_, rfl⟩
                obtain ⟨y, hy⟩ : ∃ y, rd_T43 l0 (j : Int) = y := ⟨_, rfl⟩
                rw [hx] at x0 x1 x2 x3 hord hle hxc
                rw [hy] at u0 u1 u2 u3 hord hle hyc
                obtain ⟨xe, xc, xd, xp⟩ := x
                obtain ⟨ye, yc, yd, yp⟩ := y
                simp only at x0 x1 x2 x3 u0 u1 u2 u3 hord hle hxc hyc
                have s0 : (0 ≤ (q : Int)) = True := eq_true (by omega)
                have s1 : ((q : Int) < (l0.length : Int)) = True := eq_true (by omega)
                have s1' : (q < l0.length) = True := eq_true hql
                have t0 : (0 ≤ (jq : Int)) = True := eq_true (by omega)
                have t1 : ((jq : Int) < (l0.length : Int)) = True := eq_true (by omega)
                have t1' : (jq < l0.length) = True := eq_true hjql
                have hwq_ := Aside0.mk (show wrap64 ((p : Int) - 1) = (q : Int) by have := HOK.out.1; unfold wrap64; omega)
                have hwqi_ := Aside0.mk (show IntKind.i64.wrap ((p : Int) - 1) = (q : Int) by rw [i64_w]; exact hwq_.out)
                have hwa_ := Aside0.mk (show wrap64 (a - xc) = a - xc by unfold wrap64; omega)
                have hwb_ := Aside0.mk (show wrap64 (b - yc) = b - yc by unfold wrap64; omega)
                have g7 : decide (b - yc < a - xc) = false := decide_eq_false (by omega)
                have g8 : decide (yp < xp) = false := decide_eq_false (by omega)
                have HORD := Aside0.mk hord
                clear hpq hq hj2 hord L1 L2 hle ha hb hxc hyc hjq hjql hoq hql hkl1 hkl2 hx hy hp0
                (first | rw [g0] | rw [g0'] | skip)
                go_upto_region 13 with (fail)
                go_cut [8, 9] (fun v8 v9 wc => ∃ b8 b9 : Nat, v8 = .pointer (some ⟨b8, 0, none⟩) ∧ v9 = .pointer (some ⟨b9, 0, none⟩) ∧ Aside0 (Tw w (some ⟨db, 0, none⟩) l0.length d (ordl l0) b8 b9 ⟨xe, xc, xd, xp⟩ ⟨ye, yc, yd, yp⟩ wc))
                case first =>
                  as_aux_lemma =>
                    have Ax0 := fun o => (World.cell?_alloc_lt wr o _ (World.block_lt_of_cell? wr _ x0)).trans x0
                    have AAx0 := fun o o2 => (World.cell?_alloc_lt (wr.alloc o) o2 _ (World.block_lt_of_cell? _ _ (Ax0 o))).trans (Ax0 o)
                    have Ax1 := fun o => (World.cell?_alloc_lt wr o _ (World.block_lt_of_cell? wr _ x1)).trans x1
                    have AAx1 := fun o o2 => (World.cell?_alloc_lt (wr.alloc o) o2 _ (World.block_lt_of_cell? _ _ (Ax1 o))).trans (Ax1 o)
                    have Ax2 := fun o => (World.cell?_alloc_lt wr o _ (World.block_lt_of_cell? wr _ x2)).trans x2
                    have AAx2 := fun o o2 => (World.cell?_alloc_lt (wr.alloc o) o2 _ (World.block_lt_of_cell? _ _ (Ax2 o))).trans (Ax2 o)
                    have Ax3 := fun o => (World.cell?_alloc_lt wr o _ (World.block_lt_of_cell? wr _ x3)).trans x3
                    have AAx3 := fun o o2 => (World.cell?_alloc_lt (wr.alloc o) o2 _ (World.block_lt_of_cell? _ _ (Ax3 o))).trans (Ax3 o)
                    have Au0 := fun o => (World.cell?_alloc_lt wr o _ (World.block_lt_of_cell? wr _ u0)).trans u0
                    have AAu0 := fun o o2 => (World.cell?_alloc_lt (wr.alloc o) o2 _ (World.block_lt_of_cell? _ _ (Au0 o))).trans (Au0 o)
                    have Au1 := fun o => (World.cell?_alloc_lt wr o _ (World.block_lt_of_cell? wr _ u1)).trans u1
                    have AAu1 := fun o o2 => (World.cell?_alloc_lt (wr.alloc o) o2 _ (World.block_lt_of_cell? _ _ (Au1 o))).trans (Au1 o)
                    have Au2 := fun o => (World.cell?_alloc_lt wr o _ (World.block_lt_of_cell? wr _ u2)).trans u2
                    have AAu2 := fun o o2 => (World.cell?_alloc_lt (wr.alloc o) o2 _ (World.block_lt_of_cell? _ _ (Au2 o))).trans (Au2 o)
                    have Au3 := fun o => (World.cell?_alloc_lt wr o _ (World.block_lt_of_cell? wr _ u3)).trans u3
                    have AAu3 := fun o o2 => (World.cell?_alloc_lt (wr.alloc o) o2 _ (World.block_lt_of_cell? _ _ (Au3 o))).trans (Au3 o)
                    have Ay0 := fun o => (World.cell?_alloc_lt wr o _ (World.block_lt_of_cell? wr _ y0)).trans y0
                    have AAy0 := fun o o2 => (World.cell?_alloc_lt (wr.alloc o) o2 _ (World.block_lt_of_cell? _ _ (Ay0 o))).trans (Ay0 o)
                    have Az1 := fun o => (World.cell?_alloc_lt wr o _ (World.block_lt_of_cell? wr _ z1)).trans z1
                    have AAz1 := fun o o2 => (World.cell?_alloc_lt (wr.alloc o) o2 _ (World.block_lt_of_cell? _ _ (Az1 o))).trans (Az1 o)
                    have hwq := hwq_.out
                    have hwqi := hwqi_.out
                    go_wp2_with (fail)
                    go_region
                    all_goals go_wp2_with (fail)
                    all_goals (go_meet; first | exact ⟨_, _, rfl, rfl, ⟨So.two (show So w (some ⟨db, 0, none⟩) l0.length d (ordl l0) _ from by repeat (first | exact HS.out | apply So.alloc | apply So.drew | apply So.drewN)) ⟨xe, xc, xd, xp⟩ ⟨ye, yc, yd, yp⟩⟩⟩ | exact ⟨_, _, rfl, rfl, ⟨So.two' (show So w (some ⟨db, 0, none⟩) l0.length d (ordl l0) _ from by repeat (first | exact HS.out | apply So.alloc | apply So.drew | apply So.drewN)) ⟨xe, xc, xd, xp⟩ ⟨ye, yc, yd, yp⟩⟩⟩)
                case rest =>
                  as_aux_lemma =>
                    obtain ⟨b8, b9, rfl, rfl, HW⟩ := hcut
                    clear HS x0 x1 x2 x3 u0 u1 u2 u3 z1 y0
                    obtain ⟨c1x, c3x, e1x, e3x⟩ := HW.out.cells
                    simp only at c1x c3x e1x e3x
                    have z1 := HW.out.1.at' HQ.out.1
                    rw [HQ.out.2] at z1
                    have y0 := HW.out.1.at' HP0.out.1
                    rw [HP0.out.2] at y0
                    go_upto_region 14 with (fail)
                    go_cut [108] (fun v108 wc => v108 = .bool false ∧ Aside0 (Tw w (some ⟨db, 0, none⟩) l0.length d (ordl l0) b8 b9 ⟨xe, xc, xd, xp⟩ ⟨ye, yc, yd, yp⟩ wc))
                    case first =>
                      by_cases heq : xp = yp
                      · have hjj : jq < j := by have := HORD.out; omega
                        have g10 : decide ((j : Int) ≤ (jq : Int)) = false := decide_eq_false (by omega)
                        have g10' : decide (j ≤ jq) = false := decide_eq_false (by omega)
                        have g9 : (xp == yp) = true := beq_iff_eq.2 heq
                        have g9' : decide (xp = yp) = true := decide_eq_true heq
                        clear heq hjj
                        have hwq := hwq_.out
                        have hwqi := hwqi_.out
                        go_wp2_with (fail)
                        go_quiet (fail)
                        go_wp2
                        go_meet
                        case rel => exact ⟨by first | rfl | (simp; done) | (simp [*]; done), ⟨(show Tw w (some ⟨db, 0, none⟩) l0.length d (ordl l0) b8 b9 ⟨xe, xc, xd, xp⟩ ⟨ye, yc, yd, yp⟩ _ from by repeat (first | exact HW.out | apply Tw.drew | apply Tw.drewN))⟩⟩
                      · have g9 : (xp == yp) = false := beq_eq_false_iff_ne.2 heq
                        have g9' : decide (xp = yp) = false := decide_eq_false heq
                        clear heq
                        have hwq := hwq_.out
                        have hwqi := hwqi_.out
                        go_wp2_with (fail)
                        go_quiet (fail)
                        go_wp2
                        go_meet
                        case rel => exact ⟨by first | rfl | (simp; done) | (simp [*]; done), ⟨(show Tw w (some ⟨db, 0, none⟩) l0.length d (ordl l0) b8 b9 ⟨xe, xc, xd, xp⟩ ⟨ye, yc, yd, yp⟩ _ from by repeat (first | exact HW.out | apply Tw.drew | apply Tw.drewN))⟩⟩
                    case rest =>
                      clear z1 y0 c1x c3x e1x e3x
                      clear HW
                      obtain ⟨rfl, HW⟩ := hcut
                      have hwq := hwq_.out
                      have hwqi := hwqi_.out
                      have z1 := HW.out.1.at' HQ.out.1
                      rw [HQ.out.2] at z1
                      go_wp2_with (fail)
                      go_region_held3 (fun V : World => V.cell? ⟨db, q, none⟩ = some (.int .i64 (jq : Int)) ∧ Tw w (some ⟨db, 0, none⟩) l0.length d (ordl l0) b8 b9 ⟨xe, xc, xd, xp⟩ ⟨ye, yc, yd, yp⟩ V) (exact ⟨by first | exact z1 | exact Z1, by repeat (first | exact HW.out | apply Tw.drew | apply Tw.drewN)⟩) (first
                        | (go_at_call 12; refine (Tw.twin (show Tw w (some ⟨db, 0, none⟩) l0.length d (ordl l0) b8 b9 ⟨xe, xc, xd, xp⟩ ⟨ye, yc, yd, yp⟩ _ from by repeat (first | exact HW.out | apply Tw.drew | apply Tw.drewN)) HR0.out HC0.out.1 HC0.out.2).mono ?_; rintro e w6 ⟨A1, c1, rfl, hh⟩; have Z1 := hh.1.1.at' HQ.out.1; rw [HQ.out.2] at Z1; have HT2 := Aside0.mk hh; have HW6 := Aside0.mk hh.1; clear hh; clear HW; have HW := HW6; clear HW6)
                        | (go_at_call 14; refine (Tu.level (show Tu w (some ⟨db, 0, none⟩) l0.length d (ordl l0) b8 b9 ⟨xe, xc, xd, xp⟩ ⟨ye, yc, yd, yp⟩ l0 A1 c1 _ from by repeat (first | exact HT2.out | apply Tu.drew | apply Tu.drewN)) HK1.out).mono ?_; rintro e w7 ⟨rfl, hh⟩; have Z1 := hh.1.at' HQ.out.1; rw [HQ.out.2] at Z1; have HW7 := Aside0.mk hh; clear hh; clear HW; have HW := HW7; clear HW7))
                      all_goals clear z1
                      all_goals have z1 := HW.out.1.at' HP0.out.1
                      all_goals rw [HP0.out.2] at z1
                      all_goals (go_upto_region 17 with (fail); go_wp2_with (fail); go_region_held3 (fun V : World => V.cell? ⟨db, p, none⟩ = some (.int .i64 (j : Int)) ∧ Tw w (some ⟨db, 0, none⟩) l0.length d (ordl l0) b8 b9 ⟨xe, xc, xd, xp⟩ ⟨ye, yc, yd, yp⟩ V) (exact ⟨by first | exact z1 | exact Z1, by repeat (first | exact HW.out | apply Tw.drew | apply Tw.drewN)⟩) (first
                        | (go_at_call 12; refine (Tw.twin (show Tw w (some ⟨db, 0, none⟩) l0.length d (ordl l0) b8 b9 ⟨xe, xc, xd, xp⟩ ⟨ye, yc, yd, yp⟩ _ from by repeat (first | exact HW.out | apply Tw.drew | apply Tw.drewN)) HR0.out HC0.out.1 HC0.out.2).mono ?_; rintro e w6 ⟨A1, c1, rfl, hh⟩; have Z1 := hh.1.1.at' HP0.out.1; rw [HP0.out.2] at Z1; have HT2 := Aside0.mk hh; have HW6 := Aside0.mk hh.1; clear hh; clear HW; have HW := HW6; clear HW6)
                        | (go_at_call 14; refine (Tu.level (show Tu w (some ⟨db, 0, none⟩) l0.length d (ordl l0) b8 b9 ⟨xe, xc, xd, xp⟩ ⟨ye, yc, yd, yp⟩ l0 A1 c1 _ from by repeat (first | exact HT2.out | apply Tu.drew | apply Tu.drewN)) HK2.out).mono ?_; rintro e w7 ⟨rfl, hh⟩; have Z1 := hh.1.at' HP0.out.1; rw [HP0.out.2] at Z1; have HW7 := Aside0.mk hh; clear hh; clear HW; have HW := HW7; clear HW7)))
                      all_goals clear z1
                      all_goals obtain ⟨c1x, c3x, e1x, e3x⟩ := HW.out.cells
                      all_goals simp only at c1x c3x e1x e3x
                      all_goals have hwa := hwa_.out
                      all_goals have hwb := hwb_.out
                      all_goals go_wp2
                      all_goals (go_meet; exact ⟨(show Tw w (some ⟨db, 0, none⟩) l0.length d (ordl l0) b8 b9 ⟨xe, xc, xd, xp⟩ ⟨ye, yc, yd, yp⟩ _ from by repeat (first | exact HW.out | apply Tw.drew | apply Tw.drewN)).1⟩)
          case rest =>
            clear HS
            have HS := hcut
            go_upto_block 2 with (fail)
            go_cut [15] (fun v15 wc => ∃ first : Int, v15 = .int .i64 first ∧ Aside0 (Bz l0 p first) ∧ Aside0 (So w (some ⟨db, 0, none⟩) l0.length d (ordl l0) wc))
            case first =>
              as_aux_lemma =>
                go_wp2_with (fail)
                go_loopg [14, 15, 16] 2002 (fun kq v14 v15 v16 w' => ∃ (u left first : Int), v14 = .int .i64 left ∧ v15 = .int .i64 first ∧ v16 = .int .i64 u ∧ Aside0 ((kq : Int) + u = 2002 ∧ 0 ≤ u ∧ u ≤ 2001 ∧ -4096 ≤ left ∧ left ≤ 1000000000000) ∧ Aside0 (Tk l0 p u left first) ∧ Aside0 (So w (some ⟨db, 0, none⟩) l0.length d (ordl l0) w'))
                case atStart => exact ⟨0, 0, 0, rfl, rfl, rfl, ⟨by omega, by omega, by omega, by omega, by omega⟩, ⟨tk_start HOK.out.2⟩, ⟨(show So w (some ⟨db, 0, none⟩) l0.length d (ordl l0) _ from by repeat (first | exact HS.out | apply So.alloc | apply So.drew | apply So.drewN))⟩⟩
                case round =>
                  clear HS
                  obtain ⟨u, left, first, rfl, rfl, rfl, HI, HK, HSu⟩ := hrel
                  cases gk with
                  | zero => exact absurd HI.out (by omega)
                  | succ k3 =>
                    by_cases q2 : u ≤ 2000 ∧ first = 0
                    · obtain ⟨q2, rfl⟩ := q2
                      have d4 : decide (u ≤ 2000) = true := decide_eq_true q2
                      have HU := Aside0.mk (show 0 ≤ u ∧ u ≤ 2000 ∧ (k3 : Int) + (u + 1) = 2002 ∧ -4096 ≤ left ∧ left ≤ 1000000000000 from by have := HI.out; omega)
                      have hA : left = rs (pre l0 (p + 1)) u - u ∧ ∀ v, 1 ≤ v → v < u → v < rs (pre l0 (p + 1)) v := by
                        rcases HK.out with ⟨_, h1, h2⟩ | ⟨h1, _⟩
                        · exact ⟨h1, h2⟩
                        · omega
                      have HPP := Aside0.mk (show p < 8 ∧ -2001 ≤ left ∧ left ≤ 16793993216 from by
                        have h1 := HJ.out.1
                        have h2 := HOK.out.1
                        have h3 := rs_up HOK.out.2 HOK.out.1 (p := p) (by rw [ol_length]; exact h1) HU.out.1 (show u ≤ 2001 by omega)
                        have := hA.1
                        have := HU.out
                        omega)
                      have HAA := Aside0.mk hA
                      have HPL := Aside0.mk (show p < (ol l0).length by rw [ol_length]; exact HJ.out.1)
                      clear HI HK q2 hA
                      go_upto_region 24 with (fail)
                      go_cut [162] (fun v162 wc => ∃ bz : Bool, v162 = .bool bz ∧ Aside0 ((bz = true ∧ (1 ≤ u ∧ left = 0)) ∨ (bz = false ∧ ¬ (1 ≤ u ∧ left = 0))) ∧ Aside0 (So w (some ⟨db, 0, none⟩) l0.length d (ordl l0) wc))
                      case first =>
                        by_cases hz : 1 ≤ u ∧ left = 0
                        · have g1 : decide (0 < u) = true := decide_eq_true (by omega)
                          have g2 : (left == 0) = true := beq_iff_eq.2 hz.2
                          have g2' : decide (left = 0) = true := decide_eq_true hz.2
                          have HZ := Aside0.mk hz
                          clear hz
                          go_wp2
                          go_meet
                          case rel => exact ⟨true, by first | rfl | (simp; done) | (simp [*]; done), ⟨Or.inl ⟨rfl, HZ.out⟩⟩, ⟨(show So w (some ⟨db, 0, none⟩) l0.length d (ordl l0) _ from by repeat (first | exact HSu.out | apply So.alloc | apply So.drew | apply So.drewN))⟩⟩
                        · have HZ := Aside0.mk hz
                          by_cases hu0 : 1 ≤ u
                          · have g1 : decide (0 < u) = true := decide_eq_true (by omega)
                            have g2 : (left == 0) = false := beq_eq_false_iff_ne.2 (by omega)
                            have g2' : decide (left = 0) = false := decide_eq_false (by omega)
                            clear hz hu0
                            go_wp2
                            go_meet
                            case rel => exact ⟨false, by first | rfl | (simp; done) | (simp [*]; done), ⟨Or.inr ⟨rfl, HZ.out⟩⟩, ⟨(show So w (some ⟨db, 0, none⟩) l0.length d (ordl l0) _ from by repeat (first | exact HSu.out | apply So.alloc | apply So.drew | apply So.drewN))⟩⟩
                          · have g1 : decide (0 < u) = false := decide_eq_false (by omega)
                            clear hz hu0
                            go_wp2
                            go_meet
                            case rel => exact ⟨false, by first | rfl | (simp; done) | (simp [*]; done), ⟨Or.inr ⟨rfl, HZ.out⟩⟩, ⟨(show So w (some ⟨db, 0, none⟩) l0.length d (ordl l0) _ from by repeat (first | exact HSu.out | apply So.alloc | apply So.drew | apply So.drewN))⟩⟩
                      case rest =>
                       clear HSu
                       obtain ⟨bz, rfl, HZ, HSu⟩ := hcut
                       go_upto_if 162 with (fail)
                       go_cut [15] (fun v15 wc => ∃ f : Int, v15 = .int .i64 f ∧ Aside0 (Fz u left f) ∧ Aside0 (So w (some ⟨db, 0, none⟩) l0.length d (ordl l0) wc))
                       case first =>
                        rcases HZ.out with ⟨rfl, hz⟩ | ⟨rfl, hz⟩
                        · have HZ2 := Aside0.mk hz
                          clear hz HZ
                          go_wp2
                          go_meet
                          case rel => exact ⟨u, by first | rfl | (simp; done) | (simp [*]; done), ⟨Or.inl ⟨rfl, HZ2.out⟩⟩, ⟨(show So w (some ⟨db, 0, none⟩) l0.length d (ordl l0) _ from by repeat (first | exact HSu.out | apply So.alloc | apply So.drew | apply So.drewN))⟩⟩
                        · have HZ2 := Aside0.mk hz
                          clear hz HZ
                          go_wp2
                          go_meet
                          case rel => exact ⟨0, by first | rfl | (simp; done) | (simp [*]; done), ⟨Or.inr ⟨rfl, HZ2.out⟩⟩, ⟨(show So w (some ⟨db, 0, none⟩) l0.length d (ordl l0) _ from by repeat (first | exact HSu.out | apply So.alloc | apply So.drew | apply So.drewN))⟩⟩
                       case rest =>
                        clear HSu HZ
                        obtain ⟨f, rfl, HF, HSu⟩ := hcut
                        as_aux_lemma =>
                          go_wp2
                          go_loopg [14, 17] (p + 2) (fun kq v14 v17 w' => ∃ (i : Nat) (rv : Int), v14 = .int .i64 (left + rv) ∧ v17 = .int .i64 (i : Int) ∧ Aside0 (rl l0 u i = rv) ∧ Aside0 (kq + i = p + 2 ∧ i ≤ p + 1) ∧ Aside0 (So w (some ⟨db, 0, none⟩) l0.length d (ordl l0) w'))
                          case atStart => exact ⟨0, 0, by first | rfl | (simp; done), rfl, ⟨rl_zero _ _⟩, ⟨by omega, by omega⟩, ⟨(show So w (some ⟨db, 0, none⟩) l0.length d (ordl l0) _ from by repeat (first | exact HSu.out | apply So.alloc | apply So.drew | apply So.drewN))⟩⟩
                          case round =>
                            clear HSu
                            obtain ⟨i, rv, rfl, rfl, HRV, HI, HSi⟩ := hrel
                            cases gk with
                            | zero => exact absurd HI.out (by omega)
                            | succ k4 =>
                              by_cases q3 : i ≤ p
                              · have d5 : decide ((i : Int) ≤ (p : Int)) = true := decide_eq_true (by omega)
                                have d5' : decide (i ≤ p) = true := decide_eq_true q3
                                have hil : i < l0.length := by have := HJ.out.1; omega
                                have hpi : i < (ol l0).length := by rw [ol_length]; exact hil
                                obtain ⟨ji, hji⟩ : ∃ ji : Nat, (ol l0)[i] = ji := ⟨_, rfl⟩
                                have hjil : ji < l0.length := by rw [← hji]; exact ol_mem.1 (List.getElem_mem hpi)
                                have hoi : (ordl l0).getD i 0 = (ji : Int) := by
                                  have := rdo (l := l0) hpi
                                  unfold rd at this
                                  rw [Int.toNat_natCast] at this
                                  rw [this, hji]
                                have z0 := HSi.out.at' hil
                                rw [hoi] at z0
                                obtain ⟨aw, e, x0, x1, x2, x3⟩ := at_T43 HR0.out (ji : Int) (by omega) (by omega)
                                subst e
                                rw [Int.toNat_natCast] at x0 x1
                                replace x0 := (HSi.out.2.cell (World.block_lt_of_cell? w _ x0)).trans x0
                                replace x1 := (HSi.out.2.cell (World.block_lt_of_cell? w _ x1)).trans x1
                                have hx := HOK.out.2 _ (List.getElem_mem hjil)
                                rw [← rd_get hjil] at hx
                                have hrl := rl_succ (u := u) hpi
                                rw [hji] at hrl
                                have hrb := rl_bounds HOK.out.2 u i (by omega)
                                obtain ⟨ev, hev⟩ : ∃ ev, (rd_T43 l0 (ji : Int)).f0 = ev := ⟨_, rfl⟩
                                obtain ⟨cv, hcv⟩ : ∃ cv, (rd_T43 l0 (ji : Int)).f1 = cv := ⟨_, rfl⟩
                                obtain ⟨hx1, hx2, hx3, hx4, _⟩ := hx
                                rw [hev] at x0 hrl hx1 hx2
                                rw [hcv] at x1 hrl hx3 hx4
                                have s0 : (0 ≤ (i : Int)) = True := eq_true (by omega)
                                have s1 : ((i : Int) < (l0.length : Int)) = True := eq_true (by omega)
                                have s1' : (i < l0.length) = True := eq_true hil
                                have t0 : (0 ≤ (ji : Int)) = True := eq_true (by omega)
                                have t1 : ((ji : Int) < (l0.length : Int)) = True := eq_true (by omega)
                                have t1' : (ji < l0.length) = True := eq_true hjil
                                have g5 : (ev == 0) = false := beq_eq_false_iff_ne.2 (by omega)
                                have g5' : decide (ev = 0) = false := decide_eq_false (by omega)
                                have g5n : ¬ ev = 0 := by omega
                                have hmd : Int.tmod u ev = u % ev := tmod_pos HU.out.1
                                obtain ⟨m, hm⟩ : ∃ m, Int.tmod u ev = m := ⟨_, rfl⟩
                                obtain ⟨i2, hi2⟩ : ∃ n, n = i + 1 := ⟨_, rfl⟩
                                rw [← hi2] at hrl
                                have hr1v := HRV.out
                                obtain ⟨r2v, hr2v⟩ : ∃ x, rl l0 u i2 = x := ⟨_, rfl⟩
                                have HR2 := Aside0.mk hr2v
                                rw [hr1v] at hrl hrb
                                rw [hr2v] at hrl
                                have HNI := Aside0.mk (show k4 < k4 + 1 ∧ k4 + i2 = p + 2 ∧ i2 ≤ p + 1 from ⟨by omega, by have := HI.out; omega, by omega⟩)
                                have hwi_ := Aside0.mk (show wrap64 ((i : Int) + 1) = (i2 : Int) by have h8 := HOK.out.1; unfold wrap64; omega)
                                by_cases hm0 : m = 0
                                · rw [if_pos (by rw [← hmd, hm]; exact hm0)] at hrl
                                  have hwl_ := Aside0.mk (show wrap64 (left + rv + cv) = left + r2v by have h8 := HU.out; have h9 := HOK.out.1; unfold wrap64; omega)
                                  have hm_ := Aside0.mk (show Int.tmod u ev = 0 from hm.trans hm0)
                                  clear hil hpi hji hjil hoi x2 x3 hrl hrb hev hcv hx1 hx2 hx3 hx4 hmd hm hi2 hr1v hr2v HI hm0
                                  have hwi := hwi_.out
                                  have hwl := hwl_.out
                                  have hm := hm_.out
                                  go_wp2
                                  go_roundg k4
                                  case measure => exact HNI.out.1
                                  case rel => exact ⟨i2, r2v, by first | rfl | (simp; done) | (simp [*]; done), by first | rfl | (simp; done) | (simp [*]; done), ⟨HR2.out⟩, ⟨HNI.out.2⟩, ⟨(show So w (some ⟨db, 0, none⟩) l0.length d (ordl l0) _ from by repeat (first | exact HSi.out | apply So.alloc | apply So.drew | apply So.drewN))⟩⟩
                                · rw [if_neg (by rw [← hmd, hm]; exact hm0), Int.add_zero] at hrl
                                  have g6 : (m == 0) = false := beq_eq_false_iff_ne.2 hm0
                                  have g6' : decide (m = 0) = false := decide_eq_false hm0
                                  have hr12 := Aside0.mk (show r2v = rv from hrl)
                                  have HR2' := Aside0.mk (show rl l0 u i2 = rv from hr2v.trans hrl)
                                  have hm_ := Aside0.mk hm
                                  clear hil hpi hji hjil hoi x1 x2 x3 hrl hrb hev hcv hx1 hx2 hx3 hx4 hmd hm hi2 hr1v hr2v HI hm0
                                  have hwi := hwi_.out
                                  have hm := hm_.out
                                  go_wp2
                                  go_roundg k4
                                  case measure => exact HNI.out.1
                                  case rel => exact ⟨i2, rv, by first | rfl | (simp; done) | (simp [*]; done), by first | rfl | (simp; done) | (simp [*]; done), ⟨HR2'.out⟩, ⟨HNI.out.2⟩, ⟨(show So w (some ⟨db, 0, none⟩) l0.length d (ordl l0) _ from by repeat (first | exact HSi.out | apply So.alloc | apply So.drew | apply So.drewN))⟩⟩
                              · have d5 : decide ((i : Int) ≤ (p : Int)) = false := decide_eq_false (by omega)
                                have d5' : decide (i ≤ p) = false := decide_eq_false q3
                                have hie : i = p + 1 := by have := HI.out; omega
                                subst hie
                                have HTK := Aside0.mk (show Tk l0 p (u + 1) (left + rv - 1) f from by have h9 := HRV.out; rcases HF.out with ⟨hf, hz⟩ | ⟨hf, hz⟩ <;> rw [hf]; exact tk_stop HOK.out.2 HOK.out.1 HPL.out HU.out.2.1 HAA.out.2 ⟨hz.1, by rw [← HAA.out.1]; exact hz.2⟩ _ _; rw [HAA.out.1, ← h9]; exact tk_go HOK.out.2 HOK.out.1 HPL.out HU.out.1 HU.out.2.1 HAA.out.2 (by rw [← HAA.out.1]; exact hz))
                                have hrb := rl_bounds HOK.out.2 u (p + 1) (by rw [ol_length]; have := HJ.out.1; omega)
                                rw [HRV.out] at hrb
                                have HUU := Aside0.mk (show k3 < k3 + 1 ∧ (k3 : Int) + (u + 1) = 2002 ∧ 0 ≤ u + 1 ∧ u + 1 ≤ 2001 ∧ -4096 ≤ left + rv - 1 ∧ left + rv - 1 ≤ 1000000000000 from ⟨by omega, by have := HU.out; omega, by have := HU.out; omega, by have := HU.out; omega, by have := HU.out; have := HPP.out; omega, by have := HU.out; have := HPP.out; omega⟩)
                                have hwl_ := Aside0.mk (show wrap64 (left + rv - 1) = left + rv - 1 by have := HUU.out; unfold wrap64; omega)
                                have hwu_ := Aside0.mk (show wrap64 (u + 1) = u + 1 by have := HUU.out; unfold wrap64; omega)
                                clear HI q3 hrb HRV
                                have hwl := hwl_.out
                                have hwu := hwu_.out
                                go_wp2
                                go_roundg k3
                                case measure => exact HUU.out.1
                                case rel => exact ⟨u + 1, left + rv - 1, f, by first | rfl | (simp; done) | (simp [*]; done), by first | rfl | (simp; done) | (simp [*]; done), by first | rfl | (simp; done) | (simp [*]; done), ⟨HUU.out.2⟩, HTK, ⟨(show So w (some ⟨db, 0, none⟩) l0.length d (ordl l0) _ from by repeat (first | exact HSi.out | apply So.alloc | apply So.drew | apply So.drewN))⟩⟩
                    · have HB := Aside0.mk (show Bz l0 p first from by
                        obtain ⟨hpl, hj⟩ := HPJ.out
                        obtain ⟨v, eb, hev, hor⟩ := tk_busy HOK.out.2 HOK.out.1 hpl HK.out (fun h => by have := HI.out; by_cases hu : u ≤ 2000; exact absurd ⟨hu, h⟩ q2; omega)
                        exact ⟨hpl, v, eb, hev, hor⟩)
                      by_cases hu : u ≤ 2000
                      · have d4 : decide (u ≤ 2000) = true := decide_eq_true hu
                        have e2 : (first == 0) = false := beq_eq_false_iff_ne.2 (fun h => q2 ⟨hu, h⟩)
                        have e2' : decide (first = 0) = false := decide_eq_false (fun h => q2 ⟨hu, h⟩)
                        clear hu q2 HI HK
                        go_wp2
                        go_meet
                        case rel => exact ⟨first, rfl, HB, ⟨(show So w (some ⟨db, 0, none⟩) l0.length d (ordl l0) _ from by repeat (first | exact HSu.out | apply So.alloc | apply So.drew | apply So.drewN))⟩⟩
                      · have d4 : decide (u ≤ 2000) = false := decide_eq_false hu
                        clear hu q2 HI HK
                        go_wp2
                        go_meet
                        case rel => exact ⟨first, rfl, HB, ⟨(show So w (some ⟨db, 0, none⟩) l0.length d (ordl l0) _ from by repeat (first | exact HSu.out | apply So.alloc | apply So.drew | apply So.drewN))⟩⟩
            case rest =>
              clear HS
              obtain ⟨first, rfl, HB, HSu⟩ := hcut
              obtain ⟨hpl2, v, eb, hev, hor⟩ := HB.out
              obtain ⟨hpl, hj⟩ := HPJ.out
              obtain ⟨kb, hkb⟩ := hev.ex
              rw [hj] at hkb
              have z1 := HSu.out.at' HJ.out.1
              rw [HJ.out.2.1] at z1
              rcases hor with ⟨f0, rfl, rfl⟩ | ⟨rfl, hh⟩
              · have e1 : decide (0 < v) = true := decide_eq_true f0
                have e2 : (v == 0) = false := beq_eq_false_iff_ne.2 (by omega)
                have e2' : decide (v = 0) = false := decide_eq_false (by omega)
                have HBU := Aside0.mk (fun (V : World) (A1 : Option Addr) (c1 : Nat) (hV : St w (some ⟨db, 0, none⟩) l0.length d (ordl l0) l0 A1 c1 V) => show Calls Try.prog 16 #[.slice A1 l0.length c1, .int .i64 (j : Int)] V fun e W' => e = .returned (.tuple #[.int .i64 v, .nilIface]) ∧ So w (some ⟨db, 0, none⟩) l0.length d (ordl l0) W' from hV.busy hkb)
                clear hpl hpl2 hj hev hkb f0 HPJ HB
                as_aux_lemma =>
                  go_wp2_with (fail)
                  go_region_held3 (fun V : World => V.cell? ⟨db, p, none⟩ = some (.int .i64 (j : Int)) ∧ So w (some ⟨db, 0, none⟩) l0.length d (ordl l0) V) (exact ⟨by first | exact z1 | exact Z1, by repeat (first | exact HSu.out | apply So.drew | apply So.drewN)⟩) (first
                    | (go_at_call 12; refine (So.twin (show So w (some ⟨db, 0, none⟩) l0.length d (ordl l0) _ from by repeat (first | exact HSu.out | apply So.alloc | apply So.drew | apply So.drewN)) HR0.out HC0.out.1 HC0.out.2).mono ?_; rintro e w6 ⟨A1, c1, rfl, hh⟩; have Z1 := hh.1.at' HJ.out.1; rw [HJ.out.2.1] at Z1; have HT2 := Aside0.mk hh; have HS6 := Aside0.mk hh.1; clear hh; clear HSu; have HSu := HS6; clear HS6)
                    | (go_at_call 16; refine (HBU.out _ A1 c1 (show St w (some ⟨db, 0, none⟩) l0.length d (ordl l0) l0 A1 c1 _ from by repeat (first | exact HT2.out | apply St.drew | apply St.drewN))).mono ?_; rintro e w7 ⟨rfl, hh⟩; have Z1 := hh.at' HJ.out.1; rw [HJ.out.2.1] at Z1; have HS7 := Aside0.mk hh; clear hh; clear HSu; have HSu := HS7; clear HS7))
                  all_goals have hwp := hwp_.out
                  all_goals go_wp2
                  go_roundg k2
                  case measure => exact HN.out.1
                  case rel => exact ⟨i1, by first | rfl | (simp; done) | (simp [*]; done), ⟨HN.out.2⟩, ⟨(show So w (some ⟨db, 0, none⟩) l0.length d (ordl l0) _ from by repeat (first | exact HSu.out | apply So.alloc | apply So.drew | apply So.drewN))⟩⟩
              · rcases hh with ⟨rfl, rfl⟩ | ⟨rfl, hv⟩
                · have HBU := Aside0.mk (fun (V : World) (A1 : Option Addr) (c1 : Nat) (hV : St w (some ⟨db, 0, none⟩) l0.length d (ordl l0) l0 A1 c1 V) => show Calls Try.prog 16 #[.slice A1 l0.length c1, .int .i64 (j : Int)] V fun e W' => e = .returned (.tuple #[.int .i64 0, .iface 72 (.int .i64 80)]) ∧ So w (some ⟨db, 0, none⟩) l0.length d (ordl l0) W' from hV.busy hkb)
                  clear hpl hpl2 hj hev hkb HPJ HB
                  as_aux_lemma =>
                    go_wp2_with (fail)
                    go_region_held3 (fun V : World => V.cell? ⟨db, p, none⟩ = some (.int .i64 (j : Int)) ∧ So w (some ⟨db, 0, none⟩) l0.length d (ordl l0) V) (exact ⟨by first | exact z1 | exact Z1, by repeat (first | exact HSu.out | apply So.drew | apply So.drewN)⟩) (first
                      | (go_at_call 12; refine (So.twin (show So w (some ⟨db, 0, none⟩) l0.length d (ordl l0) _ from by repeat (first | exact HSu.out | apply So.alloc | apply So.drew | apply So.drewN)) HR0.out HC0.out.1 HC0.out.2).mono ?_; rintro e w6 ⟨A1, c1, rfl, hh⟩; have Z1 := hh.1.at' HJ.out.1; rw [HJ.out.2.1] at Z1; have HT2 := Aside0.mk hh; have HS6 := Aside0.mk hh.1; clear hh; clear HSu; have HSu := HS6; clear HS6)
                      | (go_at_call 16; refine (HBU.out _ A1 c1 (show St w (some ⟨db, 0, none⟩) l0.length d (ordl l0) l0 A1 c1 _ from by repeat (first | exact HT2.out | apply St.drew | apply St.drewN))).mono ?_; rintro e w7 ⟨rfl, hh⟩; have Z1 := hh.at' HJ.out.1; rw [HJ.out.2.1] at Z1; have HS7 := Aside0.mk hh; clear hh; clear HSu; have HSu := HS7; clear HS7))
                    all_goals have hwp := hwp_.out
                    all_goals go_wp2
                    go_roundg k2
                    case measure => exact HN.out.1
                    case rel => exact ⟨i1, by first | rfl | (simp; done) | (simp [*]; done), ⟨HN.out.2⟩, ⟨(show So w (some ⟨db, 0, none⟩) l0.length d (ordl l0) _ from by repeat (first | exact HSu.out | apply So.alloc | apply So.drew | apply So.drewN))⟩⟩
                · have e3 : decide (v ≤ 2000) = false := decide_eq_false (by omega)
                  have HBU := Aside0.mk (fun (V : World) (A1 : Option Addr) (c1 : Nat) (hV : St w (some ⟨db, 0, none⟩) l0.length d (ordl l0) l0 A1 c1 V) => show Calls Try.prog 16 #[.slice A1 l0.length c1, .int .i64 (j : Int)] V fun e W' => e = .returned (.tuple #[.int .i64 v, .nilIface]) ∧ So w (some ⟨db, 0, none⟩) l0.length d (ordl l0) W' from hV.busy hkb)
                  clear hpl hpl2 hj hev hkb hv HPJ HB
                  as_aux_lemma =>
                    go_wp2_with (fail)
                    go_region_held3 (fun V : World => V.cell? ⟨db, p, none⟩ = some (.int .i64 (j : Int)) ∧ So w (some ⟨db, 0, none⟩) l0.length d (ordl l0) V) (exact ⟨by first | exact z1 | exact Z1, by repeat (first | exact HSu.out | apply So.drew | apply So.drewN)⟩) (first
                      | (go_at_call 12; refine (So.twin (show So w (some ⟨db, 0, none⟩) l0.length d (ordl l0) _ from by repeat (first | exact HSu.out | apply So.alloc | apply So.drew | apply So.drewN)) HR0.out HC0.out.1 HC0.out.2).mono ?_; rintro e w6 ⟨A1, c1, rfl, hh⟩; have Z1 := hh.1.at' HJ.out.1; rw [HJ.out.2.1] at Z1; have HT2 := Aside0.mk hh; have HS6 := Aside0.mk hh.1; clear hh; clear HSu; have HSu := HS6; clear HS6)
                      | (go_at_call 16; refine (HBU.out _ A1 c1 (show St w (some ⟨db, 0, none⟩) l0.length d (ordl l0) l0 A1 c1 _ from by repeat (first | exact HT2.out | apply St.drew | apply St.drewN))).mono ?_; rintro e w7 ⟨rfl, hh⟩; have Z1 := hh.at' HJ.out.1; rw [HJ.out.2.1] at Z1; have HS7 := Aside0.mk hh; clear hh; clear HSu; have HSu := HS7; clear HS7))
                    all_goals have hwp := hwp_.out
                    all_goals go_wp2
                    go_roundg k2
                    case measure => exact HN.out.1
                    case rel => exact ⟨i1, by first | rfl | (simp; done) | (simp [*]; done), ⟨HN.out.2⟩, ⟨(show So w (some ⟨db, 0, none⟩) l0.length d (ordl l0) _ from by repeat (first | exact HSu.out | apply So.alloc | apply So.drew | apply So.drewN))⟩⟩
        · have d1 : decide ((p : Int) < (l0.length : Int)) = false := decide_eq_false (by omega)
          have d1' : decide (p < l0.length) = false := decide_eq_false q1
          clear HI q1
          go_wp2_with (first
            | (go_at_call 20; refine (works_calls _).mono ?_; rintro e w5 ⟨rfl, hb⟩; have HF := Aside0.mk ((show So w D l0.length d (ordl l0) _ from by repeat (first | exact HS.out | apply So.drew | apply So.drewN)).below hb); clear hb)
            | go_in)
          go_ret
          exact ⟨rfl, HF.out.2⟩
  · rw [if_neg hv] at hko
    have hne : (vcode l0 != 0) = true := bne_iff_ne.2 hv
    have hne' : decide (vcode l0 ≠ 0) = true := decide_eq_true hv
    have hne2 : (vcode l0 == 0) = false := beq_eq_false_iff_ne.2 hv
    obtain ⟨vc, hvc⟩ : ∃ vc, vcode l0 = vc := ⟨_, rfl⟩
    rw [hvc] at hne hne' hne2 hVA hko
    have HOR := Aside0.mk (fun (V : World) (A1 : Option Addr) (c1 : Nat) (h1 : Kd.C k43 V A1 l0.length l0) (h2 : l0.length ≤ c1) (h3 : Below w.heap.size w V) => show Calls Try.prog 11 #[.slice A1 l0.length c1] V fun e W' => ∃ D d, e = .returned (.tuple #[.slice D 0 d, .iface 72 (.int .i64 vc)]) ∧ So w D 0 d [] W' from St.order h1 h2 h3 hko)
    clear hr0 hc0 hlen hkv hko hv hvc
    go_enter Try.func4, Try.ntmps4
    go_wp2_with (first
      | (go_at_call 12; refine HTW0.out.mono ?_; rintro e w1 ⟨v1, rfl, hr1, hb1⟩; obtain ⟨A1, c1, rfl⟩ := Kd.R_slice hr1; have HR1 := Aside0.mk (Kd.R_reads' hr1); have HB1 := Aside0.mk hb1; clear hr1 hb1)
      | (go_at_call 11; refine (HOR.out _ A1 c1 HR1.out.2.2 HR1.out.2.1 HB1.out).mono ?_; rintro e w2 ⟨D, d, rfl, hh⟩; have HS := Aside0.mk hh; clear hh)
      | (go_at_call 21; refine (hVA.out _ (show So w D 0 d [] _ from by repeat (first | exact HS.out | apply So.drew | apply So.drewN)).2).mono ?_; rintro e w3 ⟨rfl, hb⟩; have HS2 := Aside0.mk (HS.out.below hb); clear hb)
      | (go_at_call 20; refine (works_calls _).mono ?_; rintro e w5 ⟨rfl, hb⟩; have HF := Aside0.mk ((show So w D 0 d [] _ from by repeat (first | exact HS2.out | apply So.drew | apply So.drewN)).below hb); clear hb)
      | go_in)
    go_ret
    exact ⟨rfl, HF.out.2⟩
def tithelaw20_DemandSerial.f (l0 : List S43) (a1 : Int) : Option Bool := if l0.length < 4398046511104 then some true else none
theorem tithelaw20_DemandSerial.calls (A0 : Option Addr) (c0 : Nat) (l0 : List S43) (a1 : Int) (r : Bool) (w : World) (hr0 : Kd.C k43 w A0 l0.length l0) (hc0 : l0.length ≤ c0) (h : tithelaw20_DemandSerial.f l0 a1 = some r) :
    Calls Try.prog 4 #[.slice A0 l0.length c0, .int .i64 a1] w fun e w' => e = .returned (.bool r) ∧ Below w.heap.size w w' := by
  unfold tithelaw20_DemandSerial.f at h
  split at h
  · rename_i hc
    obtain rfl := Option.some.inj h
    exact serial A0 c0 l0 a1 w hr0 hc0 hc
  · cases h
end Go.Proofs.YtdonlmbhamcjdaaRRR.E
