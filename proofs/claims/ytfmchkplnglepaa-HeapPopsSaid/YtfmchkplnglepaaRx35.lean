/- Proved here: what the machine does at HeapPops: it answers true (a walk by hand, over the heap's contracts). Condition: the numbers are of their type. -/
import Derived.Test.YtfmchkplnglepaaHyRelI
import Derived.Test.YtfmchkplnglepaaRx0
import Derived.StillTailTactics
namespace Go.Proofs.Ytfmchkplnglepaa.R
open Go.RowKit Go.Proofs.YtfmchkplnglepaaW.PrintWords Go.Proofs.YtfmchkplnglepaaW.PrintLast Go.Proofs.YtfmchkplnglepaaW.PrintMore
open Go Go.Proofs.Ytfmchkplnglepaa.HpI
set_option linter.unusedVariables false
set_option linter.unusedSimpArgs false
attribute [local go_sem] max2_int min2_int max_two min_two max_three min_three max_four min_four   -- for this text's walks alone
set_option maxHeartbeats 16000000 in
set_option maxRecDepth 100000 in
theorem hpops (A0 : Option Addr) (c0 : Nat) (l0 : List S49) (w : World) (hr0 : Kd.C k49 w A0 l0.length l0) (hlen : l0.length ≤ 9223372036854775807) (hwf : ∀ e ∈ l0, -9223372036854775808 ≤ e.f1 ∧ e.f1 ≤ 9223372036854775807) :
    Calls Try.prog 5 #[.slice A0 l0.length c0] w fun e w' => e = .returned (.bool true) ∧ Below w.heap.size w w' := by
  have huP := Try.underlying46
  have huI := Try.underlying36
  have huO := Try.underlying49
  have huL := Try.underlying45
  have hu3 := Try.underlying3
  have HR0 := Aside0.mk hr0
  have HL0 := Aside0.mk hlen
  have HWF := Aside0.mk hwf
  clear hr0 hlen hwf
  go_enter Try.func5, Try.ntmps5
  go_wp2_with (first
    | (go_at_call 17; refine (tx_new (w := w) (Below.refl _ _)).mono ?_; rintro e w1 ⟨g, rfl, hh⟩; have HT := Aside0.mk hh; clear hh)
    | go_in)
  go_loopg [4, 5] (l0.length + 1) (fun kq v4 v5 w' => ∃ (i : Int) (L : List En), v4 = .int .i64 (L.length : Int) ∧ v5 = .int .i64 i ∧ Aside0 ((kq : Int) + i = l0.length + 1 ∧ 0 ≤ i ∧ i ≤ l0.length ∧ i ≤ 300 ∧ (L.length : Int) ≤ i) ∧ Aside0 (Tx w g L w'))
  case atStart => exact ⟨0, [], rfl, rfl, ⟨by omega, by omega, by omega, by omega, by simp⟩, ⟨by repeat (first | exact HT.out | apply Tx.drew | apply Tx.drewN)⟩⟩
  case round =>
    clear HT
    obtain ⟨i, L, rfl, rfl, HI, HT⟩ := hrel
    cases gk with
    | zero => exact absurd HI.out (by omega)
    | succ k2 =>
      by_cases q1 : i < (l0.length : Int) ∧ i < 300
      · have c1b : decide (i < (l0.length : Int)) = true := decide_eq_true q1.1
        have c2b : decide (i < 300) = true := decide_eq_true q1.2
        obtain ⟨ad, e, x0, x1, x2⟩ := at_T49 HR0.out i HI.out.2.1 q1.1
        cases e
        replace x1 := (HT.out.bel.cell (World.block_lt_of_cell? w _ x1)).trans x1
        replace x2 := (HT.out.bel.cell (World.block_lt_of_cell? w _ x2)).trans x2
        obtain ⟨op, hop⟩ : ∃ u, rd_T49 l0 i = u := ⟨_, rfl⟩
        have hmem : op ∈ l0 := by
          rw [← hop]
          have hil : i.toNat < l0.length := by have := HI.out; omega
          unfold rd_T49
          rw [List.getD_eq_getElem?_getD, List.getElem?_eq_getElem hil]
          exact List.getElem_mem hil
        have HY := Aside0.mk (HWF.out op hmem)
        rw [hop] at x1 x2
        obtain ⟨x, y, t⟩ := op
        clear hop hmem x0
        have p0 : (0 ≤ i) = True := eq_true HI.out.2.1
        have p1 : (i < (l0.length : Int)) = True := eq_true q1.1
        have HM := Aside0.mk (show k2 < k2 + 1 ∧ (k2 : Int) + (i + 1) = l0.length + 1 ∧ 0 ≤ i + 1 ∧ i + 1 ≤ l0.length ∧ i + 1 ≤ 300 ∧ L.length < 1000000 ∧ (L.length : Int) + 1 ≤ i + 1 from ⟨by omega, by have := HI.out; omega, by have := HI.out; omega, by omega, by omega, by have := HI.out; omega, by have := HI.out; omega⟩)
        have hw_ := Aside0.mk (show wrap64 (i + 1) = i + 1 by have := HI.out; unfold wrap64; omega)
        clear HI q1
        simp only at x1 x2 HY
        by_cases hin : y ∈ L.map (·.1)
        · have HIN := Aside0.mk hin
          clear hin
          go_upto_region 8 with (fail)
          go_wp2_with (fail)
          go_still_tail 11, (by kernel_rfl)
          change wpList _ _ _ _ _ wr.drew
          go_wp2_with (first
            | (go_at_call 18; (with_reducible refine (Tx.pushE (w := w) (g := g) (L := L) ?i1 y t ?i2 ?i3 ?i4).mono ?_); (case i1 => exact (show Tx w g L _ from by repeat (first | exact HT.out | apply Tx.drew | apply Tx.drewN))); (case i2 => exact HM.out.2.2.2.2.2.1); (case i3 => exact HY.out); (case i4 => exact HIN.out); rintro e w2 ⟨rfl, hh⟩; have HT2 := Aside0.mk hh; clear hh; have hw := hw_.out)
            | go_in)
          go_roundg k2
          case measure => exact HM.out.1
          case rel => exact ⟨i + 1, L, rfl, by first | rfl | (simp; done) | (simp [*]; done), ⟨HM.out.2.1, HM.out.2.2.1, HM.out.2.2.2.1, HM.out.2.2.2.2.1, Int.le_trans (Int.le_of_lt (Int.lt_succ _)) HM.out.2.2.2.2.2.2⟩, HT2⟩
        · have HIN := Aside0.mk hin
          obtain ⟨M, hM⟩ : ∃ M, ins (y, t) L = M := ⟨_, rfl⟩
          have hml : (M.length : Int) = (L.length : Int) + 1 := by rw [← hM, ins_len']; omega
          have HML := Aside0.mk (show (M.length : Int) ≤ i + 1 from by have := HM.out; omega)
          have hwn_ := Aside0.mk (show wrap64 ((L.length : Int) + 1) = (M.length : Int) by have := HM.out; rw [hml]; unfold wrap64; omega)
          have HPU := Aside0.mk (fun (V : World) (hV : Tx w g L V) => show Calls Try.prog 18 #[.pointer (some ⟨g, 0, none⟩), .int .i64 y, .int .i64 t] V fun e W' => e = .returned .nilIface ∧ Tx w g M W' from by rw [← hM]; exact hV.pushN y t HM.out.2.2.2.2.2.1 HY.out hin)
          clear hin hM hml
          go_upto_region 8 with (fail)
          go_wp2_with (fail)
          go_still_tail 11, (by kernel_rfl)
          change wpList _ _ _ _ _ wr.drew
          go_wp2_with (first
            | (go_at_call 18; refine (HPU.out _ (show Tx w g L _ from by repeat (first | exact HT.out | apply Tx.drew | apply Tx.drewN))).mono ?_; rintro e w2 ⟨rfl, hh⟩; have HT2 := Aside0.mk hh; clear hh; have hw := hw_.out; have hwn := hwn_.out)
            | go_in)
          go_roundg k2
          case measure => exact HM.out.1
          case rel => exact ⟨i + 1, M, by first | rfl | (simp; done) | (simp [*]; done), by first | rfl | (simp; done) | (simp [*]; done), ⟨HM.out.2.1, HM.out.2.2.1, HM.out.2.2.2.1, HM.out.2.2.2.2.1, HML.out⟩, HT2⟩
      · have HLE := Aside0.mk (show L.length ≤ 1000000 from by have := HI.out; omega)
        by_cases q2 : i < (l0.length : Int)
        · have c1b : decide (i < (l0.length : Int)) = true := decide_eq_true q2
          have c2b : decide (i < 300) = false := decide_eq_false (fun h => q1 ⟨q2, h⟩)
          clear HI q1 q2
          have HSR := Aside0.mk HT.out.1.srt
          go_wp2_with (first
            | (go_at_call 19; refine (Tx.all (show Tx w g L _ from by repeat (first | exact HT.out | apply Tx.drew | apply Tx.drewN))).mono ?_; rintro e w2 ⟨D, d, rfl, hh⟩; have HA0 := Aside0.mk hh; clear hh)
            | (go_at_call 20; refine (Ty.len HA0.out).mono ?_; rintro e w3 ⟨rfl, hW⟩; rw [hW]; clear hW)
            | go_in)
          obtain ⟨us, hus⟩ : ∃ us, L.map (·.1) = us := ⟨_, rfl⟩
          have HA := Aside0.mk (show Ty w g L D L.length d us _ from by rw [← hus]; exact HA0.out)
          have HUS := Aside0.mk hus
          clear hus HA0
          go_loopg [7, 8, 9] (L.length + 1) (fun kq v7 v8 v9 w' => ∃ (j : Nat) (li lk : Int) (M : List En), v7 = .int .i64 lk ∧ v8 = .int .i64 li ∧ v9 = .int .i64 (j : Int) ∧ Aside0 (kq + j = L.length + 1 ∧ j ≤ L.length) ∧ Aside0 (Zk L j li lk M) ∧ Aside0 (Ty w g M D L.length d us w'))
          case atStart => exact ⟨0, 0, 0, L, rfl, rfl, rfl, ⟨by omega, by omega⟩, ⟨zk_start L⟩, ⟨by repeat (first | exact HA.out | apply Ty.drew | apply Ty.drewN)⟩⟩
          case round =>
            clear HA
            obtain ⟨j, li, lk, M, rfl, rfl, rfl, HI, HZ, HT⟩ := hrel
            cases gk with
            | zero => exact absurd HI.out (by omega)
            | succ k3 =>
              by_cases q1 : j < L.length
              · have d1 : decide ((j : Int) < (L.length : Int)) = true := decide_eq_true (by omega)
                have d1' : decide (j < L.length) = true := decide_eq_true q1
                obtain ⟨xi, xk, r, rfl, hux, hz2, hord⟩ := zk_step HSR.out HZ.out q1
                rw [HUS.out] at hux
                have HUX := Aside0.mk hux
                have HZ2' := Aside0.mk hz2
                obtain ⟨j1, hj1⟩ : ∃ n, n = j + 1 := ⟨_, rfl⟩
                rw [← hj1] at HZ2'
                have HZ2 := HZ2'
                have HJ := Aside0.mk hj1
                have HNX := Aside0.mk (show k3 < k3 + 1 ∧ k3 + j1 = L.length + 1 ∧ j1 ≤ L.length from ⟨by omega, by have := HI.out; omega, by omega⟩)
                have HIN := Aside0.mk q1
                obtain ⟨db, e, _⟩ := HT.out.at_ q1
                subst e
                have HPO := Aside0.mk (fun (V : World) (hV : Ty w g ((xi, xk) :: r) (some ⟨db, 0, none⟩) L.length d us V) => show Calls Try.prog 21 #[.pointer (some ⟨g, 0, none⟩)] V fun e W' => e = .returned (.tuple #[.int .i64 xi, .int .i64 xk, .bool true]) ∧ Ty w g r (some ⟨db, 0, none⟩) L.length d us W' from hV.pop)
                have p0 : (0 ≤ (j : Int)) = True := eq_true (by omega)
                have p1 : ((j : Int) < (L.length : Int)) = True := eq_true (by omega)
                have p1' : (j < L.length) = True := eq_true q1
                have hw_ := Aside0.mk (show wrap64 ((j : Int) + 1) = (j1 : Int) by have h8 := HLE.out; unfold wrap64; omega)
                clear HZ hux hz2 HZ2' hj1
                by_cases hj : 0 < j
                · have g0 : decide (0 < (j : Int)) = true := decide_eq_true (by omega)
                  have g0' : decide (0 < j) = true := decide_eq_true hj
                  have ho := hord hj
                  clear hord hj q1 HI
                  by_cases hlt : lk < xk
                  · have g1 : decide (xk < lk) = false := decide_eq_false (by omega)
                    have g2 : (xk == lk) = false := beq_eq_false_iff_ne.2 (by omega)
                    have g2' : decide (xk = lk) = false := decide_eq_false (by omega)
                    clear ho hlt
                    have hw := hw_.out
                    go_wp2_with (first
                      | (go_at_call 21; refine (HPO.out _ (show Ty w g ((xi, xk) :: r) (some ⟨db, 0, none⟩) L.length d us _ from by repeat (first | exact HT.out | apply Ty.drew | apply Ty.drewN))).mono ?_; rintro e w4 ⟨rfl, hh⟩; obtain ⟨db2, e2, y0⟩ := hh.at_ HIN.out; obtain rfl : db = db2 := (by injection e2 with e2; injection e2); rw [HUX.out] at y0; clear e2; have HT2 := Aside0.mk hh; clear hh)
                      | go_in)
                    go_roundg k3
                    case measure => exact HNX.out.1
                    case rel => exact ⟨j1, xi, xk, r, by first | rfl | (simp; done) | (simp [*]; done), by first | rfl | (simp; done) | (simp [*]; done), by first | rfl | (simp; done) | (simp [*]; done) | (clear hw; have h9 := HJ.out; subst h9; rfl), ⟨HNX.out.2⟩, HZ2, HT2⟩
                  · have hee : xk = lk := by omega
                    have g1 : decide (xk < lk) = false := decide_eq_false (by omega)
                    have g2 : (xk == lk) = true := beq_iff_eq.2 hee
                    have g3 : decide (xi ≤ li) = false := decide_eq_false (by omega)
                    subst hee
                    clear ho hlt
                    have hw := hw_.out
                    go_wp2_with (first
                      | (go_at_call 21; refine (HPO.out _ (show Ty w g ((xi, xk) :: r) (some ⟨db, 0, none⟩) L.length d us _ from by repeat (first | exact HT.out | apply Ty.drew | apply Ty.drewN))).mono ?_; rintro e w4 ⟨rfl, hh⟩; obtain ⟨db2, e2, y0⟩ := hh.at_ HIN.out; obtain rfl : db = db2 := (by injection e2 with e2; injection e2); rw [HUX.out] at y0; clear e2; have HT2 := Aside0.mk hh; clear hh)
                      | go_in)
                    go_roundg k3
                    case measure => exact HNX.out.1
                    case rel => exact ⟨j1, xi, xk, r, by first | rfl | (simp; done) | (simp [*]; done), by first | rfl | (simp; done) | (simp [*]; done), by first | rfl | (simp; done) | (simp [*]; done) | (clear hw; have h9 := HJ.out; subst h9; rfl), ⟨HNX.out.2⟩, HZ2, HT2⟩
                · have hj0 : j = 0 := by omega
                  subst hj0
                  clear hord hj q1 HI
                  have hw := hw_.out
                  go_wp2_with (first
                    | (go_at_call 21; refine (HPO.out _ (show Ty w g ((xi, xk) :: r) (some ⟨db, 0, none⟩) L.length d us _ from by repeat (first | exact HT.out | apply Ty.drew | apply Ty.drewN))).mono ?_; rintro e w4 ⟨rfl, hh⟩; obtain ⟨db2, e2, y0⟩ := hh.at_ HIN.out; obtain rfl : db = db2 := (by injection e2 with e2; injection e2); rw [HUX.out] at y0; clear e2; have HT2 := Aside0.mk hh; clear hh)
                    | go_in)
                  go_roundg k3
                  case measure => exact HNX.out.1
                  case rel => exact ⟨j1, xi, xk, r, by first | rfl | (simp; done) | (simp [*]; done), by first | rfl | (simp; done) | (simp [*]; done), by first | rfl | (simp; done) | (simp [*]; done) | (clear hw; have h9 := HJ.out; subst h9; rfl), ⟨HNX.out.2⟩, HZ2, HT2⟩
              · have d1 : decide ((j : Int) < (L.length : Int)) = false := decide_eq_false (by omega)
                have d1' : decide (j < L.length) = false := decide_eq_false q1
                have hM := zk_end HZ.out q1
                subst hM
                clear HI q1 HZ
                go_wp2_with (first
                  | (go_at_call 21; refine (Ty.pop (show Ty w g [] D L.length d us _ from by repeat (first | exact HT.out | apply Ty.drew | apply Ty.drewN))).mono ?_; rintro e w4 ⟨rfl, hh⟩; have HT2 := Aside0.mk hh; clear hh; simp only [first3])
                  | (go_at_call 10; refine (sure5 _).mono ?_; rintro e w5 ⟨rfl, hb⟩; have HF := Aside0.mk ((show Ty w g ([] : List En).tail D L.length d us _ from by repeat (first | exact HT2.out | apply Ty.drew | apply Ty.drewN)).below hb); clear hb)
                  | go_in)
                go_ret
                exact ⟨rfl, HF.out.bel⟩
        · have c1b : decide (i < (l0.length : Int)) = false := decide_eq_false q2
          clear HI q1 q2
          have HSR := Aside0.mk HT.out.1.srt
          go_wp2_with (first
            | (go_at_call 19; refine (Tx.all (show Tx w g L _ from by repeat (first | exact HT.out | apply Tx.drew | apply Tx.drewN))).mono ?_; rintro e w2 ⟨D, d, rfl, hh⟩; have HA0 := Aside0.mk hh; clear hh)
            | (go_at_call 20; refine (Ty.len HA0.out).mono ?_; rintro e w3 ⟨rfl, hW⟩; rw [hW]; clear hW)
            | go_in)
          obtain ⟨us, hus⟩ : ∃ us, L.map (·.1) = us := ⟨_, rfl⟩
          have HA := Aside0.mk (show Ty w g L D L.length d us _ from by rw [← hus]; exact HA0.out)
          have HUS := Aside0.mk hus
          clear hus HA0
          go_loopg [7, 8, 9] (L.length + 1) (fun kq v7 v8 v9 w' => ∃ (j : Nat) (li lk : Int) (M : List En), v7 = .int .i64 lk ∧ v8 = .int .i64 li ∧ v9 = .int .i64 (j : Int) ∧ Aside0 (kq + j = L.length + 1 ∧ j ≤ L.length) ∧ Aside0 (Zk L j li lk M) ∧ Aside0 (Ty w g M D L.length d us w'))
          case atStart => exact ⟨0, 0, 0, L, rfl, rfl, rfl, ⟨by omega, by omega⟩, ⟨zk_start L⟩, ⟨by repeat (first | exact HA.out | apply Ty.drew | apply Ty.drewN)⟩⟩
          case round =>
            clear HA
            obtain ⟨j, li, lk, M, rfl, rfl, rfl, HI, HZ, HT⟩ := hrel
            cases gk with
            | zero => exact absurd HI.out (by omega)
            | succ k3 =>
              by_cases q1 : j < L.length
              · have d1 : decide ((j : Int) < (L.length : Int)) = true := decide_eq_true (by omega)
                have d1' : decide (j < L.length) = true := decide_eq_true q1
                obtain ⟨xi, xk, r, rfl, hux, hz2, hord⟩ := zk_step HSR.out HZ.out q1
                rw [HUS.out] at hux
                have HUX := Aside0.mk hux
                have HZ2' := Aside0.mk hz2
                obtain ⟨j1, hj1⟩ : ∃ n, n = j + 1 := ⟨_, rfl⟩
                rw [← hj1] at HZ2'
                have HZ2 := HZ2'
                have HJ := Aside0.mk hj1
                have HNX := Aside0.mk (show k3 < k3 + 1 ∧ k3 + j1 = L.length + 1 ∧ j1 ≤ L.length from ⟨by omega, by have := HI.out; omega, by omega⟩)
                have HIN := Aside0.mk q1
                obtain ⟨db, e, _⟩ := HT.out.at_ q1
                subst e
                have HPO := Aside0.mk (fun (V : World) (hV : Ty w g ((xi, xk) :: r) (some ⟨db, 0, none⟩) L.length d us V) => show Calls Try.prog 21 #[.pointer (some ⟨g, 0, none⟩)] V fun e W' => e = .returned (.tuple #[.int .i64 xi, .int .i64 xk, .bool true]) ∧ Ty w g r (some ⟨db, 0, none⟩) L.length d us W' from hV.pop)
                have p0 : (0 ≤ (j : Int)) = True := eq_true (by omega)
                have p1 : ((j : Int) < (L.length : Int)) = True := eq_true (by omega)
                have p1' : (j < L.length) = True := eq_true q1
                have hw_ := Aside0.mk (show wrap64 ((j : Int) + 1) = (j1 : Int) by have h8 := HLE.out; unfold wrap64; omega)
                clear HZ hux hz2 HZ2' hj1
                by_cases hj : 0 < j
                · have g0 : decide (0 < (j : Int)) = true := decide_eq_true (by omega)
                  have g0' : decide (0 < j) = true := decide_eq_true hj
                  have ho := hord hj
                  clear hord hj q1 HI
                  by_cases hlt : lk < xk
                  · have g1 : decide (xk < lk) = false := decide_eq_false (by omega)
                    have g2 : (xk == lk) = false := beq_eq_false_iff_ne.2 (by omega)
                    have g2' : decide (xk = lk) = false := decide_eq_false (by omega)
                    clear ho hlt
                    have hw := hw_.out
                    go_wp2_with (first
                      | (go_at_call 21; refine (HPO.out _ (show Ty w g ((xi, xk) :: r) (some ⟨db, 0, none⟩) L.length d us _ from by repeat (first | exact HT.out | apply Ty.drew | apply Ty.drewN))).mono ?_; rintro e w4 ⟨rfl, hh⟩; obtain ⟨db2, e2, y0⟩ := hh.at_ HIN.out; obtain rfl : db = db2 := (by injection e2 with e2; injection e2); rw [HUX.out] at y0; clear e2; have HT2 := Aside0.mk hh; clear hh)
                      | go_in)
                    go_roundg k3
                    case measure => exact HNX.out.1
                    case rel => exact ⟨j1, xi, xk, r, by first | rfl | (simp; done) | (simp [*]; done), by first | rfl | (simp; done) | (simp [*]; done), by first | rfl | (simp; done) | (simp [*]; done) | (clear hw; have h9 := HJ.out; subst h9; rfl), ⟨HNX.out.2⟩, HZ2, HT2⟩
                  · have hee : xk = lk := by omega
                    have g1 : decide (xk < lk) = false := decide_eq_false (by omega)
                    have g2 : (xk == lk) = true := beq_iff_eq.2 hee
                    have g3 : decide (xi ≤ li) = false := decide_eq_false (by omega)
                    subst hee
                    clear ho hlt
                    have hw := hw_.out
                    go_wp2_with (first
                      | (go_at_call 21; refine (HPO.out _ (show Ty w g ((xi, xk) :: r) (some ⟨db, 0, none⟩) L.length d us _ from by repeat (first | exact HT.out | apply Ty.drew | apply Ty.drewN))).mono ?_; rintro e w4 ⟨rfl, hh⟩; obtain ⟨db2, e2, y0⟩ := hh.at_ HIN.out; obtain rfl : db = db2 := (by injection e2 with e2; injection e2); rw [HUX.out] at y0; clear e2; have HT2 := Aside0.mk hh; clear hh)
                      | go_in)
                    go_roundg k3
                    case measure => exact HNX.out.1
                    case rel => exact ⟨j1, xi, xk, r, by first | rfl | (simp; done) | (simp [*]; done), by first | rfl | (simp; done) | (simp [*]; done), by first | rfl | (simp; done) | (simp [*]; done) | (clear hw; have h9 := HJ.out; subst h9; rfl), ⟨HNX.out.2⟩, HZ2, HT2⟩
                · have hj0 : j = 0 := by omega
                  subst hj0
                  clear hord hj q1 HI
                  have hw := hw_.out
                  go_wp2_with (first
                    | (go_at_call 21; refine (HPO.out _ (show Ty w g ((xi, xk) :: r) (some ⟨db, 0, none⟩) L.length d us _ from by repeat (first | exact HT.out | apply Ty.drew | apply Ty.drewN))).mono ?_; rintro e w4 ⟨rfl, hh⟩; obtain ⟨db2, e2, y0⟩ := hh.at_ HIN.out; obtain rfl : db = db2 := (by injection e2 with e2; injection e2); rw [HUX.out] at y0; clear e2; have HT2 := Aside0.mk hh; clear hh)
                    | go_in)
                  go_roundg k3
                  case measure => exact HNX.out.1
                  case rel => exact ⟨j1, xi, xk, r, by first | rfl | (simp; done) | (simp [*]; done), by first | rfl | (simp; done) | (simp [*]; done), by first | rfl | (simp; done) | (simp [*]; done) | (clear hw; have h9 := HJ.out; subst h9; rfl), ⟨HNX.out.2⟩, HZ2, HT2⟩
              · have d1 : decide ((j : Int) < (L.length : Int)) = false := decide_eq_false (by omega)
                have d1' : decide (j < L.length) = false := decide_eq_false q1
                have hM := zk_end HZ.out q1
                subst hM
                clear HI q1 HZ
                go_wp2_with (first
                  | (go_at_call 21; refine (Ty.pop (show Ty w g [] D L.length d us _ from by repeat (first | exact HT.out | apply Ty.drew | apply Ty.drewN))).mono ?_; rintro e w4 ⟨rfl, hh⟩; have HT2 := Aside0.mk hh; clear hh; simp only [first3])
                  | (go_at_call 10; refine (sure5 _).mono ?_; rintro e w5 ⟨rfl, hb⟩; have HF := Aside0.mk ((show Ty w g ([] : List En).tail D L.length d us _ from by repeat (first | exact HT2.out | apply Ty.drew | apply Ty.drewN)).below hb); clear hb)
                  | go_in)
                go_ret
                exact ⟨rfl, HF.out.bel⟩
def tithelaw05_HeapPops.f (l0 : List S49) : Option Bool := if l0.length ≤ 9223372036854775807 ∧ ∀ e ∈ l0, -9223372036854775808 ≤ e.f1 ∧ e.f1 ≤ 9223372036854775807 then some true else none
theorem tithelaw05_HeapPops.calls (A0 : Option Addr) (c0 : Nat) (l0 : List S49) (r : Bool) (w : World) (hr0 : Kd.C k49 w A0 l0.length l0) (hc0 : l0.length ≤ c0) (h : tithelaw05_HeapPops.f l0 = some r) :
    Calls Try.prog 5 #[.slice A0 l0.length c0] w fun e w' => e = .returned (.bool r) ∧ Below w.heap.size w w' := by
  unfold tithelaw05_HeapPops.f at h
  split at h
  · rename_i hc
    obtain rfl := Option.some.inj h
    exact hpops A0 c0 l0 w hr0 hc.1 hc.2
  · cases h
end Go.Proofs.Ytfmchkplnglepaa.R
