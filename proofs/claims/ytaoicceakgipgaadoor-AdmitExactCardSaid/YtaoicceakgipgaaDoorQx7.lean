/- Proved here: what the machine does at AdmitExact: it answers true (a walk by hand, over the contracts of the book's methods). No conditions. -/
import Derived.Test.YtaoicceakgipgaaDoorQx0
import Derived.Test.YtaoicceakgipgaaDoorQx2
import Derived.Test.YtaoicceakgipgaaDoorQx3
import Derived.Test.YtaoicceakgipgaaDoorQx4
import Derived.Test.YtaoicceakgipgaaDoorQx6
import Derived.Test.YtaoicceakgipgaaDoorAdmExact
namespace Go.Proofs.YtaoicceakgipgaaDoor.Q
open Go.RowKit Go.Proofs.YtaoicceakgipgaaDoorW.PrintWords Go.Proofs.YtaoicceakgipgaaDoorW.PrintLast Go.Proofs.YtaoicceakgipgaaDoorW.PrintMore
attribute [local go_sem] max2_int min2_int max_two min_two max_three min_three max_four min_four   -- for this text's walks alone
set_option linter.unusedVariables false
set_option linter.unusedSimpArgs false
namespace Ex
/-- a book at block g -/
def St (w : World) (g : Nat) (B : List S28) (W : World) : Prop := IsS61 w W g B ∧ Below w.heap.size w W
theorem St.drew {w : World} {g : Nat} {B : List S28} {W : World} (h : St w g B W) : St w g B W.drew := ⟨h.1, below_drew1 h.2⟩
theorem St.drewN {w : World} {g : Nat} {B : List S28} {W : World} (h : St w g B W) (n : Nat) : St w g B (W.drewN n) := ⟨h.1, pw_below_drewN h.2 n⟩
theorem St.alloc {w : World} {g : Nat} {B : List S28} {W : World} (h : St w g B W) (o : Obj) : St w g B (W.alloc o) := ⟨h.1.alloc o, below_alloc h.2 o⟩
theorem keep_cell {W W1 : World} {g : Nat} {p : Addr} {v : Value} (hk : KeepBut W W1 g none) (hne : p.block ≠ g) (h : W.cell? p = some v) : W1.cell? p = some v := by
  have hlt := World.block_lt_of_cell? W _ h
  have e := hk.2 p.block hlt hne (by simp)
  unfold World.cell? at h ⊢
  rw [e]; exact h
theorem al_cell {W : World} {o : Obj} {p : Addr} {v : Value} (h : W.cell? p = some v) : (W.alloc o).cell? p = some v := by
  have e : (W.alloc o).heap[p.block]? = W.heap[p.block]? := heap_alloc_old _ _ (World.block_lt_of_cell? W _ h)
  unfold World.cell? at h ⊢
  rw [e]; exact h
theorem al_new {W : World} {cs : Array Value} {t : TypeId} {j : Nat} : (W.alloc (.cells cs t)).cell? ⟨W.heap.size, j, none⟩ = cs[j]? := cell_of_row _ _ _ _ _ (0, 0) (heap_alloc_new W _)
theorem St.of {w : World} {g : Nat} {B : List S28} {W : World} {s c0 c1 c2 : Int} {d is : Bool} (h : St w g B W) (hO : bkOf B s = (c0, c1, c2, d, is, B)) :
    Calls Tryd.prog 10 #[.pointer (some ⟨g, 0, none⟩), .int .i64 s] W fun e W' => e = .returned (.tuple #[.agg #[.int .i64 c0, .int .i64 c1, .int .i64 c2, .bool d], .bool is]) ∧ St w g B W' ∧ KeepBut W W' g none := by
  refine (bk_Of.calls g B s c0 c1 c2 d is B w W h.1 h.2 (by unfold bk_Of.f; rw [hO])).mono ?_
  rintro e W' ⟨rfl, hi, hb, hk⟩
  exact ⟨rfl, ⟨hi, hb⟩, hk⟩
theorem St.sum {w : World} {g : Nat} {B : List S28} {W : World} {v : Int} (h : St w g B W) (hv : bkSum B = v) :
    Calls Tryd.prog 11 #[.pointer (some ⟨g, 0, none⟩)] W fun e W' => e = .returned (.int .i64 v) ∧ St w g B W' ∧ KeepBut W W' g none := by
  refine (bk_Sum.calls g B v B w W h.1 h.2 (by unfold bk_Sum.f; rw [hv])).mono ?_
  rintro e W' ⟨rfl, hi, hb, hk⟩
  exact ⟨rfl, ⟨hi, hb⟩, hk⟩
theorem St.free {w : World} {g : Nat} {B : List S28} {W : World} {v : Int} (h : St w g B W) (hv : bkSum B = v) :
    Calls Tryd.prog 17 #[.pointer (some ⟨g, 0, none⟩)] W fun e W' => e = .returned (.int .i64 (wrap64 (1048576 - v))) ∧ St w g B W' ∧ KeepBut W W' g none := by
  refine (admit_Book_Free.calls g B (wrap64 (1048576 - v)) B w W h.1 h.2 (by unfold admit_Book_Free.f bk_Sum.f; rw [hv]; rfl)).mono ?_
  rintro e W' ⟨rfl, hi, hb, hk⟩
  exact ⟨rfl, ⟨hi, hb⟩, hk⟩
theorem St.add {w : World} {g : Nat} {B B' : List S28} {W : World} {s x : Int} {r : Option Int} (h : St w g B W) (hB : bkAdd B s x = (r, B')) :
    Calls Tryd.prog 13 #[.pointer (some ⟨g, 0, none⟩), .int .i64 s, .int .i64 x] W fun e W' => e = .returned (errW r) ∧ St w g B' W' ∧ KeepBut W W' g none := by
  refine (bk_Add.calls g B s x r B' w W h.1 h.2 (by unfold bk_Add.f; rw [hB])).mono ?_
  rintro e W' ⟨rfl, hi, hb, hk⟩
  exact ⟨rfl, ⟨hi, hb⟩, hk⟩
theorem St.res {w : World} {g : Nat} {B B' : List S28} {W : World} {s x : Int} {r : Option Int} (h : St w g B W) (hB : bkResize B s x = (r, B')) :
    Calls Tryd.prog 14 #[.pointer (some ⟨g, 0, none⟩), .int .i64 s, .int .i64 x] W fun e W' => e = .returned (errW r) ∧ St w g B' W' ∧ KeepBut W W' g none := by
  refine (bk_Resize.calls g B s x r B' w W h.1 h.2 (by unfold bk_Resize.f; rw [hB])).mono ?_
  rintro e W' ⟨rfl, hi, hb, hk⟩
  exact ⟨rfl, ⟨hi, hb⟩, hk⟩
theorem St.die {w : World} {g : Nat} {B B' : List S28} {W : World} {s : Int} {r : Option Int} (h : St w g B W) (hB : bkDie B s = (r, B')) :
    Calls Tryd.prog 15 #[.pointer (some ⟨g, 0, none⟩), .int .i64 s] W fun e W' => e = .returned (errW r) ∧ St w g B' W' ∧ KeepBut W W' g none := by
  refine (bk_Die.calls g B s r B' w W h.1 h.2 (by unfold bk_Die.f; rw [hB])).mono ?_
  rintro e W' ⟨rfl, hi, hb, hk⟩
  exact ⟨rfl, ⟨hi, hb⟩, hk⟩
theorem St.cro {w : World} {g : Nat} {B B' : List S28} {W : World} {s x : Int} {r : Option Int} (h : St w g B W) (hB : bkCross B s = (x, r, B')) :
    Calls Tryd.prog 16 #[.pointer (some ⟨g, 0, none⟩), .int .i64 s] W fun e W' => e = .returned (.tuple #[.int .i64 x, errW r]) ∧ St w g B' W' ∧ KeepBut W W' g none := by
  refine (bk_Cross.calls g B s x r B' w W h.1 h.2 (by unfold bk_Cross.f; rw [hB])).mono ?_
  rintro e W' ⟨rfl, hi, hb, hk⟩
  exact ⟨rfl, ⟨hi, hb⟩, hk⟩
/-- a book that the loop has -/
def RmE (w : World) (g : Nat) (W : World) : Prop := ∃ B, Pure.Inv0 B ∧ St w g B W
theorem works_t : tithelaw08_works.f = some true := by kernel_rfl
set_option maxHeartbeats 16000000 in
set_option maxRecDepth 100000 in
theorem exact_calls (A0 : Option Addr) (c0 : Nat) (l0 : List S26) (w : World) (hr0 : Kd.C k26 w A0 l0.length l0) (hc0 : l0.length ≤ c0) (hG : GG w) (hlen : l0.length ≤ 9223372036854775807) :
    Calls Tryd.prog 3 #[.slice A0 l0.length c0] w fun e w' => e = .returned (.bool true) ∧ Below w.heap.size w w' := by
  have hu23 := Tryd.underlying23
  have hu26 := Tryd.underlying26
  have hu28 := Tryd.underlying28
  have hu34 := Tryd.underlying34
  have hu64 := Tryd.underlying64
  have HR0 := Aside0.mk hr0
  have HG := Aside0.mk hG
  have HL0 := Aside0.mk hlen
  clear hG hr0 hc0 hlen
  go_enter Tryd.func3, Tryd.ntmps3
  go_wp2_with (first | (go_at_call 9; refine (admit_New.calls bkNew w _ HG.out (Below.refl _ _) rfl).mono ?_; rintro e w1 ⟨g, rfl, hi, hb, hb2⟩; have HR := Aside0.mk (show RmE w g w1 from ⟨bkNew, Pure.inv0_new, hi, hb⟩); clear hi hb hb2))
  go_loopg [4] (l0.length + 1) (fun kq v4 w' => ∃ (i : Int), v4 = .int .i64 i ∧ Aside0 ((kq : Int) + i = l0.length + 1 ∧ 0 ≤ i ∧ i ≤ l0.length) ∧ Aside0 (RmE w g w'))
  case atStart => exact ⟨0, rfl, ⟨by omega⟩, HR⟩
  case round =>
    clear HR
    obtain ⟨i, rfl, HI, HR⟩ := hrel
    cases gk with
    | zero => exact absurd HI.out (by omega)
    | succ k2 =>
      by_cases c1 : i < (l0.length : Int)
      · have c1b : decide (i < (l0.length : Int)) = true := decide_eq_true c1
        have HM := Aside0.mk (show k2 < k2 + 1 ∧ (k2 : Int) + (i + 1) = l0.length + 1 ∧ 0 ≤ i + 1 ∧ i + 1 ≤ l0.length from ⟨by omega, by have := HI.out; omega, by have := HI.out; omega, by omega⟩)
        obtain ⟨ad, e, x0, x1, x2⟩ := at_T26 HR0.out i HI.out.2.1 c1
        cases e
        obtain ⟨B, hI, hS⟩ := HR.out
        replace x0 := (hS.2.cell (World.block_lt_of_cell? w _ x0)).trans x0
        replace x1 := (hS.2.cell (World.block_lt_of_cell? w _ x1)).trans x1
        replace x2 := (hS.2.cell (World.block_lt_of_cell? w _ x2)).trans x2
        have p0 : (0 ≤ i) = True := eq_true HI.out.2.1
        have p1 : (i < (l0.length : Int)) = True := eq_true c1
        have hw : wrap64 (i + 1) = i + 1 := by have := HI.out; have := HL0.out; unfold wrap64; omega
        have HNA := Aside0.mk (show wr.heap.size ≠ g from by have := hS.1.lt; omega)
        have HS := Aside0.mk hS
        have k8 := Pure.slot8 (rd_T26 l0 i).f1
        have k4 := Pure.kind4 (rd_T26 l0 i).f0
        have kS := Pure.share_in (rd_T26 l0 i).f2
        obtain ⟨SL, hSL⟩ : ∃ x, Int.tmod (wrap64 (Int.tmod (rd_T26 l0 i).f1 8 + 8)) 8 = x := ⟨_, rfl⟩
        obtain ⟨KD, hKD⟩ : ∃ x, Int.tmod (wrap64 (Int.tmod (rd_T26 l0 i).f0 4 + 4)) 4 = x := ⟨_, rfl⟩
        obtain ⟨SH, hSH⟩ : ∃ x, wrap64 (Int.tmod (wrap64 (Int.tmod (rd_T26 l0 i).f2 1048576 + 1048576)) 1048576 + 1) = x := ⟨_, rfl⟩
        rw [hSL] at k8
        rw [hKD] at k4
        rw [hSH] at kS
        have HSL := Aside0.mk k8
        have HKD := Aside0.mk k4
        have HSH := Aside0.mk kS
        obtain ⟨S0, hS0⟩ : ∃ x, bkSum B = x := ⟨_, rfl⟩
        have HS0 := Aside0.mk hS0
        clear HI c1 hS HR k8 k4 kS hS0
        rcases (show KD = 0 ∨ KD = 1 ∨ KD = 2 ∨ KD = 3 from by have := HKD.out; omega) with rfl | rfl | rfl | rfl
        · cases hA : bkAt B SL with
          | true =>
            have HOF := Aside0.mk (Pure.of_t hA)
            have HOP := Aside0.mk (Pure.e_add1 (n := SH) HSL.out.1 HSL.out.2 hA)
            have HIV := Aside0.mk (show Pure.Inv0 B from hI)
            obtain ⟨S2, hS2⟩ : ∃ x, bkSum B = x := ⟨_, rfl⟩
            have s2a : decide (1048576 < S2) = false := decide_eq_false (by have := Pure.sum_b HIV.out; omega)
            have s2b : decide (S2 < 0) = false := decide_eq_false (by have := Pure.sum_b HIV.out; omega)
            have HS2v := Aside0.mk hS2
            clear hI hA hS2
            as_aux_lemma =>
              go_wp2_with (first | (go_at_call 10; (with_reducible refine (St.of (B := B) (s := SL) (show St w g B _ from by repeat (first | exact HS.out | apply St.drew | apply St.drewN | apply St.alloc)) HOF.out).mono ?_); rintro e w2 ⟨rfl, hs, hk⟩; have ha0 : w2.cell? ⟨wr.heap.size, 0, none⟩ = some (.int .i64 (rd_T26 l0 i).f0) := keep_cell hk HNA.out (by simp); have hlA : wr.heap.size < w2.heap.size := World.block_lt_of_cell? w2 _ ha0; have HNC := Aside0.mk (show w2.heap.size ≠ g from by have := hs.1.lt; omega); have HS2 := Aside0.mk hs; clear hs; clear HS; have HS := HS2; clear HS2; clear hk) | (go_at_call 11; (with_reducible refine (St.sum (B := B) (v := S0) (show St w g B _ from by repeat (first | exact HS.out | apply St.drew | apply St.drewN | apply St.alloc)) HS0.out).mono ?_); rintro e w3 ⟨rfl, hs, hk⟩; have ha0 : w3.cell? ⟨wr.heap.size, 0, none⟩ = some (.int .i64 (rd_T26 l0 i).f0) := keep_cell hk HNA.out (al_cell ha0); have hc1 : w3.cell? ⟨w2.heap.size, 1, none⟩ = some (.int .i64 (bkGet B SL).f1) := keep_cell hk HNC.out (by exact al_new.trans rfl); have hc2 : w3.cell? ⟨w2.heap.size, 2, none⟩ = some (.int .i64 (bkGet B SL).f2) := keep_cell hk HNC.out (by exact al_new.trans rfl); have hc3 : w3.cell? ⟨w2.heap.size, 3, none⟩ = some (.bool (bkGet B SL).f3) := keep_cell hk HNC.out (by exact al_new.trans rfl); have HLC := Aside0.mk (show w2.heap.size < w3.heap.size from World.block_lt_of_cell? w3 _ hc1); have HS2 := Aside0.mk hs; clear hs; clear HS; have HS := HS2; clear HS2; clear hk) | (go_at_call 13; (with_reducible refine (St.add (B := B) (B' := B) (show St w g B _ from by repeat (first | exact HS.out | apply St.drew | apply St.drewN | apply St.alloc)) HOP.out).mono ?_); rintro e w4 ⟨rfl, hs, hk⟩; have HS2 := Aside0.mk hs; clear hs; clear HS; have HS := HS2; clear HS2; clear hk) | (go_at_call 12; refine (tithelaw08_num.calls (some 30) 30 _ rfl).mono ?_; rintro e w' ⟨rfl, nd2, rfl⟩) | (go_at_call 11; (with_reducible refine (St.sum (B := B) (v := S2) (show St w g B _ from by repeat (first | exact HS.out | apply St.drew | apply St.drewN | apply St.alloc)) HS2v.out).mono ?_); rintro e w7 ⟨rfl, hs, hk⟩; have HS2 := Aside0.mk hs; clear hs; clear HS; have HS := HS2; clear HS2; clear hk) | (go_at_call 17; (with_reducible refine (St.free (B := B) (v := S2) (show St w g B _ from by repeat (first | exact HS.out | apply St.drew | apply St.drewN | apply St.alloc)) HS2v.out).mono ?_); rintro e w8 ⟨rfl, hs, hk⟩; have HS2 := Aside0.mk hs; clear hs; clear HS; have HS := HS2; clear HS2; clear hk))
              all_goals go_roundg k2
              all_goals first | exact HM.out.1 | exact ⟨i + 1, by first | rfl | (simp; done) | (simp [*]; done), ⟨HM.out.2⟩, ⟨B, HIV.out, (by first | exact HS.out | (repeat (first | exact HS.out | apply St.drewN | apply St.alloc)))⟩⟩
          | false =>
            have HOF := Aside0.mk (Pure.of_f hA)
            by_cases ho : wrap64 (S0 + SH) > 1048576
            · have hob : decide (1048576 < wrap64 (S0 + SH)) = true := decide_eq_true ho
              have HOP := Aside0.mk (Pure.e_add2 HSL.out.1 HSL.out.2 HSH.out.1 HSH.out.2 hA (by rw [HS0.out]; exact ho))
              have HIV := Aside0.mk (show Pure.Inv0 B from hI)
              obtain ⟨S2, hS2⟩ : ∃ x, bkSum B = x := ⟨_, rfl⟩
              have s2a : decide (1048576 < S2) = false := decide_eq_false (by have := Pure.sum_b HIV.out; omega)
              have s2b : decide (S2 < 0) = false := decide_eq_false (by have := Pure.sum_b HIV.out; omega)
              have HS2v := Aside0.mk hS2
              clear hI hA hS2 ho
              as_aux_lemma =>
                go_wp2_with (first | (go_at_call 10; (with_reducible refine (St.of (B := B) (s := SL) (show St w g B _ from by repeat (first | exact HS.out | apply St.drew | apply St.drewN | apply St.alloc)) HOF.out).mono ?_); rintro e w2 ⟨rfl, hs, hk⟩; have ha0 : w2.cell? ⟨wr.heap.size, 0, none⟩ = some (.int .i64 (rd_T26 l0 i).f0) := keep_cell hk HNA.out (by simp); have hlA : wr.heap.size < w2.heap.size := World.block_lt_of_cell? w2 _ ha0; have HNC := Aside0.mk (show w2.heap.size ≠ g from by have := hs.1.lt; omega); have HS2 := Aside0.mk hs; clear hs; clear HS; have HS := HS2; clear HS2; clear hk) | (go_at_call 11; (with_reducible refine (St.sum (B := B) (v := S0) (show St w g B _ from by repeat (first | exact HS.out | apply St.drew | apply St.drewN | apply St.alloc)) HS0.out).mono ?_); rintro e w3 ⟨rfl, hs, hk⟩; have ha0 : w3.cell? ⟨wr.heap.size, 0, none⟩ = some (.int .i64 (rd_T26 l0 i).f0) := keep_cell hk HNA.out (al_cell ha0); have hc1 : w3.cell? ⟨w2.heap.size, 1, none⟩ = some (.int .i64 0) := keep_cell hk HNC.out (by exact al_new.trans rfl); have hc2 : w3.cell? ⟨w2.heap.size, 2, none⟩ = some (.int .i64 0) := keep_cell hk HNC.out (by exact al_new.trans rfl); have hc3 : w3.cell? ⟨w2.heap.size, 3, none⟩ = some (.bool false) := keep_cell hk HNC.out (by exact al_new.trans rfl); have HLC := Aside0.mk (show w2.heap.size < w3.heap.size from World.block_lt_of_cell? w3 _ hc1); have HS2 := Aside0.mk hs; clear hs; clear HS; have HS := HS2; clear HS2; clear hk) | (go_at_call 13; (with_reducible refine (St.add (B := B) (B' := B) (show St w g B _ from by repeat (first | exact HS.out | apply St.drew | apply St.drewN | apply St.alloc)) HOP.out).mono ?_); rintro e w4 ⟨rfl, hs, hk⟩; have HS2 := Aside0.mk hs; clear hs; clear HS; have HS := HS2; clear HS2; clear hk) | (go_at_call 12; refine (tithelaw08_num.calls (some 80) 80 _ rfl).mono ?_; rintro e w' ⟨rfl, nd2, rfl⟩) | (go_at_call 11; (with_reducible refine (St.sum (B := B) (v := S2) (show St w g B _ from by repeat (first | exact HS.out | apply St.drew | apply St.drewN | apply St.alloc)) HS2v.out).mono ?_); rintro e w7 ⟨rfl, hs, hk⟩; have HS2 := Aside0.mk hs; clear hs; clear HS; have HS := HS2; clear HS2; clear hk) | (go_at_call 17; (with_reducible refine (St.free (B := B) (v := S2) (show St w g B _ from by repeat (first | exact HS.out | apply St.drew | apply St.drewN | apply St.alloc)) HS2v.out).mono ?_); rintro e w8 ⟨rfl, hs, hk⟩; have HS2 := Aside0.mk hs; clear hs; clear HS; have HS := HS2; clear HS2; clear hk))
                all_goals go_roundg k2
                all_goals first | exact HM.out.1 | exact ⟨i + 1, by first | rfl | (simp; done) | (simp [*]; done), ⟨HM.out.2⟩, ⟨B, HIV.out, (by first | exact HS.out | (repeat (first | exact HS.out | apply St.drewN | apply St.alloc)))⟩⟩
            · have hob : decide (1048576 < wrap64 (S0 + SH)) = false := decide_eq_false ho
              obtain ⟨B1, hB1, hI1⟩ := Pure.e_add3 hI HSL.out.1 HSL.out.2 HSH.out.1 HSH.out.2 hA (by rw [HS0.out]; exact ho)
              have HOP := Aside0.mk hB1
              clear hB1
              have HIV := Aside0.mk (show Pure.Inv0 B1 from hI1)
              obtain ⟨S2, hS2⟩ : ∃ x, bkSum B1 = x := ⟨_, rfl⟩
              have s2a : decide (1048576 < S2) = false := decide_eq_false (by have := Pure.sum_b HIV.out; omega)
              have s2b : decide (S2 < 0) = false := decide_eq_false (by have := Pure.sum_b HIV.out; omega)
              have HS2v := Aside0.mk hS2
              clear hI hA hS2 ho hI1
              as_aux_lemma =>
                go_wp2_with (first | (go_at_call 10; (with_reducible refine (St.of (B := B) (s := SL) (show St w g B _ from by repeat (first | exact HS.out | apply St.drew | apply St.drewN | apply St.alloc)) HOF.out).mono ?_); rintro e w2 ⟨rfl, hs, hk⟩; have ha0 : w2.cell? ⟨wr.heap.size, 0, none⟩ = some (.int .i64 (rd_T26 l0 i).f0) := keep_cell hk HNA.out (by simp); have hlA : wr.heap.size < w2.heap.size := World.block_lt_of_cell? w2 _ ha0; have HNC := Aside0.mk (show w2.heap.size ≠ g from by have := hs.1.lt; omega); have HS2 := Aside0.mk hs; clear hs; clear HS; have HS := HS2; clear HS2; clear hk) | (go_at_call 11; (with_reducible refine (St.sum (B := B) (v := S0) (show St w g B _ from by repeat (first | exact HS.out | apply St.drew | apply St.drewN | apply St.alloc)) HS0.out).mono ?_); rintro e w3 ⟨rfl, hs, hk⟩; have ha0 : w3.cell? ⟨wr.heap.size, 0, none⟩ = some (.int .i64 (rd_T26 l0 i).f0) := keep_cell hk HNA.out (al_cell ha0); have hc1 : w3.cell? ⟨w2.heap.size, 1, none⟩ = some (.int .i64 0) := keep_cell hk HNC.out (by exact al_new.trans rfl); have hc2 : w3.cell? ⟨w2.heap.size, 2, none⟩ = some (.int .i64 0) := keep_cell hk HNC.out (by exact al_new.trans rfl); have hc3 : w3.cell? ⟨w2.heap.size, 3, none⟩ = some (.bool false) := keep_cell hk HNC.out (by exact al_new.trans rfl); have HLC := Aside0.mk (show w2.heap.size < w3.heap.size from World.block_lt_of_cell? w3 _ hc1); have HS2 := Aside0.mk hs; clear hs; clear HS; have HS := HS2; clear HS2; clear hk) | (go_at_call 13; (with_reducible refine (St.add (B := B) (B' := B1) (show St w g B _ from by repeat (first | exact HS.out | apply St.drew | apply St.drewN | apply St.alloc)) HOP.out).mono ?_); rintro e w4 ⟨rfl, hs, hk⟩; have HS2 := Aside0.mk hs; clear hs; clear HS; have HS := HS2; clear HS2; clear hk) | (go_at_call 12; refine (tithelaw08_num.calls none 0 _ rfl).mono ?_; rintro e w' ⟨rfl, nd2, rfl⟩) | (go_at_call 11; (with_reducible refine (St.sum (B := B1) (v := S2) (show St w g B1 _ from by repeat (first | exact HS.out | apply St.drew | apply St.drewN | apply St.alloc)) HS2v.out).mono ?_); rintro e w7 ⟨rfl, hs, hk⟩; have HS2 := Aside0.mk hs; clear hs; clear HS; have HS := HS2; clear HS2; clear hk) | (go_at_call 17; (with_reducible refine (St.free (B := B1) (v := S2) (show St w g B1 _ from by repeat (first | exact HS.out | apply St.drew | apply St.drewN | apply St.alloc)) HS2v.out).mono ?_); rintro e w8 ⟨rfl, hs, hk⟩; have HS2 := Aside0.mk hs; clear hs; clear HS; have HS := HS2; clear HS2; clear hk))
                all_goals go_roundg k2
                all_goals first | exact HM.out.1 | exact ⟨i + 1, by first | rfl | (simp; done) | (simp [*]; done), ⟨HM.out.2⟩, ⟨B1, HIV.out, (by first | exact HS.out | (repeat (first | exact HS.out | apply St.drewN | apply St.alloc)))⟩⟩
        · cases hA : bkAt B SL with
          | false =>
            have HOF := Aside0.mk (Pure.of_f hA)
            have HOP := Aside0.mk (Pure.e_res1 (n := SH) hA)
            have HIV := Aside0.mk (show Pure.Inv0 B from hI)
            obtain ⟨S2, hS2⟩ : ∃ x, bkSum B = x := ⟨_, rfl⟩
            have s2a : decide (1048576 < S2) = false := decide_eq_false (by have := Pure.sum_b HIV.out; omega)
            have s2b : decide (S2 < 0) = false := decide_eq_false (by have := Pure.sum_b HIV.out; omega)
            have HS2v := Aside0.mk hS2
            clear hI hA hS2
            as_aux_lemma =>
              go_wp2_with (first | (go_at_call 10; (with_reducible refine (St.of (B := B) (s := SL) (show St w g B _ from by repeat (first | exact HS.out | apply St.drew | apply St.drewN | apply St.alloc)) HOF.out).mono ?_); rintro e w2 ⟨rfl, hs, hk⟩; have ha0 : w2.cell? ⟨wr.heap.size, 0, none⟩ = some (.int .i64 (rd_T26 l0 i).f0) := keep_cell hk HNA.out (by simp); have hlA : wr.heap.size < w2.heap.size := World.block_lt_of_cell? w2 _ ha0; have HNC := Aside0.mk (show w2.heap.size ≠ g from by have := hs.1.lt; omega); have HS2 := Aside0.mk hs; clear hs; clear HS; have HS := HS2; clear HS2; clear hk) | (go_at_call 11; (with_reducible refine (St.sum (B := B) (v := S0) (show St w g B _ from by repeat (first | exact HS.out | apply St.drew | apply St.drewN | apply St.alloc)) HS0.out).mono ?_); rintro e w3 ⟨rfl, hs, hk⟩; have ha0 : w3.cell? ⟨wr.heap.size, 0, none⟩ = some (.int .i64 (rd_T26 l0 i).f0) := keep_cell hk HNA.out (al_cell ha0); have hc1 : w3.cell? ⟨w2.heap.size, 1, none⟩ = some (.int .i64 0) := keep_cell hk HNC.out (by exact al_new.trans rfl); have hc2 : w3.cell? ⟨w2.heap.size, 2, none⟩ = some (.int .i64 0) := keep_cell hk HNC.out (by exact al_new.trans rfl); have hc3 : w3.cell? ⟨w2.heap.size, 3, none⟩ = some (.bool false) := keep_cell hk HNC.out (by exact al_new.trans rfl); have HLC := Aside0.mk (show w2.heap.size < w3.heap.size from World.block_lt_of_cell? w3 _ hc1); have HS2 := Aside0.mk hs; clear hs; clear HS; have HS := HS2; clear HS2; clear hk) | (go_at_call 14; (with_reducible refine (St.res (B := B) (B' := B) (show St w g B _ from by repeat (first | exact HS.out | apply St.drew | apply St.drewN | apply St.alloc)) HOP.out).mono ?_); rintro e w4 ⟨rfl, hs, hk⟩; have hc1 : w4.cell? ⟨w2.heap.size, 1, none⟩ = some (.int .i64 0) := keep_cell hk HNC.out (by first | assumption | exact al_cell (by assumption)); have hc2 : w4.cell? ⟨w2.heap.size, 2, none⟩ = some (.int .i64 0) := keep_cell hk HNC.out (by first | assumption | exact al_cell (by assumption)); have hc3 : w4.cell? ⟨w2.heap.size, 3, none⟩ = some (.bool false) := keep_cell hk HNC.out (by first | assumption | exact al_cell (by assumption)); have HS2 := Aside0.mk hs; clear hs; clear HS; have HS := HS2; clear HS2; clear hk) | (go_at_call 12; refine (tithelaw08_num.calls (some 20) 20 _ rfl).mono ?_; rintro e w' ⟨rfl, nd2, rfl⟩) | (go_at_call 11; (with_reducible refine (St.sum (B := B) (v := S2) (show St w g B _ from by repeat (first | exact HS.out | apply St.drew | apply St.drewN | apply St.alloc)) HS2v.out).mono ?_); rintro e w7 ⟨rfl, hs, hk⟩; have HS2 := Aside0.mk hs; clear hs; clear HS; have HS := HS2; clear HS2; clear hk) | (go_at_call 17; (with_reducible refine (St.free (B := B) (v := S2) (show St w g B _ from by repeat (first | exact HS.out | apply St.drew | apply St.drewN | apply St.alloc)) HS2v.out).mono ?_); rintro e w8 ⟨rfl, hs, hk⟩; have HS2 := Aside0.mk hs; clear hs; clear HS; have HS := HS2; clear HS2; clear hk))
              all_goals go_roundg k2
              all_goals first | exact HM.out.1 | exact ⟨i + 1, by first | rfl | (simp; done) | (simp [*]; done), ⟨HM.out.2⟩, ⟨B, HIV.out, (by first | exact HS.out | (repeat (first | exact HS.out | apply St.drewN | apply St.alloc)))⟩⟩
          | true =>
            have HOF := Aside0.mk (Pure.of_t hA)
            cases hd : (bkGet B SL).f3 with
            | true =>
              rw [hd] at HOF
              have HOP := Aside0.mk (Pure.e_res2 (n := SH) hA hd)
              have HIV := Aside0.mk (show Pure.Inv0 B from hI)
              obtain ⟨S2, hS2⟩ : ∃ x, bkSum B = x := ⟨_, rfl⟩
              have s2a : decide (1048576 < S2) = false := decide_eq_false (by have := Pure.sum_b HIV.out; omega)
              have s2b : decide (S2 < 0) = false := decide_eq_false (by have := Pure.sum_b HIV.out; omega)
              have HS2v := Aside0.mk hS2
              clear hI hA hS2 hd
              as_aux_lemma =>
                go_wp2_with (first | (go_at_call 10; (with_reducible refine (St.of (B := B) (s := SL) (show St w g B _ from by repeat (first | exact HS.out | apply St.drew | apply St.drewN | apply St.alloc)) HOF.out).mono ?_); rintro e w2 ⟨rfl, hs, hk⟩; have ha0 : w2.cell? ⟨wr.heap.size, 0, none⟩ = some (.int .i64 (rd_T26 l0 i).f0) := keep_cell hk HNA.out (by simp); have hlA : wr.heap.size < w2.heap.size := World.block_lt_of_cell? w2 _ ha0; have HNC := Aside0.mk (show w2.heap.size ≠ g from by have := hs.1.lt; omega); have HS2 := Aside0.mk hs; clear hs; clear HS; have HS := HS2; clear HS2; clear hk) | (go_at_call 11; (with_reducible refine (St.sum (B := B) (v := S0) (show St w g B _ from by repeat (first | exact HS.out | apply St.drew | apply St.drewN | apply St.alloc)) HS0.out).mono ?_); rintro e w3 ⟨rfl, hs, hk⟩; have ha0 : w3.cell? ⟨wr.heap.size, 0, none⟩ = some (.int .i64 (rd_T26 l0 i).f0) := keep_cell hk HNA.out (al_cell ha0); have hc1 : w3.cell? ⟨w2.heap.size, 1, none⟩ = some (.int .i64 (bkGet B SL).f1) := keep_cell hk HNC.out (by exact al_new.trans rfl); have hc2 : w3.cell? ⟨w2.heap.size, 2, none⟩ = some (.int .i64 (bkGet B SL).f2) := keep_cell hk HNC.out (by exact al_new.trans rfl); have hc3 : w3.cell? ⟨w2.heap.size, 3, none⟩ = some (.bool true) := keep_cell hk HNC.out (by exact al_new.trans rfl); have HLC := Aside0.mk (show w2.heap.size < w3.heap.size from World.block_lt_of_cell? w3 _ hc1); have HS2 := Aside0.mk hs; clear hs; clear HS; have HS := HS2; clear HS2; clear hk) | (go_at_call 14; (with_reducible refine (St.res (B := B) (B' := B) (show St w g B _ from by repeat (first | exact HS.out | apply St.drew | apply St.drewN | apply St.alloc)) HOP.out).mono ?_); rintro e w4 ⟨rfl, hs, hk⟩; have hc1 : w4.cell? ⟨w2.heap.size, 1, none⟩ = some (.int .i64 (bkGet B SL).f1) := keep_cell hk HNC.out (by first | assumption | exact al_cell (by assumption)); have hc2 : w4.cell? ⟨w2.heap.size, 2, none⟩ = some (.int .i64 (bkGet B SL).f2) := keep_cell hk HNC.out (by first | assumption | exact al_cell (by assumption)); have hc3 : w4.cell? ⟨w2.heap.size, 3, none⟩ = some (.bool true) := keep_cell hk HNC.out (by first | assumption | exact al_cell (by assumption)); have HS2 := Aside0.mk hs; clear hs; clear HS; have HS := HS2; clear HS2; clear hk) | (go_at_call 12; refine (tithelaw08_num.calls (some 92) 92 _ rfl).mono ?_; rintro e w' ⟨rfl, nd2, rfl⟩) | (go_at_call 11; (with_reducible refine (St.sum (B := B) (v := S2) (show St w g B _ from by repeat (first | exact HS.out | apply St.drew | apply St.drewN | apply St.alloc)) HS2v.out).mono ?_); rintro e w7 ⟨rfl, hs, hk⟩; have HS2 := Aside0.mk hs; clear hs; clear HS; have HS := HS2; clear HS2; clear hk) | (go_at_call 17; (with_reducible refine (St.free (B := B) (v := S2) (show St w g B _ from by repeat (first | exact HS.out | apply St.drew | apply St.drewN | apply St.alloc)) HS2v.out).mono ?_); rintro e w8 ⟨rfl, hs, hk⟩; have HS2 := Aside0.mk hs; clear hs; clear HS; have HS := HS2; clear HS2; clear hk))
                all_goals go_roundg k2
                all_goals first | exact HM.out.1 | exact ⟨i + 1, by first | rfl | (simp; done) | (simp [*]; done), ⟨HM.out.2⟩, ⟨B, HIV.out, (by first | exact HS.out | (repeat (first | exact HS.out | apply St.drewN | apply St.alloc)))⟩⟩
            | false =>
              rw [hd] at HOF
              obtain ⟨M1, hM1⟩ : ∃ x, mx (bkGet B SL).f1 (bkGet B SL).f2 = x := ⟨_, rfl⟩
              obtain ⟨M2, hM2⟩ : ∃ x, mx (bkGet B SL).f1 SH = x := ⟨_, rfl⟩
              have hm1 : (if (bkGet B SL).f1 < (bkGet B SL).f2 then (bkGet B SL).f2 else (bkGet B SL).f1) = M1 := hM1
              have hm2 : (if (bkGet B SL).f1 < SH then SH else (bkGet B SL).f1) = M2 := hM2
              by_cases ho : wrap64 (wrap64 (S0 - M1) + M2) > 1048576
              · have hob : decide (1048576 < wrap64 (wrap64 (S0 - M1) + M2)) = true := decide_eq_true ho
                have HOP := Aside0.mk (Pure.e_res3 (n := SH) HSH.out.1 HSH.out.2 hA hd (by rw [HS0.out, hM1, hM2]; exact ho))
                have HIV := Aside0.mk (show Pure.Inv0 B from hI)
                obtain ⟨S2, hS2⟩ : ∃ x, bkSum B = x := ⟨_, rfl⟩
                have s2a : decide (1048576 < S2) = false := decide_eq_false (by have := Pure.sum_b HIV.out; omega)
                have s2b : decide (S2 < 0) = false := decide_eq_false (by have := Pure.sum_b HIV.out; omega)
                have HS2v := Aside0.mk hS2
                clear hI hA hS2 hd ho hM1 hM2
                as_aux_lemma =>
                  go_wp2_with (first | (go_at_call 10; (with_reducible refine (St.of (B := B) (s := SL) (show St w g B _ from by repeat (first | exact HS.out | apply St.drew | apply St.drewN | apply St.alloc)) HOF.out).mono ?_); rintro e w2 ⟨rfl, hs, hk⟩; have ha0 : w2.cell? ⟨wr.heap.size, 0, none⟩ = some (.int .i64 (rd_T26 l0 i).f0) := keep_cell hk HNA.out (by simp); have hlA : wr.heap.size < w2.heap.size := World.block_lt_of_cell? w2 _ ha0; have HNC := Aside0.mk (show w2.heap.size ≠ g from by have := hs.1.lt; omega); have HS2 := Aside0.mk hs; clear hs; clear HS; have HS := HS2; clear HS2; clear hk) | (go_at_call 11; (with_reducible refine (St.sum (B := B) (v := S0) (show St w g B _ from by repeat (first | exact HS.out | apply St.drew | apply St.drewN | apply St.alloc)) HS0.out).mono ?_); rintro e w3 ⟨rfl, hs, hk⟩; have ha0 : w3.cell? ⟨wr.heap.size, 0, none⟩ = some (.int .i64 (rd_T26 l0 i).f0) := keep_cell hk HNA.out (al_cell ha0); have hc1 : w3.cell? ⟨w2.heap.size, 1, none⟩ = some (.int .i64 (bkGet B SL).f1) := keep_cell hk HNC.out (by exact al_new.trans rfl); have hc2 : w3.cell? ⟨w2.heap.size, 2, none⟩ = some (.int .i64 (bkGet B SL).f2) := keep_cell hk HNC.out (by exact al_new.trans rfl); have hc3 : w3.cell? ⟨w2.heap.size, 3, none⟩ = some (.bool false) := keep_cell hk HNC.out (by exact al_new.trans rfl); have HLC := Aside0.mk (show w2.heap.size < w3.heap.size from World.block_lt_of_cell? w3 _ hc1); have HS2 := Aside0.mk hs; clear hs; clear HS; have HS := HS2; clear HS2; clear hk) | (go_at_call 14; (with_reducible refine (St.res (B := B) (B' := B) (show St w g B _ from by repeat (first | exact HS.out | apply St.drew | apply St.drewN | apply St.alloc)) HOP.out).mono ?_); rintro e w4 ⟨rfl, hs, hk⟩; have hc1 : w4.cell? ⟨w2.heap.size, 1, none⟩ = some (.int .i64 (bkGet B SL).f1) := keep_cell hk HNC.out (by first | assumption | exact al_cell (by assumption)); have hc2 : w4.cell? ⟨w2.heap.size, 2, none⟩ = some (.int .i64 (bkGet B SL).f2) := keep_cell hk HNC.out (by first | assumption | exact al_cell (by assumption)); have hc3 : w4.cell? ⟨w2.heap.size, 3, none⟩ = some (.bool false) := keep_cell hk HNC.out (by first | assumption | exact al_cell (by assumption)); have HS2 := Aside0.mk hs; clear hs; clear HS; have HS := HS2; clear HS2; clear hk) | (go_at_call 12; refine (tithelaw08_num.calls (some 80) 80 _ rfl).mono ?_; rintro e w' ⟨rfl, nd2, rfl⟩) | (go_at_call 11; (with_reducible refine (St.sum (B := B) (v := S2) (show St w g B _ from by repeat (first | exact HS.out | apply St.drew | apply St.drewN | apply St.alloc)) HS2v.out).mono ?_); rintro e w7 ⟨rfl, hs, hk⟩; have HS2 := Aside0.mk hs; clear hs; clear HS; have HS := HS2; clear HS2; clear hk) | (go_at_call 17; (with_reducible refine (St.free (B := B) (v := S2) (show St w g B _ from by repeat (first | exact HS.out | apply St.drew | apply St.drewN | apply St.alloc)) HS2v.out).mono ?_); rintro e w8 ⟨rfl, hs, hk⟩; have HS2 := Aside0.mk hs; clear hs; clear HS; have HS := HS2; clear HS2; clear hk))
                  all_goals go_roundg k2
                  all_goals first | exact HM.out.1 | exact ⟨i + 1, by first | rfl | (simp; done) | (simp [*]; done), ⟨HM.out.2⟩, ⟨B, HIV.out, (by first | exact HS.out | (repeat (first | exact HS.out | apply St.drewN | apply St.alloc)))⟩⟩
              · have hob : decide (1048576 < wrap64 (wrap64 (S0 - M1) + M2)) = false := decide_eq_false ho
                obtain ⟨B1, hB1, hI1⟩ := Pure.e_res4 (n := SH) hI HSH.out.1 HSH.out.2 hA hd (by rw [HS0.out, hM1, hM2]; exact ho)
                have HOP := Aside0.mk hB1
                clear hB1
                have HIV := Aside0.mk (show Pure.Inv0 B1 from hI1)
                obtain ⟨S2, hS2⟩ : ∃ x, bkSum B1 = x := ⟨_, rfl⟩
                have s2a : decide (1048576 < S2) = false := decide_eq_false (by have := Pure.sum_b HIV.out; omega)
                have s2b : decide (S2 < 0) = false := decide_eq_false (by have := Pure.sum_b HIV.out; omega)
                have HS2v := Aside0.mk hS2
                clear hI hA hS2 hd ho hM1 hM2 hI1
                as_aux_lemma =>
                  go_wp2_with (first | (go_at_call 10; (with_reducible refine (St.of (B := B) (s := SL) (show St w g B _ from by repeat (first | exact HS.out | apply St.drew | apply St.drewN | apply St.alloc)) HOF.out).mono ?_); rintro e w2 ⟨rfl, hs, hk⟩; have ha0 : w2.cell? ⟨wr.heap.size, 0, none⟩ = some (.int .i64 (rd_T26 l0 i).f0) := keep_cell hk HNA.out (by simp); have hlA : wr.heap.size < w2.heap.size := World.block_lt_of_cell? w2 _ ha0; have HNC := Aside0.mk (show w2.heap.size ≠ g from by have := hs.1.lt; omega); have HS2 := Aside0.mk hs; clear hs; clear HS; have HS := HS2; clear HS2; clear hk) | (go_at_call 11; (with_reducible refine (St.sum (B := B) (v := S0) (show St w g B _ from by repeat (first | exact HS.out | apply St.drew | apply St.drewN | apply St.alloc)) HS0.out).mono ?_); rintro e w3 ⟨rfl, hs, hk⟩; have ha0 : w3.cell? ⟨wr.heap.size, 0, none⟩ = some (.int .i64 (rd_T26 l0 i).f0) := keep_cell hk HNA.out (al_cell ha0); have hc1 : w3.cell? ⟨w2.heap.size, 1, none⟩ = some (.int .i64 (bkGet B SL).f1) := keep_cell hk HNC.out (by exact al_new.trans rfl); have hc2 : w3.cell? ⟨w2.heap.size, 2, none⟩ = some (.int .i64 (bkGet B SL).f2) := keep_cell hk HNC.out (by exact al_new.trans rfl); have hc3 : w3.cell? ⟨w2.heap.size, 3, none⟩ = some (.bool false) := keep_cell hk HNC.out (by exact al_new.trans rfl); have HLC := Aside0.mk (show w2.heap.size < w3.heap.size from World.block_lt_of_cell? w3 _ hc1); have HS2 := Aside0.mk hs; clear hs; clear HS; have HS := HS2; clear HS2; clear hk) | (go_at_call 14; (with_reducible refine (St.res (B := B) (B' := B1) (show St w g B _ from by repeat (first | exact HS.out | apply St.drew | apply St.drewN | apply St.alloc)) HOP.out).mono ?_); rintro e w4 ⟨rfl, hs, hk⟩; have hc1 : w4.cell? ⟨w2.heap.size, 1, none⟩ = some (.int .i64 (bkGet B SL).f1) := keep_cell hk HNC.out (by first | assumption | exact al_cell (by assumption)); have hc2 : w4.cell? ⟨w2.heap.size, 2, none⟩ = some (.int .i64 (bkGet B SL).f2) := keep_cell hk HNC.out (by first | assumption | exact al_cell (by assumption)); have hc3 : w4.cell? ⟨w2.heap.size, 3, none⟩ = some (.bool false) := keep_cell hk HNC.out (by first | assumption | exact al_cell (by assumption)); have HS2 := Aside0.mk hs; clear hs; clear HS; have HS := HS2; clear HS2; clear hk) | (go_at_call 12; refine (tithelaw08_num.calls none 0 _ rfl).mono ?_; rintro e w' ⟨rfl, nd2, rfl⟩) | (go_at_call 11; (with_reducible refine (St.sum (B := B1) (v := S2) (show St w g B1 _ from by repeat (first | exact HS.out | apply St.drew | apply St.drewN | apply St.alloc)) HS2v.out).mono ?_); rintro e w7 ⟨rfl, hs, hk⟩; have HS2 := Aside0.mk hs; clear hs; clear HS; have HS := HS2; clear HS2; clear hk) | (go_at_call 17; (with_reducible refine (St.free (B := B1) (v := S2) (show St w g B1 _ from by repeat (first | exact HS.out | apply St.drew | apply St.drewN | apply St.alloc)) HS2v.out).mono ?_); rintro e w8 ⟨rfl, hs, hk⟩; have HS2 := Aside0.mk hs; clear hs; clear HS; have HS := HS2; clear HS2; clear hk))
                  all_goals go_roundg k2
                  all_goals first | exact HM.out.1 | exact ⟨i + 1, by first | rfl | (simp; done) | (simp [*]; done), ⟨HM.out.2⟩, ⟨B1, HIV.out, (by first | exact HS.out | (repeat (first | exact HS.out | apply St.drewN | apply St.alloc)))⟩⟩
        · cases hA : bkAt B SL with
          | false =>
            have HOF := Aside0.mk (Pure.of_f hA)
            have HOP := Aside0.mk (Pure.e_die1 hA)
            have HIV := Aside0.mk (show Pure.Inv0 B from hI)
            obtain ⟨S2, hS2⟩ : ∃ x, bkSum B = x := ⟨_, rfl⟩
            have s2a : decide (1048576 < S2) = false := decide_eq_false (by have := Pure.sum_b HIV.out; omega)
            have s2b : decide (S2 < 0) = false := decide_eq_false (by have := Pure.sum_b HIV.out; omega)
            have HS2v := Aside0.mk hS2
            clear hI hA hS2
            as_aux_lemma =>
              go_wp2_with (first | (go_at_call 10; (with_reducible refine (St.of (B := B) (s := SL) (show St w g B _ from by repeat (first | exact HS.out | apply St.drew | apply St.drewN | apply St.alloc)) HOF.out).mono ?_); rintro e w2 ⟨rfl, hs, hk⟩; have ha0 : w2.cell? ⟨wr.heap.size, 0, none⟩ = some (.int .i64 (rd_T26 l0 i).f0) := keep_cell hk HNA.out (by simp); have hlA : wr.heap.size < w2.heap.size := World.block_lt_of_cell? w2 _ ha0; have HNC := Aside0.mk (show w2.heap.size ≠ g from by have := hs.1.lt; omega); have HS2 := Aside0.mk hs; clear hs; clear HS; have HS := HS2; clear HS2; clear hk) | (go_at_call 11; (with_reducible refine (St.sum (B := B) (v := S0) (show St w g B _ from by repeat (first | exact HS.out | apply St.drew | apply St.drewN | apply St.alloc)) HS0.out).mono ?_); rintro e w3 ⟨rfl, hs, hk⟩; have ha0 : w3.cell? ⟨wr.heap.size, 0, none⟩ = some (.int .i64 (rd_T26 l0 i).f0) := keep_cell hk HNA.out (al_cell ha0); have hc1 : w3.cell? ⟨w2.heap.size, 1, none⟩ = some (.int .i64 0) := keep_cell hk HNC.out (by exact al_new.trans rfl); have hc2 : w3.cell? ⟨w2.heap.size, 2, none⟩ = some (.int .i64 0) := keep_cell hk HNC.out (by exact al_new.trans rfl); have hc3 : w3.cell? ⟨w2.heap.size, 3, none⟩ = some (.bool false) := keep_cell hk HNC.out (by exact al_new.trans rfl); have HLC := Aside0.mk (show w2.heap.size < w3.heap.size from World.block_lt_of_cell? w3 _ hc1); have HS2 := Aside0.mk hs; clear hs; clear HS; have HS := HS2; clear HS2; clear hk) | (go_at_call 15; (with_reducible refine (St.die (B := B) (B' := B) (show St w g B _ from by repeat (first | exact HS.out | apply St.drew | apply St.drewN | apply St.alloc)) HOP.out).mono ?_); rintro e w4 ⟨rfl, hs, hk⟩; have HS2 := Aside0.mk hs; clear hs; clear HS; have HS := HS2; clear HS2; clear hk) | (go_at_call 12; refine (tithelaw08_num.calls (some 20) 20 _ rfl).mono ?_; rintro e w' ⟨rfl, nd2, rfl⟩) | (go_at_call 11; (with_reducible refine (St.sum (B := B) (v := S2) (show St w g B _ from by repeat (first | exact HS.out | apply St.drew | apply St.drewN | apply St.alloc)) HS2v.out).mono ?_); rintro e w7 ⟨rfl, hs, hk⟩; have HS2 := Aside0.mk hs; clear hs; clear HS; have HS := HS2; clear HS2; clear hk) | (go_at_call 17; (with_reducible refine (St.free (B := B) (v := S2) (show St w g B _ from by repeat (first | exact HS.out | apply St.drew | apply St.drewN | apply St.alloc)) HS2v.out).mono ?_); rintro e w8 ⟨rfl, hs, hk⟩; have HS2 := Aside0.mk hs; clear hs; clear HS; have HS := HS2; clear HS2; clear hk))
              all_goals go_roundg k2
              all_goals first | exact HM.out.1 | exact ⟨i + 1, by first | rfl | (simp; done) | (simp [*]; done), ⟨HM.out.2⟩, ⟨B, HIV.out, (by first | exact HS.out | (repeat (first | exact HS.out | apply St.drewN | apply St.alloc)))⟩⟩
          | true =>
            have HOF := Aside0.mk (Pure.of_t hA)
            cases hd : (bkGet B SL).f3 with
            | true =>
              rw [hd] at HOF
              have HOP := Aside0.mk (Pure.e_die2 hA hd)
              have HIV := Aside0.mk (show Pure.Inv0 B from hI)
              obtain ⟨S2, hS2⟩ : ∃ x, bkSum B = x := ⟨_, rfl⟩
              have s2a : decide (1048576 < S2) = false := decide_eq_false (by have := Pure.sum_b HIV.out; omega)
              have s2b : decide (S2 < 0) = false := decide_eq_false (by have := Pure.sum_b HIV.out; omega)
              have HS2v := Aside0.mk hS2
              clear hI hA hS2 hd
              as_aux_lemma =>
                go_wp2_with (first | (go_at_call 10; (with_reducible refine (St.of (B := B) (s := SL) (show St w g B _ from by repeat (first | exact HS.out | apply St.drew | apply St.drewN | apply St.alloc)) HOF.out).mono ?_); rintro e w2 ⟨rfl, hs, hk⟩; have ha0 : w2.cell? ⟨wr.heap.size, 0, none⟩ = some (.int .i64 (rd_T26 l0 i).f0) := keep_cell hk HNA.out (by simp); have hlA : wr.heap.size < w2.heap.size := World.block_lt_of_cell? w2 _ ha0; have HNC := Aside0.mk (show w2.heap.size ≠ g from by have := hs.1.lt; omega); have HS2 := Aside0.mk hs; clear hs; clear HS; have HS := HS2; clear HS2; clear hk) | (go_at_call 11; (with_reducible refine (St.sum (B := B) (v := S0) (show St w g B _ from by repeat (first | exact HS.out | apply St.drew | apply St.drewN | apply St.alloc)) HS0.out).mono ?_); rintro e w3 ⟨rfl, hs, hk⟩; have ha0 : w3.cell? ⟨wr.heap.size, 0, none⟩ = some (.int .i64 (rd_T26 l0 i).f0) := keep_cell hk HNA.out (al_cell ha0); have hc1 : w3.cell? ⟨w2.heap.size, 1, none⟩ = some (.int .i64 (bkGet B SL).f1) := keep_cell hk HNC.out (by exact al_new.trans rfl); have hc2 : w3.cell? ⟨w2.heap.size, 2, none⟩ = some (.int .i64 (bkGet B SL).f2) := keep_cell hk HNC.out (by exact al_new.trans rfl); have hc3 : w3.cell? ⟨w2.heap.size, 3, none⟩ = some (.bool true) := keep_cell hk HNC.out (by exact al_new.trans rfl); have HLC := Aside0.mk (show w2.heap.size < w3.heap.size from World.block_lt_of_cell? w3 _ hc1); have HS2 := Aside0.mk hs; clear hs; clear HS; have HS := HS2; clear HS2; clear hk) | (go_at_call 15; (with_reducible refine (St.die (B := B) (B' := B) (show St w g B _ from by repeat (first | exact HS.out | apply St.drew | apply St.drewN | apply St.alloc)) HOP.out).mono ?_); rintro e w4 ⟨rfl, hs, hk⟩; have HS2 := Aside0.mk hs; clear hs; clear HS; have HS := HS2; clear HS2; clear hk) | (go_at_call 12; refine (tithelaw08_num.calls (some 92) 92 _ rfl).mono ?_; rintro e w' ⟨rfl, nd2, rfl⟩) | (go_at_call 11; (with_reducible refine (St.sum (B := B) (v := S2) (show St w g B _ from by repeat (first | exact HS.out | apply St.drew | apply St.drewN | apply St.alloc)) HS2v.out).mono ?_); rintro e w7 ⟨rfl, hs, hk⟩; have HS2 := Aside0.mk hs; clear hs; clear HS; have HS := HS2; clear HS2; clear hk) | (go_at_call 17; (with_reducible refine (St.free (B := B) (v := S2) (show St w g B _ from by repeat (first | exact HS.out | apply St.drew | apply St.drewN | apply St.alloc)) HS2v.out).mono ?_); rintro e w8 ⟨rfl, hs, hk⟩; have HS2 := Aside0.mk hs; clear hs; clear HS; have HS := HS2; clear HS2; clear hk))
                all_goals go_roundg k2
                all_goals first | exact HM.out.1 | exact ⟨i + 1, by first | rfl | (simp; done) | (simp [*]; done), ⟨HM.out.2⟩, ⟨B, HIV.out, (by first | exact HS.out | (repeat (first | exact HS.out | apply St.drewN | apply St.alloc)))⟩⟩
            | false =>
              rw [hd] at HOF
              obtain ⟨B1, hB1, hI1, hq1⟩ := Pure.e_die3 hI hA hd
              have HOP := Aside0.mk hB1
              rw [HS0.out] at hq1
              have HQ1 := Aside0.mk hq1
              clear hB1 hq1
              have HIV := Aside0.mk (show Pure.Inv0 B1 from hI1)
              have hS2 : bkSum B1 = S0 := HQ1.out
              have s2a : decide (1048576 < S0) = false := decide_eq_false (by have := Pure.sum_b HIV.out; omega)
              have s2b : decide (S0 < 0) = false := decide_eq_false (by have := Pure.sum_b HIV.out; omega)
              have HS2v := Aside0.mk hS2
              clear hI hA hS2 hd hI1
              as_aux_lemma =>
                go_wp2_with (first | (go_at_call 10; (with_reducible refine (St.of (B := B) (s := SL) (show St w g B _ from by repeat (first | exact HS.out | apply St.drew | apply St.drewN | apply St.alloc)) HOF.out).mono ?_); rintro e w2 ⟨rfl, hs, hk⟩; have ha0 : w2.cell? ⟨wr.heap.size, 0, none⟩ = some (.int .i64 (rd_T26 l0 i).f0) := keep_cell hk HNA.out (by simp); have hlA : wr.heap.size < w2.heap.size := World.block_lt_of_cell? w2 _ ha0; have HNC := Aside0.mk (show w2.heap.size ≠ g from by have := hs.1.lt; omega); have HS2 := Aside0.mk hs; clear hs; clear HS; have HS := HS2; clear HS2; clear hk) | (go_at_call 11; (with_reducible refine (St.sum (B := B) (v := S0) (show St w g B _ from by repeat (first | exact HS.out | apply St.drew | apply St.drewN | apply St.alloc)) HS0.out).mono ?_); rintro e w3 ⟨rfl, hs, hk⟩; have ha0 : w3.cell? ⟨wr.heap.size, 0, none⟩ = some (.int .i64 (rd_T26 l0 i).f0) := keep_cell hk HNA.out (al_cell ha0); have hc1 : w3.cell? ⟨w2.heap.size, 1, none⟩ = some (.int .i64 (bkGet B SL).f1) := keep_cell hk HNC.out (by exact al_new.trans rfl); have hc2 : w3.cell? ⟨w2.heap.size, 2, none⟩ = some (.int .i64 (bkGet B SL).f2) := keep_cell hk HNC.out (by exact al_new.trans rfl); have hc3 : w3.cell? ⟨w2.heap.size, 3, none⟩ = some (.bool false) := keep_cell hk HNC.out (by exact al_new.trans rfl); have HLC := Aside0.mk (show w2.heap.size < w3.heap.size from World.block_lt_of_cell? w3 _ hc1); have HS2 := Aside0.mk hs; clear hs; clear HS; have HS := HS2; clear HS2; clear hk) | (go_at_call 15; (with_reducible refine (St.die (B := B) (B' := B1) (show St w g B _ from by repeat (first | exact HS.out | apply St.drew | apply St.drewN | apply St.alloc)) HOP.out).mono ?_); rintro e w4 ⟨rfl, hs, hk⟩; have HS2 := Aside0.mk hs; clear hs; clear HS; have HS := HS2; clear HS2; clear hk) | (go_at_call 12; refine (tithelaw08_num.calls none 0 _ rfl).mono ?_; rintro e w' ⟨rfl, nd2, rfl⟩) | (go_at_call 11; (with_reducible refine (St.sum (B := B1) (v := S0) (show St w g B1 _ from by repeat (first | exact HS.out | apply St.drew | apply St.drewN | apply St.alloc)) HS2v.out).mono ?_); rintro e w7 ⟨rfl, hs, hk⟩; have HS2 := Aside0.mk hs; clear hs; clear HS; have HS := HS2; clear HS2; clear hk) | (go_at_call 17; (with_reducible refine (St.free (B := B1) (v := S0) (show St w g B1 _ from by repeat (first | exact HS.out | apply St.drew | apply St.drewN | apply St.alloc)) HS2v.out).mono ?_); rintro e w8 ⟨rfl, hs, hk⟩; have HS2 := Aside0.mk hs; clear hs; clear HS; have HS := HS2; clear HS2; clear hk))
                all_goals go_roundg k2
                all_goals first | exact HM.out.1 | exact ⟨i + 1, by first | rfl | (simp; done) | (simp [*]; done), ⟨HM.out.2⟩, ⟨B1, HIV.out, (by first | exact HS.out | (repeat (first | exact HS.out | apply St.drewN | apply St.alloc)))⟩⟩
        · cases hA : bkAt B SL with
          | false =>
            have HOF := Aside0.mk (Pure.of_f hA)
            have HOP := Aside0.mk (Pure.e_cro1 hA)
            have HIV := Aside0.mk (show Pure.Inv0 B from hI)
            obtain ⟨S2, hS2⟩ : ∃ x, bkSum B = x := ⟨_, rfl⟩
            have s2a : decide (1048576 < S2) = false := decide_eq_false (by have := Pure.sum_b HIV.out; omega)
            have s2b : decide (S2 < 0) = false := decide_eq_false (by have := Pure.sum_b HIV.out; omega)
            have HS2v := Aside0.mk hS2
            clear hI hA hS2
            as_aux_lemma =>
              go_wp2_with (first | (go_at_call 10; (with_reducible refine (St.of (B := B) (s := SL) (show St w g B _ from by repeat (first | exact HS.out | apply St.drew | apply St.drewN | apply St.alloc)) HOF.out).mono ?_); rintro e w5 ⟨rfl, hs, hk⟩; have hc1 : w5.cell? ⟨w2.heap.size, 1, none⟩ = some (.int .i64 0) := keep_cell hk HNC.out (by first | assumption | exact al_cell (by assumption)); have hc2 : w5.cell? ⟨w2.heap.size, 2, none⟩ = some (.int .i64 0) := keep_cell hk HNC.out (by first | assumption | exact al_cell (by assumption)); have hc3 : w5.cell? ⟨w2.heap.size, 3, none⟩ = some (.bool false) := keep_cell hk HNC.out (by first | assumption | exact al_cell (by assumption)); have HL5 := Aside0.mk (show w2.heap.size < w5.heap.size from World.block_lt_of_cell? w5 _ hc1); have hl5 := HL5.out; have HNN := Aside0.mk (show w5.heap.size ≠ g from by have := hs.1.lt; omega); have HS2 := Aside0.mk hs; clear hs; clear HS; have HS := HS2; clear HS2; clear hk) | (go_at_call 10; (with_reducible refine (St.of (B := B) (s := SL) (show St w g B _ from by repeat (first | exact HS.out | apply St.drew | apply St.drewN | apply St.alloc)) HOF.out).mono ?_); rintro e w2 ⟨rfl, hs, hk⟩; have ha0 : w2.cell? ⟨wr.heap.size, 0, none⟩ = some (.int .i64 (rd_T26 l0 i).f0) := keep_cell hk HNA.out (by simp); have hlA : wr.heap.size < w2.heap.size := World.block_lt_of_cell? w2 _ ha0; have HNC := Aside0.mk (show w2.heap.size ≠ g from by have := hs.1.lt; omega); have HS2 := Aside0.mk hs; clear hs; clear HS; have HS := HS2; clear HS2; clear hk) | (go_at_call 11; (with_reducible refine (St.sum (B := B) (v := S0) (show St w g B _ from by repeat (first | exact HS.out | apply St.drew | apply St.drewN | apply St.alloc)) HS0.out).mono ?_); rintro e w3 ⟨rfl, hs, hk⟩; have ha0 : w3.cell? ⟨wr.heap.size, 0, none⟩ = some (.int .i64 (rd_T26 l0 i).f0) := keep_cell hk HNA.out (al_cell ha0); have hc1 : w3.cell? ⟨w2.heap.size, 1, none⟩ = some (.int .i64 0) := keep_cell hk HNC.out (by exact al_new.trans rfl); have hc2 : w3.cell? ⟨w2.heap.size, 2, none⟩ = some (.int .i64 0) := keep_cell hk HNC.out (by exact al_new.trans rfl); have hc3 : w3.cell? ⟨w2.heap.size, 3, none⟩ = some (.bool false) := keep_cell hk HNC.out (by exact al_new.trans rfl); have HLC := Aside0.mk (show w2.heap.size < w3.heap.size from World.block_lt_of_cell? w3 _ hc1); have HS2 := Aside0.mk hs; clear hs; clear HS; have HS := HS2; clear HS2; clear hk) | (go_at_call 16; (with_reducible refine (St.cro (B := B) (B' := B) (show St w g B _ from by repeat (first | exact HS.out | apply St.drew | apply St.drewN | apply St.alloc)) HOP.out).mono ?_); rintro e w4 ⟨rfl, hs, hk⟩; have hc1 : w4.cell? ⟨w2.heap.size, 1, none⟩ = some (.int .i64 0) := keep_cell hk HNC.out (by first | assumption | exact al_cell (by assumption)); have hc2 : w4.cell? ⟨w2.heap.size, 2, none⟩ = some (.int .i64 0) := keep_cell hk HNC.out (by first | assumption | exact al_cell (by assumption)); have hc3 : w4.cell? ⟨w2.heap.size, 3, none⟩ = some (.bool false) := keep_cell hk HNC.out (by first | assumption | exact al_cell (by assumption)); have HS2 := Aside0.mk hs; clear hs; clear HS; have HS := HS2; clear HS2; clear hk; simp only [errW_some]) | (go_at_call 11; (with_reducible refine (St.sum (B := B) (v := S2) (show St w g B _ from by repeat (first | exact HS.out | apply St.drew | apply St.drewN | apply St.alloc)) HS2v.out).mono ?_); rintro e w7 ⟨rfl, hs, hk⟩; have HS2 := Aside0.mk hs; clear hs; clear HS; have HS := HS2; clear HS2; clear hk) | (go_at_call 17; (with_reducible refine (St.free (B := B) (v := S2) (show St w g B _ from by repeat (first | exact HS.out | apply St.drew | apply St.drewN | apply St.alloc)) HS2v.out).mono ?_); rintro e w8 ⟨rfl, hs, hk⟩; have HS2 := Aside0.mk hs; clear hs; clear HS; have HS := HS2; clear HS2; clear hk))
              go_quiet (fail)
              go_wp2_with (first | (go_at_call 11; (with_reducible refine (St.sum (B := B) (v := S2) (show St w g B _ from by repeat (first | exact HS.out | apply St.drew | apply St.drewN | apply St.alloc)) HS2v.out).mono ?_); rintro e w7 ⟨rfl, hs, hk⟩; have HS2 := Aside0.mk hs; clear hs; clear HS; have HS := HS2; clear HS2; clear hk) | (go_at_call 17; (with_reducible refine (St.free (B := B) (v := S2) (show St w g B _ from by repeat (first | exact HS.out | apply St.drew | apply St.drewN | apply St.alloc)) HS2v.out).mono ?_); rintro e w8 ⟨rfl, hs, hk⟩; have HS2 := Aside0.mk hs; clear hs; clear HS; have HS := HS2; clear HS2; clear hk))
              all_goals go_roundg k2
              all_goals first | exact HM.out.1 | exact ⟨i + 1, by first | rfl | (simp; done) | (simp [*]; done), ⟨HM.out.2⟩, ⟨B, HIV.out, (by first | exact HS.out | (repeat (first | exact HS.out | apply St.drewN | apply St.alloc)))⟩⟩
          | true =>
            have HOF := Aside0.mk (Pure.of_t hA)
            cases hd : (bkGet B SL).f3 with
            | true =>
              rw [hd] at HOF
              obtain ⟨B1, hB1, hI1, ho1, hq1⟩ := Pure.e_cro2 hI hA hd
              have HOP := Aside0.mk hB1
              have HO1 := Aside0.mk ho1
              rw [HS0.out] at hq1
              obtain ⟨M1, hM1⟩ : ∃ x, mx (bkGet B SL).f1 (bkGet B SL).f2 = x := ⟨_, rfl⟩
              have hm1 : (if (bkGet B SL).f1 < (bkGet B SL).f2 then (bkGet B SL).f2 else (bkGet B SL).f1) = M1 := hM1
              rw [hM1] at hq1
              clear hB1 ho1
              have HIV := Aside0.mk (show Pure.Inv0 B1 from hI1)
              obtain ⟨S2, hS2⟩ : ∃ x, bkSum B1 = x := ⟨_, rfl⟩
              have s2a : decide (1048576 < S2) = false := decide_eq_false (by have := Pure.sum_b HIV.out; omega)
              have s2b : decide (S2 < 0) = false := decide_eq_false (by have := Pure.sum_b HIV.out; omega)
              have HS2v := Aside0.mk hS2
              rw [hS2] at hq1
              have HX1 := Aside0.mk hq1
              obtain ⟨X, hX⟩ : ∃ x, wrap64 (S0 - M1) = x := ⟨_, rfl⟩
              rw [hX] at hq1
              have hX_ : IntKind.i64.wrap (S0 - M1) = X := by rw [i64_w]; exact hX
              have hY_ : IntKind.i64.wrap X = S2 := by rw [i64_w]; rw [Int.add_zero] at hq1; exact hq1
              have hY2 : IntKind.i64.wrap (X + 0) = S2 := by rw [i64_w]; exact hq1
              clear hX
              clear hI hA hS2 hd hI1 hq1 hM1
              as_aux_lemma =>
                go_wp2_with (first | (go_at_call 10; (with_reducible refine (St.of (B := B1) (s := SL) (show St w g B1 _ from by repeat (first | exact HS.out | apply St.drew | apply St.drewN | apply St.alloc)) HO1.out).mono ?_); rintro e w5 ⟨rfl, hs, hk⟩; have hc1 : w5.cell? ⟨w2.heap.size, 1, none⟩ = some (.int .i64 (bkGet B SL).f1) := keep_cell hk HNC.out (by first | assumption | exact al_cell (by assumption)); have hc2 : w5.cell? ⟨w2.heap.size, 2, none⟩ = some (.int .i64 (bkGet B SL).f2) := keep_cell hk HNC.out (by first | assumption | exact al_cell (by assumption)); have hc3 : w5.cell? ⟨w2.heap.size, 3, none⟩ = some (.bool true) := keep_cell hk HNC.out (by first | assumption | exact al_cell (by assumption)); have HL5 := Aside0.mk (show w2.heap.size < w5.heap.size from World.block_lt_of_cell? w5 _ hc1); have hl5 := HL5.out; have HNN := Aside0.mk (show w5.heap.size ≠ g from by have := hs.1.lt; omega); have HS2 := Aside0.mk hs; clear hs; clear HS; have HS := HS2; clear HS2; clear hk) | (go_at_call 10; (with_reducible refine (St.of (B := B) (s := SL) (show St w g B _ from by repeat (first | exact HS.out | apply St.drew | apply St.drewN | apply St.alloc)) HOF.out).mono ?_); rintro e w2 ⟨rfl, hs, hk⟩; have ha0 : w2.cell? ⟨wr.heap.size, 0, none⟩ = some (.int .i64 (rd_T26 l0 i).f0) := keep_cell hk HNA.out (by simp); have hlA : wr.heap.size < w2.heap.size := World.block_lt_of_cell? w2 _ ha0; have HNC := Aside0.mk (show w2.heap.size ≠ g from by have := hs.1.lt; omega); have HS2 := Aside0.mk hs; clear hs; clear HS; have HS := HS2; clear HS2; clear hk) | (go_at_call 11; (with_reducible refine (St.sum (B := B) (v := S0) (show St w g B _ from by repeat (first | exact HS.out | apply St.drew | apply St.drewN | apply St.alloc)) HS0.out).mono ?_); rintro e w3 ⟨rfl, hs, hk⟩; have ha0 : w3.cell? ⟨wr.heap.size, 0, none⟩ = some (.int .i64 (rd_T26 l0 i).f0) := keep_cell hk HNA.out (al_cell ha0); have hc1 : w3.cell? ⟨w2.heap.size, 1, none⟩ = some (.int .i64 (bkGet B SL).f1) := keep_cell hk HNC.out (by exact al_new.trans rfl); have hc2 : w3.cell? ⟨w2.heap.size, 2, none⟩ = some (.int .i64 (bkGet B SL).f2) := keep_cell hk HNC.out (by exact al_new.trans rfl); have hc3 : w3.cell? ⟨w2.heap.size, 3, none⟩ = some (.bool true) := keep_cell hk HNC.out (by exact al_new.trans rfl); have HLC := Aside0.mk (show w2.heap.size < w3.heap.size from World.block_lt_of_cell? w3 _ hc1); have HS2 := Aside0.mk hs; clear hs; clear HS; have HS := HS2; clear HS2; clear hk) | (go_at_call 16; (with_reducible refine (St.cro (B := B) (B' := B1) (show St w g B _ from by repeat (first | exact HS.out | apply St.drew | apply St.drewN | apply St.alloc)) HOP.out).mono ?_); rintro e w4 ⟨rfl, hs, hk⟩; have hc1 : w4.cell? ⟨w2.heap.size, 1, none⟩ = some (.int .i64 (bkGet B SL).f1) := keep_cell hk HNC.out (by first | assumption | exact al_cell (by assumption)); have hc2 : w4.cell? ⟨w2.heap.size, 2, none⟩ = some (.int .i64 (bkGet B SL).f2) := keep_cell hk HNC.out (by first | assumption | exact al_cell (by assumption)); have hc3 : w4.cell? ⟨w2.heap.size, 3, none⟩ = some (.bool true) := keep_cell hk HNC.out (by first | assumption | exact al_cell (by assumption)); have HS2 := Aside0.mk hs; clear hs; clear HS; have HS := HS2; clear HS2; clear hk; simp only [errW_none]) | (go_at_call 11; (with_reducible refine (St.sum (B := B1) (v := S2) (show St w g B1 _ from by repeat (first | exact HS.out | apply St.drew | apply St.drewN | apply St.alloc)) HS2v.out).mono ?_); rintro e w7 ⟨rfl, hs, hk⟩; have HS2 := Aside0.mk hs; clear hs; clear HS; have HS := HS2; clear HS2; clear hk) | (go_at_call 17; (with_reducible refine (St.free (B := B1) (v := S2) (show St w g B1 _ from by repeat (first | exact HS.out | apply St.drew | apply St.drewN | apply St.alloc)) HS2v.out).mono ?_); rintro e w8 ⟨rfl, hs, hk⟩; have HS2 := Aside0.mk hs; clear hs; clear HS; have HS := HS2; clear HS2; clear hk))
                go_region_held3 (fun W => W.cell? ⟨w2.heap.size, 1, none⟩ = some (.int .i64 (bkGet B SL).f1) ∧ W.cell? ⟨w2.heap.size, 2, none⟩ = some (.int .i64 (bkGet B SL).f2) ∧ W.cell? ⟨w5.heap.size, 1, none⟩ = some (.int .i64 0) ∧ St w g B1 W) (exact ⟨by first | exact al_cell hc1 | exact hd1, by first | exact al_cell hc2 | exact hd2, by first | exact al_new.trans rfl | exact hd3, by repeat (first | exact HS.out | apply St.drew | apply St.drewN | apply St.alloc)⟩) (first | (go_at_call 11; (with_reducible refine (St.sum (B := B1) (v := S2) (show St w g B1 _ from by repeat (first | exact HS.out | apply St.drew | apply St.drewN | apply St.alloc)) HS2v.out).mono ?_); rintro e w6 ⟨rfl, hs, hk⟩; have hd1 : w6.cell? ⟨w2.heap.size, 1, none⟩ = some (.int .i64 (bkGet B SL).f1) := keep_cell hk HNC.out (by first | exact al_cell hc1 | exact hd1); have hd2 : w6.cell? ⟨w2.heap.size, 2, none⟩ = some (.int .i64 (bkGet B SL).f2) := keep_cell hk HNC.out (by first | exact al_cell hc2 | exact hd2); have hd3 : w6.cell? ⟨w5.heap.size, 1, none⟩ = some (.int .i64 0) := keep_cell hk HNN.out (by first | exact al_new.trans rfl | exact hd3); have HS2 := Aside0.mk hs; clear hs; clear HS; have HS := HS2; clear HS2; clear hk))
                all_goals go_wp2_with (first | (go_at_call 11; (with_reducible refine (St.sum (B := B1) (v := S2) (show St w g B1 _ from by repeat (first | exact HS.out | apply St.drew | apply St.drewN | apply St.alloc)) HS2v.out).mono ?_); rintro e w7 ⟨rfl, hs, hk⟩; have HS2 := Aside0.mk hs; clear hs; clear HS; have HS := HS2; clear HS2; clear hk) | (go_at_call 17; (with_reducible refine (St.free (B := B1) (v := S2) (show St w g B1 _ from by repeat (first | exact HS.out | apply St.drew | apply St.drewN | apply St.alloc)) HS2v.out).mono ?_); rintro e w8 ⟨rfl, hs, hk⟩; have HS2 := Aside0.mk hs; clear hs; clear HS; have HS := HS2; clear HS2; clear hk))
                all_goals go_roundg k2
                all_goals first | exact HM.out.1 | exact ⟨i + 1, by first | rfl | (simp; done) | (simp [*]; done), ⟨HM.out.2⟩, ⟨B1, HIV.out, (by first | exact HS.out | (repeat (first | exact HS.out | apply St.drewN | apply St.alloc)))⟩⟩
            | false =>
              rw [hd] at HOF
              by_cases hq : (bkGet B SL).f2 = 0
              · obtain ⟨hB1, hq1⟩ := Pure.e_cro3 hI hA hd hq
                rw [hq] at HOF
                have HOP := Aside0.mk hB1
                rw [HS0.out] at hq1
                obtain ⟨M1, hM1⟩ : ∃ x, mx (bkGet B SL).f1 0 = x := ⟨_, rfl⟩
                have hm1 : (if (bkGet B SL).f1 < 0 then 0 else (bkGet B SL).f1) = M1 := hM1
                rw [hM1] at hq1
                clear hB1
                have HIV := Aside0.mk (show Pure.Inv0 B from hI)
                have hS2 : bkSum B = S0 := HS0.out
                have s2a : decide (1048576 < S0) = false := decide_eq_false (by have := Pure.sum_b HIV.out; omega)
                have s2b : decide (S0 < 0) = false := decide_eq_false (by have := Pure.sum_b HIV.out; omega)
                have HS2v := Aside0.mk hS2
                obtain ⟨X, hX⟩ : ∃ x, wrap64 (S0 - M1) = x := ⟨_, rfl⟩
                rw [hX] at hq1
                have hX_ : IntKind.i64.wrap (S0 - M1) = X := by rw [i64_w]; exact hX
                have hY_ : IntKind.i64.wrap (X + (bkGet B SL).f1) = S0 := by rw [i64_w]; exact hq1
                clear hX
                clear hI hA hS2 hd hq hq1 hM1
                as_aux_lemma =>
                  go_wp2_with (first | (go_at_call 10; (with_reducible refine (St.of (B := B) (s := SL) (show St w g B _ from by repeat (first | exact HS.out | apply St.drew | apply St.drewN | apply St.alloc)) HOF.out).mono ?_); rintro e w5 ⟨rfl, hs, hk⟩; have hc1 : w5.cell? ⟨w2.heap.size, 1, none⟩ = some (.int .i64 (bkGet B SL).f1) := keep_cell hk HNC.out (by first | assumption | exact al_cell (by assumption)); have hc2 : w5.cell? ⟨w2.heap.size, 2, none⟩ = some (.int .i64 0) := keep_cell hk HNC.out (by first | assumption | exact al_cell (by assumption)); have hc3 : w5.cell? ⟨w2.heap.size, 3, none⟩ = some (.bool false) := keep_cell hk HNC.out (by first | assumption | exact al_cell (by assumption)); have HL5 := Aside0.mk (show w2.heap.size < w5.heap.size from World.block_lt_of_cell? w5 _ hc1); have hl5 := HL5.out; have HNN := Aside0.mk (show w5.heap.size ≠ g from by have := hs.1.lt; omega); have HS2 := Aside0.mk hs; clear hs; clear HS; have HS := HS2; clear HS2; clear hk) | (go_at_call 10; (with_reducible refine (St.of (B := B) (s := SL) (show St w g B _ from by repeat (first | exact HS.out | apply St.drew | apply St.drewN | apply St.alloc)) HOF.out).mono ?_); rintro e w2 ⟨rfl, hs, hk⟩; have ha0 : w2.cell? ⟨wr.heap.size, 0, none⟩ = some (.int .i64 (rd_T26 l0 i).f0) := keep_cell hk HNA.out (by simp); have hlA : wr.heap.size < w2.heap.size := World.block_lt_of_cell? w2 _ ha0; have HNC := Aside0.mk (show w2.heap.size ≠ g from by have := hs.1.lt; omega); have HS2 := Aside0.mk hs; clear hs; clear HS; have HS := HS2; clear HS2; clear hk) | (go_at_call 11; (with_reducible refine (St.sum (B := B) (v := S0) (show St w g B _ from by repeat (first | exact HS.out | apply St.drew | apply St.drewN | apply St.alloc)) HS0.out).mono ?_); rintro e w3 ⟨rfl, hs, hk⟩; have ha0 : w3.cell? ⟨wr.heap.size, 0, none⟩ = some (.int .i64 (rd_T26 l0 i).f0) := keep_cell hk HNA.out (al_cell ha0); have hc1 : w3.cell? ⟨w2.heap.size, 1, none⟩ = some (.int .i64 (bkGet B SL).f1) := keep_cell hk HNC.out (by exact al_new.trans rfl); have hc2 : w3.cell? ⟨w2.heap.size, 2, none⟩ = some (.int .i64 0) := keep_cell hk HNC.out (by exact al_new.trans rfl); have hc3 : w3.cell? ⟨w2.heap.size, 3, none⟩ = some (.bool false) := keep_cell hk HNC.out (by exact al_new.trans rfl); have HLC := Aside0.mk (show w2.heap.size < w3.heap.size from World.block_lt_of_cell? w3 _ hc1); have HS2 := Aside0.mk hs; clear hs; clear HS; have HS := HS2; clear HS2; clear hk) | (go_at_call 16; (with_reducible refine (St.cro (B := B) (B' := B) (show St w g B _ from by repeat (first | exact HS.out | apply St.drew | apply St.drewN | apply St.alloc)) HOP.out).mono ?_); rintro e w4 ⟨rfl, hs, hk⟩; have hc1 : w4.cell? ⟨w2.heap.size, 1, none⟩ = some (.int .i64 (bkGet B SL).f1) := keep_cell hk HNC.out (by first | assumption | exact al_cell (by assumption)); have hc2 : w4.cell? ⟨w2.heap.size, 2, none⟩ = some (.int .i64 0) := keep_cell hk HNC.out (by first | assumption | exact al_cell (by assumption)); have hc3 : w4.cell? ⟨w2.heap.size, 3, none⟩ = some (.bool false) := keep_cell hk HNC.out (by first | assumption | exact al_cell (by assumption)); have HS2 := Aside0.mk hs; clear hs; clear HS; have HS := HS2; clear HS2; clear hk; simp only [errW_none]) | (go_at_call 11; (with_reducible refine (St.sum (B := B) (v := S0) (show St w g B _ from by repeat (first | exact HS.out | apply St.drew | apply St.drewN | apply St.alloc)) HS2v.out).mono ?_); rintro e w7 ⟨rfl, hs, hk⟩; have HS2 := Aside0.mk hs; clear hs; clear HS; have HS := HS2; clear HS2; clear hk) | (go_at_call 17; (with_reducible refine (St.free (B := B) (v := S0) (show St w g B _ from by repeat (first | exact HS.out | apply St.drew | apply St.drewN | apply St.alloc)) HS2v.out).mono ?_); rintro e w8 ⟨rfl, hs, hk⟩; have HS2 := Aside0.mk hs; clear hs; clear HS; have HS := HS2; clear HS2; clear hk))
                  go_region_held3 (fun W => W.cell? ⟨w2.heap.size, 1, none⟩ = some (.int .i64 (bkGet B SL).f1) ∧ W.cell? ⟨w2.heap.size, 2, none⟩ = some (.int .i64 0) ∧ W.cell? ⟨w5.heap.size, 1, none⟩ = some (.int .i64 (bkGet B SL).f1) ∧ St w g B W) (exact ⟨by first | exact al_cell hc1 | exact hd1, by first | exact al_cell hc2 | exact hd2, by first | exact al_new.trans rfl | exact hd3, by repeat (first | exact HS.out | apply St.drew | apply St.drewN | apply St.alloc)⟩) (first | (go_at_call 11; (with_reducible refine (St.sum (B := B) (v := S0) (show St w g B _ from by repeat (first | exact HS.out | apply St.drew | apply St.drewN | apply St.alloc)) HS2v.out).mono ?_); rintro e w6 ⟨rfl, hs, hk⟩; have hd1 : w6.cell? ⟨w2.heap.size, 1, none⟩ = some (.int .i64 (bkGet B SL).f1) := keep_cell hk HNC.out (by first | exact al_cell hc1 | exact hd1); have hd2 : w6.cell? ⟨w2.heap.size, 2, none⟩ = some (.int .i64 0) := keep_cell hk HNC.out (by first | exact al_cell hc2 | exact hd2); have hd3 : w6.cell? ⟨w5.heap.size, 1, none⟩ = some (.int .i64 (bkGet B SL).f1) := keep_cell hk HNN.out (by first | exact al_new.trans rfl | exact hd3); have HS2 := Aside0.mk hs; clear hs; clear HS; have HS := HS2; clear HS2; clear hk))
                  all_goals go_wp2_with (first | (go_at_call 11; (with_reducible refine (St.sum (B := B) (v := S0) (show St w g B _ from by repeat (first | exact HS.out | apply St.drew | apply St.drewN | apply St.alloc)) HS2v.out).mono ?_); rintro e w7 ⟨rfl, hs, hk⟩; have HS2 := Aside0.mk hs; clear hs; clear HS; have HS := HS2; clear HS2; clear hk) | (go_at_call 17; (with_reducible refine (St.free (B := B) (v := S0) (show St w g B _ from by repeat (first | exact HS.out | apply St.drew | apply St.drewN | apply St.alloc)) HS2v.out).mono ?_); rintro e w8 ⟨rfl, hs, hk⟩; have HS2 := Aside0.mk hs; clear hs; clear HS; have HS := HS2; clear HS2; clear hk))
                  all_goals go_roundg k2
                  all_goals first | exact HM.out.1 | exact ⟨i + 1, by first | rfl | (simp; done) | (simp [*]; done), ⟨HM.out.2⟩, ⟨B, HIV.out, (by first | exact HS.out | (repeat (first | exact HS.out | apply St.drewN | apply St.alloc)))⟩⟩
              · obtain ⟨B1, hB1, hI1, ho1, hq1⟩ := Pure.e_cro4 hI hA hd hq
                have HOP := Aside0.mk hB1
                have HO1 := Aside0.mk ho1
                rw [HS0.out] at hq1
                obtain ⟨M1, hM1⟩ : ∃ x, mx (bkGet B SL).f1 (bkGet B SL).f2 = x := ⟨_, rfl⟩
                have hm1 : (if (bkGet B SL).f1 < (bkGet B SL).f2 then (bkGet B SL).f2 else (bkGet B SL).f1) = M1 := hM1
                rw [hM1] at hq1
                clear hB1 ho1
                cases hne : ((bkGet B SL).f2 != (bkGet B SL).f1) with
                | true =>
                  have HIV := Aside0.mk (show Pure.Inv0 B1 from hI1)
                  obtain ⟨S2, hS2⟩ : ∃ x, bkSum B1 = x := ⟨_, rfl⟩
                  have s2a : decide (1048576 < S2) = false := decide_eq_false (by have := Pure.sum_b HIV.out; omega)
                  have s2b : decide (S2 < 0) = false := decide_eq_false (by have := Pure.sum_b HIV.out; omega)
                  have HS2v := Aside0.mk hS2
                  rw [hS2] at hq1
                  obtain ⟨X, hX⟩ : ∃ x, wrap64 (S0 - M1) = x := ⟨_, rfl⟩
                  rw [hX] at hq1
                  have hX_ : IntKind.i64.wrap (S0 - M1) = X := by rw [i64_w]; exact hX
                  have hY_ : IntKind.i64.wrap (X + (bkGet B SL).f2) = S2 := by rw [i64_w]; exact hq1
                  have hne2 : ((bkGet B SL).f2 == (bkGet B SL).f1) = false := by rw [bne] at hne; simpa using hne
                  clear hX
                  clear hI hA hS2 hd hq hI1 hq1 hM1
                  as_aux_lemma =>
                    go_wp2_with (first | (go_at_call 10; (with_reducible refine (St.of (B := B1) (s := SL) (show St w g B1 _ from by repeat (first | exact HS.out | apply St.drew | apply St.drewN | apply St.alloc)) HO1.out).mono ?_); rintro e w5 ⟨rfl, hs, hk⟩; have hc1 : w5.cell? ⟨w2.heap.size, 1, none⟩ = some (.int .i64 (bkGet B SL).f1) := keep_cell hk HNC.out (by first | assumption | exact al_cell (by assumption)); have hc2 : w5.cell? ⟨w2.heap.size, 2, none⟩ = some (.int .i64 (bkGet B SL).f2) := keep_cell hk HNC.out (by first | assumption | exact al_cell (by assumption)); have hc3 : w5.cell? ⟨w2.heap.size, 3, none⟩ = some (.bool false) := keep_cell hk HNC.out (by first | assumption | exact al_cell (by assumption)); have HL5 := Aside0.mk (show w2.heap.size < w5.heap.size from World.block_lt_of_cell? w5 _ hc1); have hl5 := HL5.out; have HNN := Aside0.mk (show w5.heap.size ≠ g from by have := hs.1.lt; omega); have HS2 := Aside0.mk hs; clear hs; clear HS; have HS := HS2; clear HS2; clear hk) | (go_at_call 10; (with_reducible refine (St.of (B := B) (s := SL) (show St w g B _ from by repeat (first | exact HS.out | apply St.drew | apply St.drewN | apply St.alloc)) HOF.out).mono ?_); rintro e w2 ⟨rfl, hs, hk⟩; have ha0 : w2.cell? ⟨wr.heap.size, 0, none⟩ = some (.int .i64 (rd_T26 l0 i).f0) := keep_cell hk HNA.out (by simp); have hlA : wr.heap.size < w2.heap.size := World.block_lt_of_cell? w2 _ ha0; have HNC := Aside0.mk (show w2.heap.size ≠ g from by have := hs.1.lt; omega); have HS2 := Aside0.mk hs; clear hs; clear HS; have HS := HS2; clear HS2; clear hk) | (go_at_call 11; (with_reducible refine (St.sum (B := B) (v := S0) (show St w g B _ from by repeat (first | exact HS.out | apply St.drew | apply St.drewN | apply St.alloc)) HS0.out).mono ?_); rintro e w3 ⟨rfl, hs, hk⟩; have ha0 : w3.cell? ⟨wr.heap.size, 0, none⟩ = some (.int .i64 (rd_T26 l0 i).f0) := keep_cell hk HNA.out (al_cell ha0); have hc1 : w3.cell? ⟨w2.heap.size, 1, none⟩ = some (.int .i64 (bkGet B SL).f1) := keep_cell hk HNC.out (by exact al_new.trans rfl); have hc2 : w3.cell? ⟨w2.heap.size, 2, none⟩ = some (.int .i64 (bkGet B SL).f2) := keep_cell hk HNC.out (by exact al_new.trans rfl); have hc3 : w3.cell? ⟨w2.heap.size, 3, none⟩ = some (.bool false) := keep_cell hk HNC.out (by exact al_new.trans rfl); have HLC := Aside0.mk (show w2.heap.size < w3.heap.size from World.block_lt_of_cell? w3 _ hc1); have HS2 := Aside0.mk hs; clear hs; clear HS; have HS := HS2; clear HS2; clear hk) | (go_at_call 16; (with_reducible refine (St.cro (B := B) (B' := B1) (show St w g B _ from by repeat (first | exact HS.out | apply St.drew | apply St.drewN | apply St.alloc)) HOP.out).mono ?_); rintro e w4 ⟨rfl, hs, hk⟩; have hc1 : w4.cell? ⟨w2.heap.size, 1, none⟩ = some (.int .i64 (bkGet B SL).f1) := keep_cell hk HNC.out (by first | assumption | exact al_cell (by assumption)); have hc2 : w4.cell? ⟨w2.heap.size, 2, none⟩ = some (.int .i64 (bkGet B SL).f2) := keep_cell hk HNC.out (by first | assumption | exact al_cell (by assumption)); have hc3 : w4.cell? ⟨w2.heap.size, 3, none⟩ = some (.bool false) := keep_cell hk HNC.out (by first | assumption | exact al_cell (by assumption)); have HS2 := Aside0.mk hs; clear hs; clear HS; have HS := HS2; clear HS2; clear hk; simp only [errW_none]) | (go_at_call 11; (with_reducible refine (St.sum (B := B1) (v := S2) (show St w g B1 _ from by repeat (first | exact HS.out | apply St.drew | apply St.drewN | apply St.alloc)) HS2v.out).mono ?_); rintro e w7 ⟨rfl, hs, hk⟩; have HS2 := Aside0.mk hs; clear hs; clear HS; have HS := HS2; clear HS2; clear hk) | (go_at_call 17; (with_reducible refine (St.free (B := B1) (v := S2) (show St w g B1 _ from by repeat (first | exact HS.out | apply St.drew | apply St.drewN | apply St.alloc)) HS2v.out).mono ?_); rintro e w8 ⟨rfl, hs, hk⟩; have HS2 := Aside0.mk hs; clear hs; clear HS; have HS := HS2; clear HS2; clear hk))
                    go_region_held3 (fun W => W.cell? ⟨w2.heap.size, 1, none⟩ = some (.int .i64 (bkGet B SL).f1) ∧ W.cell? ⟨w2.heap.size, 2, none⟩ = some (.int .i64 (bkGet B SL).f2) ∧ W.cell? ⟨w5.heap.size, 1, none⟩ = some (.int .i64 (bkGet B SL).f2) ∧ St w g B1 W) (exact ⟨by first | exact al_cell hc1 | exact hd1, by first | exact al_cell hc2 | exact hd2, by first | exact al_new.trans rfl | exact hd3, by repeat (first | exact HS.out | apply St.drew | apply St.drewN | apply St.alloc)⟩) (first | (go_at_call 11; (with_reducible refine (St.sum (B := B1) (v := S2) (show St w g B1 _ from by repeat (first | exact HS.out | apply St.drew | apply St.drewN | apply St.alloc)) HS2v.out).mono ?_); rintro e w6 ⟨rfl, hs, hk⟩; have hd1 : w6.cell? ⟨w2.heap.size, 1, none⟩ = some (.int .i64 (bkGet B SL).f1) := keep_cell hk HNC.out (by first | exact al_cell hc1 | exact hd1); have hd2 : w6.cell? ⟨w2.heap.size, 2, none⟩ = some (.int .i64 (bkGet B SL).f2) := keep_cell hk HNC.out (by first | exact al_cell hc2 | exact hd2); have hd3 : w6.cell? ⟨w5.heap.size, 1, none⟩ = some (.int .i64 (bkGet B SL).f2) := keep_cell hk HNN.out (by first | exact al_new.trans rfl | exact hd3); have HS2 := Aside0.mk hs; clear hs; clear HS; have HS := HS2; clear HS2; clear hk))
                    all_goals go_wp2_with (first | (go_at_call 11; (with_reducible refine (St.sum (B := B1) (v := S2) (show St w g B1 _ from by repeat (first | exact HS.out | apply St.drew | apply St.drewN | apply St.alloc)) HS2v.out).mono ?_); rintro e w7 ⟨rfl, hs, hk⟩; have HS2 := Aside0.mk hs; clear hs; clear HS; have HS := HS2; clear HS2; clear hk) | (go_at_call 17; (with_reducible refine (St.free (B := B1) (v := S2) (show St w g B1 _ from by repeat (first | exact HS.out | apply St.drew | apply St.drewN | apply St.alloc)) HS2v.out).mono ?_); rintro e w8 ⟨rfl, hs, hk⟩; have HS2 := Aside0.mk hs; clear hs; clear HS; have HS := HS2; clear HS2; clear hk))
                    all_goals go_roundg k2
                    all_goals first | exact HM.out.1 | exact ⟨i + 1, by first | rfl | (simp; done) | (simp [*]; done), ⟨HM.out.2⟩, ⟨B1, HIV.out, (by first | exact HS.out | (repeat (first | exact HS.out | apply St.drewN | apply St.alloc)))⟩⟩
                | false =>
                  have HIV := Aside0.mk (show Pure.Inv0 B1 from hI1)
                  obtain ⟨S2, hS2⟩ : ∃ x, bkSum B1 = x := ⟨_, rfl⟩
                  have s2a : decide (1048576 < S2) = false := decide_eq_false (by have := Pure.sum_b HIV.out; omega)
                  have s2b : decide (S2 < 0) = false := decide_eq_false (by have := Pure.sum_b HIV.out; omega)
                  have HS2v := Aside0.mk hS2
                  rw [hS2] at hq1
                  obtain ⟨X, hX⟩ : ∃ x, wrap64 (S0 - M1) = x := ⟨_, rfl⟩
                  rw [hX] at hq1
                  have hX_ : IntKind.i64.wrap (S0 - M1) = X := by rw [i64_w]; exact hX
                  have hY_ : IntKind.i64.wrap (X + (bkGet B SL).f2) = S2 := by rw [i64_w]; exact hq1
                  have hne2 : ((bkGet B SL).f2 == (bkGet B SL).f1) = true := by rw [bne] at hne; simpa using hne
                  clear hX
                  clear hI hA hS2 hd hq hI1 hq1 hM1
                  as_aux_lemma =>
                    go_wp2_with (first | (go_at_call 10; (with_reducible refine (St.of (B := B1) (s := SL) (show St w g B1 _ from by repeat (first | exact HS.out | apply St.drew | apply St.drewN | apply St.alloc)) HO1.out).mono ?_); rintro e w5 ⟨rfl, hs, hk⟩; have hc1 : w5.cell? ⟨w2.heap.size, 1, none⟩ = some (.int .i64 (bkGet B SL).f1) := keep_cell hk HNC.out (by first | assumption | exact al_cell (by assumption)); have hc2 : w5.cell? ⟨w2.heap.size, 2, none⟩ = some (.int .i64 (bkGet B SL).f2) := keep_cell hk HNC.out (by first | assumption | exact al_cell (by assumption)); have hc3 : w5.cell? ⟨w2.heap.size, 3, none⟩ = some (.bool false) := keep_cell hk HNC.out (by first | assumption | exact al_cell (by assumption)); have HL5 := Aside0.mk (show w2.heap.size < w5.heap.size from World.block_lt_of_cell? w5 _ hc1); have hl5 := HL5.out; have HNN := Aside0.mk (show w5.heap.size ≠ g from by have := hs.1.lt; omega); have HS2 := Aside0.mk hs; clear hs; clear HS; have HS := HS2; clear HS2; clear hk) | (go_at_call 10; (with_reducible refine (St.of (B := B) (s := SL) (show St w g B _ from by repeat (first | exact HS.out | apply St.drew | apply St.drewN | apply St.alloc)) HOF.out).mono ?_); rintro e w2 ⟨rfl, hs, hk⟩; have ha0 : w2.cell? ⟨wr.heap.size, 0, none⟩ = some (.int .i64 (rd_T26 l0 i).f0) := keep_cell hk HNA.out (by simp); have hlA : wr.heap.size < w2.heap.size := World.block_lt_of_cell? w2 _ ha0; have HNC := Aside0.mk (show w2.heap.size ≠ g from by have := hs.1.lt; omega); have HS2 := Aside0.mk hs; clear hs; clear HS; have HS := HS2; clear HS2; clear hk) | (go_at_call 11; (with_reducible refine (St.sum (B := B) (v := S0) (show St w g B _ from by repeat (first | exact HS.out | apply St.drew | apply St.drewN | apply St.alloc)) HS0.out).mono ?_); rintro e w3 ⟨rfl, hs, hk⟩; have ha0 : w3.cell? ⟨wr.heap.size, 0, none⟩ = some (.int .i64 (rd_T26 l0 i).f0) := keep_cell hk HNA.out (al_cell ha0); have hc1 : w3.cell? ⟨w2.heap.size, 1, none⟩ = some (.int .i64 (bkGet B SL).f1) := keep_cell hk HNC.out (by exact al_new.trans rfl); have hc2 : w3.cell? ⟨w2.heap.size, 2, none⟩ = some (.int .i64 (bkGet B SL).f2) := keep_cell hk HNC.out (by exact al_new.trans rfl); have hc3 : w3.cell? ⟨w2.heap.size, 3, none⟩ = some (.bool false) := keep_cell hk HNC.out (by exact al_new.trans rfl); have HLC := Aside0.mk (show w2.heap.size < w3.heap.size from World.block_lt_of_cell? w3 _ hc1); have HS2 := Aside0.mk hs; clear hs; clear HS; have HS := HS2; clear HS2; clear hk) | (go_at_call 16; (with_reducible refine (St.cro (B := B) (B' := B1) (show St w g B _ from by repeat (first | exact HS.out | apply St.drew | apply St.drewN | apply St.alloc)) HOP.out).mono ?_); rintro e w4 ⟨rfl, hs, hk⟩; have hc1 : w4.cell? ⟨w2.heap.size, 1, none⟩ = some (.int .i64 (bkGet B SL).f1) := keep_cell hk HNC.out (by first | assumption | exact al_cell (by assumption)); have hc2 : w4.cell? ⟨w2.heap.size, 2, none⟩ = some (.int .i64 (bkGet B SL).f2) := keep_cell hk HNC.out (by first | assumption | exact al_cell (by assumption)); have hc3 : w4.cell? ⟨w2.heap.size, 3, none⟩ = some (.bool false) := keep_cell hk HNC.out (by first | assumption | exact al_cell (by assumption)); have HS2 := Aside0.mk hs; clear hs; clear HS; have HS := HS2; clear HS2; clear hk; simp only [errW_none]) | (go_at_call 11; (with_reducible refine (St.sum (B := B1) (v := S2) (show St w g B1 _ from by repeat (first | exact HS.out | apply St.drew | apply St.drewN | apply St.alloc)) HS2v.out).mono ?_); rintro e w7 ⟨rfl, hs, hk⟩; have HS2 := Aside0.mk hs; clear hs; clear HS; have HS := HS2; clear HS2; clear hk) | (go_at_call 17; (with_reducible refine (St.free (B := B1) (v := S2) (show St w g B1 _ from by repeat (first | exact HS.out | apply St.drew | apply St.drewN | apply St.alloc)) HS2v.out).mono ?_); rintro e w8 ⟨rfl, hs, hk⟩; have HS2 := Aside0.mk hs; clear hs; clear HS; have HS := HS2; clear HS2; clear hk))
                    go_region_held3 (fun W => W.cell? ⟨w2.heap.size, 1, none⟩ = some (.int .i64 (bkGet B SL).f1) ∧ W.cell? ⟨w2.heap.size, 2, none⟩ = some (.int .i64 (bkGet B SL).f2) ∧ W.cell? ⟨w5.heap.size, 1, none⟩ = some (.int .i64 (bkGet B SL).f2) ∧ St w g B1 W) (exact ⟨by first | exact al_cell hc1 | exact hd1, by first | exact al_cell hc2 | exact hd2, by first | exact al_new.trans rfl | exact hd3, by repeat (first | exact HS.out | apply St.drew | apply St.drewN | apply St.alloc)⟩) (first | (go_at_call 11; (with_reducible refine (St.sum (B := B1) (v := S2) (show St w g B1 _ from by repeat (first | exact HS.out | apply St.drew | apply St.drewN | apply St.alloc)) HS2v.out).mono ?_); rintro e w6 ⟨rfl, hs, hk⟩; have hd1 : w6.cell? ⟨w2.heap.size, 1, none⟩ = some (.int .i64 (bkGet B SL).f1) := keep_cell hk HNC.out (by first | exact al_cell hc1 | exact hd1); have hd2 : w6.cell? ⟨w2.heap.size, 2, none⟩ = some (.int .i64 (bkGet B SL).f2) := keep_cell hk HNC.out (by first | exact al_cell hc2 | exact hd2); have hd3 : w6.cell? ⟨w5.heap.size, 1, none⟩ = some (.int .i64 (bkGet B SL).f2) := keep_cell hk HNN.out (by first | exact al_new.trans rfl | exact hd3); have HS2 := Aside0.mk hs; clear hs; clear HS; have HS := HS2; clear HS2; clear hk))
                    all_goals go_wp2_with (first | (go_at_call 11; (with_reducible refine (St.sum (B := B1) (v := S2) (show St w g B1 _ from by repeat (first | exact HS.out | apply St.drew | apply St.drewN | apply St.alloc)) HS2v.out).mono ?_); rintro e w7 ⟨rfl, hs, hk⟩; have HS2 := Aside0.mk hs; clear hs; clear HS; have HS := HS2; clear HS2; clear hk) | (go_at_call 17; (with_reducible refine (St.free (B := B1) (v := S2) (show St w g B1 _ from by repeat (first | exact HS.out | apply St.drew | apply St.drewN | apply St.alloc)) HS2v.out).mono ?_); rintro e w8 ⟨rfl, hs, hk⟩; have HS2 := Aside0.mk hs; clear hs; clear HS; have HS := HS2; clear HS2; clear hk))
                    all_goals go_roundg k2
                    all_goals first | exact HM.out.1 | exact ⟨i + 1, by first | rfl | (simp; done) | (simp [*]; done), ⟨HM.out.2⟩, ⟨B1, HIV.out, (by first | exact HS.out | (repeat (first | exact HS.out | apply St.drewN | apply St.alloc)))⟩⟩
      · have c1b : decide (i < (l0.length : Int)) = false := decide_eq_false c1
        obtain ⟨B, hI, hS⟩ := HR.out
        have HRB := Aside0.mk hS.2
        clear HI c1 hS hI HR
        go_wp2_with (first | (go_at_call 18; refine (tithelaw08_works.calls true _ (HG.out.below (show Below w.heap.size w _ from by repeat (first | exact HRB.out | apply pw_below_drewN))) works_t).mono ?_; rintro e w6 ⟨rfl, hb⟩; have HF := Aside0.mk (below_step (show Below w.heap.size w _ from by repeat (first | exact HRB.out | apply pw_below_drewN)) hb); clear hb))
        go_ret
        exact ⟨rfl, HF.out⟩
end Ex
def tithelaw08_AdmitExact.f (l0 : List S26) : Option Bool := if l0.length ≤ 9223372036854775807 then some true else none
theorem tithelaw08_AdmitExact.calls (A0 : Option Addr) (c0 : Nat) (l0 : List S26) (r : Bool) (w : World) (hr0 : Kd.C k26 w A0 l0.length l0) (hc0 : l0.length ≤ c0) (hG : GG w) (h : tithelaw08_AdmitExact.f l0 = some r) :
    Calls Tryd.prog 3 #[.slice A0 l0.length c0] w fun e w' => e = .returned (.bool r) ∧ Below w.heap.size w w' := by
  unfold tithelaw08_AdmitExact.f at h
  by_cases hl : l0.length ≤ 9223372036854775807
  · rw [if_pos hl] at h
    obtain rfl := Option.some.inj h
    exact Ex.exact_calls A0 c0 l0 w hr0 hc0 hG hl
  · rw [if_neg hl] at h
    cases h
end Go.Proofs.YtaoicceakgipgaaDoor.Q
