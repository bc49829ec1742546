/- Proved here: what the machine does at AdmitRoom: it answers true (a walk by hand, over the contracts of the book's methods). No conditions. -/
import Derived.Test.YtaoicceakgipgaaDoorQx0
import Derived.Test.YtaoicceakgipgaaDoorQx2
import Derived.Test.YtaoicceakgipgaaDoorQx3
import Derived.Test.YtaoicceakgipgaaDoorQx4
import Derived.Test.YtaoicceakgipgaaDoorAdmRoom
import Derived.Deep.WholeRow
namespace Go.Proofs.YtaoicceakgipgaaDoor.Q
open Go.RowKit Go.Proofs.YtaoicceakgipgaaDoorW.PrintWords Go.Proofs.YtaoicceakgipgaaDoorW.PrintLast Go.Proofs.YtaoicceakgipgaaDoorW.PrintMore
attribute [local go_sem] max2_int min2_int max_two min_two max_three min_three max_four min_four   -- for this text's walks alone
set_option linter.unusedVariables false
set_option linter.unusedSimpArgs false
section
attribute [local go_sem high] bkEq
set_option maxHeartbeats 8000000 in
set_option maxRecDepth 100000 in
theorem bk_Twin (g : Nat) (b0 : List S28) (w0 w : World) (hI : IsS61 w0 w g b0) (hB : Below w0.heap.size w0 w) :
    Calls Tryd.prog 20 #[.pointer (some ⟨g, 0, none⟩)] w fun e w' => e = .returned (.pointer (some ⟨w.heap.size, 0, none⟩)) ∧ w' = w.alloc (.cells (bkc b0) 61) := by
  have hu23 := Tryd.underlying23
  have hgc := hI.1
  have hsz : (bkc b0).size = 256 := by
    have e2 := bkl_len b0
    rw [hI.2.2.2] at e2
    simp [bkc, e2]
  have hn : (Tryd.prog.info? 61).map (·.size) = some (bkc b0).size := by
    rw [hsz]; kernel_rfl
  have h1 : (bkc b0).all (·.oneCell') = true := by
    unfold bkc
    rw [List.all_toArray]
    rw [List.all_eq_true]
    intro v hv
    obtain ⟨c, _, hc⟩ := List.mem_flatMap.1 hv
    simp only [clc, List.mem_cons, List.not_mem_nil, or_false] at hc
    rcases hc with rfl | rfl | rfl | rfl <;> rfl
  obtain ⟨Z, hZ⟩ : ∃ Z : Array Value, Z = bkc bkNew := ⟨_, rfl⟩
  have hz : ∀ W : World, (zeroValue 61).run Tryd.prog W = .ok (.agg Z) W := by rw [hZ]; intro W; kernel_rfl
  have hZs : Z.size = 256 := by rw [hZ]; have := bkl_len bkNew; simp [bkc, this]; rfl
  generalize hC : bkc b0 = C at *
  have hst := run_storeCells_new (P := Tryd.prog) w 61 Z C hn (by rw [hZs, hsz]) h1
  have HGC := Aside0.mk hgc
  have HN := Aside0.mk hn
  clear hgc hn hZs hC hZ h1 hI hB
  go_enter Tryd.func20, Tryd.ntmps20
  go_wp2_with (first | (refine wpList_load_row rfl 61 (.tmp 7) rfl g rfl 61 C (0, 0) _ HGC.out Tryd.underlying61 rfl HN.out ?_))
  go_ret
  exact ⟨rfl, rfl⟩
/-- a book at block g -/
def St (w : World) (g : Nat) (B : List S28) (W : World) : Prop := IsS61 w W g B ∧ Below w.heap.size w W
theorem St.drew {w : World} {g : Nat} {B : List S28} {W : World} (h : St w g B W) : St w g B W.drew := ⟨h.1, below_drew1 h.2⟩
theorem St.drewN {w : World} {g : Nat} {B : List S28} {W : World} (h : St w g B W) (n : Nat) : St w g B (W.drewN n) := ⟨h.1, pw_below_drewN h.2 n⟩
theorem St.alloc {w : World} {g : Nat} {B : List S28} {W : World} (h : St w g B W) (o : Obj) : St w g B (W.alloc o) := ⟨h.1.alloc o, below_alloc h.2 o⟩
theorem St.twin {w : World} {g : Nat} {B : List S28} {W : World} (h : St w g B W) :
    Calls Tryd.prog 20 #[.pointer (some ⟨g, 0, none⟩)] W fun e W' => ∃ t : Nat, e = .returned (.pointer (some ⟨t, 0, none⟩)) ∧ t ≠ g ∧ St w t B W' ∧ St w g B W' := by
  refine (bk_Twin g B w W h.1 h.2).mono ?_
  rintro e W' ⟨rfl, rfl⟩
  have hlt := h.1.lt
  exact ⟨W.heap.size, rfl, by omega, ⟨⟨heap_alloc_new W _, h.2.size, h.1.2.2⟩, below_alloc h.2 _⟩, h.alloc _⟩
theorem St.add {w : World} {g t : Nat} {B B' : List S28} {W : World} {s x : Int} {r : Option Int} (ht : St w t B W) (hg : St w g B W) (hne : t ≠ g) (hB : bkAdd B s x = (r, B')) :
    Calls Tryd.prog 13 #[.pointer (some ⟨t, 0, none⟩), .int .i64 s, .int .i64 x] W fun e W' => e = .returned (errW r) ∧ St w g B W' := by
  refine (bk_Add.calls t B s x r B' w W ht.1 ht.2 (by unfold bk_Add.f; rw [hB])).mono ?_
  rintro e W' ⟨rfl, hi, hb, hk⟩
  have hlt := hg.1.lt
  exact ⟨rfl, ⟨(hk.2 g hlt (Ne.symm hne) (by simp)).trans hg.1.1, hg.1.2⟩, hb⟩
/-- a book that the loop has -/
def RmE (w : World) (g : Nat) (W : World) : Prop := ∃ B, Pure.RoomInv B ∧ St w g B W
theorem RmE.drew {w : World} {g : Nat} {W : World} (h : RmE w g W) : RmE w g W.drew := by obtain ⟨B, a, b⟩ := h; exact ⟨B, a, b.drew⟩
theorem RmE.drewN {w : World} {g : Nat} {W : World} (h : RmE w g W) (n : Nat) : RmE w g (W.drewN n) := by obtain ⟨B, a, b⟩ := h; exact ⟨B, a, b.drewN n⟩
theorem RmE.add {w : World} {g : Nat} {W : World} {s x : Int} (h : RmE w g W) (h0 : 0 ≤ s) (h1 : s < 60) :
    Calls Tryd.prog 13 #[.pointer (some ⟨g, 0, none⟩), .int .i64 s, .int .i64 x] W fun e W' => (∃ r, e = .returned (errW r)) ∧ RmE w g W' := by
  obtain ⟨B, a, b⟩ := h
  refine (bk_Add.calls g B s x (bkAdd B s x).1 (bkAdd B s x).2 w W b.1 b.2 rfl).mono ?_
  rintro e W' ⟨rfl, hi, hb, hk⟩
  exact ⟨⟨_, rfl⟩, _, Pure.room_add a h0 h1, hi, hb⟩
theorem works_t : tithelaw08_works.f = some true := by kernel_rfl
end
def tithelaw08_AdmitRoom.f (l0 : List S26) (a1 : Int) : Option Bool := some true
set_option maxHeartbeats 8000000 in
set_option maxRecDepth 100000 in
theorem tithelaw08_AdmitRoom.calls (A0 : Option Addr) (c0 : Nat) (l0 : List S26) (a1 : Int) (r : Bool) (w : World) (hr0 : Kd.C k26 w A0 l0.length l0) (hc0 : l0.length ≤ c0) (hG : GG w) (h : tithelaw08_AdmitRoom.f l0 a1 = some r) :
    Calls Tryd.prog 5 #[.slice A0 l0.length c0, .int .i64 a1] w fun e w' => e = .returned (.bool r) ∧ Below w.heap.size w w' := by
  obtain rfl := Option.some.inj h
  have hu23 := Tryd.underlying23
  have hu26 := Tryd.underlying26
  have hu34 := Tryd.underlying34
  have hu64 := Tryd.underlying64
  have HR0 := Aside0.mk hr0
  have HG := Aside0.mk hG
  clear h hG hr0 hc0
  go_enter Tryd.func5, Tryd.ntmps5
  go_wp2_with (first | (go_at_call 9; refine (admit_New.calls bkNew w _ HG.out (Below.refl _ _) rfl).mono ?_; rintro e w1 ⟨g, rfl, hi, hb, hb2⟩; have HR := Aside0.mk (show RmE w g w1 from ⟨bkNew, Pure.room_new, hi, hb⟩); clear hi hb hb2))
  go_loopg [6] 51 (fun kq v6 w' => ∃ (i : Int), v6 = .int .i64 i ∧ Aside0 ((kq : Int) + i = 51 ∧ 0 ≤ i ∧ i ≤ 50) ∧ Aside0 (RmE w g w'))
  case atStart => exact ⟨0, rfl, ⟨by decide⟩, HR⟩
  case round =>
    clear HR
    obtain ⟨i, rfl, HI, HR⟩ := hrel
    cases gk with
    | zero => exact absurd HI.out (by omega)
    | succ k2 =>
      by_cases c1 : i < (l0.length : Int)
      · have c1b : decide (i < (l0.length : Int)) = true := decide_eq_true c1
        by_cases c2 : i < 50
        · have c2b : decide (i < 50) = true := decide_eq_true c2
          have HM := Aside0.mk (show k2 < k2 + 1 ∧ (k2 : Int) + (i + 1) = 51 ∧ 0 ≤ i + 1 ∧ i + 1 ≤ 50 from ⟨by omega, by have := HI.out; omega, by have := HI.out; omega, by omega⟩)
          obtain ⟨ad, e, x0, x1, x2⟩ := at_T26 HR0.out i HI.out.2.1 c1
          cases e
          have HSof := Aside0.mk (fun (W : World) (h : RmE w g W) => show (fun W => W.cell? ⟨(ad.add (i.toNat * 3)).block, (ad.add (i.toNat * 3)).off + 1, none⟩ = some (.int .i64 (rd_T26 l0 i).f1) ∧ W.cell? ⟨(ad.add (i.toNat * 3)).block, (ad.add (i.toNat * 3)).off + 2, none⟩ = some (.int .i64 (rd_T26 l0 i).f2) ∧ RmE w g W) W from ⟨(h.choose_spec.2.2.cell (World.block_lt_of_cell? w _ x1)).trans x1, (h.choose_spec.2.2.cell (World.block_lt_of_cell? w _ x2)).trans x2, h⟩)
          have p0 : (0 ≤ i) = True := eq_true HI.out.2.1
          have p1 : (i < (l0.length : Int)) = True := eq_true c1
          have hw : wrap64 (i + 1) = i + 1 := by have := HI.out; unfold wrap64; omega
          clear HI c1 c2 x0 x1 x2
          go_wp2
          go_region_held3 (fun W => W.cell? ⟨(ad.add (i.toNat * 3)).block, (ad.add (i.toNat * 3)).off + 1, none⟩ = some (.int .i64 (rd_T26 l0 i).f1) ∧ W.cell? ⟨(ad.add (i.toNat * 3)).block, (ad.add (i.toNat * 3)).off + 2, none⟩ = some (.int .i64 (rd_T26 l0 i).f2) ∧ RmE w g W) (exact HSof.out _ (by repeat (first | exact HR.out | apply RmE.drew | apply RmE.drewN))) (first | (go_at_call 13; refine (RmE.add (w := w) (g := g) (by repeat (first | exact HR.out | apply RmE.drew | apply RmE.drewN)) (by first | exact (Pure.slot60 _).1 | (rw [i64_w]; exact (Pure.slot60 _).1)) (by first | exact (Pure.slot60 _).2 | (rw [i64_w]; exact (Pure.slot60 _).2))).mono ?_; rintro e w2 ⟨⟨r1, rfl⟩, hr⟩; have HR2 := Aside0.mk hr; clear hr; clear HR; have HR := HR2; clear HR2))
          go_wp2
          go_roundg k2
          case measure => exact HM.out.1
          case rel => exact ⟨i + 1, by first | rfl | (simp; done) | (simp [*]; done), ⟨HM.out.2⟩, HR⟩
        · have c2b : decide (i < 50) = false := decide_eq_false c2
          clear HI c1 c2
          obtain ⟨B, hRI, hS⟩ := HR.out
          clear HR
          have HS := Aside0.mk hS
          clear hS
          obtain ⟨pb0, pb1⟩ := Pure.per_b a1
          obtain ⟨PP, hPP⟩ : ∃ x, wrap64 (Int.tmod (wrap64 (Int.tmod a1 1048576 + 1048576)) 1048576 + 1) = x := ⟨_, rfl⟩
          rw [hPP] at pb0 pb1
          obtain ⟨k, hk⟩ := Pure.room_val hRI pb0 pb1
          obtain ⟨q0, q1⟩ := Pure.room_q hRI pb0 pb1
          have HOK := Aside0.mk (Pure.add63_ok hRI pb0 pb1)
          have HNO := Aside0.mk (Pure.add63_no hRI pb0 pb1)
          obtain ⟨Qv, hQv⟩ : ∃ x, Pure.fre B * PP / 1048576 = x := ⟨_, rfl⟩
          rw [hQv] at hk q0 q1 HOK HNO
          have HK := Aside0.mk hk
          have d0 : decide (Qv < 0) = false := decide_eq_false (by omega)
          have d1 : decide (PP < Qv) = false := decide_eq_false (by omega)
          have HV := Aside0.mk (show (1 ≤ PP ∧ PP ≤ 1048576) ∧ 0 ≤ Qv ∧ Qv ≤ PP from ⟨⟨pb0, pb1⟩, q0, q1⟩)
          clear hQv hk hRI
          by_cases e0 : Qv = 0
          · have d2 : decide (0 < Qv) = false := decide_eq_false (by omega)
            have d3 : (Qv == PP) = false := beq_eq_false_iff_ne.2 (by omega)
            obtain ⟨B2, hB2⟩ := HNO.out (by omega)
            have HU := Aside0.mk (Pure.up_val (q := Qv + 1) (p := PP) (by omega) (by omega) pb1)
            have hw : wrap64 (Qv + 1) = Qv + 1 := by unfold wrap64; omega
            have HB2 := Aside0.mk hB2
            clear hB2 e0 pb0 pb1 q0 q1
            go_wp2_with (first | (go_at_call 23; refine (admit_Book_Room.calls k g B PP Qv B w _ (show St w g B _ from by repeat (first | exact HS.out | apply St.drew | apply St.drewN | apply St.alloc)).1 (show St w g B _ from by repeat (first | exact HS.out | apply St.drew | apply St.drewN | apply St.alloc)).2 HK.out).mono ?_; rintro e w3 ⟨rfl, hi, hb, hk⟩; have HS2 := Aside0.mk (show St w g B w3 from ⟨hi, hb⟩); clear hi hb hk; clear HS; have HS := HS2; clear HS2) | (go_at_call 20; refine (St.twin (show St w g B _ from by repeat (first | exact HS.out | apply St.drew | apply St.drewN | apply St.alloc))).mono ?_; rintro e w4 ⟨t, rfl, htg, ht, hg⟩; have HT := Aside0.mk ht; have HS2 := Aside0.mk hg; have HTG := Aside0.mk htg; clear htg ht hg; clear HS; have HS := HS2; clear HS2) | (go_at_call 24; (with_reducible refine (tithelaw08_up.calls (Qv + 1) PP (Pure.ups (Qv + 1) PP) _ HU.out).mono ?_); rintro e w' ⟨rfl, nd, rfl⟩) | (go_at_call 13; (with_reducible refine (St.add (show St w t B _ from by repeat (first | exact HT.out | apply St.drew | apply St.drewN | apply St.alloc)) (show St w g B _ from by repeat (first | exact HS.out | apply St.drew | apply St.drewN | apply St.alloc)) HTG.out HB2.out).mono ?_); rintro e w5 ⟨rfl, hs⟩; have HS2 := Aside0.mk hs; clear hs; clear HS; have HS := HS2; clear HS2) | (go_at_call 12; refine (tithelaw08_num.calls (some 80) 80 _ rfl).mono ?_; rintro e w' ⟨rfl, nd2, rfl⟩) | (go_at_call 18; refine (tithelaw08_works.calls true _ (HG.out.below (show St w g B _ from by repeat (first | exact HS.out | apply St.drew | apply St.drewN | apply St.alloc)).2) works_t).mono ?_; rintro e w6 ⟨rfl, hb⟩; have HF := Aside0.mk (below_step (show St w g B _ from by repeat (first | exact HS.out | apply St.drew | apply St.drewN | apply St.alloc)).2 hb); clear hb))
            go_ret
            exact ⟨rfl, HF.out⟩
          · obtain ⟨B1, hB1⟩ := HOK.out (by omega)
            have HB1 := Aside0.mk hB1
            have d2 : decide (0 < Qv) = true := decide_eq_true (by omega)
            have HU1 := Aside0.mk (Pure.up_val (q := Qv) (p := PP) (by omega) (by omega) pb1)
            by_cases e1 : Qv = PP
            · have d3 : (Qv == PP) = true := beq_iff_eq.2 e1
              clear hB1 e0 e1 pb0 pb1 q0 q1
              go_wp2_with (first | (go_at_call 23; refine (admit_Book_Room.calls k g B PP Qv B w _ (show St w g B _ from by repeat (first | exact HS.out | apply St.drew | apply St.drewN | apply St.alloc)).1 (show St w g B _ from by repeat (first | exact HS.out | apply St.drew | apply St.drewN | apply St.alloc)).2 HK.out).mono ?_; rintro e w3 ⟨rfl, hi, hb, hk⟩; have HS2 := Aside0.mk (show St w g B w3 from ⟨hi, hb⟩); clear hi hb hk; clear HS; have HS := HS2; clear HS2) | (go_at_call 20; refine (St.twin (show St w g B _ from by repeat (first | exact HS.out | apply St.drew | apply St.drewN | apply St.alloc))).mono ?_; rintro e w4 ⟨t, rfl, htg, ht, hg⟩; have HT := Aside0.mk ht; have HS2 := Aside0.mk hg; have HTG := Aside0.mk htg; clear htg ht hg; clear HS; have HS := HS2; clear HS2) | (go_at_call 24; (with_reducible refine (tithelaw08_up.calls (Qv) PP (Pure.ups (Qv) PP) _ HU1.out).mono ?_); rintro e w' ⟨rfl, nd, rfl⟩) | (go_at_call 13; (with_reducible refine (St.add (show St w t B _ from by repeat (first | exact HT.out | apply St.drew | apply St.drewN | apply St.alloc)) (show St w g B _ from by repeat (first | exact HS.out | apply St.drew | apply St.drewN | apply St.alloc)) HTG.out HB1.out).mono ?_); rintro e w5 ⟨rfl, hs⟩; have HS2 := Aside0.mk hs; clear hs; clear HS; have HS := HS2; clear HS2; simp only [errW_none]) | (go_at_call 18; refine (tithelaw08_works.calls true _ (HG.out.below (show St w g B _ from by repeat (first | exact HS.out | apply St.drew | apply St.drewN | apply St.alloc)).2) works_t).mono ?_; rintro e w6 ⟨rfl, hb⟩; have HF := Aside0.mk (below_step (show St w g B _ from by repeat (first | exact HS.out | apply St.drew | apply St.drewN | apply St.alloc)).2 hb); clear hb))
              go_ret
              exact ⟨rfl, HF.out⟩
            · have d3 : (Qv == PP) = false := beq_eq_false_iff_ne.2 e1
              obtain ⟨B2, hB2⟩ := HNO.out (by omega)
              have HU := Aside0.mk (Pure.up_val (q := Qv + 1) (p := PP) (by omega) (by omega) pb1)
              have hw : wrap64 (Qv + 1) = Qv + 1 := by unfold wrap64; omega
              have HB2 := Aside0.mk hB2
              clear hB1 hB2 e0 e1 pb0 pb1 q0 q1
              go_wp2_with (first | (go_at_call 23; refine (admit_Book_Room.calls k g B PP Qv B w _ (show St w g B _ from by repeat (first | exact HS.out | apply St.drew | apply St.drewN | apply St.alloc)).1 (show St w g B _ from by repeat (first | exact HS.out | apply St.drew | apply St.drewN | apply St.alloc)).2 HK.out).mono ?_; rintro e w3 ⟨rfl, hi, hb, hk⟩; have HS2 := Aside0.mk (show St w g B w3 from ⟨hi, hb⟩); clear hi hb hk; clear HS; have HS := HS2; clear HS2) | (go_at_call 20; refine (St.twin (show St w g B _ from by repeat (first | exact HS.out | apply St.drew | apply St.drewN | apply St.alloc))).mono ?_; rintro e w4 ⟨t, rfl, htg, ht, hg⟩; have HT := Aside0.mk ht; have HS2 := Aside0.mk hg; have HTG := Aside0.mk htg; clear htg ht hg; clear HS; have HS := HS2; clear HS2) | (go_at_call 24; (with_reducible refine (tithelaw08_up.calls (Qv) PP (Pure.ups (Qv) PP) _ HU1.out).mono ?_); rintro e w' ⟨rfl, nd, rfl⟩) | (go_at_call 24; (with_reducible refine (tithelaw08_up.calls (Qv + 1) PP (Pure.ups (Qv + 1) PP) _ HU.out).mono ?_); rintro e w' ⟨rfl, nd, rfl⟩) | (go_at_call 13; (with_reducible refine (St.add (show St w t B _ from by repeat (first | exact HT.out | apply St.drew | apply St.drewN | apply St.alloc)) (show St w g B _ from by repeat (first | exact HS.out | apply St.drew | apply St.drewN | apply St.alloc)) HTG.out HB1.out).mono ?_); rintro e w5 ⟨rfl, hs⟩; have HS2 := Aside0.mk hs; clear hs; clear HS; have HS := HS2; clear HS2; simp only [errW_none]) | (go_at_call 13; (with_reducible refine (St.add (show St w t B _ from by repeat (first | exact HT.out | apply St.drew | apply St.drewN | apply St.alloc)) (show St w g B _ from by repeat (first | exact HS.out | apply St.drew | apply St.drewN | apply St.alloc)) HTG.out HB2.out).mono ?_); rintro e w5 ⟨rfl, hs⟩; have HS2 := Aside0.mk hs; clear hs; clear HS; have HS := HS2; clear HS2) | (go_at_call 12; refine (tithelaw08_num.calls (some 80) 80 _ rfl).mono ?_; rintro e w' ⟨rfl, nd2, rfl⟩) | (go_at_call 18; refine (tithelaw08_works.calls true _ (HG.out.below (show St w g B _ from by repeat (first | exact HS.out | apply St.drew | apply St.drewN | apply St.alloc)).2) works_t).mono ?_; rintro e w6 ⟨rfl, hb⟩; have HF := Aside0.mk (below_step (show St w g B _ from by repeat (first | exact HS.out | apply St.drew | apply St.drewN | apply St.alloc)).2 hb); clear hb))
              go_ret
              exact ⟨rfl, HF.out⟩
      · have c1b : decide (i < (l0.length : Int)) = false := decide_eq_false c1
        clear HI c1
        obtain ⟨B, hRI, hS⟩ := HR.out
        clear HR
        have HS := Aside0.mk hS
        clear hS
        obtain ⟨pb0, pb1⟩ := Pure.per_b a1
        obtain ⟨PP, hPP⟩ : ∃ x, wrap64 (Int.tmod (wrap64 (Int.tmod a1 1048576 + 1048576)) 1048576 + 1) = x := ⟨_, rfl⟩
        rw [hPP] at pb0 pb1
        obtain ⟨k, hk⟩ := Pure.room_val hRI pb0 pb1
        obtain ⟨q0, q1⟩ := Pure.room_q hRI pb0 pb1
        have HOK := Aside0.mk (Pure.add63_ok hRI pb0 pb1)
        have HNO := Aside0.mk (Pure.add63_no hRI pb0 pb1)
        obtain ⟨Qv, hQv⟩ : ∃ x, Pure.fre B * PP / 1048576 = x := ⟨_, rfl⟩
        rw [hQv] at hk q0 q1 HOK HNO
        have HK := Aside0.mk hk
        have d0 : decide (Qv < 0) = false := decide_eq_false (by omega)
        have d1 : decide (PP < Qv) = false := decide_eq_false (by omega)
        have HV := Aside0.mk (show (1 ≤ PP ∧ PP ≤ 1048576) ∧ 0 ≤ Qv ∧ Qv ≤ PP from ⟨⟨pb0, pb1⟩, q0, q1⟩)
        clear hQv hk hRI
        by_cases e0 : Qv = 0
        · have d2 : decide (0 < Qv) = false := decide_eq_false (by omega)
          have d3 : (Qv == PP) = false := beq_eq_false_iff_ne.2 (by omega)
          obtain ⟨B2, hB2⟩ := HNO.out (by omega)
          have HU := Aside0.mk (Pure.up_val (q := Qv + 1) (p := PP) (by omega) (by omega) pb1)
          have hw : wrap64 (Qv + 1) = Qv + 1 := by unfold wrap64; omega
          have HB2 := Aside0.mk hB2
          clear hB2 e0 pb0 pb1 q0 q1
          go_wp2_with (first | (go_at_call 23; refine (admit_Book_Room.calls k g B PP Qv B w _ (show St w g B _ from by repeat (first | exact HS.out | apply St.drew | apply St.drewN | apply St.alloc)).1 (show St w g B _ from by repeat (first | exact HS.out | apply St.drew | apply St.drewN | apply St.alloc)).2 HK.out).mono ?_; rintro e w3 ⟨rfl, hi, hb, hk⟩; have HS2 := Aside0.mk (show St w g B w3 from ⟨hi, hb⟩); clear hi hb hk; clear HS; have HS := HS2; clear HS2) | (go_at_call 20; refine (St.twin (show St w g B _ from by repeat (first | exact HS.out | apply St.drew | apply St.drewN | apply St.alloc))).mono ?_; rintro e w4 ⟨t, rfl, htg, ht, hg⟩; have HT := Aside0.mk ht; have HS2 := Aside0.mk hg; have HTG := Aside0.mk htg; clear htg ht hg; clear HS; have HS := HS2; clear HS2) | (go_at_call 24; (with_reducible refine (tithelaw08_up.calls (Qv + 1) PP (Pure.ups (Qv + 1) PP) _ HU.out).mono ?_); rintro e w' ⟨rfl, nd, rfl⟩) | (go_at_call 13; (with_reducible refine (St.add (show St w t B _ from by repeat (first | exact HT.out | apply St.drew | apply St.drewN | apply St.alloc)) (show St w g B _ from by repeat (first | exact HS.out | apply St.drew | apply St.drewN | apply St.alloc)) HTG.out HB2.out).mono ?_); rintro e w5 ⟨rfl, hs⟩; have HS2 := Aside0.mk hs; clear hs; clear HS; have HS := HS2; clear HS2) | (go_at_call 12; refine (tithelaw08_num.calls (some 80) 80 _ rfl).mono ?_; rintro e w' ⟨rfl, nd2, rfl⟩) | (go_at_call 18; refine (tithelaw08_works.calls true _ (HG.out.below (show St w g B _ from by repeat (first | exact HS.out | apply St.drew | apply St.drewN | apply St.alloc)).2) works_t).mono ?_; rintro e w6 ⟨rfl, hb⟩; have HF := Aside0.mk (below_step (show St w g B _ from by repeat (first | exact HS.out | apply St.drew | apply St.drewN | apply St.alloc)).2 hb); clear hb))
          go_ret
          exact ⟨rfl, HF.out⟩
        · obtain ⟨B1, hB1⟩ := HOK.out (by omega)
          have HB1 := Aside0.mk hB1
          have d2 : decide (0 < Qv) = true := decide_eq_true (by omega)
          have HU1 := Aside0.mk (Pure.up_val (q := Qv) (p := PP) (by omega) (by omega) pb1)
          by_cases e1 : Qv = PP
          · have d3 : (Qv == PP) = true := beq_iff_eq.2 e1
            clear hB1 e0 e1 pb0 pb1 q0 q1
            go_wp2_with (first | (go_at_call 23; refine (admit_Book_Room.calls k g B PP Qv B w _ (show St w g B _ from by repeat (first | exact HS.out | apply St.drew | apply St.drewN | apply St.alloc)).1 (show St w g B _ from by repeat (first | exact HS.out | apply St.drew | apply St.drewN | apply St.alloc)).2 HK.out).mono ?_; rintro e w3 ⟨rfl, hi, hb, hk⟩; have HS2 := Aside0.mk (show St w g B w3 from ⟨hi, hb⟩); clear hi hb hk; clear HS; have HS := HS2; clear HS2) | (go_at_call 20; refine (St.twin (show St w g B _ from by repeat (first | exact HS.out | apply St.drew | apply St.drewN | apply St.alloc))).mono ?_; rintro e w4 ⟨t, rfl, htg, ht, hg⟩; have HT := Aside0.mk ht; have HS2 := Aside0.mk hg; have HTG := Aside0.mk htg; clear htg ht hg; clear HS; have HS := HS2; clear HS2) | (go_at_call 24; (with_reducible refine (tithelaw08_up.calls (Qv) PP (Pure.ups (Qv) PP) _ HU1.out).mono ?_); rintro e w' ⟨rfl, nd, rfl⟩) | (go_at_call 13; (with_reducible refine (St.add (show St w t B _ from by repeat (first | exact HT.out | apply St.drew | apply St.drewN | apply St.alloc)) (show St w g B _ from by repeat (first | exact HS.out | apply St.drew | apply St.drewN | apply St.alloc)) HTG.out HB1.out).mono ?_); rintro e w5 ⟨rfl, hs⟩; have HS2 := Aside0.mk hs; clear hs; clear HS; have HS := HS2; clear HS2; simp only [errW_none]) | (go_at_call 18; refine (tithelaw08_works.calls true _ (HG.out.below (show St w g B _ from by repeat (first | exact HS.out | apply St.drew | apply St.drewN | apply St.alloc)).2) works_t).mono ?_; rintro e w6 ⟨rfl, hb⟩; have HF := Aside0.mk (below_step (show St w g B _ from by repeat (first | exact HS.out | apply St.drew | apply St.drewN | apply St.alloc)).2 hb); clear hb))
            go_ret
            exact ⟨rfl, HF.out⟩
          · have d3 : (Qv == PP) = false := beq_eq_false_iff_ne.2 e1
            obtain ⟨B2, hB2⟩ := HNO.out (by omega)
            have HU := Aside0.mk (Pure.up_val (q := Qv + 1) (p := PP) (by omega) (by omega) pb1)
            have hw : wrap64 (Qv + 1) = Qv + 1 := by unfold wrap64; omega
            have HB2 := Aside0.mk hB2
            clear hB1 hB2 e0 e1 pb0 pb1 q0 q1
            go_wp2_with (first | (go_at_call 23; refine (admit_Book_Room.calls k g B PP Qv B w _ (show St w g B _ from by repeat (first | exact HS.out | apply St.drew | apply St.drewN | apply St.alloc)).1 (show St w g B _ from by repeat (first | exact HS.out | apply St.drew | apply St.drewN | apply St.alloc)).2 HK.out).mono ?_; rintro e w3 ⟨rfl, hi, hb, hk⟩; have HS2 := Aside0.mk (show St w g B w3 from ⟨hi, hb⟩); clear hi hb hk; clear HS; have HS := HS2; clear HS2) | (go_at_call 20; refine (St.twin (show St w g B _ from by repeat (first | exact HS.out | apply St.drew | apply St.drewN | apply St.alloc))).mono ?_; rintro e w4 ⟨t, rfl, htg, ht, hg⟩; have HT := Aside0.mk ht; have HS2 := Aside0.mk hg; have HTG := Aside0.mk htg; clear htg ht hg; clear HS; have HS := HS2; clear HS2) | (go_at_call 24; (with_reducible refine (tithelaw08_up.calls (Qv) PP (Pure.ups (Qv) PP) _ HU1.out).mono ?_); rintro e w' ⟨rfl, nd, rfl⟩) | (go_at_call 24; (with_reducible refine (tithelaw08_up.calls (Qv + 1) PP (Pure.ups (Qv + 1) PP) _ HU.out).mono ?_); rintro e w' ⟨rfl, nd, rfl⟩) | (go_at_call 13; (with_reducible refine (St.add (show St w t B _ from by repeat (first | exact HT.out | apply St.drew | apply St.drewN | apply St.alloc)) (show St w g B _ from by repeat (first | exact HS.out | apply St.drew | apply St.drewN | apply St.alloc)) HTG.out HB1.out).mono ?_); rintro e w5 ⟨rfl, hs⟩; have HS2 := Aside0.mk hs; clear hs; clear HS; have HS := HS2; clear HS2; simp only [errW_none]) | (go_at_call 13; (with_reducible refine (St.add (show St w t B _ from by repeat (first | exact HT.out | apply St.drew | apply St.drewN | apply St.alloc)) (show St w g B _ from by repeat (first | exact HS.out | apply St.drew | apply St.drewN | apply St.alloc)) HTG.out HB2.out).mono ?_); rintro e w5 ⟨rfl, hs⟩; have HS2 := Aside0.mk hs; clear hs; clear HS; have HS := HS2; clear HS2) | (go_at_call 12; refine (tithelaw08_num.calls (some 80) 80 _ rfl).mono ?_; rintro e w' ⟨rfl, nd2, rfl⟩) | (go_at_call 18; refine (tithelaw08_works.calls true _ (HG.out.below (show St w g B _ from by repeat (first | exact HS.out | apply St.drew | apply St.drewN | apply St.alloc)).2) works_t).mono ?_; rintro e w6 ⟨rfl, hb⟩; have HF := Aside0.mk (below_step (show St w g B _ from by repeat (first | exact HS.out | apply St.drew | apply St.drewN | apply St.alloc)).2 hb); clear hb))
            go_ret
            exact ⟨rfl, HF.out⟩
end Go.Proofs.YtaoicceakgipgaaDoor.Q
