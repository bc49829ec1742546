/- Proved here: what the machine does at AdmitLoads: it answers true (a walk by hand, over the contracts of the book's methods). No conditions. -/
import Derived.Test.YtaoicceakgipgaaDoorQx0
import Derived.Test.YtaoicceakgipgaaDoorQx2
import Derived.Test.YtaoicceakgipgaaDoorQx3
import Derived.Test.YtaoicceakgipgaaDoorQx4
import Derived.Test.YtaoicceakgipgaaDoorQx11
import Derived.Test.YtaoicceakgipgaaDoorQx12
import Derived.Test.YtaoicceakgipgaaDoorQx14
import Derived.Test.YtaoicceakgipgaaDoorQx15
import Derived.Test.YtaoicceakgipgaaDoorAdmLoad
namespace Go.Proofs.YtaoicceakgipgaaDoor.Q
open Go.RowKit Go.Proofs.YtaoicceakgipgaaDoorW.PrintWords Go.Proofs.YtaoicceakgipgaaDoorW.PrintLast Go.Proofs.YtaoicceakgipgaaDoorW.PrintMore
attribute [local go_sem] max2_int min2_int max_two min_two max_three min_three max_four min_four   -- for this text's walks alone
set_option linter.unusedVariables false
set_option linter.unusedSimpArgs false
namespace Ld
def ldBs (cs : List S28) : Int × List S28 := Pure.ldB cs bkNew (-1)
/-- a book at block g -/
def St (w : World) (g : Nat) (B : List S28) (W : World) : Prop := IsS61 w W g B ∧ Below w.heap.size w W
theorem St.drew {w : World} {g : Nat} {B : List S28} {W : World} (h : St w g B W) : St w g B W.drew := ⟨h.1, below_drew1 h.2⟩
theorem St.drewN {w : World} {g : Nat} {B : List S28} {W : World} (h : St w g B W) (n : Nat) : St w g B (W.drewN n) := ⟨h.1, pw_below_drewN h.2 n⟩
theorem St.alloc {w : World} {g : Nat} {B : List S28} {W : World} (h : St w g B W) (o : Obj) : St w g B (W.alloc o) := ⟨h.1.alloc o, below_alloc h.2 o⟩
theorem St.below {w : World} {g : Nat} {B : List S28} {W W1 : World} (h : St w g B W) (hb : Below W.heap.size W W1) : St w g B W1 := ⟨h.1.below hb, below_step h.2 hb⟩
theorem St.set4 {w : World} {g : Nat} {B : List S28} {W : World} (h : St w g B W) {s : Int} (h0 : 0 ≤ s) (h1 : s < 64) (a b c : Int) (d : Bool) :
    St w g (bkSet B s ⟨a, b, c, d⟩) ((((W.setCell ⟨g, s.toNat * 4, none⟩ (.int .i64 a)).setCell ⟨g, s.toNat * 4 + 1, none⟩ (.int .i64 b)).setCell ⟨g, s.toNat * 4 + 2, none⟩ (.int .i64 c)).setCell ⟨g, s.toNat * 4 + 3, none⟩ (.bool d)) :=
  ⟨S_set4 h.1 h0 h1 a b c d, below_set (below_set (below_set (below_set h.2 h.1.ge) h.1.ge) h.1.ge) h.1.ge⟩
theorem St.sum {w : World} {g : Nat} {B : List S28} {W : World} {v : Int} (h : St w g B W) (hv : bkSum B = v) :
    Calls Tryd.prog 11 #[.pointer (some ⟨g, 0, none⟩)] W fun e W' => e = .returned (.int .i64 v) ∧ St w g B W' := by
  refine (bk_Sum.calls g B v B w W h.1 h.2 (by unfold bk_Sum.f; rw [hv])).mono ?_
  rintro e W' ⟨rfl, hi, hb, hk⟩
  exact ⟨rfl, hi, hb⟩
/-- what Load answers -/
def LdPost (W : World) (R : Int × List S28) (e : Ending) (w' : World) : Prop :=
  Below W.heap.size W w' ∧ ((R.1 = 0 ∧ ∃ g, e = .returned (.tuple #[.pointer (some ⟨g, 0, none⟩), errW none]) ∧ St W g R.2 w') ∨ (R.1 ≠ 0 ∧ e = .returned (.tuple #[.pointer none, errW (some R.1)])))
set_option maxHeartbeats 8000000 in
set_option maxRecDepth 100000 in
theorem ld_calls (A0 : Option Addr) (c0 : Nat) (cs : List S28) (W : World) (hr0 : Kd.C k28 W A0 cs.length cs) (hG : GG W) (hlen : cs.length ≤ 4398046511104) :
    Calls Tryd.prog 25 #[.slice A0 cs.length c0] W (LdPost W (ldBs cs)) := by
  have hu23 := Tryd.underlying23
  have hu28 := Tryd.underlying28
  have hu34 := Tryd.underlying34
  have hu64 := Tryd.underlying64
  have hu61 := Tryd.underlying61
  have hu59 := Tryd.underlying59
  have HR0 := Aside0.mk hr0
  have HG := Aside0.mk hG
  have HL0 := Aside0.mk hlen
  clear hr0 hG hlen
  go_enter Tryd.func25, Tryd.ntmps25
  go_wp2_with (first | (go_at_call 9; refine (admit_New.calls bkNew W _ HG.out (Below.refl _ _) rfl).mono ?_; rintro e w1 ⟨g, rfl, hi, hb, hb2⟩; have HS := Aside0.mk (show St W g bkNew w1 from ⟨hi, hb⟩); clear hi hb hb2))
  go_loopg [5, 11] (cs.length + 1) (fun kq v5 v11 w' => ∃ (P Q B : List S28) (last : Int), v11 = .int .i64 (P.length : Int) ∧ v5 = .int .i64 last ∧ Aside0 (kq + P.length = cs.length + 1) ∧ Aside0 (cs = P ++ Q) ∧ Aside0 (Pure.ldB Q B last = ldBs cs) ∧ Aside0 (St W g B w'))
  case atStart => exact ⟨[], cs, bkNew, -1, rfl, rfl, ⟨by simp⟩, ⟨rfl⟩, ⟨rfl⟩, HS⟩
  case round =>
    clear HS
    obtain ⟨P, Q, B, last, rfl, rfl, HK, HC, HR, HS⟩ := hrel
    cases gk with
    | zero => exact absurd HK.out (by have := congrArg List.length HC.out; simp at this; omega)
    | succ k2 =>
      cases Q with
      | nil =>
        have hc : cs.length = P.length := by have := congrArg List.length HC.out; simpa using this
        have d1 : decide ((P.length : Int) < (cs.length : Int)) = false := decide_eq_false (by omega)
        have d1n : decide (P.length < cs.length) = false := decide_eq_false (by omega)
        have hR := HR.out
        unfold Pure.ldB at hR
        by_cases hq : bkSum B > 1048576
        · rw [if_pos hq] at hR
          have d2 : decide (1048576 < bkSum B) = true := decide_eq_true hq
          have HRR := Aside0.mk hR.symm
          clear hc hq hR
          go_wp2_with (first | (go_at_call 11; refine (St.sum (v := bkSum B) (show St W g B _ from HS.out) rfl).mono ?_; rintro e w2 ⟨rfl, hs⟩; have HS2 := Aside0.mk hs; clear hs; clear HS; have HS := HS2; clear HS2))
          go_ret2
          exact ⟨HS.out.2, .inr ⟨by rw [HRR.out]; exact (by decide : (270 : Int) ≠ 0), by rw [HRR.out]; rfl⟩⟩
        · rw [if_neg hq] at hR
          have d2 : decide (1048576 < bkSum B) = false := decide_eq_false hq
          have HRR := Aside0.mk hR.symm
          clear hc hq hR
          go_wp2_with (first | (go_at_call 11; refine (St.sum (v := bkSum B) (show St W g B _ from HS.out) rfl).mono ?_; rintro e w2 ⟨rfl, hs⟩; have HS2 := Aside0.mk hs; clear hs; clear HS; have HS := HS2; clear HS2))
          go_ret2
          exact ⟨HS.out.2, .inl ⟨by rw [HRR.out], g, rfl, by rw [HRR.out]; exact HS.out⟩⟩
      | cons c Q =>
        have hc : cs.length = P.length + (Q.length + 1) := by have := congrArg List.length HC.out; simpa using this
        have d1 : decide ((P.length : Int) < (cs.length : Int)) = true := decide_eq_true (by omega)
        have d1n : decide (P.length < cs.length) = true := decide_eq_true (by omega)
        have d1m : (P.length < cs.length) = True := eq_true (by omega)
        have hg : rd_T28 cs (P.length : Int) = c := by rw [HC.out]; exact Pure.rd_mid28 P c Q
        obtain ⟨ad, e, x0, x1, x2, x3⟩ := at_T28 HR0.out (P.length : Int) (by omega) (by omega)
        cases e
        rw [hg] at x0 x1 x2 x3
        simp only [Int.toNat_natCast] at x0 x1 x2 x3
        replace x0 := (HS.out.2.cell (World.block_lt_of_cell? W _ x0)).trans x0
        replace x1 := (HS.out.2.cell (World.block_lt_of_cell? W _ x1)).trans x1
        replace x2 := (HS.out.2.cell (World.block_lt_of_cell? W _ x2)).trans x2
        replace x3 := (HS.out.2.cell (World.block_lt_of_cell? W _ x3)).trans x3
        have p1 : ((P.length : Int) < (cs.length : Int)) = True := eq_true (by omega)
        have p0 : (0 ≤ (P.length : Int)) = True := eq_true (by omega)
        have hw : wrap64 ((P.length : Int) + 1) = ((P ++ [c]).length : Int) := by have := HL0.out; exact Pure.nx2 P c (by omega)
        have HM := Aside0.mk (show k2 < k2 + 1 ∧ k2 + (P ++ [c]).length = cs.length + 1 ∧ cs = (P ++ [c]) ++ Q from ⟨by omega, by have := HK.out; simp; omega, by rw [HC.out]; simp⟩)
        have hR := HR.out
        unfold Pure.ldB at hR
        have HNE := Aside0.mk (show wr.heap.size ≠ g from by have := HS.out.1.lt; omega)
        by_cases hv : Pure.Vld c
        · rw [if_pos hv] at hR
          have dv : decide (Pure.Vld c) = true := decide_eq_true hv
          by_cases hl : c.f0 ≤ last
          · rw [if_pos hl] at hR
            have dl : decide (c.f0 ≤ last) = true := decide_eq_true hl
            have HRR := Aside0.mk hR.symm
            clear hc hg hR hv hl
            go_wp2_with (first | (go_at_call 36; refine (admit_Claim_valid.calls c.f0 c.f1 c.f2 c.f3 (decide (Pure.Vld c)) _ (Pure.valid_eq c)).mono ?_; rintro e w2 ⟨rfl, hb⟩; have HS2 := Aside0.mk (St.below (show St W g B _ from HS.out.alloc _) hb); have b0 : w2.cell? ⟨wr.heap.size, 0, none⟩ = some (.int .i64 c.f0) := (hb.cell (p := ⟨wr.heap.size, 0, none⟩) (by simp)).trans (by simp); have b1 : w2.cell? ⟨wr.heap.size, 1, none⟩ = some (.int .i64 c.f1) := (hb.cell (p := ⟨wr.heap.size, 1, none⟩) (by simp)).trans (by simp); have b2 : w2.cell? ⟨wr.heap.size, 2, none⟩ = some (.int .i64 c.f2) := (hb.cell (p := ⟨wr.heap.size, 2, none⟩) (by simp)).trans (by simp); have b3 : w2.cell? ⟨wr.heap.size, 3, none⟩ = some (.bool c.f3) := (hb.cell (p := ⟨wr.heap.size, 3, none⟩) (by simp)).trans (by simp); have HKW := Aside0.mk hb; clear hb; clear HS; have HS := HS2; clear HS2))
            go_ret2
            exact ⟨HS.out.2, .inr ⟨by rw [HRR.out]; exact (by decide : (270 : Int) ≠ 0), by rw [HRR.out]; rfl⟩⟩
          · rw [if_neg hl] at hR
            have dl : decide (c.f0 ≤ last) = false := decide_eq_false hl
            have HRR := Aside0.mk hR
            have HV := Aside0.mk hv
            have q0 := eq_true hv.1
            have q1 := eq_true hv.2.1
            clear hc hg hR hv hl
            go_wp2_with (first | (go_at_call 36; refine (admit_Claim_valid.calls c.f0 c.f1 c.f2 c.f3 (decide (Pure.Vld c)) _ (Pure.valid_eq c)).mono ?_; rintro e w2 ⟨rfl, hb⟩; have HS2 := Aside0.mk (St.below (show St W g B _ from HS.out.alloc _) hb); have b0 : w2.cell? ⟨wr.heap.size, 0, none⟩ = some (.int .i64 c.f0) := (hb.cell (p := ⟨wr.heap.size, 0, none⟩) (by simp)).trans (by simp); have b1 : w2.cell? ⟨wr.heap.size, 1, none⟩ = some (.int .i64 c.f1) := (hb.cell (p := ⟨wr.heap.size, 1, none⟩) (by simp)).trans (by simp); have b2 : w2.cell? ⟨wr.heap.size, 2, none⟩ = some (.int .i64 c.f2) := (hb.cell (p := ⟨wr.heap.size, 2, none⟩) (by simp)).trans (by simp); have b3 : w2.cell? ⟨wr.heap.size, 3, none⟩ = some (.bool c.f3) := (hb.cell (p := ⟨wr.heap.size, 3, none⟩) (by simp)).trans (by simp); have HKW := Aside0.mk hb; clear hb; clear HS; have HS := HS2; clear HS2))
            have f0 := froz_of HS.out.1 (c.f0.toNat * 4)
            have f1 := froz_of HS.out.1 (c.f0.toNat * 4 + 1)
            have f2 := froz_of HS.out.1 (c.f0.toNat * 4 + 2)
            have f3 := froz_of HS.out.1 (c.f0.toNat * 4 + 3)
            obtain ⟨g0, g1, g2, g3⟩ := cells_of HS.out.1 HV.out.1 HV.out.2.1
            have hne := HNE.out
            have hne2 := Ne.symm HNE.out
            have HBX := Aside0.mk (show (fun W' => W'.cell? ⟨wr.heap.size, 0, none⟩ = some (.int .i64 c.f0) ∧ W'.cell? ⟨wr.heap.size, 1, none⟩ = some (.int .i64 c.f1) ∧ W'.cell? ⟨wr.heap.size, 2, none⟩ = some (.int .i64 c.f2) ∧ W'.cell? ⟨wr.heap.size, 3, none⟩ = some (.bool c.f3)) w2 from ⟨b0, b1, b2, b3⟩)
            go_region_held3 (fun W' => W'.cell? ⟨wr.heap.size, 0, none⟩ = some (.int .i64 c.f0) ∧ W'.cell? ⟨wr.heap.size, 1, none⟩ = some (.int .i64 c.f1) ∧ W'.cell? ⟨wr.heap.size, 2, none⟩ = some (.int .i64 c.f2) ∧ W'.cell? ⟨wr.heap.size, 3, none⟩ = some (.bool c.f3)) (first | exact HBX.out | go_keep | (refine ⟨?_, ?_, ?_, ?_⟩ <;> (simp [*])) ) (first | fail)
            go_wp2
            go_roundg k2
            case measure => exact HM.out.1
            case rel => exact ⟨P ++ [c], Q, bkSet B c.f0 c, c.f0, by first | rfl | (simp; done) | (simp [*]; done), by first | rfl | (simp; done) | (simp [*]; done), ⟨HM.out.2.1⟩, ⟨HM.out.2.2⟩, ⟨HRR.out⟩, ⟨by repeat (first | exact St.set4 (by repeat (first | exact HS.out | apply St.drewN | apply St.drew)) HV.out.1 HV.out.2.1 c.f0 c.f1 c.f2 c.f3 | apply St.drew | apply St.drewN)⟩⟩
        · rw [if_neg hv] at hR
          have dv : decide (Pure.Vld c) = false := decide_eq_false hv
          have HRR := Aside0.mk hR.symm
          clear hc hg hR hv
          go_wp2_with (first | (go_at_call 36; refine (admit_Claim_valid.calls c.f0 c.f1 c.f2 c.f3 (decide (Pure.Vld c)) _ (Pure.valid_eq c)).mono ?_; rintro e w2 ⟨rfl, hb⟩; have HS2 := Aside0.mk (St.below (show St W g B _ from HS.out.alloc _) hb); have b0 : w2.cell? ⟨wr.heap.size, 0, none⟩ = some (.int .i64 c.f0) := (hb.cell (p := ⟨wr.heap.size, 0, none⟩) (by simp)).trans (by simp); have b1 : w2.cell? ⟨wr.heap.size, 1, none⟩ = some (.int .i64 c.f1) := (hb.cell (p := ⟨wr.heap.size, 1, none⟩) (by simp)).trans (by simp); have b2 : w2.cell? ⟨wr.heap.size, 2, none⟩ = some (.int .i64 c.f2) := (hb.cell (p := ⟨wr.heap.size, 2, none⟩) (by simp)).trans (by simp); have b3 : w2.cell? ⟨wr.heap.size, 3, none⟩ = some (.bool c.f3) := (hb.cell (p := ⟨wr.heap.size, 3, none⟩) (by simp)).trans (by simp); have HKW := Aside0.mk hb; clear hb; clear HS; have HS := HS2; clear HS2))
          go_ret2
          exact ⟨HS.out.2, .inr ⟨by rw [HRR.out]; exact (by decide : (1 : Int) ≠ 0), by rw [HRR.out]; rfl⟩⟩
/-- a claim of the program's -/
def vc (c : S51) : S28 := ⟨c.f0, c.f1, c.f2, c.f3⟩
theorem cv_vc (l : List S51) : (l.map vc).map Pure.cv = l := by
  rw [List.map_map]
  have : Pure.cv ∘ vc = id := by funext c; rfl
  rw [this, List.map_id]
theorem St.lift {w W : World} {g : Nat} {B : List S28} {W1 : World} (h : St W g B W1) (hb : Below w.heap.size w W) (hG : GG w) : St w g B W1 :=
  ⟨⟨h.1.1, Nat.le_trans hb.size h.1.2.1, hG, h.1.2.2.2⟩, below_step hb h.2⟩
theorem ref_ok {l : List S51} : ∃ k, titheref08_Load.f k l = some (if (ldBs (l.map vc)).1 = 0 then l else [], (ldBs (l.map vc)).1) := by
  have h := (Pure.ref_ld (l.map vc) [] bkNew (-1) Pure.sofar_new).1
  rw [List.nil_append, cv_vc] at h
  obtain ⟨k, hk⟩ := Tithe.Evt.ex h
  exact ⟨k, by unfold titheref08_Load.f; exact hk⟩
theorem ref_inv {l : List S51} (h : (ldBs (l.map vc)).1 = 0) : Pure.Inv (ldBs (l.map vc)).2 l := by
  have := (Pure.ref_ld (l.map vc) [] bkNew (-1) Pure.sofar_new).2 h
  rw [List.nil_append, cv_vc] at this
  exact this
theorem ld_calls' (A0 : Option Addr) (n c0 : Nat) (cs : List S28) (W : World) (hr0 : Kd.C k28 W A0 cs.length cs) (hG : GG W) (hlen : cs.length ≤ 4398046511104) (hn : n = cs.length) :
    Calls Tryd.prog 25 #[.slice A0 n c0] W (LdPost W (ldBs cs)) := by
  subst hn; exact ld_calls A0 c0 cs W hr0 hG hlen
theorem works_t : tithelaw08_works.f = some true := by kernel_rfl
set_option maxHeartbeats 8000000 in
set_option maxRecDepth 100000 in
theorem loads_calls (A0 : Option Addr) (c0 : Nat) (l0 : List S51) (A1 : Option Addr) (c1 : Nat) (l1 : List S26) (w : World) (hr0 : Kd.C k51 w A0 l0.length l0) (hc0 : l0.length ≤ c0) (hr1 : Kd.C k26 w A1 l1.length l1) (hc1 : l1.length ≤ c1) (hG : GG w)
    (hb0 : l0.length * 32 ≤ 140737488351232) (hb1 : l1.length ≤ 9223372036854775807) :
    Calls Tryd.prog 6 #[.slice A0 l0.length c0, .slice A1 l1.length c1] w fun e w' => e = .returned (.bool true) ∧ Below w.heap.size w w' := by
  have hu23 := Tryd.underlying23
  have hu26 := Tryd.underlying26
  have hu28 := Tryd.underlying28
  have hu51 := Tryd.underlying51
  have hu34 := Tryd.underlying34
  have hu64 := Tryd.underlying64
  have HR0 := Aside0.mk hr0
  have HC0 := Aside0.mk hc0
  have HR1 := Aside0.mk hr1
  have HC1 := Aside0.mk hc1
  have HG := Aside0.mk hG
  have HL0 := Aside0.mk hb0
  have HL1 := Aside0.mk hb1
  have HB := Aside0.mk (Below.refl w.heap.size w)
  clear hr0 hc0 hr1 hc1 hG hb0 hb1
  go_enter Tryd.func6, Tryd.ntmps6
  go_wp2
  go_loopg [5, 6] (l0.length + 1) (fun kq v5 v6 w' => ∃ (P Q : List S51), v6 = .int .i64 (P.length : Int) ∧ Aside0 (kq + P.length = l0.length + 1) ∧ Aside0 (l0 = P ++ Q) ∧ Aside0 (Kd.R k28 28 w' w.heap.size (fun _ => True) v5 (P.map vc)) ∧ Aside0 (Below w.heap.size w w'))
  case atStart => exact ⟨[], l0, rfl, ⟨by simp⟩, ⟨rfl⟩, ⟨Kd.R_nil _ _ _ _ _⟩, HB⟩
  case round =>
    clear HB
    obtain ⟨P, Q, rfl, HK, HC, HO, HB⟩ := hrel
    cases gk with
    | zero => exact absurd HK.out (by have := congrArg List.length HC.out; simp at this; omega)
    | succ k2 =>
      cases Q with
      | cons c Q =>
        have hc : l0.length = P.length + (Q.length + 1) := by have := congrArg List.length HC.out; simpa using this
        have d1 : decide ((P.length : Int) < (l0.length : Int)) = true := decide_eq_true (by omega)
        have d1n : decide (P.length < l0.length) = true := decide_eq_true (by omega)
        have hg : rd_T51 l0 (P.length : Int) = c := by rw [HC.out]; exact Pure.rd_mid P c Q
        obtain ⟨ad, e, x0, x1, x2, x3⟩ := at_T51 HR0.out (P.length : Int) (by omega) (by omega)
        cases e
        rw [hg] at x0 x1 x2 x3
        simp only [Int.toNat_natCast] at x0 x1 x2 x3
        replace x0 := (HB.out.cell (World.block_lt_of_cell? w _ x0)).trans x0
        replace x1 := (HB.out.cell (World.block_lt_of_cell? w _ x1)).trans x1
        replace x2 := (HB.out.cell (World.block_lt_of_cell? w _ x2)).trans x2
        replace x3 := (HB.out.cell (World.block_lt_of_cell? w _ x3)).trans x3
        have p1 : ((P.length : Int) < (l0.length : Int)) = True := eq_true (by omega)
        have p1n : (P.length < l0.length) = True := eq_true (by omega)
        have p0 : (0 ≤ (P.length : Int)) = True := eq_true (by omega)
        have hw : wrap64 ((P.length : Int) + 1) = ((P ++ [c]).length : Int) := by have := HL0.out; exact Pure.nx2 P c (by omega)
        have HM := Aside0.mk (show k2 < k2 + 1 ∧ k2 + (P ++ [c]).length = l0.length + 1 ∧ l0 = (P ++ [c]) ++ Q from ⟨by omega, by have := HK.out; simp; omega, by rw [HC.out]; simp⟩)
        have HLL := Aside0.mk (show (P.map vc).length + 1 ≤ 4398046511104 from by have := HL0.out; rw [List.length_map]; omega)
        have hmap : (P ++ [c]).map vc = P.map vc ++ [vc c] := by simp
        have HMAP := Aside0.mk hmap
        clear hc hg hmap
        go_wp2_with (first | ((with_reducible refine gate_builtin (b := .append) (xs := #[.tmp 20, .tmp 25]) rfl ?_); at_builtin; refine Kd.R_append k28 (w0 := w) w.heap.size rfl (.tmp 20) (.tmp 25) 45 28 (.agg #[(.int .i64 0), (.int .i64 0), (.int .i64 0), (.bool false)]) 32 rfl Tryd.underlying45 info28 rfl (by decide) (by omega) u5 (P.map vc) (vc c) [.int .i64 c.f0, .int .i64 c.f1, .int .i64 c.f2, .bool c.f3] (fun _ => True) (fun _ => False) rfl rfl ?aP (fun _ hk => hk.elim) ?aF ?aO ?aB ?aS ?aL ?_; (case aP => exact k28_mkM _ _ _ (vc c)); (case aF => exact fun _ _ => trivial); (case aO => exact HO.out); (case aB => exact HB.out); (case aS => exact HB.out.size); (case aL => have := HLL.out; omega); intro v1 w1 ho hb hg hat; have HO4 := Aside0.mk ho; have HB4 := Aside0.mk hb; clear ho hb hg hat))
        go_roundg k2
        case measure => exact HM.out.1
        case rel => exact ⟨P ++ [c], Q, by first | rfl | (simp; done) | (simp [*]; done), ⟨HM.out.2.1⟩, ⟨HM.out.2.2⟩, ⟨by rw [HMAP.out]; exact HO4.out⟩, HB4⟩
      | nil =>
        have hPQ : l0 = P := by have := HC.out; simpa using this
        have d1 : decide ((P.length : Int) < (l0.length : Int)) = false := decide_eq_false (by rw [hPQ]; omega)
        have d1n : decide (P.length < l0.length) = false := decide_eq_false (by rw [hPQ]; omega)
        have HO' := HO.out
        rw [← hPQ] at HO'
        obtain ⟨Am, cm, em, hlm, hrm⟩ := Kd.R_reads HO'
        subst em
        have HCL := Aside0.mk (show (l0.map vc).length ≤ 4398046511104 from by have := HL0.out; rw [List.length_map]; omega)
        have HRM := Aside0.mk hrm
        clear hPQ HO' hlm hrm HO HC HK
        obtain ⟨k, hk⟩ := ref_ok (l := l0)
        by_cases hz : (ldBs (l0.map vc)).1 = 0
        · have HZ := Aside0.mk hz
          rw [if_pos hz, hz] at hk
          have HK := Aside0.mk hk
          have HIV := Aside0.mk (ref_inv hz)
          clear hk hz
          go_wp2_with (first | (go_at_call 25; (with_reducible refine (ld_calls' Am _ cm (l0.map vc) wr HRM.out (HG.out.below HB.out) HCL.out (by simp)).mono ?_); rintro e w2 ⟨hbl, hpost⟩; rcases hpost with ⟨h0, g, rfl, hs⟩ | ⟨h0, _⟩; rotate_left; (exact absurd HZ.out h0); have HS := Aside0.mk (St.lift hs HB.out HG.out); have HB2 := Aside0.mk (below_step HB.out hbl); clear hbl h0 hs; clear HB; have HB := HB2; clear HB2) | (go_at_call 26; refine (titheref08_Load.calls k A0 c0 l0 l0 0 _ (Kd.C_below HR0.out HB.out) HC0.out HK.out).mono ?_; rintro e w3 ⟨v9, rfl, ho, hb⟩; have HO9 := Aside0.mk (Kd.R_lower ho HB.out.size); have HS2 := Aside0.mk (St.below HS.out hb); have HB2 := Aside0.mk (below_step HB.out hb); clear ho hb; clear HB; have HB := HB2; clear HB2; clear HS; have HS := HS2; clear HS2) | (go_at_call 12; refine (tithelaw08_num.calls none 0 _ rfl).mono ?_; rintro e w' ⟨rfl, nd, rfl⟩))
          go_loopg [9, 11] (l1.length + 1) (fun kq v9 v11 w' => ∃ (i : Int) (B : List S28) (m : List S51), v11 = .int .i64 i ∧ Aside0 ((kq : Int) + i = l1.length + 1 ∧ 0 ≤ i ∧ i ≤ l1.length) ∧ Aside0 (Pure.Inv B m) ∧ Aside0 (St w g B w') ∧ Aside0 (Kd.R k51 51 w' w.heap.size (fun _ => True) v9 m) ∧ Aside0 (Below w.heap.size w w'))
          case atStart => exact ⟨0, (ldBs (l0.map vc)).2, l0, rfl, ⟨by omega⟩, HIV, ⟨by repeat (first | exact HS.out | apply St.drewN)⟩, ⟨by repeat (first | exact HO9.out | apply Kd.R_drewN)⟩, ⟨by repeat (first | exact HB.out | apply pw_below_drewN)⟩⟩
          case round =>
            clear HB HS HO9 HIV
            obtain ⟨i, B, m, rfl, HI, HIV, HS, HO9, HB⟩ := hrel
            cases gk with
            | zero => exact absurd HI.out (by omega)
            | succ k3 =>
              by_cases c1 : i < (l1.length : Int)
              · have c1b : decide (i < (l1.length : Int)) = true := decide_eq_true c1
                have HM := Aside0.mk (show k3 < k3 + 1 ∧ (k3 : Int) + (i + 1) = l1.length + 1 ∧ 0 ≤ i + 1 ∧ i + 1 ≤ l1.length from ⟨by omega, by have := HI.out; omega, by have := HI.out; omega, by omega⟩)
                obtain ⟨ad, e, x0, x1, x2⟩ := at_T26 HR1.out i HI.out.2.1 c1
                cases e
                replace x0 := (HB.out.cell (World.block_lt_of_cell? w _ x0)).trans x0
                replace x1 := (HB.out.cell (World.block_lt_of_cell? w _ x1)).trans x1
                replace x2 := (HB.out.cell (World.block_lt_of_cell? w _ x2)).trans x2
                have p0 : (0 ≤ i) = True := eq_true HI.out.2.1
                have p1 : (i < (l1.length : Int)) = True := eq_true c1
                have hw : wrap64 (i + 1) = i + 1 := by have := HI.out; have := HL1.out; unfold wrap64; omega
                obtain ⟨m1, B1, he, hI1⟩ := Pure.do_rel HIV.out (rd_T26 l1 i).f0 (rd_T26 l1 i).f1 (rd_T26 l1 i).f2
                obtain ⟨kd, hd⟩ := Tithe.Evt.ex he
                have HD := Aside0.mk hd
                have HI1 := Aside0.mk hI1
                have hsm : ∃ ks, tithelaw08_same.f ks (bkL B1) m1 = some true := by
                  rw [hI1.2.1]
                  exact Tithe.Evt.ex (Pure.same_evt (by have := Pure.bk_len hI1.1; unfold Pure.bk at this; rw [List.length_map] at this; omega))
                obtain ⟨ks, hks⟩ := hsm
                have HSM := Aside0.mk hks
                clear HI c1 he hd hI1 hks
                go_wp2_with (first | (go_at_call 19; refine (tithelaw08_do.calls kd g B (fun _ => True) u9 m (rd_T26 l1 (i : Int)).f0 (rd_T26 l1 (i : Int)).f1 (rd_T26 l1 (i : Int)).f2 m1 true B1 w _ HS.out.1 HS.out.2 HO9.out HD.out).mono ?_; rintro e w4 ⟨v12, rfl, ho, hi, hb, hk⟩; have HS2 := Aside0.mk (show St w g B1 w4 from ⟨hi, hb⟩); have HO2 := Aside0.mk (Kd.R_mono (ok' := fun _ => True) ho (fun _ _ => trivial)); have HB2 := Aside0.mk hb; clear ho hi hb hk; clear HS HO9 HB; have HS := HS2; have HO9 := HO2; have HB := HB2; clear HS2 HO2 HB2) | (go_at_call 22; refine (bk_List.calls g B1 (bkL B1) B1 w _ HS.out.1 HS.out.2 rfl).mono ?_; rintro e w5 ⟨vl, rfl, ho, hi, hb, hk⟩; have HO2 := Aside0.mk (Kd.R_mono (ok' := fun _ => True) (Kd.R_keep (IsS61.apart HS.out.1 HO9.out (by decide)) hk (fun _ hk => hk.2)) (fun _ _ => trivial)); have HS2 := Aside0.mk (show St w g B1 w5 from ⟨hi, hb⟩); obtain ⟨Al, cl, el, hll, hrl⟩ := Kd.R_reads ho; subst el; have HAL := Aside0.mk hrl; have HAC := Aside0.mk hll; have HB2 := Aside0.mk hb; clear ho hi hb hk hll hrl; clear HS HO9 HB; have HS := HS2; have HO9 := HO2; have HB := HB2; clear HS2 HO2 HB2) | (go_at_call 21; obtain ⟨Am, cm, em, hlm, hrm⟩ := Kd.R_reads HO9.out; subst em; refine (tithelaw08_same.calls ks Al cl (bkL B1) Am cm m1 true _ HAL.out HAC.out hrm hlm HSM.out).mono ?_; rintro e w' ⟨rfl, nd, rfl⟩))
                go_roundg k3
                case measure => exact HM.out.1
                case rel => exact ⟨i + 1, B1, m1, by first | rfl | (simp; done) | (simp [*]; done), ⟨HM.out.2⟩, HI1, ⟨by repeat (first | exact HS.out | apply St.drewN)⟩, ⟨by repeat (first | exact HO9.out | apply Kd.R_drewN)⟩, ⟨by repeat (first | exact HB.out | apply pw_below_drewN)⟩⟩
              · have c1b : decide (i < (l1.length : Int)) = false := decide_eq_false c1
                clear HI c1
                go_wp2_with (first | (go_at_call 18; refine (tithelaw08_works.calls true _ (HG.out.below (show Below w.heap.size w _ from by repeat (first | exact HB.out | apply below_alloc | apply pw_below_drewN | apply below_drew1))) works_t).mono ?_; rintro e w6 ⟨rfl, hb⟩; have HF := Aside0.mk (below_step (show Below w.heap.size w _ from by repeat (first | exact HB.out | apply below_alloc | apply pw_below_drewN | apply below_drew1)) hb); clear hb))
                go_ret
                exact ⟨rfl, HF.out⟩
        · have HZ := Aside0.mk hz
          rw [if_neg hz] at hk
          obtain ⟨R1, hR1⟩ : ∃ x, (ldBs (l0.map vc)).1 = x := ⟨_, rfl⟩
          rw [hR1] at hk
          have HK := Aside0.mk hk
          have hR1_ := hR1
          have r0 : (R1 == 0) = false := beq_eq_false_iff_ne.2 (by rw [← hR1]; exact hz)
          have r0n : (R1 != 0) = true := bne_iff_ne.2 (by rw [← hR1]; exact hz)
          clear hk hz
          go_wp2_with (first | (go_at_call 25; (with_reducible refine (ld_calls' Am _ cm (l0.map vc) wr HRM.out (HG.out.below HB.out) HCL.out (by simp)).mono ?_); rintro e w2 ⟨hbl, hpost⟩; rcases hpost with ⟨h0, _⟩ | ⟨h0, rfl⟩; (exact absurd h0 HZ.out); have HB2 := Aside0.mk (below_step HB.out hbl); clear hbl h0; clear HB; have HB := HB2; clear HB2) | (go_at_call 26; refine (titheref08_Load.calls k A0 c0 l0 _ _ _ (Kd.C_below HR0.out HB.out) HC0.out HK.out).mono ?_; rintro e w3 ⟨v9, rfl, ho, hb⟩; have HB2 := Aside0.mk (below_step HB.out hb); clear ho hb; clear HB; have HB := HB2; clear HB2) | (go_at_call 12; refine (tithelaw08_num.calls (some R1) R1 _ rfl).mono ?_; rintro e w' ⟨rfl, nd, rfl⟩))
          go_loopg [11] 1 (fun kq v11 w' => v11 = .int .i64 0 ∧ Aside0 (kq = 1) ∧ Aside0 (Below w.heap.size w w'))
          case atStart => exact ⟨rfl, ⟨rfl⟩, ⟨by repeat (first | exact HB.out | apply pw_below_drewN)⟩⟩
          case round =>
            clear HB
            obtain ⟨rfl, HQ, HB⟩ := hrel
            by_cases hl : 0 < l1.length
            · have e1 : decide (0 < l1.length) = true := decide_eq_true hl
              have e2 : decide ((0 : Int) < (l1.length : Int)) = true := decide_eq_true (by omega)
              clear hl
              go_wp2_with (first | (go_at_call 18; refine (tithelaw08_works.calls true _ (HG.out.below (show Below w.heap.size w _ from by repeat (first | exact HB.out | apply below_alloc | apply pw_below_drewN | apply below_drew1))) works_t).mono ?_; rintro e w6 ⟨rfl, hb⟩; have HF := Aside0.mk (below_step (show Below w.heap.size w _ from by repeat (first | exact HB.out | apply below_alloc | apply pw_below_drewN | apply below_drew1)) hb); clear hb))
              go_ret
              exact ⟨rfl, HF.out⟩
            · have e1 : decide (0 < l1.length) = false := decide_eq_false hl
              have e2 : decide ((0 : Int) < (l1.length : Int)) = false := decide_eq_false (by omega)
              clear hl
              go_wp2_with (first | (go_at_call 18; refine (tithelaw08_works.calls true _ (HG.out.below (show Below w.heap.size w _ from by repeat (first | exact HB.out | apply below_alloc | apply pw_below_drewN | apply below_drew1))) works_t).mono ?_; rintro e w6 ⟨rfl, hb⟩; have HF := Aside0.mk (below_step (show Below w.heap.size w _ from by repeat (first | exact HB.out | apply below_alloc | apply pw_below_drewN | apply below_drew1)) hb); clear hb))
              go_ret
              exact ⟨rfl, HF.out⟩
end Ld
def tithelaw08_AdmitLoads.f (l0 : List S51) (l1 : List S26) : Option Bool := if l0.length * 32 ≤ 140737488351232 then (if l1.length ≤ 9223372036854775807 then some true else none) else none
theorem tithelaw08_AdmitLoads.calls (A0 : Option Addr) (c0 : Nat) (l0 : List S51) (A1 : Option Addr) (c1 : Nat) (l1 : List S26) (r : Bool) (w : World) (hr0 : Kd.C k51 w A0 l0.length l0) (hc0 : l0.length ≤ c0) (hr1 : Kd.C k26 w A1 l1.length l1) (hc1 : l1.length ≤ c1) (hG : GG w) (h : tithelaw08_AdmitLoads.f l0 l1 = some r) :
    Calls Tryd.prog 6 #[.slice A0 l0.length c0, .slice A1 l1.length c1] w fun e w' => e = .returned (.bool r) ∧ Below w.heap.size w w' := by
  unfold tithelaw08_AdmitLoads.f at h
  by_cases h0 : l0.length * 32 ≤ 140737488351232
  · rw [if_pos h0] at h
    by_cases h1 : l1.length ≤ 9223372036854775807
    · rw [if_pos h1] at h
      obtain rfl := Option.some.inj h
      exact Ld.loads_calls A0 c0 l0 A1 c1 l1 w hr0 hc0 hr1 hc1 hG h0 h1
    · rw [if_neg h1] at h
      cases h
  · rw [if_neg h0] at h
    cases h
end Go.Proofs.YtaoicceakgipgaaDoor.Q
