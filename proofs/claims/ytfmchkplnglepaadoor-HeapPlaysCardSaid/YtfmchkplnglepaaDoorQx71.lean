/- Proved here: what the machine does at HeapPlays: it answers true (a walk by hand, over the heap's contracts and the document's list). Conditions: the numbers are of their type; the listed variable reads as it is laid. -/
import Derived.Test.YtfmchkplnglepaaDoorHqRelI
import Derived.Test.YtfmchkplnglepaaDoorQx0
namespace Go.Proofs.YtfmchkplnglepaaDoor.Q
open Go.RowKit Go.Proofs.YtfmchkplnglepaaDoorW.PrintWords Go.Proofs.YtfmchkplnglepaaDoorW.PrintLast Go.Proofs.YtfmchkplnglepaaDoorW.PrintMore
open Go Go.Proofs.YtfmchkplnglepaaDoor.HpI Go.Proofs.YtfmchkplnglepaaDoor.R05
set_option linter.unusedVariables false
set_option linter.unusedSimpArgs false
attribute [local go_sem] max2_int min2_int max_two min_two max_three min_three max_four min_four   -- for this text's walks alone
set_option maxHeartbeats 16000000 in
set_option maxRecDepth 100000 in
theorem hplays (A0 : Option Addr) (c0 : Nat) (l0 : List S62) (w : World) (hr0 : Kd.C k62 w A0 l0.length l0) (hlen : l0.length ≤ 9223372036854775807) (hwf : ∀ e ∈ l0, -9223372036854775808 ≤ e.f1 ∧ e.f1 ≤ 9223372036854775807) (hG : GG w) :
    Calls Tryd.prog 5 #[.slice A0 l0.length c0] w fun e w' => e = .returned (.bool true) ∧ Below w.heap.size w w' := by
  have huP := Tryd.underlying58
  have huI := Tryd.underlying24
  have huO := Tryd.underlying62
  have huL := Tryd.underlying57
  have huR := Tryd.underlying60
  have huE := Tryd.underlying89
  have hu3 := Tryd.underlying3
  have HR0 := Aside0.mk hr0
  have HL0 := Aside0.mk hlen
  have HWF := Aside0.mk hwf
  have HG := Aside0.mk hG
  clear hr0 hlen hwf hG
  go_enter Tryd.func5, Tryd.ntmps5
  go_wp2_with (first
    | (go_at_call 22; refine (hs_new (P := fun k => w.heap.size ≤ k) (W := w) (fun k hk => hk)).mono ?_; rintro e w1 ⟨c, rfl, hh, ho⟩; have HP := Aside0.mk (show Pl w c [] none 0 w1 from ⟨hh.re (fun k _ hp => ⟨hp, by simp [Value.ownBlock]⟩), Kd.R_nil _ _ _ _ _, ho⟩); clear hh ho)
    | go_in)
  go_loopg [4, 5] (l0.length + 1) (fun kq v4 v5 w' => ∃ (i : Int) (A : Option Addr) (cap : Nat) (L : List En), v4 = .slice A L.length cap ∧ v5 = .int .i64 i ∧ Aside0 ((kq : Int) + i = l0.length + 1 ∧ 0 ≤ i ∧ i ≤ l0.length ∧ i ≤ 400 ∧ (L.length : Int) ≤ i) ∧ Aside0 (Pl w c L A cap w'))
  case atStart => exact ⟨0, none, 0, [], rfl, rfl, ⟨by omega, by omega, by omega, by omega, by simp⟩, ⟨by repeat (first | exact HP.out | apply Pl.drew | apply Pl.drewN)⟩⟩
  case round =>
    clear HP
    obtain ⟨i, A, cap, L, rfl, rfl, HI, HP⟩ := hrel
    cases gk with
    | zero => exact absurd HI.out (by omega)
    | succ k2 =>
      by_cases q1 : i < (l0.length : Int) ∧ i < 400
      · have c1b : decide (i < (l0.length : Int)) = true := decide_eq_true q1.1
        have c2b : decide (i < 400) = true := decide_eq_true q1.2
        obtain ⟨ad, e, x0, x1, x2⟩ := at_T62 HR0.out i HI.out.2.1 q1.1
        cases e
        replace x0 := (HP.out.bel.cell (World.block_lt_of_cell? w _ x0)).trans x0
        replace x1 := (HP.out.bel.cell (World.block_lt_of_cell? w _ x1)).trans x1
        replace x2 := (HP.out.bel.cell (World.block_lt_of_cell? w _ x2)).trans x2
        obtain ⟨op, hop⟩ : ∃ u, rd_T62 l0 i = u := ⟨_, rfl⟩
        have hmem : op ∈ l0 := by
          rw [← hop]
          have hil : i.toNat < l0.length := by have := HI.out; omega
          unfold rd_T62
          rw [List.getD_eq_getElem?_getD, List.getElem?_eq_getElem hil]
          exact List.getElem_mem hil
        have HY := Aside0.mk (HWF.out op hmem)
        rw [hop] at x0 x1 x2
        obtain ⟨x, y, t⟩ := op
        clear hop hmem
        have p0 : (0 ≤ i) = True := eq_true HI.out.2.1
        have p1 : (i < (l0.length : Int)) = True := eq_true q1.1
        have HM := Aside0.mk (show k2 < k2 + 1 ∧ (k2 : Int) + (i + 1) = l0.length + 1 ∧ 0 ≤ i + 1 ∧ i + 1 ≤ l0.length ∧ i + 1 ≤ 400 ∧ L.length < 1000000 ∧ (L.length : Int) + 1 ≤ i + 1 ∧ L.length ≤ 1000000 ∧ L.length ≤ 999999 from ⟨by omega, by have := HI.out; omega, by have := HI.out; omega, by omega, by omega, by have := HI.out; omega, by have := HI.out; omega, by have := HI.out; omega, by have := HI.out; omega⟩)
        have hw_ := Aside0.mk (show wrap64 (i + 1) = i + 1 by have := HI.out; unfold wrap64; omega)
        clear q1
        simp only at x0 x1 x2 HY
        clear HI
        have HO := Aside0.mk (HP.out.make x y t)
        have HN := Aside0.mk HP.out.1.nodup
        clear HP
        go_upto_block 2 with (fail)
        go_cut [4, 7, 8] (fun v4 v7 v8 wc => ∃ (A1 : Option Addr) (cap1 : Nat) (M : List En) (f : Int), v4 = .slice A1 M.length cap1 ∧ v7 = .int .i64 f ∧ v8 = .int .i64 f ∧ Aside0 (M.length ≤ L.length + 1) ∧ Aside0 (Po w c M A1 cap1 M none 0 [] wr.heap.size x y t wc))
        case first =>
          by_cases hx0 : x = 0
          · subst hx0
            obtain ⟨M, hM⟩ : ∃ M, pushM y t L = M := ⟨_, rfl⟩
            obtain ⟨f, hf⟩ : ∃ f, (pushE y L).getD 0 = f := ⟨_, rfl⟩
            have HF := Aside0.mk hf
            have HML := Aside0.mk (show M.length ≤ L.length + 1 from by rw [← hM]; exact pushM_len y t L)
            have HCP := Aside0.mk (fun (V : World) (hV : Po w c L A cap L none 0 [] wr.heap.size 0 y t V) => show Calls Tryd.prog 24 #[.pointer (some ⟨c, 0, none⟩), .int .i64 y, .int .i64 t] V fun e W' => e = .returned (eW (pushE y L)) ∧ Po w c M A cap L none 0 [] wr.heap.size 0 y t W' from by rw [← hM]; exact hV.calls_push HM.out.2.2.2.2.2.1 y t HY.out)
            have HRP := Aside0.mk (fun (V : World) (hV : Po w c M A cap L none 0 [] wr.heap.size 0 y t V) => show Calls Tryd.prog 25 #[.slice A L.length cap, .int .i64 y, .int .i64 t] V fun e W' => ∃ A1 cap1, e = .returned (.tuple #[.slice A1 M.length cap1, .int .i64 f]) ∧ Po w c M A1 cap1 M none 0 [] wr.heap.size 0 y t W' from by rw [← hM] at hV ⊢; rw [← hf]; exact hV.calls_rpush HM.out.2.2.2.2.2.2.2.1 y t)
            clear hM hf
            go_wp2_with (first
              | (go_at_call 24; refine (HCP.out _ (show Po w c L A cap L none 0 [] wr.heap.size 0 y t _ from by repeat (first | exact HO.out | apply Po.drew | apply Po.drewN))).mono ?_; rintro e w3 ⟨rfl, hh⟩; have HO1 := Aside0.mk hh; clear hh)
              | (go_at_call 23; refine (num_is (pushE y L) (r := f) HF.out _ (GG.below HG.out HO1.out.bel)).mono ?_; rintro e w4 ⟨rfl, hb⟩; obtain ⟨x0, x1, x2⟩ := (HO1.out.below hb).cells; have HO2 := Aside0.mk (HO1.out.below hb); clear hb)
              | (go_at_call 25; refine (HRP.out _ (show Po w c M A cap L none 0 [] wr.heap.size 0 y t _ from by repeat (first | exact HO2.out | apply Po.drew | apply Po.drewN))).mono ?_; rintro e w5 ⟨A1, cap1, rfl, hh⟩; have HO3 := Aside0.mk hh; clear hh)
              | go_in)
            go_meet
            case rel => exact ⟨_, _, M, f, rfl, by first | rfl | (simp; done) | (simp [*]; done), by first | rfl | (simp; done) | (simp [*]; done), ⟨HML.out⟩, by first | exact HO3 | exact ⟨by repeat (first | exact HO3.out | apply Po.drew | apply Po.drewN)⟩⟩
          · have e0 : (x == 0) = false := beq_eq_false_iff_ne.2 hx0
            have e0' : decide (x = 0) = false := decide_eq_false hx0
            by_cases hx2 : x = 2
            · subst hx2
              obtain ⟨M, hM⟩ : ∃ M, moveM y t L = M := ⟨_, rfl⟩
              obtain ⟨f, hf⟩ : ∃ f, (dropE y L).getD 0 = f := ⟨_, rfl⟩
              have HF := Aside0.mk hf
              have HML := Aside0.mk (show M.length ≤ L.length + 1 from by rw [← hM]; exact moveM_len y t L)
              have HCP := Aside0.mk (fun (V : World) (hV : Po w c L A cap L none 0 [] wr.heap.size 2 y t V) => show Calls Tryd.prog 26 #[.pointer (some ⟨c, 0, none⟩), .int .i64 y, .int .i64 t] V fun e W' => e = .returned (eW (dropE y L)) ∧ Po w c M A cap L none 0 [] wr.heap.size 2 y t W' from by rw [← hM]; exact hV.calls_move y t HY.out)
              have HRP := Aside0.mk (fun (V : World) (hV : Po w c M A cap L none 0 [] wr.heap.size 2 y t V) => show Calls Tryd.prog 27 #[.slice A L.length cap, .int .i64 y, .int .i64 t] V fun e W' => ∃ A1 cap1, e = .returned (.tuple #[.slice A1 M.length cap1, .int .i64 f]) ∧ Po w c M A1 cap1 M none 0 [] wr.heap.size 2 y t W' from by rw [← hM] at hV ⊢; rw [← hf]; exact hV.calls_rmove HM.out.2.2.2.2.2.2.2.2 HN.out y t)
              clear hM hf
              go_wp2_with (first
                | (go_at_call 26; refine (HCP.out _ (show Po w c L A cap L none 0 [] wr.heap.size 2 y t _ from by repeat (first | exact HO.out | apply Po.drew | apply Po.drewN))).mono ?_; rintro e w3 ⟨rfl, hh⟩; have HO1 := Aside0.mk hh; clear hh)
                | (go_at_call 23; refine (num_is (dropE y L) (r := f) HF.out _ (GG.below HG.out HO1.out.bel)).mono ?_; rintro e w4 ⟨rfl, hb⟩; obtain ⟨x0, x1, x2⟩ := (HO1.out.below hb).cells; have HO2 := Aside0.mk (HO1.out.below hb); clear hb)
                | (go_at_call 27; refine (HRP.out _ (show Po w c M A cap L none 0 [] wr.heap.size 2 y t _ from by repeat (first | exact HO2.out | apply Po.drew | apply Po.drewN))).mono ?_; rintro e w5 ⟨A1, cap1, rfl, hh⟩; have HO3 := Aside0.mk hh; clear hh)
                | go_in)
              go_meet
              case rel => exact ⟨_, _, M, f, rfl, by first | rfl | (simp; done) | (simp [*]; done), by first | rfl | (simp; done) | (simp [*]; done), ⟨HML.out⟩, by first | exact HO3 | exact ⟨by repeat (first | exact HO3.out | apply Po.drew | apply Po.drewN)⟩⟩
            · have e2 : (x == 2) = false := beq_eq_false_iff_ne.2 hx2
              have e2' : decide (x = 2) = false := decide_eq_false hx2
              by_cases hx3 : x = 3
              · subst hx3
                obtain ⟨M, hM⟩ : ∃ M, del y L = M := ⟨_, rfl⟩
                obtain ⟨f, hf⟩ : ∃ f, (dropE y L).getD 0 = f := ⟨_, rfl⟩
                have HF := Aside0.mk hf
                have HML := Aside0.mk (show M.length ≤ L.length + 1 from by rw [← hM]; have := del_len y L; omega)
                have HCP := Aside0.mk (fun (V : World) (hV : Po w c L A cap L none 0 [] wr.heap.size 3 y t V) => show Calls Tryd.prog 28 #[.pointer (some ⟨c, 0, none⟩), .int .i64 y] V fun e W' => e = .returned (eW (dropE y L)) ∧ Po w c M A cap L none 0 [] wr.heap.size 3 y t W' from by rw [← hM]; exact hV.calls_drop y HY.out)
                have HRP := Aside0.mk (fun (V : World) (hV : Po w c M A cap L none 0 [] wr.heap.size 3 y t V) => show Calls Tryd.prog 29 #[.slice A L.length cap, .int .i64 y] V fun e W' => ∃ A1 cap1, e = .returned (.tuple #[.slice A1 M.length cap1, .int .i64 f]) ∧ Po w c M A1 cap1 M none 0 [] wr.heap.size 3 y t W' from by rw [← hM] at hV ⊢; rw [← hf]; exact hV.calls_rdrop HM.out.2.2.2.2.2.2.2.1 HN.out y)
                clear hM hf
                go_wp2_with (first
                  | (go_at_call 28; refine (HCP.out _ (show Po w c L A cap L none 0 [] wr.heap.size 3 y t _ from by repeat (first | exact HO.out | apply Po.drew | apply Po.drewN))).mono ?_; rintro e w3 ⟨rfl, hh⟩; have HO1 := Aside0.mk hh; clear hh)
                  | (go_at_call 23; refine (num_is (dropE y L) (r := f) HF.out _ (GG.below HG.out HO1.out.bel)).mono ?_; rintro e w4 ⟨rfl, hb⟩; obtain ⟨x0, x1, x2⟩ := (HO1.out.below hb).cells; have HO2 := Aside0.mk (HO1.out.below hb); clear hb)
                  | (go_at_call 29; refine (HRP.out _ (show Po w c M A cap L none 0 [] wr.heap.size 3 y t _ from by repeat (first | exact HO2.out | apply Po.drew | apply Po.drewN))).mono ?_; rintro e w5 ⟨A1, cap1, rfl, hh⟩; have HO3 := Aside0.mk hh; clear hh)
                  | go_in)
                go_meet
                case rel => exact ⟨_, _, M, f, rfl, by first | rfl | (simp; done) | (simp [*]; done), by first | rfl | (simp; done) | (simp [*]; done), ⟨HML.out⟩, by first | exact HO3 | exact ⟨by repeat (first | exact HO3.out | apply Po.drew | apply Po.drewN)⟩⟩
              · have e3 : (x == 3) = false := beq_eq_false_iff_ne.2 hx3
                have e3' : decide (x = 3) = false := decide_eq_false hx3
                by_cases hx1 : x = 1
                · subst hx1
                  obtain ⟨M, hM⟩ : ∃ M, L.tail = M := ⟨_, rfl⟩
                  obtain ⟨⟨a, b, cc⟩, h3⟩ : ∃ p, first3 L = p := ⟨_, rfl⟩
                  obtain ⟨f, hf⟩ : ∃ f, (dropE a L).getD 0 = f := ⟨_, rfl⟩
                  have HML := Aside0.mk (show M.length ≤ L.length + 1 from by rw [← hM, List.length_tail]; omega)
                  have HCP := Aside0.mk (fun (V : World) (hV : Po w c L A cap L none 0 [] wr.heap.size 1 y t V) => show Calls Tryd.prog 30 #[.pointer (some ⟨c, 0, none⟩)] V fun e W' => e = .returned (.tuple #[.int .i64 a, .int .i64 b, .bool cc]) ∧ Po w c M A cap L none 0 [] wr.heap.size 1 y t W' from by have := hV.calls_pop; rw [h3, hM] at this; exact this)
                  have HFI := Aside0.mk (fun (V : World) (hV : Po w c M A cap L none 0 [] wr.heap.size 1 y t V) => show Calls Tryd.prog 31 #[.slice A L.length cap] V fun e W' => e = .returned (.tuple #[.int .i64 a, .int .i64 b, .bool cc]) ∧ Po w c M A cap L none 0 [] wr.heap.size 1 y t W' from by have := hV.calls_first; rw [h3] at this; exact this)
                  have HRP := Aside0.mk (fun (V : World) (hV : Po w c M A cap L none 0 [] wr.heap.size 1 y t V) => show Calls Tryd.prog 29 #[.slice A L.length cap, .int .i64 a] V fun e W' => ∃ A1 cap1, e = .returned (.tuple #[.slice A1 M.length cap1, .int .i64 f]) ∧ Po w c M A1 cap1 M none 0 [] wr.heap.size 1 y t W' from by
                    have hd : del a L = M := by rw [← hM, ← del_first HN.out, h3]
                    have := hV.calls_rdrop HM.out.2.2.2.2.2.2.2.1 HN.out a
                    rw [hd, hf] at this
                    exact this)
                  clear hM h3 hf
                  rcases (show cc = true ∨ cc = false by cases cc <;> simp) with rfl | rfl
                  all_goals go_wp2_with (first
                    | (go_at_call 30; refine (HCP.out _ (show Po w c L A cap L none 0 [] wr.heap.size 1 y t _ from by repeat (first | exact HO.out | apply Po.drew | apply Po.drewN))).mono ?_; rintro e w3 ⟨rfl, hh⟩; have HO1 := Aside0.mk hh; clear hh)
                    | (go_at_call 31; refine (HFI.out _ (show Po w c M A cap L none 0 [] wr.heap.size 1 y t _ from by repeat (first | exact HO1.out | apply Po.drew | apply Po.drewN))).mono ?_; rintro e w4 ⟨rfl, hh⟩; have HO2 := Aside0.mk hh; clear hh)
                    | (go_at_call 29; refine (HRP.out _ (show Po w c M A cap L none 0 [] wr.heap.size 1 y t _ from by repeat (first | exact HO2.out | apply Po.drew | apply Po.drewN))).mono ?_; rintro e w5 ⟨A1, cap1, rfl, hh⟩; have HO3 := Aside0.mk hh; clear hh)
                    | go_in)
                  all_goals (go_meet; exact ⟨_, _, M, 0, rfl, rfl, rfl, ⟨HML.out⟩, by first | exact HO3 | exact ⟨by repeat (first | exact HO3.out | apply Po.drew | apply Po.drewN)⟩⟩)
                · have e1 : (x == 1) = false := beq_eq_false_iff_ne.2 hx1
                  have e1' : decide (x = 1) = false := decide_eq_false hx1
                  by_cases hx5 : x = 5
                  · subst hx5
                    obtain ⟨⟨a, cc⟩, h3⟩ : ∃ p, keyL y L = p := ⟨_, rfl⟩
                    have HCP := Aside0.mk (fun (V : World) (hV : Po w c L A cap L none 0 [] wr.heap.size 5 y t V) => show Calls Tryd.prog 32 #[.pointer (some ⟨c, 0, none⟩), .int .i64 y] V fun e W' => e = .returned (.tuple #[.int .i64 a, .bool cc]) ∧ Po w c L A cap L none 0 [] wr.heap.size 5 y t W' from by have := hV.calls_key y HY.out; rw [h3] at this; exact this)
                    have HRP := Aside0.mk (fun (V : World) (hV : Po w c L A cap L none 0 [] wr.heap.size 5 y t V) => show Calls Tryd.prog 33 #[.slice A L.length cap, .int .i64 y] V fun e W' => e = .returned (.tuple #[.int .i64 a, .bool cc]) ∧ Po w c L A cap L none 0 [] wr.heap.size 5 y t W' from by have := hV.calls_rkey HM.out.2.2.2.2.2.2.2.1 HN.out y; rw [h3] at this; exact this)
                    clear h3
                    rcases (show cc = true ∨ cc = false by cases cc <;> simp) with rfl | rfl
                    all_goals go_wp2_with (first
                      | (go_at_call 32; refine (HCP.out _ (show Po w c L A cap L none 0 [] wr.heap.size 5 y t _ from by repeat (first | exact HO.out | apply Po.drew | apply Po.drewN))).mono ?_; rintro e w3 ⟨rfl, hh⟩; obtain ⟨x0, x1, x2⟩ := hh.cells; have HO1 := Aside0.mk hh; clear hh)
                      | (go_at_call 33; refine (HRP.out _ (show Po w c L A cap L none 0 [] wr.heap.size 5 y t _ from by repeat (first | exact HO1.out | apply Po.drew | apply Po.drewN))).mono ?_; rintro e w4 ⟨rfl, hh⟩; have HO3 := Aside0.mk hh; clear hh)
                      | go_in)
                    all_goals (go_meet; exact ⟨_, _, L, 0, rfl, rfl, rfl, ⟨Nat.le_succ _⟩, by first | exact HO3 | exact ⟨by repeat (first | exact HO3.out | apply Po.drew | apply Po.drewN)⟩⟩)
                  · have e5 : (x == 5) = false := beq_eq_false_iff_ne.2 hx5
                    have e5' : decide (x = 5) = false := decide_eq_false hx5
                    clear hx0 hx1 hx2 hx3 hx5
                    go_wp2
                    go_meet
                    case rel => exact ⟨_, _, L, 0, rfl, by first | rfl | (simp; done) | (simp [*]; done), by first | rfl | (simp; done) | (simp [*]; done), ⟨Nat.le_succ _⟩, by first | exact HO | exact ⟨by repeat (first | exact HO.out | apply Po.drew | apply Po.drewN)⟩⟩
        case rest =>
          obtain ⟨A1, cap1, M, f, rfl, rfl, rfl, HML, HO⟩ := hcut
          have HMM := Aside0.mk (show (M.length : Int) ≤ i + 1 by have h1 := HML.out; have h2 := HM.out.2.2.2.2.2.2.1; omega)
          obtain ⟨⟨a, b, cc⟩, h3⟩ : ∃ p, first3 M = p := ⟨_, rfl⟩
          have HMI := Aside0.mk (fun (V : World) (hV : Po w c M A1 cap1 M none 0 [] wr.heap.size x y t V) => show Calls Tryd.prog 34 #[.pointer (some ⟨c, 0, none⟩)] V fun e W' => e = .returned (.tuple #[.int .i64 a, .int .i64 b, .bool cc]) ∧ Po w c M A1 cap1 M none 0 [] wr.heap.size x y t W' from by have := hV.calls_min; rw [h3] at this; exact this)
          have HFI := Aside0.mk (fun (V : World) (hV : Po w c M A1 cap1 M none 0 [] wr.heap.size x y t V) => show Calls Tryd.prog 31 #[.slice A1 M.length cap1] V fun e W' => e = .returned (.tuple #[.int .i64 a, .int .i64 b, .bool cc]) ∧ Po w c M A1 cap1 M none 0 [] wr.heap.size x y t W' from by have := hV.calls_first; rw [h3] at this; exact this)
          clear h3 HN
          have hw := hw_.out
          rcases (show cc = true ∨ cc = false by cases cc <;> simp) with rfl | rfl
          all_goals go_wp2_with (first
            | (go_at_call 34; refine (HMI.out _ (show Po w c M A1 cap1 M none 0 [] wr.heap.size x y t _ from by repeat (first | exact HO.out | apply Po.drew | apply Po.drewN))).mono ?_; rintro e w3 ⟨rfl, hh⟩; have HO1 := Aside0.mk hh; clear hh)
            | (go_at_call 31; refine (HFI.out _ (show Po w c M A1 cap1 M none 0 [] wr.heap.size x y t _ from by repeat (first | exact HO1.out | apply Po.drew | apply Po.drewN))).mono ?_; rintro e w4 ⟨rfl, hh⟩; have HO2 := Aside0.mk hh; clear hh)
            | (go_at_call 35; refine (Po.calls_len (show Po w c M A1 cap1 M none 0 [] wr.heap.size x y t _ from by repeat (first | exact HO2.out | apply Po.drew | apply Po.drewN))).mono ?_; rintro e w5 ⟨rfl, hW⟩; rw [hW]; clear hW)
            | go_in)
          · go_roundg k2
            case measure => exact HM.out.1
            case rel => exact ⟨i + 1, _, _, M, rfl, by first | rfl | (simp; done) | (simp [*]; done), ⟨HM.out.2.1, HM.out.2.2.1, HM.out.2.2.2.1, HM.out.2.2.2.2.1, HMM.out⟩, ⟨(show Po w c M A1 cap1 M none 0 [] wr.heap.size x y t _ from by repeat (first | exact HO2.out | apply Po.drew | apply Po.drewN)).close⟩⟩
          · go_roundg k2
            case measure => exact HM.out.1
            case rel => exact ⟨i + 1, _, _, M, rfl, by first | rfl | (simp; done) | (simp [*]; done), ⟨HM.out.2.1, HM.out.2.2.1, HM.out.2.2.2.1, HM.out.2.2.2.2.1, HMM.out⟩, ⟨(show Po w c M A1 cap1 M none 0 [] wr.heap.size x y t _ from by repeat (first | exact HO2.out | apply Po.drew | apply Po.drewN)).close⟩⟩
      · have HLE := Aside0.mk (show L.length ≤ 1000000 from by have := HI.out; omega)
        by_cases q2 : i < (l0.length : Int)
        · have c1b : decide (i < (l0.length : Int)) = true := decide_eq_true q2
          have c2b : decide (i < 400) = false := decide_eq_false (fun h => q1 ⟨q2, h⟩)
          clear HI q1 q2
          obtain ⟨us, hus⟩ : ∃ us, L.map (·.1) = us := ⟨_, rfl⟩
          have HUS := Aside0.mk (show us.length ≤ 1000000 from by rw [← hus, List.length_map]; exact HLE.out)
          have HAL := Aside0.mk (fun (V : World) (hV : Pl w c L A cap V) => show Calls Tryd.prog 37 #[.pointer (some ⟨c, 0, none⟩)] V fun e W' => ∃ D1 d1, e = .returned (.slice D1 us.length d1) ∧ Pz w c L A cap D1 d1 us W' from by rw [← hus]; exact hV.calls_all)
          have HID := Aside0.mk (fun (V : World) (D1 : Option Addr) (d1 : Nat) (hV : Pz w c L A cap D1 d1 us V) => show Calls Tryd.prog 38 #[.slice A L.length cap] V fun e W' => ∃ D2 d2, e = .returned (.slice D2 us.length d2) ∧ Pz w c L A cap D1 d1 us W' ∧ Kd.C (Kd.int .i64) W' D2 us.length us ∧ us.length ≤ d2 from by have := hV.calls_ids HLE.out; rw [hus] at this; exact this)
          clear hus
          go_wp2_with (first
            | (go_at_call 37; refine (HAL.out _ (show Pl w c L A cap _ from by repeat (first | exact HP.out | apply Pl.drew | apply Pl.drewN))).mono ?_; rintro e w2 ⟨D1, d1, rfl, hh⟩; have HZ := Aside0.mk hh; clear hh)
            | (go_at_call 38; refine (HID.out _ D1 d1 HZ.out).mono ?_; rintro e w3 ⟨D2, d2, rfl, hh, hD, hc⟩; have HZ2 := Aside0.mk hh; have HD := Aside0.mk hD; have HCD := Aside0.mk hc; clear hh hD hc)
            | (go_at_call 36; refine (Pz.calls_same HZ2.out HUS.out HD.out HCD.out).mono ?_; rintro e w4 ⟨rfl, hh⟩; have HP2 := Aside0.mk hh; clear hh)
            | (go_at_call 39; refine (sure5 _).mono ?_; rintro e w5 ⟨rfl, hb⟩; have HP3 := Aside0.mk ((show Pl w c L A cap _ from by repeat (first | exact HP2.out | apply Pl.drew | apply Pl.drewN)).below hb); clear hb)
            | go_in)
          go_ret
          exact ⟨rfl, HP3.out.bel⟩
        · have c1b : decide (i < (l0.length : Int)) = false := decide_eq_false q2
          clear HI q1 q2
          obtain ⟨us, hus⟩ : ∃ us, L.map (·.1) = us := ⟨_, rfl⟩
          have HUS := Aside0.mk (show us.length ≤ 1000000 from by rw [← hus, List.length_map]; exact HLE.out)
          have HAL := Aside0.mk (fun (V : World) (hV : Pl w c L A cap V) => show Calls Tryd.prog 37 #[.pointer (some ⟨c, 0, none⟩)] V fun e W' => ∃ D1 d1, e = .returned (.slice D1 us.length d1) ∧ Pz w c L A cap D1 d1 us W' from by rw [← hus]; exact hV.calls_all)
          have HID := Aside0.mk (fun (V : World) (D1 : Option Addr) (d1 : Nat) (hV : Pz w c L A cap D1 d1 us V) => show Calls Tryd.prog 38 #[.slice A L.length cap] V fun e W' => ∃ D2 d2, e = .returned (.slice D2 us.length d2) ∧ Pz w c L A cap D1 d1 us W' ∧ Kd.C (Kd.int .i64) W' D2 us.length us ∧ us.length ≤ d2 from by have := hV.calls_ids HLE.out; rw [hus] at this; exact this)
          clear hus
          go_wp2_with (first
            | (go_at_call 37; refine (HAL.out _ (show Pl w c L A cap _ from by repeat (first | exact HP.out | apply Pl.drew | apply Pl.drewN))).mono ?_; rintro e w2 ⟨D1, d1, rfl, hh⟩; have HZ := Aside0.mk hh; clear hh)
            | (go_at_call 38; refine (HID.out _ D1 d1 HZ.out).mono ?_; rintro e w3 ⟨D2, d2, rfl, hh, hD, hc⟩; have HZ2 := Aside0.mk hh; have HD := Aside0.mk hD; have HCD := Aside0.mk hc; clear hh hD hc)
            | (go_at_call 36; refine (Pz.calls_same HZ2.out HUS.out HD.out HCD.out).mono ?_; rintro e w4 ⟨rfl, hh⟩; have HP2 := Aside0.mk hh; clear hh)
            | (go_at_call 39; refine (sure5 _).mono ?_; rintro e w5 ⟨rfl, hb⟩; have HP3 := Aside0.mk ((show Pl w c L A cap _ from by repeat (first | exact HP2.out | apply Pl.drew | apply Pl.drewN)).below hb); clear hb)
            | go_in)
          go_ret
          exact ⟨rfl, HP3.out.bel⟩
def tithelaw05_HeapPlays.f (l0 : List S62) : Option Bool := if l0.length ≤ 9223372036854775807 ∧ ∀ e ∈ l0, -9223372036854775808 ≤ e.f1 ∧ e.f1 ≤ 9223372036854775807 then some true else none
theorem tithelaw05_HeapPlays.calls (A0 : Option Addr) (c0 : Nat) (l0 : List S62) (r : Bool) (w : World) (hr0 : Kd.C k62 w A0 l0.length l0) (hc0 : l0.length ≤ c0) (hG : GG w) (h : tithelaw05_HeapPlays.f l0 = some r) :
    Calls Tryd.prog 5 #[.slice A0 l0.length c0] w fun e w' => e = .returned (.bool r) ∧ Below w.heap.size w w' := by
  unfold tithelaw05_HeapPlays.f at h
  split at h
  · rename_i hc
    obtain rfl := Option.some.inj h
    exact hplays A0 c0 l0 w hr0 hc.1 hc.2 hG
  · cases h
end Go.Proofs.YtfmchkplnglepaaDoor.Q
