/- Proved here: what the machine does at BoundsPlays: it answers true (a walk by hand, over the calendar's contracts and the document's list). Conditions: the numbers are of their type; the listed variable reads as it is laid. -/
import Derived.Test.YtfmchkplnglepaaDoorBpRelI
import Derived.Test.YtfmchkplnglepaaDoorHpBoPI
import Derived.Test.YtfmchkplnglepaaDoorQx0
namespace Go.Proofs.YtfmchkplnglepaaDoor.Q
open Go.RowKit Go.Proofs.YtfmchkplnglepaaDoorW.PrintWords Go.Proofs.YtfmchkplnglepaaDoorW.PrintLast Go.Proofs.YtfmchkplnglepaaDoorW.PrintMore
open Go Go.Proofs.YtfmchkplnglepaaDoor.HpI Go.Proofs.YtfmchkplnglepaaDoor.R11
set_option linter.unusedVariables false
set_option linter.unusedSimpArgs false
attribute [local go_sem] max2_int min2_int max_two min_two max_three min_three max_four min_four   -- for this text's walks alone
set_option maxHeartbeats 16000000 in
set_option maxRecDepth 100000 in
theorem bplays (A0 : Option Addr) (c0 : Nat) (l0 : List S40) (w : World) (hr0 : Kd.C k40 w A0 l0.length l0) (hlen : l0.length ≤ 9223372036854775807) (hwf : ∀ e ∈ l0, -9223372036854775808 ≤ e.f1 ∧ e.f1 ≤ 9223372036854775807) (hG : GG w) :
    Calls Tryd.prog 4 #[.slice A0 l0.length c0] w fun e w' => e = .returned (.bool true) ∧ Below w.heap.size w w' := by
  have huP := Tryd.underlying36
  have huI := Tryd.underlying24
  have huO := Tryd.underlying40
  have huL := Tryd.underlying35
  have huR := Tryd.underlying38
  have huE := Tryd.underlying53
  have hu3 := Tryd.underlying3
  have HR0 := Aside0.mk hr0
  have HL0 := Aside0.mk hlen
  have HWF := Aside0.mk hwf
  have HG := Aside0.mk hG
  clear hr0 hlen hwf hG
  go_enter Tryd.func4, Tryd.ntmps4
  go_wp2_with (first
    | (go_at_call 11; refine (cal_new (P := fun k => w.heap.size ≤ k) (W := w) (fun k hk => hk)).mono ?_; rintro e w1 ⟨c, rfl, hh, ho, _⟩; have HP := Aside0.mk (show Pl w c [] none 0 w1 from ⟨hh.re (fun k _ hp => ⟨hp, by simp [Value.ownBlock]⟩), Kd.R_nil _ _ _ _ _, ho⟩); clear hh ho)
    | go_in)
  go_loopg [4, 5] (l0.length + 1) (fun kq v4 v5 w' => ∃ (i : Int) (A : Option Addr) (cap : Nat) (L : List En), v4 = .slice A L.length cap ∧ v5 = .int .i64 i ∧ Aside0 ((kq : Int) + i = l0.length + 1 ∧ 0 ≤ i ∧ i ≤ l0.length ∧ i ≤ 300 ∧ (L.length : Int) ≤ i) ∧ Aside0 (Pl w c L A cap w'))
  case atStart => exact ⟨0, none, 0, [], rfl, rfl, ⟨by omega, by omega, by omega, by omega, by simp⟩, ⟨by repeat (first | exact HP.out | apply Pl.drew | apply Pl.drewN)⟩⟩
  case round =>
    clear HP
    obtain ⟨i, A, cap, L, rfl, rfl, HI, HP⟩ := hrel
    cases gk with
    | zero => exact absurd HI.out (by omega)
    | succ k2 =>
      by_cases q1 : i < (l0.length : Int) ∧ i < 300
      · have c1b : decide (i < (l0.length : Int)) = true := decide_eq_true q1.1
        have c2b : decide (i < 300) = true := decide_eq_true q1.2
        obtain ⟨ad, e, x0, x1, x2⟩ := at_T40 HR0.out i HI.out.2.1 q1.1
        cases e
        replace x0 := (HP.out.bel.cell (World.block_lt_of_cell? w _ x0)).trans x0
        replace x1 := (HP.out.bel.cell (World.block_lt_of_cell? w _ x1)).trans x1
        replace x2 := (HP.out.bel.cell (World.block_lt_of_cell? w _ x2)).trans x2
        obtain ⟨op, hop⟩ : ∃ u, rd_T40 l0 i = u := ⟨_, rfl⟩
        have hmem : op ∈ l0 := by
          rw [← hop]
          have hil : i.toNat < l0.length := by have := HI.out; omega
          unfold rd_T40
          rw [List.getD_eq_getElem?_getD, List.getElem?_eq_getElem hil]
          exact List.getElem_mem hil
        have HY := Aside0.mk (HWF.out op hmem)
        rw [hop] at x0 x1 x2
        obtain ⟨x, y, t⟩ := op
        clear hop hmem
        have p0 : (0 ≤ i) = True := eq_true HI.out.2.1
        have p1 : (i < (l0.length : Int)) = True := eq_true q1.1
        have HM := Aside0.mk (show k2 < k2 + 1 ∧ (k2 : Int) + (i + 1) = l0.length + 1 ∧ 0 ≤ i + 1 ∧ i + 1 ≤ l0.length ∧ i + 1 ≤ 300 ∧ L.length < 1000000 ∧ (L.length : Int) + 1 ≤ i + 1 ∧ L.length ≤ 1000000 from ⟨by omega, by have := HI.out; omega, by have := HI.out; omega, by omega, by omega, by have := HI.out; omega, by have := HI.out; omega, by have := HI.out; omega⟩)
        have hw_ := Aside0.mk (show wrap64 (i + 1) = i + 1 by have := HI.out; unfold wrap64; omega)
        clear HI q1
        simp only at x0 x1 x2 HY
        have HO := Aside0.mk (HP.out.make x y t)
        have HN := Aside0.mk HP.out.1.nodup
        clear HP
        go_upto_block 2 with (fail)
        go_cut [4] (fun v4 wc => ∃ (A1 : Option Addr) (cap1 : Nat) (M : List En) (B : Option Addr) (cb : Nat) (us : List Int), v4 = .slice A1 M.length cap1 ∧ Aside0 (M.length ≤ L.length + 1) ∧ Aside0 (Po w c M A1 cap1 M B cb us wr.heap.size x y t wc))
        case first =>
          by_cases hx0 : x = 0
          · subst hx0
            by_cases hng : y < 0 ∨ t < 0
            · have HNG := Aside0.mk hng
              clear hng
              go_wp2_with (first
                | (go_at_call 12; refine (Po.calls_rputn (show Po w c L A cap L none 0 [] wr.heap.size 0 y t _ from by repeat (first | exact HO.out | apply Po.drew | apply Po.drewN)) y t HNG.out).mono ?_; rintro e w3 ⟨rfl, hh⟩; obtain ⟨x0, x1, x2⟩ := hh.cells; have HO1 := Aside0.mk hh; clear hh)
                | (go_at_call 13; refine (Po.calls_putn (show Po w c L A cap L none 0 [] wr.heap.size 0 y t _ from by repeat (first | exact HO1.out | apply Po.drew | apply Po.drewN)) y t HNG.out).mono ?_; rintro e w4 ⟨rfl, hh⟩; have HO2 := Aside0.mk hh; clear hh)
                | (go_at_call 9; refine (num_is (some 1) (r := 1) rfl _ (GG.below HG.out HO2.out.bel)).mono ?_; rintro e w6 ⟨rfl, hb⟩; have HO3 := Aside0.mk (HO2.out.below hb); clear hb)
                | go_in)
              go_meet
              case rel => exact ⟨_, _, L, _, _, _, rfl, ⟨by omega⟩, by first | exact HO3 | exact ⟨by repeat (first | exact HO3.out | apply Po.drew | apply Po.drewN)⟩⟩
            · have HNG := Aside0.mk (show 0 ≤ y ∧ 0 ≤ t from by omega)
              obtain ⟨M, hM⟩ : ∃ M, ins (y, t) (del y L) = M := ⟨_, rfl⟩
              have HML := Aside0.mk (show M.length ≤ L.length + 1 from by rw [← hM]; exact len_put y t L)
              have HRP := Aside0.mk (fun (V : World) (hV : Po w c L A cap L none 0 [] wr.heap.size 0 y t V) => show Calls Tryd.prog 12 #[.slice A L.length cap, .int .i64 y, .int .i64 t] V fun e W' => ∃ A1 cap1, e = .returned (.tuple #[.slice A1 M.length cap1, .int .i64 0]) ∧ Po w c L A1 cap1 M none 0 [] wr.heap.size 0 y t W' from by rw [← hM]; exact hV.calls_rput HM.out.2.2.2.2.2.2.2 HN.out y t HNG.out.1 HNG.out.2)
              have HCP := Aside0.mk (fun (V : World) (A1 : Option Addr) (cap1 : Nat) (hV : Po w c L A1 cap1 M none 0 [] wr.heap.size 0 y t V) => show Calls Tryd.prog 13 #[.pointer (some ⟨c, 0, none⟩), .int .i64 y, .int .i64 t] V fun e W' => e = .returned (eW none) ∧ Po w c M A1 cap1 M none 0 [] wr.heap.size 0 y t W' from by rw [← hM] at hV ⊢; exact hV.calls_put HM.out.2.2.2.2.2.1 y t HNG.out.1 HY.out.2 HNG.out.2)
              clear hng hM
              go_wp2_with (first
                | (go_at_call 12; refine (HRP.out _ (show Po w c L A cap L none 0 [] wr.heap.size 0 y t _ from by repeat (first | exact HO.out | apply Po.drew | apply Po.drewN))).mono ?_; rintro e w3 ⟨A1, cap1, rfl, hh⟩; obtain ⟨x0, x1, x2⟩ := hh.cells; have HO1 := Aside0.mk hh; clear hh)
                | (go_at_call 13; refine (HCP.out _ A1 cap1 (show Po w c L A1 cap1 M none 0 [] wr.heap.size 0 y t _ from by repeat (first | exact HO1.out | apply Po.drew | apply Po.drewN))).mono ?_; rintro e w4 ⟨rfl, hh⟩; have HO2 := Aside0.mk hh; clear hh)
                | (go_at_call 9; refine (num_is (none) (r := 0) rfl _ (GG.below HG.out HO2.out.bel)).mono ?_; rintro e w6 ⟨rfl, hb⟩; have HO3 := Aside0.mk (HO2.out.below hb); clear hb)
                | go_in)
              go_meet
              case rel => exact ⟨_, _, M, _, _, _, rfl, ⟨HML.out⟩, by first | exact HO3 | exact ⟨by repeat (first | exact HO3.out | apply Po.drew | apply Po.drewN)⟩⟩
          · have e0 : (x == 0) = false := beq_eq_false_iff_ne.2 hx0
            have e0' : decide (x = 0) = false := decide_eq_false hx0
            by_cases hx1 : x = 1
            · subst hx1
              obtain ⟨M, hM⟩ : ∃ M, del y L = M := ⟨_, rfl⟩
              obtain ⟨f, hf⟩ : ∃ f, (dropE y L).getD 0 = f := ⟨_, rfl⟩
              have HF := Aside0.mk hf
              have HML := Aside0.mk (show M.length ≤ L.length + 1 from by have := del_len y L; rw [hM] at this; omega)
              have HRP := Aside0.mk (fun (V : World) (hV : Po w c L A cap L none 0 [] wr.heap.size 1 y t V) => show Calls Tryd.prog 14 #[.slice A L.length cap, .int .i64 y] V fun e W' => ∃ A1 cap1, e = .returned (.tuple #[.slice A1 M.length cap1, .int .i64 f]) ∧ Po w c L A1 cap1 M none 0 [] wr.heap.size 1 y t W' from by rw [← hM, ← hf]; exact hV.calls_rdrop HM.out.2.2.2.2.2.2.2 HN.out y)
              have HCP := Aside0.mk (fun (V : World) (A1 : Option Addr) (cap1 : Nat) (hV : Po w c L A1 cap1 M none 0 [] wr.heap.size 1 y t V) => show Calls Tryd.prog 15 #[.pointer (some ⟨c, 0, none⟩), .int .i64 y] V fun e W' => e = .returned (eW (dropE y L)) ∧ Po w c M A1 cap1 M none 0 [] wr.heap.size 1 y t W' from by rw [← hM] at hV ⊢; exact hV.calls_drop y HY.out)
              clear hM hf
              go_wp2_with (first
                | (go_at_call 14; refine (HRP.out _ (show Po w c L A cap L none 0 [] wr.heap.size 1 y t _ from by repeat (first | exact HO.out | apply Po.drew | apply Po.drewN))).mono ?_; rintro e w3 ⟨A1, cap1, rfl, hh⟩; obtain ⟨x0, x1, x2⟩ := hh.cells; have HO1 := Aside0.mk hh; clear hh)
                | (go_at_call 15; refine (HCP.out _ A1 cap1 (show Po w c L A1 cap1 M none 0 [] wr.heap.size 1 y t _ from by repeat (first | exact HO1.out | apply Po.drew | apply Po.drewN))).mono ?_; rintro e w4 ⟨rfl, hh⟩; have HO2 := Aside0.mk hh; clear hh)
                | (go_at_call 9; refine (num_is (dropE y L) (r := f) HF.out _ (GG.below HG.out HO2.out.bel)).mono ?_; rintro e w6 ⟨rfl, hb⟩; have HO3 := Aside0.mk (HO2.out.below hb); clear hb)
                | go_in)
              go_meet
              case rel => exact ⟨_, _, M, _, _, _, rfl, ⟨HML.out⟩, by first | exact HO3 | exact ⟨by repeat (first | exact HO3.out | apply Po.drew | apply Po.drewN)⟩⟩
            · have e1 : (x == 1) = false := beq_eq_false_iff_ne.2 hx1
              have e1' : decide (x = 1) = false := decide_eq_false hx1
              by_cases hx2 : x = 2
              · subst hx2
                obtain ⟨M, hM⟩ : ∃ M, restL L t = M := ⟨_, rfl⟩
                obtain ⟨us, hus⟩ : ∃ us, (dueL L t).map (·.1) = us := ⟨_, rfl⟩
                have hlen2 : M.length ≤ L.length + 1 ∧ us.length ≤ 1000000 := by
                  have e := congrArg List.length (due_rest L t)
                  rw [List.length_append, hM] at e
                  rw [← hus, List.length_map]
                  have := HM.out
                  omega
                have HML := Aside0.mk hlen2
                have HRP := Aside0.mk (fun (V : World) (hV : Po w c L A cap L none 0 [] wr.heap.size 2 y t V) => show Calls Tryd.prog 16 #[.slice A L.length cap, .int .i64 t] V fun e W' => ∃ A1 cap1 B cb, e = .returned (.tuple #[.slice A1 M.length cap1, .slice B (List.length us) cb]) ∧ Po w c L A1 cap1 M B cb us wr.heap.size 2 y t W' from by rw [← hM, ← hus]; exact hV.calls_rdue HM.out.2.2.2.2.2.2.2 t)
                have HCP := Aside0.mk (fun (V : World) (A1 : Option Addr) (cap1 : Nat) (B : Option Addr) (cb : Nat) (hV : Po w c L A1 cap1 M B cb us wr.heap.size 2 y t V) => show Calls Tryd.prog 17 #[.pointer (some ⟨c, 0, none⟩), .int .i64 t] V fun e W' => ∃ D cd, e = .returned (.slice D (List.length us) cd) ∧ Po w c M A1 cap1 M B cb us wr.heap.size 2 y t W' ∧ Kd.C (Kd.int .i64) W' D us.length us ∧ us.length ≤ cd from by rw [← hM, ← hus] at hV ⊢; exact hV.calls_due HM.out.2.2.2.2.2.2.2 t)
                clear hM hus hlen2
                go_wp2_with (first
                  | (go_at_call 16; refine (HRP.out _ (show Po w c L A cap L none 0 [] wr.heap.size 2 y t _ from by repeat (first | exact HO.out | apply Po.drew | apply Po.drewN))).mono ?_; rintro e w3 ⟨A1, cap1, B, cb, rfl, hh⟩; obtain ⟨x0, x1, x2⟩ := hh.cells; have HO1 := Aside0.mk hh; clear hh)
                  | (go_at_call 17; refine (HCP.out _ A1 cap1 B cb (show Po w c L A1 cap1 M B cb us wr.heap.size 2 y t _ from by repeat (first | exact HO1.out | apply Po.drew | apply Po.drewN))).mono ?_; rintro e w4 ⟨D, cd, rfl, hh, hD, hcd⟩; have HO2 := Aside0.mk hh; have HD := Aside0.mk hD; have HCD := Aside0.mk hcd; clear hh hD hcd)
                  | (go_at_call 8; refine (Po.calls_same (show Po w c M A1 cap1 M B cb us wr.heap.size 2 y t _ from by repeat (first | exact HO2.out | apply Po.drew | apply Po.drewN)) HML.out.2 ?i1 HCD.out).mono ?_; (case i1 => repeat (first | exact HD.out | (with_reducible refine Kd.C_drewN ?_ _) | (with_reducible refine Kd.C_drew ?_))); rintro e w5 ⟨rfl, hh⟩; have HO3 := Aside0.mk hh; clear hh)
                  | go_in)
                go_meet
                case rel => exact ⟨_, _, M, _, _, _, rfl, ⟨HML.out.1⟩, by first | exact HO3 | exact ⟨by repeat (first | exact HO3.out | apply Po.drew | apply Po.drewN)⟩⟩
              · have e2 : (x == 2) = false := beq_eq_false_iff_ne.2 hx2
                have e2' : decide (x = 2) = false := decide_eq_false hx2
                clear hx0 hx1 hx2
                go_wp2
                go_meet
                case rel => exact ⟨_, _, L, _, _, _, rfl, ⟨by omega⟩, by first | exact HO | exact ⟨by repeat (first | exact HO.out | apply Po.drew | apply Po.drewN)⟩⟩
        case rest =>
          obtain ⟨A1, cap1, M, B, cb, us, rfl, HML, HO⟩ := hcut
          obtain ⟨x0, x1, x2⟩ := HO.out.cells
          have hML := HML.out
          have HMM := Aside0.mk (show (M.length : Int) ≤ i + 1 by have h2 := HM.out.2.2.2.2.2.2.1; omega)
          obtain ⟨tt, hev, hor⟩ := find_key M (by have := HM.out; omega) HO.out.1.nodup y
          obtain ⟨kf, hkf⟩ := hev.ex
          clear hev HN
          rcases hor with ⟨rfl, hk⟩ | ⟨h0, h1, hk⟩
          · have HAT := Aside0.mk (fun (V : World) (hV : Po w c M A1 cap1 M B cb us wr.heap.size x y t V) => show Calls Tryd.prog 18 #[.pointer (some ⟨c, 0, none⟩), .int .i64 y] V fun e W' => e = .returned (.tuple #[.int .i64 0, .bool false]) ∧ Po w c M A1 cap1 M B cb us wr.heap.size x y t W' from by have := hV.calls_at y HY.out; rw [hk] at this; exact this)
            clear hk
            have HFI := Aside0.mk (fun (V : World) (hV : Po w c M A1 cap1 M B cb us wr.heap.size x y t V) => hV.calls_find y hkf)
            clear hkf
            by_cases hp : 0 < M.length
            · obtain ⟨na, hna⟩ : ∃ na, (rd_T53 (M.map mk) 0).f1 = na := ⟨_, rfl⟩
              obtain ⟨ad, hA⟩ : ∃ ad, A1 = some ad := by
                obtain ⟨ad, e, _⟩ := HO.out.at0 hp
                exact ⟨ad, e⟩
              subst hA
              have HNX := Aside0.mk (fun (V : World) (hV : Po w c M (some ad) cap1 M B cb us wr.heap.size x y t V) => show Calls Tryd.prog 21 #[.pointer (some ⟨c, 0, none⟩)] V fun e W' => e = .returned (.tuple #[.int .i64 na, .bool true]) ∧ Po w c M (some ad) cap1 M B cb us wr.heap.size x y t W' from by have := hV.calls_next; rw [first3_pos hp, hna] at this; exact this)
              have HNA := Aside0.mk hna
              have HPOS := Aside0.mk (show 0 < M.length from hp)
              have g1 : decide ((0 : Int) < (M.length : Int)) = true := decide_eq_true (by omega)
              have g2 : decide (0 < M.length) = true := decide_eq_true hp
              have g3 : ((0 : Int) < (M.length : Int)) = True := eq_true (by omega)
              have g4 : (0 < M.length) = True := eq_true hp
              clear hp hna
              clear hML
              have hw := hw_.out
              go_wp2_with (first
                | (go_at_call 18; refine (HAT.out _ (show Po w c M (some ad) cap1 M B cb us wr.heap.size x y t _ from by repeat (first | exact HO.out | apply Po.drew | apply Po.drewN))).mono ?_; rintro e w3 ⟨rfl, hh⟩; obtain ⟨x0, x1, x2⟩ := hh.cells; have HO1 := Aside0.mk hh; clear hh)
                | (go_at_call 19; refine (HFI.out _ (show Po w c M (some ad) cap1 M B cb us wr.heap.size x y t _ from by repeat (first | exact HO1.out | apply Po.drew | apply Po.drewN))).mono ?_; rintro e w4 ⟨rfl, hh⟩; have HO2 := Aside0.mk hh; clear hh)
                | (go_at_call 20; refine (Po.calls_len (show Po w c M (some ad) cap1 M B cb us wr.heap.size x y t _ from by repeat (first | exact HO2.out | apply Po.drew | apply Po.drewN))).mono ?_; rintro e w5 ⟨rfl, hW⟩; rw [hW]; clear hW)
                | (go_at_call 21; refine (HNX.out _ (show Po w c M (some ad) cap1 M B cb us wr.heap.size x y t _ from by repeat (first | exact HO2.out | apply Po.drew | apply Po.drewN))).mono ?_; rintro e w6 ⟨rfl, hh⟩; obtain ⟨ad2, e2, y1⟩ := hh.at0 HPOS.out; obtain rfl : ad = ad2 := (by injection e2); rw [HNA.out] at y1; clear e2; have HO3 := Aside0.mk hh; clear hh)
                | go_in)
              go_roundg k2
              case measure => exact HM.out.1
              case rel => exact ⟨i + 1, _, _, M, rfl, by first | rfl | (simp; done) | (simp [*]; done), ⟨HM.out.2.1, HM.out.2.2.1, HM.out.2.2.2.1, HM.out.2.2.2.2.1, HMM.out⟩, ⟨(show Po w c M (some ad) cap1 M B cb us wr.heap.size x y t _ from by repeat (first | exact HO3.out | apply Po.drew | apply Po.drewN)).close⟩⟩
            · have HNX := Aside0.mk (fun (V : World) (hV : Po w c M A1 cap1 M B cb us wr.heap.size x y t V) => show Calls Tryd.prog 21 #[.pointer (some ⟨c, 0, none⟩)] V fun e W' => e = .returned (.tuple #[.int .i64 0, .bool false]) ∧ Po w c M A1 cap1 M B cb us wr.heap.size x y t W' from by have := hV.calls_next; rw [first3_nil hp] at this; exact this)
              have g1 : decide ((0 : Int) < (M.length : Int)) = false := decide_eq_false (by omega)
              have g2 : decide (0 < M.length) = false := decide_eq_false hp
              clear hp
              clear hML
              have hw := hw_.out
              go_wp2_with (first
                | (go_at_call 18; refine (HAT.out _ (show Po w c M A1 cap1 M B cb us wr.heap.size x y t _ from by repeat (first | exact HO.out | apply Po.drew | apply Po.drewN))).mono ?_; rintro e w3 ⟨rfl, hh⟩; obtain ⟨x0, x1, x2⟩ := hh.cells; have HO1 := Aside0.mk hh; clear hh)
                | (go_at_call 19; refine (HFI.out _ (show Po w c M A1 cap1 M B cb us wr.heap.size x y t _ from by repeat (first | exact HO1.out | apply Po.drew | apply Po.drewN))).mono ?_; rintro e w4 ⟨rfl, hh⟩; have HO2 := Aside0.mk hh; clear hh)
                | (go_at_call 20; refine (Po.calls_len (show Po w c M A1 cap1 M B cb us wr.heap.size x y t _ from by repeat (first | exact HO2.out | apply Po.drew | apply Po.drewN))).mono ?_; rintro e w5 ⟨rfl, hW⟩; rw [hW]; clear hW)
                | (go_at_call 21; refine (HNX.out _ (show Po w c M A1 cap1 M B cb us wr.heap.size x y t _ from by repeat (first | exact HO2.out | apply Po.drew | apply Po.drewN))).mono ?_; rintro e w6 ⟨rfl, hh⟩; have HO3 := Aside0.mk hh; clear hh)
                | go_in)
              go_roundg k2
              case measure => exact HM.out.1
              case rel => exact ⟨i + 1, _, _, M, rfl, by first | rfl | (simp; done) | (simp [*]; done), ⟨HM.out.2.1, HM.out.2.2.1, HM.out.2.2.2.1, HM.out.2.2.2.2.1, HMM.out⟩, ⟨(show Po w c M A1 cap1 M B cb us wr.heap.size x y t _ from by repeat (first | exact HO3.out | apply Po.drew | apply Po.drewN)).close⟩⟩
          · obtain ⟨ka, hka⟩ : ∃ ka, (rd_T53 (M.map mk) tt).f1 = ka := ⟨_, rfl⟩
            rw [hka] at hk
            have HKA := Aside0.mk hka
            have HK := Aside0.mk (show 0 ≤ tt ∧ tt < (M.length : Int) from ⟨h0, h1⟩)
            have HAT := Aside0.mk (fun (V : World) (hV : Po w c M A1 cap1 M B cb us wr.heap.size x y t V) => show Calls Tryd.prog 18 #[.pointer (some ⟨c, 0, none⟩), .int .i64 y] V fun e W' => e = .returned (.tuple #[.int .i64 ka, .bool true]) ∧ Po w c M A1 cap1 M B cb us wr.heap.size x y t W' from by have := hV.calls_at y HY.out; rw [hk] at this; exact this)
            obtain ⟨ad, e, _⟩ := at_T53 HO.out.readC.1 tt h0 h1
            subst e
            have dk : decide (0 ≤ tt) = true := decide_eq_true h0
            have k0 : (0 ≤ tt) = True := eq_true h0
            have k1 : (tt < (M.length : Int)) = True := eq_true h1
            clear hk hka
            have HFI := Aside0.mk (fun (V : World) (hV : Po w c M (some ad) cap1 M B cb us wr.heap.size x y t V) => hV.calls_find y hkf)
            clear hkf
            have hp : 0 < M.length := by omega
            clear h0 h1
            obtain ⟨na, hna⟩ : ∃ na, (rd_T53 (M.map mk) 0).f1 = na := ⟨_, rfl⟩
            have HNX := Aside0.mk (fun (V : World) (hV : Po w c M (some ad) cap1 M B cb us wr.heap.size x y t V) => show Calls Tryd.prog 21 #[.pointer (some ⟨c, 0, none⟩)] V fun e W' => e = .returned (.tuple #[.int .i64 na, .bool true]) ∧ Po w c M (some ad) cap1 M B cb us wr.heap.size x y t W' from by have := hV.calls_next; rw [first3_pos hp, hna] at this; exact this)
            have HNA := Aside0.mk hna
            have HPOS := Aside0.mk (show 0 < M.length from hp)
            have g1 : decide ((0 : Int) < (M.length : Int)) = true := decide_eq_true (by omega)
            have g2 : decide (0 < M.length) = true := decide_eq_true hp
            have g3 : ((0 : Int) < (M.length : Int)) = True := eq_true (by omega)
            have g4 : (0 < M.length) = True := eq_true hp
            clear hp hna
            clear hML
            have hw := hw_.out
            go_wp2_with (first
              | (go_at_call 18; refine (HAT.out _ (show Po w c M (some ad) cap1 M B cb us wr.heap.size x y t _ from by repeat (first | exact HO.out | apply Po.drew | apply Po.drewN))).mono ?_; rintro e w3 ⟨rfl, hh⟩; obtain ⟨x0, x1, x2⟩ := hh.cells; have HO1 := Aside0.mk hh; clear hh)
              | (go_at_call 19; refine (HFI.out _ (show Po w c M (some ad) cap1 M B cb us wr.heap.size x y t _ from by repeat (first | exact HO1.out | apply Po.drew | apply Po.drewN))).mono ?_; rintro e w4 ⟨rfl, hh⟩; obtain ⟨ad2, e2, y0, y1⟩ := at_T53 hh.readC.1 tt HK.out.1 HK.out.2; obtain rfl : ad = ad2 := (by injection e2); rw [HKA.out] at y1; clear e2 y0; have HO2 := Aside0.mk hh; clear hh)
              | (go_at_call 20; refine (Po.calls_len (show Po w c M (some ad) cap1 M B cb us wr.heap.size x y t _ from by repeat (first | exact HO2.out | apply Po.drew | apply Po.drewN))).mono ?_; rintro e w5 ⟨rfl, hW⟩; rw [hW]; clear hW)
              | (go_at_call 21; refine (HNX.out _ (show Po w c M (some ad) cap1 M B cb us wr.heap.size x y t _ from by repeat (first | exact HO2.out | apply Po.drew | apply Po.drewN))).mono ?_; rintro e w6 ⟨rfl, hh⟩; obtain ⟨ad2, e2, y1⟩ := hh.at0 HPOS.out; obtain rfl : ad = ad2 := (by injection e2); rw [HNA.out] at y1; clear e2; have HO3 := Aside0.mk hh; clear hh)
              | go_in)
            go_roundg k2
            case measure => exact HM.out.1
            case rel => exact ⟨i + 1, _, _, M, rfl, by first | rfl | (simp; done) | (simp [*]; done), ⟨HM.out.2.1, HM.out.2.2.1, HM.out.2.2.2.1, HM.out.2.2.2.2.1, HMM.out⟩, ⟨(show Po w c M (some ad) cap1 M B cb us wr.heap.size x y t _ from by repeat (first | exact HO3.out | apply Po.drew | apply Po.drewN)).close⟩⟩
      · by_cases q2 : i < (l0.length : Int)
        · have c1b : decide (i < (l0.length : Int)) = true := decide_eq_true q2
          have c2b : decide (i < 300) = false := decide_eq_false (fun h => q1 ⟨q2, h⟩)
          clear HI q1 q2
          go_wp2_with (first
            | (go_at_call 10; refine (sure11 _).mono ?_; rintro e w2 ⟨rfl, hb⟩; have HP2 := Aside0.mk ((show Pl w c L A cap _ from by repeat (first | exact HP.out | apply Pl.drew | apply Pl.drewN)).below hb); clear hb)
            | go_in)
          go_ret
          exact ⟨rfl, HP2.out.bel⟩
        · have c1b : decide (i < (l0.length : Int)) = false := decide_eq_false q2
          clear HI q1 q2
          go_wp2_with (first
            | (go_at_call 10; refine (sure11 _).mono ?_; rintro e w2 ⟨rfl, hb⟩; have HP2 := Aside0.mk ((show Pl w c L A cap _ from by repeat (first | exact HP.out | apply Pl.drew | apply Pl.drewN)).below hb); clear hb)
            | go_in)
          go_ret
          exact ⟨rfl, HP2.out.bel⟩
def tithelaw11_BoundsPlays.f (l0 : List S40) : Option Bool := if l0.length ≤ 9223372036854775807 ∧ ∀ e ∈ l0, -9223372036854775808 ≤ e.f1 ∧ e.f1 ≤ 9223372036854775807 then some true else none
theorem tithelaw11_BoundsPlays.calls (A0 : Option Addr) (c0 : Nat) (l0 : List S40) (r : Bool) (w : World) (hr0 : Kd.C k40 w A0 l0.length l0) (hc0 : l0.length ≤ c0) (hG : GG w) (h : tithelaw11_BoundsPlays.f l0 = some r) :
    Calls Tryd.prog 4 #[.slice A0 l0.length c0] w fun e w' => e = .returned (.bool r) ∧ Below w.heap.size w w' := by
  unfold tithelaw11_BoundsPlays.f at h
  split at h
  · rename_i hc
    obtain rfl := Option.some.inj h
    exact bplays A0 c0 l0 w hr0 hc.1 hc.2 hG
  · cases h
end Go.Proofs.YtfmchkplnglepaaDoor.Q
