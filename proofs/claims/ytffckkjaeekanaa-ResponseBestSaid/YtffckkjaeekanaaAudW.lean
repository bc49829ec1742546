/- What response.Audsley answers: at each level the first entry that is in time behind all that have no place; or the error. No conditions. -/
import Derived.Test.YtffckkjaeekanaaAudT2
import Derived.Test.YtffckkjaeekanaaBx1
import Derived.Deep.DeepCutAuto
import Derived.Shelf.RegionOpenPlain
namespace Go.Proofs.Ytffckkjaeekanaa.B
open Go.RowKit Go.Proofs.YtffckkjaeekanaaW.PrintWords Go.Proofs.YtffckkjaeekanaaW.PrintLast Go.Proofs.YtffckkjaeekanaaW.PrintMore Go.Proofs.Ytffckkjaeekanaa.Aud
set_option linter.unusedVariables false
theorem made4 (n : Nat) : (madeCells #[Value.int .i64 0, .int .i64 0, .int .i64 0, .int .i64 0] (n * 4)).toList = List.replicate (n * 4) (.int .i64 0) := by
  apply List.ext_getElem
  · simp [size_madeCells]
  · intro i h1 h2
    have h : i < n * 4 := by simpa using h2
    have e : i % 4 = 0 ∨ i % 4 = 1 ∨ i % 4 = 2 ∨ i % 4 = 3 := by omega
    rcases e with e | e | e | e <;> simp [madeCells, e]
theorem R_made (W : World) (n : Nat) (hm : n ≤ maxLen) : Kd.R k39 39 (W.alloc (.cells (madeCells #[Value.int .i64 0, .int .i64 0, .int .i64 0, .int .i64 0] (n * 4)) 39)) W.heap.size (fun _ => True) (.slice (some ⟨W.heap.size, 0, none⟩) n n) (List.replicate n z39) := by
  have hz : k39.sz = 4 := rfl
  refine ⟨fun _ _ => trivial, List.replicate (n * 4) (.int .i64 0), ⟨by simp [hz], .inr ⟨W.heap.size, n, _, by simp, Nat.le_refl _, blk_new W _, by simp, hm, by rw [hz]; exact size_madeCells _ _, ?_⟩⟩, by simp [hz], fun j p hp => ?_⟩
  · rw [made4, hz]; simp
  · have hj : j < n := by simpa using (List.getElem?_eq_some_iff.1 hp).1
    obtain rfl : p = z39 := by
      have := (List.getElem?_eq_some_iff.1 hp).2
      simpa using this.symm
    have : ((List.replicate (n * 4) (Value.int .i64 0)).drop (j * 4)).take 4 = [.int .i64 0, .int .i64 0, .int .i64 0, .int .i64 0] := by
      rw [List.drop_replicate, List.take_replicate, show min 4 (n * 4 - j * 4) = 4 by omega]
      rfl
    rw [hz, this]
    exact k39_mkM _ _ _ z39
theorem S2.start {W : World} {a n : Nat} {f : Nat → Value} (h : CellsAt W a n 39 f) (cs : Array Value) (m : Nat) (g : Nat → Value) (hm : cs.size = m) (hg : ∀ i, i < m → cs[i]? = some (g i)) : S2 n 39 a m 37 W.heap.size (W.heap.size + 1) (W.alloc (.cells cs 37)) f g (W.alloc (.cells cs 37)) := by
  have hl := h.lt
  have h1 := Below.heap_alloc W (.cells cs 37) a hl
  exact ⟨h.same h1, ⟨cs, blk_new W _, hm, hg⟩, fun _ _ _ _ => rfl, by simp, rfl, rfl, rfl, by omega, by omega, by omega⟩
theorem tryN_len (l : List S39) (has : Nat → Bool) (i : Nat) : ∀ n, (tryN l has i n).length ≤ n
  | 0 => Nat.le_refl _
  | n + 1 => by
    have := tryN_len l has i n
    unfold tryN
    split
    · simp; omega
    · split
      · simp; omega
      · omega
set_option maxHeartbeats 8000000 in
set_option maxRecDepth 1000000 in
theorem response_Audsley.calls (k : Nat) (A0 : Option Addr) (c0 : Nat) (l0 : List (S39)) (A1 : Option Addr) (c1 : Nat) (l1 : List (S48)) (r1 : List (S39)) (r2 : Option Int) (w : World) (hr0 : Kd.C k39 w A0 l0.length l0) (hc0 : l0.length ≤ c0) (hr1 : Kd.C k48 w A1 l1.length l1) (hc1 : l1.length ≤ c1) (h : response_Audsley.f k l0 l1 = some (r1, r2)) :
    Calls Try.prog 5 #[.slice A0 l0.length c0, .slice A1 l1.length c1] w fun e w' => ∃ v0_ : Value, e = .returned (.tuple #[v0_, errW r2]) ∧ Kd.R k39 39 w' w.heap.size (fun _ => True) v0_ r1 ∧ Below w.heap.size w w' := by
  have hu39 := Try.underlying39
  have hu22 := Try.underlying22
  have hu26 := Try.underlying26
  have hu51 := Try.underlying51
  unfold response_Audsley.f at h
  obtain ⟨e0, he0, h⟩ := Option.bind_eq_some_iff.1 h
  have HCK := response_check.calls k A0 c0 l0 A1 c1 l1 e0 w hr0 hc0 hr1 hc1 he0
  have HR0 := Aside0.mk hr0
  have HR1 := Aside0.mk hr1
  have HC0 := Aside0.mk hc0
  have HC1 := Aside0.mk hc1
  have HCC := Aside0.mk HCK
  clear hr0 hr1 hc0 hc1 HCK he0
  by_cases h1 : e0.isSome = true
  · rw [if_pos h1] at h
    obtain ⟨rfl, rfl⟩ : [] = r1 ∧ e0 = r2 := by simpa using h
    clear h
    obtain ⟨ec, rfl⟩ := Option.isSome_iff_exists.1 h1
    clear h1
    have hne := errW_some ec
    go_enter Try.func5, Try.ntmps5
    go_wp2_with (first | (go_at_call 17; refine HCC.out.mono ?_; rintro e w1 ⟨rfl, hb⟩; have HB := Aside0.mk hb; clear hb; try simp only [errW_some]))
    go_ret2
    exact ⟨_, rfl, Kd.R_nil _ _ _ _ _, HB.out⟩
  · rw [if_neg h1] at h
    obtain rfl : e0 = none := by cases e0 with | none => rfl | some x => exact absurd rfl h1
    clear h1
    by_cases hn8 : l0.length ≤ 8
    case neg => rw [if_neg hn8] at h; exact absurd h (by simp)
    rw [if_pos hn8] at h
    obtain ⟨rr, hrr, h⟩ := Option.bind_eq_some_iff.1 h
    have HH := Aside0.mk h
    have HLV := Aside0.mk hrr
    have HN8 := Aside0.mk hn8
    clear h hrr
    have hmk22 : ∀ W : World, l0.length ≤ 8 → (Instr.makeSlice 22 (.int .i64 (l0.length : Int)) (.int .i64 (l0.length : Int))).run Try.prog W = .ok (.slice (some ⟨W.heap.size, 0, none⟩) l0.length l0.length) (W.alloc (.cells (madeCells #[Value.int .i64 0, .int .i64 0, .int .i64 0, .int .i64 0] (l0.length * 4)) 39)) := by
      intro W hl
      obtain ⟨i0, hi, hzz⟩ := Option.map_eq_some_iff.1 info39
      simp only [Prod.mk.injEq] at hzz
      obtain ⟨hz0, hz1, hz2⟩ := hzz
      have := run_make (P := Try.prog) W 22 39 i0 (.agg #[.int .i64 0, .int .i64 0, .int .i64 0, .int .i64 0]) Try.underlying22 hi hz0 .i64 .i64 (l0.length : Int) (l0.length : Int) (by omega) (by omega) (by rw [hz2]; omega) (by omega)
      rw [hz1] at this
      simp only [Int.toNat_natCast] at this
      exact this
    have hmk := fun W => hmk22 W hn8
    clear hmk22
    have hne := errW_none
    go_enter Try.func5, Try.ntmps5
    go_upto_region 5 with (first | (go_at_call 17; refine HCC.out.mono ?_; rintro e w1 ⟨rfl, hb⟩; have HB := Aside0.mk hb; clear hb HCC; try simp only [errW_none]))
    have HRM := Aside0.mk (R_made w1 l0.length (by simp only [maxLen]; omega))
    have HBM := Aside0.mk (show Below w1.heap.size w1 (w1.alloc (.cells (madeCells #[Value.int .i64 0, .int .i64 0, .int .i64 0, .int .i64 0] (l0.length * 4)) 39)) from (Below.refl _ w1).alloc (Nat.le_refl _) _)
    generalize w1.alloc (.cells (madeCells #[Value.int .i64 0, .int .i64 0, .int .i64 0, .int .i64 0] (l0.length * 4)) 39) = wm at HRM HBM ⊢
    have HA : copyrow.f (List.replicate l0.length z39) l0 = some ((l0.length : Int), l0) := by unfold copyrow.f; rw [if_pos (by simp)]
    go_wp2_with (first | ((with_reducible refine gate_builtin (b := .copy) rfl ?_); refine copyL_ rfl ?_; (refine (copyrow.calls (fun k_ => k_ = w1.heap.size) (.slice (some ⟨w1.heap.size, 0, none⟩) l0.length l0.length) (List.replicate l0.length z39) _ _ l0 _ l0 w1 _ ?side1 ?side2 ?side3 ?side4 HA rfl rfl rfl).mono ?_); (case side1 => exact HBM.out); (case side2 => exact Kd.R_reok rfl HRM.out (fun k_ e_ => by injection e_ with e_; exact e_.symm)); (case side3 => exact Kd.C_kept_came k39_heap (Kd.C_below HR0.out HB.out) HBM.out (fun k_ hs_ => (fun e_ => by omega) hs_)); (case side4 => exact HC0.out); rintro e w2 ⟨rfl, hy0, hb, hkp⟩; refine ⟨_, rfl, ?_⟩; have HY := Aside0.mk hy0; have HB2 := Aside0.mk hb; clear hy0 hb hkp))
    have hla := cells_of_R (Kd.R_mono HY.out (fun _ _ => trivial) : Kd.R k39 39 w2 w1.heap.size (fun _ => True) _ _)
    have HS := Aside0.mk (S2.start hla #[Value.bool false, .bool false, .bool false, .bool false, .bool false, .bool false, .bool false, .bool false] 8 (hasV (au0 l0).has) rfl (fun i hi => by
      have e : i = 0 ∨ i = 1 ∨ i = 2 ∨ i = 3 ∨ i = 4 ∨ i = 5 ∨ i = 6 ∨ i = 7 := by omega
      rcases e with e | e | e | e | e | e | e | e <;> subst e <;> rfl))
    have HW0 := Aside0.mk (show Below w1.heap.size w1 (w2.alloc (.cells #[Value.bool false, .bool false, .bool false, .bool false, .bool false, .bool false, .bool false, .bool false] 37)) from HB2.out.alloc HB2.out.size _)
    have HSZ := Aside0.mk (show (w2.alloc (.cells #[Value.bool false, .bool false, .bool false, .bool false, .bool false, .bool false, .bool false, .bool false] 37)).heap.size ≤ w2.heap.size + 1 from by simp)
    have hq2 := HB2.out.size
    generalize w2.alloc (.cells #[Value.bool false, .bool false, .bool false, .bool false, .bool false, .bool false, .bool false, .bool false] 37) = W0 at HS HW0 HSZ ⊢
    obtain ⟨b, hb⟩ : ∃ b, b = w2.heap.size := ⟨_, rfl⟩
    obtain ⟨a, ha⟩ : ∃ a, a = w1.heap.size := ⟨_, rfl⟩
    obtain ⟨b0, hb0⟩ : ∃ b0, b0 = w2.heap.size + 1 := ⟨_, rfl⟩
    rw [← hb0, ← hb, ← ha] at HS
    rw [← hb0] at HSZ
    rw [← hb, ← ha]
    rw [← ha, ← hb] at hq2
    have HBO : ∀ {f g : Nat → Value} {W : World}, S2 (l0.length * 4) 39 a 8 37 b b0 W0 f g W → Below w.heap.size w W := fun h => HB.out.trans ((S2.below h HW0.out (by omega) (by omega) HSZ.out).mono HB.out.size)
    have HBO := Aside0.mk @HBO
    have HWA := Aside0.mk (show w.heap.size ≤ a from by have := HB.out.size; omega)
    clear HRM HBM HY HB2 hq2 HA hmk hla
    clear HW0 HSZ hb ha hb0
    go_loopg [9] l0.length (fun gg v9 wr => ∃ (v : Nat) (x : Au), v ≤ l0.length ∧ v9 = .int .i64 ((v : Int) - 1) ∧ v ≤ gg ∧ Aside0 (S2 (l0.length * 4) 39 a 8 37 b b0 W0 (outV l0 x.ps) (hasV x.has) wr) ∧ Aside0 (levA k l0 l1 v x = some rr))
    case atStart => exact ⟨l0.length, au0 l0, Nat.le_refl _, rfl, Nat.le_refl _, HS, HLV⟩
    case round =>
      clear HS HLV
      obtain ⟨v, x, hv, rfl, hgg, HP, HL⟩ := hrel
      cases v with
      | zero =>
        have hd : decide (((0 : Nat) : Int) - 1 ≥ 0) = false := by decide
        go_wp2
        have hl := HL.out
        simp only [levA, Option.some.injEq] at hl
        subst hl
        obtain ⟨rfl, rfl⟩ : outA l0 x.ps = r1 ∧ none = r2 := by simpa using HH.out
        go_ret2
        exact ⟨_, rfl, R_of_cells HP.out.ra HWA.out (by have := HN8.out; simp only [maxLen]; omega), HBO.out HP.out⟩
      | succ v =>
        have hvz : (((v + 1 : Nat) : Int) - 1) = (v : Int) := by omega
        rw [hvz]
        have hd : decide ((v : Int) ≥ 0) = true := decide_eq_true (by omega)
        obtain ⟨r, hr, hl⟩ := Option.bind_eq_some_iff.1 HL.out
        have HF := Aside0.mk hr
        have HL2 := Aside0.mk hl
        clear hr hl HL
        go_upto_block 2 with (fail)
        go_cut [10] (fun v10 wc => v10 = .bool r.isSome ∧ Aside0 (S2 (l0.length * 4) 39 a 8 37 b b0 W0 (outV l0 (match r with | none => x.ps | some i => setP x.ps i (v : Int))) (hasV (match r with | none => x.has | some i => setB x.has i)) wc))
        case first =>
          go_wp2_with (fail)
          go_loopg [10, 39] l0.length (fun gg v10 v39 wr2 => ∃ kk : Nat, kk ≤ l0.length ∧ v10 = .bool false ∧ v39 = .int .i64 (kk : Int) ∧ l0.length - kk ≤ gg ∧ Aside0 (S2 (l0.length * 4) 39 a 8 37 b b0 W0 (outV l0 x.ps) (hasV x.has) wr2) ∧ Aside0 (findA k l0 l1 x.has (l0.length - kk) kk = some r))
          case atStart => exact ⟨0, by omega, rfl, rfl, by omega, HP, HF⟩
          case round =>
            clear HP
            obtain ⟨kk, hkk, rfl, rfl, hg2, HP, HFK⟩ := hrel
            by_cases hlt : kk < l0.length
            · have hltz : (kk : Int) < (l0.length : Int) := by omega
              have hltd : decide ((kk : Int) < (l0.length : Int)) = true := decide_eq_true hltz
              have hk0 : 0 ≤ (kk : Int) := by omega
              have hk8 : kk < 8 := by omega
              have hc1 := (HP.out.rb.rd hk8).1
              have hc2 := (HP.out.rb.rd hk8).2
              have hF := HFK.out
              rw [show l0.length - kk = (l0.length - (kk + 1)) + 1 by omega] at hF
              unfold findA at hF
              unfold hasV at hc1
              by_cases hh : x.has kk = true
              · rw [if_pos hh] at hF
                rw [hh] at hc1
                have HF2 := Aside0.mk hF
                clear hF HFK
                go_wp2_with (fail)
                go_roundg (l0.length - (kk + 1))
                case measure => omega
                case rel => exact ⟨kk + 1, by omega, rfl, by first | rfl | (congr 1; unfold wrap64; omega) | (congr 1; omega), by omega, HP, HF2⟩
              · have hhf : x.has kk = false := by cases hq : x.has kk with | true => exact absurd hq hh | false => rfl
                rw [if_neg hh] at hF
                rw [hhf] at hc1
                obtain ⟨tv, ht, hF⟩ := Option.bind_eq_some_iff.1 hF
                have HT := Aside0.mk ht
                have HF2 := Aside0.mk hF
                clear ht hF HFK
                go_wp2_with (fail)
                obtain ⟨we, rfl⟩ : ∃ W, W = wr := ⟨_, rfl⟩
                go_loopg [12, 13, 47] l0.length (fun gg v12 v13 v47 wr3 => ∃ jj : Nat, jj ≤ l0.length ∧ v13 = .int .i64 ((atN l0 x.has kk jj : Nat) : Int) ∧ v47 = .int .i64 (jj : Int) ∧ l0.length - jj ≤ gg ∧ Aside0 (Kd.R k39 39 wr3 we.heap.size (fun _ => True) v12 (tryN l0 x.has kk jj)) ∧ Aside0 (Below we.heap.size we wr3))
                case atStart => exact ⟨0, by omega, rfl, rfl, by omega, ⟨Kd.R_nil _ _ _ _ _⟩, ⟨Below.refl _ _⟩⟩
                case round =>
                  obtain ⟨jj, hjj, rfl, rfl, hg3, HO, HB3⟩ := hrel
                  by_cases hjt : jj < l0.length
                  · have hjz : (jj : Int) < (l0.length : Int) := by omega
                    have hjd : decide ((jj : Int) < (l0.length : Int)) = true := decide_eq_true hjz
                    have hj0 : 0 ≤ (jj : Int) := by omega
                    have HBX := Aside0.mk (show Below w.heap.size w wr from (HBO.out HP.out).trans (HB3.out.mono (HBO.out HP.out).size))
                    obtain ⟨ad, e1, x0, x1, x2, x3⟩ := at_T39 (Kd.C_below HR0.out HBX.out) (jj : Int) hj0 hjz
                    cases e1
                    generalize hx : rd_T39 l0 (jj : Int) = p at x0 x1 x2 x3
                    have HXX := Aside0.mk hx
                    clear hx
                    simp only [Int.toNat_natCast] at x0 x1 x2 x3
                    go_upto_region 20 with (fail)
                    have HBK := Aside0.mk (blk_new wr (Obj.cells #[.int .i64 p.f0, .int .i64 p.f1, .int .i64 p.f2, .int .i64 p.f3] 39))
                    have HBA := Aside0.mk (show Below wr.heap.size wr (wr.alloc (Obj.cells #[.int .i64 p.f0, .int .i64 p.f1, .int .i64 p.f2, .int .i64 p.f3] 39)) from (Below.refl _ wr).alloc (Nat.le_refl _) _)
                    clear x0 x1 x2 x3
                    generalize wr.alloc (Obj.cells #[.int .i64 p.f0, .int .i64 p.f1, .int .i64 p.f2, .int .i64 p.f3] 39) = w4 at HBK HBA ⊢
                    obtain ⟨gx, hgx⟩ : ∃ g, g = wr.heap.size := ⟨_, rfl⟩
                    rw [← hgx] at HBK
                    rw [← hgx]
                    have HGX := Aside0.mk hgx
                    clear hgx
                    obtain ⟨Ao, co, rfl⟩ := Kd.R_slice HO.out
                    have y0 := (blk_cell HBK.out 0).trans (by rfl)
                    have y1 := (blk_cell HBK.out 1).trans (by rfl)
                    have y2 := (blk_cell HBK.out 2).trans (by rfl)
                    have y3 := (blk_cell HBK.out 3).trans (by rfl)
                    have z0 := blk_frozen HBK.out 0
                    have z1 := blk_frozen HBK.out 1
                    have z2 := blk_frozen HBK.out 2
                    have z3 := blk_frozen HBK.out 3
                    by_cases hjk : jj = kk
                    · have hjkb : ((jj : Int) == (kk : Int)) = true := beq_iff_eq.2 (by omega)
                      go_upto_region 22 with (fail)
                      have HBK5 := Aside0.mk (blk_put HBK.out 3 (.int .i64 1) (cs' := #[.int .i64 p.f0, .int .i64 p.f1, .int .i64 p.f2, .int .i64 1]) rfl)
                      have HBW := Aside0.mk (below_set (j := 3) (v := .int .i64 1) HBA.out (Nat.le_of_eq HGX.out.symm))
                      clear HBK HBA
                      generalize w4.setCell ⟨gx, 3, none⟩ (.int .i64 1) = w5 at HBK5 HBW ⊢
                      have HO5 := Aside0.mk (Kd.R_below HO.out HBW.out)
                      have HB5 := Aside0.mk (HB3.out.trans (HBW.out.mono HB3.out.size))
                      have HTL := Aside0.mk (tryN_len l0 x.has kk jj)
                      clear HO HB3 HBX y0 y1 y2 y3 z0 z1 z2 z3
                      have y0 := (blk_cell HBK5.out 0).trans (by rfl)
                      have y1 := (blk_cell HBK5.out 1).trans (by rfl)
                      have y2 := (blk_cell HBK5.out 2).trans (by rfl)
                      have y3 := (blk_cell HBK5.out 3).trans (by rfl)
                      have z0 := blk_frozen HBK5.out 0
                      have z1 := blk_frozen HBK5.out 1
                      have z2 := blk_frozen HBK5.out 2
                      have z3 := blk_frozen HBK5.out 3
                      go_wp2_with (first | ((with_reducible refine gate_builtin (b := .append) (xs := #[.tmp 59, .tmp 61]) rfl ?_); at_builtin; refine Kd.R_append k39 (w0 := we) we.heap.size rfl (.tmp 59) (.tmp 61) 22 39 (.agg #[(.int .i64 0), (.int .i64 0), (.int .i64 0), (.int .i64 0)]) 32 rfl Try.underlying22 info39 rfl (by decide) (by omega) _ (tryN l0 x.has kk jj) (⟨p.f0, p.f1, p.f2, 1⟩ : S39) [.int .i64 p.f0, .int .i64 p.f1, .int .i64 p.f2, .int .i64 1] (fun _ => True) (fun _ => False) rfl (by first | (go_simp; done) | (go_simp; rfl)) ?aP (fun _ hk => hk.elim) ?aF ?aO ?aB ?aS ?aL ?_; (case aP => exact k39_mkM _ _ _ (⟨p.f0, p.f1, p.f2, 1⟩ : S39)); (case aB => exact HB5.out); (case aF => exact (fun _ _ => trivial)); (case aO => exact HO5.out); (case aS => exact below_size HB5.out); (case aL => have := HTL.out; omega); intro v204 w6 ho hb hg hat; have HB6 := Aside0.mk hb; have HO6 := Aside0.mk ho; clear ho hb hg hat))
                      go_roundg (l0.length - (jj + 1))
                      case measure => omega
                      case rel => exact ⟨jj + 1, by omega, by rw [show atN l0 x.has kk (jj + 1) = (tryN l0 x.has kk jj).length from if_pos hjk]; first | rfl | rw [hjk], by first | rfl | (congr 1; unfold wrap64; omega) | (congr 1; omega), by omega, ⟨by rw [show tryN l0 x.has kk (jj + 1) = tryN l0 x.has kk jj ++ [prio (rd_T39 l0 (jj : Int)) 1] from if_pos hjk, HXX.out]; exact HO6.out⟩, HB6⟩
                    · have hjkb : ((jj : Int) == (kk : Int)) = false := beq_eq_false_iff_ne.2 (by omega)
                      have hj8 : jj < 8 := by omega
                      have hj1 := ((HP.out.step (HB3.out.trans (HBA.out.mono HB3.out.size)) HP.out.size).rb.rd hj8).1
                      have hj2 := ((HP.out.step (HB3.out.trans (HBA.out.mono HB3.out.size)) HP.out.size).rb.rd hj8).2
                      unfold hasV at hj1
                      by_cases hq : x.has jj = true
                      · rw [hq] at hj1
                        go_wp2_with (fail)
                        go_roundg (l0.length - (jj + 1))
                        case measure => omega
                        case rel => exact ⟨jj + 1, by omega, by rw [show atN l0 x.has kk (jj + 1) = atN l0 x.has kk jj from if_neg hjk], by first | rfl | (congr 1; unfold wrap64; omega) | (congr 1; omega), by omega, ⟨by rw [show tryN l0 x.has kk (jj + 1) = tryN l0 x.has kk jj from (if_neg hjk).trans (if_neg (by rw [hq]; simp))]; exact Kd.R_below HO.out HBA.out⟩, ⟨HB3.out.trans (HBA.out.mono HB3.out.size)⟩⟩
                      · have hqf : x.has jj = false := by cases hw : x.has jj with | true => exact absurd hw hq | false => rfl
                        rw [hqf] at hj1
                        go_upto_region 26 with (fail)
                        have HBK5 := Aside0.mk (blk_put HBK.out 3 (.int .i64 0) (cs' := #[.int .i64 p.f0, .int .i64 p.f1, .int .i64 p.f2, .int .i64 0]) rfl)
                        have HBW := Aside0.mk (below_set (j := 3) (v := .int .i64 0) HBA.out (Nat.le_of_eq HGX.out.symm))
                        clear HBK HBA
                        generalize w4.setCell ⟨gx, 3, none⟩ (.int .i64 0) = w5 at HBK5 HBW ⊢
                        have HO5 := Aside0.mk (Kd.R_below HO.out HBW.out)
                        have HB5 := Aside0.mk (HB3.out.trans (HBW.out.mono HB3.out.size))
                        have HTL := Aside0.mk (tryN_len l0 x.has kk jj)
                        clear HO HB3 HBX y0 y1 y2 y3 z0 z1 z2 z3
                        have y0 := (blk_cell HBK5.out 0).trans (by rfl)
                        have y1 := (blk_cell HBK5.out 1).trans (by rfl)
                        have y2 := (blk_cell HBK5.out 2).trans (by rfl)
                        have y3 := (blk_cell HBK5.out 3).trans (by rfl)
                        have z0 := blk_frozen HBK5.out 0
                        have z1 := blk_frozen HBK5.out 1
                        have z2 := blk_frozen HBK5.out 2
                        have z3 := blk_frozen HBK5.out 3
                        go_wp2_with (first | ((with_reducible refine gate_builtin (b := .append) (xs := #[.tmp 69, .tmp 71]) rfl ?_); at_builtin; refine Kd.R_append k39 (w0 := we) we.heap.size rfl (.tmp 69) (.tmp 71) 22 39 (.agg #[(.int .i64 0), (.int .i64 0), (.int .i64 0), (.int .i64 0)]) 32 rfl Try.underlying22 info39 rfl (by decide) (by omega) _ (tryN l0 x.has kk jj) (⟨p.f0, p.f1, p.f2, 0⟩ : S39) [.int .i64 p.f0, .int .i64 p.f1, .int .i64 p.f2, .int .i64 0] (fun _ => True) (fun _ => False) rfl (by first | (go_simp; done) | (go_simp; rfl)) ?aP (fun _ hk => hk.elim) ?aF ?aO ?aB ?aS ?aL ?_; (case aP => exact k39_mkM _ _ _ (⟨p.f0, p.f1, p.f2, 0⟩ : S39)); (case aB => exact HB5.out); (case aF => exact (fun _ _ => trivial)); (case aO => exact HO5.out); (case aS => exact below_size HB5.out); (case aL => have := HTL.out; omega); intro v204 w6 ho hb hg hat; have HB6 := Aside0.mk hb; have HO6 := Aside0.mk ho; clear ho hb hg hat))
                        go_roundg (l0.length - (jj + 1))
                        case measure => omega
                        case rel => exact ⟨jj + 1, by omega, by rw [show atN l0 x.has kk (jj + 1) = atN l0 x.has kk jj from if_neg hjk], by first | rfl | (congr 1; unfold wrap64; omega) | (congr 1; omega), by omega, ⟨by rw [show tryN l0 x.has kk (jj + 1) = tryN l0 x.has kk jj ++ [prio (rd_T39 l0 (jj : Int)) 0] from (if_neg hjk).trans (if_pos hqf), HXX.out]; exact HO6.out⟩, HB6⟩
                  · obtain rfl : jj = l0.length := by omega
                    have hjd : decide ((l0.length : Int) < (l0.length : Int)) = false := decide_eq_false (by omega)
                    obtain ⟨Ao, co, rfl⟩ := Kd.R_slice HO.out
                    have HBX := Aside0.mk (show Below w.heap.size w wr from (HBO.out HP.out).trans (HB3.out.mono (HBO.out HP.out).size))
                    obtain ⟨t1, t2⟩ := tv
                    have hab := HP.out.nab
                    cases t2 with
                    | false =>
                      have hF := HF2.out
                      rw [if_neg (by simp)] at hF
                      have HF3 := Aside0.mk hF
                      clear hF
                      go_wp2_with (first | (go_at_call 18; (with_reducible refine (response_time.calls k _ _ (tryN l0 x.has kk l0.length) _ _ _ l1 t1 false _ ?side1 ?side2 ?side3 ?side4 HT.out).mono ?_); (case side1 => exact (Kd.R_reads' HO.out).2.2); (case side2 => exact (Kd.R_reads' HO.out).2.1); (case side3 => exact Kd.C_below HR1.out HBX.out); (case side4 => exact HC1.out); rintro e w7 ⟨rfl, hb⟩; have HB7 := Aside0.mk (HB3.out.trans (hb.mono HB3.out.size)); clear hb))
                      go_roundg (l0.length - (kk + 1))
                      case measure => omega
                      case rel => exact ⟨kk + 1, by omega, rfl, by first | rfl | (congr 1; unfold wrap64; omega) | (congr 1; omega), by omega, ⟨HP.out.step HB7.out HP.out.size⟩, HF3⟩
                    | true =>
                      have hF := HF2.out
                      rw [if_pos rfl] at hF
                      obtain rfl : some kk = r := Option.some.inj hF
                      clear hF
                      go_upto_region 30 with (first | (go_at_call 18; (with_reducible refine (response_time.calls k _ _ (tryN l0 x.has kk l0.length) _ _ _ l1 t1 true _ ?side1 ?side2 ?side3 ?side4 HT.out).mono ?_); (case side1 => exact (Kd.R_reads' HO.out).2.2); (case side2 => exact (Kd.R_reads' HO.out).2.1); (case side3 => exact Kd.C_below HR1.out HBX.out); (case side4 => exact HC1.out); rintro e w7 ⟨rfl, hb⟩; have HB7 := Aside0.mk (HB3.out.trans (hb.mono HB3.out.size)); clear hb))
                      have HP7 := HP.out.step HB7.out HP.out.size
                      have ha1 := (HP7.ra.rd (show kk * 4 + 3 < l0.length * 4 by omega)).1
                      have ha2 := (HP7.ra.rd (show kk * 4 + 3 < l0.length * 4 by omega)).2
                      have HP8 := HP7.setA (show kk * 4 + 3 < l0.length * 4 by omega) (.int .i64 (v : Int))
                      have hb1 := (HP8.rb.rd hk8).1
                      have hb2 := (HP8.rb.rd hk8).2
                      have HP9 := HP8.setB hk8 (.bool true)
                      rw [outV_set, hasV_set] at HP9
                      have HP9 := Aside0.mk HP9
                      clear HP7 HP8
                      go_wp2_with (fail)
                      go_meet
                      case rel => exact ⟨rfl, HP9⟩
            · obtain rfl : kk = l0.length := by omega
              have hltd : decide ((l0.length : Int) < (l0.length : Int)) = false := decide_eq_false (by omega)
              have hF := HFK.out
              rw [Nat.sub_self] at hF
              simp only [findA, Option.some.injEq] at hF
              subst hF
              go_wp2_with (fail)
              go_meet
              case rel => exact ⟨rfl, HP⟩
        case rest =>
          obtain ⟨rfl, HP2⟩ := hcut
          cases r with
          | none =>
            have hl := HL2.out
            simp only [Option.some.injEq] at hl
            subst hl
            obtain ⟨rfl, rfl⟩ : [] = r1 ∧ some 220 = r2 := by simpa using HH.out
            simp only [Option.isSome_none]
            go_wp2
            go_ret2
            exact ⟨_, rfl, Kd.R_nil _ _ _ _ _, HBO.out HP2.out⟩
          | some i =>
            simp only [Option.isSome_some]
            go_wp2
            go_roundg v
            case measure => omega
            case rel => exact ⟨v, _, by omega, by first | rfl | (congr 1; unfold wrap64; omega) | (congr 1; omega), Nat.le_refl _, HP2, HL2⟩
end Go.Proofs.Ytffckkjaeekanaa.B
