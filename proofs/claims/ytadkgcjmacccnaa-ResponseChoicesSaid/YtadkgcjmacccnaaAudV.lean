/- What titheref22.Audsley answers: at each level the first entry that is in time behind all that have no place; or the error. No conditions. -/
import Derived.Test.YtadkgcjmacccnaaAudT2
import Derived.Test.YtadkgcjmacccnaaAudR
import Derived.Deep.DeepCutAuto
import Derived.Shelf.RegionOpenPlain
namespace Go.Proofs.Ytadkgcjmacccnaa.C
open Go.RowKit Go.Proofs.YtadkgcjmacccnaaW.PrintWords Go.Proofs.YtadkgcjmacccnaaW.PrintLast Go.Proofs.YtadkgcjmacccnaaW.PrintMore Go.Proofs.Ytadkgcjmacccnaa.Aud
set_option linter.unusedVariables false
def psV (ps : Nat → Int) (c : Nat) : Value := .int .i64 (ps c)
theorem psV_set (ps : Nat → Int) (i : Nat) (v : Int) : updV (psV ps) i (.int .i64 v) = psV (setP ps i v) := by
  funext c
  by_cases h : c = i
  · subst h
    rw [updV_same]
    simp [psV, setP]
  · rw [updV_other _ _ h]
    simp [psV, setP, h]
theorem psL_len (l : List S43) (ps : Nat → Int) : (psL l ps).length = l.length := by simp [psL]
theorem RI_of_cells {W : World} {base g : Nat} {l : List S43} {ps : Nat → Int} (h : CellsAt W g l.length 3 (psV ps)) (hb : base ≤ g) (hm : l.length ≤ maxLen) : Kd.R (Kd.int .i64) 3 W base (fun _ => True) (.slice (some ⟨g, 0, none⟩) l.length l.length) (psL l ps) := by
  obtain ⟨c, h1, h2, h3⟩ := h
  refine Kd.R_of_own ⟨by simp [encs], .inr ⟨g, l.length, c, by rw [psL_len], hb, h1, by rw [psL_len]; exact Nat.le_refl _, hm, by omega, ?_⟩⟩ (fun _ _ => trivial)
  rw [psL_len]
  apply List.ext_getElem
  · simp [encs, psL_len, h2]
  · intro m m1 m2
    have hm : m < l.length := by
      simp [h2] at m1
      omega
    have e1 := h3 m hm
    have e2 : c.toList[m]? = some (.int .i64 (ps m)) := by rw [Array.getElem?_toList]; exact e1
    rw [List.getElem_take]
    have e3 := (List.getElem?_eq_some_iff.1 e2).2
    rw [e3]
    simp [encs, psL]
theorem R_int_own {W : World} {base : Nat} {ok : Nat → Prop} {v : Value} {xs : List Int} (h : Kd.R (Kd.int .i64) 3 W base ok v xs) (hl : 0 < xs.length) : ∃ g cap, v = .slice (some ⟨g, 0, none⟩) xs.length cap ∧ base ≤ g ∧ ∀ i (hi : i < xs.length), W.cell? ⟨g, i, none⟩ = some (.int .i64 xs[i]) ∧ W.frozen? ⟨g, i, none⟩ = false := by
  obtain ⟨hlen, h2⟩ := Kd.own_of_R h
  rcases h2 with ⟨_, h0⟩ | ⟨g, cap, cur, rfl, hg, hh, hnc, hcm, hcs, htk⟩
  · omega
  · refine ⟨g, cap, rfl, hg, fun i hi => ⟨?_, blk_frozen hh i⟩⟩
    rw [blk_cell hh i]
    have e : (cur.toList.take (xs.length * 1))[i]? = some (.int .i64 xs[i]) := by
      rw [htk]
      simp [encs, hi]
    rw [List.getElem?_take_of_lt (by omega), Array.getElem?_toList] at e
    exact e
theorem madeI (n : Nat) {i : Nat} (h : i < n) : (madeCells #[Value.int .i64 0] n)[i]? = some (.int .i64 0) := by
  simp [madeCells, h, Nat.mod_one]
theorem S2.startI (W : World) (n : Nat) (cs : Array Value) (m : Nat) (g : Nat → Value) (hm : cs.size = m) (hg : ∀ i, i < m → cs[i]? = some (g i)) : S2 n 3 W.heap.size m 41 (W.heap.size + 1) (W.heap.size + 2) ((W.alloc (.cells (madeCells #[Value.int .i64 0] n) 3)).alloc (.cells cs 41)) (psV fun _ => 0) g ((W.alloc (.cells (madeCells #[Value.int .i64 0] n) 3)).alloc (.cells cs 41)) := by
  have h1 := blk_new W (.cells (madeCells #[Value.int .i64 0] n) 3)
  have h2 := blk_new (W.alloc (.cells (madeCells #[Value.int .i64 0] n) 3)) (.cells cs 41)
  rw [World.size_alloc] at h2
  have h3 := (Below.heap_alloc (W.alloc (.cells (madeCells #[Value.int .i64 0] n) 3)) (.cells cs 41) W.heap.size (by simp)).trans h1
  exact ⟨⟨_, h3, by simp [size_madeCells], fun i hi => madeI n hi⟩, ⟨_, h2, hm, hg⟩, fun k _ _ _ => rfl, by simp, rfl, rfl, rfl, by omega, by omega, by omega⟩
/-- the places at a step of the round that lays 0 -/
def lK (l : List S43) (x : Au) (j : Nat) : List Int := (List.range l.length).map fun k : Nat => if k < j then (if x.has k = true then x.ps k else 0) else x.ps k
theorem lK_len (l : List S43) (x : Au) (j : Nat) : (lK l x j).length = l.length := by simp [lK]
theorem lK_zero (l : List S43) (x : Au) : lK l x 0 = psL l x.ps := by simp [lK, psL]
theorem lK_has (l : List S43) (x : Au) (j : Nat) (h : x.has j = true) : lK l x (j + 1) = lK l x j := by
  unfold lK
  apply List.map_congr_left
  intro k _
  by_cases e : k = j
  · subst e; simp [h]
  · by_cases e2 : k < j
    · simp [e2, show k < j + 1 by omega]
    · simp [e2, show ¬ k < j + 1 by omega]
theorem lK_set (l : List S43) (x : Au) (j : Nat) (h : x.has j = false) : lK l x (j + 1) = (lK l x j).set j 0 := by
  apply List.ext_getElem
  · simp [lK]
  · intro k h1 h2
    have hk : k < l.length := by simpa [lK] using h1
    rw [List.getElem_set]
    by_cases e : j = k
    · subst e; simp [lK, h]
    · rw [if_neg e]
      simp only [lK, List.getElem_map, List.getElem_range]
      by_cases e2 : k < j
      · simp [e2, show k < j + 1 by omega]
      · simp [e2, show ¬ k < j + 1 by omega]
theorem lK_end (l : List S43) (x : Au) (v : Int) (i : Nat) : (lK l x l.length).set i (if v = 0 then 0 else max v 1) = lR l x v i := by
  apply List.ext_getElem
  · simp [lK, lR]
  · intro k h1 h2
    have hk : k < l.length := by simpa [lR] using h2
    rw [List.getElem_set]
    by_cases e : i = k
    · subst e; simp [lR]
    · rw [if_neg e]
      simp only [lK, lR, List.getElem_map, List.getElem_range]
      rw [if_pos hk, if_neg (Ne.symm e)]
theorem lR_len (l : List S43) (x : Au) (v : Int) (i : Nat) : (lR l x v i).length = l.length := by simp [lR]
/-- how far the search is: none yet, or found -/
def Fr (k : Nat) (l : List S43) (m : List S57) (x : Au) (v : Int) (r : Option Nat) (kk : Nat) (fd : Int) : Prop := (fd = -1 ∧ findR k l m x v (l.length - kk) kk = some r) ∨ ∃ i : Nat, fd = (i : Int) ∧ r = some i
def fdW (r : Option Nat) : Int := match r with | none => -1 | some i => (i : Int)
theorem findR_lt {k : Nat} {l : List S43} {m : List S57} {x : Au} {v : Int} : ∀ {d i : Nat} {j : Nat}, findR k l m x v d i = some (some j) → j < i + d
  | 0, i, j, h => by simp [findR] at h
  | d + 1, i, j, h => by
    unfold findR at h
    by_cases hh : x.has i = true
    · rw [if_pos hh] at h
      have := findR_lt h
      omega
    · rw [if_neg hh] at h
      obtain ⟨y, _, h⟩ := Option.bind_eq_some_iff.1 h
      obtain ⟨t, _, h⟩ := Option.bind_eq_some_iff.1 h
      by_cases ht : t = 0
      · rw [if_pos ht] at h
        have := findR_lt h
        omega
      · rw [if_neg ht] at h
        have : i = j := by simpa using h
        omega
set_option maxHeartbeats 8000000 in
set_option maxRecDepth 1000000 in
theorem titheref22_Audsley.calls (k : Nat) (A0 : Option Addr) (c0 : Nat) (l0 : List (S43)) (A1 : Option Addr) (c1 : Nat) (l1 : List (S57)) (r1 : List (S43)) (r2 : Int) (w : World) (hr0 : Kd.C k43 w A0 l0.length l0) (hc0 : l0.length ≤ c0) (hr1 : Kd.C k57 w A1 l1.length l1) (hc1 : l1.length ≤ c1) (h : titheref22_Audsley.f k l0 l1 = some (r1, r2)) :
    Calls Try.prog 7 #[.slice A0 l0.length c0, .slice A1 l1.length c1] w fun e w' => ∃ v0_ : Value, e = .returned (.tuple #[v0_, .int .i64 r2]) ∧ Kd.R k43 43 w' w.heap.size (fun _ => True) v0_ r1 ∧ Below w.heap.size w w' := by
  have hu43 := Try.underlying43
  have hu22 := Try.underlying22
  have hu48 := Try.underlying48
  unfold titheref22_Audsley.f at h
  obtain ⟨e0, he0, h⟩ := Option.bind_eq_some_iff.1 h
  have HCK := titheref22_fault.calls k A0 c0 l0 A1 c1 l1 e0 w hr0 hc0 hr1 hc1 he0
  have HR0 := Aside0.mk hr0
  have HR1 := Aside0.mk hr1
  have HC0 := Aside0.mk hc0
  have HC1 := Aside0.mk hc1
  have HCC := Aside0.mk HCK
  clear hr0 hr1 hc0 hc1 HCK he0
  by_cases h1 : e0 = 0
  case neg =>
    rw [if_neg h1] at h
    obtain ⟨rfl, rfl⟩ : [] = r1 ∧ e0 = r2 := by simpa using h
    clear h
    have h1b : (e0 != 0) = true := by simp [h1]
    go_enter Try.func7, Try.ntmps7
    go_wp2_with (first | (go_at_call 15; refine HCC.out.mono ?_; rintro e w1 ⟨rfl, hb⟩; have HB := Aside0.mk hb; clear hb))
    go_ret2
    exact ⟨_, rfl, Kd.R_nil _ _ _ _ _, HB.out⟩
  rw [if_pos h1] at h
  subst h1
  by_cases hn8 : l0.length ≤ 8
  case neg => rw [if_neg hn8] at h; exact absurd h (by simp)
  rw [if_pos hn8] at h
  obtain ⟨rr, hrr, h⟩ := Option.bind_eq_some_iff.1 h
  have HH := Aside0.mk h
  have HLV := Aside0.mk hrr
  have HN8 := Aside0.mk hn8
  clear h hrr
  have hmk48 : ∀ W : World, l0.length ≤ 8 → (Instr.makeSlice 48 (.int .i64 (l0.length : Int)) (.int .i64 (l0.length : Int))).run Try.prog W = .ok (.slice (some ⟨W.heap.size, 0, none⟩) l0.length l0.length) (W.alloc (.cells (madeCells #[Value.int .i64 0] l0.length) 3)) := by
    intro W hl
    obtain ⟨i0, hi, hzz⟩ := Option.map_eq_some_iff.1 info3
    simp only [Prod.mk.injEq] at hzz
    obtain ⟨hz0, hz1, hz2⟩ := hzz
    have := run_make (P := Try.prog) W 48 3 i0 (.int .i64 0) Try.underlying48 hi hz0 .i64 .i64 (l0.length : Int) (l0.length : Int) (by omega) (by omega) (by rw [hz2]; omega) (by omega)
    rw [hz1] at this
    simp only [Int.toNat_natCast, Nat.mul_one] at this
    exact this
  have hmk := fun W => hmk48 W hn8
  clear hmk48
  go_enter Try.func7, Try.ntmps7
  go_wp2_with (first | (go_at_call 15; refine HCC.out.mono ?_; rintro e w1 ⟨rfl, hb⟩; have HB := Aside0.mk hb; clear hb HCC))
  have HS := Aside0.mk (S2.startI w1 l0.length #[Value.bool false, .bool false, .bool false, .bool false, .bool false, .bool false, .bool false, .bool false] 8 (hasV ar0.has) rfl (fun i hi => by
    have e : i = 0 ∨ i = 1 ∨ i = 2 ∨ i = 3 ∨ i = 4 ∨ i = 5 ∨ i = 6 ∨ i = 7 := by omega
    rcases e with e | e | e | e | e | e | e | e <;> subst e <;> rfl))
  have HW0 := Aside0.mk (show Below w1.heap.size w1 ((w1.alloc (.cells (madeCells #[Value.int .i64 0] l0.length) 3)).alloc (.cells #[Value.bool false, .bool false, .bool false, .bool false, .bool false, .bool false, .bool false, .bool false] 41)) from ((Below.refl _ w1).alloc (Nat.le_refl _) _).alloc (by simp) _)
  have HSZ := Aside0.mk (show ((w1.alloc (.cells (madeCells #[Value.int .i64 0] l0.length) 3)).alloc (.cells #[Value.bool false, .bool false, .bool false, .bool false, .bool false, .bool false, .bool false, .bool false] 41)).heap.size ≤ w1.heap.size + 2 from by simp)
  generalize hW0 : (w1.alloc (.cells (madeCells #[Value.int .i64 0] l0.length) 3)).alloc (.cells #[Value.bool false, .bool false, .bool false, .bool false, .bool false, .bool false, .bool false, .bool false] 41) = W0 at HS HW0 HSZ ⊢
  clear hW0
  obtain ⟨b, hb⟩ : ∃ b, b = w1.heap.size + 1 := ⟨_, rfl⟩
  obtain ⟨a, ha⟩ : ∃ a, a = w1.heap.size := ⟨_, rfl⟩
  obtain ⟨b0, hb0⟩ : ∃ b0, b0 = w1.heap.size + 2 := ⟨_, rfl⟩
  rw [← hb0, ← hb, ← ha] at HS
  rw [← hb0] at HSZ
  rw [← hb, ← ha]
  have HBO : ∀ {f g : Nat → Value} {W : World}, S2 l0.length 3 a 8 41 b b0 W0 f g W → Below w.heap.size w W := fun h => HB.out.trans ((S2.below h HW0.out (by omega) (by omega) HSZ.out).mono HB.out.size)
  have HBO := Aside0.mk @HBO
  have HWA := Aside0.mk (show w.heap.size ≤ a from by have := HB.out.size; omega)
  clear HW0 HSZ hb ha hb0 hmk
  go_loopg [9] l0.length (fun gg v9 wr => ∃ (v : Nat) (x : Au), v ≤ l0.length ∧ v9 = .int .i64 ((v : Int) - 1) ∧ v ≤ gg ∧ Aside0 (S2 l0.length 3 a 8 41 b b0 W0 (psV x.ps) (hasV x.has) wr) ∧ Aside0 (levR k l0 l1 v x = some rr))
  case atStart => exact ⟨l0.length, ar0, Nat.le_refl _, rfl, Nat.le_refl _, HS, HLV⟩
  case round =>
    clear HS HLV
    obtain ⟨v, x, hv, rfl, hgg, HP, HL⟩ := hrel
    cases v with
    | zero =>
      have hd : decide (((0 : Nat) : Int) - 1 ≥ 0) = false := by decide
      have hl := HL.out
      simp only [levR, Option.some.injEq] at hl
      subst hl
      obtain ⟨y, hy, hh⟩ := Option.bind_eq_some_iff.1 HH.out
      obtain ⟨rfl, rfl⟩ : y = r1 ∧ (0 : Int) = r2 := by simpa using hh
      have HRP := Aside0.mk (RI_of_cells HP.out.ra (Nat.le_refl a) (by have := HN8.out; simp only [maxLen]; omega))
      have HY := Aside0.mk hy
      have HPL := Aside0.mk (psL_len l0 x.ps)
      clear hy hh
      have hcw := titheref22_With.calls k A0 c0 l0 (some ⟨a, 0, none⟩) l0.length (psL l0 x.ps) y wr (Kd.C_below HR0.out (HBO.out HP.out)) HC0.out (Kd.R_reads' HRP.out).2.2 (by rw [psL_len]; exact Nat.le_refl _) HY.out
      rw [HPL.out] at hcw
      have HCW := Aside0.mk hcw
      clear hcw
      go_wp2_with (first | (go_at_call 17; refine HCW.out.mono ?_; rintro e w7 ⟨v0, rfl, ho, hb⟩; have HO := Aside0.mk ho; have HB7 := Aside0.mk hb; clear ho hb))
      go_ret2
      exact ⟨_, rfl, Kd.R_lower HO.out (HBO.out HP.out).size, (HBO.out HP.out).trans (HB7.out.mono (HBO.out HP.out).size)⟩
    | succ v =>
      have hvz : (((v + 1 : Nat) : Int) - 1) = (v : Int) := by omega
      rw [hvz]
      have hd : decide ((v : Int) ≥ 0) = true := decide_eq_true (by omega)
      obtain ⟨r, hr, hl⟩ := Option.bind_eq_some_iff.1 HL.out
      have HF := Aside0.mk hr
      have HL2 := Aside0.mk hl
      clear hr hl HL
      go_upto_block 2 with (fail)
      go_cut [10] (fun v10 wc => v10 = .int .i64 (fdW r) ∧ Aside0 (S2 l0.length 3 a 8 41 b b0 W0 (psV x.ps) (hasV x.has) wc))
      case first =>
        go_wp2_with (fail)
        go_loopg [10, 11] l0.length (fun gg v10 v11 wr2 => ∃ (kk : Nat) (fd : Int), kk ≤ l0.length ∧ v10 = .int .i64 fd ∧ v11 = .int .i64 (kk : Int) ∧ l0.length - kk ≤ gg ∧ Aside0 (S2 l0.length 3 a 8 41 b b0 W0 (psV x.ps) (hasV x.has) wr2) ∧ Aside0 (Fr k l0 l1 x (v : Int) r kk fd))
        case atStart => exact ⟨0, -1, by omega, rfl, rfl, by omega, HP, ⟨.inl ⟨rfl, HF.out⟩⟩⟩
        case round =>
          clear HP
          obtain ⟨kk, fd, hkk, rfl, rfl, hg2, HP, HFR⟩ := hrel
          rcases HFR.out with ⟨rfl, hF⟩ | ⟨i, rfl, hri⟩
          · have hfd0 : decide ((-1 : Int) < 0) = true := by decide
            by_cases hlt : kk < l0.length
            · have hltz : (kk : Int) < (l0.length : Int) := by omega
              have hltd : decide ((kk : Int) < (l0.length : Int)) = true := decide_eq_true hltz
              have hk0 : 0 ≤ (kk : Int) := by omega
              have hk8 : kk < 8 := by omega
              have hc1 := (HP.out.rb.rd hk8).1
              have hc2 := (HP.out.rb.rd hk8).2
              rw [show l0.length - kk = (l0.length - (kk + 1)) + 1 by omega] at hF
              unfold findR at hF
              unfold hasV at hc1
              by_cases hh : x.has kk = true
              · rw [if_pos hh] at hF
                rw [hh] at hc1
                have HF2 := Aside0.mk hF
                clear hF HFR
                go_wp2_with (fail)
                go_roundg (l0.length - (kk + 1))
                case measure => omega
                case rel => exact ⟨kk + 1, -1, by omega, rfl, by first | rfl | (congr 1; unfold wrap64; omega) | (congr 1; omega), by omega, HP, ⟨.inl ⟨rfl, HF2.out⟩⟩⟩
              · have hhf : x.has kk = false := by cases hq : x.has kk with | true => exact absurd hq hh | false => rfl
                rw [if_neg hh] at hF
                rw [hhf] at hc1
                obtain ⟨y, hy, hF⟩ := Option.bind_eq_some_iff.1 hF
                obtain ⟨t, ht, hF⟩ := Option.bind_eq_some_iff.1 hF
                have HY := Aside0.mk hy
                have HT := Aside0.mk ht
                have HF2 := Aside0.mk hF
                clear hy ht hF HFR
                have hC : Kd.C (Kd.int .i64) wr (some ⟨a, 0, none⟩) l0.length (psL l0 x.ps) := by
                  have := (Kd.R_reads' (RI_of_cells HP.out.ra (Nat.le_refl a) (by have := HN8.out; simp only [maxLen]; omega))).2.2
                  rwa [psL_len] at this
                have HCP := Aside0.mk hC
                clear hC
                obtain ⟨we, rfl⟩ : ∃ W, W = wr := ⟨_, rfl⟩
                have hn8 := HN8.out
                go_upto_region 16 with (first | ((with_reducible refine gate_builtin (b := .append) (xs := #[.tmp 43, .tmp 44]) rfl ?_); at_builtin; refine Kd.R_append_rows (Kd.int .i64) (w0 := we) we.heap.size rfl (.tmp 43) (.tmp 44) 48 3 (.int .i64 0) 8 rfl Try.underlying48 info3 rfl (by decide) (by omega) (.slice none 0 0) ([] : List Int) (psL l0 x.ps) _ _ _ (fun _ => True) (fun _ => False) rfl rfl ?aO ?aR (fun _ _ h => h) (fun _ h => h.elim) ?aF ?aB ?aS ?aL ?_; (case aR => exact HCP.out); (case aB => exact Below.refl _ _); (case aF => exact (fun _ _ => trivial)); (case aO => exact Kd.R_nil _ _ _ _ _); (case aS => exact Nat.le_refl _); (case aL => simp only [List.length_nil]; omega); intro v102 w3 ho hb hg hat; have HO3 := Aside0.mk ho; have HB3 := Aside0.mk hb; clear ho hb hg hat))
                rw [List.nil_append, ← lK_zero] at HO3
                obtain ⟨g, cap, rfl, hgb, _⟩ := R_int_own HO3.out (by rw [lK_len]; omega)
                rw [lK_len] at HO3
                rw [lK_len]
                have HGB := Aside0.mk hgb
                clear hgb
                go_wp2_with (fail)
                go_loopg [13] l0.length (fun gg v13 wr3 => ∃ jj : Nat, jj ≤ l0.length ∧ v13 = .int .i64 (jj : Int) ∧ l0.length - jj ≤ gg ∧ Aside0 (Kd.R (Kd.int .i64) 3 wr3 we.heap.size (fun _ => True) (.slice (some ⟨g, 0, none⟩) l0.length cap) (lK l0 x jj)) ∧ Aside0 (Below we.heap.size we wr3))
                case atStart => exact ⟨0, by omega, rfl, by omega, HO3, HB3⟩
                case round =>
                  clear HO3 HB3
                  obtain ⟨jj, hjj, rfl, hg3, HO3, HB3⟩ := hrel
                  by_cases hjt : jj < l0.length
                  · have hjz : (jj : Int) < (l0.length : Int) := by omega
                    have hjd : decide ((jj : Int) < (l0.length : Int)) = true := decide_eq_true hjz
                    have hj0 : 0 ≤ (jj : Int) := by omega
                    have hj8 : jj < 8 := by omega
                    have hj1 := ((HP.out.step HB3.out HP.out.size).rb.rd hj8).1
                    have hj2 := ((HP.out.step HB3.out HP.out.size).rb.rd hj8).2
                    unfold hasV at hj1
                    by_cases hq : x.has jj = true
                    · rw [hq] at hj1
                      go_wp2_with (fail)
                      go_roundg (l0.length - (jj + 1))
                      case measure => omega
                      case rel => exact ⟨jj + 1, by omega, by first | rfl | (congr 1; unfold wrap64; omega) | (congr 1; omega), by omega, ⟨by rw [lK_has _ _ _ hq]; exact HO3.out⟩, HB3⟩
                    · have hqf : x.has jj = false := by cases hw : x.has jj with | true => exact absurd hw hq | false => rfl
                      rw [hqf] at hj1
                      obtain ⟨g', cap', e', _, hcell⟩ := R_int_own HO3.out (by rw [lK_len]; omega)
                      obtain ⟨rfl, _⟩ : g' = g ∧ cap' = cap := by
                        injection e' with a1 a2 a3
                        injection a1 with a1
                        injection a1 with a1
                        exact ⟨a1.symm, a3.symm⟩
                      have hs1 := (hcell jj (by rw [lK_len]; exact hjt)).1
                      have hs2 := (hcell jj (by rw [lK_len]; exact hjt)).2
                      clear hcell e'
                      generalize (lK l0 x jj)[jj]'(by rw [lK_len]; exact hjt) = ov at hs1
                      have HO4 := Aside0.mk (Kd.R_putn HO3.out (jj : Int) (0 : Int))
                      have HB4 := Aside0.mk (below_set (j := jj) (v := .int .i64 0) HB3.out HGB.out)
                      have hl5 := lK_set l0 x jj hqf
                      simp only [Int.toNat_natCast] at HO4
                      rw [← hl5] at HO4
                      clear hl5 HO3 HB3
                      go_wp2_with (fail)
                      go_roundg (l0.length - (jj + 1))
                      case measure => omega
                      case rel => exact ⟨jj + 1, by omega, by first | rfl | (congr 1; unfold wrap64; omega) | (congr 1; omega), by omega, HO4, HB4⟩
                  · obtain rfl : jj = l0.length := by omega
                    have hjd : decide ((l0.length : Int) < (l0.length : Int)) = false := decide_eq_false (by omega)
                    go_upto_region 21 with (fail)
                    obtain ⟨g', cap', e', _, hcell⟩ := R_int_own HO3.out (by rw [lK_len]; omega)
                    obtain ⟨rfl, _⟩ : g' = g ∧ cap' = cap := by
                      injection e' with a1 a2 a3
                      injection a1 with a1
                      injection a1 with a1
                      exact ⟨a1.symm, a3.symm⟩
                    have hs1 := (hcell kk (by rw [lK_len]; exact hlt)).1
                    have hs2 := (hcell kk (by rw [lK_len]; exact hlt)).2
                    clear hcell e'
                    generalize (lK l0 x l0.length)[kk]'(by rw [lK_len]; exact hlt) = ov at hs1
                    by_cases hv0 : v = 0
                    · subst hv0
                      obtain ⟨mm, hmm⟩ : ∃ m : Int, max 0 1 = m := ⟨_, rfl⟩
                      have hv3 : (((0 : Nat) : Int) == 0) = true := by decide
                      go_upto_region 22 with (fail)
                      try rw [hmm]
                      have HO4 := Kd.R_putn HO3.out (kk : Int) mm
                      simp only [Int.toNat_natCast] at HO4
                      have HO4 := Aside0.mk HO4
                      have HB4 := Aside0.mk (below_set (j := kk) (v := .int .i64 mm) HB3.out HGB.out)
                      clear HO3 HB3 hs1 hs2
                      generalize wr.setCell ⟨g', kk, none⟩ (.int .i64 mm) = w4 at HO4 HB4 ⊢
                      obtain ⟨g2, cap2, e', _, hcell⟩ := R_int_own HO4.out (by rw [List.length_set, lK_len]; omega)
                      obtain ⟨rfl, _⟩ : g2 = g' ∧ cap2 = cap := by
                        injection e' with a1 a2 a3
                        injection a1 with a1
                        injection a1 with a1
                        exact ⟨a1.symm, a3.symm⟩
                      have hs1 := (hcell kk (by rw [List.length_set, lK_len]; exact hlt)).1
                      have hs2 := (hcell kk (by rw [List.length_set, lK_len]; exact hlt)).2
                      clear hcell e'
                      rw [List.getElem_set_self] at hs1
                      have HO5 := Kd.R_putn HO4.out (kk : Int) (0 : Int)
                      simp only [Int.toNat_natCast, List.set_set] at HO5
                      have he := lK_end l0 x (((0 : Nat) : Int)) kk
                      rw [if_pos (show ((0 : Nat) : Int) = 0 from rfl)] at he
                      rw [he] at HO5
                      have HO5 := Aside0.mk HO5
                      have HB5 := Aside0.mk (below_set (j := kk) (v := .int .i64 0) HB4.out HGB.out)
                      clear he
                      go_upto_region 24 with (fail)
                      clear HO4 HB4 hs1 hs2
                      generalize w4.setCell ⟨g2, kk, none⟩ (.int .i64 0) = w5 at HO5 HB5 ⊢
                      have HBX := Aside0.mk (show Below w.heap.size w w5 from (HBO.out HP.out).trans (HB5.out.mono (HBO.out HP.out).size))
                      have hcw := titheref22_With.calls k A0 c0 l0 (some ⟨g2, 0, none⟩) cap (lR l0 x ((0 : Nat) : Int) kk) y w5 (Kd.C_below HR0.out HBX.out) HC0.out (by first | exact (Kd.R_reads' HO5.out).2.2 | (rw [lR_len]; exact (Kd.R_reads' HO5.out).2.2)) (by first | exact (Kd.R_reads' HO5.out).2.1 | (rw [lR_len]; exact (Kd.R_reads' HO5.out).2.1)) HY.out
                      rw [lR_len] at hcw
                      have HCW := Aside0.mk hcw
                      clear hcw
                      by_cases ht0 : t = 0
                      · have hF := HF2.out
                        rw [if_pos ht0] at hF
                        have HF3 := Aside0.mk hF
                        clear hF
                        subst ht0
                        go_wp2_with (first | (go_at_call 17; refine HCW.out.mono ?_; rintro e w7 ⟨v0, rfl, ho, hb⟩; have HO7 := Aside0.mk ho; have HB7 := Aside0.mk (HBX.out.trans (hb.mono HBX.out.size)); have HB8 := Aside0.mk (HB5.out.trans (hb.mono HB5.out.size)); clear ho hb; obtain ⟨Ao, co, rfl⟩ := Kd.R_slice HO7.out) | (go_at_call 16; (with_reducible refine (titheref22_time.calls k _ _ y (kk : Int) _ _ l1 0 _ ?side1 ?side2 ?side3 ?side4 HT.out).mono ?_); (case side1 => exact (Kd.R_reads' HO7.out).2.2); (case side2 => exact (Kd.R_reads' HO7.out).2.1); (case side3 => exact Kd.C_below HR1.out HB7.out); (case side4 => exact HC1.out); rintro e w8 ⟨rfl, hb⟩; have HB9 := Aside0.mk (HB8.out.trans (hb.mono HB8.out.size)); clear hb))
                        go_roundg (l0.length - (kk + 1))
                        case measure => omega
                        case rel => exact ⟨kk + 1, -1, by omega, rfl, by first | rfl | (congr 1; unfold wrap64; omega) | (congr 1; omega), by omega, ⟨HP.out.step HB9.out HP.out.size⟩, ⟨.inl ⟨rfl, HF3.out⟩⟩⟩
                      · have hF := HF2.out
                        rw [if_neg ht0] at hF
                        have htb : (t != 0) = true := by simp [ht0]
                        have HF3 := Aside0.mk hF
                        clear hF
                        go_wp2_with (first | (go_at_call 17; refine HCW.out.mono ?_; rintro e w7 ⟨v0, rfl, ho, hb⟩; have HO7 := Aside0.mk ho; have HB7 := Aside0.mk (HBX.out.trans (hb.mono HBX.out.size)); have HB8 := Aside0.mk (HB5.out.trans (hb.mono HB5.out.size)); clear ho hb; obtain ⟨Ao, co, rfl⟩ := Kd.R_slice HO7.out) | (go_at_call 16; (with_reducible refine (titheref22_time.calls k _ _ y (kk : Int) _ _ l1 t _ ?side1 ?side2 ?side3 ?side4 HT.out).mono ?_); (case side1 => exact (Kd.R_reads' HO7.out).2.2); (case side2 => exact (Kd.R_reads' HO7.out).2.1); (case side3 => exact Kd.C_below HR1.out HB7.out); (case side4 => exact HC1.out); rintro e w8 ⟨rfl, hb⟩; have HB9 := Aside0.mk (HB8.out.trans (hb.mono HB8.out.size)); clear hb))
                        go_roundg (l0.length - (kk + 1))
                        case measure => omega
                        case rel => exact ⟨kk + 1, (kk : Int), by omega, rfl, by first | rfl | (congr 1; unfold wrap64; omega) | (congr 1; omega), by omega, ⟨HP.out.step HB9.out HP.out.size⟩, ⟨.inr ⟨kk, rfl, (Option.some.inj HF3.out).symm⟩⟩⟩
                    · have hv1 : ¬ (v : Int) < 1 := by omega
                      have hmx : max (v : Int) 1 = (v : Int) := by omega
                      have hv3 : ((v : Int) == 0) = false := beq_eq_false_iff_ne.2 (by omega)
                      go_upto_region 22 with (fail)
                      have HO5 := Kd.R_putn HO3.out (kk : Int) (v : Int)
                      simp only [Int.toNat_natCast] at HO5
                      have he := lK_end l0 x (v : Int) kk
                      rw [if_neg (show ¬ (v : Int) = 0 by omega), hmx] at he
                      rw [he] at HO5
                      have HO5 := Aside0.mk HO5
                      have HB5 := Aside0.mk (below_set (j := kk) (v := .int .i64 (v : Int)) HB3.out HGB.out)
                      clear HO3 HB3 hs1 hs2 he
                      generalize wr.setCell ⟨g', kk, none⟩ (.int .i64 (v : Int)) = w5 at HO5 HB5 ⊢
                      have HBX := Aside0.mk (show Below w.heap.size w w5 from (HBO.out HP.out).trans (HB5.out.mono (HBO.out HP.out).size))
                      have hcw := titheref22_With.calls k A0 c0 l0 (some ⟨g', 0, none⟩) cap (lR l0 x (v : Int) kk) y w5 (Kd.C_below HR0.out HBX.out) HC0.out (by first | exact (Kd.R_reads' HO5.out).2.2 | (rw [lR_len]; exact (Kd.R_reads' HO5.out).2.2)) (by first | exact (Kd.R_reads' HO5.out).2.1 | (rw [lR_len]; exact (Kd.R_reads' HO5.out).2.1)) HY.out
                      rw [lR_len] at hcw
                      have HCW := Aside0.mk hcw
                      clear hcw
                      by_cases ht0 : t = 0
                      · have hF := HF2.out
                        rw [if_pos ht0] at hF
                        have HF3 := Aside0.mk hF
                        clear hF
                        subst ht0
                        go_wp2_with (first | (go_at_call 17; refine HCW.out.mono ?_; rintro e w7 ⟨v0, rfl, ho, hb⟩; have HO7 := Aside0.mk ho; have HB7 := Aside0.mk (HBX.out.trans (hb.mono HBX.out.size)); have HB8 := Aside0.mk (HB5.out.trans (hb.mono HB5.out.size)); clear ho hb; obtain ⟨Ao, co, rfl⟩ := Kd.R_slice HO7.out) | (go_at_call 16; (with_reducible refine (titheref22_time.calls k _ _ y (kk : Int) _ _ l1 0 _ ?side1 ?side2 ?side3 ?side4 HT.out).mono ?_); (case side1 => exact (Kd.R_reads' HO7.out).2.2); (case side2 => exact (Kd.R_reads' HO7.out).2.1); (case side3 => exact Kd.C_below HR1.out HB7.out); (case side4 => exact HC1.out); rintro e w8 ⟨rfl, hb⟩; have HB9 := Aside0.mk (HB8.out.trans (hb.mono HB8.out.size)); clear hb))
                        go_roundg (l0.length - (kk + 1))
                        case measure => omega
                        case rel => exact ⟨kk + 1, -1, by omega, rfl, by first | rfl | (congr 1; unfold wrap64; omega) | (congr 1; omega), by omega, ⟨HP.out.step HB9.out HP.out.size⟩, ⟨.inl ⟨rfl, HF3.out⟩⟩⟩
                      · have hF := HF2.out
                        rw [if_neg ht0] at hF
                        have htb : (t != 0) = true := by simp [ht0]
                        have HF3 := Aside0.mk hF
                        clear hF
                        go_wp2_with (first | (go_at_call 17; refine HCW.out.mono ?_; rintro e w7 ⟨v0, rfl, ho, hb⟩; have HO7 := Aside0.mk ho; have HB7 := Aside0.mk (HBX.out.trans (hb.mono HBX.out.size)); have HB8 := Aside0.mk (HB5.out.trans (hb.mono HB5.out.size)); clear ho hb; obtain ⟨Ao, co, rfl⟩ := Kd.R_slice HO7.out) | (go_at_call 16; (with_reducible refine (titheref22_time.calls k _ _ y (kk : Int) _ _ l1 t _ ?side1 ?side2 ?side3 ?side4 HT.out).mono ?_); (case side1 => exact (Kd.R_reads' HO7.out).2.2); (case side2 => exact (Kd.R_reads' HO7.out).2.1); (case side3 => exact Kd.C_below HR1.out HB7.out); (case side4 => exact HC1.out); rintro e w8 ⟨rfl, hb⟩; have HB9 := Aside0.mk (HB8.out.trans (hb.mono HB8.out.size)); clear hb))
                        go_roundg (l0.length - (kk + 1))
                        case measure => omega
                        case rel => exact ⟨kk + 1, (kk : Int), by omega, rfl, by first | rfl | (congr 1; unfold wrap64; omega) | (congr 1; omega), by omega, ⟨HP.out.step HB9.out HP.out.size⟩, ⟨.inr ⟨kk, rfl, (Option.some.inj HF3.out).symm⟩⟩⟩
            · obtain rfl : kk = l0.length := by omega
              have hltd : decide ((l0.length : Int) < (l0.length : Int)) = false := decide_eq_false (by omega)
              rw [Nat.sub_self] at hF
              simp only [findR, Option.some.injEq] at hF
              subst hF
              go_wp2_with (fail)
              go_meet
              case rel => exact ⟨rfl, HP⟩
          · subst hri
            have hfd0 : decide ((i : Int) < 0) = false := decide_eq_false (by omega)
            by_cases hlt : kk < l0.length
            · have hltd : decide ((kk : Int) < (l0.length : Int)) = true := decide_eq_true (by omega)
              go_wp2_with (fail)
              go_meet
              case rel => exact ⟨rfl, HP⟩
            · have hltd : decide ((kk : Int) < (l0.length : Int)) = false := decide_eq_false (by omega)
              go_wp2_with (fail)
              go_meet
              case rel => exact ⟨rfl, HP⟩
      case rest =>
        clear HP
        obtain ⟨rfl, HP⟩ := hcut
        cases r with
        | none =>
          have hl := HL2.out
          simp only [Option.some.injEq] at hl
          subst hl
          obtain ⟨rfl, rfl⟩ : [] = r1 ∧ (220 : Int) = r2 := by simpa using HH.out
          have hfd : fdW none = -1 := rfl
          rw [hfd]
          go_wp2
          go_ret2
          exact ⟨_, rfl, Kd.R_nil _ _ _ _ _, HBO.out HP.out⟩
        | some i =>
          have hfd : fdW (some i) = (i : Int) := rfl
          rw [hfd]
          have hin : i < l0.length := by have := findR_lt HF.out; omega
          have hi8 : i < 8 := by omega
          have hiz : (i : Int) < (l0.length : Int) := by omega
          have hi0 : 0 ≤ (i : Int) := by omega
          have hi0d : decide ((i : Int) < 0) = false := decide_eq_false (by omega)
          have ha1 := (HP.out.ra.rd hin).1
          have ha2 := (HP.out.ra.rd hin).2
          have HP8 := HP.out.setA hin (.int .i64 (v : Int))
          have hb1 := (HP8.rb.rd hi8).1
          have hb2 := (HP8.rb.rd hi8).2
          have HP9 := HP8.setB hi8 (.bool true)
          rw [psV_set, hasV_set] at HP9
          have HP9 := Aside0.mk HP9
          clear HP8
          have hab := HP.out.nab
          go_wp2_with (fail)
          go_roundg v
          case measure => omega
          case rel => exact ⟨v, _, by omega, by first | rfl | (congr 1; unfold wrap64; omega) | (congr 1; omega), Nat.le_refl _, HP9, HL2⟩
end Go.Proofs.Ytadkgcjmacccnaa.C
