/- Proved here: what demand.order answers at 19 entries or fewer, by the due times: a stable sort of the places. No conditions. -/
import Derived.Test.YtffckkjaeekanaaBx4
namespace Go.Proofs.Ytffckkjaeekanaa.B
open Go.Shelf Go.RowKit Go.Lib Go.Sort Go.Proofs.YtffckkjaeekanaaW.PrintWords Go.Proofs.YtffckkjaeekanaaW.PrintLast Go.Proofs.YtffckkjaeekanaaW.PrintMore
set_option linter.unusedVariables false
theorem due_grown (x : S39) (w : World) : Calls Try.prog 21 #[.agg #[.int .i64 x.f0, .int .i64 x.f1, .int .i64 x.f2, .int .i64 x.f3]] w fun e w' => e = .returned (.int .i64 x.f2) ∧ ∃ q os', w' = grow (w.drewN q) os' := by
  have hu39 := Try.underlying39
  go_enter Try.func21, Try.ntmps21
  go_wp2
  go_ret
  exact ⟨rfl, 0, _, by rw [alloc_eq_grow]; rfl⟩
set_option maxHeartbeats 4000000 in
set_option maxRecDepth 1000000 in
theorem cloD_grown (A0 : Option Addr) (c0 : Nat) (l0 : List S39) (Bk Bw : Nat) (i k : Nat) (w : World) (hr0 : Kd.C k39 w A0 l0.length l0) (hi : i < l0.length) (hk : k < l0.length)
    (hbk : w.cell? ⟨Bk, 0, none⟩ = some (.func (.func 21) #[] #[])) (hbw : w.cell? ⟨Bw, 0, none⟩ = some (.slice A0 l0.length c0)) :
    Calls Try.prog 41 #[.int .i64 (i : Int), .int .i64 (k : Int), .pointer (some ⟨Bk, 0, none⟩), .pointer (some ⟨Bw, 0, none⟩)] w fun e w' => e = .returned (.int .i64 (ccmp (rd_T39 l0 (i : Int)).f2 (rd_T39 l0 (k : Int)).f2)) ∧ ∃ q os', w' = grow (w.drewN q) os' := by
  have hu39 := Try.underlying39
  have hiz : (i : Int) < (l0.length : Int) := by omega
  have hkz : (k : Int) < (l0.length : Int) := by omega
  have hi0 : 0 ≤ (i : Int) := by omega
  have hk0 : 0 ≤ (k : Int) := by omega
  obtain ⟨ad, e1, x0, x1, x2, x3⟩ := at_T39 hr0 (i : Int) hi0 hiz
  cases e1
  obtain ⟨ad', e1, y0, y1, y2, y3⟩ := at_T39 hr0 (k : Int) hk0 hkz
  cases e1
  generalize hx : rd_T39 l0 (i : Int) = x at x0 x1 x2 x3 ⊢
  generalize hy : rd_T39 l0 (k : Int) = y at y0 y1 y2 y3 ⊢
  simp only [Int.toNat_natCast] at x0 x1 x2 x3 y0 y1 y2 y3
  clear hr0 hx hy
  have gk := cell_grown (World.block_lt_of_cell? w _ hbk) hbk
  have gw := cell_grown (World.block_lt_of_cell? w _ hbw) hbw
  have gx0 := cell_grown (World.block_lt_of_cell? w _ x0) x0
  have gx1 := cell_grown (World.block_lt_of_cell? w _ x1) x1
  have gx2 := cell_grown (World.block_lt_of_cell? w _ x2) x2
  have gx3 := cell_grown (World.block_lt_of_cell? w _ x3) x3
  have gy0 := cell_grown (World.block_lt_of_cell? w _ y0) y0
  have gy1 := cell_grown (World.block_lt_of_cell? w _ y1) y1
  have gy2 := cell_grown (World.block_lt_of_cell? w _ y2) y2
  have gy3 := cell_grown (World.block_lt_of_cell? w _ y3) y3
  clear hbk hbw x0 x1 x2 x3 y0 y1 y2 y3
  have hp := due_grown x
  have hq := due_grown y
  have hc := cmp_grown x.f2 y.f2
  have hm : Try.prog.follows .mixedOrders = true := by kernel_rfl
  go_enter Try.func41, Try.ntmps41
  go_wp2_with fail
  go_quiet_grown (first | (go_at_call 42; refine Calls.grown_of (hc _)) | (refine Calls.grown_of (hp _)) | (refine Calls.grown_of (hq _)))
  go_wp2
  go_ret
  exact ⟨rfl, nq, osq, rfl⟩
def ordD (l0 : List S39) : List Int := (Tithe.srt (fun i k : Nat => decide ((rd_T39 l0 (i : Int)).f2 < (rd_T39 l0 (k : Int)).f2)) (List.range l0.length)).map fun j : Nat => (j : Int)
theorem sort_rowD (A0 : Option Addr) (c0 : Nat) (l0 : List S39) (hl : l0.length ≤ 19) (Bk Bw base : Nat) (wb w : World) (v : Value) (ok : Nat → Prop)
    (hr0 : Kd.C k39 wb A0 l0.length l0) (hB : Below wb.heap.size wb w) (hbase : wb.heap.size ≤ base)
    (hbk : w.cell? ⟨Bk, 0, none⟩ = some (.func (.func 21) #[] #[])) (hbw : w.cell? ⟨Bw, 0, none⟩ = some (.slice A0 l0.length c0)) (hk : Bk < base) (hw : Bw < base)
    (hv : Kd.R (Kd.int .i64) 3 w base ok v ((List.range l0.length).map fun j : Nat => (j : Int))) :
    ∃ a c, v = .slice a l0.length c ∧ Calls Try.prog 60 #[v, .int .i64 0, .int .i64 (l0.length : Int), .func (.func 41) #[] #[.pointer (some ⟨Bk, 0, none⟩), .pointer (some ⟨Bw, 0, none⟩)]] w fun e w' =>
      e = .returned (.tuple #[]) ∧ Kd.R (Kd.int .i64) 3 w' base ok v (ordD l0) ∧ Below base w w' := by
  have hok := hv.1
  have hown := Kd.own_of_R hv
  obtain ⟨hlen, h2⟩ := hown
  simp only [List.length_map, List.length_range] at hlen h2
  rcases h2 with ⟨rfl, h0⟩ | ⟨g, cap, cur, rfl, hg, hh, hnc, hcm, hcs, htk⟩
  · have e0 : l0 = [] := List.length_eq_zero_iff.1 h0
    subst e0
    refine ⟨none, 0, rfl, ?_⟩
    refine (ins_none none 0 _ w).mono ?_
    rintro e w' ⟨rfl, rfl⟩
    exact ⟨rfl, hv, Below.refl _ _⟩
  · refine ⟨some ⟨g, 0, none⟩, cap, rfl, ?_⟩
    by_cases h0 : l0.length = 0
    · have e0 : l0 = [] := List.length_eq_zero_iff.1 h0
      subst e0
      refine (ins_none _ cap _ w).mono ?_
      rintro e w' ⟨rfl, rfl⟩
      exact ⟨rfl, hv, Below.refl _ _⟩
    · have : Inhabited { m : Nat // m < l0.length } := ⟨⟨0, by omega⟩⟩
      have hgl : g < w.heap.size := (Array.getElem?_eq_some_iff.1 hh).1
      let enc : { m : Nat // m < l0.length } → Value := fun m => .int .i64 (m.1 : Int)
      let xs : List { m : Nat // m < l0.length } := (List.range l0.length).attachWith (fun m => m < l0.length) (fun m hm => by simpa using hm)
      have hxv : xs.map (fun m => m.1) = List.range l0.length := by simp [xs]
      have hxl : xs.toArray.size = l0.length := by simp [xs]
      have hcurlen : l0.length ≤ cur.size := by omega
      have hH : Holds enc w g 0 xs.toArray := by
        intro j hj
        rw [hxl] at hj
        have e1 : (cur.toList.take (l0.length * 1))[j]? = some (.int .i64 (j : Int)) := by
          rw [htk]; simp [encs, hj]
        rw [List.getElem?_take] at e1
        simp only [Nat.mul_one, hj, if_true, Array.getElem?_toList] at e1
        have e2 : xs.toArray[j]! = ⟨j, hj⟩ := by simp [xs, hj]
        refine ⟨?_, by simp [World.frozen?, hh]⟩
        rw [e2]
        simp [World.cell?, hh, e1, enc]
      have hbel : ∀ m os (dk : Array { m : Nat // m < l0.length }), dk.size = l0.length → Below wb.heap.size wb (sortWorld enc w g 0 m dk os) ∧ (sortWorld enc w g 0 m dk os).cell? ⟨Bk, 0, none⟩ = some (.func (.func 21) #[] #[]) ∧ (sortWorld enc w g 0 m dk os).cell? ⟨Bw, 0, none⟩ = some (.slice A0 l0.length c0) := by
        intro m os dk hdk
        have hs := own_sorted enc w (sortWorld enc w g 0 m dk os) g cur dk hh (by omega) ⟨m, os, rfl⟩
        obtain ⟨_, q1, q2, q3, q4, q5⟩ := hs
        have hbk' := World.block_lt_of_cell? w _ hbk
        have hbw' := World.block_lt_of_cell? w _ hbw
        refine ⟨hB.trans ⟨q2, q3, q4, q5, fun k hk' => q1 k (by omega) (Nat.lt_of_lt_of_le hk' hB.size)⟩, ?_, ?_⟩
        · rw [← hbk]; simp only [World.cell?]; rw [q1 Bk (by omega) hbk']
        · rw [← hbw]; simp only [World.cell?]; rw [q1 Bw (by omega) hbw']
      have hcmp : CmpLays1 Try.prog 41 #[.pointer (some ⟨Bk, 0, none⟩), .pointer (some ⟨Bw, 0, none⟩)] enc (fun x y => ccmp (rd_T39 l0 (x.1 : Int)).f2 (rd_T39 l0 (y.1 : Int)).f2) g 0 xs.toArray.size w := by
        intro m os dk hdk x y
        rw [hxl] at hdk
        obtain ⟨b1, b2, b3⟩ := hbel m os dk hdk
        exact cloD_grown A0 c0 l0 Bk Bw x.1 y.1 _ (Kd.C_below hr0 b1) x.2 y.2 b2 b3
      have hins := Any.insertionSortCmpFunc_s ins_lay enc (fun x y => ccmp (rd_T39 l0 (x.1 : Int)).f2 (rd_T39 l0 (y.1 : Int)).f2) 41 #[.pointer (some ⟨Bk, 0, none⟩), .pointer (some ⟨Bw, 0, none⟩)] g 0 cap 0 l0.length xs.toArray xs.toArray w w
        (enters_of Try.func41 (by kernel_rfl) rfl) hcmp ⟨fun _ => rfl, hH, hgl⟩ rfl (SW.start hH) (Nat.zero_le _) (by omega) (by omega)
      rw [hxl] at hins
      refine hins.mono ?_
      rintro e w' ⟨rfl, S⟩
      have hlx : xs.length = l0.length := by simpa using hxl
      have hsort : Sort.insertionSort (ltOf fun x y => ccmp (rd_T39 l0 (x.1 : Int)).f2 (rd_T39 l0 (y.1 : Int)).f2) xs.toArray 0 l0.length = (Tithe.srt (ltOf fun x y : { m : Nat // m < l0.length } => ccmp (rd_T39 l0 (x.1 : Int)).f2 (rd_T39 l0 (y.1 : Int)).f2) xs).toArray := by
        exact Tithe.insertionSort_list' _ xs hlx
      rw [hsort] at S
      have hsl := Tithe.srt_length (ltOf fun x y : { m : Nat // m < l0.length } => ccmp (rd_T39 l0 (x.1 : Int)).f2 (rd_T39 l0 (y.1 : Int)).f2) xs
      have hs := own_sorted enc w w' g cur _ hh (by simp only [List.size_toArray]; omega) S
      obtain ⟨⟨cur', u1, u2, u3⟩, q1, q2, q3, q4, q5⟩ := hs
      have hmap : (Tithe.srt (ltOf fun x y : { m : Nat // m < l0.length } => ccmp (rd_T39 l0 (x.1 : Int)).f2 (rd_T39 l0 (y.1 : Int)).f2) xs).map (fun m => m.1) = Tithe.srt (fun i k : Nat => decide ((rd_T39 l0 (i : Int)).f2 < (rd_T39 l0 (k : Int)).f2)) (List.range l0.length) := by
        rw [← hxv]
        exact Tithe.srt_map (fun m : { m : Nat // m < l0.length } => m.1) _ _ (fun x y => ccmp_lt _ _) xs
      have hol : (ordD l0).length = l0.length := by unfold ordD; rw [List.length_map, Tithe.srt_length, List.length_range]
      refine ⟨rfl, Kd.R_of_own ⟨?_, .inr ⟨g, cap, cur', ?_, hg, u1, by omega, hcm, by omega, ?_⟩⟩ hok, ⟨q2, q3, q4, q5, fun k hk' => q1 k (by omega) (by omega)⟩⟩
      · simp [encs]
      · rw [hol]
      · have e3 : (ordD l0).length * 1 = (Tithe.srt (ltOf fun x y : { m : Nat // m < l0.length } => ccmp (rd_T39 l0 (x.1 : Int)).f2 (rd_T39 l0 (y.1 : Int)).f2) xs).toArray.size := by
          rw [hol, List.size_toArray, hsl, hlx, Nat.mul_one]
        rw [e3, u3]
        unfold encs ordD
        rw [← hmap]
        simp [enc, List.map_map]

def demand_orderD.f (l0 : List S39) (_ : Unit) : Option (List Int) := if l0.length ≤ 19 then some (ordD l0) else none
set_option maxHeartbeats 4000000 in
theorem demand_orderD.calls (A0 : Option Addr) (c0 : Nat) (l0 : List S39) (u : Unit) (r : List Int) (w : World) (hr0 : Kd.C k39 w A0 l0.length l0) (hc0 : l0.length ≤ c0) (h : demand_orderD.f l0 u = some r) :
    Calls Try.prog 28 #[.slice A0 l0.length c0, .func (.func 21) #[] #[]] w fun e w' => ∃ v0_ : Value, e = .returned v0_ ∧ Kd.R (Kd.int .i64) 3 w' w.heap.size (fun _ => True) v0_ r ∧ Below w.heap.size w w' := by
  unfold demand_orderD.f at h
  by_cases hl : l0.length ≤ 19
  case neg => rw [if_neg hl] at h; exact absurd h (by simp)
  rw [if_pos hl] at h
  obtain rfl := Option.some.inj h
  clear h
  obtain ⟨w2, hw2⟩ : ∃ w2, (w.alloc (.cells #[.slice A0 l0.length c0] 22)).alloc (.cells #[.func (.func 21) #[] #[]] 52) = w2 := ⟨_, rfl⟩
  have hsz : w2.heap.size = w.heap.size + 2 := by rw [← hw2]; simp
  have hbw : w2.cell? ⟨w.heap.size, 0, none⟩ = some (.slice A0 l0.length c0) := by
    have hq : w2.heap[w.heap.size]? = some (.cells #[.slice A0 l0.length c0] 22) := by rw [← hw2]; exact (Below.heap_alloc _ _ _ (by simp)).trans (alloc_new w _)
    simp [World.cell?, hq]
  have hbk : w2.cell? ⟨w.heap.size + 1, 0, none⟩ = some (.func (.func 21) #[] #[]) := by
    have hq : w2.heap[w.heap.size + 1]? = some (.cells #[.func (.func 21) #[] #[]] 52) := by rw [← hw2]; have := alloc_new (w.alloc (.cells #[.slice A0 l0.length c0] 22)) (.cells #[.func (.func 21) #[] #[]] 52); rwa [World.size_alloc] at this
    simp [World.cell?, hq]
  have hB2 : Below w.heap.size w w2 := by rw [← hw2]; exact ((Below.refl _ w).alloc (Nat.le_refl _) _).alloc (by simp) _
  have HR0 := Aside0.mk hr0
  have HC0 := Aside0.mk hc0
  have HL := Aside0.mk hl
  have HB2 := Aside0.mk hB2
  clear hr0 hc0 hl hB2
  have HW2 := Aside0.mk hw2
  go_enter Try.func28, Try.ntmps28
  go_wp2
  (try rw [hw2])
  clear hw2
  go_loopg [5, 9] l0.length (fun gg v5 v9 wr => ∃ kk : Nat, kk ≤ l0.length ∧ l0.length - kk ≤ gg ∧ v9 = .int .i64 (kk : Int) ∧ Aside0 (Kd.R (Kd.int .i64) 3 wr w2.heap.size (fun _ => True) v5 ((List.range kk).map fun j : Nat => (j : Int))) ∧ Aside0 (Below w2.heap.size w2 wr))
  case atStart => exact ⟨0, Nat.zero_le _, by omega, rfl, ⟨Kd.R_nil _ _ _ _ _⟩, ⟨Below.refl _ _⟩⟩
  case round =>
    obtain ⟨kk, hkk, hg, rfl, HO, HB⟩ := hrel
    by_cases hlt : kk < l0.length
    · have hd : decide ((kk : Int) < (l0.length : Int)) = true := decide_eq_true (by omega)
      have hle := HL.out
      go_wp2_with (first | ((with_reducible refine gate_builtin (b := .append) (xs := #[.tmp 12, .tmp 14]) rfl ?_); at_builtin; refine Kd.R_append (Kd.int .i64) (w0 := w2) w2.heap.size rfl (.tmp 12) (.tmp 14) 42 3 (.int .i64 0) 8 rfl Try.underlying42 info3 rfl (by decide) (by omega) _ ((List.range kk).map fun j : Nat => (j : Int)) (kk : Int) [.int .i64 (kk : Int)] (fun _ => True) (fun _ => False) rfl rfl ?aP (fun _ hk => hk.elim) ?aF ?aO ?aB ?aS ?aL ?_; (case aP => exact rfl); (case aB => exact HB.out); (case aF => exact (fun _ _ => trivial)); (case aO => exact HO.out); (case aS => exact HB.out.size); (case aL => simp only [List.length_map, List.length_range]; omega); intro v1 w1 ho hb hg1 hat; have HO2 := Aside0.mk ho; have HB3 := Aside0.mk hb; clear ho hb hg1 hat))
      go_roundg (l0.length - (kk + 1))
      case measure => omega
      case rel => exact ⟨kk + 1, by omega, by omega, by first | rfl | (congr 1; unfold wrap64; omega) | (rw [show wrap64 ((kk : Int) + 1) = ((kk + 1 : Nat) : Int) by unfold wrap64; omega]), ⟨by rw [List.range_succ, List.map_append]; exact HO2.out⟩, HB3⟩
    · obtain rfl : kk = l0.length := by omega
      have hd : decide ((l0.length : Int) < (l0.length : Int)) = false := decide_eq_false (by omega)
      have hbk' := (HB.out.cell (World.block_lt_of_cell? w2 _ hbk)).trans hbk
      have hbw' := (HB.out.cell (World.block_lt_of_cell? w2 _ hbw)).trans hbw
      obtain ⟨a, c, rfl, hins⟩ := sort_rowD A0 c0 l0 HL.out (w.heap.size + 1) w.heap.size w2.heap.size w _ _ _ HR0.out (HB2.out.trans (HB.out.mono (by omega))) (by omega) hbk' hbw' (by omega) (by omega) HO.out
      have HS := Aside0.mk (sort_of a l0.length c _ HL.out (fun w' => Kd.R (Kd.int .i64) 3 w' w2.heap.size (fun _ => True) (.slice a l0.length c) (ordD l0) ∧ Below w2.heap.size _ w') _ hins)
      clear hins hbk hbw hbk' hbw'
      go_wp2_with (first | (go_at_call 40; refine HS.out.mono ?_; rintro e w' ⟨rfl, hR⟩; have HR := Aside0.mk hR; clear hR))
      go_ret
      exact ⟨_, rfl, Kd.R_lower HR.out.1 (by omega), HB2.out.trans ((HB.out.trans HR.out.2).mono (by omega))⟩
end Go.Proofs.Ytffckkjaeekanaa.B
