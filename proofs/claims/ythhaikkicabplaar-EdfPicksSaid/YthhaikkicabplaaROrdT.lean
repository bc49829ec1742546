/- Proved here: what edf.Order answers: the places of those with budget left, by ends, slots, places. No conditions. -/
import Derived.Test.YthhaikkicabplaaRStabW
import Derived.Test.YthhaikkicabplaaROrdW
import Derived.Test.YthhaikkicabplaaRPx0
namespace Go.Proofs.YthhaikkicabplaaR.P
open Go.Shelf Go.RowKit Go.Lib Go.Sort Tithe.Sym Go.Proofs.YthhaikkicabplaaRW.PrintWords Go.Proofs.YthhaikkicabplaaRW.PrintLast Go.Proofs.YthhaikkicabplaaRW.PrintMore
set_option linter.unusedVariables false
theorem ccmp_neg (a b : Int) : ccmp a b < 0 ↔ a < b := by unfold ccmp; split <;> (try split) <;> omega
theorem ccmp_zero (a b : Int) : ccmp a b = 0 ↔ a = b := by unfold ccmp; split <;> (try split) <;> omega
theorem ocmp_neg (a s b t : Int) : ocmp a s b t < 0 ↔ a < b ∨ (a = b ∧ s < t) := by
  unfold ocmp
  have h1 := ccmp_neg a b; have h2 := ccmp_zero a b; have h3 := ccmp_neg s t
  split <;> omega
theorem ocmp_zero (a s b t : Int) : ocmp a s b t = 0 ↔ a = b ∧ s = t := by
  unfold ocmp
  have h2 := ccmp_zero a b; have h3 := ccmp_zero s t
  split <;> omega
def chEnd (l0 : List S59) (i : Nat) : Int := (rd_T59 l0 (i : Int)).f2
def chSlot (l0 : List S59) (i : Nat) : Int := (rd_T59 l0 (i : Int)).f0
/-- who is ahead -/
def ahd (l0 : List S59) (i k : Nat) : Bool := decide (chEnd l0 i < chEnd l0 k ∨ chEnd l0 i = chEnd l0 k ∧ (chSlot l0 i < chSlot l0 k ∨ chSlot l0 i = chSlot l0 k ∧ i < k))
theorem ahd_ord (l0 : List S59) : Tithe.Sym.Ord (ahd l0) where
  irr := by intro a; unfold ahd; simp
  trans := by intro a b c h1 h2; unfold ahd at *; simp only [decide_eq_true_eq] at *; omega
/-- those with budget left -/
def plc (l0 : List S59) (n : Nat) : List Nat := (List.range n).filter fun i => decide (0 < (rd_T59 l0 (i : Int)).f1)
def ordl (l0 : List S59) : List Nat := Tithe.srt (ahd l0) (plc l0 l0.length)
theorem plc_pw (l0 : List S59) (n : Nat) : (plc l0 n).Pairwise (· < ·) := List.Pairwise.filter _ List.pairwise_lt_range
theorem plc_lt (l0 : List S59) (n : Nat) : ∀ i ∈ plc l0 n, i < n := by intro i hi; have := List.mem_filter.1 hi; simpa using this.1
theorem plc_len (l0 : List S59) (n : Nat) : (plc l0 n).length ≤ n := by unfold plc; exact Nat.le_trans (List.length_filter_le _ _) (by simp)
theorem plc_succ (l0 : List S59) (n : Nat) : plc l0 (n + 1) = if 0 < (rd_T59 l0 (n : Int)).f1 then plc l0 n ++ [n] else plc l0 n := by
  unfold plc
  rw [List.range_succ, List.filter_append]
  by_cases h : 0 < (rd_T59 l0 (n : Int)).f1
  · rw [if_pos h]; simp [h]
  · rw [if_neg h]; simp [h]
theorem ordl_srt (l0 : List S59) : Srt (ahd l0) (ordl l0) := by
  refine srt_srt (ahd_ord l0) _ _ ((plc_pw l0 _).imp ?_)
  intro a b hab
  refine ⟨fun h => h, fun h => ?_⟩
  unfold ahd at *
  simp only [decide_eq_true_eq, decide_eq_false_iff_not] at *
  omega
theorem ordl_perm (l0 : List S59) : (ordl l0).Perm (plc l0 l0.length) := Tithe.srt_perm _ _
theorem ordl_len (l0 : List S59) : (ordl l0).length = (plc l0 l0.length).length := (ordl_perm l0).length_eq
set_option maxHeartbeats 4000000 in
set_option maxRecDepth 1000000 in
theorem clo_grown (A0 : Option Addr) (c0 : Nat) (l0 : List S59) (Bw : Nat) (i k : Nat) (w : World) (hr0 : Kd.C k59 w A0 l0.length l0) (hi : i < l0.length) (hk : k < l0.length)
    (hbw : w.cell? ⟨Bw, 0, none⟩ = some (.slice A0 l0.length c0)) :
    Calls Try.prog 42 #[.int .i64 (i : Int), .int .i64 (k : Int), .pointer (some ⟨Bw, 0, none⟩)] w fun e w' => e = .returned (.int .i64 (ocmp (chEnd l0 i) (chSlot l0 i) (chEnd l0 k) (chSlot l0 k))) ∧ ∃ q os', w' = grow (w.drewN q) os' := by
  have hu59 := Try.underlying59
  have hiz : (i : Int) < (l0.length : Int) := by omega
  have hkz : (k : Int) < (l0.length : Int) := by omega
  have hi0 : 0 ≤ (i : Int) := by omega
  have hk0 : 0 ≤ (k : Int) := by omega
  obtain ⟨ad, e1, x0, x1, x2⟩ := at_T59 hr0 (i : Int) hi0 hiz
  cases e1
  obtain ⟨ad', e1, y0, y1, y2⟩ := at_T59 hr0 (k : Int) hk0 hkz
  cases e1
  unfold chEnd chSlot
  generalize hx : rd_T59 l0 (i : Int) = x at x0 x1 x2 ⊢
  generalize hy : rd_T59 l0 (k : Int) = y at y0 y1 y2 ⊢
  simp only [Int.toNat_natCast] at x0 x1 x2 y0 y1 y2
  clear hr0 hx hy
  have gw := cell_grown (World.block_lt_of_cell? w _ hbw) hbw
  have gx0 := cell_grown (World.block_lt_of_cell? w _ x0) x0
  have gx1 := cell_grown (World.block_lt_of_cell? w _ x1) x1
  have gx2 := cell_grown (World.block_lt_of_cell? w _ x2) x2
  have gy0 := cell_grown (World.block_lt_of_cell? w _ y0) y0
  have gy1 := cell_grown (World.block_lt_of_cell? w _ y1) y1
  have gy2 := cell_grown (World.block_lt_of_cell? w _ y2) y2
  clear hbw x0 x1 x2 y0 y1 y2
  have hq := order_grown x.f0 x.f1 x.f2 y.f0 y.f1 y.f2
  generalize ocmp x.f2 x.f0 y.f2 y.f0 = res at hq ⊢
  have hm : Try.prog.follows .mixedOrders = true := by kernel_rfl
  go_enter Try.func42, Try.ntmps42
  go_wp2_with fail
  go_quiet_grown (first | (refine Calls.grown_of (hq _)))
  go_wp2
  go_ret
  exact ⟨rfl, nq, osq, rfl⟩
theorem alloc_new (w : World) (o : Obj) : (w.alloc o).heap[w.heap.size]? = some o := by unfold World.alloc; simp
/-- behind the sort: the row's block, and all else as it was -/
theorem own_sorted {α : Type} [Inhabited α] (enc : α → Value) (W W' : World) (g : Nat) (cur : Array Value) (d' : Array α) (hh : W.heap[g]? = some (.cells cur 3 (0, 0))) (hd : d'.size ≤ cur.size) (S : SW enc W g 0 d' W') :
    (∃ cur', W'.heap[g]? = some (.cells cur' 3 (0, 0)) ∧ cur'.size = cur.size ∧ cur'.toList.take d'.size = d'.toList.map enc) ∧ (∀ k, k ≠ g → k < W.heap.size → W'.heap[k]? = W.heap[k]?) ∧ W'.os = W.os ∧ W'.tape = W.tape ∧ W'.output = W.output ∧ W.heap.size ≤ W'.heap.size := by
  obtain ⟨m, os, rfl⟩ := S
  have hg : g < W.heap.size := (Array.getElem?_eq_some_iff.1 hh).1
  unfold sortWorld grow putRow mapBlock
  simp only [Sort.ahead]
  refine ⟨⟨putCells enc 0 d' cur, ?_, by simp [putCells], ?_⟩, ?_, by trivial, by trivial, by trivial, by simp⟩
  · rw [Array.getElem?_append_left (by simpa using hg), Array.getElem?_modify, if_pos rfl, hh]
    rfl
  · apply List.ext_getElem
    · simp [putCells]; omega
    · intro i h1 h2
      have hi : i < d'.size := by simpa using h2
      simp [putCells, hi]
  · intro k hk hlt
    rw [Array.getElem?_append_left (by simpa using hlt), Array.getElem?_modify, if_neg (fun e => hk e.symm)]
/-- no element: nothing to do -/
theorem stable_none (a : Option Addr) (c : Nat) (fv : Value) (w : World) :
    Calls Try.prog 47 #[.slice a 0 c, .int .i64 0, fv] w fun e w' => e = .returned (.tuple #[]) ∧ w' = w := by
  have hins := YthhaikkicabplaaR.Sort.ins_none a c fv w
  go_enter Try.func47, Try.ntmps47
  go_wp2
  go_loopg [7, 8] 0 (fun gg v7 v8 wr => v7 = .int .i64 0 ∧ v8 = .int .i64 20 ∧ wr = w)
  case atStart => exact ⟨rfl, rfl, rfl⟩
  case round =>
    obtain ⟨rfl, rfl, rfl⟩ := hrel
    go_wp2_with (first | (go_at_call 49; refine hins.mono ?_; rintro e w' ⟨rfl, rfl⟩))
    go_loopg [6] 0 (fun gg v6 wr2 => v6 = .int .i64 20 ∧ wr2 = w')
    case atStart => exact ⟨rfl, rfl⟩
    case round =>
      obtain ⟨rfl, rfl⟩ := hrel
      go_wp2
      go_end0
      exact ⟨rfl, rfl⟩
theorem sort_of (a : Option Addr) (n c : Nat) (fv : Value) (R : World → Prop) (w : World)
    (h : Calls Try.prog 47 #[.slice a n c, .int .i64 (n : Int), fv] w fun e w' => e = .returned (.tuple #[]) ∧ R w') :
    Calls Try.prog 41 #[.slice a n c, fv] w fun e w' => e = .returned (.tuple #[]) ∧ R w' := by
  go_enter Try.func41, Try.ntmps41
  go_wp2_with (first | (go_at_call 47; refine h.mono ?_; rintro e w' ⟨rfl, hR⟩))
  go_end0
  exact ⟨rfl, hR⟩
theorem sort_row (A0 : Option Addr) (c0 : Nat) (l0 : List S59) (hl : l0.length ≤ 8796093022208) (Bw base : Nat) (wb w : World) (v : Value) (ok : Nat → Prop)
    (hr0 : Kd.C k59 wb A0 l0.length l0) (hB : Below wb.heap.size wb w) (hbase : wb.heap.size ≤ base)
    (hbw : w.cell? ⟨Bw, 0, none⟩ = some (.slice A0 l0.length c0)) (hw : Bw < base)
    (hv : Kd.R (Kd.int .i64) 3 w base ok v ((plc l0 l0.length).map fun j : Nat => (j : Int))) :
    ∃ a c, v = .slice a (plc l0 l0.length).length c ∧ Calls Try.prog 47 #[v, .int .i64 ((plc l0 l0.length).length : Int), .func (.func 42) #[] #[.pointer (some ⟨Bw, 0, none⟩)]] w fun e w' =>
      e = .returned (.tuple #[]) ∧ Kd.R (Kd.int .i64) 3 w' base ok v ((ordl l0).map fun j : Nat => (j : Int)) ∧ Below base w w' := by
  have hok := hv.1
  have hown := Kd.own_of_R hv
  have hpl := plc_len l0 l0.length
  have hol := ordl_len l0
  obtain ⟨n, hn⟩ : ∃ n, n = (plc l0 l0.length).length := ⟨_, rfl⟩
  obtain ⟨hlen, h2⟩ := hown
  simp only [List.length_map] at hlen h2
  rw [← hn] at hlen h2 hpl hol ⊢
  have hzero : n = 0 → (ordl l0).map (fun j : Nat => (j : Int)) = (plc l0 l0.length).map fun j : Nat => (j : Int) := by
    intro h0
    rw [List.length_eq_zero_iff.1 (show (ordl l0).length = 0 by omega), List.length_eq_zero_iff.1 (show (plc l0 l0.length).length = 0 by omega)]
  rcases h2 with ⟨rfl, h0⟩ | ⟨g, cap, cur, rfl, hg, hh, hnc, hcm, hcs, htk⟩
  · refine ⟨none, 0, by rw [h0], ?_⟩
    have hz := hzero h0
    rw [h0, hz]
    refine (stable_none none 0 _ w).mono ?_
    rintro e w' ⟨rfl, rfl⟩
    exact ⟨rfl, hv, Below.refl _ _⟩
  · refine ⟨some ⟨g, 0, none⟩, cap, rfl, ?_⟩
    by_cases h0 : n = 0
    · have hz := hzero h0
      rw [h0] at hv ⊢
      rw [hz]
      refine (stable_none _ cap _ w).mono ?_
      rintro e w' ⟨rfl, rfl⟩
      exact ⟨rfl, hv, Below.refl _ _⟩
    · have : Inhabited { m : Nat // m < l0.length } := ⟨⟨0, by omega⟩⟩
      have hgl : g < w.heap.size := (Array.getElem?_eq_some_iff.1 hh).1
      let enc : { m : Nat // m < l0.length } → Value := fun m => .int .i64 (m.1 : Int)
      let xs : List { m : Nat // m < l0.length } := (plc l0 l0.length).attachWith (fun m => m < l0.length) (plc_lt l0 l0.length)
      have hxv : xs.map (fun m => m.1) = plc l0 l0.length := by simp [xs]
      have hxn : xs.length = n := by rw [hn, ← hxv, List.length_map]
      have hxl : xs.toArray.size = n := by simpa using hxn
      have hcurlen : n ≤ cur.size := by omega
      have hH : Holds enc w g 0 xs.toArray := by
        intro j hj
        rw [hxl] at hj
        have e1 : (cur.toList.take (n * 1))[j]? = some (.int .i64 ((xs[j]'(by omega)).1 : Int)) := by
          rw [htk, ← hxv]; simp [encs, show j < xs.length by omega]
        rw [List.getElem?_take] at e1
        simp only [Nat.mul_one, hj, if_true, Array.getElem?_toList] at e1
        have e2 : xs.toArray[j]! = xs[j]'(by omega) := by simp [show j < xs.length by omega]
        refine ⟨?_, by simp [World.frozen?, hh]⟩
        rw [e2]
        simp [World.cell?, hh, e1, enc]
      have hbel : ∀ m os (dk : Array { m : Nat // m < l0.length }), dk.size = n → Below wb.heap.size wb (sortWorld enc w g 0 m dk os) ∧ (sortWorld enc w g 0 m dk os).cell? ⟨Bw, 0, none⟩ = some (.slice A0 l0.length c0) := by
        intro m os dk hdk
        have hs := own_sorted enc w (sortWorld enc w g 0 m dk os) g cur dk hh (by omega) ⟨m, os, rfl⟩
        obtain ⟨_, q1, q2, q3, q4, q5⟩ := hs
        have hbw' := World.block_lt_of_cell? w _ hbw
        refine ⟨hB.trans ⟨q2, q3, q4, q5, fun k hk' => q1 k (by omega) (Nat.lt_of_lt_of_le hk' hB.size)⟩, ?_⟩
        rw [← hbw]; simp only [World.cell?]; rw [q1 Bw (by omega) hbw']
      let cf : { m : Nat // m < l0.length } → { m : Nat // m < l0.length } → Int := fun x y => ocmp (chEnd l0 x.1) (chSlot l0 x.1) (chEnd l0 y.1) (chSlot l0 y.1)
      let TT : { m : Nat // m < l0.length } → { m : Nat // m < l0.length } → Bool := fun x y => ahd l0 x.1 y.1
      have hcmp : CmpLays1 Try.prog 42 #[.pointer (some ⟨Bw, 0, none⟩)] enc cf g 0 xs.toArray.size w := by
        intro m os dk hdk x y
        rw [hxl] at hdk
        obtain ⟨b1, b3⟩ := hbel m os dk hdk
        exact clo_grown A0 c0 l0 Bw x.1 y.1 _ (Kd.C_below hr0 b1) x.2 y.2 b3
      have X : YthhaikkicabplaaR.Sort.Cx TT cf (fun m => m.1) := by
        refine ⟨⟨fun a => (ahd_ord l0).irr a.1, fun h k => (ahd_ord l0).trans h k⟩, ?_, ?_⟩
        · intro x y hxy h
          have h := (ocmp_neg _ _ _ _).1 h
          show ahd l0 y.1 x.1 = true
          unfold ahd
          simp only [decide_eq_true_eq]
          omega
        · intro x y hxy h
          have h : ¬ _ := fun hh => h ((ocmp_neg _ _ _ _).2 hh)
          show ahd l0 x.1 y.1 = true
          unfold ahd
          simp only [decide_eq_true_eq]
          omega
      have hxp : xs.Pairwise fun a b => a.1 < b.1 := by
        have h1 := plc_pw l0 l0.length
        rw [← hxv, List.pairwise_map] at h1
        exact h1
      have hst := YthhaikkicabplaaR.Sort.stable_s enc cf 42 #[.pointer (some ⟨Bw, 0, none⟩)] TT (fun m => m.1) X g 0 cap xs.toArray w w (enters_of Try.func42 (by kernel_rfl) rfl) hcmp ⟨fun _ => rfl, hH, hgl⟩ (by omega) xs (by simp) hxp (SW.start hH)
      rw [hxl] at hst
      refine hst.mono ?_
      rintro e w' ⟨rfl, d, hd1, hd2, S⟩
      have hdl : d.length = n := by rw [hd2.length_eq, hxn]
      have hmap : d.map (fun m => m.1) = ordl l0 := by
        refine srt_uniq (ahd_ord l0) ?_ (ordl_srt l0) ?_
        · exact List.pairwise_map.2 hd1
        · refine (hd2.map _).trans ?_
          rw [hxv]
          exact (ordl_perm l0).symm
      have hs := own_sorted enc w w' g cur _ hh (by simp only [List.size_toArray]; omega) S
      obtain ⟨⟨cur', u1, u2, u3⟩, q1, q2, q3, q4, q5⟩ := hs
      have hml : ((ordl l0).map fun j : Nat => (j : Int)).length = n := by rw [List.length_map, hol]
      refine ⟨rfl, Kd.R_of_own ⟨?_, .inr ⟨g, cap, cur', ?_, hg, u1, by omega, hcm, by omega, ?_⟩⟩ hok, ⟨q2, q3, q4, q5, fun k hk' => q1 k (by omega) (by omega)⟩⟩
      · simp [encs]
      · rw [List.length_map, hol]
      · have e3 : ((ordl l0).map fun j : Nat => (j : Int)).length * 1 = d.toArray.size := by
          rw [List.length_map, hol, List.size_toArray, hdl, Nat.mul_one]
        rw [e3, u3]
        unfold encs
        rw [← hmap]
        simp [enc, List.map_map]
def edf_Order.f (l0 : List S59) : Option (List Int) := if l0.length ≤ 8796093022208 then some ((ordl l0).map fun j : Nat => (j : Int)) else none
set_option maxHeartbeats 4000000 in
theorem edf_Order.calls (A0 : Option Addr) (c0 : Nat) (l0 : List S59) (r : List Int) (w : World) (hr0 : Kd.C k59 w A0 l0.length l0) (hc0 : l0.length ≤ c0) (h : edf_Order.f l0 = some r) :
    Calls Try.prog 31 #[.slice A0 l0.length c0] w fun e w' => ∃ v0_ : Value, e = .returned v0_ ∧ Kd.R (Kd.int .i64) 3 w' w.heap.size (fun _ => True) v0_ r ∧ Below w.heap.size w w' := by
  have hu59 := Try.underlying59
  unfold edf_Order.f at h
  by_cases hl : l0.length ≤ 8796093022208
  case neg => rw [if_neg hl] at h; exact absurd h (by simp)
  rw [if_pos hl] at h
  obtain rfl := Option.some.inj h
  clear h
  obtain ⟨w2, hw2⟩ : ∃ w2, w.alloc (.cells #[.slice A0 l0.length c0] 57) = w2 := ⟨_, rfl⟩
  have hsz : w2.heap.size = w.heap.size + 1 := by rw [← hw2]; simp
  have hbw : w2.cell? ⟨w.heap.size, 0, none⟩ = some (.slice A0 l0.length c0) := by
    have hq : w2.heap[w.heap.size]? = some (.cells #[.slice A0 l0.length c0] 57) := by rw [← hw2]; exact alloc_new w _
    simp [World.cell?, hq]
  have hB2 : Below w.heap.size w w2 := by rw [← hw2]; exact (Below.refl _ w).alloc (Nat.le_refl _) _
  have HR0 := Aside0.mk hr0
  have HC0 := Aside0.mk hc0
  have HL := Aside0.mk hl
  have HB2 := Aside0.mk hB2
  clear hr0 hc0 hl hB2
  have HW2 := Aside0.mk hw2
  go_enter Try.func31, Try.ntmps31
  go_wp2
  (try rw [hw2])
  clear hw2
  go_loopg [3, 8] l0.length (fun gg v3 v8 wr => ∃ kk : Nat, kk ≤ l0.length ∧ l0.length - kk ≤ gg ∧ v8 = .int .i64 (kk : Int) ∧ Aside0 (Kd.R (Kd.int .i64) 3 wr w2.heap.size (fun _ => True) v3 ((plc l0 kk).map fun j : Nat => (j : Int))) ∧ Aside0 (Below w2.heap.size w2 wr))
  case atStart => exact ⟨0, Nat.zero_le _, by omega, rfl, ⟨Kd.R_nil _ _ _ _ _⟩, ⟨Below.refl _ _⟩⟩
  case round =>
    obtain ⟨kk, hkk, hg, rfl, HO, HB⟩ := hrel
    by_cases hlt : kk < l0.length
    · have hd : decide ((kk : Int) < (l0.length : Int)) = true := decide_eq_true (by omega)
      have hkz : (kk : Int) < (l0.length : Int) := by omega
      have hk0 : 0 ≤ (kk : Int) := by omega
      have hle := HL.out
      obtain ⟨ad, e1, x0, x1, x2⟩ := at_T59 (Kd.C_below HR0.out (HB2.out.trans (HB.out.mono (by omega)))) (kk : Int) hk0 hkz
      cases e1
      have HPS := Aside0.mk (plc_succ l0 kk)
      have HPL := Aside0.mk (plc_len l0 kk)
      generalize hx : rd_T59 l0 (kk : Int) = x at x0 x1 x2 HPS
      simp only [Int.toNat_natCast] at x0 x1 x2
      clear hx
      by_cases hp : 0 < x.f1
      · have hpd : decide (x.f1 > 0) = true := decide_eq_true hp
        rw [if_pos hp] at HPS
        have hpl := HPL.out
        have hrm : ((plc l0 kk).map fun j : Nat => (j : Int)).length = (plc l0 kk).length := List.length_map _
        have HHO := Aside0.mk (Kd.R_alloc HO.out (Obj.cells #[Value.int IntKind.i64 x.f0, Value.int IntKind.i64 x.f1, Value.int IntKind.i64 x.f2] 59))
        have HHB := Aside0.mk (HB.out.alloc HB.out.size (Obj.cells #[Value.int IntKind.i64 x.f0, Value.int IntKind.i64 x.f1, Value.int IntKind.i64 x.f2] 59))
        clear HO HB
        go_wp2_with (first | ((with_reducible refine gate_builtin (b := .append) (xs := #[.tmp 16, .tmp 18]) rfl ?_); at_builtin; refine Kd.R_append (Kd.int .i64) (w0 := w2) w2.heap.size rfl (.tmp 16) (.tmp 18) 23 3 (.int .i64 0) 8 rfl Try.underlying23 info3 rfl (by decide) (by omega) _ ((plc l0 kk).map fun j : Nat => (j : Int)) (kk : Int) [.int .i64 (kk : Int)] (fun _ => True) (fun _ => False) rfl (by first | rfl | (rw [World.size_alloc]; rfl) | (simp only [World.size_alloc]; rfl)) ?aP (fun _ hk => hk.elim) ?aF ?aO ?aB ?aS ?aL ?_; (case aP => exact rfl); (case aB => exact HHB.out); (case aF => exact (fun _ _ => trivial)); (case aO => exact HHO.out); (case aS => exact HHB.out.size); (case aL => rw [hrm]; omega); intro v1 w1 ho hb hg1 hat; have HO2 := Aside0.mk ho; have HB3 := Aside0.mk hb; clear ho hb hg1 hat))
        go_roundg (l0.length - (kk + 1))
        case measure => omega
        case rel => exact ⟨kk + 1, by omega, by omega, by first | rfl | (congr 1; unfold wrap64; omega) | (rw [show wrap64 ((kk : Int) + 1) = ((kk + 1 : Nat) : Int) by unfold wrap64; omega]), ⟨by rw [HPS.out, List.map_append]; exact HO2.out⟩, HB3⟩
      · have hpd : decide (x.f1 > 0) = false := decide_eq_false hp
        rw [if_neg hp] at HPS
        have HHO := Aside0.mk (Kd.R_alloc HO.out (Obj.cells #[Value.int IntKind.i64 x.f0, Value.int IntKind.i64 x.f1, Value.int IntKind.i64 x.f2] 59))
        have HHB := Aside0.mk (HB.out.alloc HB.out.size (Obj.cells #[Value.int IntKind.i64 x.f0, Value.int IntKind.i64 x.f1, Value.int IntKind.i64 x.f2] 59))
        clear HO HB
        go_wp2
        go_roundg (l0.length - (kk + 1))
        case measure => omega
        case rel => exact ⟨kk + 1, by omega, by omega, by first | rfl | (congr 1; unfold wrap64; omega) | (rw [show wrap64 ((kk : Int) + 1) = ((kk + 1 : Nat) : Int) by unfold wrap64; omega]), ⟨by rw [HPS.out]; exact HHO.out⟩, HHB⟩
    · obtain rfl : kk = l0.length := by omega
      have hd : decide ((l0.length : Int) < (l0.length : Int)) = false := decide_eq_false (by omega)
      have hbw' := (HB.out.cell (World.block_lt_of_cell? w2 _ hbw)).trans hbw
      obtain ⟨a, c, rfl, hins⟩ := sort_row A0 c0 l0 HL.out w.heap.size w2.heap.size w _ _ _ HR0.out (HB2.out.trans (HB.out.mono (by omega))) (by omega) hbw' (by omega) HO.out
      have HS := Aside0.mk (sort_of a (plc l0 l0.length).length c _ (fun w' => Kd.R (Kd.int .i64) 3 w' w2.heap.size (fun _ => True) (.slice a (plc l0 l0.length).length c) ((ordl l0).map fun j : Nat => (j : Int)) ∧ Below w2.heap.size _ w') _ hins)
      clear hins hbw hbw'
      go_wp2_with (first | (go_at_call 41; refine HS.out.mono ?_; rintro e w' ⟨rfl, hR⟩; have HR := Aside0.mk hR; clear hR))
      go_ret
      exact ⟨_, rfl, Kd.R_lower HR.out.1 (by omega), HB2.out.trans ((HB.out.trans HR.out.2).mono (by omega))⟩
end Go.Proofs.YthhaikkicabplaaR.P
