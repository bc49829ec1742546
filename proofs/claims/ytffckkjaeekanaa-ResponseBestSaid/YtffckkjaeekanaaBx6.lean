/- Proved here: what supply.Through answers, at every row and every number: a loop over an iterator that goes backwards. No conditions. -/
import Derived.RangeFuncNested
import Derived.RangeFuncBound
import Derived.RangeFuncCalls
import Derived.RangeFuncLeaves
import Derived.Shelf.Abstract
import Derived.Shelf.RegionOpen
import Derived.WalkKit
import Derived.OwnWalkIn
import Derived.TacticsInMore
import Derived.LoopNIn
import Derived.LoopIn
import Derived.Test.YtffckkjaeekanaaBx5
import Derived.Test.YtffckkjaeekanaaBx2
namespace Go.Proofs.Ytffckkjaeekanaa.B
open Go.RowKit Go.Shelf Go.Proofs.YtffckkjaeekanaaW.PrintWords Go.Proofs.YtffckkjaeekanaaW.PrintLast Go.Proofs.YtffckkjaeekanaaW.PrintMore
set_option linter.unusedVariables false
attribute [local go_sem] Oper.semAt_some

/-- a reservation that may be -/
abbrev GoodR : Type := { x : S48 // supply_row.bad x = false }
/-- what comes, the last first -/
def back_at (n : Nat) (g : Nat → GoodR) (j : Nat) : Nat × GoodR := (n - 1 - j, g (n - 1 - j))
def back_upto (n : Nat) (g : Nat → GoodR) (k : Nat) : List (Nat × GoodR) := (List.range k).map (back_at n g)
theorem back_upto_succ (n : Nat) (g : Nat → GoodR) (k : Nat) : back_upto n g (k + 1) = back_upto n g k ++ [back_at n g k] := by simp [back_upto, List.range_succ]
theorem back_upto_length (n : Nat) (g : Nat → GoodR) (k : Nat) : (back_upto n g k).length = k := by simp [back_upto]
def back_enc (x : Nat × GoodR) : Array Value := #[Value.int .i64 (x.1 : Int), Value.agg #[.int .i64 x.2.1.f0, .int .i64 x.2.1.f1]]

/-- what a round must keep -/
def KpB (n₀ Bs : Nat) (W W' : World) : Prop := Below n₀ W W' ∧ W'.heap[Bs]? = W.heap[Bs]?
theorem KpB.trans' {n₀ Bs : Nat} {A B C : World} (h : KpB n₀ Bs A B) (k : KpB n₀ Bs B C) : KpB n₀ Bs A C := ⟨h.1.trans k.1, k.2.trans h.2⟩
theorem KpB.put {n₀ Bs : Nat} {w : World} (hn : n₀ ≤ w.heap.size) (hb : Bs < w.heap.size) (W : World) (l : Nat) (o o' : Obj) (hl : w.heap.size ≤ l) (h : W.heap[l]? = some o) (h1 : o.isCells = false) (h2 : o.isWalk = false) : KpB n₀ Bs W (W.putObj l o') :=
  ⟨belowK_b hn W l o o' hl h h1 h2, World.putObj_heap_other (by omega)⟩
set_option maxRecDepth 100000 in
set_option maxHeartbeats 4000000 in
/-- slices.Backward's closure -/
theorem back1_in (F : Fence) (n : Nat) (h23 : F.fn 50) (hro : F.round = none) (hn : 1 ≤ n) (l Bs : Nat) (A0 : Option Addr) (c0 : Nat) (l0 : List S48) (w : World) (hr0 : Kd.C k48 w A0 l0.length l0) (hl : l0.length ≤ 140737488351232) (g : Nat → GoodR) (hgd : ∀ m : Nat, m < l0.length → (g m).1 = rd_T48 l0 (m : Int)) (J Jx : List (Nat × GoodR) → World → Prop)
    (hY : ∀ pre x W, J pre W → pre.length < l0.length → YieldAt F (n - 1) Try.prog l (back_enc x) W fun e W' =>
      (e = .returned (.bool true) ∧ J (pre ++ [x]) W' ∧ KpB w.heap.size Bs W W') ∨ (e = .returned (.bool false) ∧ Jx (pre ++ [x]) W'))
    (W : World) (hW : Below w.heap.size w W) (hBs : Boxed W Bs 23 (.slice A0 l0.length c0)) (h0 : J [] W) :
    CallsIn F n Try.prog 50 #[.func (.yield l) #[] #[], .pointer (some ⟨Bs, 0, none⟩)] W fun e W' => (∃ v, e = .returned v) ∧
      ((∃ ys, ys = back_upto l0.length g l0.length ∧ J ys W') ∨ (∃ pre, (∃ k, k ≤ l0.length ∧ pre = back_upto l0.length g k) ∧ Jx pre W')) := by
  have HR0 := Aside0.mk hr0
  have HL := Aside0.mk hl
  have hu48 := Try.underlying48
  clear hr0 hl
  have HW := Aside0.mk hW
  clear hW
  have HBX := Aside0.mk hBs
  replace hBs := hBs.cell
  refine callsIn_of_wp Try.func50 rfl h23 ?_ hro
  simp only [Try.ntmps50, List.size_toArray, List.length_cons, List.length_nil, Nat.reduceAdd, Nat.reduceSub, Array.replicate_succ, Array.replicate_zero, List.push_toArray, List.append_toArray, List.nil_append, List.cons_append]
  gi_wp2
  gi_loopw [3] (fun i wr => ∃ k : Nat, k ≤ l0.length ∧ i = .int .i64 ((l0.length : Int) - 1 - k) ∧ J (back_upto l0.length g k) wr ∧ Aside0 (KpB w.heap.size Bs W wr))
    (fun i _ => (intOf i + 1).toNat)
  case atStart => exact ⟨0, Nat.zero_le _, by have := HL.out; first | rfl | (congr 1; unfold wrap64; omega) | (congr 1; omega), h0, ⟨Below.refl _ _, rfl⟩⟩
  case round =>
    obtain ⟨k, hk, rfl, hJs, BW⟩ := hrel
    have hBs' : wr.cell? ⟨Bs, 0, none⟩ = some (.slice A0 l0.length c0) := Boxed.cell (t := 23) (BW.out.2.trans HBX.out)
    by_cases hlt : k < l0.length
    · obtain ⟨m, hm⟩ : ∃ m : Nat, (l0.length : Int) - 1 - k = m := ⟨l0.length - 1 - k, by omega⟩
      have hmk : l0.length - 1 - k = m := by omega
      have hmz : (m : Int) < (l0.length : Int) := by omega
      have h0z : 0 ≤ (m : Int) := by omega
      obtain ⟨ad, e1, hx0, hx1⟩ := at_T48 HR0.out (m : Int) h0z hmz
      cases e1
      replace hx0 := ((HW.out.trans BW.out.1).cell (World.block_lt_of_cell? w _ hx0)).trans hx0
      replace hx1 := ((HW.out.trans BW.out.1).cell (World.block_lt_of_cell? w _ hx1)).trans hx1
      have hbk : back_at l0.length g k = (m, g m) := by unfold back_at; rw [hmk]
      rw [← hgd m (by omega)] at hx0 hx1
      generalize hx : g m = x at hx0 hx1 hbk
      simp only [Int.toNat_natCast] at hx0 hx1
      obtain ⟨fn, tmps, assign, body, hy, hR⟩ := hY _ (m, x) wr hJs (by rw [back_upto_length]; exact hlt)
      unfold back_enc at hy
      dsimp only at hy
      rw [hm]
      clear hm hY hgd
      have HX := Aside0.mk hx
      have HBK := Aside0.mk hbk
      clear hx hbk HR0
      gi_wp2
      refine hR.mono ?_
      rintro e W3 (⟨rfl, hJ3, hk3⟩ | ⟨rfl, hJx3⟩)
      · gi_wp2
        go_roundw
        case rel => exact ⟨k + 1, by omega, by have := HL.out; first | rfl | (congr 1; omega) | (congr 1; unfold wrap64; omega), by rw [back_upto_succ, HBK.out]; exact hJ3, ⟨BW.out.trans' hk3⟩⟩
        case measure => (have := HL.out; simp [intOf]; first | omega | (unfold wrap64; omega))
      · gi_wp2
        refine bodyPost_ret (results_none rfl _ _ _) rfl ?_
        exact ⟨⟨_, rfl⟩, .inr ⟨_, ⟨k + 1, by omega, by rw [back_upto_succ, HBK.out]⟩, hJx3⟩⟩
    · obtain rfl : k = l0.length := by omega
      have hm : (l0.length : Int) - 1 - (l0.length : Int) = -1 := by omega
      rw [hm]
      gi_wp2
      go_end0
      exact ⟨⟨_, rfl⟩, .inl ⟨_, rfl, hJs⟩⟩
/-- slices.Backward -/
theorem back_in (F : Fence) (n : Nat) (h19 : F.fn 38) (hro : F.round = none) (a : Option Addr) (len cap : Nat) (w : World) :
    CallsIn F n Try.prog 38 #[.slice a len cap] w fun e w' => e = .returned (.func (.func 50) #[] #[.pointer (some ⟨w.heap.size, 0, none⟩)]) ∧ w' = w.alloc (.cells #[.slice a len cap] 23) := by
  refine callsIn_of_wp Try.func38 rfl h19 ?_ hro
  simp only [Try.ntmps38, List.size_toArray, List.length_cons, List.length_nil, Nat.reduceAdd, Nat.reduceSub, Array.replicate_succ, Array.replicate_zero, List.push_toArray, List.append_toArray, List.nil_append, List.cons_append]
  gi_wp2
  go_ret
  exact ⟨rfl, rfl⟩
theorem back_stops (F : Fence) (n : Nat) (h23 : F.fn 50) (hro : F.round = none) (hn : 1 ≤ n) (Bs : Nat) (A0 : Option Addr) (c0 : Nat) (l0 : List S48) (w W0 : World) (hr0 : Kd.C k48 w A0 l0.length l0) (hl : l0.length ≤ 140737488351232) (g : Nat → GoodR) (hgd : ∀ m : Nat, m < l0.length → (g m).1 = rd_T48 l0 (m : Int)) (h0 : Below w.heap.size w W0) (hBs : Boxed W0 Bs 23 (.slice A0 l0.length c0)) :
    SeqStopsK F n Try.prog 50 #[.pointer (some ⟨Bs, 0, none⟩)] back_enc (KpB w.heap.size Bs) (fun ys => ys = back_upto l0.length g l0.length) (fun pre => ∃ k, k ≤ l0.length ∧ pre = back_upto l0.length g k) l0.length W0 := fun l J Jx W hW _ _ hY hj =>
  back1_in F n h23 hro hn l Bs A0 c0 l0 w hr0 hl g hgd J Jx hY W (h0.trans (hW.mono h0.size)) ((hW.block Bs hBs.lt).trans hBs) hj
theorem back_all (l0 : List S48) (g : Nat → GoodR) (hgd : ∀ m : Nat, m < l0.length → (g m).1 = rd_T48 l0 (m : Int)) (k : Nat) (hk : k ≤ l0.length) :
    (back_upto l0.length g k).map (fun x => x.2.1) = l0.reverse.take k := by
  apply List.ext_getElem
  · simp [back_upto_length, hk]
  · intro i h1 h2
    have hi : i < k := by simpa [back_upto_length] using h1
    have e : (l0.length - 1 - i) < l0.length := by omega
    simp only [back_upto, List.getElem_map, List.getElem_range, back_at, List.getElem_take, List.getElem_reverse]
    rw [hgd _ e, rd_T24_get e]
/-- the last first -/
def supply_Through.l0 : List S48 → Int → Option (Int × Option Int)
  | [], n => some (n, none)
  | x :: r, n => (supply_wait.f x.f0 x.f1 n).bind fun p => if p.2.isNone = true then supply_Through.l0 r p.1 else some (0, some (p.2.getD 0))
def supply_Through.f (l0 : List S48) (a1 : Int) : Option (Int × Option Int) :=
  (supply_row.f l0 a1).bind fun e => if e.isNone = true then supply_Through.l0 l0.reverse a1 else some (0, some (e.getD 0))
theorem supply_Through.go {pre rest : List S48} {n m : Int} (h : supply_Through.l0 pre n = some (m, none)) : supply_Through.l0 (pre ++ rest) n = supply_Through.l0 rest m := by
  induction pre generalizing n with
  | nil => simp [supply_Through.l0] at h; subst h; rfl
  | cons x r ih =>
    simp only [supply_Through.l0, List.cons_append] at h ⊢
    rcases hw : supply_wait.f x.f0 x.f1 n with _ | ⟨p1, p2⟩
    · rw [hw] at h; simp at h
    · rw [hw] at h
      simp only [Option.bind_some] at h ⊢
      by_cases hp : p2.isNone = true
      · rw [if_pos hp] at h ⊢; exact ih h
      · rw [if_neg hp] at h; simp at h
theorem supply_Through.ends {pre rest : List S48} {n m e : Int} (h : supply_Through.l0 pre n = some (m, some e)) : supply_Through.l0 (pre ++ rest) n = some (m, some e) := by
  induction pre generalizing n with
  | nil => simp [supply_Through.l0] at h
  | cons x r ih =>
    simp only [supply_Through.l0, List.cons_append] at h ⊢
    rcases hw : supply_wait.f x.f0 x.f1 n with _ | ⟨p1, p2⟩
    · rw [hw] at h; simp at h
    · rw [hw] at h
      simp only [Option.bind_some] at h ⊢
      by_cases hp : p2.isNone = true
      · rw [if_pos hp] at h ⊢; exact ih h
      · rw [if_neg hp] at h ⊢; exact h
theorem supply_Through.total (x : GoodR) (n : Int) : ∃ p, supply_wait.f x.1.f0 x.1.f1 n = some p := by
  have h := x.2
  unfold supply_row.bad at h
  have h := of_decide_eq_false h
  unfold supply_wait.f
  repeat' first
    | exact ⟨_, rfl⟩
    | (exfalso; omega)
    | split
set_option maxRecDepth 100000 in
set_option maxHeartbeats 4000000 in
theorem supply_Through.walk (A0 : Option Addr) (c0 : Nat) (l0 : List S48) (a1 : Int) (r1 : Int) (r2 : Option Int) (w : World) (hr0 : Kd.C k48 w A0 l0.length l0) (hc0 : l0.length ≤ c0) (hl : l0.length ≤ 140737488351232) (g : Nat → GoodR) (hgd : ∀ m : Nat, m < l0.length → (g m).1 = rd_T48 l0 (m : Int))
    (hrow : supply_row.f l0 a1 = some none) (h : supply_Through.l0 l0.reverse a1 = some (r1, r2)) :
    CallsIn Fence.wide 3 Try.prog 27 #[.slice A0 l0.length c0, .int .i64 a1] w fun e w' => e = .returned (.tuple #[.int .i64 r1, errW r2]) ∧ Below w.heap.size w w' := by
  have HR0 := Aside0.mk hr0
  have HC0 := Aside0.mk hc0
  have HL := Aside0.mk hl
  have HG := Aside0.mk hgd
  have HH := Aside0.mk h
  have HRow := Aside0.mk hrow
  clear hr0 hc0 hl hgd h hrow
  have hcrow : ∀ W, Kd.C k48 W A0 l0.length l0 → Calls Try.prog 32 #[.slice A0 l0.length c0, .int .i64 a1] W fun e w' => e = .returned .nilIface ∧ Below W.heap.size W w' := fun W hW => by
    have := supply_row.calls A0 c0 l0 a1 none W hW HC0.out HRow.out
    simpa only [errW_none] using this
  have HCR := Aside0.mk hcrow
  clear hcrow
  refine callsIn_of_wp_marks Try.func27 rfl trivial ?_ rfl
  simp only [Try.ntmps27, List.size_toArray, List.length_cons, List.length_nil, Nat.reduceAdd, Nat.reduceSub, Array.replicate_succ, Array.replicate_zero, List.push_toArray, List.append_toArray, List.nil_append, List.cons_append]
  gi_wp2_with (first | (refine ⟨trivial, ?_⟩; gi_at_call 32; refine (callsIn_wide.2 (HCR.out _ ?side1)).mono ?_; (case side1 => (repeat (first | exact HR0.out | (refine Kd.C_alloc ?_ _)))); rintro e w' ⟨rfl, hb'⟩; have HB' := Aside0.mk hb'; clear hb') | (refine ⟨trivial, ?_⟩; gi_at_call 38; refine (back_in Fence.wide 2 trivial rfl _ _ _ _).mono ?_; rintro e w' ⟨rfl, rfl⟩))
  have HBp := HB'.out
  have hs0 : w.heap.size + 3 ≤ w'.heap.size := by have := HBp.size; simp at this; omega
  have bN := (((Boxed.new w 3 (.int .i64 a1)).alloc (.cells #[.int .i64 0] 3)).alloc (.cells #[.nilIface] 26))
  have bR := ((Boxed.new (w.alloc (.cells #[.int .i64 a1] 3)) 3 (.int .i64 0)).alloc (.cells #[.nilIface] 26))
  have bE := Boxed.new ((w.alloc (.cells #[.int .i64 a1] 3)).alloc (.cells #[.int .i64 0] 3)) 26 .nilIface
  simp only [World.size_alloc] at bR bE
  replace bN : Boxed w' w.heap.size 3 (.int .i64 a1) := (HBp.block _ (by simp only [World.size_alloc]; omega)).trans bN
  replace bR : Boxed w' (w.heap.size + 1) 3 (.int .i64 0) := (HBp.block _ (by simp only [World.size_alloc]; omega)).trans bR
  replace bE : Boxed w' (w.heap.size + 1 + 1) 26 .nilIface := (HBp.block _ (by simp only [World.size_alloc]; omega)).trans bE
  have bS := Boxed.new w' 23 (.slice A0 l0.length c0)
  have hB0 : Below w.heap.size w (w'.alloc (.cells #[.slice A0 l0.length c0] 23)) :=
    ((((((Below.refl _ w).alloc (Nat.le_refl _) _).alloc (by simp) _).alloc (by simp; omega) _).trans (HBp.mono (by simp; omega))).alloc (by omega) _)
  replace bN := bN.alloc (.cells #[.slice A0 l0.length c0] 23)
  replace bR := bR.alloc (.cells #[.slice A0 l0.length c0] 23)
  replace bE := bE.alloc (.cells #[.slice A0 l0.length c0] 23)
  have hsz : (w'.alloc (.cells #[.slice A0 l0.length c0] 23)).heap.size = w'.heap.size + 1 := by simp
  obtain ⟨Bs, hBs⟩ : ∃ Bs, w'.heap.size = Bs := ⟨_, rfl⟩
  obtain ⟨W0, hW0⟩ : ∃ W0, w'.alloc (.cells #[.slice A0 l0.length c0] 23) = W0 := ⟨_, rfl⟩
  rw [hW0, hBs] at hsz
  rw [hW0] at bN bR bE hB0
  rw [hW0, hBs] at bS
  rw [hW0, hBs]
  rw [hBs] at hs0
  clear hW0 hBs HB' HBp
  have HB0 := Aside0.mk hB0
  refine wpIn_rangeFunc_ownH rfl (by omega) (gf := 50) (lb := #[.pointer (some ⟨Bs, 0, none⟩)]) rfl trivial (enters_of Try.func50 (by kernel_rfl) rfl)
    (back_stops Fence.wide 2 trivial rfl (by omega) Bs A0 c0 l0 w W0 HR0.out HL.out g HG.out hB0 bS) KpB.trans' (KpB.put (by omega) (by omega)) (Below.refl _ _) (fun _ => rfl)
    (fun pre W => ((∃ n, supply_Through.l0 (pre.map fun x => x.2.1) a1 = some (n, none) ∧ Boxed W w.heap.size 3 (.int .i64 n)) ∧ Boxed W (w.heap.size + 1) 3 (.int .i64 0) ∧ Boxed W (w.heap.size + 1 + 1) 26 .nilIface ∧ Boxed W Bs 23 (.slice A0 l0.length c0)) ∧ Below w.heap.size w W)
    (fun c pre W => (c = .ret ∧ ∃ e, supply_Through.l0 (pre.map fun x => x.2.1) a1 = some (0, some e) ∧ Boxed W (w.heap.size + 1) 3 (.int .i64 0) ∧ Boxed W (w.heap.size + 1 + 1) 26 (errW (some e))) ∧ Below w.heap.size w W)
    (OwnFrom.and (Own.from (fun s X Y row hs hg hr => by
      obtain ⟨⟨n, e1, e2⟩, e3, e4, e5⟩ := hs
      exact ⟨⟨n, e1, boxed_own _ _ (fun (_ : Unit) => _) () X Y row e2 hg hr⟩, boxed_own _ _ (fun (_ : Unit) => _) () X Y row e3 hg hr, boxed_own _ _ (fun (_ : Unit) => _) () X Y row e4 hg hr, boxed_own _ _ (fun (_ : Unit) => _) () X Y row e5 hg hr⟩) _) (ownFrom_below (Nat.le_refl _) (by omega)))
    (fun c => OwnFrom.and (Own.from (fun s X Y row hs hg hr => by
      obtain ⟨hc, e, e1, e2, e3⟩ := hs
      exact ⟨hc, e, e1, boxed_own _ _ (fun (_ : Unit) => _) () X Y row e2 hg hr, boxed_own _ _ (fun (_ : Unit) => _) () X Y row e3 hg hr⟩) _) (ownFrom_below (Nat.le_refl _) (by omega)))
    ⟨⟨⟨a1, rfl, bN⟩, bR, bE, bS⟩, hB0⟩
    (fun x a' W => ∃ Bx, w.heap.size + 2 < Bx ∧ W.heap[Bx]? = some (.cells #[.int .i64 x.2.1.f0, .int .i64 x.2.1.f1] 48 (0, 0)) ∧ a' = { tmps := #[.slice A0 l0.length c0, .int .i64 a1, undef, .pointer (some ⟨w.heap.size, 0, none⟩), .pointer (some ⟨w.heap.size + 1, 0, none⟩), .pointer (some ⟨w.heap.size + 1 + 1, 0, none⟩), .nilIface, undef, .pointer (some ⟨Bx, 0, none⟩), undef, undef, .slice A0 l0.length c0, .int .i64 a1, .nilIface, .nilIface, .bool false, undef, .slice A0 l0.length c0, .func (.func 50) #[] #[.pointer (some ⟨Bs, 0, none⟩)], .int .i64 (x.1 : Int), .agg #[.int .i64 x.2.1.f0, .int .i64 x.2.1.f1], undef, undef, undef, undef, undef, undef, undef, undef, undef, undef, undef], defers := [] })
    (fun x a' _ X Y row hs hg hr => by
      obtain ⟨Bx, h1, h2, h3⟩ := hs
      refine ⟨Bx, h1, ?_, h3⟩
      exact (hg.block Bx (Array.getElem?_eq_some_iff.1 h2).1 (fun e => by
        obtain ⟨_, o, ho, hc⟩ := hr Bx e.symm
        rw [h2] at ho; cases ho; simp [Obj.isCells] at hc)).trans h2)
    ?assign ?body ?done ?stop
  case assign =>
    rintro l pre ⟨j, x⟩ W K hI hK
    obtain ⟨⟨⟨n, e1, e2⟩, e3, e4, e5⟩, e6⟩ := hI
    have hlt := e5.lt
    have hu48 := Try.underlying48
    unfold back_enc
    gi_wp2
    refine hK _ _ ((KeepsOthers.alloc _ _).from _) ⟨(Below.refl _ W).alloc e6.size _, Below.heap_alloc W _ Bs hlt⟩ ⟨⟨⟨n, e1, e2.alloc _⟩, e3.alloc _, e4.alloc _, e5.alloc _⟩, e6.alloc e6.size _⟩ ⟨W.heap.size, by omega, World.alloc_heap_new W _, rfl⟩
  case body =>
    rintro l pre ⟨j, x⟩ a' W hl ⟨r, hr⟩ ⟨⟨⟨n, e1, e2⟩, e3, e4, e5⟩, e6⟩ ⟨Bx, h1, h2, rfl⟩ hlen
    obtain ⟨⟨p1, p2⟩, hp⟩ := supply_Through.total x n
    have hcw := fun W => supply_wait.calls _ _ _ _ _ W hp
    have hu48 := Try.underlying48
    have hs6 := e6.size
    have hltB := e5.lt
    have hltx := (Array.getElem?_eq_some_iff.1 h2).1
    have cn := e2.cell
    have x0 : W.cell? ⟨Bx, 0, none⟩ = some (.int .i64 x.1.f0) := by simp [World.cell?, h2]
    have x1 : W.cell? ⟨Bx, 1, none⟩ = some (.int .i64 x.1.f1) := by simp [World.cell?, h2]
    have hd : 1 ≤ 3 - 1 - 1 := by omega
    have hgo : supply_Through.l0 ((pre ++ [(j, x)]).map fun x => x.2.1) a1 = (supply_wait.f x.1.f0 x.1.f1 n).bind fun p => if p.2.isNone = true then some (p.1, none) else some (0, some (p.2.getD 0)) := by
      rw [List.map_append, supply_Through.go e1]
      simp only [List.map_cons, List.map_nil, supply_Through.l0]
    rw [hp] at hgo
    simp only [Option.bind_some] at hgo
    cases p2 with
    | none =>
      simp only [errW_none] at hcw
      have HGO := Aside0.mk hgo
      have HCW := Aside0.mk hcw
      have HE6 := Aside0.mk e6
      clear hgo hcw e1 hp e6
      gi_wp2_with (first | (refine ⟨trivial, ?_⟩; gi_at_call 39; refine (CallsIn.inRound l (callsIn_wide.2 (HCW.out _))).mono ?_; rintro e w' ⟨rfl, hb'⟩; have n2 := (hb'.block _ e2.lt).trans e2; have cn2 := Boxed.cell n2; have fn2 := Boxed.frozen n2; have HB' := Aside0.mk hb'; clear hb'))
      have hb' := HB'.out
      have e6 := HE6.out
      refine ⟨KeepsFrom.trans ⟨hb'.size, fun i o _ hi ho => (hb'.block i (Array.getElem?_eq_some_iff.1 hi).1).trans hi⟩ ((KeepsOthers.setCell _ _ _).from _),
        ⟨(hb'.mono hs6).setCell (p := ⟨w.heap.size, 0, none⟩) (Nat.le_refl _) _, (Below.heap_setCell w' _ _ Bs (by simp only []; omega)).trans (hb'.block Bs hltB)⟩,
        ⟨⟨p1, by rw [HGO.out]; rfl, Boxed.set _ n2⟩, Boxed.other ((hb'.block _ e3.lt).trans e3) (by omega) _, Boxed.other ((hb'.block _ e4.lt).trans e4) (by omega) _, Boxed.other ((hb'.block _ e5.lt).trans e5) (by omega) _⟩,
        e6.trans ((hb'.mono hs6).setCell (p := ⟨w.heap.size, 0, none⟩) (Nat.le_refl _) _)⟩
    | some e =>
      simp only [errW_some] at hcw
      have HGO := Aside0.mk hgo
      have HCW := Aside0.mk hcw
      have HE6 := Aside0.mk e6
      clear hgo hcw e1 hp e6
      gi_wp2_with (first | (refine ⟨trivial, ?_⟩; gi_at_call 39; refine (CallsIn.inRound l (callsIn_wide.2 (HCW.out _))).mono ?_; rintro e w' ⟨rfl, hb'⟩; have n4 := (hb'.block _ e3.lt).trans e3; have n5 := (hb'.block _ e4.lt).trans e4; have cn4 := Boxed.cell n4; have fn4 := Boxed.frozen n4; have n5' := Boxed.other (B' := w.heap.size + 1) n5 (by omega) (.int .i64 0); have cn5 := Boxed.cell n5'; have fn5 := Boxed.frozen n5'; have HB' := Aside0.mk hb'; clear hb'))
      have hb' := HB'.out
      have e6 := HE6.out
      refine ⟨KeepsFrom.trans ⟨hb'.size, fun i o _ hi ho => (hb'.block i (Array.getElem?_eq_some_iff.1 hi).1).trans hi⟩ (((KeepsOthers.setCell _ _ _).trans (KeepsOthers.setCell _ _ _)).from _),
        ⟨rfl, e, by rw [HGO.out]; rfl, Boxed.other (Boxed.set _ n4) (by omega) _, by rw [errW_some]; exact Boxed.set _ n5'⟩,
        e6.trans (((hb'.mono hs6).setCell (p := ⟨w.heap.size + 1, 0, none⟩) (by simp only []; omega) _).setCell (p := ⟨w.heap.size + 1 + 1, 0, none⟩) (by simp only []; omega) _)⟩
  case done =>
    rintro D ys W hD rfl ⟨⟨⟨n, e1, e2⟩, e3, e4, e5⟩, e6⟩ hK
    have c3 := e2.cell
    have c4 := e3.cell
    have c5 := e4.cell
    have f4 := e3.frozen
    have f5 := e4.frozen
    rw [back_all l0 g HG.out _ (Nat.le_refl _), List.take_of_length_le (by simp)] at e1
    have hh := e1.symm.trans HH.out
    obtain ⟨rfl, rfl⟩ : n = r1 ∧ none = r2 := by simpa using hh
    clear hh e1
    have n5' := Boxed.other (B' := w.heap.size + 1) e4 (by omega) (.int .i64 n)
    have c5b := Boxed.cell n5'
    have f5b := Boxed.frozen n5'
    have e6' := Aside0.mk e6
    clear e6
    gi_wp2
    have k1 := Boxed.other (B' := w.heap.size + 1 + 1) (Boxed.set (.int .i64 n) e3) (by omega) .nilIface
    have k2 := Boxed.set .nilIface n5'
    have hK' := ((KeepsOthers.setCell W ⟨w.heap.size + 1, 0, none⟩ (.int .i64 n)).trans (KeepsOthers.setCell _ ⟨w.heap.size + 1 + 1, 0, none⟩ .nilIface)).same D _ hK rfl
    refine ⟨by simp, .inl ⟨_, _, rfl, run_takeDeferred hK', ?_⟩⟩
    have q1 := cell_kept k1.cell (grownBy_putObj' _ D (.deferred none)) (fun r e => by cases e; exact ⟨_, hK', rfl⟩)
    have q2 := cell_kept k2.cell (grownBy_putObj' _ D (.deferred none)) (fun r e => by cases e; exact ⟨_, hK', rfl⟩)
    refine ⟨.tuple #[.int .i64 n, .nilIface], ?_, by rw [errW_none], ((e6'.out.setCell (p := ⟨w.heap.size + 1, 0, none⟩) (by simp only []; omega) _).setCell (p := ⟨w.heap.size + 1 + 1, 0, none⟩) (by simp only []; omega) _).trans (belowK_b (w := w) (Nat.le_refl _) _ D _ _ (by omega) hK' rfl rfl)⟩
    simp [results, Try.f27, go_sem, q1, q2]
  case stop =>
    rintro D c pre W hD ⟨k, hk, rfl⟩ ⟨⟨rfl, e, e1, e2, e3⟩, e6⟩ hK
    rw [back_all l0 g HG.out _ hk] at e1
    have hh := HH.out
    rw [← List.take_append_drop k l0.reverse, supply_Through.ends e1] at hh
    obtain ⟨rfl, rfl⟩ : (0 : Int) = r1 ∧ some e = r2 := by simpa using hh
    have e6' := Aside0.mk e6
    clear e6 hh e1
    gi_wp2
    refine ⟨by simp, .inl ⟨_, _, rfl, run_takeDeferred hK, ?_⟩⟩
    have q1 := cell_kept e2.cell (grownBy_putObj' _ D (.deferred none)) (fun r e => by cases e; exact ⟨_, hK, rfl⟩)
    have q2 := cell_kept e3.cell (grownBy_putObj' _ D (.deferred none)) (fun r e => by cases e; exact ⟨_, hK, rfl⟩)
    refine ⟨.tuple #[.int .i64 0, errW (some e)], ?_, rfl, e6'.out.trans (belowK_b (w := w) (Nat.le_refl _) _ D _ _ (by omega) hK rfl rfl)⟩
    simp [results, Try.f27, go_sem, q1, q2]
set_option maxRecDepth 100000 in
set_option maxHeartbeats 4000000 in
theorem supply_Through.fails (A0 : Option Addr) (c0 : Nat) (l0 : List S48) (a1 : Int) (e : Int) (w : World) (hr0 : Kd.C k48 w A0 l0.length l0) (hc0 : l0.length ≤ c0)
    (hrow : supply_row.f l0 a1 = some (some e)) :
    CallsIn Fence.wide 3 Try.prog 27 #[.slice A0 l0.length c0, .int .i64 a1] w fun e' w' => e' = .returned (.tuple #[.int .i64 0, errW (some e)]) ∧ Below w.heap.size w w' := by
  have HR0 := Aside0.mk hr0
  have hcrow : ∀ W, Kd.C k48 W A0 l0.length l0 → Calls Try.prog 32 #[.slice A0 l0.length c0, .int .i64 a1] W fun e' w' => e' = .returned (errW (some e)) ∧ Below W.heap.size W w' := fun W hW => supply_row.calls A0 c0 l0 a1 _ W hW hc0 hrow
  simp only [errW_some] at hcrow
  have HCR := Aside0.mk hcrow
  clear hcrow hrow hr0 hc0
  refine callsIn_of_wp_marks Try.func27 rfl trivial ?_ rfl
  simp only [Try.ntmps27, List.size_toArray, List.length_cons, List.length_nil, Nat.reduceAdd, Nat.reduceSub, Array.replicate_succ, Array.replicate_zero, List.push_toArray, List.append_toArray, List.nil_append, List.cons_append]
  have bR := ((Boxed.new (w.alloc (.cells #[.int .i64 a1] 3)) 3 (.int .i64 0)).alloc (.cells #[.nilIface] 26))
  have bE := Boxed.new ((w.alloc (.cells #[.int .i64 a1] 3)).alloc (.cells #[.int .i64 0] 3)) 26 .nilIface
  simp only [World.size_alloc] at bR bE
  have HBR := Aside0.mk bR
  have HBE := Aside0.mk bE
  clear bR bE
  gi_wp2_with (first | (refine ⟨trivial, ?_⟩; gi_at_call 32; refine (callsIn_wide.2 (HCR.out _ ?side1)).mono ?_; (case side1 => (repeat (first | exact HR0.out | (refine Kd.C_alloc ?_ _)))); rintro e' w' ⟨rfl, hb'⟩; have n4 : Boxed w' (w.heap.size + 1) 3 (.int .i64 0) := (hb'.block _ (by simp only [World.size_alloc]; omega)).trans HBR.out; have n5 : Boxed w' (w.heap.size + 1 + 1) 26 .nilIface := (hb'.block _ (by simp only [World.size_alloc]; omega)).trans HBE.out; have cn4 := Boxed.cell n4; have fn4 := Boxed.frozen n4; have n5' := Boxed.other (B' := w.heap.size + 1) n5 (by omega) (.int .i64 0); have cn5 := Boxed.cell n5'; have fn5 := Boxed.frozen n5'; have HB' := Aside0.mk hb'; clear hb'))
  have k1 := Boxed.other (B' := w.heap.size + 1 + 1) (Boxed.set (.int .i64 0) n4) (by omega) (errW (some e))
  have k2 := Boxed.set (errW (some e)) n5'
  simp only [errW_some] at k1 k2
  have q1 := k1.cell
  have q2 := k2.cell
  refine ⟨.tuple #[.int .i64 0, errW (some e)], ?_, rfl, ?_⟩
  · simp [results, Try.f27, go_sem, q1, q2, errW_some]
  · have hb' := HB'.out
    exact (((((((Below.refl _ w).alloc (Nat.le_refl _) _).alloc (by simp) _).alloc (by simp; omega) _).trans (hb'.mono (by simp; omega)))).setCell (p := ⟨w.heap.size + 1, 0, none⟩) (by simp only []; omega) _).setCell (p := ⟨w.heap.size + 1 + 1, 0, none⟩) (by simp only []; omega) _
theorem supply_Through.calls (A0 : Option Addr) (c0 : Nat) (l0 : List S48) (a1 : Int) (r1 : Int) (r2 : Option Int) (w : World) (hr0 : Kd.C k48 w A0 l0.length l0) (hc0 : l0.length ≤ c0) (h : supply_Through.f l0 a1 = some (r1, r2)) :
    Calls Try.prog 27 #[.slice A0 l0.length c0, .int .i64 a1] w fun e w' => e = .returned (.tuple #[.int .i64 r1, errW r2]) ∧ Below w.heap.size w w' := by
  unfold supply_Through.f at h
  rcases hrow : supply_row.f l0 a1 with _ | e
  · rw [hrow] at h; exact absurd h (by simp)
  rw [hrow] at h
  simp only [Option.bind_some] at h
  cases e with
  | some e =>
    rw [if_neg (by simp)] at h
    obtain ⟨rfl, rfl⟩ : (0 : Int) = r1 ∧ some e = r2 := by simpa using h
    exact callsIn_wide.1 (supply_Through.fails A0 c0 l0 a1 e w hr0 hc0 hrow)
  | none =>
    rw [if_pos (show (none : Option Int).isNone = true from rfl)] at h
    have hr := hrow
    unfold supply_row.f at hr
    by_cases hl : l0.length ≤ 140737488351232
    case neg => rw [if_neg hl] at hr; exact absurd hr (by simp)
    rw [if_pos hl] at hr
    have hany : l0.any supply_row.bad = false := by
      by_cases h1 : a1 < 0 ∨ a1 > 1073741824
      · rw [if_pos h1] at hr; simp at hr
      · rw [if_neg h1] at hr
        by_cases h2 : l0.any supply_row.bad = true
        · rw [if_pos h2] at hr; simp at hr
        · simpa using h2
    rw [List.any_eq_false] at hany
    have hgood : ∀ m : Nat, m < l0.length → supply_row.bad (rd_T48 l0 (m : Int)) = false := fun m hm => by
      have := hany _ (rd_T24_mem hm); simpa using this
    exact callsIn_wide.1 (supply_Through.walk A0 c0 l0 a1 r1 r2 w hr0 hc0 hl
      (fun m => if hm : m < l0.length then ⟨rd_T48 l0 (m : Int), hgood m hm⟩ else ⟨⟨1, 1⟩, by decide⟩)
      (fun m hm => by rw [dif_pos hm]) hrow h)
end Go.Proofs.Ytffckkjaeekanaa.B
