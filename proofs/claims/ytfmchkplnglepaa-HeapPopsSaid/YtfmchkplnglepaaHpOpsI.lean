/- Proved here: what New, Len, Min, Push, remove and Pop do to a heap, told by the row as it lies. No conditions. -/
import Derived.Test.YtfmchkplnglepaaHpDownI
namespace Go.Proofs.Ytfmchkplnglepaa.HpI
open Go.RowKit Go.Proofs.YtfmchkplnglepaaW.PrintWords Go.Proofs.YtfmchkplnglepaaW.PrintLast Go.Proofs.YtfmchkplnglepaaW.PrintMore
open Go Go.Maps Go.Proofs.Ytfmchkplnglepaa.Hp
set_option linter.unusedVariables false
set_option linter.unusedSimpArgs false
theorem grown_set (w : World) (b i : Nat) (v : Value) : w.grownBy (w.setCell ⟨b, i, none⟩ v) (some b) :=
  ⟨rfl, rfl, rfl, by simp [World.setCell], fun k _ hne => Below.heap_setCell w ⟨b, i, none⟩ v k (fun e => hne (by rw [e]))⟩
theorem infoE : (Try.prog.info? 68).map (fun i => (i.zero, i.size, i.bytes)) = some (some (.agg #[.int .i64 0, kv 0]), 2, 16) := by kernel_rfl
set_option maxHeartbeats 8000000 in
set_option maxRecDepth 100000 in
theorem new_calls {P : Nat → Prop} {W : World} (hP : ∀ k, W.heap.size ≤ k → P k) :
    Calls Try.prog 17 #[] W fun e W' => ∃ g : Nat, e = .returned (.pointer (some ⟨g, 0, none⟩)) ∧ HP P g [] W' ∧ Off P W W' := by
  have hmm := @run_makeMap Try.prog
  have hown := World.ownsMap_made (H := Unit) W Try.prog 3 (plainElem Try.prog 3)
  have hs1 : (W.alloc (.map #[] 0)).heap.size = W.heap.size + 1 := Array.size_push ..
  have HP1 := Aside0.mk hP
  have HOWN := Aside0.mk hown
  clear hown hP
  go_enter Try.func17, Try.ntmps17
  go_wp2
  go_ret
  refine ⟨W.heap.size + 1, by first | rfl | simp [World.alloc], ?_, ((Off.refl _ _).alloc _).alloc _⟩
  have hb : ((W.alloc (.map #[] 0)).alloc (.cells #[.slice none 0 0, .map (some W.heap.size)] 66)).heap[W.heap.size + 1]? = some (.cells #[.slice none 0 0, .map (some W.heap.size)] 66 (0, 0)) := by
    have := heap_alloc_new (W.alloc (.map #[] 0)) (.cells #[.slice none 0 0, .map (some W.heap.size)] 66)
    rw [hs1] at this
    exact this
  exact ⟨none, 0, W.heap.size, .map [], hb, HP1.out _ (by omega), HP1.out _ (Nat.le_refl _), by omega, Kd.R_nil _ _ _ _ _, own_tight ((HOWN.out.alloc _)), mapOk_nil, by simp, fun e h => absurd h (by simp)⟩
set_option maxHeartbeats 8000000 in
set_option maxRecDepth 100000 in
theorem len_calls {P : Nat → Prop} {W : World} {g : Nat} {es : List En} (h : HP P g es W) :
    Calls Try.prog 20 #[.pointer (some ⟨g, 0, none⟩)] W fun e W' => e = .returned (.int .i64 (es.length : Int)) ∧ W' = W := by
  obtain ⟨A, c, bm, D, hb, _⟩ := h
  have c0 : W.cell? ⟨g, 0, none⟩ = some (.slice A es.length c) := cell_of_row W g 0 _ _ (0, 0) hb
  have huH := Try.underlying66
  have huP := Try.underlying46
  have huL := Try.underlying64
  clear hb
  go_enter Try.func20, Try.ntmps20
  go_wp2
  go_ret
  exact ⟨rfl, rfl⟩
def first3 (es : List En) : Int × Int × Bool := match es with
  | [] => (0, 0, false)
  | e :: _ => (e.1, e.2, true)
set_option maxHeartbeats 8000000 in
set_option maxRecDepth 100000 in
theorem min_calls {P : Nat → Prop} {W : World} {g : Nat} {es : List En} (h : HP P g es W) :
    Calls Try.prog 25 #[.pointer (some ⟨g, 0, none⟩)] W fun e W' => e = .returned (.tuple #[.int .i64 (first3 es).1, kv (first3 es).2.1, .bool (first3 es).2.2]) ∧ ∃ n, W' = W.drewN n := by
  have HH := Aside0.mk h
  have huH := Try.underlying66
  have huP := Try.underlying46
  have huL := Try.underlying64
  have huE := Try.underlying68
  cases es with
  | nil =>
    clear h
    unfold kv
    go_enter Try.func25, Try.ntmps25
    go_wp2_with (first | (go_at_call 20; refine (len_calls HH.out).mono ?_; rintro e W' ⟨rfl, rfl⟩))
    go_ret3
    exact ⟨rfl, 0, rfl⟩
  | cons x r =>
    obtain ⟨go, c, c0, hel⟩ := h.look (by simp)
    obtain ⟨x0, x1⟩ := hel 0 (by simp)
    simp only [Nat.zero_mul, Nat.zero_add] at x0 x1
    have e0 : (x :: r).getD 0 z = x := rfl
    rw [e0] at x0 x1
    obtain ⟨L, hL⟩ : ∃ L, (x :: r).length = L := ⟨_, rfl⟩
    have hLp : 0 < L := by rw [← hL]; simp
    have d1 : ((L : Int) == 0) = false := beq_eq_false_iff_ne.2 (by omega)
    have d2 : decide ((L : Int) = 0) = false := decide_eq_false (by omega)
    have d3 : decide (L = 0) = false := decide_eq_false (by omega)
    have p1 : ((0 : Int) < (L : Int)) = True := eq_true (by omega)
    have p2 : (0 < L) = True := eq_true hLp
    have HL := Aside0.mk hL
    rw [hL] at c0
    clear hel e0 h hL hLp
    show Calls _ _ _ _ fun e W' => e = .returned (.tuple #[.int .i64 x.1, kv x.2, .bool true]) ∧ _
    unfold kv at *
    go_enter Try.func25, Try.ntmps25
    go_wp2_with (first | (go_at_call 20; refine (len_calls HH.out).mono ?_; rintro e W' ⟨rfl, rfl⟩; rw [HL.out]))
    go_quiet (fail)
    go_wp2
    go_ret3
    exact ⟨rfl, _, rfl⟩
end Go.Proofs.Ytfmchkplnglepaa.HpI
