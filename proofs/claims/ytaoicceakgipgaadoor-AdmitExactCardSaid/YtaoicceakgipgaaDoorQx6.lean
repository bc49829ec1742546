/- Proved here: what the machine does at calls of the functions that the laws reach is what plain functions of the same names say, or a row of the given statement out of that. No conditions. Written by a program of this session over the printer of the kit. -/
import Derived.Test.YtaoicceakgipgaaDoorQx0
import Derived.Test.YtaoicceakgipgaaDoorQx2
namespace Go.Proofs.YtaoicceakgipgaaDoor.Q
open Go.RowKit Go.Proofs.YtaoicceakgipgaaDoorW.PrintWords Go.Proofs.YtaoicceakgipgaaDoorW.PrintLast Go.Proofs.YtaoicceakgipgaaDoorW.PrintMore
attribute [local go_sem] max2_int min2_int max_two min_two max_three min_three max_four min_four   -- for this text's walks alone
set_option linter.unusedVariables false
set_option linter.unusedSimpArgs false

def bk_Of.f (b0 : List S28) (a1 : Int) : Option (Int × Int × Int × Bool × Bool × List S28) := some (bkOf b0 a1)
section
attribute [local go_sem high] bkEq
set_option maxHeartbeats 8000000 in
set_option maxRecDepth 100000 in
theorem bk_Of.calls (g : Nat) (b0 : List S28) (a1 : Int) (r1 : Int) (r2 : Int) (r3 : Int) (r4 : Bool) (r5 : Bool) (r6 : List S28) (w0 w : World) (hI : IsS61 w0 w g b0) (hB : Below w0.heap.size w0 w) (h : bk_Of.f b0 a1 = some (r1, r2, r3, r4, r5, r6)) :
  Calls Tryd.prog 10 #[.pointer (some ⟨g, 0, none⟩), .int .i64 a1] w fun e w' => e = .returned (.tuple #[.agg #[.int .i64 r1, .int .i64 r2, .int .i64 r3, .bool r4], .bool r5]) ∧ IsS61 w0 w' g r6 ∧ Below w0.heap.size w0 w' ∧ KeepBut w w' g none := by
 have h' := Option.some.inj h
 have hu23 := Tryd.underlying23
 have hu62 := Tryd.underlying62
 have hu28 := Tryd.underlying28
 have hu34 := Tryd.underlying34
 have hu64 := Tryd.underlying64
 have HI := Aside0.mk hI
 have HB := Aside0.mk hB
 have HB2 := Aside0.mk (show Below w0.heap.size w0 (w.alloc (.cells #[.int .i64 0, .int .i64 0, .int .i64 0, .bool false] 28)) from below_alloc hB _)
 have HI2 := Aside0.mk (show IsS61 w0 (w.alloc (.cells #[.int .i64 0, .int .i64 0, .int .i64 0, .bool false] 28)) g b0 from hI.alloc _)
 have HN := Aside0.mk (show g ≠ w.heap.size from Nat.ne_of_lt hI.lt)
 unfold bkOf at h'
 cases hA : bkAt b0 a1 with
 | false =>
  rw [if_neg (by rw [hA]; decide)] at h'
  simp only [Prod.mk.injEq] at h'
  obtain ⟨rfl, rfl, rfl, rfl, rfl, rfl⟩ := h'
  have HA := Aside0.mk (atV_f (g := g) hA)
  obtain ⟨n0, n1, n2, n3⟩ := none_of (HI2.out.gg.below HB2.out)
  clear hA h hI hB
  go_enter Tryd.func10, Tryd.ntmps10
  go_wp2_with (first | (go_at_call 28; refine (bk_at.calls g b0 a1 w0 _ HI2.out HB2.out).mono ?_; rintro e w' ⟨rfl, nd, rfl⟩; rw [HA.out]))
  refine bodyPost_ret (v := .tuple #[.agg #[.int .i64 0, .int .i64 0, .int .i64 0, .bool false], .bool false]) ?_ rfl ⟨rfl, (by repeat (first | exact HI2.out | refine IsS61.far ?_ HN.out _ | apply IsS61.drewN)), (by repeat (first | exact HB2.out | refine below_set ?_ HB.out.size | apply pw_below_drewN)), (by repeat (first | exact KeepBut.refl _ _ _ | refine keep_far ?_ (Nat.le_refl _) _ | apply keep_drewN | apply keep_alloc))⟩
  simp [results, Tryd.results10, go_sem]
 | true =>
  rw [if_pos hA] at h'
  simp only [Prod.mk.injEq] at h'
  obtain ⟨rfl, rfl, rfl, rfl, rfl, rfl⟩ := h'
  have HP := Aside0.mk (at_in hA)
  have HA := Aside0.mk (atV_t (g := g) hA)
  obtain ⟨c0, c1, c2, c3⟩ := cells_of HI2.out HP.out.1 HP.out.2
  clear hA h hI hB
  go_enter Tryd.func10, Tryd.ntmps10
  go_wp2_with (first | (go_at_call 28; refine (bk_at.calls g b0 a1 w0 _ HI2.out HB2.out).mono ?_; rintro e w' ⟨rfl, nd, rfl⟩; rw [HA.out]))
  refine bodyPost_ret (v := .tuple #[.agg #[.int .i64 (bkGet b0 a1).f0, .int .i64 (bkGet b0 a1).f1, .int .i64 (bkGet b0 a1).f2, .bool (bkGet b0 a1).f3], .bool true]) ?_ rfl ⟨rfl, (by repeat (first | exact HI2.out | refine IsS61.far ?_ HN.out _ | apply IsS61.drewN)), (by repeat (first | exact HB2.out | refine below_set ?_ HB.out.size | apply pw_below_drewN)), (by repeat (first | exact KeepBut.refl _ _ _ | refine keep_far ?_ (Nat.le_refl _) _ | apply keep_drewN | apply keep_alloc))⟩
  simp [results, Tryd.results10, go_sem]
end

def bk_Die.f (b0 : List S28) (a1 : Int) : Option (Option Int × List S28) := some (bkDie b0 a1)
section
attribute [local go_sem high] bkEq
set_option maxHeartbeats 8000000 in
set_option maxRecDepth 100000 in
theorem bk_Die.calls (g : Nat) (b0 : List S28) (a1 : Int) (r1 : Option Int) (r2 : List S28) (w0 w : World) (hI : IsS61 w0 w g b0) (hB : Below w0.heap.size w0 w) (h : bk_Die.f b0 a1 = some (r1, r2)) :
  Calls Tryd.prog 15 #[.pointer (some ⟨g, 0, none⟩), .int .i64 a1] w fun e w' => e = .returned (errW r1) ∧ IsS61 w0 w' g r2 ∧ Below w0.heap.size w0 w' ∧ KeepBut w w' g none := by
 have h' := Option.some.inj h
 have hu23 := Tryd.underlying23
 have hu62 := Tryd.underlying62
 have hu28 := Tryd.underlying28
 have hu34 := Tryd.underlying34
 have hu64 := Tryd.underlying64
 have HI := Aside0.mk hI
 have HB := Aside0.mk hB
 unfold bkDie at h'
 cases hA : bkAt b0 a1 with
 | false =>
  rw [if_pos hA] at h'
  simp only [Prod.mk.injEq] at h'
  obtain ⟨rfl, rfl⟩ := h'
  have HA := Aside0.mk (atV_f (g := g) hA)
  clear hA h hI hB
  go_enter Tryd.func15, Tryd.ntmps15
  go_wp2_with (first | (go_at_call 28; refine (bk_at.calls g b0 a1 w0 w HI.out HB.out).mono ?_; rintro e w' ⟨rfl, nd, rfl⟩; rw [HA.out]))
  go_ret
  exact ⟨rfl, HI.out, (by repeat (first | (with_reducible first | exact HB.out | apply below_alloc | apply pw_below_drewN | apply below_drew1 | refine below_set ?_ (IsS61.ge HI.out)) | exact HB.out)), (by repeat (first | exact KeepBut.refl _ _ _ | apply keep_drewN | apply KeepBut.set_ | apply keep_alloc))⟩
 | true =>
  rw [if_neg (by rw [hA]; decide)] at h'
  obtain ⟨p0, p1⟩ := at_in hA
  obtain ⟨_, _, _, c3⟩ := cells_of hI p0 p1
  have HA := Aside0.mk (atV_t (g := g) hA)
  cases hd : (bkGet b0 a1).f3 with
  | true =>
   rw [if_pos hd] at h'
   simp only [Prod.mk.injEq] at h'
   obtain ⟨rfl, rfl⟩ := h'
   rw [hd] at c3
   clear hA h hI hB p0 p1 hd
   go_enter Tryd.func15, Tryd.ntmps15
   go_wp2_with (first | (go_at_call 28; refine (bk_at.calls g b0 a1 w0 w HI.out HB.out).mono ?_; rintro e w' ⟨rfl, nd, rfl⟩; rw [HA.out]))
   go_ret
   exact ⟨rfl, HI.out, (by repeat (first | (with_reducible first | exact HB.out | apply below_alloc | apply pw_below_drewN | apply below_drew1 | refine below_set ?_ (IsS61.ge HI.out)) | exact HB.out)), (by repeat (first | exact KeepBut.refl _ _ _ | apply keep_drewN | apply KeepBut.set_ | apply keep_alloc))⟩
  | false =>
   rw [if_neg (by rw [hd]; decide)] at h'
   simp only [Prod.mk.injEq] at h'
   obtain ⟨rfl, rfl⟩ := h'
   rw [hd] at c3
   have hf := froz_of hI (a1.toNat * 4 + 3)
   have HS := fun W (h : IsS61 w0 W g b0) => S_set h p0 p1 3 (.bool true) ⟨(bkGet b0 a1).f0, (bkGet b0 a1).f1, (bkGet b0 a1).f2, true⟩ (by omega) rfl
   have HS := Aside0.mk HS
   clear hA h hI hB p0 p1 hd
   go_enter Tryd.func15, Tryd.ntmps15
   go_wp2_with (first | (go_at_call 28; refine (bk_at.calls g b0 a1 w0 w HI.out HB.out).mono ?_; rintro e w' ⟨rfl, nd, rfl⟩; rw [HA.out]))
   go_ret
   exact ⟨rfl, HS.out _ HI.out, (by repeat (first | (with_reducible first | exact HB.out | apply below_alloc | apply pw_below_drewN | apply below_drew1 | refine below_set ?_ (IsS61.ge HI.out)) | exact HB.out)), (by repeat (first | exact KeepBut.refl _ _ _ | apply keep_drewN | apply KeepBut.set_ | apply keep_alloc))⟩
end

end Go.Proofs.YtaoicceakgipgaaDoor.Q
