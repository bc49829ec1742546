/- Proved here: what the machine does at calls of the functions that the laws reach is what plain functions of the same names say, or a row of the given statement out of that. No conditions. Written by a program of this session over the printer of the kit. -/
import Derived.Test.YtaoicceakgipgaaDoorNx0
import Derived.Test.YtaoicceakgipgaaDoorNx1
import Derived.Test.YtaoicceakgipgaaDoorNx2
import Derived.Test.YtaoicceakgipgaaDoorNx3
namespace Go.Proofs.YtaoicceakgipgaaDoor.N
open Go.RowKit Go.Proofs.YtaoicceakgipgaaDoorW.PrintWords Go.Proofs.YtaoicceakgipgaaDoorW.PrintLast Go.Proofs.YtaoicceakgipgaaDoorW.PrintMore
attribute [local go_sem] max2_int min2_int max_two min_two max_three min_three max_four min_four   -- for this text's walks alone
set_option linter.unusedVariables false
set_option linter.unusedSimpArgs false

def tithelaw08_AdmitNone.f (a0_0 : Int) (a0_1 : Int) (a0_2 : Int) : Option Bool := some true
theorem works08_ : tithelaw08_works.f = some true := by kernel_rfl
section
attribute [local go_sem high] bkEq
set_option maxHeartbeats 8000000 in
set_option maxRecDepth 100000 in
theorem nb_List  (w : World) : Calls Tryd.prog 22 #[Value.pointer none] w fun e w' => e = .returned (.slice none 0 0) ∧ w = w' := by
 have hu23 := Tryd.underlying23
 have hu62 := Tryd.underlying62
 have hu28 := Tryd.underlying28
 have hu34 := Tryd.underlying34
 have hu64 := Tryd.underlying64
 go_enter Tryd.func22, Tryd.ntmps22
 go_wp2_with (first | fail)
 go_ret
 exact ⟨rfl, rfl⟩
set_option maxHeartbeats 8000000 in
set_option maxRecDepth 100000 in
theorem nb_Sum  (w : World) : Calls Tryd.prog 11 #[Value.pointer none] w fun e w' => e = .returned (.int .i64 0) ∧ w = w' := by
 have hu23 := Tryd.underlying23
 have hu62 := Tryd.underlying62
 have hu28 := Tryd.underlying28
 have hu34 := Tryd.underlying34
 have hu64 := Tryd.underlying64
 go_enter Tryd.func11, Tryd.ntmps11
 go_wp2_with (first | (go_at_call 22; refine (nb_List _).mono ?_; rintro e w' ⟨rfl, rfl⟩))
 go_loopg [3, 9] 1 (fun kq v3 v9 w' => v3 = .int .i64 0 ∧ v9 = .int .i64 0 ∧ Aside0 (kq = 1) ∧ Aside0 (w = w'))
 case atStart => exact ⟨rfl, rfl, ⟨rfl⟩, ⟨rfl⟩⟩
 case round =>
  obtain ⟨rfl, rfl, HQ, HW⟩ := hrel
  obtain rfl := HW.out
  go_wp2
  go_ret
  exact ⟨rfl, rfl⟩
set_option maxHeartbeats 8000000 in
set_option maxRecDepth 100000 in
theorem nb_Free  (w : World) : Calls Tryd.prog 17 #[Value.pointer none] w fun e w' => e = .returned (.int .i64 0) ∧ w = w' := by
 have hu23 := Tryd.underlying23
 have hu62 := Tryd.underlying62
 have hu28 := Tryd.underlying28
 have hu34 := Tryd.underlying34
 have hu64 := Tryd.underlying64
 go_enter Tryd.func17, Tryd.ntmps17
 go_wp2_with (first | fail)
 go_ret
 exact ⟨rfl, rfl⟩
set_option maxHeartbeats 8000000 in
set_option maxRecDepth 100000 in
theorem nb_Room (a : Int) (w : World) : Calls Tryd.prog 23 #[Value.pointer none, .int .i64 a] w fun e w' => e = .returned (.int .i64 0) ∧ w = w' := by
 have hu23 := Tryd.underlying23
 have hu62 := Tryd.underlying62
 have hu28 := Tryd.underlying28
 have hu34 := Tryd.underlying34
 have hu64 := Tryd.underlying64
 go_enter Tryd.func23, Tryd.ntmps23
 go_wp2_with (first | fail)
 go_ret
 exact ⟨rfl, rfl⟩
set_option maxHeartbeats 8000000 in
set_option maxRecDepth 100000 in
theorem nb_at (a : Int) (w : World) : Calls Tryd.prog 28 #[Value.pointer none, .int .i64 a] w fun e w' => e = .returned (.pointer none) ∧ Drawn0 w w' := by
 have hu23 := Tryd.underlying23
 have hu62 := Tryd.underlying62
 have hu28 := Tryd.underlying28
 have hu34 := Tryd.underlying34
 have hu64 := Tryd.underlying64
 go_enter Tryd.func28, Tryd.ntmps28
 go_wp2
 go_quiet (fail)
 go_wp2
 go_ret
 exact ⟨rfl, by repeat (first | exact Drawn0.refl _ | apply Drawn0.step)⟩
set_option maxHeartbeats 8000000 in
set_option maxRecDepth 100000 in
theorem nb_Add (a : Int) (b : Int) (w : World) : Calls Tryd.prog 13 #[Value.pointer none, .int .i64 a, .int .i64 b] w fun e w' => e = .returned (errW (some 50)) ∧ w = w' := by
 have hu23 := Tryd.underlying23
 have hu62 := Tryd.underlying62
 have hu28 := Tryd.underlying28
 have hu34 := Tryd.underlying34
 have hu64 := Tryd.underlying64
 go_enter Tryd.func13, Tryd.ntmps13
 go_wp2_with (first | fail)
 go_ret
 exact ⟨rfl, rfl⟩
set_option maxHeartbeats 8000000 in
set_option maxRecDepth 100000 in
theorem nb_Resize (a : Int) (b : Int) (w : World) : Calls Tryd.prog 14 #[Value.pointer none, .int .i64 a, .int .i64 b] w fun e w' => e = .returned (errW (some 50)) ∧ Drawn0 w w' := by
 have hu23 := Tryd.underlying23
 have hu62 := Tryd.underlying62
 have hu28 := Tryd.underlying28
 have hu34 := Tryd.underlying34
 have hu64 := Tryd.underlying64
 go_enter Tryd.func14, Tryd.ntmps14
 go_wp2_with (first | (go_at_call 28; refine (nb_at a _).mono ?_; rintro e w' ⟨rfl, nd, rfl⟩))
 go_ret
 exact ⟨rfl, by repeat (first | exact Drawn0.refl _ | apply Drawn0.step)⟩
set_option maxHeartbeats 8000000 in
set_option maxRecDepth 100000 in
theorem nb_Die (a : Int) (w : World) : Calls Tryd.prog 15 #[Value.pointer none, .int .i64 a] w fun e w' => e = .returned (errW (some 50)) ∧ Drawn0 w w' := by
 have hu23 := Tryd.underlying23
 have hu62 := Tryd.underlying62
 have hu28 := Tryd.underlying28
 have hu34 := Tryd.underlying34
 have hu64 := Tryd.underlying64
 go_enter Tryd.func15, Tryd.ntmps15
 go_wp2_with (first | (go_at_call 28; refine (nb_at a _).mono ?_; rintro e w' ⟨rfl, nd, rfl⟩))
 go_ret
 exact ⟨rfl, by repeat (first | exact Drawn0.refl _ | apply Drawn0.step)⟩
set_option maxHeartbeats 8000000 in
set_option maxRecDepth 100000 in
theorem nb_Cross (a : Int) (w : World) : Calls Tryd.prog 16 #[Value.pointer none, .int .i64 a] w fun e w' => e = .returned (.tuple #[.int .i64 0, errW (some 50)]) ∧ Drawn0 w w' := by
 have hu23 := Tryd.underlying23
 have hu62 := Tryd.underlying62
 have hu28 := Tryd.underlying28
 have hu34 := Tryd.underlying34
 have hu64 := Tryd.underlying64
 go_enter Tryd.func16, Tryd.ntmps16
 go_wp2_with (first | (go_at_call 28; refine (nb_at a _).mono ?_; rintro e w' ⟨rfl, nd, rfl⟩))
 go_ret2
 exact ⟨rfl, by repeat (first | exact Drawn0.refl _ | apply Drawn0.step)⟩
set_option maxHeartbeats 8000000 in
set_option maxRecDepth 100000 in
theorem nb_Twin  (w : World) : Calls Tryd.prog 20 #[Value.pointer none] w fun e w' => e = .returned (.pointer none) ∧ w = w' := by
 have hu23 := Tryd.underlying23
 have hu62 := Tryd.underlying62
 have hu28 := Tryd.underlying28
 have hu34 := Tryd.underlying34
 have hu64 := Tryd.underlying64
 go_enter Tryd.func20, Tryd.ntmps20
 go_wp2_with (first | fail)
 go_ret
 exact ⟨rfl, rfl⟩
set_option maxHeartbeats 8000000 in
set_option maxRecDepth 100000 in
theorem nb_Of (a : Int) (w : World) (hG : GG w) : Calls Tryd.prog 10 #[Value.pointer none, .int .i64 a] w fun e w' => e = .returned (.tuple #[.agg #[.int .i64 0, .int .i64 0, .int .i64 0, .bool false], .bool false]) ∧ Below w.heap.size w w' := by
 have hu23 := Tryd.underlying23
 have hu62 := Tryd.underlying62
 have hu28 := Tryd.underlying28
 have hu34 := Tryd.underlying34
 have hu64 := Tryd.underlying64
 obtain ⟨n0, n1, n2, n3⟩ := none_of (hG.below (below_alloc (Below.refl _ _) (.cells #[.int .i64 0, .int .i64 0, .int .i64 0, .bool false] 28)))
 go_enter Tryd.func10, Tryd.ntmps10
 go_wp2_with (first | (go_at_call 28; refine (nb_at a _).mono ?_; rintro e w' ⟨rfl, nd, rfl⟩))
 refine bodyPost_ret (v := .tuple #[.agg #[.int .i64 0, .int .i64 0, .int .i64 0, .bool false], .bool false]) ?_ rfl ⟨rfl, (by repeat (first | exact Below.refl _ _ | refine below_set ?_ (Nat.le_refl _) | apply pw_below_drewN | apply below_alloc))⟩
 simp [results, Tryd.results10, go_sem]
end
set_option maxHeartbeats 8000000 in
set_option maxRecDepth 100000 in
theorem tithelaw08_AdmitNone.calls (a0_0 : Int) (a0_1 : Int) (a0_2 : Int) (r : Bool) (w : World) (hG : GG w) (h : tithelaw08_AdmitNone.f a0_0 a0_1 a0_2 = some r) :
  Calls Tryd.prog 8 #[.agg #[.int .i64 a0_0, .int .i64 a0_1, .int .i64 a0_2]] w fun e w' => e = .returned (.bool r) ∧ Below w.heap.size w w' := by
 obtain rfl := Option.some.inj h
 have hu23 := Tryd.underlying23
 have hu62 := Tryd.underlying62
 have hu28 := Tryd.underlying28
 have hu34 := Tryd.underlying34
 have hu64 := Tryd.underlying64
 have hu26 := Tryd.underlying26
 have HG := Aside0.mk hG
 have HB := Aside0.mk (Below.refl w.heap.size w)
 clear h hG
 go_enter Tryd.func8, Tryd.ntmps8
 go_wp2_with (first
  | (go_at_call 16; refine (nb_Cross a0_1 _).mono ?_; rintro e w' ⟨rfl, nd, rfl⟩)
  | (go_at_call 10; refine (nb_Of a0_1 _ (HG.out.below (by repeat (first | exact HB.out | apply below_alloc | apply pw_below_drewN)))).mono ?_; rintro e w1 ⟨rfl, hb⟩; have HB1 := Aside0.mk (below_step (show Below w.heap.size w _ from by repeat (first | exact HB.out | apply below_alloc | apply pw_below_drewN)) hb); have h1 : w1.cell? ⟨w.heap.size, 1, none⟩ = some (.int .i64 a0_1) := (hb.cell (p := ⟨w.heap.size, 1, none⟩) (by simp)).trans (by simp); have h2 : w1.cell? ⟨w.heap.size, 2, none⟩ = some (.int .i64 a0_2) := (hb.cell (p := ⟨w.heap.size, 2, none⟩) (by simp)).trans (by simp); have hz : w.heap.size < w1.heap.size := (by have := hb.size; simp at this; omega); clear hb)
  | (go_at_call 13; refine (nb_Add a0_1 a0_2 _).mono ?_; rintro e w' ⟨rfl, rfl⟩)
  | (go_at_call 14; refine (nb_Resize a0_1 a0_2 _).mono ?_; rintro e w' ⟨rfl, nd, rfl⟩)
  | (go_at_call 15; refine (nb_Die a0_1 _).mono ?_; rintro e w' ⟨rfl, nd, rfl⟩)
  | (go_at_call 12; refine (tithelaw08_num.calls (some 50) 50 _ rfl).mono ?_; rintro e w' ⟨rfl, nd, rfl⟩)
  | (go_at_call 11; refine (nb_Sum _).mono ?_; rintro e w' ⟨rfl, rfl⟩)
  | (go_at_call 17; refine (nb_Free _).mono ?_; rintro e w' ⟨rfl, rfl⟩)
  | (go_at_call 23; refine (nb_Room a0_2 _).mono ?_; rintro e w' ⟨rfl, rfl⟩)
  | (go_at_call 22; refine (nb_List _).mono ?_; rintro e w' ⟨rfl, rfl⟩)
  | (go_at_call 20; refine (nb_Twin _).mono ?_; rintro e w' ⟨rfl, rfl⟩)
  | (go_at_call 18; refine (tithelaw08_works.calls true _ (HG.out.below (by repeat (first | exact HB1.out | apply below_alloc | apply pw_below_drewN | refine below_set ?_ HB1.out.size))) works08_).mono ?_; rintro e w2 ⟨rfl, hb2⟩; have HB2 := Aside0.mk (below_step (show Below w.heap.size w _ from by repeat (first | exact HB1.out | apply below_alloc | apply pw_below_drewN | refine below_set ?_ HB1.out.size)) hb2); clear hb2))
 go_ret
 exact ⟨rfl, HB2.out⟩

end Go.Proofs.YtaoicceakgipgaaDoor.N
