/- Proved here: what a calendar's Due does, told by the sorted list of what its heap holds. No conditions. -/
import Derived.Test.YtfmchkplnglepaaDoorHpCalI
namespace Go.Proofs.YtfmchkplnglepaaDoor.HpI
open Go.RowKit Go.Proofs.YtfmchkplnglepaaDoorW.PrintWords Go.Proofs.YtfmchkplnglepaaDoorW.PrintLast Go.Proofs.YtfmchkplnglepaaDoorW.PrintMore
open Go Go.Proofs.YtfmchkplnglepaaDoor.Hp
set_option linter.unusedVariables false
set_option linter.unusedSimpArgs false
def dueL (L : List En) (till : Int) : List En := L.takeWhile fun e => decide (e.2 ≤ till)
def restL (L : List En) (till : Int) : List En := L.dropWhile fun e => decide (e.2 ≤ till)
theorem split_due {pre M : List En} {till : Int} (h : ∀ e ∈ pre, e.2 ≤ till) (hM : ∀ x r, M = x :: r → ¬ x.2 ≤ till) : dueL (pre ++ M) till = pre ∧ restL (pre ++ M) till = M := by
  induction pre with
  | nil =>
    cases M with
    | nil => exact ⟨rfl, rfl⟩
    | cons x r =>
      have := hM x r rfl
      unfold dueL restL
      simp [List.takeWhile_cons, List.dropWhile_cons, this]
  | cons y s ih =>
    have hy := h y (List.mem_cons_self ..)
    obtain ⟨i1, i2⟩ := ih (fun e he => h e (List.mem_cons_of_mem _ he))
    unfold dueL restL at *
    simp [List.takeWhile_cons, List.dropWhile_cons, hy, i1, i2]
theorem info3 : (Tryd.prog.info? 3).map (fun i => (i.zero, i.size, i.bytes)) = some (some (.int .i64 0), 1, 8) := by kernel_rfl
theorem R_re {W : World} {base : Nat} {ok : Nat → Prop} {v : Value} {xs : List Int} (h : Kd.R (Kd.int .i64) 3 W base ok v xs) : Kd.R (Kd.int .i64) 3 W base (fun k => some k = v.ownBlock) v xs := Kd.R_of_own (Kd.own_of_R h) (fun k hk => hk.symm)
/-- where the loop stands -/
def Dr (P : Nat → Prop) (c : Nat) (L : List En) (till : Int) (W : World) (v : Value) (M : List En) (V : World) : Prop :=
  ∃ pre : List En, L = pre ++ M ∧ (∀ e ∈ pre, e.2 ≤ till) ∧ Kd.R (Kd.int .i64) 3 V W.heap.size (fun _ => True) v (pre.map (·.1)) ∧ Ca (fun k => P k ∧ some k ≠ v.ownBlock) c M V ∧ Off P W V
section
variable {P : Nat → Prop} {c : Nat} {L M : List En} {till : Int} {W V V1 : World} {v : Value}
theorem Dr.below (h : Dr P c L till W v M V) (hb : Below V.heap.size V V1) : Dr P c L till W v M V1 := by
  obtain ⟨pre, h1, h2, h3, h4, h5⟩ := h
  exact ⟨pre, h1, h2, Kd.R_below h3 hb, h4.below hb, h5.below hb⟩
theorem Dr.drewN (h : Dr P c L till W v M V) (n : Nat) : Dr P c L till W v M (V.drewN n) := h.below (pw_below_drewN (Below.refl _ _) n)
theorem Dr.drew (h : Dr P c L till W v M V) : Dr P c L till W v M V.drew := h.below (below_drew1 (Below.refl _ _))
theorem Dr.next (h : Dr P c L till W v M V) : Calls Tryd.prog 21 #[.pointer (some ⟨c, 0, none⟩)] V fun e W' => e = .returned (.tuple #[.int .i64 (first3 M).2.1, .bool (first3 M).2.2]) ∧ Dr P c L till W v M W' := by
  obtain ⟨pre, h1, h2, h3, h4, h5⟩ := id h
  refine (cal_next h4).mono ?_
  rintro e W' ⟨rfl, n, rfl⟩
  exact ⟨rfl, h.drewN n⟩
/-- behind the pop: the first one's number is not yet in the row -/
def Dq (P : Nat → Prop) (c : Nat) (L : List En) (till : Int) (W : World) (v : Value) (x : En) (r : List En) (V : World) : Prop :=
  ∃ pre : List En, L = pre ++ x :: r ∧ (∀ e ∈ pre, e.2 ≤ till) ∧ Kd.R (Kd.int .i64) 3 V W.heap.size (fun _ => True) v (pre.map (·.1)) ∧ Ca (fun k => P k ∧ some k ≠ v.ownBlock) c r V ∧ Off P W V
theorem Dr.ptr (h : Dr P c L till W v M V) : ∃ g : Nat, V.cell? ⟨c, 0, none⟩ = some (.pointer (some ⟨g, 0, none⟩)) ∧
    Calls Tryd.prog 30 #[.pointer (some ⟨g, 0, none⟩)] V fun e W' => e = .returned (.tuple #[.int .i64 (first3 M).1, .int .i64 (first3 M).2.1, .bool (first3 M).2.2]) ∧ ∀ x r, M = x :: r → Dq P c L till W v x r W' := by
  obtain ⟨pre, h1, h2, h3, ⟨g, hb, hPc, hs⟩, h5⟩ := h
  refine ⟨g, cell_of_row V c 0 _ _ (0, 0) hb, (hs_pop hs).mono ?_⟩
  rintro e W' ⟨rfl, hm, ho⟩
  refine ⟨rfl, fun x r hx => ⟨pre, by rw [h1, hx], h2, ?_, ⟨g, (ho.2.2.2.2 c (blk_lt hb) (fun hp => hp.2 rfl)).trans hb, hPc, by rw [hx] at hm; exact hm⟩, h5.trans (ho.re (fun k hk => hk.1.1))⟩⟩
  exact Kd.R_mono (Kd.R_step (R_re h3) (fun k hk hl => ho.2.2.2.2 k hl (fun hp => hp.1.2 hk))) (fun _ _ => trivial)
theorem Dq.snoc {x : En} {r : List En} {v1 : Value} (h : Dq P c L till W v x r V) (hP : ∀ k, W.heap.size ≤ k → P k) (hx : x.2 ≤ till) (ho : ∀ pre : List En, L = pre ++ x :: r → Kd.R (Kd.int .i64) 3 V1 W.heap.size (fun _ => True) v1 (pre.map (·.1) ++ [x.1]))
    (hg : V.grownBy V1 v.ownBlock) (hat : v1.ownBlock = v.ownBlock ∨ ∃ b, v1.ownBlock = some b ∧ V.heap.size ≤ b) : Dr P c L till W v1 r V1 := by
  obtain ⟨pre, h1, h2, h3, h4, h5⟩ := h
  refine ⟨pre ++ [x], by rw [h1]; simp, fun e he => ?_, by rw [List.map_append]; exact ho pre h1, ?_, h5.grown hg (fun k hk => hP k (Kd.R_base h3 k hk))⟩
  · rcases List.mem_append.1 he with he | he
    · exact h2 e he
    · simp at he; rw [he]; exact hx
  · refine ((h4.re (Q := fun k => (P k ∧ some k ≠ v.ownBlock) ∧ k < V.heap.size) (fun k hk hp => ⟨hp, hk⟩)).off (fun k hk hp => hg.block k hk hp.1.2)).re (fun k _ hp => ⟨hp.1.1, ?_⟩)
    rcases hat with e | ⟨b, e, hb⟩
    · rw [e]; exact hp.1.2
    · rw [e]; intro e2; have := hp.2; injection e2 with e2; omega
theorem Dq.app {xi xa : Int} {r : List En} {ops : Array Oper} {rest : List Oper} {o : Oper} {a : Act} {Q : Exit → Act → World → Prop} (h : Dq P c L till W v (xi, xa) r V) (hP : ∀ k, W.heap.size ≤ k → P k) (hx : xa ≤ till) (hl : L.length ≤ 1000000)
    (ho : o.op = .call { callee := .builtin .append, args := #[.tmp 33, .tmp 35], argTypes := #[24, 24] }) (hgd : o.guard = none) (h33 : a.eval (.tmp 33) = v) (h35 : a.eval (.tmp 35) = .slice (some ⟨V.heap.size, 0, none⟩) 1 1)
    (k : ∀ v1 w1, Dr P c L till W v1 r w1 → wpList Tryd.prog ops Q rest (a.put o.dst v1) w1) : wpList Tryd.prog ops Q (o :: rest) a (V.alloc (.cells #[.int .i64 xi] 3)) := by
  obtain ⟨pre, q1, q2, q3, q4, q5⟩ := id h
  have hpl : pre.length ≤ 1000000 := by have := congrArg List.length q1; simp at this; omega
  refine Kd.R_append (Kd.int .i64) (w0 := V) W.heap.size hgd (.tmp 33) (.tmp 35) 24 3 (.int .i64 0) 8 ho Tryd.underlying24 info3 rfl (by decide) (by omega) v (pre.map (·.1)) xi [.int .i64 xi] (fun _ => True) (fun _ => False) h33 h35 rfl (fun _ hk => hk.elim) (fun _ _ => trivial) q3 (Below.refl _ _) q5.2.2.2.1 (by rw [List.length_map]; omega) ?_
  intro v1 w3 ho hb hg hat
  exact k v1 w3 (h.snoc hP hx (fun pre2 hp2 => by have e : pre2 = pre := List.append_cancel_right (hp2.symm.trans q1); rw [e]; exact ho) hg hat)
end
set_option maxHeartbeats 16000000 in
set_option maxRecDepth 100000 in
theorem cal_due {P : Nat → Prop} {W : World} {c : Nat} {L : List En} (h : Ca P c L W) (hP : ∀ k, W.heap.size ≤ k → P k) (hl : L.length ≤ 1000000) (till : Int) :
    Calls Tryd.prog 17 #[.pointer (some ⟨c, 0, none⟩), .int .i64 till] W fun e W' => ∃ v : Value, e = .returned v ∧ Kd.R (Kd.int .i64) 3 W' W.heap.size (fun _ => True) v ((dueL L till).map (·.1)) ∧ Ca P c (restL L till) W' ∧ Off P W W' := by
  have huP := Tryd.underlying36
  have huC := Tryd.underlying79
  have huH := Tryd.underlying58
  have HD := Aside0.mk (show Dr P c L till W (.slice none 0 0) L W from ⟨[], rfl, fun e h => absurd h (by simp), Kd.R_nil _ _ _ _ _, h.re (fun k _ hp => ⟨hp, by simp [Value.ownBlock]⟩), Off.refl _ _⟩)
  have HPP := Aside0.mk hP
  have HL := Aside0.mk hl
  clear h hP hl
  go_enter Tryd.func17, Tryd.ntmps17
  go_wp2
  go_loopg [5] (L.length + 1) (fun kq v5 w' => ∃ M : List En, Aside0 (M.length < kq) ∧ Aside0 (Dr P c L till W v5 M w'))
  case atStart => exact ⟨L, ⟨by omega⟩, HD⟩
  case round =>
    clear HD
    obtain ⟨M, HK, HD⟩ := hrel
    cases gk with
    | zero => exact absurd HK.out (by omega)
    | succ k2 =>
      cases M with
      | nil =>
        go_wp2_with (first
          | (go_at_call 21; refine (Dr.next HD.out).mono ?_; rintro e w1 ⟨rfl, hh⟩; have HD2 := Aside0.mk hh; clear hh; simp only [first3])
          | go_in)
        go_ret
        obtain ⟨pre, h1, h2, h3, h4, h5⟩ := HD2.out
        obtain ⟨e1, e2⟩ := split_due (M := []) h2 (fun x r e => by cases e)
        rw [← h1] at e1 e2
        exact ⟨_, rfl, by rw [e1]; exact h3, by rw [e2]; exact h4.re (fun k _ hp => hp.1), h5⟩
      | cons x r =>
        obtain ⟨xi, xa⟩ := x
        by_cases hx : xa ≤ till
        · have d1 : decide (till < xa) = false := decide_eq_false (by omega)
          have HX := Aside0.mk hx
          have HM := Aside0.mk (show k2 < k2 + 1 ∧ r.length < k2 from ⟨by omega, by have := HK.out; simp at this; omega⟩)
          clear hx HK
          go_wp2_with (first
            | (go_at_call 21; refine (Dr.next HD.out).mono ?_; rintro e w1 ⟨rfl, hh⟩; obtain ⟨g, c0, hpop⟩ := hh.ptr; have HPOP := Aside0.mk hpop; clear hh hpop; simp only [first3])
            | (go_at_call 30; refine HPOP.out.mono ?_; rintro e w2 ⟨rfl, hh⟩; have HQ := Aside0.mk (hh _ _ rfl); clear hh c0; simp only [first3])
            | ((with_reducible refine gate_builtin (b := .append) (xs := #[.tmp 33, .tmp 35]) rfl ?_); at_builtin; refine Dq.app HQ.out HPP.out HX.out HL.out rfl rfl rfl rfl ?_; intro v1 w3 hh; have HD3 := Aside0.mk hh; clear hh)
            | go_in)
          go_roundg k2
          case measure => exact HM.out.1
          case rel => exact ⟨r, ⟨HM.out.2⟩, HD3⟩
        · have d1 : decide (till < xa) = true := decide_eq_true (by omega)
          have HX := Aside0.mk hx
          clear hx
          go_wp2_with (first
            | (go_at_call 21; refine (Dr.next HD.out).mono ?_; rintro e w1 ⟨rfl, hh⟩; have HD2 := Aside0.mk hh; clear hh; simp only [first3])
            | go_in)
          go_ret
          obtain ⟨pre, h1, h2, h3, h4, h5⟩ := HD2.out
          obtain ⟨e1, e2⟩ := split_due (M := (xi, xa) :: r) h2 (fun x r e => by cases e; have h9 := HX.out; show ¬ xa ≤ till; omega)
          rw [← h1] at e1 e2
          exact ⟨_, rfl, by rw [e1]; exact h3, by rw [e2]; exact h4.re (fun k _ hp => hp.1), h5⟩
end Go.Proofs.YtfmchkplnglepaaDoor.HpI
