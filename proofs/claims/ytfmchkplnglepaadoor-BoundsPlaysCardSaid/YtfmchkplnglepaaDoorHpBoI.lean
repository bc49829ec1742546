/- A calendar beside a row of 64 times: what the law BoundsOnce goes through. No conditions. -/
import Derived.Test.YtfmchkplnglepaaDoorHpDueI
namespace Go.Proofs.YtfmchkplnglepaaDoor.HpI
open Go.RowKit Go.Proofs.YtfmchkplnglepaaDoorW.PrintWords Go.Proofs.YtfmchkplnglepaaDoorW.PrintLast Go.Proofs.YtfmchkplnglepaaDoorW.PrintMore
open Go Go.Proofs.YtfmchkplnglepaaDoor.Hp
set_option linter.unusedVariables false
set_option linter.unusedSimpArgs false
set_option maxHeartbeats 8000000 in
set_option maxRecDepth 100000 in
theorem sure11 (w : World) : Calls Tryd.prog 10 #[] w fun e w' => e = .returned (.bool true) ∧ Below w.heap.size w w' := by
  have huP := Tryd.underlying36
  have l1 : ins ((2 : Int), (30 : Int)) (del 2 []) = [(2, 30)] := by decide
  have HL := Aside0.mk l1
  clear l1
  go_enter Tryd.func10, Tryd.ntmps10
  go_wp2_with (first
    | (go_at_call 11; refine (cal_new (P := fun k => w.heap.size ≤ k) (W := w) (fun k hk => hk)).mono ?_; rintro e w1 ⟨c, rfl, hh, ho, _⟩; have HC := Aside0.mk hh; have HO := Aside0.mk ho; clear hh ho)
    | (go_at_call 13; refine (cal_put (P := fun k => w.heap.size ≤ k) HC.out (fun k hk => Nat.le_trans HO.out.2.2.2.1 hk) (by simp) 2 30 (by omega) (by omega) (by omega)).mono ?_; rintro e w2 ⟨rfl, hh, ho⟩; rw [HL.out] at hh; have HC2 := Aside0.mk hh; have HO2 := Aside0.mk (HO.out.trans ho); clear hh ho)
    | (go_at_call 21; refine (cal_next HC2.out).mono ?_; rintro e w3 ⟨rfl, n, rfl⟩; simp only [first3])
    | go_in)
  go_ret
  exact ⟨rfl, (HO2.out.drewN _).toBelow⟩
/-- the blocks that a calendar may have: new ones, but for the row's -/
def Pq (w : World) (wb : Nat) (k : Nat) : Prop := w.heap.size ≤ k ∧ k ≠ wb
/-- a calendar, and a row of its own -/
def Bo (w : World) (c wb cap : Nat) (L : List En) (wh : List Int) (W : World) : Prop :=
  Ca (Pq w wb) c L W ∧ Kd.R (Kd.int .i64) 3 W 0 (fun k => k = wb) (.slice (some ⟨wb, 0, none⟩) 64 cap) wh ∧ Off (fun k => w.heap.size ≤ k) w W ∧ w.heap.size ≤ wb ∧ wb < W.heap.size
section
variable {w W W1 : World} {c wb cap : Nat} {L : List En} {wh : List Int}
theorem Bo.below (h : Bo w c wb cap L wh W) (hb : Below W.heap.size W W1) : Bo w c wb cap L wh W1 := ⟨h.1.below hb, Kd.R_below h.2.1 hb, h.2.2.1.below hb, h.2.2.2.1, Nat.lt_of_lt_of_le h.2.2.2.2 hb.size⟩
theorem Bo.drewN (h : Bo w c wb cap L wh W) (n : Nat) : Bo w c wb cap L wh (W.drewN n) := h.below (pw_below_drewN (Below.refl _ _) n)
theorem Bo.drew (h : Bo w c wb cap L wh W) : Bo w c wb cap L wh W.drew := h.below (below_drew1 (Below.refl _ _))
theorem Bo.alloc (h : Bo w c wb cap L wh W) (o : Obj) : Bo w c wb cap L wh (W.alloc o) := h.below (below_alloc (Below.refl _ _) o)
theorem Bo.bel (h : Bo w c wb cap L wh W) : Below w.heap.size w W := h.2.2.1.toBelow
theorem Bo.len (h : Bo w c wb cap L wh W) : wh.length = 64 := ((Kd.R_reads' h.2.1).1).symm
theorem Bo.fresh (h : Bo w c wb cap L wh W) : ∀ k, W.heap.size ≤ k → Pq w wb k := fun k hk => ⟨Nat.le_trans h.2.2.1.2.2.2.1 hk, by have := h.2.2.2.2; omega⟩
theorem Bo.turn {L' : List En} (h : Bo w c wb cap L wh W) (hc : Ca (Pq w wb) c L' W1) (ho : Off (Pq w wb) W W1) : Bo w c wb cap L' wh W1 :=
  ⟨hc, Kd.R_step h.2.1 (fun k hk hl => ho.2.2.2.2 k hl (fun hp => hp.2 hk)), h.2.2.1.trans (ho.re (fun k hk => hk.1)), h.2.2.2.1, Nat.lt_of_lt_of_le h.2.2.2.2 ho.2.2.2.1⟩
theorem Bo.cell (h : Bo w c wb cap L wh W) {i : Nat} (hi : i < 64) : W.cell? ⟨wb, i, none⟩ = some (.int .i64 (wh.getD i 0)) ∧ W.frozen? ⟨wb, i, none⟩ = false := by
  obtain ⟨ce, hcl, hM, hcc, hfr⟩ := Kd.R_elem h.2.1 0 (i : Int) (by omega) (by omega)
  simp only [Int.toNat_natCast] at hcc hM hfr
  obtain rfl : ce = _ := hM
  have e0 := hcc 0 _ rfl
  have f0 := hfr 0
  simp only [show (Kd.int .i64).sz = 1 from rfl, Nat.mul_one, Nat.add_zero] at e0 f0
  exact ⟨e0, f0⟩
theorem Bo.set (h : Bo w c wb cap L wh W) (i : Nat) (x : Int) : Bo w c wb cap L (wh.set i x) (W.setCell ⟨wb, i, none⟩ (.int .i64 x)) := by
  have hr := Kd.R_putg h.2.1 (i : Int) x
  simp only [Int.toNat_natCast] at hr
  have hg := grown_set W wb i (.int .i64 x)
  exact ⟨h.1.off (fun k hk hp => hg.block k hk (fun e => hp.2 (Option.some.inj e))), hr.1, h.2.2.1.grown hg (fun k e => by cases e; exact h.2.2.2.1), h.2.2.2.1, by simpa [World.setCell] using h.2.2.2.2⟩
theorem Bo.put (h : Bo w c wb cap L wh W) (hl : L.length < 1000000) (id a : Int) (h0 : 0 ≤ id) (h1 : id ≤ 9223372036854775807) (h2 : 0 ≤ a) :
    Calls Tryd.prog 13 #[.pointer (some ⟨c, 0, none⟩), .int .i64 id, .int .i64 a] W fun e W' => e = .returned .nilIface ∧ Bo w c wb cap (ins (id, a) (del id L)) wh W' := by
  refine (cal_put h.1 h.fresh hl id a h0 h1 h2).mono ?_
  rintro e W' ⟨rfl, hc, ho⟩
  exact ⟨rfl, h.turn hc ho⟩
theorem Bo.next (h : Bo w c wb cap L wh W) : Calls Tryd.prog 21 #[.pointer (some ⟨c, 0, none⟩)] W fun e W' => e = .returned (.tuple #[.int .i64 (first3 L).2.1, .bool (first3 L).2.2]) ∧ Bo w c wb cap L wh W' := by
  refine (cal_next h.1).mono ?_
  rintro e W' ⟨rfl, n, rfl⟩
  exact ⟨rfl, h.drewN n⟩
theorem Bo.lenc (h : Bo w c wb cap L wh W) : Calls Tryd.prog 20 #[.pointer (some ⟨c, 0, none⟩)] W fun e W' => e = .returned (.int .i64 (L.length : Int)) ∧ Bo w c wb cap L wh W' := by
  refine (cal_len h.1).mono ?_
  rintro e W' ⟨rfl, rfl⟩
  exact ⟨rfl, h⟩
/-- beside the row that Due has answered: at block db, or nowhere -/
def Bd (w : World) (c wb cap : Nat) (L : List En) (wh ids : List Int) (A : Option Addr) (cd : Nat) (W : World) : Prop :=
  Bo w c wb cap L wh W ∧ Kd.R (Kd.int .i64) 3 W 0 (fun k => k ≠ wb) (.slice A ids.length cd) ids
theorem Bd.below {ids : List Int} {A : Option Addr} {cd : Nat} (h : Bd w c wb cap L wh ids A cd W) (hb : Below W.heap.size W W1) : Bd w c wb cap L wh ids A cd W1 := ⟨h.1.below hb, Kd.R_below h.2 hb⟩
theorem Bd.drewN {ids : List Int} {A : Option Addr} {cd : Nat} (h : Bd w c wb cap L wh ids A cd W) (n : Nat) : Bd w c wb cap L wh ids A cd (W.drewN n) := h.below (pw_below_drewN (Below.refl _ _) n)
theorem Bd.drew {ids : List Int} {A : Option Addr} {cd : Nat} (h : Bd w c wb cap L wh ids A cd W) : Bd w c wb cap L wh ids A cd W.drew := h.below (below_drew1 (Below.refl _ _))
theorem Bd.set {ids : List Int} {A : Option Addr} {cd : Nat} (h : Bd w c wb cap L wh ids A cd W) (i : Nat) (x : Int) : Bd w c wb cap L (wh.set i x) ids A cd (W.setCell ⟨wb, i, none⟩ (.int .i64 x)) :=
  ⟨h.1.set i x, Kd.R_far h.2 (p := ⟨wb, i, none⟩) (fun k hk => hk) _⟩
theorem Bd.at_ {ids : List Int} {A : Option Addr} {cd : Nat} (h : Bd w c wb cap L wh ids A cd W) {i : Nat} (hi : i < ids.length) : ∃ db, A = some ⟨db, 0, none⟩ ∧ ∀ j, j < ids.length → W.cell? ⟨db, j, none⟩ = some (.int .i64 (ids.getD j 0)) := by
  obtain ⟨db, co, eo, _⟩ := Kd.R_form h.2 (by omega)
  injection eo with ea _ ec
  subst ea
  refine ⟨db, rfl, fun j hj => ?_⟩
  obtain ⟨ce, hcl, hM, hcc, hfr⟩ := Kd.R_elem h.2 0 (j : Int) (by omega) (by omega)
  simp only [Int.toNat_natCast] at hcc hM
  obtain rfl : ce = _ := hM
  have e0 := hcc 0 _ rfl
  simp only [show (Kd.int .i64).sz = 1 from rfl, Nat.mul_one, Nat.add_zero] at e0
  exact e0
theorem Bo.due (h : Bo w c wb cap L wh W) (hl : L.length ≤ 1000000) (till : Int) :
    Calls Tryd.prog 17 #[.pointer (some ⟨c, 0, none⟩), .int .i64 till] W fun e W' => ∃ A cd, e = .returned (.slice A (List.length ((dueL L till).map (·.1))) cd) ∧ Bd w c wb cap (restL L till) wh ((dueL L till).map (·.1)) A cd W' := by
  refine (cal_due h.1 h.fresh hl till).mono ?_
  rintro e W' ⟨v, rfl, hr, hc, ho⟩
  obtain ⟨A, cd, rfl⟩ := Kd.R_slice hr
  have hb := Kd.R_base hr
  refine ⟨A, cd, rfl, h.turn hc ho, Kd.R_mono (Kd.R_lower (R_re hr) (Nat.zero_le _)) (fun k hk e => ?_)⟩
  have := hb k hk.symm
  have := h.2.2.2.2
  omega
end
end Go.Proofs.YtfmchkplnglepaaDoor.HpI
