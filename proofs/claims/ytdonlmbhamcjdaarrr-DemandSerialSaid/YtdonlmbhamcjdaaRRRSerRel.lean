/- What DemandSerial's walk carries: the order's row, the callees over a copy of the work. No conditions. -/
import Derived.Test.YtdonlmbhamcjdaaRRRDemSer
import Derived.Test.YtdonlmbhamcjdaaRRREx4
namespace Go.Proofs.YtdonlmbhamcjdaaRRR.Ser
open Go Go.RowKit Tithe Go.Proofs.YtdonlmbhamcjdaaRRR.E Go.Proofs.YtdonlmbhamcjdaaRRR.Pure Go.Proofs.YtdonlmbhamcjdaaRRRW.PrintWords Go.Proofs.YtdonlmbhamcjdaaRRRW.PrintLast Go.Proofs.YtdonlmbhamcjdaaRRRW.PrintMore
set_option linter.unusedVariables false
/-- the order's row, made since w -/
def So (w : World) (D : Option Addr) (n d : Nat) (os : List Int) (W : World) : Prop := Kd.R (Kd.int .i64) 3 W w.heap.size (fun _ => True) (.slice D n d) os ∧ Below w.heap.size w W
section
variable {w W W1 : World} {D A0 A1 : Option Addr} {n d c0 c1 : Nat} {os : List Int} {l0 : List S43}
theorem So.below (h : So w D n d os W) (hb : Below W.heap.size W W1) : So w D n d os W1 := ⟨Kd.R_below h.1 hb, below_step h.2 hb⟩
theorem So.drewN (h : So w D n d os W) (m : Nat) : So w D n d os (W.drewN m) := h.below (pw_below_drewN (Below.refl _ _) m)
theorem So.drew (h : So w D n d os W) : So w D n d os W.drew := h.below (below_drew1 (Below.refl _ _))
theorem So.alloc (h : So w D n d os W) (o : Obj) : So w D n d os (W.alloc o) := h.below (below_alloc (Below.refl _ _) o)
theorem So.len (h : So w D n d os W) : n = os.length := (Kd.R_reads' h.1).1
theorem So.at_ (h : So w D n d os W) {i : Nat} (hi : i < n) : ∃ db, D = some ⟨db, 0, none⟩ ∧ ∀ j, j < n → W.cell? ⟨db, j, none⟩ = some (.int .i64 (os.getD j 0)) := by
  have hn := h.len
  obtain ⟨db, co, eo, _⟩ := Kd.R_form h.1 (by omega)
  injection eo with ea _ ec
  subst ea
  refine ⟨db, rfl, fun j hj => ?_⟩
  obtain ⟨ce, hcl, hM, hcc, hfr⟩ := Kd.R_elem h.1 0 (j : Int) (by omega) (by omega)
  simp only [Int.toNat_natCast] at hcc hM
  obtain rfl : ce = _ := hM
  have e0 := hcc 0 _ rfl
  simp only [show (Kd.int .i64).sz = 1 from rfl, Nat.mul_one, Nat.add_zero] at e0
  exact e0
theorem So.at' {db : Nat} (h : So w (some ⟨db, 0, none⟩) n d os W) {j : Nat} (hj : j < n) : W.cell? ⟨db, j, none⟩ = some (.int .i64 (os.getD j 0)) := by
  obtain ⟨db2, e, hh⟩ := h.at_ hj
  injection e with e
  injection e with e
  subst e
  exact hh j hj
/-- beside a copy of the work -/
def St (w : World) (D : Option Addr) (n d : Nat) (os : List Int) (l0 : List S43) (A1 : Option Addr) (c1 : Nat) (W : World) : Prop := So w D n d os W ∧ Kd.C k43 W A1 l0.length l0 ∧ l0.length ≤ c1
theorem St.drewN (h : St w D n d os l0 A1 c1 W) (m : Nat) : St w D n d os l0 A1 c1 (W.drewN m) := ⟨h.1.drewN m, Kd.C_drewN h.2.1 m, h.2.2⟩
theorem St.drew (h : St w D n d os l0 A1 c1 W) : St w D n d os l0 A1 c1 W.drew := ⟨h.1.drew, Kd.C_drew h.2.1, h.2.2⟩
theorem So.twin (h : So w D n d os W) (hC : Kd.C k43 w A0 l0.length l0) (hc0 : l0.length ≤ c0) (hl : l0.length < 4398046511104) :
    Calls Try.prog 12 #[.slice A0 l0.length c0] W fun e W' => ∃ A1 c1, e = .returned (.slice A1 l0.length c1) ∧ St w D n d os l0 A1 c1 W' := by
  refine (tithelaw20_twin.calls A0 c0 l0 l0 W (Kd.C_below hC h.2) hc0 (twin_ok l0 hl)).mono ?_
  rintro e W' ⟨v, rfl, hr, hb⟩
  obtain ⟨A1, c1, rfl⟩ := Kd.R_slice hr
  have h3 := Kd.R_reads' hr
  exact ⟨A1, c1, rfl, h.below hb, h3.2.2, h3.2.1⟩
theorem St.level {k : Nat} {j T a : Int} (h : St w D n d os l0 A1 c1 W) (hf : demand_Level.f k l0 j T = some (a, none)) :
    Calls Try.prog 14 #[.slice A1 l0.length c1, .int .i64 j, .int .i64 T] W fun e W' => e = .returned (.tuple #[.int .i64 a, .nilIface]) ∧ So w D n d os W' := by
  refine (demand_Level.calls k A1 c1 l0 j T a none W h.2.1 h.2.2 hf).mono ?_
  rintro e W' ⟨rfl, hb⟩
  exact ⟨rfl, h.1.below hb⟩
theorem St.busy {k : Nat} {j v : Int} {e0 : Option Int} (h : St w D n d os l0 A1 c1 W) (hf : demand_Busy.f k l0 j = some (v, e0)) :
    Calls Try.prog 16 #[.slice A1 l0.length c1, .int .i64 j] W fun e W' => e = .returned (.tuple #[.int .i64 v, errW e0]) ∧ So w D n d os W' := by
  refine (demand_Busy.calls k A1 c1 l0 j v e0 W h.2.1 h.2.2 hf).mono ?_
  rintro e W' ⟨rfl, hb⟩
  exact ⟨rfl, h.1.below hb⟩
theorem St.order {k : Nat} {r1 : List Int} {r2 : Option Int} (hC : Kd.C k43 W A1 l0.length l0) (hc : l0.length ≤ c1) (hB : Below w.heap.size w W) (hf : demand_Order.f k l0 = some (r1, r2)) :
    Calls Try.prog 11 #[.slice A1 l0.length c1] W fun e W' => ∃ D d, e = .returned (.tuple #[.slice D r1.length d, errW r2]) ∧ So w D r1.length d r1 W' := by
  refine (demand_Order.calls k A1 c1 l0 r1 r2 W hC hc hf).mono ?_
  rintro e W' ⟨v, rfl, hr, hb⟩
  obtain ⟨D, d, rfl⟩ := Kd.R_slice hr
  exact ⟨D, d, rfl, Kd.R_lower hr hB.size, below_step hB hb⟩
/-- what Busy says of the play's end -/
def Bz (l : List S43) (p : Nat) (first : Int) : Prop := ∃ (h : p < (ol l).length) (v : Int) (e : Option Int), Evt (fun k => demand_Busy.f k l ((ol l)[p] : Int)) (v, e) ∧ ((0 < first ∧ e = none ∧ v = first) ∨ (first = 0 ∧ ((e = some 80 ∧ v = 0) ∨ (e = none ∧ 2000 < v))))
/-- idle at this tick, or not -/
def Fz (u left f : Int) : Prop := (f = u ∧ (1 ≤ u ∧ left = 0)) ∨ (f = 0 ∧ ¬ (1 ≤ u ∧ left = 0))
/-- beside two records in blocks of their own -/
def cs43 (x : S43) : Array Value := #[.int .i64 x.f0, .int .i64 x.f1, .int .i64 x.f2, .int .i64 x.f3]
def Tw (w : World) (D : Option Addr) (n d : Nat) (os : List Int) (b8 b9 : Nat) (x y : S43) (W : World) : Prop :=
  So w D n d os W ∧ W.heap[b8]? = some (.cells (cs43 x) 43 (0, 0)) ∧ W.heap[b9]? = some (.cells (cs43 y) 43 (0, 0))
def Tu (w : World) (D : Option Addr) (n d : Nat) (os : List Int) (b8 b9 : Nat) (x y : S43) (l0 : List S43) (A1 : Option Addr) (c1 : Nat) (W : World) : Prop := Tw w D n d os b8 b9 x y W ∧ Kd.C k43 W A1 l0.length l0 ∧ l0.length ≤ c1
section
variable {b8 b9 : Nat} {x y : S43}
theorem Tw.below (h : Tw w D n d os b8 b9 x y W) (hb : Below W.heap.size W W1) : Tw w D n d os b8 b9 x y W1 := ⟨h.1.below hb, (hb.block b8 (blk_lt h.2.1)).trans h.2.1, (hb.block b9 (blk_lt h.2.2)).trans h.2.2⟩
theorem Tw.drewN (h : Tw w D n d os b8 b9 x y W) (m : Nat) : Tw w D n d os b8 b9 x y (W.drewN m) := h.below (pw_below_drewN (Below.refl _ _) m)
theorem Tw.drew (h : Tw w D n d os b8 b9 x y W) : Tw w D n d os b8 b9 x y W.drew := h.below (below_drew1 (Below.refl _ _))
theorem Tu.drewN (h : Tu w D n d os b8 b9 x y l0 A1 c1 W) (m : Nat) : Tu w D n d os b8 b9 x y l0 A1 c1 (W.drewN m) := ⟨h.1.drewN m, Kd.C_drewN h.2.1 m, h.2.2⟩
theorem Tu.drew (h : Tu w D n d os b8 b9 x y l0 A1 c1 W) : Tu w D n d os b8 b9 x y l0 A1 c1 W.drew := ⟨h.1.drew, Kd.C_drew h.2.1, h.2.2⟩
theorem So.two (h : So w D n d os W) (x y : S43) : Tw w D n d os W.heap.size (W.heap.size + 1) x y ((W.alloc (.cells (cs43 x) 43)).alloc (.cells (cs43 y) 43)).drew := by
  have hs : (W.alloc (.cells (cs43 x) 43)).heap.size = W.heap.size + 1 := Array.size_push ..
  refine ⟨((h.alloc _).alloc _).drew, ?_, ?_⟩
  · exact (heap_alloc_old _ _ (by rw [hs]; omega)).trans (heap_alloc_new W _)
  · have := heap_alloc_new (W.alloc (.cells (cs43 x) 43)) (.cells (cs43 y) 43)
    rw [hs] at this
    exact this
theorem So.two' (h : So w D n d os W) (x y : S43) : Tw w D n d os (W.heap.size + 1) W.heap.size x y ((W.alloc (.cells (cs43 y) 43)).alloc (.cells (cs43 x) 43)).drew := by
  have h2 := h.two y x
  exact ⟨h2.1, h2.2.2, h2.2.1⟩
theorem Tw.cells (h : Tw w D n d os b8 b9 x y W) : W.cell? ⟨b8, 1, none⟩ = some (.int .i64 x.f1) ∧ W.cell? ⟨b8, 3, none⟩ = some (.int .i64 x.f3) ∧ W.cell? ⟨b9, 1, none⟩ = some (.int .i64 y.f1) ∧ W.cell? ⟨b9, 3, none⟩ = some (.int .i64 y.f3) :=
  ⟨cell_of_row W b8 1 _ _ (0, 0) h.2.1, cell_of_row W b8 3 _ _ (0, 0) h.2.1, cell_of_row W b9 1 _ _ (0, 0) h.2.2, cell_of_row W b9 3 _ _ (0, 0) h.2.2⟩
theorem Tw.twin (h : Tw w D n d os b8 b9 x y W) (hC : Kd.C k43 w A0 l0.length l0) (hc0 : l0.length ≤ c0) (hl : l0.length < 4398046511104) :
    Calls Try.prog 12 #[.slice A0 l0.length c0] W fun e W' => ∃ A1 c1, e = .returned (.slice A1 l0.length c1) ∧ Tu w D n d os b8 b9 x y l0 A1 c1 W' := by
  refine (tithelaw20_twin.calls A0 c0 l0 l0 W (Kd.C_below hC h.1.2) hc0 (twin_ok l0 hl)).mono ?_
  rintro e W' ⟨v, rfl, hr, hb⟩
  obtain ⟨A1, c1, rfl⟩ := Kd.R_slice hr
  have h3 := Kd.R_reads' hr
  exact ⟨A1, c1, rfl, h.below hb, h3.2.2, h3.2.1⟩
theorem Tu.level {k : Nat} {j T a : Int} (h : Tu w D n d os b8 b9 x y l0 A1 c1 W) (hf : demand_Level.f k l0 j T = some (a, none)) :
    Calls Try.prog 14 #[.slice A1 l0.length c1, .int .i64 j, .int .i64 T] W fun e W' => e = .returned (.tuple #[.int .i64 a, .nilIface]) ∧ Tw w D n d os b8 b9 x y W' := by
  refine (demand_Level.calls k A1 c1 l0 j T a none W h.2.1 h.2.2 hf).mono ?_
  rintro e W' ⟨rfl, hb⟩
  exact ⟨rfl, h.1.below hb⟩
end
end
end Go.Proofs.YtdonlmbhamcjdaaRRR.Ser
