/- What the condition on admit.none gives a walk; a world that meets it. No conditions. -/
import Derived.Test.YtaoicceakgipgaaDoorRows
import Derived.Test.YtaoicceakgipgaaDoorTx2
import Derived.ChangeSame
import Derived.ChangeArms
import Derived.ChangeVars
import Derived.JoinedOf
import Derived.RowKit
import Derived.RowKitTokens
import Derived.LaidLaws
import Derived.LaidHandle
import Derived.Stop.Joined
import Derived.FnData
namespace Go.Proofs.YtaoicceakgipgaaDoor.T
open Go.ChangeShapes Go.WideShapes Go.RowKit
theorem et : Tryd.prog.globalNamed "tithe/admit.none" = some 0 := by kernel_rfl
theorem ety : (Tryd.prog.globals[0]?).map (·.type) = some 28 := by kernel_rfl
theorem ec3 : Tryd.prog.cellsOf 3 = 1 := by kernel_rfl
theorem ec4 : Tryd.prog.cellsOf 4 = 1 := by kernel_rfl
theorem ecC : Tryd.prog.cellsOf 28 = 4 := by kernel_rfl
/-- the one listed variable -/
def oneLaid : List (String × DataW Unit) := [("tithe/admit.none", Rows.laid_tithe_admit_none)]
theorem gg_of_laid {W : World} (h : laidMetH Tryd.prog oneLaid W) : GG W := by
  have h' : laidMet Tryd.prog oneLaid W := h
  obtain ⟨ps, ⟨g, t, cs, fuel, p, q, e1, e2, e3, e4, _⟩, _⟩ := h'
  obtain rfl := Option.some.inj (et.symm.trans e1)
  obtain rfl := Option.some.inj (ety.symm.trans e2)
  obtain ⟨xs, n, rfl, hx, hl, hxl, hall⟩ := DataW.trod_struct Tryd.underlying28 e4
  rw [ecC] at hl
  have hx1 : xs.map (·.1) = [.lit (.int .i64 0), .lit (.int .i64 0), .lit (.int .i64 0), .lit (.bool false)] := by
    have := congrArg Prod.fst hx
    simpa [Rows.laid_tithe_admit_none] using this.symm
  obtain ⟨x0, x1, x2, x3, rfl⟩ : ∃ x0 x1 x2 x3, xs = [x0, x1, x2, x3] := by
    match xs, hx1 with
    | [a, b, c, d], _ => exact ⟨a, b, c, d, rfl⟩
  simp only [List.map_cons, List.map_nil, List.cons.injEq, and_true] at hx1
  obtain ⟨y0, y1, y2, y3⟩ := hx1
  have h0 := hall 0 _ rfl
  have h1 := hall 1 _ rfl
  have h2 := hall 2 _ rfl
  have h3 := hall 3 _ rfl
  simp only [List.getElem?_cons_zero, List.getElem?_cons_succ] at h0 h1 h2 h3
  obtain ⟨z0, c0, d0, _⟩ := DataW.trod_int Tryd.underlying3 h0
  obtain ⟨z1, c1, d1, _⟩ := DataW.trod_int Tryd.underlying3 h1
  obtain ⟨z2, c2, d2, _⟩ := DataW.trod_int Tryd.underlying3 h2
  obtain ⟨z3, c3, d3⟩ := DataW.trod_bool Tryd.underlying4 h3
  have r0 : z0 = 0 := by have := congrArg Prod.fst d0; rw [y0] at this; simpa using this.symm
  have r1 : z1 = 0 := by have := congrArg Prod.fst d1; rw [y1] at this; simpa using this.symm
  have r2 : z2 = 0 := by have := congrArg Prod.fst d2; rw [y2] at this; simpa using this.symm
  have r3 : z3 = false := by have := congrArg Prod.fst d3; rw [y3] at this; simpa using this.symm
  subst r0 r1 r2 r3
  have key : ∀ i v, (cs.toList.drop i).take 1 = [v] → cs[i]? = some v := by
    intro i v hv
    have := congrArg (·[0]?) hv
    simpa [List.getElem?_take, List.getElem?_drop] using this
  exact ⟨(World.var?_cell et e3 0).trans (key 0 _ c0), (World.var?_cell et e3 1).trans (key 1 _ c1), (World.var?_cell et e3 2).trans (key 2 _ c2), (World.var?_cell et e3 3).trans (key 3 _ c3)⟩
/-- A world that meets the condition: the settled one. -/
noncomputable def laidWorld (os : Os) : World := World.holding Tryd.prog os ⟨#[], #[], []⟩
theorem laidWorld_met (os : Os) (args : Array Value) : laidMetH Tryd.prog oneLaid ((laidWorld os).forCall (fun _ _ => 0) ⟨#[], args, []⟩).memory := by
  show laidMet Tryd.prog oneLaid _
  exact laidMet_of_run' 8 (by kernel_rfl) (by kernel_rfl)
end Go.Proofs.YtaoicceakgipgaaDoor.T
