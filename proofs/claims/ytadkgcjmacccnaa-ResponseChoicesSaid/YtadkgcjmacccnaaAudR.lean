/- What titheref22.Audsley does, as plain functions. No conditions. -/
import Derived.Test.YtadkgcjmacccnaaAudM
import Derived.Test.YtadkgcjmacccnaaCx12
import Derived.Test.YtadkgcjmacccnaaCx12
import Derived.Test.YtadkgcjmacccnaaCx10
namespace Go.Proofs.Ytadkgcjmacccnaa.C
open Go.RowKit Go.Proofs.YtadkgcjmacccnaaW.PrintWords Go.Proofs.YtadkgcjmacccnaaW.PrintLast Go.Proofs.YtadkgcjmacccnaaW.PrintMore
set_option linter.unusedVariables false
/-- the places that are tried for i at a level -/
def lR (l : List S43) (x : Au) (v : Int) (i : Nat) : List Int := (List.range l.length).map fun k : Nat => if k = i then (if v = 0 then 0 else max v 1) else if x.has k = true then x.ps k else 0
def findR (k : Nat) (l : List S43) (m : List S57) (x : Au) (v : Int) : Nat → Nat → Option (Option Nat)
  | 0, _ => some none
  | d + 1, i => if x.has i = true then findR k l m x v d (i + 1) else (titheref22_With.f k l (lR l x v i)).bind fun y => (titheref22_time.f k y (i : Int) m).bind fun t => if t = 0 then findR k l m x v d (i + 1) else some (some i)
def levR (k : Nat) (l : List S43) (m : List S57) : Nat → Au → Option (Option Au)
  | 0, x => some (some x)
  | v + 1, x => (findR k l m x (v : Int) l.length 0).bind fun r => match r with
    | none => some none
    | some i => levR k l m v ⟨setP x.ps i (v : Int), setB x.has i⟩
def psL (l : List S43) (ps : Nat → Int) : List Int := (List.range l.length).map ps
def ar0 : Au := ⟨fun _ => 0, fun _ => false⟩
def titheref22_Audsley.f (k : Nat) (l0 : List S43) (l1 : List S57) : Option (List S43 × Int) :=
  (titheref22_fault.f k l0 l1).bind fun e => if e = 0 then (if l0.length ≤ 8 then
    ((levR k l0 l1 l0.length ar0).bind fun r => match r with
      | none => some ([], 220)
      | some x => (titheref22_With.f k l0 (psL l0 x.ps)).bind fun y => some (y, 0)) else none) else some ([], e)
theorem findR_mono (k : Nat) (l : List S43) (m : List S57) (x : Au) (v : Int) : ∀ d i, LeO (findR k l m x v d i) (findR (k + 1) l m x v d i)
  | 0, _ => LeO.refl _
  | d + 1, i => by
    unfold findR
    exact LeO.ite (findR_mono k l m x v d (i + 1)) (LeO.bind (titheref22_With.mono _ _ _) fun y => LeO.bind (titheref22_time.mono _ _ _ _) fun t => LeO.ite (findR_mono k l m x v d (i + 1)) (LeO.refl _))
theorem levR_mono (k : Nat) (l : List S43) (m : List S57) : ∀ v x, LeO (levR k l m v x) (levR (k + 1) l m v x)
  | 0, _ => LeO.refl _
  | v + 1, x => by
    unfold levR
    refine LeO.bind (findR_mono k l m x _ _ _) fun r => ?_
    cases r with
    | none => exact LeO.refl _
    | some i => exact levR_mono k l m v _
theorem titheref22_Audsley.mono : ∀ l0 l1 k, LeO (titheref22_Audsley.f k l0 l1) (titheref22_Audsley.f (k + 1) l0 l1) := by
  intro l0 l1 k
  unfold titheref22_Audsley.f
  refine LeO.bind (titheref22_fault.mono _ _ _) fun e => LeO.ite (LeO.ite (LeO.bind (levR_mono k l0 l1 _ _) fun r => ?_) (LeO.refl _)) (LeO.refl _)
  cases r with
  | none => exact LeO.refl _
  | some x => exact LeO.bind (titheref22_With.mono _ _ _) fun y => LeO.refl _
end Go.Proofs.Ytadkgcjmacccnaa.C
