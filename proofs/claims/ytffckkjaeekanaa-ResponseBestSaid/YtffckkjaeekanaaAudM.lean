/- What response.Audsley does, as plain functions: at each level the first entry that is in time behind all that have no place. No conditions. -/
import Derived.Test.YtffckkjaeekanaaBx7
import Derived.Test.YtffckkjaeekanaaBx3
namespace Go.Proofs.Ytffckkjaeekanaa.B
open Go.RowKit Go.Proofs.YtffckkjaeekanaaW.PrintWords Go.Proofs.YtffckkjaeekanaaW.PrintLast Go.Proofs.YtffckkjaeekanaaW.PrintMore
set_option linter.unusedVariables false
/-- the places given so far, and who has one -/
structure Au where
  ps : Nat → Int
  has : Nat → Bool
def setP (f : Nat → Int) (i : Nat) (v : Int) : Nat → Int := fun k => if k = i then v else f k
def setB (f : Nat → Bool) (i : Nat) : Nat → Bool := fun k => if k = i then true else f k
/-- an entry with another place -/
def prio (x : S39) (p : Int) : S39 := ⟨x.f0, x.f1, x.f2, p⟩
/-- those of the first n that have no place, and i: i alone at 1 -/
def tryN (l : List S39) (has : Nat → Bool) (i : Nat) : Nat → List S39
  | 0 => []
  | n + 1 => if n = i then tryN l has i n ++ [prio (rd_T39 l (n : Int)) 1] else if has n = false then tryN l has i n ++ [prio (rd_T39 l (n : Int)) 0] else tryN l has i n
/-- where i lies among them, once n have been seen -/
def atN (l : List S39) (has : Nat → Bool) (i : Nat) : Nat → Nat
  | 0 => 0
  | n + 1 => if n = i then (tryN l has i n).length else atN l has i n
/-- the first of the last d entries that is in time -/
def findA (k : Nat) (l : List S39) (m : List S48) (has : Nat → Bool) : Nat → Nat → Option (Option Nat)
  | 0, _ => some none
  | d + 1, i => if has i = true then findA k l m has d (i + 1) else (response_time.f k (tryN l has i l.length) ((atN l has i l.length : Nat) : Int) m).bind fun v => if v.2 = true then some (some i) else findA k l m has d (i + 1)
/-- the levels below -/
def levA (k : Nat) (l : List S39) (m : List S48) : Nat → Au → Option (Option Au)
  | 0, x => some (some x)
  | v + 1, x => (findA k l m x.has l.length 0).bind fun r => match r with
    | none => some none
    | some i => levA k l m v ⟨setP x.ps i (v : Int), setB x.has i⟩
def outA (l : List S39) (ps : Nat → Int) : List S39 := (List.range l.length).map fun i : Nat => prio (rd_T39 l (i : Int)) (ps i)
def au0 (l : List S39) : Au := ⟨fun i => (rd_T39 l (i : Int)).f3, fun _ => false⟩
def response_Audsley.f (k : Nat) (l0 : List S39) (l1 : List S48) : Option (List S39 × Option Int) :=
  (response_check.f k l0 l1).bind fun e => if e.isSome = true then some ([], e) else if l0.length ≤ 8 then
    ((levA k l0 l1 l0.length (au0 l0)).bind fun r => match r with
      | none => some ([], some 220)
      | some x => some (outA l0 x.ps, none)) else none
theorem findA_mono (k : Nat) (l : List S39) (m : List S48) (has : Nat → Bool) : ∀ d i, LeO (findA k l m has d i) (findA (k + 1) l m has d i)
  | 0, _ => LeO.refl _
  | d + 1, i => by
    unfold findA
    exact LeO.ite (findA_mono k l m has d (i + 1)) (LeO.bind (response_time.mono _ _ _ _) fun v => LeO.ite (LeO.refl _) (findA_mono k l m has d (i + 1)))
theorem levA_mono (k : Nat) (l : List S39) (m : List S48) : ∀ v x, LeO (levA k l m v x) (levA (k + 1) l m v x)
  | 0, _ => LeO.refl _
  | v + 1, x => by
    unfold levA
    refine LeO.bind (findA_mono k l m x.has _ _) fun r => ?_
    cases r with
    | none => exact LeO.refl _
    | some i => exact levA_mono k l m v _
theorem response_Audsley.mono : ∀ l0 l1 k, LeO (response_Audsley.f k l0 l1) (response_Audsley.f (k + 1) l0 l1) := by
  intro l0 l1 k
  unfold response_Audsley.f
  exact LeO.bind (response_check.mono _ _ _) fun e => LeO.ite (LeO.refl _) (LeO.ite (LeO.bind (levA_mono k l0 l1 _ _) fun r => LeO.refl _) (LeO.refl _))
end Go.Proofs.Ytffckkjaeekanaa.B
