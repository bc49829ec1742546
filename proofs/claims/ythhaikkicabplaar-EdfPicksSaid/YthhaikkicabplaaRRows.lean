/-
  No cell of these rows narrows 'for every input' (looked for: loops, veiled, ifaces, maps, wideKeys, modest, calm, conditions, laid).
  DERIVED. THE GIVEN ROWS OF THIS SEAT. 9 by the template 'for every input the law returns true; each argument reads behind the call as it read before'; 0 by the template 'total and deterministic' (their statements: YthhaikkicabplaaRTotals.lean).
  GIVEN WITH THE SEED: the statements are not yours to turn. If you find one false, say at which input.
  Laid BY PROGRAM, IN A SANDBOX (cutbox-rows.mjs): the forced cells as the released guide's own fill.sh prints them over the translation 6f3f35edfcdb2481… (all of the seat's roots in one cut). By AI agents, Wed Nov 11 2026. No macro, syntax, notation, axiom, sorry.
-/
import Derived.Test.YthhaikkicabplaaRChecked
import GoSem.Claim
import GoSem.ClaimJoined
import GoSem.ClaimMapViews
import Derived.JoinedTies
import Derived.KernelRfl
namespace Go.Proofs.YthhaikkicabplaaR
/- THE CELL 'sum', in the pinned program and in every row, IS THE sha256 OF THE DUMP (.gsa) THAT YthhaikkicabplaaRProg.lean LOADS. Nothing in Lean hashes anything: it is a label: what it is worth is what the hold of that sum in a sandbox is worth. -/
noncomputable def Try.pinned : Pinned := { name := "ythhaikkicabplaar", sum := "6f3f35edfcdb24815b7492435df1f321c7a157fca0bf3245886f1bc0e2c74da7", checked := Try.checked }
namespace Rows
def none {H : Type} : Left H := { results := [], args := [] }

/-- 'tithelaw10.EdfPlans': WHATEVER THE INPUT: true; the input reads as it did. -/
def edfPlansSpec : ChangeSpec := { name := "edfPlans", fn := fun _ => fun
  | [d1, d2] => { results := [.lit (.bool true)], args := [d1, d2] }
  | _ => none }
def edfPlansRow : OpenClaim := { program := "ythhaikkicabplaar", sum := "6f3f35edfcdb24815b7492435df1f321c7a157fca0bf3245886f1bc0e2c74da7", func := "tithe/tithelaw10.EdfPlans", spec := "edfPlans", apart := false }
def EdfPlansSaid : Prop := edfPlansRow.holds Try.pinned (OpenSpec.ofChange edfPlansSpec)

/-- ITS FALSE NEIGHBOUR: 'it returns false'. Refute it at one input. -/
def edfPlansWrong : ChangeSpec := { name := "edfPlans", fn := fun _ => fun
  | [d1, d2] => { results := [.lit (.bool false)], args := [d1, d2] }
  | _ => none }
def EdfPlansWrongFalsely : Prop := edfPlansRow.holds Try.pinned (OpenSpec.ofChange edfPlansWrong)

/-- 'tithelaw10.EdfMisses': WHATEVER THE INPUT: true; the input reads as it did. -/
def edfMissesSpec : ChangeSpec := { name := "edfMisses", fn := fun _ => fun
  | [d1, d2] => { results := [.lit (.bool true)], args := [d1, d2] }
  | _ => none }
def edfMissesRow : OpenClaim := { program := "ythhaikkicabplaar", sum := "6f3f35edfcdb24815b7492435df1f321c7a157fca0bf3245886f1bc0e2c74da7", func := "tithe/tithelaw10.EdfMisses", spec := "edfMisses", apart := false }
def EdfMissesSaid : Prop := edfMissesRow.holds Try.pinned (OpenSpec.ofChange edfMissesSpec)

/-- ITS FALSE NEIGHBOUR: 'it returns false'. Refute it at one input. -/
def edfMissesWrong : ChangeSpec := { name := "edfMisses", fn := fun _ => fun
  | [d1, d2] => { results := [.lit (.bool false)], args := [d1, d2] }
  | _ => none }
def EdfMissesWrongFalsely : Prop := edfMissesRow.holds Try.pinned (OpenSpec.ofChange edfMissesWrong)

/-- 'tithelaw10.EdfBest': WHATEVER THE INPUT: true; the input reads as it did. -/
def edfBestSpec : ChangeSpec := { name := "edfBest", fn := fun _ => fun
  | [d1, d2] => { results := [.lit (.bool true)], args := [d1, d2] }
  | _ => none }
def edfBestRow : OpenClaim := { program := "ythhaikkicabplaar", sum := "6f3f35edfcdb24815b7492435df1f321c7a157fca0bf3245886f1bc0e2c74da7", func := "tithe/tithelaw10.EdfBest", spec := "edfBest", apart := false }
def EdfBestSaid : Prop := edfBestRow.holds Try.pinned (OpenSpec.ofChange edfBestSpec)

/-- ITS FALSE NEIGHBOUR: 'it returns false'. Refute it at one input. -/
def edfBestWrong : ChangeSpec := { name := "edfBest", fn := fun _ => fun
  | [d1, d2] => { results := [.lit (.bool false)], args := [d1, d2] }
  | _ => none }
def EdfBestWrongFalsely : Prop := edfBestRow.holds Try.pinned (OpenSpec.ofChange edfBestWrong)

/-- 'tithelaw10.EdfIdle': WHATEVER THE INPUT: true; the input reads as it did. -/
def edfIdleSpec : ChangeSpec := { name := "edfIdle", fn := fun _ => fun
  | [d1, d2] => { results := [.lit (.bool true)], args := [d1, d2] }
  | _ => none }
def edfIdleRow : OpenClaim := { program := "ythhaikkicabplaar", sum := "6f3f35edfcdb24815b7492435df1f321c7a157fca0bf3245886f1bc0e2c74da7", func := "tithe/tithelaw10.EdfIdle", spec := "edfIdle", apart := false }
def EdfIdleSaid : Prop := edfIdleRow.holds Try.pinned (OpenSpec.ofChange edfIdleSpec)

/-- ITS FALSE NEIGHBOUR: 'it returns false'. Refute it at one input. -/
def edfIdleWrong : ChangeSpec := { name := "edfIdle", fn := fun _ => fun
  | [d1, d2] => { results := [.lit (.bool false)], args := [d1, d2] }
  | _ => none }
def EdfIdleWrongFalsely : Prop := edfIdleRow.holds Try.pinned (OpenSpec.ofChange edfIdleWrong)

/-- 'tithelaw10.EdfDemands': WHATEVER THE INPUT: true; the input reads as it did. -/
def edfDemandsSpec : ChangeSpec := { name := "edfDemands", fn := fun _ => fun
  | [d1, d2, d3] => { results := [.lit (.bool true)], args := [d1, d2, d3] }
  | _ => none }
def edfDemandsRow : OpenClaim := { program := "ythhaikkicabplaar", sum := "6f3f35edfcdb24815b7492435df1f321c7a157fca0bf3245886f1bc0e2c74da7", func := "tithe/tithelaw10.EdfDemands", spec := "edfDemands", apart := false }
def EdfDemandsSaid : Prop := edfDemandsRow.holds Try.pinned (OpenSpec.ofChange edfDemandsSpec)

/-- ITS FALSE NEIGHBOUR: 'it returns false'. Refute it at one input. -/
def edfDemandsWrong : ChangeSpec := { name := "edfDemands", fn := fun _ => fun
  | [d1, d2, d3] => { results := [.lit (.bool false)], args := [d1, d2, d3] }
  | _ => none }
def EdfDemandsWrongFalsely : Prop := edfDemandsRow.holds Try.pinned (OpenSpec.ofChange edfDemandsWrong)

/-- 'tithelaw10.EdfStretch': WHATEVER THE INPUT: true; the input reads as it did. -/
def edfStretchSpec : ChangeSpec := { name := "edfStretch", fn := fun _ => fun
  | [d1, d2] => { results := [.lit (.bool true)], args := [d1, d2] }
  | _ => none }
def edfStretchRow : OpenClaim := { program := "ythhaikkicabplaar", sum := "6f3f35edfcdb24815b7492435df1f321c7a157fca0bf3245886f1bc0e2c74da7", func := "tithe/tithelaw10.EdfStretch", spec := "edfStretch", apart := false }
def EdfStretchSaid : Prop := edfStretchRow.holds Try.pinned (OpenSpec.ofChange edfStretchSpec)

/-- ITS FALSE NEIGHBOUR: 'it returns false'. Refute it at one input. -/
def edfStretchWrong : ChangeSpec := { name := "edfStretch", fn := fun _ => fun
  | [d1, d2] => { results := [.lit (.bool false)], args := [d1, d2] }
  | _ => none }
def EdfStretchWrongFalsely : Prop := edfStretchRow.holds Try.pinned (OpenSpec.ofChange edfStretchWrong)

/-- 'tithelaw10.EdfLiuLayland': WHATEVER THE INPUT: true; the input reads as it did. -/
def edfLiuLaylandSpec : ChangeSpec := { name := "edfLiuLayland", fn := fun _ => fun
  | [d1, d2] => { results := [.lit (.bool true)], args := [d1, d2] }
  | _ => none }
def edfLiuLaylandRow : OpenClaim := { program := "ythhaikkicabplaar", sum := "6f3f35edfcdb24815b7492435df1f321c7a157fca0bf3245886f1bc0e2c74da7", func := "tithe/tithelaw10.EdfLiuLayland", spec := "edfLiuLayland", apart := false }
def EdfLiuLaylandSaid : Prop := edfLiuLaylandRow.holds Try.pinned (OpenSpec.ofChange edfLiuLaylandSpec)

/-- ITS FALSE NEIGHBOUR: 'it returns false'. Refute it at one input. -/
def edfLiuLaylandWrong : ChangeSpec := { name := "edfLiuLayland", fn := fun _ => fun
  | [d1, d2] => { results := [.lit (.bool false)], args := [d1, d2] }
  | _ => none }
def EdfLiuLaylandWrongFalsely : Prop := edfLiuLaylandRow.holds Try.pinned (OpenSpec.ofChange edfLiuLaylandWrong)

/-- 'tithelaw10.EdfPicks': WHATEVER THE INPUT: true; the input reads as it did. -/
def edfPicksSpec : ChangeSpec := { name := "edfPicks", fn := fun _ => fun
  | [d] => { results := [.lit (.bool true)], args := [d] }
  | _ => none }
def edfPicksRow : OpenClaim := { program := "ythhaikkicabplaar", sum := "6f3f35edfcdb24815b7492435df1f321c7a157fca0bf3245886f1bc0e2c74da7", func := "tithe/tithelaw10.EdfPicks", spec := "edfPicks", unfollowed := true, recurses := true, apart := false }
def EdfPicksSaid : Prop := edfPicksRow.holds Try.pinned (OpenSpec.ofChange edfPicksSpec)

/-- ITS FALSE NEIGHBOUR: 'it returns false'. Refute it at one input. -/
def edfPicksWrong : ChangeSpec := { name := "edfPicks", fn := fun _ => fun
  | [d] => { results := [.lit (.bool false)], args := [d] }
  | _ => none }
def EdfPicksWrongFalsely : Prop := edfPicksRow.holds Try.pinned (OpenSpec.ofChange edfPicksWrong)

/-- 'tithelaw10.EdfOrder': WHATEVER THE INPUT: true; the input reads as it did. -/
def edfOrderSpec : ChangeSpec := { name := "edfOrder", fn := fun _ => fun
  | [d] => { results := [.lit (.bool true)], args := [d] }
  | _ => none }
def edfOrderRow : OpenClaim := { program := "ythhaikkicabplaar", sum := "6f3f35edfcdb24815b7492435df1f321c7a157fca0bf3245886f1bc0e2c74da7", func := "tithe/tithelaw10.EdfOrder", spec := "edfOrder", unfollowed := true, recurses := true, apart := false }
def EdfOrderSaid : Prop := edfOrderRow.holds Try.pinned (OpenSpec.ofChange edfOrderSpec)

/-- ITS FALSE NEIGHBOUR: 'it returns false'. Refute it at one input. -/
def edfOrderWrong : ChangeSpec := { name := "edfOrder", fn := fun _ => fun
  | [d] => { results := [.lit (.bool false)], args := [d] }
  | _ => none }
def EdfOrderWrongFalsely : Prop := edfOrderRow.holds Try.pinned (OpenSpec.ofChange edfOrderWrong)

/- THE SECOND FORM. 'bulk': how many values and letters a reading holds, each counted each time it is reached (what is shared counts as often as it is met; a slice's spare places count too). A statement '..UptoSaid' is the law's where the arguments, and the package variables that the reading takes, are together of bulk at most 1048576: NARROWER than '..Said'. Prove '..Said' where nothing that the law and all that it calls make is longer than what came in: it says more and counts as full. Else prove '..UptoSaid'. A law counts once. -/
mutual
def uptoBulk {H : Type} : DataW H → Nat
  | .lit (.string bytes) => bytes.length + 1
  | .lit _ => 1
  | .nil => 1
  | .ptr d => uptoBulk d + 1
  | .slice elems spare => uptoBulkAll elems + uptoBulkAll spare + 1
  | .agg parts => uptoBulkAll parts + 1
  | .iface _ d => uptoBulk d + 1
  | .map entries => uptoBulkEntries entries + 1
  | .held _ => 1
def uptoBulkAll {H : Type} : List (DataW H) → Nat
  | [] => 0
  | d :: r => uptoBulk d + uptoBulkAll r
def uptoBulkEntries {H : Type} : List (Lit × DataW H) → Nat
  | [] => 0
  | x :: r => uptoBulkEntry x + uptoBulkEntries r
def uptoBulkEntry {H : Type} : Lit × DataW H → Nat
  | (.string bytes, d) => bytes.length + uptoBulk d + 1
  | (_, d) => uptoBulk d + 1
 end
def uptoSmall : (H : Type) → List (DataW H) → Bool := fun _ ds => decide (uptoBulkAll ds ≤ 1048576)
def OpenSpec.upto (s : _root_.Go.ChangeSpec) : _root_.Go.OpenSpec := { _root_.Go.OpenSpec.ofChange s with cond := some uptoSmall }

/-- 'tithelaw10.EdfPlans', WHERE WHAT IT READS IS OF BULK AT MOST 1048576: true; the input reads as it did. -/
def edfPlansUptoRow : OpenClaim := { program := "ythhaikkicabplaar", sum := "6f3f35edfcdb24815b7492435df1f321c7a157fca0bf3245886f1bc0e2c74da7", func := "tithe/tithelaw10.EdfPlans", spec := "edfPlans", apart := false, narrowed := true }
def EdfPlansUptoSaid : Prop := edfPlansUptoRow.holds Try.pinned (OpenSpec.upto edfPlansSpec)

/-- 'tithelaw10.EdfMisses', WHERE WHAT IT READS IS OF BULK AT MOST 1048576: true; the input reads as it did. -/
def edfMissesUptoRow : OpenClaim := { program := "ythhaikkicabplaar", sum := "6f3f35edfcdb24815b7492435df1f321c7a157fca0bf3245886f1bc0e2c74da7", func := "tithe/tithelaw10.EdfMisses", spec := "edfMisses", apart := false, narrowed := true }
def EdfMissesUptoSaid : Prop := edfMissesUptoRow.holds Try.pinned (OpenSpec.upto edfMissesSpec)

/-- 'tithelaw10.EdfBest', WHERE WHAT IT READS IS OF BULK AT MOST 1048576: true; the input reads as it did. -/
def edfBestUptoRow : OpenClaim := { program := "ythhaikkicabplaar", sum := "6f3f35edfcdb24815b7492435df1f321c7a157fca0bf3245886f1bc0e2c74da7", func := "tithe/tithelaw10.EdfBest", spec := "edfBest", apart := false, narrowed := true }
def EdfBestUptoSaid : Prop := edfBestUptoRow.holds Try.pinned (OpenSpec.upto edfBestSpec)

/-- 'tithelaw10.EdfIdle', WHERE WHAT IT READS IS OF BULK AT MOST 1048576: true; the input reads as it did. -/
def edfIdleUptoRow : OpenClaim := { program := "ythhaikkicabplaar", sum := "6f3f35edfcdb24815b7492435df1f321c7a157fca0bf3245886f1bc0e2c74da7", func := "tithe/tithelaw10.EdfIdle", spec := "edfIdle", apart := false, narrowed := true }
def EdfIdleUptoSaid : Prop := edfIdleUptoRow.holds Try.pinned (OpenSpec.upto edfIdleSpec)

/-- 'tithelaw10.EdfDemands', WHERE WHAT IT READS IS OF BULK AT MOST 1048576: true; the input reads as it did. -/
def edfDemandsUptoRow : OpenClaim := { program := "ythhaikkicabplaar", sum := "6f3f35edfcdb24815b7492435df1f321c7a157fca0bf3245886f1bc0e2c74da7", func := "tithe/tithelaw10.EdfDemands", spec := "edfDemands", apart := false, narrowed := true }
def EdfDemandsUptoSaid : Prop := edfDemandsUptoRow.holds Try.pinned (OpenSpec.upto edfDemandsSpec)

/-- 'tithelaw10.EdfStretch', WHERE WHAT IT READS IS OF BULK AT MOST 1048576: true; the input reads as it did. -/
def edfStretchUptoRow : OpenClaim := { program := "ythhaikkicabplaar", sum := "6f3f35edfcdb24815b7492435df1f321c7a157fca0bf3245886f1bc0e2c74da7", func := "tithe/tithelaw10.EdfStretch", spec := "edfStretch", apart := false, narrowed := true }
def EdfStretchUptoSaid : Prop := edfStretchUptoRow.holds Try.pinned (OpenSpec.upto edfStretchSpec)

/-- 'tithelaw10.EdfLiuLayland', WHERE WHAT IT READS IS OF BULK AT MOST 1048576: true; the input reads as it did. -/
def edfLiuLaylandUptoRow : OpenClaim := { program := "ythhaikkicabplaar", sum := "6f3f35edfcdb24815b7492435df1f321c7a157fca0bf3245886f1bc0e2c74da7", func := "tithe/tithelaw10.EdfLiuLayland", spec := "edfLiuLayland", apart := false, narrowed := true }
def EdfLiuLaylandUptoSaid : Prop := edfLiuLaylandUptoRow.holds Try.pinned (OpenSpec.upto edfLiuLaylandSpec)

/-- 'tithelaw10.EdfPicks', WHERE WHAT IT READS IS OF BULK AT MOST 1048576: true; the input reads as it did. -/
def edfPicksUptoRow : OpenClaim := { program := "ythhaikkicabplaar", sum := "6f3f35edfcdb24815b7492435df1f321c7a157fca0bf3245886f1bc0e2c74da7", func := "tithe/tithelaw10.EdfPicks", spec := "edfPicks", unfollowed := true, recurses := true, apart := false, narrowed := true }
def EdfPicksUptoSaid : Prop := edfPicksUptoRow.holds Try.pinned (OpenSpec.upto edfPicksSpec)

/-- 'tithelaw10.EdfOrder', WHERE WHAT IT READS IS OF BULK AT MOST 1048576: true; the input reads as it did. -/
def edfOrderUptoRow : OpenClaim := { program := "ythhaikkicabplaar", sum := "6f3f35edfcdb24815b7492435df1f321c7a157fca0bf3245886f1bc0e2c74da7", func := "tithe/tithelaw10.EdfOrder", spec := "edfOrder", unfollowed := true, recurses := true, apart := false, narrowed := true }
def EdfOrderUptoSaid : Prop := edfOrderUptoRow.holds Try.pinned (OpenSpec.upto edfOrderSpec)

end Rows
end Go.Proofs.YthhaikkicabplaaR
