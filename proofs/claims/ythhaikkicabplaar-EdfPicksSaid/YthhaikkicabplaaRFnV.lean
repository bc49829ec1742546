/- A call of a function value that is known, as a step of a walk. No conditions. -/
import Derived.Test.YthhaikkicabplaaRWLast
import Derived.Test.YthhaikkicabplaaRWMore
namespace Go.Proofs.YthhaikkicabplaaRW.PrintLast
open Go.RowKit Go.Proofs.YthhaikkicabplaaRW.PrintWords
variable {P : Program} {ops : Array Oper} {Q : Exit → Act → World → Prop}
theorem goesV_ {oi : Oper} {N : Option Tmp} {a : Act} {w : World} {K : Act → World → Prop} {f : FuncId} {fn : Func} {kt : Nat} {as : Array Operand} {ts : Array TypeId} (hf : P.funcs[f]? = some fn) (hname : (fn.name == "runtime.NumGoroutine") = false) (hb : fn.body.isSome = true) (args : Array Value)
    (hw : Region.wanted oi (yielded ops a.tmps) = true) (hN : oi.dst = N) (hop : oi.op = .call { callee := .value (.tmp kt), args := as, argTypes := ts }) (hv : a.eval (.tmp kt) = .func (.func f) #[] #[]) (hargs : as.map a.eval = args)
    (h : Calls P f args w fun e w' => ∃ v, e = .returned v ∧ K (a.put N v) w') : if Region.wanted oi (yielded ops a.tmps) = true then Oper.wp P oi a w K Q else K (a.put N undef) w := by
  refine call_ f args hw hN ?_ h
  have he := enters_ hf hname hb args w
  unfold execOp
  simp [hop, resolve, hv, Deferred.ofValue, invoke, hargs, he]
theorem goesLV_ {rest : List Oper} {oi : Oper} {a : Act} {w : World} (N : Option Tmp) (hd : oi.dst = N) (hg : oi.guard = none) {f : FuncId} {fn : Func} {kt : Nat} {as : Array Operand} {ts : Array TypeId} (hf : P.funcs[f]? = some fn) (hname : (fn.name == "runtime.NumGoroutine") = false) (hb : fn.body.isSome = true) (args : Array Value)
    (hop : oi.op = .call { callee := .value (.tmp kt), args := as, argTypes := ts }) (hv : a.eval (.tmp kt) = .func (.func f) #[] #[]) (hargs : as.map a.eval = args)
    (h : Calls P f args w fun e w' => ∃ v, e = .returned v ∧ wpList P ops Q rest (a.put N v) w') : wpList P ops Q (oi :: rest) a w := by
  refine wpList_plain hg fun K hK => ?_
  have he := enters_ hf hname hb args w
  have hrun : (execOp a.eval oi).run P w = .ok (.enter f args) w := by
    unfold execOp
    simp [hop, resolve, hv, Deferred.ofValue, invoke, hargs, he]
  unfold Oper.wp
  rw [hrun, Oper.upon_enter]
  refine h.mono fun e w'' hh => ?_
  obtain ⟨v, rfl, hk⟩ := hh
  subst hd
  exact hK _ _ hk
theorem gate_calleeV {o : Oper} {rest : List Oper} {a : Act} {W : World} {f : FuncId} {kt : Nat} {as : Array Operand} {ts : Array TypeId} (_ho : o.op = .call { callee := .value (.tmp kt), args := as, argTypes := ts }) (_hv : a.eval (.tmp kt) = .func (.func f) #[] #[]) (h : wpList P ops Q (o :: rest) a W) : wpList P ops Q (o :: rest) a W := h
end Go.Proofs.YthhaikkicabplaaRW.PrintLast
namespace Go.Proofs.YthhaikkicabplaaRW.PrintLast
/-- what a cell holds behind a store somewhere -/
theorem cell_set_if {w : World} {p : Addr} {v : Value} (h : w.cell? p = some v) (q : Addr) (x : Value) : (w.setCell q x).cell? p = some (if q = p then x else v) := by
  by_cases e : q = p
  · subst e; rw [if_pos rfl]; exact World.cell?_setCell_same _ _ _ h
  · rw [if_neg e]; exact (World.cell?_setCell_other _ _ _ _ (fun e' => e e')).trans h
end Go.Proofs.YthhaikkicabplaaRW.PrintLast
