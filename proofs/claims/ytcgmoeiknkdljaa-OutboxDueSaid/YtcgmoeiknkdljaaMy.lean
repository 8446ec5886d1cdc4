/- Laws of this session's own beside the printed words: a make with no element and a capacity. -/
import Derived.Test.YtcgmoeiknkdljaaWMore
import Derived.Test.YtcgmoeiknkdljaaWFootNe
import Derived.Laws.MakeOwn
namespace Go.Proofs.Ytcgmoeiknkdljaa.My
open Go.RowKit Go.Proofs.YtcgmoeiknkdljaaW.PrintWords Go.Proofs.YtcgmoeiknkdljaaW.PrintLast
set_option linter.unusedVariables false
section
variable {P : Program} {ops : Array Oper} {rest : List Oper} {o : Oper} {a : Act} {Q : Exit → Act → World → Prop} {α : Type}
/-- A call of a function value that was made here: what it captured goes behind its own arguments. -/
theorem goesV_ (N : Option Tmp) (hd : o.dst = N) (hg : o.guard = none) {f : FuncId} {fn : Func} {as : Array Operand} {ts : Array TypeId} {p : Operand} {first cap : Array Value} (hf : P.funcs[f]? = some fn) (hname : (fn.name == "runtime.NumGoroutine") = false) (hb : fn.body.isSome = true) (args : Array Value)
    (hop : o.op = .call { callee := .value p, args := as, argTypes := ts }) (hv : a.eval p = .func (.func f) first cap) (hargs : first ++ as.map a.eval ++ cap = args) {w : World}
    (h : Calls P f args w fun e w' => ∃ v, e = .returned v ∧ wpList P ops Q rest (a.put N v) w') : wpList P ops Q (o :: rest) a w := by
  refine wpList_plain hg fun K hK => ?_
  have he := enters_ hf hname hb args w
  have hrun : (execOp a.eval o).run P w = .ok (.enter f args) w := by
    unfold execOp
    simp [hop, resolve, Deferred.ofValue, invoke, hv, hargs, he]
  unfold Oper.wp
  rw [hrun, Oper.upon_enter]
  refine h.mono fun e w'' hh => ?_
  obtain ⟨v, rfl, hv⟩ := hh
  rw [← hd] at hv
  exact hK _ _ hv
end
section
variable {P : Program} {ops : Array Oper} {Q : Exit → Act → World → Prop}
end
end Go.Proofs.Ytcgmoeiknkdljaa.My
