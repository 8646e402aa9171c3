/-
  What a call owes whose value is known.
-/
import Derived.Test.YtjlhbaohippidaaOpsL
namespace Go.RegionEYtjlhbaohippidaa
open Go.RowKit Go.RegionInvYtjlhbaohippidaa Go.Proofs.YtjlhbaohippidaaW.PrintWords
section
variable {P : Program} {ops : Array Oper} {Q : Exit → Act → World → Prop} {R : Nat → Prop} {a : Act} {w : World} {o : Oper}
theorem obE_callV {f : FuncId} {fn : Func} {xs : Array Operand} {ts : Array TypeId} {v : Value} (args : Array Value) (hf : P.funcs[f]? = some fn) (hname : (fn.name == "runtime.NumGoroutine") = false) (hb : fn.body.isSome = true)
    (ho : o.op = .call { callee := .value (.func f), args := xs, argTypes := ts }) (hargs : xs.toList.map a.eval = args.toList) (hw : Region.wanted o (yielded ops a.tmps) = true)
    (hc : Calls P f args w fun e w' => e = .returned v ∧ Below w.heap.size w w') : OwesE P ops Q R (fun u _ _ => u = v) o a w := by
  refine obE_call args hf hname hb ho hargs hw (hc.mono ?_)
  rintro e w' ⟨rfl, hB⟩
  exact ⟨_, fun _ => False, rfl, rfl, Chg.of_below hB, fun k h => h.elim⟩
end
end Go.RegionEYtjlhbaohippidaa
