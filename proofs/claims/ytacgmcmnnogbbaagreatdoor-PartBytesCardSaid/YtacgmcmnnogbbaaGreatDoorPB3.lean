import Derived.Deep.RegionLawGrows
import Derived.Test.YtacgmcmnnogbbaaGreatDoorPB2
namespace Go.Proofs.YtacgmcmnnogbbaaGreatDoor.PX
open Go.RowKit Go.Proofs.YtacgmcmnnogbbaaGreatDoorW.PrintWords Go.Proofs.YtacgmcmnnogbbaaGreatDoorW.PrintLast Go.Proofs.YtacgmcmnnogbbaaGreatDoorW.PrintMore
section
variable {P : Program} {ops : Array Oper} {Q : Exit → Act → World → Prop}
theorem goesF_ {oi : Oper} {N : Option Tmp} {a : Act} {w : World} {K : Act → World → Prop} {f : FuncId} {fn : Func} {c : Operand} {as_ : Array Operand} {ts : Array TypeId} (hf : P.funcs[f]? = some fn) (hname : (fn.name == "runtime.NumGoroutine") = false) (hb : fn.body.isSome = true) (args : Array Value)
    (hw : Region.wanted oi (yielded ops a.tmps) = true) (hN : oi.dst = N) (hop : oi.op = .call { callee := .value c, args := as_, argTypes := ts }) (hc : a.eval c = .func (.func f) #[] #[]) (hargs : as_.map a.eval = args)
    (h : Calls P f args w fun e w' => ∃ v, e = .returned v ∧ K (a.put N v) w') : if Region.wanted oi (yielded ops a.tmps) = true then Oper.wp P oi a w K Q else K (a.put N undef) w := by
  refine call_ f args hw hN ?_ h
  have he := enters_ hf hname hb args w
  unfold execOp
  simp [hop, hc, resolve, Deferred.ofValue, invoke, hargs, he]
end
end Go.Proofs.YtacgmcmnnogbbaaGreatDoor.PX

