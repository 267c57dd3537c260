-- Cut by prune.py.
import Derived.Test.YtimhlficlhafbaaGreatDoorVvlWWords
import Derived.Test.YtimhlficlhafbaaGreatDoorVvlWLast
namespace Go.Proofs.YtimhlficlhafbaaGreatDoor.QWords
open RowKit YtimhlficlhafbaaGreatDoorW.PrintWords YtimhlficlhafbaaGreatDoorW.PrintLast
section
variable {P : Program} {ops : Array Oper} {rest : List Oper} {o oi : Oper} {a : Act} {w W : World} {Q : Exit → Act → World → Prop}
theorem goesC_ {p : Tmp} {first cap : Array Value} (N : Option Tmp) (hd : oi.dst = N) (hg : oi.guard = none) {f : FuncId} {fn : Func} {as : Array Operand} {ts : Array TypeId} (hs : a.eval (.tmp p) = .func (.func f) first cap) (hf : P.funcs[f]? = some fn) (hname : (fn.name == "runtime.NumGoroutine") = false) (hb : fn.body.isSome = true) (args : Array Value)
  (hop:oi.op=.call { callee:=.value (.tmp p),args:=as,argTypes:=ts }) (hargs:first ++ as.map a.eval ++ cap=args)
  (h:Calls P f args w fun e w'=>∃ v,e=.returned v∧wpList P ops Q rest (a.put N v) w'):wpList P ops Q (oi :: rest) a w:=by
 refine wpList_plain hg fun K hK=>?_
 have he:=enters_ hf hname hb args w
 have hrun:(execOp a.eval oi).run P w=.ok (.enter f args) w:=by
  unfold execOp
  simp [hop,resolve,hs,Deferred.ofValue,invoke]
  rw [← Array.append_assoc,hargs]
  exact he
 unfold Oper.wp
 rw [hrun,Oper.upon_enter]
 refine h.mono fun e w'' hh=>?_
 obtain⟨v,rfl,hk⟩:=hh
 subst hd
 exact hK _ _ hk
end
end Go.Proofs.YtimhlficlhafbaaGreatDoor.QWords
