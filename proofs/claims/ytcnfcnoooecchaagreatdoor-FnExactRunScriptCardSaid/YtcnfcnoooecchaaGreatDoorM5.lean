import Derived.Test.YtcnfcnoooecchaaGreatDoorM4
import Derived.WalkKit
import Derived.ProofKit
import Derived.OpenShut
import Derived.ShutString
import Derived.ChangeOld
import Derived.Below
import Derived.SizedLaws
import Derived.ChangeShapes
import Derived.WideShapes
import Derived.Carry
set_option linter.unusedVariables false
set_option linter.unusedSimpArgs false
namespace Go.Mx
theorem xi{P:Program}{f:FuncId}{fn:Func}(hf:P.funcs[f]?=some fn)(hb:fn.body.isSome=true)(hn:(fn.name== "runtime.NumGoroutine")=false){args:Array Value}{K:Value->Heap->Prop}{W:World}(H:aE P f args W.heap K):
 Calls P f args W fun e w'=>∃v,e= .returned v/\cN W w'/\K v w'.heap:=by
 have hr:(callFunc f args).run P W= .ok (.enter f args) W:=by
  show Sem.run P (Sem.bind program _) W=_
  rw[Sem.run_bind']
  have hn':¬fn.name= "runtime.NumGoroutine" :=by simpa using hn
  obtain⟨c,hc⟩:=Option.isSome_iff_exists.1 hb
  simp[program,Sem.run,hf,hn',hc,pure]
 rcases H.out W rfl with⟨v,w',h1,_⟩|⟨f',Ak,w',h1,h2,h3⟩
 ·rw[hr]at h1;cases h1
 ·rw[hr]at h1
  cases h1
  exact h3
open Go.RowKit in
theorem MG{W w':World}(hs:cN W w')(hf:Fr No W.heap w'.heap):Below W.heap.size W w':=⟨hs.os,hs.tape,hs.output,hf.size,fun k hk=>hf.same k hk fun h=>h⟩
section
open Go.ChangeShapes Go.WideShapes
variable {H:Type} {enc:TypeId×Value->H} {P:Program} {W:World} {base:Nat} {spare:Nat->Bool} {held:Bool}
end
end Go.Mx
