import Derived.Test.YtcnfcnoooecchaaGreatDoorM4
import Derived.WalkKit
import Derived.ProofKit
import Derived.OpenShut
import Derived.ShutString
import Derived.ChangeOld
import Derived.Below
import Derived.SizedLaws
import Derived.ChangeShapes
import Derived.WideShapes
import Derived.Carry
set_option linter.unusedVariables false
set_option linter.unusedSimpArgs false
namespace Go.Mx
theorem xm{P:Program}{f:FuncId}{fn:Func}(hf:P.funcs[f]?=some fn)(hb:fn.body.isSome=true)(hn:(fn.name== "runtime.NumGoroutine")=false){args:Array Value}{K:Value->Heap->Prop}{W:World}(H:aE P f args W.heap K):
 Calls P f args W fun e w'=>∃v,e= .returned v/\cO W w'/\K v w'.heap:=by
 have hr:(callFunc f args).run P W= .ok (.enter f args) W:=by
  show Sem.run P (Sem.bind program _) W=_
  rw[Sem.run_bind']
  have hn':¬fn.name= "runtime.NumGoroutine" :=by simpa using hn
  obtain⟨c,hc⟩:=Option.isSome_iff_exists.1 hb
  simp[program,Sem.run,hf,hn',hc,pure]
 rcases H.out W rfl with⟨v,w',h1,_⟩|⟨f',Ar,w',h1,h2,h3⟩
 ·rw[hr]at h1;cases h1
 ·rw[hr]at h1
  cases h1
  exact h3
open Go.RowKit in
theorem Nn{W w':World}(hs:cO W w')(hf:Fr No W.heap w'.heap):Below W.heap.size W w':=⟨hs.os,hs.tape,hs.output,hf.size,fun k hk=>hf.same k hk fun h=>h⟩
section
open Go.ChangeShapes Go.WideShapes
variable {H:Type} {enc:TypeId×Value->H} {P:Program} {W:World} {base:Nat} {spare:Nat->Bool} {held:Bool}
def Low(h:Heap):Nat->Prop:=fun k=>k<h.size
theorem EH{w:World}{a:Addr}{v:Value}(h:w.cell? a=some v):a.block<w.heap.size:=mh h
theorem AN{t e:TypeId}{oI:Nat}{cs:List Value}{x:DataW H×List MemPlace}(ht:P.underlying t=some (.slice e))(he:P.underlying e=some (.int .i64))(hc:P.cellsOf e=1)(h:DataW.trod enc P W base spare held oI t cs=some x):
 ∃(s:Sl)(xs:List Int),cs=[s.v]/\aP (Low W.heap) W.heap s xs/\∀n∈xs,(Lit.int .i64 n).wf=true:=by
 rcases open_ints ht he hc h with⟨rfl,_⟩|⟨a,len,cap,zs,rfl,_,hl,hm,hz,_,aQ,hw⟩
 ·exact⟨aC,[],rfl,cY.nil _ _ _,by simp⟩
 ·have Rv:len<=zs.length:=by rw[hz];split<;>omega
  refine⟨⟨some a,len,cap⟩,zs.take len,rfl,⟨by simp;omega,Nat.le_trans hl hm,hl,fun j hj=> ?_⟩,fun n hn=>hw n (List.mem_of_mem_take hn)⟩
  simp at hj
  have:=aQ j (by omega)
  refine⟨a,rfl,?_,?_⟩
  ·have:=EH this
   rwa [ky]at this
  ·rw[<-rT,this]
   simp[List.getD,List.getElem?_eq_getElem (show j<zs.length by omega)]
theorem Lp{t e i:TypeId}{oI:Nat}{cs:List Value}{x:DataW H×List MemPlace}(ht:P.underlying t=some (.slice e))(he:P.underlying e=some (.slice i))(hi:P.underlying i=some (.int .i64))(hce:P.cellsOf e=1)(hci:P.cellsOf i=1)(h:DataW.trod enc P W base spare held oI t cs=some x):
 ∃(s:Sl)(aD:List (List Int)),cs=[s.v]/\bF (Low W.heap) W.heap s aD:=by
 rcases DataW.trod_slice ht h with⟨rfl,_⟩|⟨a,len,cap,elems,rest,n,_,rfl,_,hb,hl,hm,hlen,hel,_⟩
 ·exact⟨aC,[],rfl,[],rfl,cY.nil _ _ _,fun i h1=>by simp at h1⟩
 ·have each:∀j,j<len->∃(sj:Sl)(xs:List Int),W.cell? (a.add j)=some sj.v/\aP (Low W.heap) W.heap sj xs:=by
   intro j hj
   have h1:=hel j hj
   rw[hce,Nat.mul_one,List.getElem?_eq_getElem (show j<elems.length by omega),Option.bind_eq_some_iff]at h1
   obtain⟨c,hc,hy⟩:=h1
   obtain⟨sj,xs,rfl,r,_⟩:=AN he hi hci hy
   exact⟨sj,xs,cell_of_cells?_one hc,r⟩
  have build:∀m,m<=len->∃(ss:List Sl)(aD:List (List Int)),ss.length=m/\aD.length=m/\∀j(h1:j<ss.length)(h2:j<aD.length),W.cell? (a.add j)=some (ss[j]).v/\aP (Low W.heap) W.heap ss[j] aD[j]:=by
   intro m
   induction m with
   |zero=>intro _;exact⟨[],[],rfl,rfl,fun j h1=>by simp at h1⟩
   |succ m ih=>
    intro HA
    obtain⟨ss,aD,e1,e2,hh⟩:=ih (by omega)
    obtain⟨sj,xs,c1,c2⟩:=each m (by omega)
    refine⟨ss++[sj],aD++[xs],by simp[e1],by simp[e2],fun j h1 h2=> ?_⟩
    by_cases hj:j<m
    ·rw[List.getElem_append_left (by omega),List.getElem_append_left (by omega)]
     exact hh j _ _
    ·simp at h1
     obtain rfl:j=m:=by omega
     rw[List.getElem_append_right (by omega),List.getElem_append_right (by omega)]
     simp only[e1,e2,Nat.sub_self,List.getElem_cons_zero]
     exact⟨c1,c2⟩
  obtain⟨ss,aD,e1,e2,hh⟩:=build len (Nat.le_refl _)
  refine⟨⟨some a,len,cap⟩,aD,rfl,ss,by omega,⟨by simp[e1],Nat.le_trans hl hm,hl,fun j hj=> ?_⟩,fun j h1 h2=>(hh j h1 h2).2⟩
  simp at hj
  have:=(hh j hj (by omega)).1
  refine⟨a,rfl,?_,?_⟩
  ·have:=EH this
   rwa [ky]at this
  ·rw[<-rT,this];simp
def qP(P:Program)(t:TypeId)(i:Nat):Option (TypeId×Nat×Nat):=
 match P.underlying t with
 |some (.struct fs)=>match fs[i]? with
  |some f=>some (f.type,f.offset,P.cellsOf f.type)
  |none=>none
 |_=>none
theorem oJ{t ft:TypeId}{i off sz:Nat}{oI:Nat}{cs:List Value}{x:DataW H×List MemPlace}(hf:qP P t i=some (ft,off,sz))(h:DataW.trod enc P W base spare held oI t cs=some x):
 ∃n y,DataW.trod enc P W base spare held n ft ((cs.drop off).take sz)=some y:=by
 unfold qP at hf
 split at hf
 ·rename_i fs hu
  split at hf
  ·rename_i f hi
   simp only[Option.some.injEq,Prod.mk.injEq]at hf
   obtain⟨rfl,rfl,rfl⟩:=hf
   obtain⟨xs,n,rfl,_,hl,hx,he⟩:=DataW.trod_struct hu h
   have rO:i<xs.length:=by
    rw[hx]
    exact(Array.getElem?_eq_some_iff.1 hi).1
   exact⟨n,xs[i],(he i f hi).trans (List.getElem?_eq_getElem rO)⟩
  ·cases hf
 ·cases hf
theorem Np{t:TypeId}{oI:Nat}{cs:List Value}{x:DataW H×List MemPlace}(ht:P.underlying t=some (.int .i64))(h:DataW.trod enc P W base spare held oI t cs=some x):∃n:Int,cs=[VI n]/\(Lit.int .i64 n).wf=true:=by
 obtain⟨n,rfl,_,hw⟩:=DataW.trod_int ht h
 exact⟨n,rfl,hw⟩
def mn(P:Program)(t:TypeId):Bool:=match P.underlying t with
 |some (.struct _)=>true
 |_=>false
theorem Nq{t:TypeId}{m:Nat}{oI:Nat}{cs:List Value}{x:DataW H×List MemPlace}(hs:mn P t=true)(hm:P.cellsOf t=m)(h:DataW.trod enc P W base spare held oI t cs=some x):cs.length=m:=by
 unfold mn at hs
 split at hs
 ·rename_i fs hu
  obtain⟨xs,n,rfl,_,hl,_⟩:=DataW.trod_struct hu h
  rw[hl,hm]
 ·cases hs
theorem HB{t:TypeId}{r:Reach}{v:Value}(hs:mn P t=true)(h:Value.okWide P W r base t v):∃cs,v= .agg cs:=by
 unfold mn at hs
 split at hs
 ·rename_i fs hu
  obtain⟨cs,h1,_⟩:=okWide_struct hu h
  exact⟨cs,h1⟩
 ·cases hs
end
theorem ae7(l:List Value)(h:l.length=3):∃a b c,l=[a,b,c]:=by
 match l,h with
 |[a,b,c],_=>exact⟨a,b,c,rfl⟩
end Go.Mx
