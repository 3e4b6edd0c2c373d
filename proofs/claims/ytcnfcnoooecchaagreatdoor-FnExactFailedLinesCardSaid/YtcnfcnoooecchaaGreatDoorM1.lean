import Derived.Orders
import Derived.KernelRfl
import Derived.Laws.Sem
set_option linter.unusedVariables false
set_option linter.unusedSimpArgs false
namespace Go.Mx
abbrev Heap:=Array Obj
abbrev Env:=List Value
structure cN(w w':World):Prop where
 os:w'.os=w.os
 tape:w'.tape=w.tape
 output:w'.output=w.output
theorem cN.refl(w:World):cN w w:=⟨rfl,rfl,rfl⟩
theorem cN.trans{a b c:World}(h:cN a b)(k:cN b c):cN a c:=⟨k.os.trans h.os,k.tape.trans h.tape,k.output.trans h.output⟩
def eK:Env->Nat->Value
 |[],_=>undef
 |v::_,0=>v
 |_::vs,n+1=>eK vs n
def ti:Env->Nat->Value->Env
 |[],_,_=>[]
 |_::vs,0,u=>u::vs
 |v::vs,n+1,u=>v::ti vs n u
def put(e:Env)(dst:Option Tmp)(v:Value):Env:=
 match dst with
 |some d=>ti e d v
 |none=>e
def ev(e:Env):Operand->Value
 | .tmp t=>eK e t
 | .const v=>v
 | .global g=> .pointer (some ⟨g,0,none⟩)
 | .func f=> .func (.func f) #[] #[]
def mQ(ρ:Operand->Value):List Operand->List Value
 |[]=>[]
 |x::xs=>ρ x::mQ ρ xs
def eB(e:Env):List Nat->List Value
 |[]=>[]
 |t::ts=>eK e t::eB e ts
def jv(e:Env):List Nat->List Value->Env
 |[],_=>e
 |_::_,[]=>e
 |t::ts,v::vs=>jv (ti e t v) ts vs
def fO(e:Env)(j:Nat->Value):List Nat->Env
 |[]=>e
 |t::ts=>fO (ti e t (j t)) j ts
theorem fa:∀(e:Env)(n:Nat)(v:Value),(ti e n v).length=e.length
 |[],_,_=>rfl
 |_::_,0,_=>rfl
 |_::vs,n+1,v=>by simp[ti,fa vs n v]
theorem fb:∀(e:Env)(n m:Nat)(v:Value),n≠m->eK (ti e n v) m=eK e m
 |[],_,_,_,_=>rfl
 |_::_,0,0,_,h=>absurd rfl h
 |_::_,0,m+1,_,_=>rfl
 |_::_,n+1,0,_,_=>rfl
 |_::vs,n+1,m+1,v,h=>by simp only[ti,eK];exact fb vs n m v (by omega)
theorem j9:∀(e:Env)(n:Nat)(v:Value),n<e.length->eK (ti e n v) n=v
 |[],_,_,h=>by simp at h
 |_::_,0,_,_=>rfl
 |_::vs,n+1,v,h=>by simp only[ti,eK];exact j9 vs n v (by simpa using h)
theorem BV:∀(e:Env)(n:Nat),e.length<=n->eK e n=undef
 |[],_,_=>rfl
 |_::_,0,h=>by simp at h
 |_::vs,n+1,h=>by simp only[eK];exact BV vs n (by simpa using h)
theorem BW:∀(e e':Env),e.length=e'.length->(∀t,t<e.length->eK e t=eK e' t)->e=e'
 |[],[],_,_=>rfl
 |[],_::_,h,_=>by simp at h
 |_::_,[],h,_=>by simp at h
 |v::vs,u::us,h,k=>by
  have h0:=k 0 (by simp)
  simp only[eK]at h0
  rw[h0,BW vs us (by simpa using h) fun t ht=>by have:=k (t+1) (by simpa using ht);simpa[eK]using this]
theorem Ar(e:Env)(d:Nat)(v:Value):ti e d v=e.set d v:=by
 induction e generalizing d with
 |nil=>rfl
 |cons x xs ih=>cases d with
  |zero=>rfl
  |succ d=>simp[ti,ih]
theorem jC(a:Array Value)(t:Nat):eK a.toList t=a.getD t undef:=by
 have key:∀(l:List Value)(t:Nat),eK l t=l[t]?.getD undef:=by
  intro l
  induction l with
  |nil=>intro t;simp[eK]
  |cons x xs ih=>intro t;cases t with
   |zero=>simp[eK]
   |succ t=>simp[eK,ih]
 rw[key];simp
theorem qG(a:Act)(dst:Option Tmp)(v:Value):(a.put dst v).tmps.toList=put a.tmps.toList dst v:=by
 cases dst with
 |none=>rfl
 |some d=>simp[Act.put,put,Ar]
theorem put_defers(a:Act)(dst:Option Tmp)(v:Value):(a.put dst v).defers=a.defers:=by cases dst<;>rfl
theorem eG(a:Act)(x:Operand):ev a.tmps.toList x=a.eval x:=by
 cases x<;>simp[ev,Act.eval,jC]
theorem Qu(ρ:Operand->Value)(l:List Operand):mQ ρ l=l.map ρ:=by induction l<;>simp[mQ, *]
structure pop(P:Program)(s:Sem Value)(K:Value->Prop):Prop where
 out:∃v,(∀w,s.run P w= .ok v w)/\K v
structure zU(P:Program)(s:Sem Value)(h:Heap)(K:Value->Prop):Prop where
 out:∃v,(∀w:World,w.heap=h->s.run P w= .ok v w)/\K v
structure iU(P:Program)(s:Sem Value)(h:Heap)(K:Value->Heap->Prop):Prop where
 out:∀w:World,w.heap=h->∃v w',s.run P w= .ok v w'/\cN w w'/\K v w'.heap
structure At(P:Program)(s:Sem Unit)(h:Heap)(K:Value->Heap->Prop):Prop where
 out:∀w:World,w.heap=h->∃w',s.run P w= .ok () w'/\cN w w'/\K undef w'.heap
def Mq(P:Program)(f:FuncId)(args:Array Value)(w:World)(K:Value->Heap->Prop):Prop:=
 Calls P f args w fun e w'=>∃v,e= .returned v/\cN w w'/\K v w'.heap
structure aE(P:Program)(f:FuncId)(args:Array Value)(h:Heap)(K:Value->Heap->Prop):Prop where
 out:∀w:World,w.heap=h->(∃v w',(callFunc f args).run P w= .ok (.value v) w'/\cN w w'/\K v w'.heap)\/
  (∃f' Au w',(callFunc f args).run P w= .ok (.enter f' Au) w'/\w'=w/\Mq P f' Au w K)
def fC(P:Program)(v:Value)(args:List Value)(h:Heap)(K:Value->Heap->Prop):Prop:=
 match v with
 | .func (.func g) first cap=>aE P g (first.toList++args++cap.toList).toArray h K
 |_=>False
structure Mr(v:Value)(A B:Prop):Prop where
 out:∃t:Bool,v= .bool t/\(t=true->A)/\(t=false->B)
structure GY(v:Value)(want:Bool)(A:(Value->Heap->Prop)->Prop)(h:Heap)(K:Value->Heap->Prop):Prop where
 out:∃b:Bool,v= .bool b/\(b=want->A K)/\(b≠want->K undef h)
def jD(ρ:Operand->Value)(ty:TypeId):Op->Option (Sem Value)
 | .pick c a b=>some (do pure (if<-asBool (ρ c)then ρ a else ρ b))
 | .nilCheck x=>some (match ρ x with
   | .pointer none| .nilIface| .nilFunc=>runtimePanic .nilDeref
   | .func (.method _) _ _=>stuck "a method value"
   |x=>pure x)
 | .binOp op t x y _=>some (do eqGuard op t x y (ρ x) (ρ y);binOp op t (ρ x) (ρ y))
 | .unOp op _ x=>some (Op.unary op (ρ x))
 | .makeInterface t x=>some (Instr.makeInterface t (ρ x))
 | .makeFunc fn first captured=>some (Instr.makeFunc fn (mQ ρ first.toList).toArray (mQ ρ captured.toList).toArray)
 | .slice t x lo hi mx=>some (Instr.sliceAt t (ρ x) (lo.map ρ) (hi.map ρ) (mx.map ρ))
 | .fieldAddr s x f=>some (Instr.fieldAt s (ρ x) f)
 | .field t x f=>some (Instr.field t (ρ x) f)
 | .indexAddr t x ix=>some (Instr.indexAt t (ρ x) (ρ ix))
 | .index t x ix=>some (Instr.index t (ρ x) (ρ ix))
 | .extract t ix=>some (Instr.extract (ρ t) ix)
 | .build t parts=>some (Instr.build t (parts.toList.map fun p=>(p.1,ρ p.2)).toArray)
 | .call c=>match c.callee with
   | .builtin .len=>some (Builtin.len_ c.argTypes ty (mQ ρ c.args.toList).toArray)
   | .builtin .cap=>some (Builtin.cap_ c.argTypes ty (mQ ρ c.args.toList).toArray)
   | .builtin .max=>some (Builtin.max_ c.argTypes ty (mQ ρ c.args.toList).toArray)
   | .builtin .min=>some (Builtin.min_ c.argTypes ty (mQ ρ c.args.toList).toArray)
   |_=>none
 |_=>none
def nU(ρ:Operand->Value):Op->Option (Sem Value)
 | .load t a=>some (Instr.loadAt t (ρ a))
 | .convert src dst x=>some (convert src dst (ρ x))
 | .lookup t x ix ok=>some (Instr.lookup t (ρ x) (ρ ix) ok)
 | .typeAssert x aaW asserted ok=>some (Instr.typeAssert (ρ x) aaW asserted ok)
 |_=>none
def Em(ρ:Operand->Value)(ty:TypeId):Op->Option (Sem Value)
 | .alloc elem=>some (Instr.alloc elem true (.tuple #[]))
 | .box elem x=>some (Instr.box elem (ρ x))
 | .buildSlice t len parts=>some (Instr.buildSlice t len (parts.toList.map fun p=>(p.1,ρ p.2)).toArray)
 | .makeMap t r=>some (Instr.makeMap t (r.map ρ))
 | .makeSlice t l c=>some (Instr.makeSlice t (ρ l) (ρ c))
 | .range t x=>some (Instr.range t (ρ x))
 | .next it isString=>some (Instr.next (ρ it) isString ty)
 | .entry it=>some (Instr.entry (ρ it))
 | .call c=>match c.callee with
   | .builtin .append=>some (Builtin.append_ c.argTypes ty (mQ ρ c.args.toList).toArray)
   | .builtin .copy=>some (Builtin.copy_ c.argTypes ty (mQ ρ c.args.toList).toArray)
   |_=>none
 |_=>none
def En(ρ:Operand->Value):Op->Option (Sem Unit)
 | .store t a x=>some (Instr.storeAt t (ρ a) (ρ x))
 | .mapUpdate t m k x| .insert t m k x=>some (Instr.mapUpdate t (ρ m) (ρ k) (ρ x))
 |_=>none
def gv:Op->Option Operand
 | .move x| .assign x=>some x
 |_=>none
def kA:Op->Option (Operand×Array Operand)
 | .call c=>match c.callee with
   | .value f=>some (f,c.args)
   |_=>none
 |_=>none
def fk(P:Program)(ρ:Operand->Value)(op:Op)(ty:TypeId)(h:Heap)(K:Value->Heap->Prop):Prop:=
 match gv op with
 |some x=>K (ρ x) h
 |none=>match kA op with
  |some (f,args)=>fC P (ρ f) (mQ ρ args.toList) h K
  |none=>match jD ρ ty op with
   |some s=>pop P s fun v=>K v h
   |none=>match nU ρ op with
    |some s=>zU P s h fun v=>K v h
    |none=>match Em ρ ty op with
     |some s=>iU P s h K
     |none=>match En ρ op with
      |some s=>At P s h K
      |none=>False
theorem qH{P:Program}{f:FuncId}{args:Array Value}{h:Heap}{K K':Value->Heap->Prop}(hk:∀v h,K v h->K' v h)(H:aE P f args h K):aE P f args h K':=by
 refine⟨fun w hw=> ?_⟩
 rcases H.out w hw with⟨v,w',h1,h2,h3⟩|⟨f',Au,w',h1,h2,h3⟩
 ·exact .inl ⟨v,w',h1,h2,hk _ _ h3⟩
 ·exact .inr ⟨f',Au,w',h1,h2,h3.mono fun e w'' ⟨v,a,b,c⟩=>⟨v,a,b,hk _ _ c⟩⟩
theorem kB{P:Program}{v:Value}{args:List Value}{h:Heap}{K K':Value->Heap->Prop}(hk:∀v h,K v h->K' v h)(H:fC P v args h K):fC P v args h K':=by
 unfold fC at*
 split at H
 ·exact qH hk H
 ·exact H.elim
theorem ja{P:Program}{e:Operand->Value}{op:Op}{ty:TypeId}{h:Heap}{K K':Value->Heap->Prop}(hk:∀v h,K v h->K' v h)(H:fk P e op ty h K):fk P e op ty h K':=by
 unfold fk at*
 split
 ·rename_i x hx;simp only[hx]at H;exact hk _ _ H
 ·rename_i hx;simp only[hx]at H
  split
  ·rename_i f args hc;simp only[hc]at H;exact kB hk H
  ·rename_i hc;simp only[hc]at H
   split
   ·rename_i s hs;simp only[hs]at H;obtain⟨v,a,b⟩:=H;exact⟨v,a,hk _ _ b⟩
   ·rename_i hs;simp only[hs]at H
    split
    ·rename_i s hr;simp only[hr]at H;obtain⟨v,a,b⟩:=H;exact⟨v,a,hk _ _ b⟩
    ·rename_i hr;simp only[hr]at H
     split
     ·rename_i s he;simp only[he]at H
      exact⟨fun w hw=>let⟨v,w',a,b,c⟩:=H.out w hw;⟨v,w',a,b,hk _ _ c⟩⟩
     ·rename_i he;simp only[he]at H
      split
      ·rename_i s hu;simp only[hu]at H
       exact⟨fun w hw=>let⟨w',a,b,c⟩:=H.out w hw;⟨w',a,b,hk _ _ c⟩⟩
      ·rename_i hu;simp only[hu]at H
def Next.Ms(P:Program)(w:World)(K:Value->Heap->Prop):Result Next->Prop
 | .ok (.value v) w'=>cN w w'/\K v w'.heap
 | .ok .skip w'=>cN w w'/\K undef w'.heap
 | .ok (.enter f args) w'=>w'=w/\Mq P f args w K
 |_=>False
theorem mR{P:Program}{w:World}{K:Value->Heap->Prop}{s:Sem Value}{v:Value}{w':World}(h:s.run P w= .ok v w')(hs:cN w w')(hk:K v w'.heap):
 Next.Ms P w K ((do let x<-s;pure (Next.value x):Sem Next).run P w):=by
 have:((do let x<-s;pure (Next.value x):Sem Next).run P w)= .ok (.value v) w':=by
  show(s.bind fun x=>Sem.pure (Next.value x)).run P w=_
  rw[Sem.run_bind',h];rfl
 rw[this];exact⟨hs,hk⟩
theorem Qv{P:Program}{w:World}{K:Value->Heap->Prop}{s:Sem Unit}{w':World}(h:s.run P w= .ok () w')(hs:cN w w')(hk:K undef w'.heap):
 Next.Ms P w K ((do s;pure Next.skip:Sem Next).run P w):=by
 have:((do s;pure Next.skip:Sem Next).run P w)= .ok .skip w':=by
  show(s.bind fun _=>Sem.pure Next.skip).run P w=_
  rw[Sem.run_bind',h];rfl
 rw[this];exact⟨hs,hk⟩
theorem kC(a:Act)(xs:Array Operand):xs.map a.eval=(mQ (ev a.tmps.toList) xs.toList).toArray:=by
 rw[Qu]
 apply Array.ext'
 simp only[Array.toList_map]
 exact List.map_congr_left fun x _=>(eG a x).symm
theorem ks(a:Act)(xs:Array (Nat×Operand)):(xs.map fun(i,x)=>(i,a.eval x))=(xs.toList.map fun p=>(p.1,ev a.tmps.toList p.2)).toArray:=by
 apply Array.ext'
 simp only[Array.toList_map]
 exact List.map_congr_left fun x _=>by rw[eG]
theorem vZ(a:Act)(x:Option Operand):x.map a.eval=x.map (ev a.tmps.toList):=by
 cases x<;>simp[eG]
theorem Mt{P:Program}{w:World}{c a b v:Value}(h:(do pure (if<-asBool c then a else b):Sem Value).run P w= .ok v w):
 ((do pure (Next.value (if<-asBool c then a else b))):Sem Next).run P w= .ok (.value v) w:=by
 cases c<;>first|(simp[asBool,Sem.run,bind,pure,Sem.bind]at h⊢;exact h)|(simp[asBool,stuck,Sem.run,bind,pure,Sem.bind]at h)
theorem Eo{P:Program}{a:Act}{o:Oper}{w:World}{K:Value->Heap->Prop}(H:fk P (ev a.tmps.toList) o.op o.type w.heap K):
 Next.Ms P w K ((execOp a.eval o).run P w):=by
 obtain⟨dst,op,type,pos,after,guard⟩:=o
 simp only at H
 cases op<;>simp only[fk,gv,kA,jD,nU,Em,En]at H
 case move x=>simp only[execOp];rw[<-eG];exact⟨cN.refl w,H⟩
 case assign x=>simp only[execOp];rw[<-eG];exact⟨cN.refl w,H⟩
 case pick c x y=>
  obtain⟨v,hv,hk⟩:=H
  simp only[execOp,<-eG]
  rw[Mt (hv w)]
  exact⟨cN.refl w,hk⟩
 case nilCheck x=>
  obtain⟨v,hv,hk⟩:=H
  simp only[execOp,<-eG]
  have hw:=hv w
  generalize ev a.tmps.toList x=u at*
  cases u<;>try (simp only[pure,Sem.run,Result.ok.injEq]at hw;obtain⟨rfl,_⟩:=hw;exact⟨cN.refl w,hk⟩)
  case pointer q=>
   cases q with
   |none=>
    exfalso
    have:∀(e:RuntimeError),(runtimePanic e:Sem Value).run P w≠ .ok v w:=by
     intro e he
     unfold runtimePanic at he
     cases e<;>simp[program,bind,Sem.bind,Sem.run,goPanic]at he
     all_goals (try (repeat (first|split at he|(simp[Sem.run_bind',Result.andThen]at he))))
    exact this _ hw
   |some q=>simp only[pure,Sem.run,Result.ok.injEq]at hw;obtain⟨rfl,_⟩:=hw;exact⟨cN.refl w,hk⟩
  case nilIface=>
   simp[runtimePanic,program,bind,Sem.bind,Sem.run,goPanic]at hw
  case nilFunc=>
   simp[runtimePanic,program,bind,Sem.bind,Sem.run,goPanic]at hw
  case func fn first cap=>
   cases fn<;>first|(simp only[pure,Sem.run,Result.ok.injEq]at hw;obtain⟨rfl,_⟩:=hw;exact⟨cN.refl w,hk⟩)|(simp[stuck,Sem.run]at hw)
 case call c=>
  obtain⟨callee,args,argTypes⟩:=c
  cases callee with
  |value f=>
   simp only at H
   simp only[execOp,resolve,<-eG,kC]
   unfold fC at H
   split at H
   ·rename_i g first cap hf
    simp only[hf]
    have e1:(do let d<-Deferred.ofValue (Value.func (.func g) first cap) (mQ (ev a.tmps.toList) args.toList).toArray;invoke d.target d.args:Sem Next)=callFunc g ((first++(mQ (ev a.tmps.toList) args.toList).toArray)++cap):=rfl
    rw[e1]
    have e2:(first++(mQ (ev a.tmps.toList) args.toList).toArray)++cap=(first.toList++mQ (ev a.tmps.toList) args.toList++cap.toList).toArray:=by
     apply Array.ext';simp
    rw[e2]
    rcases H.out w rfl with⟨v,w',h1,h2,h3⟩|⟨f',Au,w',h1,h2,h3⟩
    ·rw[h1];exact⟨h2,h3⟩
    ·rw[h1];exact⟨h2,h3⟩
   ·exact H.elim
  |invoke r m=>simp only at H
  |builtin b=>
   cases b<;>simp only at H<;>
    first
     |exact H.elim
     |(obtain⟨v,hv,hk⟩:=H;simp only[execOp,resolve,kC];exact mR (hv w) (cN.refl w) hk)
     |(obtain⟨v,w',h1,h2,h3⟩:=H.out w rfl;simp only[execOp,resolve,kC];exact mR h1 h2 h3)
 case build t parts=>
  obtain⟨v,hv,hk⟩:=H
  simp only[execOp]
  rw[ks]
  exact mR (hv w) (cN.refl w) hk
 case buildSlice t len parts=>
  obtain⟨v,w',h1,h2,h3⟩:=H.out w rfl
  simp only[execOp]
  rw[ks]
  exact mR h1 h2 h3
 all_goals
  first
   |exact H.elim
   |(obtain⟨v,hv,hk⟩:=H;simp only[execOp,<-eG,kC,ks,vZ];exact mR (hv w) (cN.refl w) hk)
   |(obtain⟨v,hv,hk⟩:=H;simp only[execOp,<-eG,kC,ks,vZ];exact mR (hv w rfl) (cN.refl w) hk)
   |(obtain⟨v,w',h1,h2,h3⟩:=H.out w rfl;simp only[execOp,<-eG,kC,ks,vZ];exact mR h1 h2 h3)
   |(obtain⟨w',h1,h2,h3⟩:=H.out w rfl;simp only[execOp,<-eG,kC,ks,vZ];exact Qv h1 h2 h3)
def gG:List Oper->Nat->Option Oper
 |[],_=>none
 |o::_,0=>some o
 |_::os,n+1=>gG os n
def wQ(ops:List Oper)(j:Nat):Option Tmp:=
 match gG ops j with
 |some o=>o.dst
 |none=>none
def qI(ops:List Oper)(e:Env)(j:Nat):Value:=
 match wQ ops j with
 |some t=>eK e t
 |none=>undef
def KK(v:Value)(want:Bool):Value:=match v with
 | .bool b=> .bool b
 |_=> .bool (!want)
theorem US{v:Value}{want b:Bool}(h:KK v want= .bool b)(hv:∀c,v≠ .bool c):b≠want:=by
 unfold KK at h
 cases v<;>first
  |exact absurd rfl (hv _)
  |(simp only[Value.bool.injEq]at h;subst h;cases want<;>decide)
def jE(P:Program)(ops:List Oper)(e:Env)(h:Heap)(o:Oper)(k:Value->Heap->Prop):Prop:=
 match o.guard with
 |none=>fk P (ev e) o.op o.type h k
 |some (j,want)=>GY (KK (qI ops e j) want) want (fk P (ev e) o.op o.type h) h k
def wpIn(P:Program)(ops:List Oper):List Oper->Env->Heap->(Env->Heap->Prop)->Prop
 |[],e,h,K=>K e h
 |o::os,e,h,K=>jE P ops e h o fun v h'=>wpIn P ops os (put e o.dst v) h' K
theorem pE(ops:Array Oper)(i:Nat):gG ops.toList i=ops[i]?:=by
 have key:∀(l:List Oper)(i:Nat),gG l i=l[i]?:=by
  intro l
  induction l with
  |nil=>intro i;simp[gG]
  |cons x xs ih=>intro i;cases i<;>simp[gG,ih]
 rw[key];simp
theorem KL{ops:Array Oper}{a:Act}{j:Nat}{b:Bool}(h:qI ops.toList a.tmps.toList j= .bool b):yielded ops a.tmps j=some b:=by
 unfold qI wQ at h
 rw[pE]at h
 unfold yielded
 cases ho:ops[j]? with
 |none=>rw[ho]at h;simp[undef]at h
 |some o=>
  rw[ho]at h
  simp only at h
  cases hd:o.dst with
  |none=>rw[hd]at h;simp[undef]at h
  |some t=>
   rw[hd]at h
   simp only[jC]at h
   simp only[Option.bind_some,hd]
   cases ht:a.tmps[t]? with
   |none=>simp[Array.getD_eq_getD_getElem?,ht,undef]at h
   |some v=>simp[Array.getD_eq_getD_getElem?,ht]at h;rw[h]
theorem KM{ops:Array Oper}{a:Act}{j:Nat}(h:∀b,qI ops.toList a.tmps.toList j≠ .bool b):yielded ops a.tmps j=none:=by
 unfold qI wQ at h
 rw[pE]at h
 unfold yielded
 cases ho:ops[j]? with
 |none=>simp
 |some o=>
  rw[ho]at h
  simp only at h
  cases hd:o.dst with
  |none=>simp[hd]
  |some t=>
   rw[hd]at h
   simp only[jC]at h
   simp only[Option.bind_some,hd]
   cases ht:a.tmps[t]? with
   |none=>rfl
   |some v=>
    cases v with
    |bool b=>exact absurd (by simp[Array.getD_eq_getD_getElem?,ht]) (h b)
    |_=>rfl
theorem qv{P:Program}{ops:Array Oper}{Q:Exit->Act->World->Prop}{i:Nat}{o:Oper}{a:Act}{w:World}{K:Act->World->Prop}(ho:ops[i]?=some o)
 (H:jE P ops.toList a.tmps.toList w.heap o fun v h'=>∀w',cN w w'->w'.heap=h'->K (a.put o.dst v) w'):wpOp P ops Q i K a w:=by
 have key:(fk P (ev a.tmps.toList) o.op o.type w.heap fun v h'=>∀w',cN w w'->w'.heap=h'->K (a.put o.dst v) w')->o.wp P a w K Q:=by
  intro hx
  have hg:=Eo hx
  unfold Oper.wp
  generalize (execOp a.eval o).run P w=r at*
  cases r with
  |halt x w'=>exact hg.elim
  |ok n w'=>
   cases n<;>first
    |exact hg.elim
    |exact hg.2 _ hg.1 rfl
    |(obtain⟨rfl,hc⟩:=hg
      exact hc.mono fun e w'' ⟨v,he,hs,hk⟩=>by subst he;exact hk _ hs rfl)
 unfold wpOp
 simp only[ho]
 unfold jE at H
 cases hgd:o.guard with
 |none=>
  simp only[hgd]at H
  simp only[Region.wanted,hgd,if_true]
  exact .inl (key H)
 |some p=>
  obtain⟨j,want⟩:=p
  simp only[hgd]at H
  obtain⟨b,hb,h1,h2⟩:=H
  by_cases hv:∃c,qI ops.toList a.tmps.toList j= .bool c
  ·obtain⟨c,hc⟩:=hv
   have hbc:c=b:=by
    rw[hc]at hb
    simpa[KK]using hb
   subst hbc
   have hy:=KL hc
   simp only[Region.wanted,hgd,hy]
   by_cases GZ:c=want
   ·subst GZ
    simp only[beq_self_eq_true,if_true]
    exact .inl (key (h1 rfl))
   ·have:(some c==some want)=false:=by simpa using GZ
    simp only[this,Bool.false_eq_true,if_false]
    exact h2 GZ w (cN.refl w) rfl
  ·have dZ:=US hb fun c hc=>hv ⟨c,hc⟩
   have hy:=KM fun c hc=>hv ⟨c,hc⟩
   simp only[Region.wanted,hgd,hy]
   have:((none:Option Bool)==some want)=false:=rfl
   simp only[this,Bool.false_eq_true,if_false]
   exact h2 dZ w (cN.refl w) rfl
theorem hJ{P:Program}{ops:List Oper}{e:Env}{h:Heap}{o:Oper}{k k':Value->Heap->Prop}(hk:∀v h,k v h->k' v h)(H:jE P ops e h o k):jE P ops e h o k':=by
 unfold jE at*
 cases hg:o.guard with
 |none=>simp only[hg]at H⊢;exact ja hk H
 |some p=>
  obtain⟨j,want⟩:=p
  simp only[hg]at H⊢
  obtain⟨b,hb,h1,h2⟩:=H
  exact⟨b,hb,fun e=>ja hk (h1 e),fun e=>hk _ _ (h2 e)⟩
def lB:List Bool->Nat->Bool->Bool
 |[],_,d=>d
 |b::_,0,_=>b
 |_::bs,n+1,d=>lB bs n d
def iu:List Bool->Nat->List Bool
 |[],_=>[]
 |_::bs,0=>true::bs
 |b::bs,n+1=>b::iu bs n
def fV(l:List Bool)(o:Oper)(i:Nat):Bool:=
 !lB l i true&&o.after.toList.all fun e=> !Region.binds .any e||lB l e.on false
def aZ:List Oper->Nat->List Bool->List (Nat×Oper)
 |[],_,_=>[]
 |o::os,i,l=>match fV l o i with
  |true=>(i,o)::aZ os (i+1) l
  |false=>aZ os (i+1) l
def fm:Operand->Value:=fun _=>undef
def u9(op:Op):Bool:=(gv op).isSome||((kA op).isNone&&(jD fm 0 op).isSome)
def zR(op:Op):Bool:=(gv op).isNone&&((kA op).isNone&&((jD fm 0 op).isNone&&(nU fm op).isSome))
def cU:List (Nat×Oper)->Option (Nat×Oper)
 |[]=>none
 |(i,o)::r=>match u9 o.op||zR o.op with
  |true=>some (i,o)
  |false=>cU r
def jx(o:Oper)(i:Nat):Bool:=o.after.toList.any fun e=>Region.binds .any e&&Nat.beq e.on i
def looks(ops:List Oper)(o:Oper):List Tmp:=
 (o.op.operands.toList.filterMap fun| .tmp t=>some t|_=>none)++
 (match o.guard with
  |some (g,_)=>(wQ ops g).toList
  |none=>[])
def eH:List Nat->Nat->Bool
 |[],_=>false
 |x::xs,n=>Nat.beq x n||eH xs n
def wR(ops:List Oper)(x y:Oper):Bool:=
 (match x.dst with
  |some d=> ! eH (looks ops y) d&&(match y.dst with|some d'=> !Nat.beq d d'|none=>true)
  |none=>true)&&
 (match y.dst with
  |some d=> ! eH (looks ops x) d
  |none=>true)
def pF(ops:List Oper)(x:Oper)(i:Nat):List Oper->Bool
 |[]=>true
 |y::ys=>(wR ops x y||jx y i)&&pF ops x i ys
def fp(ops:List Oper):List Oper->Nat->Bool
 |[],_=>true
 |x::xs,i=>pF ops x i xs&&fp ops xs (i+1)
abbrev ka:=List (Nat×(Heap->Prop))
def Yx(P:Program)(e:Operand->Value)(op:Op)(ty:TypeId)(g:Heap)(v:Value):Prop:=
 match gv op with
 |some x=>v=e x
 |none=>match jD e ty op with
  |some s=>∀w,s.run P w= .ok v w
  |none=>match nU e op with
   |some s=>∀w:World,w.heap=g->s.run P w= .ok v w
   |none=>False
def Yv(P:Program)(ops:List Oper)(e:Env)(g:Heap)(o:Oper)(v:Value):Prop:=
 match o.guard with
 |none=>Yx P (ev e) o.op o.type g v
 |some (j,want)=>∃b:Bool,KK (qI ops e j) want= .bool b/\(b=want->Yx P (ev e) o.op o.type g v)/\(b≠want->v=undef)
def mS:List Edge->List Nat
 |[]=>[]
 |e::es=>match Region.binds .any e with
  |true=>e.on::mS es
  |false=>mS es
def UT:List Nat->List Nat->List Nat
 |[],b=>b
 |x::a,b=>x::UT a b
def anc(ops:List Oper):Nat->List Nat->List Nat->List Nat
 |0,_,seen=>seen
 |_+1,[],seen=>seen
 |n+1,i::todo,seen=>match eH seen i with
  |true=>anc ops n todo seen
  |false=>match gG ops i with
   |some o=>anc ops n (UT (mS o.after.toList) todo) (i::seen)
   |none=>anc ops n todo (i::seen)
def vc(ops:List Oper)(o:Oper):List Nat:=anc ops 2000 (mS o.after.toList) []
def qw(bf:List Nat):ka->ka
 |[]=>[]
 |(i,p)::S=>match eH bf i with
  |true=>qw bf S
  |false=>(i,p)::qw bf S
def lh(ops:List Oper)(o:Oper)(S:ka):ka:=qw (vc ops o) S
def Mu(h:Heap)(K:Prop):ka->Prop
 |[]=>K
 |(_,p)::S=>p h/\Mu h K S
def Ha(f:Nat->Oper->Prop):List (Nat×Oper)->Prop
 |[]=>True
 |[(i,o)]=>f i o
 |(i,o)::r=>f i o/\Ha f r
def lF(P:Program)(ops:List Oper)(K:Env->Heap->Prop):Nat->List Bool->Env->Heap->ka->Prop
 |0,l,e,h,_=>match aZ ops 0 l with
  |[]=>K e h
  |_::_=>False
 |n+1,l,e,h,S=>match cU (aZ ops 0 l)with
  |some (i,o)=>match u9 o.op with
   |true=>jE P ops e h o fun v h'=>lF P ops K n (iu l i) (put e o.dst v) h' S
   |false=>jE P ops e h o fun v h'=>lF P ops K n (iu l i) (put e o.dst v) h' ((i,fun g=>Yv P ops e g o v)::S)
  |none=>match aZ ops 0 l with
   |[]=>K e h
   |r::rs=>Ha (fun i o=>jE P ops e h o fun v h'=>Mu h' (lF P ops K n (iu l i) (put e o.dst v) h' (lh ops o S)) (lh ops o S)) (r::rs)
def zV(P:Program)(ops:List Oper)(K:Env->Heap->Prop):Nat->List Bool->Env->Heap->ka->Prop
 |0,l,e,h,_=>aZ ops 0 l=[]/\K e h
 |n+1,l,e,h,S=>(aZ ops 0 l=[]->K e h)/\∀i o,(i,o)∈aZ ops 0 l->jE P ops e h o fun v h'=>
  ((u9 o.op||zR o.op)=true->zV P ops K n (iu l i) (put e o.dst v) h' S)/\
  ((u9 o.op||zR o.op)=false->(∀s,s∈lh ops o S->s.2 h')/\zV P ops K n (iu l i) (put e o.dst v) h' (lh ops o S))
theorem qJ:∀(l:List Bool)(i j:Nat)(d:Bool),i≠j->lB (iu l i) j d=lB l j d
 |[],_,_,_,_=>rfl
 |_::_,0,0,_,h=>absurd rfl h
 |_::_,0,_+1,_,_=>rfl
 |_::_,_+1,0,_,_=>rfl
 |_::bs,n+1,m+1,d,h=>by simp only[iu,lB];exact qJ bs n m d (by omega)
theorem mT:∀(l:List Bool)(i j:Nat),lB l j false=true->lB (iu l i) j false=true
 |[],_,_,h=>h
 |_::_,0,0,_=>rfl
 |_::_,0,_+1,h=>h
 |_::_,_+1,0,h=>h
 |_::bs,n+1,m+1,h=>by simp only[iu,lB]at*;exact mT bs n m h
theorem tj:∀(l:List Bool)(i j:Nat),iu (iu l i) j=iu (iu l j) i
 |[],_,_=>rfl
 |_::_,0,0=>rfl
 |_::_,0,_+1=>rfl
 |_::_,_+1,0=>rfl
 |_::bs,n+1,m+1=>by simp only[iu];rw[tj bs n m]
theorem lG:∀(l:List Bool)(i:Nat),lB l i true=false->lB l i false=false
 |[],_,h=>by simp[lB]at h
 |_::_,0,h=>h
 |_::bs,n+1,h=>lG bs n h
theorem nJ:∀(ops:List Oper)(k:Nat)(l:List Bool)(i:Nat)(o:Oper),(i,o)∈aZ ops k l↔∃j,i=k+j/\gG ops j=some o/\fV l o i=true
 |[],_,_,_,_=>by simp[aZ,gG]
 |x::xs,k,l,i,o=>by
  have ih:=nJ xs (k+1) l i o
  have hh:(∃j,i=k+j/\gG (x::xs) j=some o/\fV l o i=true)↔((i=k/\x=o/\fV l o i=true)\/(∃j,i=k+1+j/\gG xs j=some o/\fV l o i=true)):=by
   constructor
   ·rintro⟨j,hj,ho,hr⟩
    cases j with
    |zero=>simp only[gG,Option.some.injEq]at ho;exact .inl ⟨by omega,ho,hr⟩
    |succ j=>exact .inr ⟨j,by omega,ho,hr⟩
   ·rintro(⟨h1,h2,h3⟩|⟨j,hj,ho,hr⟩)
    ·exact⟨0,by omega,by simp[gG,h2],h3⟩
    ·exact⟨j+1,by omega,ho,hr⟩
  rw[hh,<-ih]
  have hu:aZ (x::xs) k l=match fV l x k with
   |true=>(k,x)::aZ xs (k+1) l
   |false=>aZ xs (k+1) l:=rfl
  rw[hu]
  cases hr:fV l x k with
  |true=>
   simp only[List.mem_cons,Prod.mk.injEq]
   constructor
   ·rintro(⟨rfl,rfl⟩|h)
    ·exact .inl ⟨rfl,rfl,hr⟩
    ·exact .inr h
   ·rintro(⟨rfl,rfl,_⟩|h)
    ·exact .inl ⟨rfl,rfl⟩
    ·exact .inr h
  |false=>
   constructor
   ·exact .inr
   ·rintro(⟨rfl,rfl,h3⟩|h)
    ·rw[hr]at h3;cases h3
    ·exact h
theorem cG{ops:List Oper}{l:List Bool}{i:Nat}{o:Oper}:(i,o)∈aZ ops 0 l↔gG ops i=some o/\fV l o i=true:=by
 rw[nJ]
 constructor
 ·rintro⟨j,h1,h2,h3⟩;obtain rfl:i=j:=by omega
  exact⟨h2,h3⟩
 ·rintro⟨h2,h3⟩;exact⟨i,by omega,h2,h3⟩
theorem ia{l:List Bool}{o:Oper}{i:Nat}:fV l o i=true↔lB l i true=false/\∀e,e∈o.after->Region.binds .any e=true->lB l e.on false=true:=by
 unfold fV
 simp only[Bool.and_eq_true,Bool.not_eq_true',List.all_eq_true,Bool.or_eq_true,Array.mem_toList_iff]
 constructor
 ·rintro⟨h1,h2⟩
  refine⟨h1,fun e he hb=> ?_⟩
  rcases h2 e he with h|h
  ·rw[hb]at h;cases h
  ·exact h
 ·rintro⟨h1,h2⟩
  refine⟨h1,fun e he=> ?_⟩
  cases hb:Region.binds .any e with
  |false=>exact .inl rfl
  |true=>exact .inr (h2 e he hb)
theorem od{l:List Bool}{o:Oper}{i j:Nat}(h:fV l o j=true)(dZ:j≠i):fV (iu l i) o j=true:=by
 rw[ia]at*
 exact⟨by rw[qJ _ _ _ _ (Ne.symm dZ)];exact h.1,fun e he hb=>mT _ _ _ (h.2 e he hb)⟩
theorem Jj{l:List Bool}{o:Oper}{i j:Nat}(h:fV l o j=true)(hi:lB l i true=false):jx o i=false:=by
 rw[ia]at h
 cases hh:jx o i with
 |false=>rfl
 |true=>
  unfold jx at hh
  rw[List.any_eq_true]at hh
  obtain⟨e,he,h2⟩:=hh
  simp only[Bool.and_eq_true]at h2
  have hon:e.on=i:=Nat.eq_of_beq_eq_true h2.2
  have:=h.2 e (by simpa using he) h2.1
  rw[hon,lG _ _ hi]at this
  cases this
theorem li(e e':Operand->Value)(ty ty':TypeId)(op:Op):(jD e ty op).isSome=(jD e' ty' op).isSome:=by
 cases op<;>try rfl
 case call c=>
  obtain⟨callee,args,argTypes⟩:=c
  cases callee<;>try rfl
  case builtin b=>cases b<;>rfl
theorem Ep(e e':Operand->Value)(op:Op):(nU e op).isSome=(nU e' op).isSome:=by cases op<;>rfl
theorem gw{P:Program}{e:Operand->Value}{op:Op}{ty:TypeId}{h:Heap}{k:Value->Heap->Prop}(hq:(u9 op||zR op)=true):fk P e op ty h k↔∃v,Yx P e op ty h v/\k v h:=by
 unfold fk Yx
 cases hm:gv op with
 |some x=>simp
 |none=>
  simp only[u9,zR,hm]at hq
  cases hc:kA op with
  |some c=>simp[hc]at hq
  |none=>
   simp only[hc]at hq
   cases hp:jD e ty op with
   |some s=>exact⟨fun h=>h.out,fun h=>⟨h⟩⟩
   |none=>
    have h0:(jD fm 0 op).isSome=false:=by rw[li fm e 0 ty,hp];rfl
    cases hr:nU e op with
    |some s=>exact⟨fun h=>h.out,fun h=>⟨h⟩⟩
    |none=>
     have h1:(nU fm op).isSome=false:=by rw[Ep fm e,hr];rfl
     have h0':jD fm 0 op=none:=by simpa using h0
     have UU:nU fm op=none:=by simpa using h1
     simp[h0',UU]at hq
theorem jF{P:Program}{ops:List Oper}{e:Env}{h:Heap}{o:Oper}{k:Value->Heap->Prop}(hq:(u9 o.op||zR o.op)=true):jE P ops e h o k↔∃v,Yv P ops e h o v/\k v h:=by
 unfold jE Yv
 cases hg:o.guard with
 |none=>exact gw hq
 |some p=>
  obtain⟨j,want⟩:=p
  constructor
  ·rintro⟨b,hb,h1,h2⟩
   by_cases GZ:b=want
   ·obtain⟨v,hv,hk⟩:=(gw hq).1 (h1 GZ)
    exact⟨v,⟨b,hb,fun _=>hv,fun h=>absurd GZ h⟩,hk⟩
   ·exact⟨undef,⟨b,hb,fun h=>absurd h GZ,fun _=>rfl⟩,h2 GZ⟩
  ·rintro⟨v,⟨b,hb,h1,h2⟩,hk⟩
   exact⟨b,hb,fun he=>(gw hq).2 ⟨v,h1 he,hk⟩,fun he=>by rw[<-h2 he];exact hk⟩
theorem Jk{P:Program}{e:Operand->Value}{op:Op}{ty:TypeId}{h:Heap}{v:Value}(hq:u9 op=true)(H:Yx P e op ty h v)(g:Heap):Yx P e op ty g v:=by
 unfold Yx at*
 cases hm:gv op with
 |some x=>simpa[hm]using H
 |none=>
  simp only[hm]at H⊢
  cases hp:jD e ty op with
  |some s=>simpa[hp]using H
  |none=>
   have h0:(jD fm 0 op).isSome=false:=by rw[li fm e 0 ty,hp];rfl
   simp[u9,hm,h0]at hq
theorem Qw{P:Program}{ops:List Oper}{e:Env}{h:Heap}{o:Oper}{v:Value}(hq:u9 o.op=true)(H:Yv P ops e h o v)(g:Heap):Yv P ops e g o v:=by
 unfold Yv at*
 cases hg:o.guard with
 |none=>simp only[hg]at H⊢;exact Jk hq H g
 |some p=>
  obtain⟨j,want⟩:=p
  simp only[hg]at H⊢
  obtain⟨b,hb,h1,h2⟩:=H
  exact⟨b,hb,fun e=>Jk hq (h1 e) g,h2⟩
theorem jb{e e':Operand->Value}:∀(l:List Operand),(∀x,x∈l->e x=e' x)->mQ e l=mQ e' l
 |[],_=>rfl
 |x::xs,h=>by simp only[mQ];rw[h x (by simp),jb xs fun y hy=>h y (by simp[hy])]
theorem vd{e e':Operand->Value}(ps:Array (Nat×Operand))(h:∀x,x∈(ps.toList.map (·.2))->e x=e' x):(ps.toList.map fun p=>(p.1,e p.2))=(ps.toList.map fun p=>(p.1,e' p.2)):=
 List.map_congr_left fun p hp=>by rw[h p.2 (List.mem_map.2 ⟨p,hp,rfl⟩)]
theorem pG{e e':Operand->Value}(x:Option Operand)(h:∀y,y∈x.toArray->e y=e' y):x.map e=x.map e':=by
 cases x with
 |none=>rfl
 |some y=>simp[h y (by simp)]
theorem qK{e e':Operand->Value}{ty:TypeId}{op:Op}(h:∀x,x∈op.operands->e x=e' x):jD e ty op=jD e' ty op:=by
 cases op<;>simp only[Op.operands]at h<;>simp only[jD]
 case pick c a b=>rw[h c (by simp),h a (by simp),h b (by simp)]
 case nilCheck x=>rw[h x (by simp)]
 case binOp op t x y u=>rw[h x (by simp),h y (by simp)]
 case unOp op t x=>rw[h x (by simp)]
 case makeInterface t x=>rw[h x (by simp)]
 case makeFunc fn first cap=>rw[jb first.toList fun x hx=>h x (by simp at hx;simp[hx]),jb cap.toList fun x hx=>h x (by simp at hx;simp[hx])]
 case slice t x lo hi mx=>rw[h x (by simp),pG lo fun y hy=>h y (by simp[hy]),pG hi fun y hy=>h y (by simp[hy]),pG mx fun y hy=>h y (by simp[hy])]
 case fieldAddr s x f=>rw[h x (by simp)]
 case field t x f=>rw[h x (by simp)]
 case indexAddr t x ix=>rw[h x (by simp),h ix (by simp)]
 case index t x ix=>rw[h x (by simp),h ix (by simp)]
 case extract t ix=>rw[h t (by simp)]
 case build t parts=>rw[vd parts fun x hx=>h x (by simpa using hx)]
 case call c=>
  have:mQ e c.args.toList=mQ e' c.args.toList:=jb _ fun x hx=>h x (by simp at hx;simp[Call.operands,hx])
  rw[this]
theorem mU{e e':Operand->Value}{op:Op}(h:∀x,x∈op.operands->e x=e' x):nU e op=nU e' op:=by
 cases op<;>simp only[Op.operands]at h<;>simp only[nU]
 case load t x=>rw[h x (by simp)]
 case convert s d x=>rw[h x (by simp)]
 case lookup t x ix ok=>rw[h x (by simp),h ix (by simp)]
 case typeAssert x a b c=>rw[h x (by simp)]
theorem wS{e e':Operand->Value}{ty:TypeId}{op:Op}(h:∀x,x∈op.operands->e x=e' x):Em e ty op=Em e' ty op:=by
 cases op<;>simp only[Op.operands]at h<;>simp only[Em]
 case box t x=>rw[h x (by simp)]
 case buildSlice t n parts=>rw[vd parts fun x hx=>h x (by simpa using hx)]
 case makeMap t r=>rw[pG r h]
 case makeSlice t l c=>rw[h l (by simp),h c (by simp)]
 case range t x=>rw[h x (by simp)]
 case next it b=>rw[h it (by simp)]
 case entry it=>rw[h it (by simp)]
 case call c=>
  have:mQ e c.args.toList=mQ e' c.args.toList:=jb _ fun x hx=>h x (by simp at hx;simp[Call.operands,hx])
  rw[this]
theorem wT{e e':Operand->Value}{op:Op}(h:∀x,x∈op.operands->e x=e' x):En e op=En e' op:=by
 cases op<;>simp only[Op.operands]at h<;>simp only[En]
 case store t a x=>rw[h a (by simp),h x (by simp)]
 case mapUpdate t m k x=>rw[h m (by simp),h k (by simp),h x (by simp)]
 case insert t m k x=>rw[h m (by simp),h k (by simp),h x (by simp)]
theorem wU{op:Op}{x:Operand}(h:gv op=some x):x∈op.operands:=by
 cases op<;>simp[gv]at h<;>simp[Op.operands,h]
theorem Hb{op:Op}{f:Operand}{args:Array Operand}(h:kA op=some (f,args)):f∈op.operands/\∀x,x∈args->x∈op.operands:=by
 cases op<;>simp[kA]at h
 case call c=>
  obtain⟨callee,as,ts⟩:=c
  cases callee<;>simp at h
  obtain⟨rfl,rfl⟩:=h
  exact⟨by simp[Op.operands,Call.operands],fun x hx=>by simp[Op.operands,Call.operands,hx]⟩
theorem ve{P:Program}{e e':Operand->Value}{op:Op}{ty:TypeId}{h:Heap}{k:Value->Heap->Prop}(H:∀x,x∈op.operands->e x=e' x):fk P e op ty h k=fk P e' op ty h k:=by
 unfold fk
 cases hm:gv op with
 |some x=>simp only[H x (wU hm)]
 |none=>
  cases hc:kA op with
  |some p=>
   obtain⟨f,args⟩:=p
   obtain⟨h1,h2⟩:=Hb hc
   simp only[H f h1,jb args.toList fun x hx=>H x (h2 x (by simpa using hx))]
  |none=>simp only[qK (ty:=ty) H,mU H,wS (ty:=ty) H,wT H]
theorem Er{P:Program}{e e':Operand->Value}{op:Op}{ty:TypeId}{g:Heap}{v:Value}(H:∀x,x∈op.operands->e x=e' x):Yx P e op ty g v=Yx P e' op ty g v:=by
 unfold Yx
 cases hm:gv op with
 |some x=>simp only[H x (wU hm)]
 |none=>simp only[qK (ty:=ty) H,mU H]
theorem rL:∀(l:List Nat)(n:Nat),eH l n=false->n∉l
 |[],_,_=>by simp
 |x::xs,n,h=>by
  simp only[eH,Bool.or_eq_false_iff]at h
  have h1:x≠n:=fun e=>by subst e;simp at h
  simp only[List.mem_cons,not_or]
  exact⟨fun e=>h1 e.symm,rL xs n h.2⟩
def oe(ops:List Oper)(dst:Option Tmp)(o:Oper):Prop:=∀d,dst=some d->d∉looks ops o
theorem UW{e:Env}{dst:Option Tmp}{u:Value}{x:Operand}(h:∀d,dst=some d->x≠ .tmp d):ev (put e dst u) x=ev e x:=by
 cases dst with
 |none=>rfl
 |some d=>
  cases x with
  |tmp t=>simp only[put,ev];exact fb _ _ _ _ fun he=>h d rfl (by rw[he])
  |_=>rfl
theorem pH{ops:List Oper}{o:Oper}{dst:Option Tmp}{e:Env}{u:Value}(h:oe ops dst o):∀x,x∈o.op.operands->ev (put e dst u) x=ev e x:=by
 intro x hx
 refine UW fun d hd Jl=>h d hd ?_
 subst Jl
 unfold looks
 exact List.mem_append_left _ (List.mem_filterMap.2 ⟨.tmp d,by simpa using hx,rfl⟩)
theorem vf{ops:List Oper}{o:Oper}{dst:Option Tmp}{e:Env}{u:Value}(h:oe ops dst o){j:Nat}{want:Bool}(hg:o.guard=some (j,want)):qI ops (put e dst u) j=qI ops e j:=by
 unfold qI
 cases ht:wQ ops j with
 |none=>rfl
 |some t=>
  cases dst with
  |none=>rfl
  |some d=>
   simp only[put]
   refine fb _ _ _ _ fun he=>h d rfl ?_
   unfold looks
   rw[hg]
   simp[ht,he]
theorem KO{P:Program}{ops:List Oper}{e:Env}{h:Heap}{o:Oper}{k:Value->Heap->Prop}{dst:Option Tmp}{u:Value}(hu:oe ops dst o):jE P ops (put e dst u) h o k=jE P ops e h o k:=by
 unfold jE
 cases hg:o.guard with
 |none=>exact ve (pH hu)
 |some p=>
  obtain⟨j,want⟩:=p
  have h2:fk P (ev (put e dst u)) o.op o.type h=fk P (ev e) o.op o.type h:=funext fun _=>ve (pH hu)
  simp only[vf hu hg,h2]
theorem BX{P:Program}{ops:List Oper}{e:Env}{g:Heap}{o:Oper}{v:Value}{dst:Option Tmp}{u:Value}(hu:oe ops dst o):Yv P ops (put e dst u) g o v=Yv P ops e g o v:=by
 unfold Yv
 cases hg:o.guard with
 |none=>exact Er (pH hu)
 |some p=>
  obtain⟨j,want⟩:=p
  simp only[vf hu hg,Er (pH hu)]
theorem put_comm{e:Env}{x y:Option Tmp}{u v:Value}(h:∀d,x=some d->y≠some d):put (put e x u) y v=put (put e y v) x u:=by
 cases x with
 |none=>rfl
 |some d=>
  cases y with
  |none=>rfl
  |some d'=>
   have dZ:d≠d':=fun he=>h d rfl (by rw[he])
   simp only[put,Ar]
   exact List.set_comm _ _ dZ
theorem apart_spec{ops:List Oper}{x y:Oper}(h:wR ops x y=true):oe ops x.dst y/\(∀d,x.dst=some d->y.dst≠some d)/\oe ops y.dst x:=by
 unfold wR at h
 simp only[Bool.and_eq_true]at h
 obtain⟨h1,h2⟩:=h
 refine⟨fun d hd=> ?_,fun d hd hy=> ?_,fun d hd=> ?_⟩
 ·rw[hd]at h1
  simp only[Bool.and_eq_true,Bool.not_eq_true']at h1
  exact rL _ _ h1.1
 ·rw[hd,hy]at h1
  simp at h1
 ·rw[hd]at h2
  simp only[Bool.not_eq_true']at h2
  exact rL _ _ h2
theorem og{ops:List Oper}{x:Oper}{i:Nat}:∀(l:List Oper),pF ops x i l=true->∀j y,gG l j=some y->wR ops x y=true\/jx y i=true
 |[],_,j,y,hy=>by simp[gG]at hy
 |z::zs,h,j,y,hy=>by
  simp only[pF,Bool.and_eq_true,Bool.or_eq_true]at h
  cases j with
  |zero=>simp only[gG,Option.some.injEq]at hy;subst hy;exact h.1
  |succ j=>exact og zs h.2 j y hy
theorem kD{ops:List Oper}:∀(l:List Oper)(k:Nat),fp ops l k=true->∀i j x y,i<j->gG l i=some x->gG l j=some y->wR ops x y=true\/jx y (k+i)=true
 |[],_,_,i,j,x,y,_,hx,_=>by simp[gG]at hx
 |z::zs,k,h,i,j,x,y,Uf,hx,hy=>by
  simp only[fp,Bool.and_eq_true]at h
  cases j with
  |zero=>omega
  |succ j=>
   cases i with
   |zero=>
    simp only[gG,Option.some.injEq]at hx
    subst hx
    exact og zs h.1 j y hy
   |succ i=>
    have:=kD zs (k+1) h.2 i j x y (by omega) hx hy
    rw[show k+(i+1)=k+1+i by omega]
    exact this
theorem Mv{ops:List Oper}(hp:fp ops ops 0=true){i j:Nat}{x y:Oper}(hx:gG ops i=some x)(hy:gG ops j=some y)(dZ:j≠i)(h1:jx y i=false)(h2:jx x j=false):
 oe ops x.dst y/\(∀d,x.dst=some d->y.dst≠some d)/\oe ops y.dst x:=by
 rcases Nat.lt_or_gt_of_ne dZ with h|h
 ·rcases kD ops 0 hp j i y x h hy hx with h3|h3
  ·obtain⟨a,b,c⟩:=apart_spec h3
   exact⟨c,fun d hd Qb=>b d Qb hd,a⟩
  ·rw[Nat.zero_add,h2]at h3;cases h3
 ·rcases kD ops 0 hp i j x y h hx hy with h3|h3
  ·exact apart_spec h3
  ·rw[Nat.zero_add,h1]at h3;cases h3
theorem Aw{bf:List Nat}{s:Nat×(Heap->Prop)}:∀{S:ka},s∈qw bf S↔s∈S/\eH bf s.1=false
 |[]=>by simp[qw]
 |(i,p)::S=>by
  have ih:=Aw (bf:=bf) (s:=s) (S:=S)
  unfold qw
  cases h:eH bf i with
  |true=>
   simp only[ih,List.mem_cons]
   constructor
   ·rintro⟨a,b⟩;exact⟨.inr a,b⟩
   ·rintro⟨a|a,b⟩
    ·subst a;rw[h]at b;cases b
    ·exact⟨a,b⟩
  |false=>
   simp only[List.mem_cons,ih]
   constructor
   ·rintro(a|⟨a,b⟩)
    ·subst a;exact⟨.inl rfl,h⟩
    ·exact⟨.inr a,b⟩
   ·rintro⟨a|a,b⟩
    ·exact .inl a
    ·exact .inr ⟨a,b⟩
theorem KP{ops:List Oper}{o:Oper}{s:Nat×(Heap->Prop)}{S:ka}:s∈lh ops o S↔s∈S/\eH (vc ops o) s.1=false:=Aw
def lk(ops:List Oper)(l:List Bool):Prop:=∀j o,gG ops j=some o->lB l j false=true->∀x,x∈mS o.after.toList->lB l x false=true
theorem qL:∀{es:List Edge}{x:Nat},x∈mS es->∃e,e∈es/\Region.binds .any e=true/\e.on=x
 |[],x,h=>by simp[mS]at h
 |e::es,x,h=>by
  unfold mS at h
  cases hb:Region.binds .any e with
  |true=>
   rw[hb]at h
   rcases List.mem_cons.1 h with rfl|h
   ·exact⟨e,by simp,hb,rfl⟩
   ·obtain⟨f,h1,h2⟩:=qL h
    exact⟨f,by simp[h1],h2⟩
  |false=>
   rw[hb]at h
   obtain⟨f,h1,h2⟩:=qL h
   exact⟨f,by simp[h1],h2⟩
theorem vg{l:List Bool}{o:Oper}{i:Nat}(h:fV l o i=true):∀x,x∈mS o.after.toList->lB l x false=true:=fun x hx=>by
 obtain⟨e,h1,h2,h3⟩:=qL hx
 rw[<-h3]
 exact(ia.1 h).2 e (by simpa using h1) h2
theorem lk.set{ops:List Oper}{l:List Bool}(C:lk ops l){i:Nat}{o:Oper}(ho:gG ops i=some o)(hr:fV l o i=true):lk ops (iu l i):=fun j o' ho' hj x hx=>by
 refine mT _ _ _ ?_
 by_cases h:j=i
 ·subst h
  rw[ho]at ho'
  have:=Option.some.inj ho'
  subst this
  exact vg hr x hx
 ·rw[qJ _ _ _ _ (Ne.symm h)]at hj
  exact C j o' ho' hj x hx
theorem Es:∀{a b:List Nat}{x:Nat},x∈UT a b->x∈a\/x∈b
 |[],b,x,h=> .inr h
 |y::a,b,x,h=>by
  rcases List.mem_cons.1 h with rfl|h
  ·exact .inl (by simp)
  ·rcases Es h with h|h
   ·exact .inl (by simp[h])
   ·exact .inr h
theorem Et:∀{l:List Nat}{i:Nat},eH l i=true->i∈l
 |[],i,h=>by simp[eH]at h
 |x::l,i,h=>by
  simp only[eH,Bool.or_eq_true]at h
  rcases h with h|h
  ·have:=Nat.eq_of_beq_eq_true h;subst this;simp
  ·simp[Et h]
theorem rM{ops:List Oper}{l:List Bool}(C:lk ops l):∀{n:Nat}{todo seen:List Nat},(∀x,x∈todo->lB l x false=true)->(∀x,x∈seen->lB l x false=true)->∀x,x∈anc ops n todo seen->lB l x false=true
 |0,_,_,_,h2,x,hx=>h2 x hx
 |_+1,[],_,_,h2,x,hx=>h2 x hx
 |n+1,i::todo,seen,h1,h2,x,hx=>by
  have hi:=h1 i (by simp)
  have ht:∀x,x∈todo->lB l x false=true:=fun x hx=>h1 x (by simp[hx])
  have hs:∀x,x∈i::seen->lB l x false=true:=fun x hx=>by
   rcases List.mem_cons.1 hx with rfl|hx
   ·exact hi
   ·exact h2 x hx
  unfold anc at hx
  split at hx
  ·exact rM C ht h2 x hx
  ·split at hx
   ·rename_i o ho
    exact rM C (fun y hy=>(Es hy).elim (C i o ho hi y) (ht y)) hs x hx
   ·exact rM C ht hs x hx
theorem Mw{ops:List Oper}{l:List Bool}(C:lk ops l){o:Oper}{i j:Nat}(h:fV l o j=true)(hi:lB l i true=false):eH (vc ops o) i=false:=by
 cases hh:eH (vc ops o) i with
 |false=>rfl
 |true=>
  have:=rM C (vg h) (fun x hx=>by simp at hx) i (Et hh)
  rw[lG _ _ hi]at this
  cases this
theorem mV{P:Program}{ops:List Oper}{K:Env->Heap->Prop}:∀(n:Nat)(l:List Bool)(e:Env)(h:Heap)(S S':ka),(∀s,s∈S'->s∈S\/∀g,s.2 g)->zV P ops K n l e h S->zV P ops K n l e h S'
 |0,_,_,_,_,_,_,H=>H
 |n+1,l,e,h,S,S',hs,H=>by
  refine⟨H.1,fun i o hi=>hJ (fun v h' hv=>⟨fun hq=>mV n _ _ _ _ _ hs (hv.1 hq),fun hq=> ?_⟩) (H.2 i o hi)⟩
  obtain⟨h1,h2⟩:=hv.2 hq
  have Hc:∀s,s∈lh ops o S'->s∈lh ops o S\/∀g,s.2 g:=fun s hm=>by
   rw[KP]at*
   rcases hs _ hm.1 with h|h
   ·exact .inl ⟨h,hm.2⟩
   ·exact .inr h
  exact⟨fun s hm=>(Hc s hm).elim (h1 s) fun k=>k _,mV n _ _ _ _ _ Hc h2⟩
theorem wV{P:Program}{ops:List Oper}{K:Env->Heap->Prop}(hp:fp ops ops 0=true){i:Nat}{oi:Oper}{v:Value}(hi:gG ops i=some oi)(hq:(u9 oi.op||zR oi.op)=true)(p:Heap->Prop):
 ∀(n:Nat)(l:List Bool)(e:Env)(h:Heap)(S:ka),lk ops l->(∀g,p g->Yv P ops e g oi v)->fV l oi i=true->Yv P ops e h oi v->
  zV P ops K n (iu l i) (put e oi.dst v) h ((i,p)::S)->zV P ops K (n+1) l e h S:=by
 intro n
 induction n with
 |zero=>
  intro l e h S C hpy hr hy H
  refine⟨fun h0=> ?_,fun j oj hj=> ?_⟩
  ·have:=cG.2 ⟨hi,hr⟩;rw[h0]at this;cases this
  ·obtain⟨Qc,Ug⟩:=cG.1 hj
   by_cases UX:j=i
   ·subst UX
    obtain rfl:oj=oi:=by rw[hi]at Qc;exact(Option.some.inj Qc).symm
    rw[jF hq]
    exact⟨v,hy,fun _=>⟨H.1,H.2⟩,fun hc=>by rw[hq]at hc;cases hc⟩
   ·have:=cG.2 ⟨Qc,od Ug UX⟩
    rw[H.1]at this;cases this
 |succ n ih=>
  intro l e h S C hpy hr hy H
  refine⟨fun h0=> ?_,fun j oj hj=> ?_⟩
  ·have:=cG.2 ⟨hi,hr⟩;rw[h0]at this;cases this
  ·obtain⟨Qc,Ug⟩:=cG.1 hj
   by_cases UX:j=i
   ·subst UX
    obtain rfl:oj=oi:=by rw[hi]at Qc;exact(Option.some.inj Qc).symm
    rw[jF hq]
    exact⟨v,hy,fun _=>mV _ _ _ _ _ _ (fun s hs=> .inl (by simp[hs])) H,fun hc=>by rw[hq]at hc;cases hc⟩
   ·have hli:lB l i true=false:=(ia.1 hr).1
    have hlj:lB l j true=false:=(ia.1 Ug).1
    have hnj:jx oj i=false:=Jj Ug hli
    have hni:jx oi j=false:=Jj hr hlj
    obtain⟨a1,a2,a3⟩:=Mv hp hi Qc UX hnj hni
    have H1:=H.2 j oj (cG.2 ⟨Qc,od Ug UX⟩)
    rw[KO a1]at H1
    have hri:fV (iu l j) oi i=true:=od hr (Ne.symm UX)
    by_cases hqj:(u9 oj.op||zR oj.op)=true
    ·rw[jF hqj]at H1⊢
     obtain⟨u,hu,H2⟩:=H1
     refine⟨u,hu,fun _=> ?_,fun hc=>by rw[hqj]at hc;cases hc⟩
     refine ih (iu l j) (put e oj.dst u) h S (C.set Qc Ug) (fun g hg=>by rw[BX a3];exact hpy g hg) hri (by rw[BX a3];exact hy) ?_
     rw[tj,<-put_comm a2]
     exact H2.1 hqj
    ·have ael:(u9 oj.op||zR oj.op)=false:=by simpa using hqj
     refine hJ (fun u h' H2=>⟨fun hc=>absurd hc hqj,fun _=> ?_⟩) H1
     obtain⟨h3,h4⟩:=H2.2 ael
     have hk:lh ops oj ((i,p)::S)=(i,p)::lh ops oj S:=by simp[lh,qw,Mw C Ug hli]
     rw[hk]at h3 h4
     refine⟨fun s hs=>h3 s (by simp[hs]),?_⟩
     refine ih (iu l j) (put e oj.dst u) h' (lh ops oj S) (C.set Qc Ug) (fun g hg=>by rw[BX a3];exact hpy g hg) hri ?_ ?_
     ·rw[BX a3]
      exact hpy _ (h3 (i,p) (by simp))
     ·rw[tj,<-put_comm a2]
      exact h4
theorem oh:∀{r:List (Nat×Oper)}{x:Nat×Oper},cU r=some x->x∈r/\(u9 x.2.op||zR x.2.op)=true
 |[],_,h=>by simp[cU]at h
 |(i,o)::r,x,h=>by
  unfold cU at h
  cases hq:(u9 o.op||zR o.op)with
  |true=>rw[hq]at h;simp only[Option.some.injEq]at h;subst h;exact⟨by simp,hq⟩
  |false=>rw[hq]at h;have:=oh h;exact⟨by simp[this.1],this.2⟩
theorem nK:∀{r:List (Nat×Oper)},cU r=none->∀x,x∈r->(u9 x.2.op||zR x.2.op)=false
 |[],_,x,hx=>by simp at hx
 |(i,o)::r,h,x,hx=>by
  unfold cU at h
  cases hq:(u9 o.op||zR o.op)with
  |true=>rw[hq]at h;cases h
  |false=>
   rw[hq]at h
   rcases List.mem_cons.1 hx with rfl|hx
   ·exact hq
   ·exact nK h x hx
theorem Ax{h:Heap}{K:Prop}:∀{S:ka},Mu h K S->(∀s,s∈S->s.2 h)/\K
 |[],H=>⟨fun s hs=>by simp at hs,H⟩
 |(i,p)::S,H=>by
  obtain⟨h1,h2⟩:=H
  obtain⟨h3,h4⟩:=Ax h2
  refine⟨fun s hs=> ?_,h4⟩
  rcases List.mem_cons.1 hs with h|h
  ·rw[h];exact h1
  ·exact h3 s h
theorem Ay{f:Nat->Oper->Prop}:∀{r:List (Nat×Oper)},Ha f r->∀i o,(i,o)∈r->f i o
 |[],_,i,o,h=>by simp at h
 |[(j,x)],H,i,o,h=>by simp at h;obtain⟨rfl,rfl⟩:=h;exact H
 |(j,x)::y::r,H,i,o,h=>by
  rcases List.mem_cons.1 h with h|h
  ·cases h;exact H.1
  ·exact Ay H.2 i o h
theorem iC{P:Program}{ops:List Oper}{K:Env->Heap->Prop}(hp:fp ops ops 0=true):∀(n:Nat)(l:List Bool)(e:Env)(h:Heap)(S:ka),lk ops l->lF P ops K n l e h S->zV P ops K n l e h S
 |0,l,e,h,S,C,H=>by
  unfold lF at H
  cases hr:aZ ops 0 l with
  |nil=>rw[hr]at H;exact⟨hr,H⟩
  |cons x xs=>rw[hr]at H;exact H.elim
 |n+1,l,e,h,S,C,H=>by
  unfold lF at H
  cases hq:cU (aZ ops 0 l)with
  |some x=>
   obtain⟨i,o⟩:=x
   obtain⟨hm,hqq⟩:=oh hq
   obtain⟨ho,hr⟩:=cG.1 hm
   rw[hq]at H
   simp only at H
   cases hpu:u9 o.op with
   |true=>
    rw[hpu]at H
    simp only at H
    rw[jF hqq]at H
    obtain⟨v,hv,H⟩:=H
    exact wV hp ho hqq (fun _=>True) n l e h S C (fun g _=>Qw hpu hv g) hr hv
     (mV _ _ _ _ _ _ (fun s hs=>(List.mem_cons.1 hs).elim (fun h=> .inr fun _=>by rw[h];trivial) .inl) (iC hp n _ _ _ _ (C.set ho hr) H))
   |false=>
    rw[hpu]at H
    simp only at H
    rw[jF hqq]at H
    obtain⟨v,hv,H⟩:=H
    exact wV hp ho hqq _ n l e h S C (fun g hg=>hg) hr hv (iC hp n _ _ _ _ (C.set ho hr) H)
  |none=>
   rw[hq]at H
   simp only at H
   cases hr:aZ ops 0 l with
   |nil=>
    rw[hr]at H
    exact⟨fun _=>H,fun i o hi=>by rw[hr]at hi;cases hi⟩
   |cons x xs=>
    rw[hr]at H
    simp only at H
    refine⟨fun h0=>(by rw[hr]at h0;cases h0),fun i o hi=> ?_⟩
    rw[hr]at hi
    have H1:=Ay H i o hi
    obtain⟨ho,UY⟩:=cG.1 (by rw[hr];exact hi:(i,o)∈aZ ops 0 l)
    refine hJ (fun v h' hv=>⟨fun hc=> ?_,fun _=> ?_⟩) H1
    ·have:=nK hq (i,o) (by rw[hr];exact hi)
     rw[hc]at this;cases this
    ·obtain⟨h1,h2⟩:=Ax hv
     exact⟨h1,iC hp n _ _ _ _ (C.set ho UY) h2⟩
theorem wc(l:Array Bool)(i:Nat)(d:Bool):lB l.toList i d=l.getD i d:=by
 have key:∀(l:List Bool)(i:Nat),lB l i d=l[i]?.getD d:=by
  intro l
  induction l with
  |nil=>intro i;simp[lB]
  |cons x xs ih=>intro i;cases i<;>simp[lB,ih]
 rw[key];simp
theorem vh(l:Array Bool)(i:Nat):iu l.toList i=(l.setIfInBounds i true).toList:=by
 have key:∀(l:List Bool)(i:Nat),iu l i=l.set i true:=by
  intro l
  induction l with
  |nil=>intro i;rfl
  |cons x xs ih=>intro i;cases i<;>simp[iu,ih]
 rw[key];simp
theorem qM{ops:Array Oper}{l:Array Bool}{i:Nat}:i∈Region.ready .any ops l↔∃o,(i,o)∈aZ ops.toList 0 l.toList:=by
 rw[mem_ready]
 constructor
 ·rintro⟨h0,o,ho,h⟩
  refine⟨o,cG.2 ⟨by rw[pE];exact ho,ia.2 ⟨by rw[wc];exact h0,fun e he hb=>by rw[wc];exact h e he hb⟩⟩⟩
 ·rintro⟨o,h⟩
  obtain⟨ho,hr⟩:=cG.1 h
  obtain⟨h0,h1⟩:=ia.1 hr
  exact⟨by rw[<-wc];exact h0,o,by rw[<-pE];exact ho,fun e he hb=>by rw[<-wc];exact h1 e he hb⟩
theorem Az{ops:Array Oper}{l:Array Bool}:Region.ready .any ops l=[]↔aZ ops.toList 0 l.toList=[]:=by
 constructor
 ·intro h
  cases hr:aZ ops.toList 0 l.toList with
  |nil=>rfl
  |cons x xs=>
   have:x.1∈Region.ready .any ops l:=qM.2 ⟨x.2,by rw[hr];simp⟩
   rw[h]at this;cases this
 ·intro h
  cases hr:Region.ready .any ops l with
  |nil=>rfl
  |cons x xs=>
   obtain⟨o,ho⟩:=qM.1 (show x∈Region.ready .any ops l by rw[hr];simp)
   rw[h]at ho;cases ho
theorem lH{P:Program}{ops:Array Oper}{Q:Exit->Act->World->Prop}{K:Env->Heap->Prop}{w0:World}(hQ:∀a w,cN w0 w->K a.tmps.toList w.heap->a.defers=[]->Q .normal a w):
 ∀(n:Nat)(l:Array Bool)(a:Act)(w:World)(S:ka),a.defers=[]->cN w0 w->zV P ops.toList K n l.toList a.tmps.toList w.heap S->wpAny P .any ops Q n l a w
 |0,l,a,w,S,hd,hs,H=>⟨Az.2 H.1,hQ a w hs H.2 hd⟩
 |n+1,l,a,w,S,hd,hs,H=>by
  refine⟨fun h=>hQ a w hs (H.1 (Az.1 h)) hd,fun i hi=> ?_⟩
  obtain⟨o,ho⟩:=qM.1 hi
  refine qv (by rw[<-pE];exact(cG.1 ho).1) (hJ (fun v h' hv=> ?_) (H.2 i o ho))
  intro w' hw' hh'
  subst hh'
  have Qb:(a.put o.dst v).defers=[]:=by rw[put_defers];exact hd
  cases hq:(u9 o.op||zR o.op)with
  |true=>
   have:=hv.1 hq
   rw[vh,<-qG]at this
   exact lH hQ n _ _ _ _ Qb (hs.trans hw') this
  |false=>
   have:=(hv.2 hq).2
   rw[vh,<-qG]at this
   exact lH hQ n _ _ _ _ Qb (hs.trans hw') this
theorem qx{P:Program}{ops:Array Oper}{Q:Exit->Act->World->Prop}{K:Env->Heap->Prop}{w0:World}(hQ:∀a w,cN w0 w->K a.tmps.toList w.heap->a.defers=[]->Q .normal a w):
 ∀(l:List Oper)(k:Nat)(a:Act)(w:World),(∀j,gG l j=gG ops.toList (k+j))->a.defers=[]->cN w0 w->wpIn P ops.toList l a.tmps.toList w.heap K->wpOps P ops Q (List.range' k l.length) a w
 |[],k,a,w,_,hd,hs,H=>by simpa[wpOps]using hQ a w hs H hd
 |o::os,k,a,w,hl,hd,hs,H=>by
  simp only[List.length_cons,List.range'_succ]
  rw[wpOps_cons]
  have ho:ops[k]?=some o:=by rw[<-pE];have:=hl 0;simp only[gG,Nat.add_zero]at this;exact this.symm
  refine qv ho (hJ (fun v h' hv=> ?_) H)
  intro w' hw' hh'
  subst hh'
  refine qx hQ os (k+1) _ _ (fun j=> ?_) (by rw[put_defers];exact hd) (hs.trans hw') (by rw[qG];exact hv)
  have:=hl (j+1)
  simp only[gG]at this
  rw[this,show k+(j+1)=k+1+j by omega]
def mW:List Oper->List Bool
 |[]=>[]
 |_::os=>false::mW os
def len:List Oper->Nat
 |[]=>0
 |_::os=>len os+1
def Qx(P:Program)(ops:List Oper)(draw:Bool)(e:Env)(h:Heap)(K:Env->Heap->Prop):Prop:=
 match draw with
 |false=>wpIn P ops ops e h K
 |true=>match fp ops ops 0 with
  |true=>lF P ops K (len ops) (mW ops) e h []
  |false=>False
def zW:List Oper->List Nat
 |[]=>[]
 |o::os=>match o.dst with
  |some d=>d::zW os
  |none=>zW os
def writes:Code->List Nat
 | .region _ ops _=>zW ops.toList
 | .seq a b=>writes a++writes b
 | .cond _ a b=>writes a++writes b
 | .block _ c=>writes c
 | .loop c=>writes c
 |_=>[]
def kb:Nat->(List Value->Prop)->Prop
 |0,f=>f []
 |n+1,f=>∀v,kb n fun vs=>f (v::vs)
def iy:List Nat->Nat
 |[]=>0
 |_::xs=>iy xs+1
def AA(P:Program)(an:Nat->Option (List Nat)):Code->Nat->(Env->Heap->Prop)->(Nat->Env->Heap->Prop)->(Env->Heap->Prop)->Env->Heap->Prop
 | .skip,_,kn,_,_,e,h=>kn e h
 | .region _ ops draw,_,kn,_,_,e,h=>Qx P ops.toList draw e h kn
 | .seq a b,p,kn,kx,kr,e,h=>match an p with
   |none=>AA P an a (2*p) (fun e' h'=>AA P an b (2*p+1) kn kx kr e' h') kx kr e h
   |some L=>∃J:List Value->Heap->Prop,AA P an a (2*p) (fun e' h'=>J (eB e' L) h') kx kr e h/\
    ∀(tm:Nat->Value),kb (iy L) fun vs=>∀h':Heap,J vs h'->AA P an b (2*p+1) kn kx kr (jv (fO e tm (writes a)) L vs) h'
 | .cond c a b,p,kn,kx,kr,e,h=>Mr (ev e c) (AA P an a (2*p) kn kx kr e h) (AA P an b (2*p+1) kn kx kr e h)
 | .block id c,p,kn,kx,kr,e,h=>AA P an c (2*p) kn (fun i e' h'=>match Nat.beq i id with
   |true=>kn e' h'
   |false=>kx i e' h') kr e h
 | .loop c,p,_,kx,kr,e,h=>match an p with
   |none=>False
   |some L=>∃(I:List Value->Heap->Prop)(μ:List Value->Heap->Nat),I (eB e L) h/\
    ∀(tm:Nat->Value),kb (iy L) fun vs=>∀h':Heap,I vs h'->
     AA P an c (2*p) (fun e'' k8=>I (eB e'' L) k8/\μ (eB e'' L) k8<μ vs h') kx kr (jv (fO e tm (writes c)) L vs) h'
 | .exit id,_,_,kx,_,e,h=>kx id e h
 | .ret,_,_,_,kr,e,h=>kr e h
 | .label _,_,kn,_,_,e,h=>kn e h
 |_,_,_,_,_,_,_=>False
structure pI(D:List Nat)(e e':Env):Prop where
 len:e'.length=e.length
 same:∀t,t∉D->eK e' t=eK e t
theorem pI.refl(D:List Nat)(e:Env):pI D e e:=⟨rfl,fun _ _=>rfl⟩
theorem pI.trans{D:List Nat}{a b c:Env}(h:pI D a b)(k:pI D b c):pI D a c:=⟨k.len.trans h.len,fun t ht=>(k.same t ht).trans (h.same t ht)⟩
theorem pI.mono{D D':List Nat}{a b:Env}(h:pI D a b)(hD:∀t,t∈D->t∈D'):pI D' a b:=⟨h.len,fun t ht=>h.same t fun hm=>ht (hD t hm)⟩
theorem pI.put{D:List Nat}{a b:Env}(h:pI D a b){dst:Option Tmp}(hd:∀d,dst=some d->d∈D)(v:Value):pI D a (put b dst v):=by
 cases dst with
 |none=>exact h
 |some d=>
  refine⟨by simp only[Mx.put];rw[fa];exact h.len,fun t ht=> ?_⟩
  simp only[Mx.put]
  rw[fb _ _ _ _ fun he=>ht (by rw[<-he];exact hd d rfl)]
  exact h.same t ht
theorem oq:∀(D:List Nat)(e:Env)(j:Nat->Value),(fO e j D).length=e.length
 |[],_,_=>rfl
 |t::ts,e,j=>by simp only[fO];rw[oq ts,fa]
theorem AB:∀(D:List Nat)(e:Env)(j:Nat->Value)(t:Nat),t<e.length->eK (fO e j D) t=if t∈D then j t else eK e t
 |[],_,_,_,_=>by simp[fO]
 |d::ds,e,j,t,ht=>by
  simp only[fO]
  rw[AB ds _ _ _ (by rw[fa];exact ht)]
  by_cases h1:t∈ds
  ·simp[h1]
  ·simp only[h1,if_false,List.mem_cons,or_false]
   by_cases h2:t=d
   ·subst h2;simp[j9 _ _ _ ht]
   ·simp only[h2,if_false];exact fb _ _ _ _ (Ne.symm h2)
theorem vi:∀(L:List Nat)(e:Env),jv e L (eB e L)=e
 |[],_=>rfl
 |t::ts,e=>by
  have h0:ti e t (eK e t)=e:=BW _ _ (fa _ _ _) fun s hs=>by
   rw[fa]at hs
   by_cases h:t=s
   ·subst h;exact j9 _ _ _ hs
   ·exact fb _ _ _ _ h
  simp only[eB,jv,h0]
  exact vi ts e
theorem wW{D:List Nat}{e e':Env}(h:pI D e e')(L:List Nat):jv (fO e (eK e') D) L (eB e' L)=e':=by
 have h0:fO e (eK e') D=e':=BW _ _ (by rw[oq,h.len]) fun t ht=>by
  rw[oq]at ht
  rw[AB _ _ _ _ ht]
  by_cases hm:t∈D
  ·simp[hm]
  ·simp[hm,h.same t hm]
 rw[h0]
 exact vi L e'
theorem kE:∀(L:List Nat)(e:Env),(eB e L).length=iy L
 |[],_=>rfl
 |_::ts,e=>by simp[eB,iy,kE ts e]
theorem mX:∀(n:Nat)(f:List Value->Prop),kb n f->∀vs:List Value,vs.length=n->f vs
 |0,f,h,vs,hv=>by rw[List.eq_nil_of_length_eq_zero hv];exact h
 |n+1,f,h,[],hv=>by simp at hv
 |n+1,f,h,v::vs,hv=>mX n (fun vs=>f (v::vs)) (h v) vs (by simpa using hv)
def ou(D:List Nat)(kn:Env->Heap->Prop)(kx:Nat->Env->Heap->Prop)(kr:Env->Heap->Prop)(e0:Env)(w0:World):Exit->Act->World->Prop
 | .normal,a,w=>a.defers=[]/\cN w0 w/\pI D e0 a.tmps.toList/\kn a.tmps.toList w.heap
 | .exit id,a,w=>a.defers=[]/\cN w0 w/\pI D e0 a.tmps.toList/\kx id a.tmps.toList w.heap
 | .ret,a,w=>a.defers=[]/\cN w0 w/\pI D e0 a.tmps.toList/\kr a.tmps.toList w.heap
 |_,_,_=>False
theorem ou.weaken{D D':List Nat}{kn pJ:Env->Heap->Prop}{kx rN:Nat->Env->Heap->Prop}{kr:Env->Heap->Prop}{e0 e1:Env}{w0 w1:World}(hD:∀t,t∈D->t∈D')(hw:cN w0 w1)(he:pI D' e0 e1)
 (hn:∀e h,kn e h->pJ e h) (hx:∀i e h,kx i e h->rN i e h) {x:Exit} {a:Act} {w:World} (H:ou D kn kx kr e1 w1 x a w):ou D' pJ rN kr e0 w0 x a w:=by
 cases x<;>first
  |exact⟨H.1,hw.trans H.2.1,he.trans (H.2.2.1.mono hD),hn _ _ H.2.2.2⟩
  |exact⟨H.1,hw.trans H.2.1,he.trans (H.2.2.1.mono hD),hx _ _ _ H.2.2.2⟩
  |exact⟨H.1,hw.trans H.2.1,he.trans (H.2.2.1.mono hD),H.2.2.2⟩
  |exact H
theorem ou.BZ{D D':List Nat}{kn pJ:Env->Heap->Prop}{kx:Nat->Env->Heap->Prop}{kr:Env->Heap->Prop}{e0 e1:Env}{w0 w1:World}(hD:∀t,t∈D->t∈D')(hw:cN w0 w1)(he:pI D' e0 e1)
 {x:Exit} {a:Act} {w:World} (hx:x≠ .normal) (H:ou D kn kx kr e1 w1 x a w):ou D' pJ kx kr e0 w0 x a w:=by
 cases x<;>first
  |exact absurd rfl hx
  |exact⟨H.1,hw.trans H.2.1,he.trans (H.2.2.1.mono hD),H.2.2.2⟩
  |exact H
theorem rO:∀(ops:List Oper)(j:Nat)(o:Oper),gG ops j=some o->∀d,o.dst=some d->d∈zW ops
 |[],j,o,h,_,_=>by simp[gG]at h
 |x::xs,0,o,h,d,hd=>by simp only[gG,Option.some.injEq]at h;subst h;simp[zW,hd]
 |x::xs,j+1,o,h,d,hd=>by
  have:=rO xs j o h d hd
  unfold zW
  cases x.dst<;>simp[this]
theorem Eu{P:Program}{ops:List Oper}{K:Env->Heap->Prop}{e0:Env}{D:List Nat}:∀(l:List Oper)(e:Env)(h:Heap),(∀j o,gG l j=some o->∀d,o.dst=some d->d∈D)->pI D e0 e->wpIn P ops l e h K->wpIn P ops l e h fun e' h'=>pI D e0 e'/\K e' h'
 |[],e,h,_,ho,H=>⟨ho,H⟩
 |o::os,e,h,hl,ho,H=>hJ (fun v h' hv=>Eu os _ _ (fun j x hx=>hl (j+1) x hx) (ho.put (hl 0 o rfl) v) hv) H
theorem wX{P:Program}{ops:List Oper}{K:Env->Heap->Prop}{e0:Env}:∀(n:Nat)(l:List Bool)(e:Env)(h:Heap)(S:ka),pI (zW ops) e0 e->zV P ops K n l e h S->zV P ops (fun e' h'=>pI (zW ops) e0 e'/\K e' h') n l e h S
 |0,l,e,h,S,ho,H=>⟨H.1,ho,H.2⟩
 |n+1,l,e,h,S,ho,H=>⟨fun h0=>⟨ho,H.1 h0⟩,fun i o hi=>hJ (fun v h' hv=>
  ⟨fun hq=>wX n _ _ _ _ (ho.put (rO ops i o (cG.1 hi).1) v) (hv.1 hq),fun hq=>⟨(hv.2 hq).1,wX n _ _ _ _ (ho.put (rO ops i o (cG.1 hi).1) v) (hv.2 hq).2⟩⟩) (H.2 i o hi)⟩
theorem UZ(ops:Array Oper):Mx.len ops.toList=ops.size:=by
 have key:∀l:List Oper,Mx.len l=l.length:=by intro l;induction l<;>simp[Mx.len, *]
 rw[key];simp
theorem AD:∀(l:List Oper)(j:Nat),lB (mW l) j false=false
 |[],_=>rfl
 |_::_,0=>rfl
 |_::l,j+1=>AD l j
theorem zY(ops:List Oper):lk ops (mW ops):=fun j o _ h=>by rw[AD]at h;cases h
theorem KR(ops:Array Oper):mW ops.toList=(Array.replicate ops.size false).toList:=by
 have key:∀l:List Oper,mW l=List.replicate l.length false:=by
  intro l
  induction l with
  |nil=>rfl
  |cons x xs ih=>simp[mW,ih,List.replicate_succ]
 rw[key];simp
theorem KS{P:Program}(hm:P.follows .mixedOrders=true)(an:Nat->Option (List Nat)):∀(c:Code)(p:Nat)(kn:Env->Heap->Prop)(kx:Nat->Env->Heap->Prop)(kr:Env->Heap->Prop)(a:Act)(w:World),
 a.defers=[]->AA P an c p kn kx kr a.tmps.toList w.heap->c.wp P (ou (writes c) kn kx kr a.tmps.toList w) a w:=by
 intro c
 induction c with
 |skip=>intro p kn kx kr a w hd H;exact wp_skip ⟨hd,cN.refl w,pI.refl _ _,H⟩
 |region id ops draw=>
  intro p kn kx kr a w hd H
  simp only[AA,Qx]at H
  cases draw with
  |false=>
   simp only at H
   have H':=Eu (D:=zW ops.toList) ops.toList _ _ (fun j o ho d hdd=>rO _ j o ho d hdd) (pI.refl _ _) H
   have:=qx (P:=P) (ops:=ops) (Q:=ou (zW ops.toList) kn kx kr a.tmps.toList w) (w0:=w) (fun a' w' hs hk Qb=>⟨Qb,hs,hk.1,hk.2⟩) ops.toList 0 a w (fun j=>by rw[Nat.zero_add]) hd (cN.refl w) H'
   refine wp_region ?_
   rw[List.range_eq_range']
   have hl:ops.toList.length=ops.size:=by simp
   rw[hl]at this
   exact this
  |true=>
   simp only at H
   cases hp:fp ops.toList ops.toList 0 with
   |false=>rw[hp]at H;exact H.elim
   |true=>
    rw[hp]at H
    simp only at H
    have H':=wX _ _ _ _ _ (pI.refl _ a.tmps.toList) (iC hp _ _ _ _ _ (zY _) H)
    rw[UZ,KR]at H'
    refine wp_region_any hm ?_
    exact lH (w0:=w) (fun a' w' hs hk Qb=>⟨Qb,hs,hk.1,hk.2⟩) ops.size _ a {w with drawn:=w.drawn+1} [] hd ⟨rfl,rfl,rfl⟩ H'
 |seq x y ihx ihy=>
  intro p kn kx kr a w hd H
  simp only[AA]at H
  refine wp_seq ?_
  cases hp:an p with
  |none=>
   rw[hp]at H
   refine wp_mono (ihx _ _ _ _ a w hd H) fun e a' w' hq=> ?_
   cases e with
   |normal=>
    obtain⟨h1,h2,h3,h4⟩:=hq
    exact wp_mono (ihy _ _ _ _ a' w' h1 h4) fun e a'' w'' hq'=>hq'.weaken (fun t ht=>List.mem_append_right _ ht) h2 (h3.mono fun t ht=>List.mem_append_left _ ht) (fun _ _ h=>h) (fun _ _ _ h=>h)
   |_=>exact ou.BZ (pJ:=kn) (D':=writes x++writes y) (fun t ht=>List.mem_append_left _ ht) (cN.refl w) (pI.refl _ _) (by simp) hq
  |some L=>
   rw[hp]at H
   obtain⟨J,H1,H2⟩:=H
   refine wp_mono (ihx _ _ _ _ a w hd H1) fun e a' w' hq=> ?_
   cases e with
   |normal=>
    obtain⟨h1,h2,h3,h4⟩:=hq
    have H3:=mX _ _ (H2 (eK a'.tmps.toList)) (eB a'.tmps.toList L) (kE _ _) _ h4
    rw[wW h3]at H3
    exact wp_mono (ihy _ _ _ _ a' w' h1 H3) fun e a'' w'' hq'=>hq'.weaken (fun t ht=>List.mem_append_right _ ht) h2 (h3.mono fun t ht=>List.mem_append_left _ ht) (fun _ _ h=>h) (fun _ _ _ h=>h)
   |_=>exact ou.BZ (pJ:=kn) (D':=writes x++writes y) (fun t ht=>List.mem_append_left _ ht) (cN.refl w) (pI.refl _ _) (by simp) hq
 |cond c x y ihx ihy=>
  intro p kn kx kr a w hd H
  simp only[AA]at H
  obtain⟨t,ht,h1,h2⟩:=H
  rw[eG]at ht
  refine wp_cond_split ht (fun h=> ?_) (fun h=> ?_)
  ·exact wp_mono (ihx _ _ _ _ a w hd (h1 h)) fun e a' w' hq=>hq.weaken (fun t ht=>List.mem_append_left _ ht) (cN.refl w) (pI.refl _ _) (fun _ _ h=>h) (fun _ _ _ h=>h)
  ·exact wp_mono (ihy _ _ _ _ a w hd (h2 h)) fun e a' w' hq=>hq.weaken (fun t ht=>List.mem_append_right _ ht) (cN.refl w) (pI.refl _ _) (fun _ _ h=>h) (fun _ _ _ h=>h)
 |block id x ih=>
  intro p kn kx kr a w hd H
  simp only[AA]at H
  refine wp_block (wp_mono (ih _ _ _ _ a w hd H) fun e a' w' hq=> ?_)
  cases e with
  |exit i=>
   obtain⟨h1,h2,h3,h4⟩:=hq
   simp only[Exit.inBlock]
   by_cases hi:i=id
   ·subst hi
    simp only[if_true]
    have hb:Nat.beq i i=true:=by simp
    rw[hb]at h4
    exact⟨h1,h2,h3,h4⟩
   ·simp only[hi,if_false]
    have hb:Nat.beq i id=false:=by
     cases hb:Nat.beq i id with
     |false=>rfl
     |true=>exact absurd (Nat.eq_of_beq_eq_true hb) hi
    rw[hb]at h4
    exact⟨h1,h2,h3,h4⟩
  |_=>exact hq
 |loop x ih=>
  intro p kn kx kr a w hd H
  simp only[AA]at H
  cases hp:an p with
  |none=>rw[hp]at H;exact H.elim
  |some L=>
   rw[hp]at H
   obtain⟨I,μ,H0,H1⟩:=H
   refine wp_loop (fun a' w'=>a'.defers=[]/\cN w w'/\pI (writes x) a.tmps.toList a'.tmps.toList/\I (eB a'.tmps.toList L) w'.heap) (fun a' w'=>μ (eB a'.tmps.toList L) w'.heap) ⟨hd,cN.refl w,pI.refl _ _,H0⟩ ?_
   rintro a' w' ⟨h1,h2,h3,h4⟩
   have H3:=mX _ _ (H1 (eK a'.tmps.toList)) (eB a'.tmps.toList L) (kE _ _) _ h4
   rw[wW h3]at H3
   refine wp_mono (ih _ _ _ _ a' w' h1 H3) fun e a'' w'' hq=> ?_
   cases e with
   |normal=>exact⟨⟨hq.1,h2.trans hq.2.1,h3.trans hq.2.2.1,hq.2.2.2.1⟩,hq.2.2.2.2⟩
   |_=>exact ou.BZ (pJ:=fun _ _=>True) (fun t ht=>ht) h2 h3 (by simp) hq
 |rangeFunc f params assign body=>intro p kn kx kr a w hd H;exact H.elim
 |exit id=>intro p kn kx kr a w hd H;exact wp_exit ⟨hd,cN.refl w,pI.refl _ _,H⟩
 |scope body=>intro p kn kx kr a w hd H;exact H.elim
 |label l=>intro p kn kx kr a w hd H;exact wp_label ⟨hd,cN.refl w,pI.refl _ _,H⟩
 |goto l=>intro p kn kx kr a w hd H;exact H.elim
 |ret=>intro p kn kx kr a w hd H;exact wp_ret ⟨hd,cN.refl w,pI.refl _ _,H⟩
 |refuse why=>intro p kn kx kr a w hd H;exact H.elim
def kF:Nat->Env
 |0=>[]
 |n+1=>undef::kF n
def oneOf:List Value->Value
 |[v]=>v
 |vs=> .tuple vs.toArray
def B3(P:Program)(e:Nat->Value)(h:Heap)(K:Value->Heap->Prop):List ResultVar->List Value->Prop
 |[],acc=>K (oneOf acc.reverse) h
 | .tmp t::rs,acc=>B3 P e h K rs (e t::acc)
 | .cell a t::rs,acc=>zU P (Instr.loadAt t (e a)) h fun v=>B3 P e h K rs (v::acc)
def My(P:Program)(rs:List ResultVar)(e:Env)(h:Heap)(K:Value->Heap->Prop):Prop:=B3 P (eK e) h K rs []
theorem Ev{P:Program}{fn:Func}{a:Array Value}{h:Heap}{K:Value->Heap->Prop}(H:My P fn.results.toList a.toList h K):∃v,(∀w:World,w.heap=h->(results fn a).run P w= .ok v w)/\K v h:=by
 have aep:∀(w:World),(results fn a).run P w=((fn.results.toList.mapM fun r=>(match r with
  | .tmp t=>pure (a.getD t undef)
  | .cell b t=>do loadVar t (<-asAddr (a.getD b undef)):Sem Value)).bind fun l=>Sem.pure (oneOf l)).run P w:=by
  intro w
  unfold results
  rw[Array.mapM_eq_mapM_toList]
  simp only[map_eq_pure_bind,bind_assoc,pure_bind]
  show Sem.run P (Sem.bind _ _) w=_
  rw[Sem.run_bind',Sem.run_bind']
  congr 1
  funext l w'
  match l with
  |[]=>rfl
  |[x]=>rfl
  |x::y::l=>simp[oneOf]
 have key:∀(rs:List ResultVar)(acc:List Value),B3 P (eK a.toList) h K rs acc->∃l,(∀w:World,w.heap=h->(rs.mapM fun r=>(match r with
  | .tmp t=>pure (a.getD t undef)
  | .cell b t=>do loadVar t (<-asAddr (a.getD b undef)):Sem Value)).run P w= .ok l w)/\K (oneOf (acc.reverse++l)) h:=by
  intro rs
  induction rs with
  |nil=>intro acc H;exact⟨[],fun w hw=>rfl,by simpa[B3]using H⟩
  |cons r rs ih=>
   intro acc H
   cases r with
   |tmp t=>
    obtain⟨l,h1,h2⟩:=ih _ H
    refine⟨a.getD t undef::l,fun w hw=> ?_,by simpa[jC]using h2⟩
    rw[List.mapM_cons]
    simp only[pure_bind]
    show Sem.run P (Sem.bind _ _) w=_
    rw[Sem.run_bind',h1 w hw]
    rfl
   |cell b t=>
    obtain⟨v,hv,H⟩:=H
    obtain⟨l,h1,h2⟩:=ih _ H
    refine⟨v::l,fun w hw=> ?_,by simpa using h2⟩
    rw[List.mapM_cons]
    have h3:(do loadVar t (<-asAddr (a.getD b undef)):Sem Value).run P w= .ok v w:=by
     have:=hv w hw
     unfold Instr.loadAt at this
     rw[<-jC]
     have e1:(do loadVar t (<-Instr.sureAddr (eK a.toList b)):Sem Value)=(Instr.sureAddr (eK a.toList b)).bind fun x=>loadVar t x:=rfl
     have e2:(do loadVar t (<-asAddr (eK a.toList b)):Sem Value)=(asAddr (eK a.toList b)).bind fun x=>loadVar t x:=rfl
     rw[e1]at this
     rw[e2]
     cases hx:eK a.toList b with
     |pointer q=>
      rw[hx]at this
      cases q with
      |some q=>exact this
      |none=>simp[Instr.sureAddr,stuck,Sem.bind,Sem.run]at this
     |_=>rw[hx]at this;simp[Instr.sureAddr,stuck,Sem.bind,Sem.run]at this
    show Sem.run P (Sem.bind _ _) w=_
    rw[Sem.run_bind',h3]
    show Sem.run P (Sem.bind _ _) w=_
    rw[Sem.run_bind',h1 w hw]
    rfl
 obtain⟨l,h1,h2⟩:=key _ _ H
 refine⟨oneOf l,fun w hw=> ?_,by simpa using h2⟩
 rw[aep,Sem.run_bind',h1 w hw]
 rfl
def Func.plain(fn:Func):Bool:= !(fn.name== "runtime.NumGoroutine")&&fn.body.isSome
theorem B4{P:Program}(hm:P.follows .mixedOrders=true){f:FuncId}{fn:Func}{c:Code}(hf:P.funcs[f]?=some fn)(hb:fn.body=some c)(hn:(fn.name== "runtime.NumGoroutine")=false)
 (an:Nat->Option (List Nat)) {args:List Value} {h:Heap} {K:Value->Heap->Prop} (n:Nat) (hk:fn.ntmps-args.length=n) (rs:List ResultVar) (hr:fn.results.toList=rs)
 (H:AA P an c 1 (fun e h=>My P rs e h K) (fun _ _ _=>False) (fun e h=>My P rs e h K) (args++kF n) h):aE P f args.toArray h K:=by
 refine⟨fun w hw=> ?_⟩
 refine .inr ⟨f,args.toArray,w,?_,rfl,?_⟩
 ·show Sem.run P (Sem.bind program _) w=_
  rw[Sem.run_bind']
  have hn':¬fn.name= "runtime.NumGoroutine" :=by simpa using hn
  simp[program,Sem.run,hf,hn',hb,pure]
 ·subst hw hr hk
  refine calls_of_wp hf hb ?_
  have hu:∀n,kF n=List.replicate n undef:=by intro n;induction n<;>simp[kF,List.replicate_succ, *]
  have e1:(args.toArray++Array.replicate (fn.ntmps-args.toArray.size) undef).toList=args++kF (fn.ntmps-args.length):=by
   rw[hu];simp
  have:=KS hm an c 1 _ _ _ {tmps:=args.toArray++Array.replicate (fn.ntmps-args.toArray.size) undef,defers:=[]} w rfl (by rw[e1];exact H)
  refine wp_mono this fun e a w' hq=> ?_
  cases e<;>first
   |exact hq.elim
   |exact hq.2.2.2.elim
   |(obtain⟨h1,h2,h3,h4⟩:=hq
     obtain⟨v,h5,h6⟩:=Ev h4
     exact⟨h1,v,h5 w' rfl,v,rfl,h2,h6⟩)
def Hd(fn:Func):Code:=
 match fn.body with
 |some c=>c
 |none=> .skip
def gN(op:BinOp)(t:TypeId)(a b:Value):Sem Value:=do eqGuard op t (.tmp 0) (.tmp 0) a b;binOp op t a b
def lI(op:BinOp)(t:TypeId)(x y:Operand)(a b:Value):Sem Value:=do eqGuard op t x y a b;binOp op t a b
def Jm(c a b:Value):Sem Value:=do pure (if<-asBool c then a else b)
def Mz(x:Value):Sem Value:=
 match x with
 | .pointer none| .nilIface| .nilFunc=>runtimePanic .nilDeref
 | .func (.method _) _ _=>stuck "a method value"
 |x=>pure x
def zZ(t:TypeId)(ty:TypeId)(x:Value):Sem Value:=Builtin.len_ #[t] ty #[x]
def bE(t u:TypeId)(ty:TypeId)(x y:Value):Sem Value:=Builtin.append_ #[t,u] ty #[x,y]
abbrev aV:=List (Nat×Value)
def lJ:aV->Nat->Value
 |[],_=>undef
 |(d,v)::A,t=>match Nat.beq d t with
  |true=>v
  |false=>lJ A t
def Jn{α:Sort _}:aV->Nat->(Value->α)->α
 |[],_,k=>k undef
 |(d,v)::A,t,k=>match Nat.beq d t with
  |true=>k v
  |false=>Jn A t k
theorem Ew{α:Sort _}:∀(A:aV)(t:Nat)(k:Value->α),Jn A t k=k (lJ A t)
 |[],_,_=>rfl
 |(d,v)::A,t,k=>by
  simp only[Jn,lJ]
  cases Nat.beq d t with
  |true=>rfl
  |false=>exact Ew A t k
def wY(n:Nat)(A:aV)(dst:Option Tmp)(v:Value):aV:=
 match dst with
 |some d=>match Nat.blt d n with
  |true=>(d,v)::A
  |false=>A
 |none=>A
def vj{α:Sort _}(n:Nat)(A:aV)(dst:Option Tmp)(v:Value)(k:aV->α):α:=
 match dst with
 |some d=>match Nat.blt d n with
  |true=>k ((d,v)::A)
  |false=>k A
 |none=>k A
theorem gO{α:Sort _}(n:Nat)(A:aV)(dst:Option Tmp)(v:Value)(k:aV->α):vj n A dst v k=k (wY n A dst v):=by
 cases dst with
 |none=>rfl
 |some d=>simp only[vj,wY];cases Nat.blt d n<;>rfl
def fh(A:aV):Operand->Value
 | .tmp t=>lJ A t
 | .const v=>v
 | .global g=> .pointer (some ⟨g,0,none⟩)
 | .func f=> .func (.func f) #[] #[]
def aa0{α:Sort _}(A:aV)(x:Operand)(k:Value->α):α:=
 match x with
 | .tmp t=>Jn A t k
 | .const v=>k v
 | .global g=>k (.pointer (some ⟨g,0,none⟩))
 | .func f=>k (.func (.func f) #[] #[])
theorem Qy{α:Sort _}(A:aV)(x:Operand)(k:Value->α):aa0 A x k=k (fh A x):=by
 cases x<;>first|rfl|exact Ew _ _ _
def Ex{α:Sort _}:List Bool->Nat->(List Bool->α)->α
 |[],_,k=>k []
 |_::bs,0,k=>k (true::bs)
 |b::bs,n+1,k=>Ex bs n fun l=>k (b::l)
theorem rP{α:Sort _}:∀(l:List Bool)(n:Nat)(k:List Bool->α),Ex l n k=k (iu l n)
 |[],_,_=>rfl
 |_::_,0,_=>rfl
 |b::bs,n+1,k=>by simp only[Ex,iu];rw[rP bs n]
structure tq(n:Nat)(A:aV)(e:Env):Prop where
 len:e.length=n
 get:∀t,eK e t=lJ A t
theorem tq.ev{n:Nat}{A:aV}{e:Env}(h:tq n A e):Mx.ev e=fh A:=by
 funext x
 cases x<;>simp only[Mx.ev,fh]
 exact h.get _
theorem tq.put{n:Nat}{A:aV}{e:Env}(h:tq n A e)(dst:Option Tmp)(v:Value):tq n (wY n A dst v) (Mx.put e dst v):=by
 cases dst with
 |none=>exact h
 |some d=>
  simp only[wY,Mx.put]
  cases hb:Nat.blt d n with
  |true=>
   have hd:d<n:=by simpa[Nat.blt_eq]using hb
   refine⟨by rw[fa];exact h.len,fun t=> ?_⟩
   simp only[lJ]
   cases hq:Nat.beq d t with
   |true=>
    have:=Nat.eq_of_beq_eq_true hq
    subst this
    exact j9 _ _ _ (by rw[h.len];exact hd)
   |false=>
    have dZ:d≠t:=fun e=>by subst e;simp at hq
    rw[fb _ _ _ _ dZ]
    exact h.get t
  |false=>
   have hd:¬d<n:=fun tt=>by rw[<-Nat.blt_eq]at tt;rw[hb]at tt;cases tt
   refine⟨by rw[fa];exact h.len,fun t=> ?_⟩
   by_cases dZ:d=t
   ·subst dZ
    rw[<-h.get,BV _ _ (by rw[fa,h.len];exact Nat.le_of_not_lt hd),BV _ _ (by rw[h.len];exact Nat.le_of_not_lt hd)]
   ·rw[fb _ _ _ _ dZ]
    exact h.get t
def wZ(P:Program)(A:aV)(op:Op)(ty:TypeId)(h:Heap)(K:Value->Heap->Prop):Prop:=
 match gv op with
 |some x=>aa0 A x fun v=>K v h
 |none=>fk P (fh A) op ty h K
theorem kG{P:Program}{A:aV}{op:Op}{ty:TypeId}{h:Heap}{K:Value->Heap->Prop}:wZ P A op ty h K=fk P (fh A) op ty h K:=by
 unfold wZ
 cases hm:gv op with
 |some x=>simp only[Qy];unfold fk;rw[hm]
 |none=>rfl
def iZ(ops:List Oper)(A:aV)(j:Nat):Value:=
 match wQ ops j with
 |some t=>lJ A t
 |none=>undef
theorem tq.qI{n:Nat}{A:aV}{e:Env}(h:tq n A e)(ops:List Oper)(j:Nat):Mx.qI ops e j=iZ ops A j:=by
 unfold Mx.qI iZ
 cases wQ ops j with
 |none=>rfl
 |some t=>exact h.get t
def lm(P:Program)(ops:List Oper)(A:aV)(h:Heap)(o:Oper)(k:Value->Heap->Prop):Prop:=
 match o.guard with
 |none=>wZ P A o.op o.type h k
 |some (j,want)=>GY (KK (iZ ops A j) want) want (wZ P A o.op o.type h) h k
theorem rQ{P:Program}{ops:List Oper}{n:Nat}{A:aV}{e:Env}(hr:tq n A e){h:Heap}{o:Oper}{k:Value->Heap->Prop}:lm P ops A h o k=jE P ops e h o k:=by
 have:wZ P A o.op o.type h=fk P (ev e) o.op o.type h:=funext fun _=>by rw[kG,hr.ev]
 have h2:wZ P A o.op o.type h k=fk P (ev e) o.op o.type h k:=by rw[this]
 unfold lm jE
 cases o.guard with
 |none=>exact h2
 |some p=>
  obtain⟨j,want⟩:=p
  simp only[this,hr.qI]
def MA(P:Program)(ops:List Oper)(A:aV)(g:Heap)(o:Oper)(v:Value):Prop:=
 match o.guard with
 |none=>Yx P (fh A) o.op o.type g v
 |some (j,want)=>∃b:Bool,KK (iZ ops A j) want= .bool b/\(b=want->Yx P (fh A) o.op o.type g v)/\(b≠want->v=undef)
theorem U0{P:Program}{ops:List Oper}{n:Nat}{A:aV}{e:Env}(hr:tq n A e){g:Heap}{o:Oper}{v:Value}:MA P ops A g o v=Yv P ops e g o v:=by
 unfold MA Yv
 cases o.guard with
 |none=>simp only[hr.ev]
 |some p=>obtain⟨j,want⟩:=p;simp only[hr.ev,hr.qI]
def AE(P:Program)(n:Nat)(ops:List Oper):List Oper->aV->Heap->(aV->Heap->Prop)->Prop
 |[],A,h,K=>K A h
 |o::os,A,h,K=>lm P ops A h o fun v h'=>vj n A o.dst v fun A'=>AE P n ops os A' h' K
theorem Ey{P:Program}{n:Nat}{ops:List Oper}{K:aV->Heap->Prop}{K':Env->Heap->Prop}(hK:∀A e h,tq n A e->K A h=K' e h):∀(l:List Oper)(A:aV)(e:Env)(h:Heap),tq n A e->AE P n ops l A h K=wpIn P ops l e h K'
 |[],A,e,h,hr=>hK A e h hr
 |o::os,A,e,h,hr=>by
  simp only[AE,wpIn,gO]
  rw[rQ hr]
  congr 1
  funext v h'
  exact Ey hK os _ _ _ (hr.put o.dst v)
def jy(P:Program)(n:Nat)(ops:List Oper)(K:aV->Heap->Prop):Nat->List Bool->aV->Heap->ka->Prop
 |0,l,A,h,_=>match aZ ops 0 l with
  |[]=>K A h
  |_::_=>False
 |m+1,l,A,h,S=>match cU (aZ ops 0 l)with
  |some (i,o)=>Ex l i fun l'=>match u9 o.op with
   |true=>lm P ops A h o fun v h'=>vj n A o.dst v fun A'=>jy P n ops K m l' A' h' S
   |false=>lm P ops A h o fun v h'=>vj n A o.dst v fun A'=>jy P n ops K m l' A' h' ((i,fun g=>MA P ops A g o v)::S)
  |none=>match aZ ops 0 l with
   |[]=>K A h
   |r::rs=>Ha (fun i o=>Ex l i fun l'=>lm P ops A h o fun v h'=>Mu h' (vj n A o.dst v fun A'=>jy P n ops K m l' A' h' (lh ops o S)) (lh ops o S)) (r::rs)
theorem xd{P:Program}{n:Nat}{ops:List Oper}{K:aV->Heap->Prop}{K':Env->Heap->Prop}(hK:∀A e h,tq n A e->K A h=K' e h):∀(m:Nat)(l:List Bool)(A:aV)(e:Env)(h:Heap)(S:ka),tq n A e->jy P n ops K m l A h S=lF P ops K' m l e h S
 |0,l,A,e,h,S,hr=>by
  simp only[jy,lF]
  cases aZ ops 0 l with
  |nil=>exact hK A e h hr
  |cons x xs=>rfl
 |m+1,l,A,e,h,S,hr=>by
  have ih:=fun l A e h S hr=>xd (P:=P) (n:=n) (ops:=ops) hK m l A e h S hr
  simp only[jy,lF,gO,rP]
  cases cU (aZ ops 0 l)with
  |some x=>
   obtain⟨i,o⟩:=x
   simp only
   have hy:∀v,(fun g=>MA P ops A g o v)=fun g=>Yv P ops e g o v:=fun v=>funext fun g=>U0 hr
   cases u9 o.op with
   |true=>simp only[rQ hr];congr 1;funext v h';exact ih _ _ _ _ _ (hr.put o.dst v)
   |false=>simp only[rQ hr,hy];congr 1;funext v h';exact ih _ _ _ _ _ (hr.put o.dst v)
  |none=>
   simp only
   cases aZ ops 0 l with
   |nil=>exact hK A e h hr
   |cons x xs=>
    simp only
    congr 1
    funext i o
    rw[rQ hr]
    congr 1
    funext v h'
    rw[ih _ _ _ _ _ (hr.put o.dst v)]
def MB(P:Program)(n:Nat)(ops:List Oper)(draw:Bool)(A:aV)(h:Heap)(K:aV->Heap->Prop):Prop:=
 match draw with
 |false=>AE P n ops ops A h K
 |true=>match fp ops ops 0 with
  |true=>jy P n ops K (len ops) (mW ops) A h []
  |false=>False
theorem Qz{P:Program}{n:Nat}{ops:List Oper}{K:aV->Heap->Prop}{K':Env->Heap->Prop}(hK:∀A e h,tq n A e->K A h=K' e h){draw:Bool}{A:aV}{e:Env}{h:Heap}(hr:tq n A e):MB P n ops draw A h K=Qx P ops draw e h K':=by
 unfold MB Qx
 cases draw with
 |false=>exact Ey hK _ _ _ _ hr
 |true=>simp only;rw[xd hK _ _ _ _ _ _ hr]
def dH(A:aV):List Nat->List Value
 |[]=>[]
 |t::ts=>lJ A t::dH A ts
def qN{α:Sort _}(n:Nat)(j:Nat->Value):List Nat->aV->(aV->α)->α
 |[],A,k=>k A
 |t::ts,A,k=>vj n A (some t) (j t) fun A'=>qN n j ts A' k
def rS{α:Sort _}(n:Nat):List Nat->List Value->aV->(aV->α)->α
 |[],_,A,k=>k A
 |_::_,[],A,k=>k A
 |t::ts,v::vs,A,k=>vj n A (some t) v fun A'=>rS n ts vs A' k
theorem tq.many{n:Nat}{A:aV}{e:Env}(h:tq n A e):∀L:List Nat,eB e L=dH A L
 |[]=>rfl
 |t::ts=>by simp only[eB,dH,h.get,h.many ts]
theorem tu{α:Sort _}{n:Nat}{j:Nat->Value}{k:aV->α}{k':Env->α}(hk:∀A e,tq n A e->k A=k' e):∀(L:List Nat)(A:aV)(e:Env),tq n A e->qN n j L A k=k' (fO e j L)
 |[],A,e,hr=>hk A e hr
 |t::ts,A,e,hr=>by
  simp only[qN,fO,gO]
  exact tu hk ts _ _ (hr.put (some t) (j t))
theorem xf{α:Sort _}{n:Nat}{k:aV->α}{k':Env->α}(hk:∀A e,tq n A e->k A=k' e):∀(L:List Nat)(vs:List Value)(A:aV)(e:Env),tq n A e->rS n L vs A k=k' (jv e L vs)
 |[],_,A,e,hr=>by simp only[rS,jv];exact hk A e hr
 |_::_,[],A,e,hr=>by simp only[rS,jv];exact hk A e hr
 |t::ts,v::vs,A,e,hr=>by
  simp only[rS,jv,gO]
  exact xf hk ts vs _ _ (hr.put (some t) v)
theorem qy{f g:List Value->Prop}(h:∀vs,f vs=g vs)(n:Nat):kb n f=kb n g:=by rw[funext h]
def B5(P:Program)(n:Nat)(an:Nat->Option (List Nat)):Code->Nat->(aV->Heap->Prop)->(Nat->aV->Heap->Prop)->(aV->Heap->Prop)->aV->Heap->Prop
 | .skip,_,kn,_,_,A,h=>kn A h
 | .region _ ops draw,_,kn,_,_,A,h=>MB P n ops.toList draw A h kn
 | .seq a b,p,kn,kx,kr,A,h=>match an p with
   |none=>B5 P n an a (2*p) (fun A' h'=>B5 P n an b (2*p+1) kn kx kr A' h') kx kr A h
   |some L=>∃J:List Value->Heap->Prop,B5 P n an a (2*p) (fun A' h'=>J (dH A' L) h') kx kr A h/\
    ∀(tm:Nat->Value),kb (iy L) fun vs=>∀h':Heap,J vs h'->qN n tm (writes a) A fun A1=>rS n L vs A1 fun A2=>B5 P n an b (2*p+1) kn kx kr A2 h'
 | .cond c a b,p,kn,kx,kr,A,h=>Mr (fh A c) (B5 P n an a (2*p) kn kx kr A h) (B5 P n an b (2*p+1) kn kx kr A h)
 | .block id c,p,kn,kx,kr,A,h=>B5 P n an c (2*p) kn (fun i A' h'=>match Nat.beq i id with
   |true=>kn A' h'
   |false=>kx i A' h') kr A h
 | .loop c,p,_,kx,kr,A,h=>match an p with
   |none=>False
   |some L=>∃(I:List Value->Heap->Prop)(μ:List Value->Heap->Nat),I (dH A L) h/\
    ∀(tm:Nat->Value),kb (iy L) fun vs=>∀h':Heap,I vs h'->qN n tm (writes c) A fun A1=>rS n L vs A1 fun A2=>
     B5 P n an c (2*p) (fun A'' k8=>I (dH A'' L) k8/\μ (dH A'' L) k8<μ vs h') kx kr A2 h'
 | .exit id,_,_,kx,_,A,h=>kx id A h
 | .ret,_,_,_,kr,A,h=>kr A h
 | .label _,_,kn,_,_,A,h=>kn A h
 |_,_,_,_,_,_,_=>False
theorem U1{P:Program}{n:Nat}{an:Nat->Option (List Nat)}:∀(c:Code)(p:Nat)(kn:aV->Heap->Prop)(kx:Nat->aV->Heap->Prop)(kr:aV->Heap->Prop)(pJ:Env->Heap->Prop)(rN:Nat->Env->Heap->Prop)(vk:Env->Heap->Prop)(A:aV)(e:Env)(h:Heap),
 tq n A e->(∀A e h,tq n A e->kn A h=pJ e h)->(∀i A e h,tq n A e->kx i A h=rN i e h)->(∀A e h,tq n A e->kr A h=vk e h)->B5 P n an c p kn kx kr A h=AA P an c p pJ rN vk e h:=by
 intro c
 induction c with
 |skip=>intro p kn kx kr pJ rN vk A e h hr h1 h2 h3;exact h1 A e h hr
 |region id ops draw=>intro p kn kx kr pJ rN vk A e h hr h1 h2 h3;exact Qz h1 hr
 |seq a b QA QB=>
  intro p kn kx kr pJ rN vk A e h hr h1 h2 h3
  simp only[B5,AA]
  cases an p with
  |none=>exact QA _ _ _ _ _ _ _ _ _ _ hr (fun A e h hr=>QB _ _ _ _ _ _ _ _ _ _ hr h1 h2 h3) h2 h3
  |some L=>
   simp only
   congr 1
   funext J
   rw[QA (2*p) (fun A' h'=>J (dH A' L) h') kx kr (fun e' h'=>J (eB e' L) h') rN vk A e h hr (fun A e h hr=>by rw[hr.many]) h2 h3]
   congr 1
   refine propext (forall_congr' fun tm=> ?_)
   rw[qy]
   intro vs
   refine propext (forall_congr' fun h'=> ?_)
   rw[tu (fun A1 e1 U2=>xf (fun A2 e2 hr2=>QB _ _ _ _ _ _ _ _ _ _ hr2 h1 h2 h3) L vs A1 e1 U2) _ _ _ hr]
 |cond c a b QA QB=>
  intro p kn kx kr pJ rN vk A e h hr h1 h2 h3
  simp only[B5,AA]
  rw[QA _ _ _ _ _ _ _ _ _ _ hr h1 h2 h3,QB _ _ _ _ _ _ _ _ _ _ hr h1 h2 h3,hr.ev]
 |block id c ih=>
  intro p kn kx kr pJ rN vk A e h hr h1 h2 h3
  simp only[B5,AA]
  refine ih _ _ _ _ _ _ _ _ _ _ hr h1 (fun i A e h hr=> ?_) h3
  cases Nat.beq i id with
  |true=>exact h1 A e h hr
  |false=>exact h2 i A e h hr
 |loop c ih=>
  intro p kn kx kr pJ rN vk A e h hr h1 h2 h3
  simp only[B5,AA]
  cases an p with
  |none=>rfl
  |some L=>
   simp only
   congr 1
   funext I
   congr 1
   funext μ
   rw[hr.many]
   congr 1
   refine propext (forall_congr' fun tm=> ?_)
   rw[qy]
   intro vs
   refine propext (forall_congr' fun h'=> ?_)
   rw[tu (fun A1 e1 U2=>xf (fun A2 e2 hr2=>ih (2*p) _ kx kr (fun e'' k8=>I (eB e'' L) k8/\μ (eB e'' L) k8<μ vs h') rN vk A2 e2 h' hr2 (fun A e h hr=>by rw[hr.many]) h2 h3) L vs A1 e1 U2) _ _ _ hr]
 |exit id=>intro p kn kx kr pJ rN vk A e h hr h1 h2 h3;exact h2 id A e h hr
 |ret=>intro p kn kx kr pJ rN vk A e h hr h1 h2 h3;exact h3 A e h hr
 |label l=>intro p kn kx kr pJ rN vk A e h hr h1 h2 h3;exact h1 A e h hr
 |_=>intros;rfl
def rT:List Value->Nat->aV
 |[],_=>[]
 |v::vs,i=>(i,v)::rT vs (i+1)
theorem xg:∀(vs:List Value)(i t:Nat),lJ (rT vs i) t=if t<i then undef else eK vs (t-i)
 |[],i,t=>by simp[rT,lJ,eK]
 |v::vs,i,t=>by
  simp only[rT,lJ]
  cases hq:Nat.beq i t with
  |true=>have:=Nat.eq_of_beq_eq_true hq;subst this;simp[eK]
  |false=>
   have dZ:i≠t:=fun e=>by subst e;simp at hq
   simp only[xg vs (i+1) t]
   by_cases h:t<i
   ·simp[h,show t<i+1 by omega]
   ·simp only[h,show¬t<i+1 by omega,if_false]
    rw[show t-i=(t-(i+1))+1 by omega]
    rfl
theorem MC(vs:List Value)(m n:Nat)(hn:vs.length+m=n):tq n (rT vs 0) (vs++kF m):=by
 have hu:∀m,(kF m).length=m/\∀t,eK (kF m) t=undef:=by
  intro m
  induction m with
  |zero=>exact⟨rfl,fun t=>rfl⟩
  |succ m ih=>refine⟨by simp[kF,ih.1],fun t=> ?_⟩;cases t<;>simp[kF,eK,ih.2]
 refine⟨by simp[(hu m).1,hn],fun t=> ?_⟩
 rw[xg]
 simp only[Nat.not_lt_zero,if_false,Nat.sub_zero]
 have key:∀(l:List Value)(t:Nat),eK (l++kF m) t=eK l t:=by
  intro l
  induction l with
  |nil=>intro t;simp[(hu m).2,eK]
  |cons x xs ih=>intro t;cases t<;>simp[eK,ih]
 exact key vs t
def MD(P:Program)(A:aV)(h:Heap)(K:Value->Heap->Prop)(rs:List ResultVar):Prop:=B3 P (lJ A) h K rs []
theorem B7{P:Program}(hm:P.follows .mixedOrders=true){f:FuncId}{fn:Func}{c:Code}(hf:P.funcs[f]?=some fn)(hb:fn.body=some c)(hn:(fn.name== "runtime.NumGoroutine")=false)
 (an:Nat->Option (List Nat)) {args:List Value} {h:Heap} {K:Value->Heap->Prop} (m n:Nat) (hk:fn.ntmps-args.length=m) (ME:args.length+m=n) (rs:List ResultVar) (hr:fn.results.toList=rs)
 (H:B5 P n an c 1 (fun A h=>MD P A h K rs) (fun _ _ _=>False) (fun A h=>MD P A h K rs) (rT args 0) h):aE P f args.toArray h K:=by
 refine B4 hm hf hb hn an m hk rs hr ?_
 have hg:∀(A:aV)(e:Env)(h:Heap),tq n A e->MD P A h K rs=My P rs e h K:=fun A e h hr=>by
  unfold MD My
  rw[show lJ A=eK e from funext fun t=>(hr.get t).symm]
 rw[<-U1 c 1 _ (fun _ _ _=>False) _ _ (fun _ _ _=>False) _ _ _ h (MC args m n ME) hg (fun _ _ _ _ _=>rfl) hg]
 exact H
end Go.Mx
