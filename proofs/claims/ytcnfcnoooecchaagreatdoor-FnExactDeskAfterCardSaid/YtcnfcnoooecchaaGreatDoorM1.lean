import Derived.Orders
import Derived.KernelRfl
import Derived.Laws.Sem
set_option linter.unusedVariables false
set_option linter.unusedSimpArgs false
namespace Go.Mx
abbrev Heap:=Array Obj
abbrev Env:=List Value
structure cN(w w':World):Prop where
 os:w'.os=w.os
 tape:w'.tape=w.tape
 output:w'.output=w.output
theorem cN.refl(w:World):cN w w:=⟨rfl,rfl,rfl⟩
theorem cN.trans{a b c:World}(h:cN a b)(k:cN b c):cN a c:=⟨k.os.trans h.os,k.tape.trans h.tape,k.output.trans h.output⟩
def eK:Env->Nat->Value
 |[],_=>undef
 |v::_,0=>v
 |_::vs,n+1=>eK vs n
def tz:Env->Nat->Value->Env
 |[],_,_=>[]
 |_::vs,0,u=>u::vs
 |v::vs,n+1,u=>v::tz vs n u
def put(e:Env)(dst:Option Tmp)(v:Value):Env:=
 match dst with
 |some d=>tz e d v
 |none=>e
def ev(e:Env):Operand->Value
 | .tmp t=>eK e t
 | .const v=>v
 | .global g=> .pointer (some ⟨g,0,none⟩)
 | .func f=> .func (.func f) #[] #[]
def mV(ρ:Operand->Value):List Operand->List Value
 |[]=>[]
 |x::xs=>ρ x::mV ρ xs
def eC(e:Env):List Nat->List Value
 |[]=>[]
 |t::ts=>eK e t::eC e ts
def jy(e:Env):List Nat->List Value->Env
 |[],_=>e
 |_::_,[]=>e
 |t::ts,v::vs=>jy (tz e t v) ts vs
def fR(e:Env)(j:Nat->Value):List Nat->Env
 |[]=>e
 |t::ts=>fR (tz e t (j t)) j ts
theorem eZ:∀(e:Env)(n:Nat)(v:Value),(tz e n v).length=e.length
 |[],_,_=>rfl
 |_::_,0,_=>rfl
 |_::vs,n+1,v=>by simp[tz,eZ vs n v]
theorem fa:∀(e:Env)(n m:Nat)(v:Value),n≠m->eK (tz e n v) m=eK e m
 |[],_,_,_,_=>rfl
 |_::_,0,0,_,h=>absurd rfl h
 |_::_,0,m+1,_,_=>rfl
 |_::_,n+1,0,_,_=>rfl
 |_::vs,n+1,m+1,v,h=>by simp only[tz,eK];exact fa vs n m v (by omega)
theorem ke:∀(e:Env)(n:Nat)(v:Value),n<e.length->eK (tz e n v) n=v
 |[],_,_,h=>by simp at h
 |_::_,0,_,_=>rfl
 |_::vs,n+1,v,h=>by simp only[tz,eK];exact ke vs n v (by simpa using h)
theorem BX:∀(e:Env)(n:Nat),e.length<=n->eK e n=undef
 |[],_,_=>rfl
 |_::_,0,h=>by simp at h
 |_::vs,n+1,h=>by simp only[eK];exact BX vs n (by simpa using h)
theorem BZ:∀(e e':Env),e.length=e'.length->(∀t,t<e.length->eK e t=eK e' t)->e=e'
 |[],[],_,_=>rfl
 |[],_::_,h,_=>by simp at h
 |_::_,[],h,_=>by simp at h
 |v::vs,u::us,h,k=>by
  have h0:=k 0 (by simp)
  simp only[eK]at h0
  rw[h0,BZ vs us (by simpa using h) fun t ht=>by have:=k (t+1) (by simpa using ht);simpa[eK]using this]
theorem Au(e:Env)(d:Nat)(v:Value):tz e d v=e.set d v:=by
 induction e generalizing d with
 |nil=>rfl
 |cons x xs ih=>cases d with
  |zero=>rfl
  |succ d=>simp[tz,ih]
theorem jE(a:Array Value)(t:Nat):eK a.toList t=a.getD t undef:=by
 have key:∀(l:List Value)(t:Nat),eK l t=l[t]?.getD undef:=by
  intro l
  induction l with
  |nil=>intro t;simp[eK]
  |cons x xs ih=>intro t;cases t with
   |zero=>simp[eK]
   |succ t=>simp[eK,ih]
 rw[key];simp
theorem qI(a:Act)(dst:Option Tmp)(v:Value):(a.put dst v).tmps.toList=put a.tmps.toList dst v:=by
 cases dst with
 |none=>rfl
 |some d=>simp[Act.put,put,Au]
theorem put_defers(a:Act)(dst:Option Tmp)(v:Value):(a.put dst v).defers=a.defers:=by cases dst<;>rfl
theorem eG(a:Act)(x:Operand):ev a.tmps.toList x=a.eval x:=by
 cases x<;>simp[ev,Act.eval,jE]
theorem QH(ρ:Operand->Value)(l:List Operand):mV ρ l=l.map ρ:=by induction l<;>simp[mV, *]
structure pop(P:Program)(s:Sem Value)(K:Value->Prop):Prop where
 out:∃v,(∀w,s.run P w= .ok v w)/\K v
structure zZ(P:Program)(s:Sem Value)(h:Heap)(K:Value->Prop):Prop where
 out:∃v,(∀w:World,w.heap=h->s.run P w= .ok v w)/\K v
structure jU(P:Program)(s:Sem Value)(h:Heap)(K:Value->Heap->Prop):Prop where
 out:∀w:World,w.heap=h->∃v w',s.run P w= .ok v w'/\cN w w'/\K v w'.heap
structure Aw(P:Program)(s:Sem Unit)(h:Heap)(K:Value->Heap->Prop):Prop where
 out:∀w:World,w.heap=h->∃w',s.run P w= .ok () w'/\cN w w'/\K undef w'.heap
def ME(P:Program)(f:FuncId)(args:Array Value)(w:World)(K:Value->Heap->Prop):Prop:=
 Calls P f args w fun e w'=>∃v,e= .returned v/\cN w w'/\K v w'.heap
structure aE(P:Program)(f:FuncId)(args:Array Value)(h:Heap)(K:Value->Heap->Prop):Prop where
 out:∀w:World,w.heap=h->(∃v w',(callFunc f args).run P w= .ok (.value v) w'/\cN w w'/\K v w'.heap)\/
  (∃f' Ax w',(callFunc f args).run P w= .ok (.enter f' Ax) w'/\w'=w/\ME P f' Ax w K)
def fD(P:Program)(v:Value)(args:List Value)(h:Heap)(K:Value->Heap->Prop):Prop:=
 match v with
 | .func (.func g) first cap=>aE P g (first.toList++args++cap.toList).toArray h K
 |_=>False
structure MF(v:Value)(A B:Prop):Prop where
 out:∃t:Bool,v= .bool t/\(t=true->A)/\(t=false->B)
structure Hg(v:Value)(want:Bool)(A:(Value->Heap->Prop)->Prop)(h:Heap)(K:Value->Heap->Prop):Prop where
 out:∃b:Bool,v= .bool b/\(b=want->A K)/\(b≠want->K undef h)
def jF(ρ:Operand->Value)(ty:TypeId):Op->Option (Sem Value)
 | .pick c a b=>some (do pure (if<-asBool (ρ c)then ρ a else ρ b))
 | .nilCheck x=>some (match ρ x with
   | .pointer none| .nilIface| .nilFunc=>runtimePanic .nilDeref
   | .func (.method _) _ _=>stuck "a method value"
   |x=>pure x)
 | .binOp op t x y _=>some (do eqGuard op t x y (ρ x) (ρ y);binOp op t (ρ x) (ρ y))
 | .unOp op _ x=>some (Op.unary op (ρ x))
 | .makeInterface t x=>some (Instr.makeInterface t (ρ x))
 | .makeFunc fn first captured=>some (Instr.makeFunc fn (mV ρ first.toList).toArray (mV ρ captured.toList).toArray)
 | .slice t x lo hi mx=>some (Instr.sliceAt t (ρ x) (lo.map ρ) (hi.map ρ) (mx.map ρ))
 | .fieldAddr s x f=>some (Instr.fieldAt s (ρ x) f)
 | .field t x f=>some (Instr.field t (ρ x) f)
 | .indexAddr t x ix=>some (Instr.indexAt t (ρ x) (ρ ix))
 | .index t x ix=>some (Instr.index t (ρ x) (ρ ix))
 | .extract t ix=>some (Instr.extract (ρ t) ix)
 | .build t parts=>some (Instr.build t (parts.toList.map fun p=>(p.1,ρ p.2)).toArray)
 | .call c=>match c.callee with
   | .builtin .len=>some (Builtin.len_ c.argTypes ty (mV ρ c.args.toList).toArray)
   | .builtin .cap=>some (Builtin.cap_ c.argTypes ty (mV ρ c.args.toList).toArray)
   | .builtin .max=>some (Builtin.max_ c.argTypes ty (mV ρ c.args.toList).toArray)
   | .builtin .min=>some (Builtin.min_ c.argTypes ty (mV ρ c.args.toList).toArray)
   |_=>none
 |_=>none
def oc(ρ:Operand->Value):Op->Option (Sem Value)
 | .load t a=>some (Instr.loadAt t (ρ a))
 | .convert src dst x=>some (convert src dst (ρ x))
 | .lookup t x ix ok=>some (Instr.lookup t (ρ x) (ρ ix) ok)
 | .typeAssert x abe asserted ok=>some (Instr.typeAssert (ρ x) abe asserted ok)
 |_=>none
def Er(ρ:Operand->Value)(ty:TypeId):Op->Option (Sem Value)
 | .alloc elem=>some (Instr.alloc elem true (.tuple #[]))
 | .box elem x=>some (Instr.box elem (ρ x))
 | .buildSlice t len parts=>some (Instr.buildSlice t len (parts.toList.map fun p=>(p.1,ρ p.2)).toArray)
 | .makeMap t r=>some (Instr.makeMap t (r.map ρ))
 | .makeSlice t l c=>some (Instr.makeSlice t (ρ l) (ρ c))
 | .range t x=>some (Instr.range t (ρ x))
 | .next it isString=>some (Instr.next (ρ it) isString ty)
 | .entry it=>some (Instr.entry (ρ it))
 | .call c=>match c.callee with
   | .builtin .append=>some (Builtin.append_ c.argTypes ty (mV ρ c.args.toList).toArray)
   | .builtin .copy=>some (Builtin.copy_ c.argTypes ty (mV ρ c.args.toList).toArray)
   |_=>none
 |_=>none
def Es(ρ:Operand->Value):Op->Option (Sem Unit)
 | .store t a x=>some (Instr.storeAt t (ρ a) (ρ x))
 | .mapUpdate t m k x| .insert t m k x=>some (Instr.mapUpdate t (ρ m) (ρ k) (ρ x))
 |_=>none
def gw:Op->Option Operand
 | .move x| .assign x=>some x
 |_=>none
def kD:Op->Option (Operand×Array Operand)
 | .call c=>match c.callee with
   | .value f=>some (f,c.args)
   |_=>none
 |_=>none
def fk(P:Program)(ρ:Operand->Value)(op:Op)(ty:TypeId)(h:Heap)(K:Value->Heap->Prop):Prop:=
 match gw op with
 |some x=>K (ρ x) h
 |none=>match kD op with
  |some (f,args)=>fD P (ρ f) (mV ρ args.toList) h K
  |none=>match jF ρ ty op with
   |some s=>pop P s fun v=>K v h
   |none=>match oc ρ op with
    |some s=>zZ P s h fun v=>K v h
    |none=>match Er ρ ty op with
     |some s=>jU P s h K
     |none=>match Es ρ op with
      |some s=>Aw P s h K
      |none=>False
theorem qJ{P:Program}{f:FuncId}{args:Array Value}{h:Heap}{K K':Value->Heap->Prop}(hk:∀v h,K v h->K' v h)(H:aE P f args h K):aE P f args h K':=by
 refine⟨fun w hw=> ?_⟩
 rcases H.out w hw with⟨v,w',h1,h2,h3⟩|⟨f',Ax,w',h1,h2,h3⟩
 ·exact .inl ⟨v,w',h1,h2,hk _ _ h3⟩
 ·exact .inr ⟨f',Ax,w',h1,h2,h3.mono fun e w'' ⟨v,a,b,c⟩=>⟨v,a,b,hk _ _ c⟩⟩
theorem kE{P:Program}{v:Value}{args:List Value}{h:Heap}{K K':Value->Heap->Prop}(hk:∀v h,K v h->K' v h)(H:fD P v args h K):fD P v args h K':=by
 unfold fD at*
 split at H
 ·exact qJ hk H
 ·exact H.elim
theorem jd{P:Program}{e:Operand->Value}{op:Op}{ty:TypeId}{h:Heap}{K K':Value->Heap->Prop}(hk:∀v h,K v h->K' v h)(H:fk P e op ty h K):fk P e op ty h K':=by
 unfold fk at*
 split
 ·rename_i x hx;simp only[hx]at H;exact hk _ _ H
 ·rename_i hx;simp only[hx]at H
  split
  ·rename_i f args hc;simp only[hc]at H;exact kE hk H
  ·rename_i hc;simp only[hc]at H
   split
   ·rename_i s hs;simp only[hs]at H;obtain⟨v,a,b⟩:=H;exact⟨v,a,hk _ _ b⟩
   ·rename_i hs;simp only[hs]at H
    split
    ·rename_i s hr;simp only[hr]at H;obtain⟨v,a,b⟩:=H;exact⟨v,a,hk _ _ b⟩
    ·rename_i hr;simp only[hr]at H
     split
     ·rename_i s he;simp only[he]at H
      exact⟨fun w hw=>let⟨v,w',a,b,c⟩:=H.out w hw;⟨v,w',a,b,hk _ _ c⟩⟩
     ·rename_i he;simp only[he]at H
      split
      ·rename_i s hu;simp only[hu]at H
       exact⟨fun w hw=>let⟨w',a,b,c⟩:=H.out w hw;⟨w',a,b,hk _ _ c⟩⟩
      ·rename_i hu;simp only[hu]at H
def Next.MG(P:Program)(w:World)(K:Value->Heap->Prop):Result Next->Prop
 | .ok (.value v) w'=>cN w w'/\K v w'.heap
 | .ok .skip w'=>cN w w'/\K undef w'.heap
 | .ok (.enter f args) w'=>w'=w/\ME P f args w K
 |_=>False
theorem mW{P:Program}{w:World}{K:Value->Heap->Prop}{s:Sem Value}{v:Value}{w':World}(h:s.run P w= .ok v w')(hs:cN w w')(hk:K v w'.heap):
 Next.MG P w K ((do let x<-s;pure (Next.value x):Sem Next).run P w):=by
 have:((do let x<-s;pure (Next.value x):Sem Next).run P w)= .ok (.value v) w':=by
  show(s.bind fun x=>Sem.pure (Next.value x)).run P w=_
  rw[Sem.run_bind',h];rfl
 rw[this];exact⟨hs,hk⟩
theorem QI{P:Program}{w:World}{K:Value->Heap->Prop}{s:Sem Unit}{w':World}(h:s.run P w= .ok () w')(hs:cN w w')(hk:K undef w'.heap):
 Next.MG P w K ((do s;pure Next.skip:Sem Next).run P w):=by
 have:((do s;pure Next.skip:Sem Next).run P w)= .ok .skip w':=by
  show(s.bind fun _=>Sem.pure Next.skip).run P w=_
  rw[Sem.run_bind',h];rfl
 rw[this];exact⟨hs,hk⟩
theorem kF(a:Act)(xs:Array Operand):xs.map a.eval=(mV (ev a.tmps.toList) xs.toList).toArray:=by
 rw[QH]
 apply Array.ext'
 simp only[Array.toList_map]
 exact List.map_congr_left fun x _=>(eG a x).symm
theorem ky(a:Act)(xs:Array (Nat×Operand)):(xs.map fun(i,x)=>(i,a.eval x))=(xs.toList.map fun p=>(p.1,ev a.tmps.toList p.2)).toArray:=by
 apply Array.ext'
 simp only[Array.toList_map]
 exact List.map_congr_left fun x _=>by rw[eG]
theorem vZ(a:Act)(x:Option Operand):x.map a.eval=x.map (ev a.tmps.toList):=by
 cases x<;>simp[eG]
theorem MH{P:Program}{w:World}{c a b v:Value}(h:(do pure (if<-asBool c then a else b):Sem Value).run P w= .ok v w):
 ((do pure (Next.value (if<-asBool c then a else b))):Sem Next).run P w= .ok (.value v) w:=by
 cases c<;>first|(simp[asBool,Sem.run,bind,pure,Sem.bind]at h⊢;exact h)|(simp[asBool,stuck,Sem.run,bind,pure,Sem.bind]at h)
theorem Et{P:Program}{a:Act}{o:Oper}{w:World}{K:Value->Heap->Prop}(H:fk P (ev a.tmps.toList) o.op o.type w.heap K):
 Next.MG P w K ((execOp a.eval o).run P w):=by
 obtain⟨dst,op,type,pos,after,guard⟩:=o
 simp only at H
 cases op<;>simp only[fk,gw,kD,jF,oc,Er,Es]at H
 case move x=>simp only[execOp];rw[<-eG];exact⟨cN.refl w,H⟩
 case assign x=>simp only[execOp];rw[<-eG];exact⟨cN.refl w,H⟩
 case pick c x y=>
  obtain⟨v,hv,hk⟩:=H
  simp only[execOp,<-eG]
  rw[MH (hv w)]
  exact⟨cN.refl w,hk⟩
 case nilCheck x=>
  obtain⟨v,hv,hk⟩:=H
  simp only[execOp,<-eG]
  have hw:=hv w
  generalize ev a.tmps.toList x=u at*
  cases u<;>try (simp only[pure,Sem.run,Result.ok.injEq]at hw;obtain⟨rfl,_⟩:=hw;exact⟨cN.refl w,hk⟩)
  case pointer q=>
   cases q with
   |none=>
    exfalso
    have:∀(e:RuntimeError),(runtimePanic e:Sem Value).run P w≠ .ok v w:=by
     intro e he
     unfold runtimePanic at he
     cases e<;>simp[program,bind,Sem.bind,Sem.run,goPanic]at he
     all_goals (try (repeat (first|split at he|(simp[Sem.run_bind',Result.andThen]at he))))
    exact this _ hw
   |some q=>simp only[pure,Sem.run,Result.ok.injEq]at hw;obtain⟨rfl,_⟩:=hw;exact⟨cN.refl w,hk⟩
  case nilIface=>
   simp[runtimePanic,program,bind,Sem.bind,Sem.run,goPanic]at hw
  case nilFunc=>
   simp[runtimePanic,program,bind,Sem.bind,Sem.run,goPanic]at hw
  case func fn first cap=>
   cases fn<;>first|(simp only[pure,Sem.run,Result.ok.injEq]at hw;obtain⟨rfl,_⟩:=hw;exact⟨cN.refl w,hk⟩)|(simp[stuck,Sem.run]at hw)
 case call c=>
  obtain⟨callee,args,argTypes⟩:=c
  cases callee with
  |value f=>
   simp only at H
   simp only[execOp,resolve,<-eG,kF]
   unfold fD at H
   split at H
   ·rename_i g first cap hf
    simp only[hf]
    have e1:(do let d<-Deferred.ofValue (Value.func (.func g) first cap) (mV (ev a.tmps.toList) args.toList).toArray;invoke d.target d.args:Sem Next)=callFunc g ((first++(mV (ev a.tmps.toList) args.toList).toArray)++cap):=rfl
    rw[e1]
    have e2:(first++(mV (ev a.tmps.toList) args.toList).toArray)++cap=(first.toList++mV (ev a.tmps.toList) args.toList++cap.toList).toArray:=by
     apply Array.ext';simp
    rw[e2]
    rcases H.out w rfl with⟨v,w',h1,h2,h3⟩|⟨f',Ax,w',h1,h2,h3⟩
    ·rw[h1];exact⟨h2,h3⟩
    ·rw[h1];exact⟨h2,h3⟩
   ·exact H.elim
  |invoke r m=>simp only at H
  |builtin b=>
   cases b<;>simp only at H<;>
    first
     |exact H.elim
     |(obtain⟨v,hv,hk⟩:=H;simp only[execOp,resolve,kF];exact mW (hv w) (cN.refl w) hk)
     |(obtain⟨v,w',h1,h2,h3⟩:=H.out w rfl;simp only[execOp,resolve,kF];exact mW h1 h2 h3)
 case build t parts=>
  obtain⟨v,hv,hk⟩:=H
  simp only[execOp]
  rw[ky]
  exact mW (hv w) (cN.refl w) hk
 case buildSlice t len parts=>
  obtain⟨v,w',h1,h2,h3⟩:=H.out w rfl
  simp only[execOp]
  rw[ky]
  exact mW h1 h2 h3
 all_goals
  first
   |exact H.elim
   |(obtain⟨v,hv,hk⟩:=H;simp only[execOp,<-eG,kF,ky,vZ];exact mW (hv w) (cN.refl w) hk)
   |(obtain⟨v,hv,hk⟩:=H;simp only[execOp,<-eG,kF,ky,vZ];exact mW (hv w rfl) (cN.refl w) hk)
   |(obtain⟨v,w',h1,h2,h3⟩:=H.out w rfl;simp only[execOp,<-eG,kF,ky,vZ];exact mW h1 h2 h3)
   |(obtain⟨w',h1,h2,h3⟩:=H.out w rfl;simp only[execOp,<-eG,kF,ky,vZ];exact QI h1 h2 h3)
def gJ:List Oper->Nat->Option Oper
 |[],_=>none
 |o::_,0=>some o
 |_::os,n+1=>gJ os n
def wR(ops:List Oper)(j:Nat):Option Tmp:=
 match gJ ops j with
 |some o=>o.dst
 |none=>none
def qK(ops:List Oper)(e:Env)(j:Nat):Value:=
 match wR ops j with
 |some t=>eK e t
 |none=>undef
def KZ(v:Value)(want:Bool):Value:=match v with
 | .bool b=> .bool b
 |_=> .bool (!want)
theorem U8{v:Value}{want b:Bool}(h:KZ v want= .bool b)(hv:∀c,v≠ .bool c):b≠want:=by
 unfold KZ at h
 cases v<;>first
  |exact absurd rfl (hv _)
  |(simp only[Value.bool.injEq]at h;subst h;cases want<;>decide)
def jG(P:Program)(ops:List Oper)(e:Env)(h:Heap)(o:Oper)(k:Value->Heap->Prop):Prop:=
 match o.guard with
 |none=>fk P (ev e) o.op o.type h k
 |some (j,want)=>Hg (KZ (qK ops e j) want) want (fk P (ev e) o.op o.type h) h k
def wpIn(P:Program)(ops:List Oper):List Oper->Env->Heap->(Env->Heap->Prop)->Prop
 |[],e,h,K=>K e h
 |o::os,e,h,K=>jG P ops e h o fun v h'=>wpIn P ops os (put e o.dst v) h' K
theorem pI(ops:Array Oper)(i:Nat):gJ ops.toList i=ops[i]?:=by
 have key:∀(l:List Oper)(i:Nat),gJ l i=l[i]?:=by
  intro l
  induction l with
  |nil=>intro i;simp[gJ]
  |cons x xs ih=>intro i;cases i<;>simp[gJ,ih]
 rw[key];simp
theorem K0{ops:Array Oper}{a:Act}{j:Nat}{b:Bool}(h:qK ops.toList a.tmps.toList j= .bool b):yielded ops a.tmps j=some b:=by
 unfold qK wR at h
 rw[pI]at h
 unfold yielded
 cases ho:ops[j]? with
 |none=>rw[ho]at h;simp[undef]at h
 |some o=>
  rw[ho]at h
  simp only at h
  cases hd:o.dst with
  |none=>rw[hd]at h;simp[undef]at h
  |some t=>
   rw[hd]at h
   simp only[jE]at h
   simp only[Option.bind_some,hd]
   cases ht:a.tmps[t]? with
   |none=>simp[Array.getD_eq_getD_getElem?,ht,undef]at h
   |some v=>simp[Array.getD_eq_getD_getElem?,ht]at h;rw[h]
theorem K1{ops:Array Oper}{a:Act}{j:Nat}(h:∀b,qK ops.toList a.tmps.toList j≠ .bool b):yielded ops a.tmps j=none:=by
 unfold qK wR at h
 rw[pI]at h
 unfold yielded
 cases ho:ops[j]? with
 |none=>simp
 |some o=>
  rw[ho]at h
  simp only at h
  cases hd:o.dst with
  |none=>simp[hd]
  |some t=>
   rw[hd]at h
   simp only[jE]at h
   simp only[Option.bind_some,hd]
   cases ht:a.tmps[t]? with
   |none=>rfl
   |some v=>
    cases v with
    |bool b=>exact absurd (by simp[Array.getD_eq_getD_getElem?,ht]) (h b)
    |_=>rfl
theorem qw{P:Program}{ops:Array Oper}{Q:Exit->Act->World->Prop}{i:Nat}{o:Oper}{a:Act}{w:World}{K:Act->World->Prop}(ho:ops[i]?=some o)
 (H:jG P ops.toList a.tmps.toList w.heap o fun v h'=>∀w',cN w w'->w'.heap=h'->K (a.put o.dst v) w'):wpOp P ops Q i K a w:=by
 have key:(fk P (ev a.tmps.toList) o.op o.type w.heap fun v h'=>∀w',cN w w'->w'.heap=h'->K (a.put o.dst v) w')->o.wp P a w K Q:=by
  intro hx
  have hg:=Et hx
  unfold Oper.wp
  generalize (execOp a.eval o).run P w=r at*
  cases r with
  |halt x w'=>exact hg.elim
  |ok n w'=>
   cases n<;>first
    |exact hg.elim
    |exact hg.2 _ hg.1 rfl
    |(obtain⟨rfl,hc⟩:=hg
      exact hc.mono fun e w'' ⟨v,he,hs,hk⟩=>by subst he;exact hk _ hs rfl)
 unfold wpOp
 simp only[ho]
 unfold jG at H
 cases hgd:o.guard with
 |none=>
  simp only[hgd]at H
  simp only[Region.wanted,hgd,if_true]
  exact .inl (key H)
 |some p=>
  obtain⟨j,want⟩:=p
  simp only[hgd]at H
  obtain⟨b,hb,h1,h2⟩:=H
  by_cases hv:∃c,qK ops.toList a.tmps.toList j= .bool c
  ·obtain⟨c,hc⟩:=hv
   have hbc:c=b:=by
    rw[hc]at hb
    simpa[KZ]using hb
   subst hbc
   have hy:=K0 hc
   simp only[Region.wanted,hgd,hy]
   by_cases Hh:c=want
   ·subst Hh
    simp only[beq_self_eq_true,if_true]
    exact .inl (key (h1 rfl))
   ·have:(some c==some want)=false:=by simpa using Hh
    simp only[this,Bool.false_eq_true,if_false]
    exact h2 Hh w (cN.refl w) rfl
  ·have eA:=U8 hb fun c hc=>hv ⟨c,hc⟩
   have hy:=K1 fun c hc=>hv ⟨c,hc⟩
   simp only[Region.wanted,hgd,hy]
   have:((none:Option Bool)==some want)=false:=rfl
   simp only[this,Bool.false_eq_true,if_false]
   exact h2 eA w (cN.refl w) rfl
theorem ic{P:Program}{ops:List Oper}{e:Env}{h:Heap}{o:Oper}{k k':Value->Heap->Prop}(hk:∀v h,k v h->k' v h)(H:jG P ops e h o k):jG P ops e h o k':=by
 unfold jG at*
 cases hg:o.guard with
 |none=>simp only[hg]at H⊢;exact jd hk H
 |some p=>
  obtain⟨j,want⟩:=p
  simp only[hg]at H⊢
  obtain⟨b,hb,h1,h2⟩:=H
  exact⟨b,hb,fun e=>jd hk (h1 e),fun e=>hk _ _ (h2 e)⟩
def lB:List Bool->Nat->Bool->Bool
 |[],_,d=>d
 |b::_,0,_=>b
 |_::bs,n+1,d=>lB bs n d
def iz:List Bool->Nat->List Bool
 |[],_=>[]
 |_::bs,0=>true::bs
 |b::bs,n+1=>b::iz bs n
def fZ(l:List Bool)(o:Oper)(i:Nat):Bool:=
 !lB l i true&&o.after.toList.all fun e=> !Region.binds .any e||lB l e.on false
def bA:List Oper->Nat->List Bool->List (Nat×Oper)
 |[],_,_=>[]
 |o::os,i,l=>match fZ l o i with
  |true=>(i,o)::bA os (i+1) l
  |false=>bA os (i+1) l
def fm:Operand->Value:=fun _=>undef
def vd(op:Op):Bool:=(gw op).isSome||((kD op).isNone&&(jF fm 0 op).isSome)
def zV(op:Op):Bool:=(gw op).isNone&&((kD op).isNone&&((jF fm 0 op).isNone&&(oc fm op).isSome))
def cU:List (Nat×Oper)->Option (Nat×Oper)
 |[]=>none
 |(i,o)::r=>match vd o.op||zV o.op with
  |true=>some (i,o)
  |false=>cU r
def jz(o:Oper)(i:Nat):Bool:=o.after.toList.any fun e=>Region.binds .any e&&Nat.beq e.on i
def looks(ops:List Oper)(o:Oper):List Tmp:=
 (o.op.operands.toList.filterMap fun| .tmp t=>some t|_=>none)++
 (match o.guard with
  |some (g,_)=>(wR ops g).toList
  |none=>[])
def eH:List Nat->Nat->Bool
 |[],_=>false
 |x::xs,n=>Nat.beq x n||eH xs n
def wS(ops:List Oper)(x y:Oper):Bool:=
 (match x.dst with
  |some d=> ! eH (looks ops y) d&&(match y.dst with|some d'=> !Nat.beq d d'|none=>true)
  |none=>true)&&
 (match y.dst with
  |some d=> ! eH (looks ops x) d
  |none=>true)
def pJ(ops:List Oper)(x:Oper)(i:Nat):List Oper->Bool
 |[]=>true
 |y::ys=>(wS ops x y||jz y i)&&pJ ops x i ys
def fp(ops:List Oper):List Oper->Nat->Bool
 |[],_=>true
 |x::xs,i=>pJ ops x i xs&&fp ops xs (i+1)
abbrev kf:=List (Nat×(Heap->Prop))
def Yx(P:Program)(e:Operand->Value)(op:Op)(ty:TypeId)(g:Heap)(v:Value):Prop:=
 match gw op with
 |some x=>v=e x
 |none=>match jF e ty op with
  |some s=>∀w,s.run P w= .ok v w
  |none=>match oc e op with
   |some s=>∀w:World,w.heap=g->s.run P w= .ok v w
   |none=>False
def Yv(P:Program)(ops:List Oper)(e:Env)(g:Heap)(o:Oper)(v:Value):Prop:=
 match o.guard with
 |none=>Yx P (ev e) o.op o.type g v
 |some (j,want)=>∃b:Bool,KZ (qK ops e j) want= .bool b/\(b=want->Yx P (ev e) o.op o.type g v)/\(b≠want->v=undef)
def mX:List Edge->List Nat
 |[]=>[]
 |e::es=>match Region.binds .any e with
  |true=>e.on::mX es
  |false=>mX es
def U9:List Nat->List Nat->List Nat
 |[],b=>b
 |x::a,b=>x::U9 a b
def anc(ops:List Oper):Nat->List Nat->List Nat->List Nat
 |0,_,seen=>seen
 |_+1,[],seen=>seen
 |n+1,i::todo,seen=>match eH seen i with
  |true=>anc ops n todo seen
  |false=>match gJ ops i with
   |some o=>anc ops n (U9 (mX o.after.toList) todo) (i::seen)
   |none=>anc ops n todo (i::seen)
def ve(ops:List Oper)(o:Oper):List Nat:=anc ops 2000 (mX o.after.toList) []
def qx(bf:List Nat):kf->kf
 |[]=>[]
 |(i,p)::S=>match eH bf i with
  |true=>qx bf S
  |false=>(i,p)::qx bf S
def lk(ops:List Oper)(o:Oper)(S:kf):kf:=qx (ve ops o) S
def MI(h:Heap)(K:Prop):kf->Prop
 |[]=>K
 |(_,p)::S=>p h/\MI h K S
def Hj(f:Nat->Oper->Prop):List (Nat×Oper)->Prop
 |[]=>True
 |[(i,o)]=>f i o
 |(i,o)::r=>f i o/\Hj f r
def lJ(P:Program)(ops:List Oper)(K:Env->Heap->Prop):Nat->List Bool->Env->Heap->kf->Prop
 |0,l,e,h,_=>match bA ops 0 l with
  |[]=>K e h
  |_::_=>False
 |n+1,l,e,h,S=>match cU (bA ops 0 l)with
  |some (i,o)=>match vd o.op with
   |true=>jG P ops e h o fun v h'=>lJ P ops K n (iz l i) (put e o.dst v) h' S
   |false=>jG P ops e h o fun v h'=>lJ P ops K n (iz l i) (put e o.dst v) h' ((i,fun g=>Yv P ops e g o v)::S)
  |none=>match bA ops 0 l with
   |[]=>K e h
   |r::rs=>Hj (fun i o=>jG P ops e h o fun v h'=>MI h' (lJ P ops K n (iz l i) (put e o.dst v) h' (lk ops o S)) (lk ops o S)) (r::rs)
def Aa(P:Program)(ops:List Oper)(K:Env->Heap->Prop):Nat->List Bool->Env->Heap->kf->Prop
 |0,l,e,h,_=>bA ops 0 l=[]/\K e h
 |n+1,l,e,h,S=>(bA ops 0 l=[]->K e h)/\∀i o,(i,o)∈bA ops 0 l->jG P ops e h o fun v h'=>
  ((vd o.op||zV o.op)=true->Aa P ops K n (iz l i) (put e o.dst v) h' S)/\
  ((vd o.op||zV o.op)=false->(∀s,s∈lk ops o S->s.2 h')/\Aa P ops K n (iz l i) (put e o.dst v) h' (lk ops o S))
theorem qL:∀(l:List Bool)(i j:Nat)(d:Bool),i≠j->lB (iz l i) j d=lB l j d
 |[],_,_,_,_=>rfl
 |_::_,0,0,_,h=>absurd rfl h
 |_::_,0,_+1,_,_=>rfl
 |_::_,_+1,0,_,_=>rfl
 |_::bs,n+1,m+1,d,h=>by simp only[iz,lB];exact qL bs n m d (by omega)
theorem mY:∀(l:List Bool)(i j:Nat),lB l j false=true->lB (iz l i) j false=true
 |[],_,_,h=>h
 |_::_,0,0,_=>rfl
 |_::_,0,_+1,h=>h
 |_::_,_+1,0,h=>h
 |_::bs,n+1,m+1,h=>by simp only[iz,lB]at*;exact mY bs n m h
theorem tA:∀(l:List Bool)(i j:Nat),iz (iz l i) j=iz (iz l j) i
 |[],_,_=>rfl
 |_::_,0,0=>rfl
 |_::_,0,_+1=>rfl
 |_::_,_+1,0=>rfl
 |_::bs,n+1,m+1=>by simp only[iz];rw[tA bs n m]
theorem lK:∀(l:List Bool)(i:Nat),lB l i true=false->lB l i false=false
 |[],_,h=>by simp[lB]at h
 |_::_,0,h=>h
 |_::bs,n+1,h=>lK bs n h
theorem nP:∀(ops:List Oper)(k:Nat)(l:List Bool)(i:Nat)(o:Oper),(i,o)∈bA ops k l↔∃j,i=k+j/\gJ ops j=some o/\fZ l o i=true
 |[],_,_,_,_=>by simp[bA,gJ]
 |x::xs,k,l,i,o=>by
  have ih:=nP xs (k+1) l i o
  have hh:(∃j,i=k+j/\gJ (x::xs) j=some o/\fZ l o i=true)↔((i=k/\x=o/\fZ l o i=true)\/(∃j,i=k+1+j/\gJ xs j=some o/\fZ l o i=true)):=by
   constructor
   ·rintro⟨j,hj,ho,hr⟩
    cases j with
    |zero=>simp only[gJ,Option.some.injEq]at ho;exact .inl ⟨by omega,ho,hr⟩
    |succ j=>exact .inr ⟨j,by omega,ho,hr⟩
   ·rintro(⟨h1,h2,h3⟩|⟨j,hj,ho,hr⟩)
    ·exact⟨0,by omega,by simp[gJ,h2],h3⟩
    ·exact⟨j+1,by omega,ho,hr⟩
  rw[hh,<-ih]
  have hu:bA (x::xs) k l=match fZ l x k with
   |true=>(k,x)::bA xs (k+1) l
   |false=>bA xs (k+1) l:=rfl
  rw[hu]
  cases hr:fZ l x k with
  |true=>
   simp only[List.mem_cons,Prod.mk.injEq]
   constructor
   ·rintro(⟨rfl,rfl⟩|h)
    ·exact .inl ⟨rfl,rfl,hr⟩
    ·exact .inr h
   ·rintro(⟨rfl,rfl,_⟩|h)
    ·exact .inl ⟨rfl,rfl⟩
    ·exact .inr h
  |false=>
   constructor
   ·exact .inr
   ·rintro(⟨rfl,rfl,h3⟩|h)
    ·rw[hr]at h3;cases h3
    ·exact h
theorem cH{ops:List Oper}{l:List Bool}{i:Nat}{o:Oper}:(i,o)∈bA ops 0 l↔gJ ops i=some o/\fZ l o i=true:=by
 rw[nP]
 constructor
 ·rintro⟨j,h1,h2,h3⟩;obtain rfl:i=j:=by omega
  exact⟨h2,h3⟩
 ·rintro⟨h2,h3⟩;exact⟨i,by omega,h2,h3⟩
theorem ie{l:List Bool}{o:Oper}{i:Nat}:fZ l o i=true↔lB l i true=false/\∀e,e∈o.after->Region.binds .any e=true->lB l e.on false=true:=by
 unfold fZ
 simp only[Bool.and_eq_true,Bool.not_eq_true',List.all_eq_true,Bool.or_eq_true,Array.mem_toList_iff]
 constructor
 ·rintro⟨h1,h2⟩
  refine⟨h1,fun e he hb=> ?_⟩
  rcases h2 e he with h|h
  ·rw[hb]at h;cases h
  ·exact h
 ·rintro⟨h1,h2⟩
  refine⟨h1,fun e he=> ?_⟩
  cases hb:Region.binds .any e with
  |false=>exact .inl rfl
  |true=>exact .inr (h2 e he hb)
theorem ov{l:List Bool}{o:Oper}{i j:Nat}(h:fZ l o j=true)(eA:j≠i):fZ (iz l i) o j=true:=by
 rw[ie]at*
 exact⟨by rw[qL _ _ _ _ (Ne.symm eA)];exact h.1,fun e he hb=>mY _ _ _ (h.2 e he hb)⟩
theorem Ju{l:List Bool}{o:Oper}{i j:Nat}(h:fZ l o j=true)(hi:lB l i true=false):jz o i=false:=by
 rw[ie]at h
 cases hh:jz o i with
 |false=>rfl
 |true=>
  unfold jz at hh
  rw[List.any_eq_true]at hh
  obtain⟨e,he,h2⟩:=hh
  simp only[Bool.and_eq_true]at h2
  have hon:e.on=i:=Nat.eq_of_beq_eq_true h2.2
  have:=h.2 e (by simpa using he) h2.1
  rw[hon,lK _ _ hi]at this
  cases this
theorem lm(e e':Operand->Value)(ty ty':TypeId)(op:Op):(jF e ty op).isSome=(jF e' ty' op).isSome:=by
 cases op<;>try rfl
 case call c=>
  obtain⟨callee,args,argTypes⟩:=c
  cases callee<;>try rfl
  case builtin b=>cases b<;>rfl
theorem Eu(e e':Operand->Value)(op:Op):(oc e op).isSome=(oc e' op).isSome:=by cases op<;>rfl
theorem gy{P:Program}{e:Operand->Value}{op:Op}{ty:TypeId}{h:Heap}{k:Value->Heap->Prop}(hq:(vd op||zV op)=true):fk P e op ty h k↔∃v,Yx P e op ty h v/\k v h:=by
 unfold fk Yx
 cases hm:gw op with
 |some x=>simp
 |none=>
  simp only[vd,zV,hm]at hq
  cases hc:kD op with
  |some c=>simp[hc]at hq
  |none=>
   simp only[hc]at hq
   cases hp:jF e ty op with
   |some s=>exact⟨fun h=>h.out,fun h=>⟨h⟩⟩
   |none=>
    have h0:(jF fm 0 op).isSome=false:=by rw[lm fm e 0 ty,hp];rfl
    cases hr:oc e op with
    |some s=>exact⟨fun h=>h.out,fun h=>⟨h⟩⟩
    |none=>
     have h1:(oc fm op).isSome=false:=by rw[Eu fm e,hr];rfl
     have h0':jF fm 0 op=none:=by simpa using h0
     have Vb:oc fm op=none:=by simpa using h1
     simp[h0',Vb]at hq
theorem jH{P:Program}{ops:List Oper}{e:Env}{h:Heap}{o:Oper}{k:Value->Heap->Prop}(hq:(vd o.op||zV o.op)=true):jG P ops e h o k↔∃v,Yv P ops e h o v/\k v h:=by
 unfold jG Yv
 cases hg:o.guard with
 |none=>exact gy hq
 |some p=>
  obtain⟨j,want⟩:=p
  constructor
  ·rintro⟨b,hb,h1,h2⟩
   by_cases Hh:b=want
   ·obtain⟨v,hv,hk⟩:=(gy hq).1 (h1 Hh)
    exact⟨v,⟨b,hb,fun _=>hv,fun h=>absurd Hh h⟩,hk⟩
   ·exact⟨undef,⟨b,hb,fun h=>absurd h Hh,fun _=>rfl⟩,h2 Hh⟩
  ·rintro⟨v,⟨b,hb,h1,h2⟩,hk⟩
   exact⟨b,hb,fun he=>(gy hq).2 ⟨v,h1 he,hk⟩,fun he=>by rw[<-h2 he];exact hk⟩
theorem Jv{P:Program}{e:Operand->Value}{op:Op}{ty:TypeId}{h:Heap}{v:Value}(hq:vd op=true)(H:Yx P e op ty h v)(g:Heap):Yx P e op ty g v:=by
 unfold Yx at*
 cases hm:gw op with
 |some x=>simpa[hm]using H
 |none=>
  simp only[hm]at H⊢
  cases hp:jF e ty op with
  |some s=>simpa[hp]using H
  |none=>
   have h0:(jF fm 0 op).isSome=false:=by rw[lm fm e 0 ty,hp];rfl
   simp[vd,hm,h0]at hq
theorem QJ{P:Program}{ops:List Oper}{e:Env}{h:Heap}{o:Oper}{v:Value}(hq:vd o.op=true)(H:Yv P ops e h o v)(g:Heap):Yv P ops e g o v:=by
 unfold Yv at*
 cases hg:o.guard with
 |none=>simp only[hg]at H⊢;exact Jv hq H g
 |some p=>
  obtain⟨j,want⟩:=p
  simp only[hg]at H⊢
  obtain⟨b,hb,h1,h2⟩:=H
  exact⟨b,hb,fun e=>Jv hq (h1 e) g,h2⟩
theorem je{e e':Operand->Value}:∀(l:List Operand),(∀x,x∈l->e x=e' x)->mV e l=mV e' l
 |[],_=>rfl
 |x::xs,h=>by simp only[mV];rw[h x (by simp),je xs fun y hy=>h y (by simp[hy])]
theorem vf{e e':Operand->Value}(ps:Array (Nat×Operand))(h:∀x,x∈(ps.toList.map (·.2))->e x=e' x):(ps.toList.map fun p=>(p.1,e p.2))=(ps.toList.map fun p=>(p.1,e' p.2)):=
 List.map_congr_left fun p hp=>by rw[h p.2 (List.mem_map.2 ⟨p,hp,rfl⟩)]
theorem pK{e e':Operand->Value}(x:Option Operand)(h:∀y,y∈x.toArray->e y=e' y):x.map e=x.map e':=by
 cases x with
 |none=>rfl
 |some y=>simp[h y (by simp)]
theorem qM{e e':Operand->Value}{ty:TypeId}{op:Op}(h:∀x,x∈op.operands->e x=e' x):jF e ty op=jF e' ty op:=by
 cases op<;>simp only[Op.operands]at h<;>simp only[jF]
 case pick c a b=>rw[h c (by simp),h a (by simp),h b (by simp)]
 case nilCheck x=>rw[h x (by simp)]
 case binOp op t x y u=>rw[h x (by simp),h y (by simp)]
 case unOp op t x=>rw[h x (by simp)]
 case makeInterface t x=>rw[h x (by simp)]
 case makeFunc fn first cap=>rw[je first.toList fun x hx=>h x (by simp at hx;simp[hx]),je cap.toList fun x hx=>h x (by simp at hx;simp[hx])]
 case slice t x lo hi mx=>rw[h x (by simp),pK lo fun y hy=>h y (by simp[hy]),pK hi fun y hy=>h y (by simp[hy]),pK mx fun y hy=>h y (by simp[hy])]
 case fieldAddr s x f=>rw[h x (by simp)]
 case field t x f=>rw[h x (by simp)]
 case indexAddr t x ix=>rw[h x (by simp),h ix (by simp)]
 case index t x ix=>rw[h x (by simp),h ix (by simp)]
 case extract t ix=>rw[h t (by simp)]
 case build t parts=>rw[vf parts fun x hx=>h x (by simpa using hx)]
 case call c=>
  have:mV e c.args.toList=mV e' c.args.toList:=je _ fun x hx=>h x (by simp at hx;simp[Call.operands,hx])
  rw[this]
theorem mZ{e e':Operand->Value}{op:Op}(h:∀x,x∈op.operands->e x=e' x):oc e op=oc e' op:=by
 cases op<;>simp only[Op.operands]at h<;>simp only[oc]
 case load t x=>rw[h x (by simp)]
 case convert s d x=>rw[h x (by simp)]
 case lookup t x ix ok=>rw[h x (by simp),h ix (by simp)]
 case typeAssert x a b c=>rw[h x (by simp)]
theorem wT{e e':Operand->Value}{ty:TypeId}{op:Op}(h:∀x,x∈op.operands->e x=e' x):Er e ty op=Er e' ty op:=by
 cases op<;>simp only[Op.operands]at h<;>simp only[Er]
 case box t x=>rw[h x (by simp)]
 case buildSlice t n parts=>rw[vf parts fun x hx=>h x (by simpa using hx)]
 case makeMap t r=>rw[pK r h]
 case makeSlice t l c=>rw[h l (by simp),h c (by simp)]
 case range t x=>rw[h x (by simp)]
 case next it b=>rw[h it (by simp)]
 case entry it=>rw[h it (by simp)]
 case call c=>
  have:mV e c.args.toList=mV e' c.args.toList:=je _ fun x hx=>h x (by simp at hx;simp[Call.operands,hx])
  rw[this]
theorem wU{e e':Operand->Value}{op:Op}(h:∀x,x∈op.operands->e x=e' x):Es e op=Es e' op:=by
 cases op<;>simp only[Op.operands]at h<;>simp only[Es]
 case store t a x=>rw[h a (by simp),h x (by simp)]
 case mapUpdate t m k x=>rw[h m (by simp),h k (by simp),h x (by simp)]
 case insert t m k x=>rw[h m (by simp),h k (by simp),h x (by simp)]
theorem wV{op:Op}{x:Operand}(h:gw op=some x):x∈op.operands:=by
 cases op<;>simp[gw]at h<;>simp[Op.operands,h]
theorem Hk{op:Op}{f:Operand}{args:Array Operand}(h:kD op=some (f,args)):f∈op.operands/\∀x,x∈args->x∈op.operands:=by
 cases op<;>simp[kD]at h
 case call c=>
  obtain⟨callee,as,ts⟩:=c
  cases callee<;>simp at h
  obtain⟨rfl,rfl⟩:=h
  exact⟨by simp[Op.operands,Call.operands],fun x hx=>by simp[Op.operands,Call.operands,hx]⟩
theorem vg{P:Program}{e e':Operand->Value}{op:Op}{ty:TypeId}{h:Heap}{k:Value->Heap->Prop}(H:∀x,x∈op.operands->e x=e' x):fk P e op ty h k=fk P e' op ty h k:=by
 unfold fk
 cases hm:gw op with
 |some x=>simp only[H x (wV hm)]
 |none=>
  cases hc:kD op with
  |some p=>
   obtain⟨f,args⟩:=p
   obtain⟨h1,h2⟩:=Hk hc
   simp only[H f h1,je args.toList fun x hx=>H x (h2 x (by simpa using hx))]
  |none=>simp only[qM (ty:=ty) H,mZ H,wT (ty:=ty) H,wU H]
theorem Ev{P:Program}{e e':Operand->Value}{op:Op}{ty:TypeId}{g:Heap}{v:Value}(H:∀x,x∈op.operands->e x=e' x):Yx P e op ty g v=Yx P e' op ty g v:=by
 unfold Yx
 cases hm:gw op with
 |some x=>simp only[H x (wV hm)]
 |none=>simp only[qM (ty:=ty) H,mZ H]
theorem rO:∀(l:List Nat)(n:Nat),eH l n=false->n∉l
 |[],_,_=>by simp
 |x::xs,n,h=>by
  simp only[eH,Bool.or_eq_false_iff]at h
  have h1:x≠n:=fun e=>by subst e;simp at h
  simp only[List.mem_cons,not_or]
  exact⟨fun e=>h1 e.symm,rO xs n h.2⟩
def oy(ops:List Oper)(dst:Option Tmp)(o:Oper):Prop:=∀d,dst=some d->d∉looks ops o
theorem Vc{e:Env}{dst:Option Tmp}{u:Value}{x:Operand}(h:∀d,dst=some d->x≠ .tmp d):ev (put e dst u) x=ev e x:=by
 cases dst with
 |none=>rfl
 |some d=>
  cases x with
  |tmp t=>simp only[put,ev];exact fa _ _ _ _ fun he=>h d rfl (by rw[he])
  |_=>rfl
theorem pL{ops:List Oper}{o:Oper}{dst:Option Tmp}{e:Env}{u:Value}(h:oy ops dst o):∀x,x∈o.op.operands->ev (put e dst u) x=ev e x:=by
 intro x hx
 refine Vc fun d hd Jw=>h d hd ?_
 subst Jw
 unfold looks
 exact List.mem_append_left _ (List.mem_filterMap.2 ⟨.tmp d,by simpa using hx,rfl⟩)
theorem vh{ops:List Oper}{o:Oper}{dst:Option Tmp}{e:Env}{u:Value}(h:oy ops dst o){j:Nat}{want:Bool}(hg:o.guard=some (j,want)):qK ops (put e dst u) j=qK ops e j:=by
 unfold qK
 cases ht:wR ops j with
 |none=>rfl
 |some t=>
  cases dst with
  |none=>rfl
  |some d=>
   simp only[put]
   refine fa _ _ _ _ fun he=>h d rfl ?_
   unfold looks
   rw[hg]
   simp[ht,he]
theorem K3{P:Program}{ops:List Oper}{e:Env}{h:Heap}{o:Oper}{k:Value->Heap->Prop}{dst:Option Tmp}{u:Value}(hu:oy ops dst o):jG P ops (put e dst u) h o k=jG P ops e h o k:=by
 unfold jG
 cases hg:o.guard with
 |none=>exact vg (pL hu)
 |some p=>
  obtain⟨j,want⟩:=p
  have h2:fk P (ev (put e dst u)) o.op o.type h=fk P (ev e) o.op o.type h:=funext fun _=>vg (pL hu)
  simp only[vh hu hg,h2]
theorem B3{P:Program}{ops:List Oper}{e:Env}{g:Heap}{o:Oper}{v:Value}{dst:Option Tmp}{u:Value}(hu:oy ops dst o):Yv P ops (put e dst u) g o v=Yv P ops e g o v:=by
 unfold Yv
 cases hg:o.guard with
 |none=>exact Ev (pL hu)
 |some p=>
  obtain⟨j,want⟩:=p
  simp only[vh hu hg,Ev (pL hu)]
theorem put_comm{e:Env}{x y:Option Tmp}{u v:Value}(h:∀d,x=some d->y≠some d):put (put e x u) y v=put (put e y v) x u:=by
 cases x with
 |none=>rfl
 |some d=>
  cases y with
  |none=>rfl
  |some d'=>
   have eA:d≠d':=fun he=>h d rfl (by rw[he])
   simp only[put,Au]
   exact List.set_comm _ _ eA
theorem apart_spec{ops:List Oper}{x y:Oper}(h:wS ops x y=true):oy ops x.dst y/\(∀d,x.dst=some d->y.dst≠some d)/\oy ops y.dst x:=by
 unfold wS at h
 simp only[Bool.and_eq_true]at h
 obtain⟨h1,h2⟩:=h
 refine⟨fun d hd=> ?_,fun d hd hy=> ?_,fun d hd=> ?_⟩
 ·rw[hd]at h1
  simp only[Bool.and_eq_true,Bool.not_eq_true']at h1
  exact rO _ _ h1.1
 ·rw[hd,hy]at h1
  simp at h1
 ·rw[hd]at h2
  simp only[Bool.not_eq_true']at h2
  exact rO _ _ h2
theorem oz{ops:List Oper}{x:Oper}{i:Nat}:∀(l:List Oper),pJ ops x i l=true->∀j y,gJ l j=some y->wS ops x y=true\/jz y i=true
 |[],_,j,y,hy=>by simp[gJ]at hy
 |z::zs,h,j,y,hy=>by
  simp only[pJ,Bool.and_eq_true,Bool.or_eq_true]at h
  cases j with
  |zero=>simp only[gJ,Option.some.injEq]at hy;subst hy;exact h.1
  |succ j=>exact oz zs h.2 j y hy
theorem kG{ops:List Oper}:∀(l:List Oper)(k:Nat),fp ops l k=true->∀i j x y,i<j->gJ l i=some x->gJ l j=some y->wS ops x y=true\/jz y (k+i)=true
 |[],_,_,i,j,x,y,_,hx,_=>by simp[gJ]at hx
 |z::zs,k,h,i,j,x,y,Uu,hx,hy=>by
  simp only[fp,Bool.and_eq_true]at h
  cases j with
  |zero=>omega
  |succ j=>
   cases i with
   |zero=>
    simp only[gJ,Option.some.injEq]at hx
    subst hx
    exact oz zs h.1 j y hy
   |succ i=>
    have:=kG zs (k+1) h.2 i j x y (by omega) hx hy
    rw[show k+(i+1)=k+1+i by omega]
    exact this
theorem MJ{ops:List Oper}(hp:fp ops ops 0=true){i j:Nat}{x y:Oper}(hx:gJ ops i=some x)(hy:gJ ops j=some y)(eA:j≠i)(h1:jz y i=false)(h2:jz x j=false):
 oy ops x.dst y/\(∀d,x.dst=some d->y.dst≠some d)/\oy ops y.dst x:=by
 rcases Nat.lt_or_gt_of_ne eA with h|h
 ·rcases kG ops 0 hp j i y x h hy hx with h3|h3
  ·obtain⟨a,b,c⟩:=apart_spec h3
   exact⟨c,fun d hd Qo=>b d Qo hd,a⟩
  ·rw[Nat.zero_add,h2]at h3;cases h3
 ·rcases kG ops 0 hp i j x y h hx hy with h3|h3
  ·exact apart_spec h3
  ·rw[Nat.zero_add,h1]at h3;cases h3
theorem Ay{bf:List Nat}{s:Nat×(Heap->Prop)}:∀{S:kf},s∈qx bf S↔s∈S/\eH bf s.1=false
 |[]=>by simp[qx]
 |(i,p)::S=>by
  have ih:=Ay (bf:=bf) (s:=s) (S:=S)
  unfold qx
  cases h:eH bf i with
  |true=>
   simp only[ih,List.mem_cons]
   constructor
   ·rintro⟨a,b⟩;exact⟨.inr a,b⟩
   ·rintro⟨a|a,b⟩
    ·subst a;rw[h]at b;cases b
    ·exact⟨a,b⟩
  |false=>
   simp only[List.mem_cons,ih]
   constructor
   ·rintro(a|⟨a,b⟩)
    ·subst a;exact⟨.inl rfl,h⟩
    ·exact⟨.inr a,b⟩
   ·rintro⟨a|a,b⟩
    ·exact .inl a
    ·exact .inr ⟨a,b⟩
theorem K4{ops:List Oper}{o:Oper}{s:Nat×(Heap->Prop)}{S:kf}:s∈lk ops o S↔s∈S/\eH (ve ops o) s.1=false:=Ay
def lq(ops:List Oper)(l:List Bool):Prop:=∀j o,gJ ops j=some o->lB l j false=true->∀x,x∈mX o.after.toList->lB l x false=true
theorem qN:∀{es:List Edge}{x:Nat},x∈mX es->∃e,e∈es/\Region.binds .any e=true/\e.on=x
 |[],x,h=>by simp[mX]at h
 |e::es,x,h=>by
  unfold mX at h
  cases hb:Region.binds .any e with
  |true=>
   rw[hb]at h
   rcases List.mem_cons.1 h with rfl|h
   ·exact⟨e,by simp,hb,rfl⟩
   ·obtain⟨f,h1,h2⟩:=qN h
    exact⟨f,by simp[h1],h2⟩
  |false=>
   rw[hb]at h
   obtain⟨f,h1,h2⟩:=qN h
   exact⟨f,by simp[h1],h2⟩
theorem vi{l:List Bool}{o:Oper}{i:Nat}(h:fZ l o i=true):∀x,x∈mX o.after.toList->lB l x false=true:=fun x hx=>by
 obtain⟨e,h1,h2,h3⟩:=qN hx
 rw[<-h3]
 exact(ie.1 h).2 e (by simpa using h1) h2
theorem lq.set{ops:List Oper}{l:List Bool}(C:lq ops l){i:Nat}{o:Oper}(ho:gJ ops i=some o)(hr:fZ l o i=true):lq ops (iz l i):=fun j o' ho' hj x hx=>by
 refine mY _ _ _ ?_
 by_cases h:j=i
 ·subst h
  rw[ho]at ho'
  have:=Option.some.inj ho'
  subst this
  exact vi hr x hx
 ·rw[qL _ _ _ _ (Ne.symm h)]at hj
  exact C j o' ho' hj x hx
theorem Ew:∀{a b:List Nat}{x:Nat},x∈U9 a b->x∈a\/x∈b
 |[],b,x,h=> .inr h
 |y::a,b,x,h=>by
  rcases List.mem_cons.1 h with rfl|h
  ·exact .inl (by simp)
  ·rcases Ew h with h|h
   ·exact .inl (by simp[h])
   ·exact .inr h
theorem Ex:∀{l:List Nat}{i:Nat},eH l i=true->i∈l
 |[],i,h=>by simp[eH]at h
 |x::l,i,h=>by
  simp only[eH,Bool.or_eq_true]at h
  rcases h with h|h
  ·have:=Nat.eq_of_beq_eq_true h;subst this;simp
  ·simp[Ex h]
theorem rP{ops:List Oper}{l:List Bool}(C:lq ops l):∀{n:Nat}{todo seen:List Nat},(∀x,x∈todo->lB l x false=true)->(∀x,x∈seen->lB l x false=true)->∀x,x∈anc ops n todo seen->lB l x false=true
 |0,_,_,_,h2,x,hx=>h2 x hx
 |_+1,[],_,_,h2,x,hx=>h2 x hx
 |n+1,i::todo,seen,h1,h2,x,hx=>by
  have hi:=h1 i (by simp)
  have ht:∀x,x∈todo->lB l x false=true:=fun x hx=>h1 x (by simp[hx])
  have hs:∀x,x∈i::seen->lB l x false=true:=fun x hx=>by
   rcases List.mem_cons.1 hx with rfl|hx
   ·exact hi
   ·exact h2 x hx
  unfold anc at hx
  split at hx
  ·exact rP C ht h2 x hx
  ·split at hx
   ·rename_i o ho
    exact rP C (fun y hy=>(Ew hy).elim (C i o ho hi y) (ht y)) hs x hx
   ·exact rP C ht hs x hx
theorem MK{ops:List Oper}{l:List Bool}(C:lq ops l){o:Oper}{i j:Nat}(h:fZ l o j=true)(hi:lB l i true=false):eH (ve ops o) i=false:=by
 cases hh:eH (ve ops o) i with
 |false=>rfl
 |true=>
  have:=rP C (vi h) (fun x hx=>by simp at hx) i (Ex hh)
  rw[lK _ _ hi]at this
  cases this
theorem na{P:Program}{ops:List Oper}{K:Env->Heap->Prop}:∀(n:Nat)(l:List Bool)(e:Env)(h:Heap)(S S':kf),(∀s,s∈S'->s∈S\/∀g,s.2 g)->Aa P ops K n l e h S->Aa P ops K n l e h S'
 |0,_,_,_,_,_,_,H=>H
 |n+1,l,e,h,S,S',hs,H=>by
  refine⟨H.1,fun i o hi=>ic (fun v h' hv=>⟨fun hq=>na n _ _ _ _ _ hs (hv.1 hq),fun hq=> ?_⟩) (H.2 i o hi)⟩
  obtain⟨h1,h2⟩:=hv.2 hq
  have Hl:∀s,s∈lk ops o S'->s∈lk ops o S\/∀g,s.2 g:=fun s hm=>by
   rw[K4]at*
   rcases hs _ hm.1 with h|h
   ·exact .inl ⟨h,hm.2⟩
   ·exact .inr h
  exact⟨fun s hm=>(Hl s hm).elim (h1 s) fun k=>k _,na n _ _ _ _ _ Hl h2⟩
theorem wW{P:Program}{ops:List Oper}{K:Env->Heap->Prop}(hp:fp ops ops 0=true){i:Nat}{oi:Oper}{v:Value}(hi:gJ ops i=some oi)(hq:(vd oi.op||zV oi.op)=true)(p:Heap->Prop):
 ∀(n:Nat)(l:List Bool)(e:Env)(h:Heap)(S:kf),lq ops l->(∀g,p g->Yv P ops e g oi v)->fZ l oi i=true->Yv P ops e h oi v->
  Aa P ops K n (iz l i) (put e oi.dst v) h ((i,p)::S)->Aa P ops K (n+1) l e h S:=by
 intro n
 induction n with
 |zero=>
  intro l e h S C hpy hr hy H
  refine⟨fun h0=> ?_,fun j oj hj=> ?_⟩
  ·have:=cH.2 ⟨hi,hr⟩;rw[h0]at this;cases this
  ·obtain⟨Qq,Uv⟩:=cH.1 hj
   by_cases Vd:j=i
   ·subst Vd
    obtain rfl:oj=oi:=by rw[hi]at Qq;exact(Option.some.inj Qq).symm
    rw[jH hq]
    exact⟨v,hy,fun _=>⟨H.1,H.2⟩,fun hc=>by rw[hq]at hc;cases hc⟩
   ·have:=cH.2 ⟨Qq,ov Uv Vd⟩
    rw[H.1]at this;cases this
 |succ n ih=>
  intro l e h S C hpy hr hy H
  refine⟨fun h0=> ?_,fun j oj hj=> ?_⟩
  ·have:=cH.2 ⟨hi,hr⟩;rw[h0]at this;cases this
  ·obtain⟨Qq,Uv⟩:=cH.1 hj
   by_cases Vd:j=i
   ·subst Vd
    obtain rfl:oj=oi:=by rw[hi]at Qq;exact(Option.some.inj Qq).symm
    rw[jH hq]
    exact⟨v,hy,fun _=>na _ _ _ _ _ _ (fun s hs=> .inl (by simp[hs])) H,fun hc=>by rw[hq]at hc;cases hc⟩
   ·have hli:lB l i true=false:=(ie.1 hr).1
    have hlj:lB l j true=false:=(ie.1 Uv).1
    have hnj:jz oj i=false:=Ju Uv hli
    have hni:jz oi j=false:=Ju hr hlj
    obtain⟨a1,a2,a3⟩:=MJ hp hi Qq Vd hnj hni
    have H1:=H.2 j oj (cH.2 ⟨Qq,ov Uv Vd⟩)
    rw[K3 a1]at H1
    have hri:fZ (iz l j) oi i=true:=ov hr (Ne.symm Vd)
    by_cases hqj:(vd oj.op||zV oj.op)=true
    ·rw[jH hqj]at H1⊢
     obtain⟨u,hu,H2⟩:=H1
     refine⟨u,hu,fun _=> ?_,fun hc=>by rw[hqj]at hc;cases hc⟩
     refine ih (iz l j) (put e oj.dst u) h S (C.set Qq Uv) (fun g hg=>by rw[B3 a3];exact hpy g hg) hri (by rw[B3 a3];exact hy) ?_
     rw[tA,<-put_comm a2]
     exact H2.1 hqj
    ·have aeI:(vd oj.op||zV oj.op)=false:=by simpa using hqj
     refine ic (fun u h' H2=>⟨fun hc=>absurd hc hqj,fun _=> ?_⟩) H1
     obtain⟨h3,h4⟩:=H2.2 aeI
     have hk:lk ops oj ((i,p)::S)=(i,p)::lk ops oj S:=by simp[lk,qx,MK C Uv hli]
     rw[hk]at h3 h4
     refine⟨fun s hs=>h3 s (by simp[hs]),?_⟩
     refine ih (iz l j) (put e oj.dst u) h' (lk ops oj S) (C.set Qq Uv) (fun g hg=>by rw[B3 a3];exact hpy g hg) hri ?_ ?_
     ·rw[B3 a3]
      exact hpy _ (h3 (i,p) (by simp))
     ·rw[tA,<-put_comm a2]
      exact h4
theorem oA:∀{r:List (Nat×Oper)}{x:Nat×Oper},cU r=some x->x∈r/\(vd x.2.op||zV x.2.op)=true
 |[],_,h=>by simp[cU]at h
 |(i,o)::r,x,h=>by
  unfold cU at h
  cases hq:(vd o.op||zV o.op)with
  |true=>rw[hq]at h;simp only[Option.some.injEq]at h;subst h;exact⟨by simp,hq⟩
  |false=>rw[hq]at h;have:=oA h;exact⟨by simp[this.1],this.2⟩
theorem nQ:∀{r:List (Nat×Oper)},cU r=none->∀x,x∈r->(vd x.2.op||zV x.2.op)=false
 |[],_,x,hx=>by simp at hx
 |(i,o)::r,h,x,hx=>by
  unfold cU at h
  cases hq:(vd o.op||zV o.op)with
  |true=>rw[hq]at h;cases h
  |false=>
   rw[hq]at h
   rcases List.mem_cons.1 hx with rfl|hx
   ·exact hq
   ·exact nQ h x hx
theorem Az{h:Heap}{K:Prop}:∀{S:kf},MI h K S->(∀s,s∈S->s.2 h)/\K
 |[],H=>⟨fun s hs=>by simp at hs,H⟩
 |(i,p)::S,H=>by
  obtain⟨h1,h2⟩:=H
  obtain⟨h3,h4⟩:=Az h2
  refine⟨fun s hs=> ?_,h4⟩
  rcases List.mem_cons.1 hs with h|h
  ·rw[h];exact h1
  ·exact h3 s h
theorem AA{f:Nat->Oper->Prop}:∀{r:List (Nat×Oper)},Hj f r->∀i o,(i,o)∈r->f i o
 |[],_,i,o,h=>by simp at h
 |[(j,x)],H,i,o,h=>by simp at h;obtain⟨rfl,rfl⟩:=h;exact H
 |(j,x)::y::r,H,i,o,h=>by
  rcases List.mem_cons.1 h with h|h
  ·cases h;exact H.1
  ·exact AA H.2 i o h
theorem iF{P:Program}{ops:List Oper}{K:Env->Heap->Prop}(hp:fp ops ops 0=true):∀(n:Nat)(l:List Bool)(e:Env)(h:Heap)(S:kf),lq ops l->lJ P ops K n l e h S->Aa P ops K n l e h S
 |0,l,e,h,S,C,H=>by
  unfold lJ at H
  cases hr:bA ops 0 l with
  |nil=>rw[hr]at H;exact⟨hr,H⟩
  |cons x xs=>rw[hr]at H;exact H.elim
 |n+1,l,e,h,S,C,H=>by
  unfold lJ at H
  cases hq:cU (bA ops 0 l)with
  |some x=>
   obtain⟨i,o⟩:=x
   obtain⟨hm,hqq⟩:=oA hq
   obtain⟨ho,hr⟩:=cH.1 hm
   rw[hq]at H
   simp only at H
   cases hpu:vd o.op with
   |true=>
    rw[hpu]at H
    simp only at H
    rw[jH hqq]at H
    obtain⟨v,hv,H⟩:=H
    exact wW hp ho hqq (fun _=>True) n l e h S C (fun g _=>QJ hpu hv g) hr hv
     (na _ _ _ _ _ _ (fun s hs=>(List.mem_cons.1 hs).elim (fun h=> .inr fun _=>by rw[h];trivial) .inl) (iF hp n _ _ _ _ (C.set ho hr) H))
   |false=>
    rw[hpu]at H
    simp only at H
    rw[jH hqq]at H
    obtain⟨v,hv,H⟩:=H
    exact wW hp ho hqq _ n l e h S C (fun g hg=>hg) hr hv (iF hp n _ _ _ _ (C.set ho hr) H)
  |none=>
   rw[hq]at H
   simp only at H
   cases hr:bA ops 0 l with
   |nil=>
    rw[hr]at H
    exact⟨fun _=>H,fun i o hi=>by rw[hr]at hi;cases hi⟩
   |cons x xs=>
    rw[hr]at H
    simp only at H
    refine⟨fun h0=>(by rw[hr]at h0;cases h0),fun i o hi=> ?_⟩
    rw[hr]at hi
    have H1:=AA H i o hi
    obtain⟨ho,Ve⟩:=cH.1 (by rw[hr];exact hi:(i,o)∈bA ops 0 l)
    refine ic (fun v h' hv=>⟨fun hc=> ?_,fun _=> ?_⟩) H1
    ·have:=nQ hq (i,o) (by rw[hr];exact hi)
     rw[hc]at this;cases this
    ·obtain⟨h1,h2⟩:=Az hv
     exact⟨h1,iF hp n _ _ _ _ (C.set ho Ve) h2⟩
theorem v7(l:Array Bool)(i:Nat)(d:Bool):lB l.toList i d=l.getD i d:=by
 have key:∀(l:List Bool)(i:Nat),lB l i d=l[i]?.getD d:=by
  intro l
  induction l with
  |nil=>intro i;simp[lB]
  |cons x xs ih=>intro i;cases i<;>simp[lB,ih]
 rw[key];simp
theorem vj(l:Array Bool)(i:Nat):iz l.toList i=(l.setIfInBounds i true).toList:=by
 have key:∀(l:List Bool)(i:Nat),iz l i=l.set i true:=by
  intro l
  induction l with
  |nil=>intro i;rfl
  |cons x xs ih=>intro i;cases i<;>simp[iz,ih]
 rw[key];simp
theorem qO{ops:Array Oper}{l:Array Bool}{i:Nat}:i∈Region.ready .any ops l↔∃o,(i,o)∈bA ops.toList 0 l.toList:=by
 rw[mem_ready]
 constructor
 ·rintro⟨h0,o,ho,h⟩
  refine⟨o,cH.2 ⟨by rw[pI];exact ho,ie.2 ⟨by rw[v7];exact h0,fun e he hb=>by rw[v7];exact h e he hb⟩⟩⟩
 ·rintro⟨o,h⟩
  obtain⟨ho,hr⟩:=cH.1 h
  obtain⟨h0,h1⟩:=ie.1 hr
  exact⟨by rw[<-v7];exact h0,o,by rw[<-pI];exact ho,fun e he hb=>by rw[<-v7];exact h1 e he hb⟩
theorem AB{ops:Array Oper}{l:Array Bool}:Region.ready .any ops l=[]↔bA ops.toList 0 l.toList=[]:=by
 constructor
 ·intro h
  cases hr:bA ops.toList 0 l.toList with
  |nil=>rfl
  |cons x xs=>
   have:x.1∈Region.ready .any ops l:=qO.2 ⟨x.2,by rw[hr];simp⟩
   rw[h]at this;cases this
 ·intro h
  cases hr:Region.ready .any ops l with
  |nil=>rfl
  |cons x xs=>
   obtain⟨o,ho⟩:=qO.1 (show x∈Region.ready .any ops l by rw[hr];simp)
   rw[h]at ho;cases ho
theorem lL{P:Program}{ops:Array Oper}{Q:Exit->Act->World->Prop}{K:Env->Heap->Prop}{w0:World}(hQ:∀a w,cN w0 w->K a.tmps.toList w.heap->a.defers=[]->Q .normal a w):
 ∀(n:Nat)(l:Array Bool)(a:Act)(w:World)(S:kf),a.defers=[]->cN w0 w->Aa P ops.toList K n l.toList a.tmps.toList w.heap S->wpAny P .any ops Q n l a w
 |0,l,a,w,S,hd,hs,H=>⟨AB.2 H.1,hQ a w hs H.2 hd⟩
 |n+1,l,a,w,S,hd,hs,H=>by
  refine⟨fun h=>hQ a w hs (H.1 (AB.1 h)) hd,fun i hi=> ?_⟩
  obtain⟨o,ho⟩:=qO.1 hi
  refine qw (by rw[<-pI];exact(cH.1 ho).1) (ic (fun v h' hv=> ?_) (H.2 i o ho))
  intro w' hw' hh'
  subst hh'
  have Qo:(a.put o.dst v).defers=[]:=by rw[put_defers];exact hd
  cases hq:(vd o.op||zV o.op)with
  |true=>
   have:=hv.1 hq
   rw[vj,<-qI]at this
   exact lL hQ n _ _ _ _ Qo (hs.trans hw') this
  |false=>
   have:=(hv.2 hq).2
   rw[vj,<-qI]at this
   exact lL hQ n _ _ _ _ Qo (hs.trans hw') this
theorem qy{P:Program}{ops:Array Oper}{Q:Exit->Act->World->Prop}{K:Env->Heap->Prop}{w0:World}(hQ:∀a w,cN w0 w->K a.tmps.toList w.heap->a.defers=[]->Q .normal a w):
 ∀(l:List Oper)(k:Nat)(a:Act)(w:World),(∀j,gJ l j=gJ ops.toList (k+j))->a.defers=[]->cN w0 w->wpIn P ops.toList l a.tmps.toList w.heap K->wpOps P ops Q (List.range' k l.length) a w
 |[],k,a,w,_,hd,hs,H=>by simpa[wpOps]using hQ a w hs H hd
 |o::os,k,a,w,hl,hd,hs,H=>by
  simp only[List.length_cons,List.range'_succ]
  rw[wpOps_cons]
  have ho:ops[k]?=some o:=by rw[<-pI];have:=hl 0;simp only[gJ,Nat.add_zero]at this;exact this.symm
  refine qw ho (ic (fun v h' hv=> ?_) H)
  intro w' hw' hh'
  subst hh'
  refine qy hQ os (k+1) _ _ (fun j=> ?_) (by rw[put_defers];exact hd) (hs.trans hw') (by rw[qI];exact hv)
  have:=hl (j+1)
  simp only[gJ]at this
  rw[this,show k+(j+1)=k+1+j by omega]
def nb:List Oper->List Bool
 |[]=>[]
 |_::os=>false::nb os
def len:List Oper->Nat
 |[]=>0
 |_::os=>len os+1
def QK(P:Program)(ops:List Oper)(draw:Bool)(e:Env)(h:Heap)(K:Env->Heap->Prop):Prop:=
 match draw with
 |false=>wpIn P ops ops e h K
 |true=>match fp ops ops 0 with
  |true=>lJ P ops K (len ops) (nb ops) e h []
  |false=>False
def Ab:List Oper->List Nat
 |[]=>[]
 |o::os=>match o.dst with
  |some d=>d::Ab os
  |none=>Ab os
def writes:Code->List Nat
 | .region _ ops _=>Ab ops.toList
 | .seq a b=>writes a++writes b
 | .cond _ a b=>writes a++writes b
 | .block _ c=>writes c
 | .loop c=>writes c
 |_=>[]
def kg:Nat->(List Value->Prop)->Prop
 |0,f=>f []
 |n+1,f=>∀v,kg n fun vs=>f (v::vs)
def iA:List Nat->Nat
 |[]=>0
 |_::xs=>iA xs+1
def AD(P:Program)(an:Nat->Option (List Nat)):Code->Nat->(Env->Heap->Prop)->(Nat->Env->Heap->Prop)->(Env->Heap->Prop)->Env->Heap->Prop
 | .skip,_,kn,_,_,e,h=>kn e h
 | .region _ ops draw,_,kn,_,_,e,h=>QK P ops.toList draw e h kn
 | .seq a b,p,kn,kx,kr,e,h=>match an p with
   |none=>AD P an a (2*p) (fun e' h'=>AD P an b (2*p+1) kn kx kr e' h') kx kr e h
   |some L=>∃J:List Value->Heap->Prop,AD P an a (2*p) (fun e' h'=>J (eC e' L) h') kx kr e h/\
    ∀(tC:Nat->Value),kg (iA L) fun vs=>∀h':Heap,J vs h'->AD P an b (2*p+1) kn kx kr (jy (fR e tC (writes a)) L vs) h'
 | .cond c a b,p,kn,kx,kr,e,h=>MF (ev e c) (AD P an a (2*p) kn kx kr e h) (AD P an b (2*p+1) kn kx kr e h)
 | .block id c,p,kn,kx,kr,e,h=>AD P an c (2*p) kn (fun i e' h'=>match Nat.beq i id with
   |true=>kn e' h'
   |false=>kx i e' h') kr e h
 | .loop c,p,_,kx,kr,e,h=>match an p with
   |none=>False
   |some L=>∃(I:List Value->Heap->Prop)(μ:List Value->Heap->Nat),I (eC e L) h/\
    ∀(tC:Nat->Value),kg (iA L) fun vs=>∀h':Heap,I vs h'->
     AD P an c (2*p) (fun e'' lc=>I (eC e'' L) lc/\μ (eC e'' L) lc<μ vs h') kx kr (jy (fR e tC (writes c)) L vs) h'
 | .exit id,_,_,kx,_,e,h=>kx id e h
 | .ret,_,_,_,kr,e,h=>kr e h
 | .label _,_,kn,_,_,e,h=>kn e h
 |_,_,_,_,_,_,_=>False
structure pM(D:List Nat)(e e':Env):Prop where
 len:e'.length=e.length
 same:∀t,t∉D->eK e' t=eK e t
theorem pM.refl(D:List Nat)(e:Env):pM D e e:=⟨rfl,fun _ _=>rfl⟩
theorem pM.trans{D:List Nat}{a b c:Env}(h:pM D a b)(k:pM D b c):pM D a c:=⟨k.len.trans h.len,fun t ht=>(k.same t ht).trans (h.same t ht)⟩
theorem pM.mono{D D':List Nat}{a b:Env}(h:pM D a b)(hD:∀t,t∈D->t∈D'):pM D' a b:=⟨h.len,fun t ht=>h.same t fun hm=>ht (hD t hm)⟩
theorem pM.put{D:List Nat}{a b:Env}(h:pM D a b){dst:Option Tmp}(hd:∀d,dst=some d->d∈D)(v:Value):pM D a (put b dst v):=by
 cases dst with
 |none=>exact h
 |some d=>
  refine⟨by simp only[Mx.put];rw[eZ];exact h.len,fun t ht=> ?_⟩
  simp only[Mx.put]
  rw[fa _ _ _ _ fun he=>ht (by rw[<-he];exact hd d rfl)]
  exact h.same t ht
theorem oB:∀(D:List Nat)(e:Env)(j:Nat->Value),(fR e j D).length=e.length
 |[],_,_=>rfl
 |t::ts,e,j=>by simp only[fR];rw[oB ts,eZ]
theorem AE:∀(D:List Nat)(e:Env)(j:Nat->Value)(t:Nat),t<e.length->eK (fR e j D) t=if t∈D then j t else eK e t
 |[],_,_,_,_=>by simp[fR]
 |d::ds,e,j,t,ht=>by
  simp only[fR]
  rw[AE ds _ _ _ (by rw[eZ];exact ht)]
  by_cases h1:t∈ds
  ·simp[h1]
  ·simp only[h1,if_false,List.mem_cons,or_false]
   by_cases h2:t=d
   ·subst h2;simp[ke _ _ _ ht]
   ·simp only[h2,if_false];exact fa _ _ _ _ (Ne.symm h2)
theorem vk:∀(L:List Nat)(e:Env),jy e L (eC e L)=e
 |[],_=>rfl
 |t::ts,e=>by
  have h0:tz e t (eK e t)=e:=BZ _ _ (eZ _ _ _) fun s hs=>by
   rw[eZ]at hs
   by_cases h:t=s
   ·subst h;exact ke _ _ _ hs
   ·exact fa _ _ _ _ h
  simp only[eC,jy,h0]
  exact vk ts e
theorem wX{D:List Nat}{e e':Env}(h:pM D e e')(L:List Nat):jy (fR e (eK e') D) L (eC e' L)=e':=by
 have h0:fR e (eK e') D=e':=BZ _ _ (by rw[oB,h.len]) fun t ht=>by
  rw[oB]at ht
  rw[AE _ _ _ _ ht]
  by_cases hm:t∈D
  ·simp[hm]
  ·simp[hm,h.same t hm]
 rw[h0]
 exact vk L e'
theorem kH:∀(L:List Nat)(e:Env),(eC e L).length=iA L
 |[],_=>rfl
 |_::ts,e=>by simp[eC,iA,kH ts e]
theorem nc:∀(n:Nat)(f:List Value->Prop),kg n f->∀vs:List Value,vs.length=n->f vs
 |0,f,h,vs,hv=>by rw[List.eq_nil_of_length_eq_zero hv];exact h
 |n+1,f,h,[],hv=>by simp at hv
 |n+1,f,h,v::vs,hv=>nc n (fun vs=>f (v::vs)) (h v) vs (by simpa using hv)
def oC(D:List Nat)(kn:Env->Heap->Prop)(kx:Nat->Env->Heap->Prop)(kr:Env->Heap->Prop)(e0:Env)(w0:World):Exit->Act->World->Prop
 | .normal,a,w=>a.defers=[]/\cN w0 w/\pM D e0 a.tmps.toList/\kn a.tmps.toList w.heap
 | .exit id,a,w=>a.defers=[]/\cN w0 w/\pM D e0 a.tmps.toList/\kx id a.tmps.toList w.heap
 | .ret,a,w=>a.defers=[]/\cN w0 w/\pM D e0 a.tmps.toList/\kr a.tmps.toList w.heap
 |_,_,_=>False
theorem oC.weaken{D D':List Nat}{kn pN:Env->Heap->Prop}{kx rQ:Nat->Env->Heap->Prop}{kr:Env->Heap->Prop}{e0 e1:Env}{w0 w1:World}(hD:∀t,t∈D->t∈D')(hw:cN w0 w1)(he:pM D' e0 e1)
 (hn:∀e h,kn e h->pN e h) (hx:∀i e h,kx i e h->rQ i e h) {x:Exit} {a:Act} {w:World} (H:oC D kn kx kr e1 w1 x a w):oC D' pN rQ kr e0 w0 x a w:=by
 cases x<;>first
  |exact⟨H.1,hw.trans H.2.1,he.trans (H.2.2.1.mono hD),hn _ _ H.2.2.2⟩
  |exact⟨H.1,hw.trans H.2.1,he.trans (H.2.2.1.mono hD),hx _ _ _ H.2.2.2⟩
  |exact⟨H.1,hw.trans H.2.1,he.trans (H.2.2.1.mono hD),H.2.2.2⟩
  |exact H
theorem oC.B4{D D':List Nat}{kn pN:Env->Heap->Prop}{kx:Nat->Env->Heap->Prop}{kr:Env->Heap->Prop}{e0 e1:Env}{w0 w1:World}(hD:∀t,t∈D->t∈D')(hw:cN w0 w1)(he:pM D' e0 e1)
 {x:Exit} {a:Act} {w:World} (hx:x≠ .normal) (H:oC D kn kx kr e1 w1 x a w):oC D' pN kx kr e0 w0 x a w:=by
 cases x<;>first
  |exact absurd rfl hx
  |exact⟨H.1,hw.trans H.2.1,he.trans (H.2.2.1.mono hD),H.2.2.2⟩
  |exact H
theorem rS:∀(ops:List Oper)(j:Nat)(o:Oper),gJ ops j=some o->∀d,o.dst=some d->d∈Ab ops
 |[],j,o,h,_,_=>by simp[gJ]at h
 |x::xs,0,o,h,d,hd=>by simp only[gJ,Option.some.injEq]at h;subst h;simp[Ab,hd]
 |x::xs,j+1,o,h,d,hd=>by
  have:=rS xs j o h d hd
  unfold Ab
  cases x.dst<;>simp[this]
theorem Ey{P:Program}{ops:List Oper}{K:Env->Heap->Prop}{e0:Env}{D:List Nat}:∀(l:List Oper)(e:Env)(h:Heap),(∀j o,gJ l j=some o->∀d,o.dst=some d->d∈D)->pM D e0 e->wpIn P ops l e h K->wpIn P ops l e h fun e' h'=>pM D e0 e'/\K e' h'
 |[],e,h,_,ho,H=>⟨ho,H⟩
 |o::os,e,h,hl,ho,H=>ic (fun v h' hv=>Ey os _ _ (fun j x hx=>hl (j+1) x hx) (ho.put (hl 0 o rfl) v) hv) H
theorem wY{P:Program}{ops:List Oper}{K:Env->Heap->Prop}{e0:Env}:∀(n:Nat)(l:List Bool)(e:Env)(h:Heap)(S:kf),pM (Ab ops) e0 e->Aa P ops K n l e h S->Aa P ops (fun e' h'=>pM (Ab ops) e0 e'/\K e' h') n l e h S
 |0,l,e,h,S,ho,H=>⟨H.1,ho,H.2⟩
 |n+1,l,e,h,S,ho,H=>⟨fun h0=>⟨ho,H.1 h0⟩,fun i o hi=>ic (fun v h' hv=>
  ⟨fun hq=>wY n _ _ _ _ (ho.put (rS ops i o (cH.1 hi).1) v) (hv.1 hq),fun hq=>⟨(hv.2 hq).1,wY n _ _ _ _ (ho.put (rS ops i o (cH.1 hi).1) v) (hv.2 hq).2⟩⟩) (H.2 i o hi)⟩
theorem Vf(ops:Array Oper):Mx.len ops.toList=ops.size:=by
 have key:∀l:List Oper,Mx.len l=l.length:=by intro l;induction l<;>simp[Mx.len, *]
 rw[key];simp
theorem AF:∀(l:List Oper)(j:Nat),lB (nb l) j false=false
 |[],_=>rfl
 |_::_,0=>rfl
 |_::l,j+1=>AF l j
theorem Ac(ops:List Oper):lq ops (nb ops):=fun j o _ h=>by rw[AF]at h;cases h
theorem K5(ops:Array Oper):nb ops.toList=(Array.replicate ops.size false).toList:=by
 have key:∀l:List Oper,nb l=List.replicate l.length false:=by
  intro l
  induction l with
  |nil=>rfl
  |cons x xs ih=>simp[nb,ih,List.replicate_succ]
 rw[key];simp
theorem K6{P:Program}(hm:P.follows .mixedOrders=true)(an:Nat->Option (List Nat)):∀(c:Code)(p:Nat)(kn:Env->Heap->Prop)(kx:Nat->Env->Heap->Prop)(kr:Env->Heap->Prop)(a:Act)(w:World),
 a.defers=[]->AD P an c p kn kx kr a.tmps.toList w.heap->c.wp P (oC (writes c) kn kx kr a.tmps.toList w) a w:=by
 intro c
 induction c with
 |skip=>intro p kn kx kr a w hd H;exact wp_skip ⟨hd,cN.refl w,pM.refl _ _,H⟩
 |region id ops draw=>
  intro p kn kx kr a w hd H
  simp only[AD,QK]at H
  cases draw with
  |false=>
   simp only at H
   have H':=Ey (D:=Ab ops.toList) ops.toList _ _ (fun j o ho d hdd=>rS _ j o ho d hdd) (pM.refl _ _) H
   have:=qy (P:=P) (ops:=ops) (Q:=oC (Ab ops.toList) kn kx kr a.tmps.toList w) (w0:=w) (fun a' w' hs hk Qo=>⟨Qo,hs,hk.1,hk.2⟩) ops.toList 0 a w (fun j=>by rw[Nat.zero_add]) hd (cN.refl w) H'
   refine wp_region ?_
   rw[List.range_eq_range']
   have hl:ops.toList.length=ops.size:=by simp
   rw[hl]at this
   exact this
  |true=>
   simp only at H
   cases hp:fp ops.toList ops.toList 0 with
   |false=>rw[hp]at H;exact H.elim
   |true=>
    rw[hp]at H
    simp only at H
    have H':=wY _ _ _ _ _ (pM.refl _ a.tmps.toList) (iF hp _ _ _ _ _ (Ac _) H)
    rw[Vf,K5]at H'
    refine wp_region_any hm ?_
    exact lL (w0:=w) (fun a' w' hs hk Qo=>⟨Qo,hs,hk.1,hk.2⟩) ops.size _ a {w with drawn:=w.drawn+1} [] hd ⟨rfl,rfl,rfl⟩ H'
 |seq x y ihx ihy=>
  intro p kn kx kr a w hd H
  simp only[AD]at H
  refine wp_seq ?_
  cases hp:an p with
  |none=>
   rw[hp]at H
   refine wp_mono (ihx _ _ _ _ a w hd H) fun e a' w' hq=> ?_
   cases e with
   |normal=>
    obtain⟨h1,h2,h3,h4⟩:=hq
    exact wp_mono (ihy _ _ _ _ a' w' h1 h4) fun e a'' w'' hq'=>hq'.weaken (fun t ht=>List.mem_append_right _ ht) h2 (h3.mono fun t ht=>List.mem_append_left _ ht) (fun _ _ h=>h) (fun _ _ _ h=>h)
   |_=>exact oC.B4 (pN:=kn) (D':=writes x++writes y) (fun t ht=>List.mem_append_left _ ht) (cN.refl w) (pM.refl _ _) (by simp) hq
  |some L=>
   rw[hp]at H
   obtain⟨J,H1,H2⟩:=H
   refine wp_mono (ihx _ _ _ _ a w hd H1) fun e a' w' hq=> ?_
   cases e with
   |normal=>
    obtain⟨h1,h2,h3,h4⟩:=hq
    have H3:=nc _ _ (H2 (eK a'.tmps.toList)) (eC a'.tmps.toList L) (kH _ _) _ h4
    rw[wX h3]at H3
    exact wp_mono (ihy _ _ _ _ a' w' h1 H3) fun e a'' w'' hq'=>hq'.weaken (fun t ht=>List.mem_append_right _ ht) h2 (h3.mono fun t ht=>List.mem_append_left _ ht) (fun _ _ h=>h) (fun _ _ _ h=>h)
   |_=>exact oC.B4 (pN:=kn) (D':=writes x++writes y) (fun t ht=>List.mem_append_left _ ht) (cN.refl w) (pM.refl _ _) (by simp) hq
 |cond c x y ihx ihy=>
  intro p kn kx kr a w hd H
  simp only[AD]at H
  obtain⟨t,ht,h1,h2⟩:=H
  rw[eG]at ht
  refine wp_cond_split ht (fun h=> ?_) (fun h=> ?_)
  ·exact wp_mono (ihx _ _ _ _ a w hd (h1 h)) fun e a' w' hq=>hq.weaken (fun t ht=>List.mem_append_left _ ht) (cN.refl w) (pM.refl _ _) (fun _ _ h=>h) (fun _ _ _ h=>h)
  ·exact wp_mono (ihy _ _ _ _ a w hd (h2 h)) fun e a' w' hq=>hq.weaken (fun t ht=>List.mem_append_right _ ht) (cN.refl w) (pM.refl _ _) (fun _ _ h=>h) (fun _ _ _ h=>h)
 |block id x ih=>
  intro p kn kx kr a w hd H
  simp only[AD]at H
  refine wp_block (wp_mono (ih _ _ _ _ a w hd H) fun e a' w' hq=> ?_)
  cases e with
  |exit i=>
   obtain⟨h1,h2,h3,h4⟩:=hq
   simp only[Exit.inBlock]
   by_cases hi:i=id
   ·subst hi
    simp only[if_true]
    have hb:Nat.beq i i=true:=by simp
    rw[hb]at h4
    exact⟨h1,h2,h3,h4⟩
   ·simp only[hi,if_false]
    have hb:Nat.beq i id=false:=by
     cases hb:Nat.beq i id with
     |false=>rfl
     |true=>exact absurd (Nat.eq_of_beq_eq_true hb) hi
    rw[hb]at h4
    exact⟨h1,h2,h3,h4⟩
  |_=>exact hq
 |loop x ih=>
  intro p kn kx kr a w hd H
  simp only[AD]at H
  cases hp:an p with
  |none=>rw[hp]at H;exact H.elim
  |some L=>
   rw[hp]at H
   obtain⟨I,μ,H0,H1⟩:=H
   refine wp_loop (fun a' w'=>a'.defers=[]/\cN w w'/\pM (writes x) a.tmps.toList a'.tmps.toList/\I (eC a'.tmps.toList L) w'.heap) (fun a' w'=>μ (eC a'.tmps.toList L) w'.heap) ⟨hd,cN.refl w,pM.refl _ _,H0⟩ ?_
   rintro a' w' ⟨h1,h2,h3,h4⟩
   have H3:=nc _ _ (H1 (eK a'.tmps.toList)) (eC a'.tmps.toList L) (kH _ _) _ h4
   rw[wX h3]at H3
   refine wp_mono (ih _ _ _ _ a' w' h1 H3) fun e a'' w'' hq=> ?_
   cases e with
   |normal=>exact⟨⟨hq.1,h2.trans hq.2.1,h3.trans hq.2.2.1,hq.2.2.2.1⟩,hq.2.2.2.2⟩
   |_=>exact oC.B4 (pN:=fun _ _=>True) (fun t ht=>ht) h2 h3 (by simp) hq
 |rangeFunc f params assign body=>intro p kn kx kr a w hd H;exact H.elim
 |exit id=>intro p kn kx kr a w hd H;exact wp_exit ⟨hd,cN.refl w,pM.refl _ _,H⟩
 |scope body=>intro p kn kx kr a w hd H;exact H.elim
 |label l=>intro p kn kx kr a w hd H;exact wp_label ⟨hd,cN.refl w,pM.refl _ _,H⟩
 |goto l=>intro p kn kx kr a w hd H;exact H.elim
 |ret=>intro p kn kx kr a w hd H;exact wp_ret ⟨hd,cN.refl w,pM.refl _ _,H⟩
 |refuse why=>intro p kn kx kr a w hd H;exact H.elim
def kI:Nat->Env
 |0=>[]
 |n+1=>undef::kI n
def oneOf:List Value->Value
 |[v]=>v
 |vs=> .tuple vs.toArray
def B5(P:Program)(e:Nat->Value)(h:Heap)(K:Value->Heap->Prop):List ResultVar->List Value->Prop
 |[],acc=>K (oneOf acc.reverse) h
 | .tmp t::rs,acc=>B5 P e h K rs (e t::acc)
 | .cell a t::rs,acc=>zZ P (Instr.loadAt t (e a)) h fun v=>B5 P e h K rs (v::acc)
def ML(P:Program)(rs:List ResultVar)(e:Env)(h:Heap)(K:Value->Heap->Prop):Prop:=B5 P (eK e) h K rs []
theorem Ez{P:Program}{fn:Func}{a:Array Value}{h:Heap}{K:Value->Heap->Prop}(H:ML P fn.results.toList a.toList h K):∃v,(∀w:World,w.heap=h->(results fn a).run P w= .ok v w)/\K v h:=by
 have aeM:∀(w:World),(results fn a).run P w=((fn.results.toList.mapM fun r=>(match r with
  | .tmp t=>pure (a.getD t undef)
  | .cell b t=>do loadVar t (<-asAddr (a.getD b undef)):Sem Value)).bind fun l=>Sem.pure (oneOf l)).run P w:=by
  intro w
  unfold results
  rw[Array.mapM_eq_mapM_toList]
  simp only[map_eq_pure_bind,bind_assoc,pure_bind]
  show Sem.run P (Sem.bind _ _) w=_
  rw[Sem.run_bind',Sem.run_bind']
  congr 1
  funext l w'
  match l with
  |[]=>rfl
  |[x]=>rfl
  |x::y::l=>simp[oneOf]
 have key:∀(rs:List ResultVar)(acc:List Value),B5 P (eK a.toList) h K rs acc->∃l,(∀w:World,w.heap=h->(rs.mapM fun r=>(match r with
  | .tmp t=>pure (a.getD t undef)
  | .cell b t=>do loadVar t (<-asAddr (a.getD b undef)):Sem Value)).run P w= .ok l w)/\K (oneOf (acc.reverse++l)) h:=by
  intro rs
  induction rs with
  |nil=>intro acc H;exact⟨[],fun w hw=>rfl,by simpa[B5]using H⟩
  |cons r rs ih=>
   intro acc H
   cases r with
   |tmp t=>
    obtain⟨l,h1,h2⟩:=ih _ H
    refine⟨a.getD t undef::l,fun w hw=> ?_,by simpa[jE]using h2⟩
    rw[List.mapM_cons]
    simp only[pure_bind]
    show Sem.run P (Sem.bind _ _) w=_
    rw[Sem.run_bind',h1 w hw]
    rfl
   |cell b t=>
    obtain⟨v,hv,H⟩:=H
    obtain⟨l,h1,h2⟩:=ih _ H
    refine⟨v::l,fun w hw=> ?_,by simpa using h2⟩
    rw[List.mapM_cons]
    have h3:(do loadVar t (<-asAddr (a.getD b undef)):Sem Value).run P w= .ok v w:=by
     have:=hv w hw
     unfold Instr.loadAt at this
     rw[<-jE]
     have e1:(do loadVar t (<-Instr.sureAddr (eK a.toList b)):Sem Value)=(Instr.sureAddr (eK a.toList b)).bind fun x=>loadVar t x:=rfl
     have e2:(do loadVar t (<-asAddr (eK a.toList b)):Sem Value)=(asAddr (eK a.toList b)).bind fun x=>loadVar t x:=rfl
     rw[e1]at this
     rw[e2]
     cases hx:eK a.toList b with
     |pointer q=>
      rw[hx]at this
      cases q with
      |some q=>exact this
      |none=>simp[Instr.sureAddr,stuck,Sem.bind,Sem.run]at this
     |_=>rw[hx]at this;simp[Instr.sureAddr,stuck,Sem.bind,Sem.run]at this
    show Sem.run P (Sem.bind _ _) w=_
    rw[Sem.run_bind',h3]
    show Sem.run P (Sem.bind _ _) w=_
    rw[Sem.run_bind',h1 w hw]
    rfl
 obtain⟨l,h1,h2⟩:=key _ _ H
 refine⟨oneOf l,fun w hw=> ?_,by simpa using h2⟩
 rw[aeM,Sem.run_bind',h1 w hw]
 rfl
def Func.plain(fn:Func):Bool:= !(fn.name== "runtime.NumGoroutine")&&fn.body.isSome
theorem B7{P:Program}(hm:P.follows .mixedOrders=true){f:FuncId}{fn:Func}{c:Code}(hf:P.funcs[f]?=some fn)(hb:fn.body=some c)(hn:(fn.name== "runtime.NumGoroutine")=false)
 (an:Nat->Option (List Nat)) {args:List Value} {h:Heap} {K:Value->Heap->Prop} (n:Nat) (hk:fn.ntmps-args.length=n) (rs:List ResultVar) (hr:fn.results.toList=rs)
 (H:AD P an c 1 (fun e h=>ML P rs e h K) (fun _ _ _=>False) (fun e h=>ML P rs e h K) (args++kI n) h):aE P f args.toArray h K:=by
 refine⟨fun w hw=> ?_⟩
 refine .inr ⟨f,args.toArray,w,?_,rfl,?_⟩
 ·show Sem.run P (Sem.bind program _) w=_
  rw[Sem.run_bind']
  have hn':¬fn.name= "runtime.NumGoroutine" :=by simpa using hn
  simp[program,Sem.run,hf,hn',hb,pure]
 ·subst hw hr hk
  refine calls_of_wp hf hb ?_
  have hu:∀n,kI n=List.replicate n undef:=by intro n;induction n<;>simp[kI,List.replicate_succ, *]
  have e1:(args.toArray++Array.replicate (fn.ntmps-args.toArray.size) undef).toList=args++kI (fn.ntmps-args.length):=by
   rw[hu];simp
  have:=K6 hm an c 1 _ _ _ {tmps:=args.toArray++Array.replicate (fn.ntmps-args.toArray.size) undef,defers:=[]} w rfl (by rw[e1];exact H)
  refine wp_mono this fun e a w' hq=> ?_
  cases e<;>first
   |exact hq.elim
   |exact hq.2.2.2.elim
   |(obtain⟨h1,h2,h3,h4⟩:=hq
     obtain⟨v,h5,h6⟩:=Ez h4
     exact⟨h1,v,h5 w' rfl,v,rfl,h2,h6⟩)
def Hm(fn:Func):Code:=
 match fn.body with
 |some c=>c
 |none=> .skip
def gT(op:BinOp)(t:TypeId)(a b:Value):Sem Value:=do eqGuard op t (.tmp 0) (.tmp 0) a b;binOp op t a b
def lM(op:BinOp)(t:TypeId)(x y:Operand)(a b:Value):Sem Value:=do eqGuard op t x y a b;binOp op t a b
def Jx(c a b:Value):Sem Value:=do pure (if<-asBool c then a else b)
def MM(x:Value):Sem Value:=
 match x with
 | .pointer none| .nilIface| .nilFunc=>runtimePanic .nilDeref
 | .func (.method _) _ _=>stuck "a method value"
 |x=>pure x
def Ad(t:TypeId)(ty:TypeId)(x:Value):Sem Value:=Builtin.len_ #[t] ty #[x]
def bP(t u:TypeId)(ty:TypeId)(x y:Value):Sem Value:=Builtin.append_ #[t,u] ty #[x,y]
abbrev aU:=List (Nat×Value)
def lP:aU->Nat->Value
 |[],_=>undef
 |(d,v)::A,t=>match Nat.beq d t with
  |true=>v
  |false=>lP A t
def Jy{α:Sort _}:aU->Nat->(Value->α)->α
 |[],_,k=>k undef
 |(d,v)::A,t,k=>match Nat.beq d t with
  |true=>k v
  |false=>Jy A t k
theorem EA{α:Sort _}:∀(A:aU)(t:Nat)(k:Value->α),Jy A t k=k (lP A t)
 |[],_,_=>rfl
 |(d,v)::A,t,k=>by
  simp only[Jy,lP]
  cases Nat.beq d t with
  |true=>rfl
  |false=>exact EA A t k
def wZ(n:Nat)(A:aU)(dst:Option Tmp)(v:Value):aU:=
 match dst with
 |some d=>match Nat.blt d n with
  |true=>(d,v)::A
  |false=>A
 |none=>A
def vl{α:Sort _}(n:Nat)(A:aU)(dst:Option Tmp)(v:Value)(k:aU->α):α:=
 match dst with
 |some d=>match Nat.blt d n with
  |true=>k ((d,v)::A)
  |false=>k A
 |none=>k A
theorem gU{α:Sort _}(n:Nat)(A:aU)(dst:Option Tmp)(v:Value)(k:aU->α):vl n A dst v k=k (wZ n A dst v):=by
 cases dst with
 |none=>rfl
 |some d=>simp only[vl,wZ];cases Nat.blt d n<;>rfl
def fh(A:aU):Operand->Value
 | .tmp t=>lP A t
 | .const v=>v
 | .global g=> .pointer (some ⟨g,0,none⟩)
 | .func f=> .func (.func f) #[] #[]
def abj{α:Sort _}(A:aU)(x:Operand)(k:Value->α):α:=
 match x with
 | .tmp t=>Jy A t k
 | .const v=>k v
 | .global g=>k (.pointer (some ⟨g,0,none⟩))
 | .func f=>k (.func (.func f) #[] #[])
theorem QL{α:Sort _}(A:aU)(x:Operand)(k:Value->α):abj A x k=k (fh A x):=by
 cases x<;>first|rfl|exact EA _ _ _
def EB{α:Sort _}:List Bool->Nat->(List Bool->α)->α
 |[],_,k=>k []
 |_::bs,0,k=>k (true::bs)
 |b::bs,n+1,k=>EB bs n fun l=>k (b::l)
theorem rT{α:Sort _}:∀(l:List Bool)(n:Nat)(k:List Bool->α),EB l n k=k (iz l n)
 |[],_,_=>rfl
 |_::_,0,_=>rfl
 |b::bs,n+1,k=>by simp only[EB,iz];rw[rT bs n]
structure tD(n:Nat)(A:aU)(e:Env):Prop where
 len:e.length=n
 get:∀t,eK e t=lP A t
theorem tD.ev{n:Nat}{A:aU}{e:Env}(h:tD n A e):Mx.ev e=fh A:=by
 funext x
 cases x<;>simp only[Mx.ev,fh]
 exact h.get _
theorem tD.put{n:Nat}{A:aU}{e:Env}(h:tD n A e)(dst:Option Tmp)(v:Value):tD n (wZ n A dst v) (Mx.put e dst v):=by
 cases dst with
 |none=>exact h
 |some d=>
  simp only[wZ,Mx.put]
  cases hb:Nat.blt d n with
  |true=>
   have hd:d<n:=by simpa[Nat.blt_eq]using hb
   refine⟨by rw[eZ];exact h.len,fun t=> ?_⟩
   simp only[lP]
   cases hq:Nat.beq d t with
   |true=>
    have:=Nat.eq_of_beq_eq_true hq
    subst this
    exact ke _ _ _ (by rw[h.len];exact hd)
   |false=>
    have eA:d≠t:=fun e=>by subst e;simp at hq
    rw[fa _ _ _ _ eA]
    exact h.get t
  |false=>
   have hd:¬d<n:=fun tE=>by rw[<-Nat.blt_eq]at tE;rw[hb]at tE;cases tE
   refine⟨by rw[eZ];exact h.len,fun t=> ?_⟩
   by_cases eA:d=t
   ·subst eA
    rw[<-h.get,BX _ _ (by rw[eZ,h.len];exact Nat.le_of_not_lt hd),BX _ _ (by rw[h.len];exact Nat.le_of_not_lt hd)]
   ·rw[fa _ _ _ _ eA]
    exact h.get t
def xd(P:Program)(A:aU)(op:Op)(ty:TypeId)(h:Heap)(K:Value->Heap->Prop):Prop:=
 match gw op with
 |some x=>abj A x fun v=>K v h
 |none=>fk P (fh A) op ty h K
theorem kJ{P:Program}{A:aU}{op:Op}{ty:TypeId}{h:Heap}{K:Value->Heap->Prop}:xd P A op ty h K=fk P (fh A) op ty h K:=by
 unfold xd
 cases hm:gw op with
 |some x=>simp only[QL];unfold fk;rw[hm]
 |none=>rfl
def jc(ops:List Oper)(A:aU)(j:Nat):Value:=
 match wR ops j with
 |some t=>lP A t
 |none=>undef
theorem tD.qK{n:Nat}{A:aU}{e:Env}(h:tD n A e)(ops:List Oper)(j:Nat):Mx.qK ops e j=jc ops A j:=by
 unfold Mx.qK jc
 cases wR ops j with
 |none=>rfl
 |some t=>exact h.get t
def lr(P:Program)(ops:List Oper)(A:aU)(h:Heap)(o:Oper)(k:Value->Heap->Prop):Prop:=
 match o.guard with
 |none=>xd P A o.op o.type h k
 |some (j,want)=>Hg (KZ (jc ops A j) want) want (xd P A o.op o.type h) h k
theorem rU{P:Program}{ops:List Oper}{n:Nat}{A:aU}{e:Env}(hr:tD n A e){h:Heap}{o:Oper}{k:Value->Heap->Prop}:lr P ops A h o k=jG P ops e h o k:=by
 have:xd P A o.op o.type h=fk P (ev e) o.op o.type h:=funext fun _=>by rw[kJ,hr.ev]
 have h2:xd P A o.op o.type h k=fk P (ev e) o.op o.type h k:=by rw[this]
 unfold lr jG
 cases o.guard with
 |none=>exact h2
 |some p=>
  obtain⟨j,want⟩:=p
  simp only[this,hr.qK]
def MN(P:Program)(ops:List Oper)(A:aU)(g:Heap)(o:Oper)(v:Value):Prop:=
 match o.guard with
 |none=>Yx P (fh A) o.op o.type g v
 |some (j,want)=>∃b:Bool,KZ (jc ops A j) want= .bool b/\(b=want->Yx P (fh A) o.op o.type g v)/\(b≠want->v=undef)
theorem Vg{P:Program}{ops:List Oper}{n:Nat}{A:aU}{e:Env}(hr:tD n A e){g:Heap}{o:Oper}{v:Value}:MN P ops A g o v=Yv P ops e g o v:=by
 unfold MN Yv
 cases o.guard with
 |none=>simp only[hr.ev]
 |some p=>obtain⟨j,want⟩:=p;simp only[hr.ev,hr.qK]
def AG(P:Program)(n:Nat)(ops:List Oper):List Oper->aU->Heap->(aU->Heap->Prop)->Prop
 |[],A,h,K=>K A h
 |o::os,A,h,K=>lr P ops A h o fun v h'=>vl n A o.dst v fun A'=>AG P n ops os A' h' K
theorem EC{P:Program}{n:Nat}{ops:List Oper}{K:aU->Heap->Prop}{K':Env->Heap->Prop}(hK:∀A e h,tD n A e->K A h=K' e h):∀(l:List Oper)(A:aU)(e:Env)(h:Heap),tD n A e->AG P n ops l A h K=wpIn P ops l e h K'
 |[],A,e,h,hr=>hK A e h hr
 |o::os,A,e,h,hr=>by
  simp only[AG,wpIn,gU]
  rw[rU hr]
  congr 1
  funext v h'
  exact EC hK os _ _ _ (hr.put o.dst v)
def jA(P:Program)(n:Nat)(ops:List Oper)(K:aU->Heap->Prop):Nat->List Bool->aU->Heap->kf->Prop
 |0,l,A,h,_=>match bA ops 0 l with
  |[]=>K A h
  |_::_=>False
 |m+1,l,A,h,S=>match cU (bA ops 0 l)with
  |some (i,o)=>EB l i fun l'=>match vd o.op with
   |true=>lr P ops A h o fun v h'=>vl n A o.dst v fun A'=>jA P n ops K m l' A' h' S
   |false=>lr P ops A h o fun v h'=>vl n A o.dst v fun A'=>jA P n ops K m l' A' h' ((i,fun g=>MN P ops A g o v)::S)
  |none=>match bA ops 0 l with
   |[]=>K A h
   |r::rs=>Hj (fun i o=>EB l i fun l'=>lr P ops A h o fun v h'=>MI h' (vl n A o.dst v fun A'=>jA P n ops K m l' A' h' (lk ops o S)) (lk ops o S)) (r::rs)
theorem xf{P:Program}{n:Nat}{ops:List Oper}{K:aU->Heap->Prop}{K':Env->Heap->Prop}(hK:∀A e h,tD n A e->K A h=K' e h):∀(m:Nat)(l:List Bool)(A:aU)(e:Env)(h:Heap)(S:kf),tD n A e->jA P n ops K m l A h S=lJ P ops K' m l e h S
 |0,l,A,e,h,S,hr=>by
  simp only[jA,lJ]
  cases bA ops 0 l with
  |nil=>exact hK A e h hr
  |cons x xs=>rfl
 |m+1,l,A,e,h,S,hr=>by
  have ih:=fun l A e h S hr=>xf (P:=P) (n:=n) (ops:=ops) hK m l A e h S hr
  simp only[jA,lJ,gU,rT]
  cases cU (bA ops 0 l)with
  |some x=>
   obtain⟨i,o⟩:=x
   simp only
   have hy:∀v,(fun g=>MN P ops A g o v)=fun g=>Yv P ops e g o v:=fun v=>funext fun g=>Vg hr
   cases vd o.op with
   |true=>simp only[rU hr];congr 1;funext v h';exact ih _ _ _ _ _ (hr.put o.dst v)
   |false=>simp only[rU hr,hy];congr 1;funext v h';exact ih _ _ _ _ _ (hr.put o.dst v)
  |none=>
   simp only
   cases bA ops 0 l with
   |nil=>exact hK A e h hr
   |cons x xs=>
    simp only
    congr 1
    funext i o
    rw[rU hr]
    congr 1
    funext v h'
    rw[ih _ _ _ _ _ (hr.put o.dst v)]
def MO(P:Program)(n:Nat)(ops:List Oper)(draw:Bool)(A:aU)(h:Heap)(K:aU->Heap->Prop):Prop:=
 match draw with
 |false=>AG P n ops ops A h K
 |true=>match fp ops ops 0 with
  |true=>jA P n ops K (len ops) (nb ops) A h []
  |false=>False
theorem QM{P:Program}{n:Nat}{ops:List Oper}{K:aU->Heap->Prop}{K':Env->Heap->Prop}(hK:∀A e h,tD n A e->K A h=K' e h){draw:Bool}{A:aU}{e:Env}{h:Heap}(hr:tD n A e):MO P n ops draw A h K=QK P ops draw e h K':=by
 unfold MO QK
 cases draw with
 |false=>exact EC hK _ _ _ _ hr
 |true=>simp only;rw[xf hK _ _ _ _ _ _ hr]
def dK(A:aU):List Nat->List Value
 |[]=>[]
 |t::ts=>lP A t::dK A ts
def qP{α:Sort _}(n:Nat)(j:Nat->Value):List Nat->aU->(aU->α)->α
 |[],A,k=>k A
 |t::ts,A,k=>vl n A (some t) (j t) fun A'=>qP n j ts A' k
def rV{α:Sort _}(n:Nat):List Nat->List Value->aU->(aU->α)->α
 |[],_,A,k=>k A
 |_::_,[],A,k=>k A
 |t::ts,v::vs,A,k=>vl n A (some t) v fun A'=>rV n ts vs A' k
theorem tD.many{n:Nat}{A:aU}{e:Env}(h:tD n A e):∀L:List Nat,eC e L=dK A L
 |[]=>rfl
 |t::ts=>by simp only[eC,dK,h.get,h.many ts]
theorem tF{α:Sort _}{n:Nat}{j:Nat->Value}{k:aU->α}{k':Env->α}(hk:∀A e,tD n A e->k A=k' e):∀(L:List Nat)(A:aU)(e:Env),tD n A e->qP n j L A k=k' (fR e j L)
 |[],A,e,hr=>hk A e hr
 |t::ts,A,e,hr=>by
  simp only[qP,fR,gU]
  exact tF hk ts _ _ (hr.put (some t) (j t))
theorem xg{α:Sort _}{n:Nat}{k:aU->α}{k':Env->α}(hk:∀A e,tD n A e->k A=k' e):∀(L:List Nat)(vs:List Value)(A:aU)(e:Env),tD n A e->rV n L vs A k=k' (jy e L vs)
 |[],_,A,e,hr=>by simp only[rV,jy];exact hk A e hr
 |_::_,[],A,e,hr=>by simp only[rV,jy];exact hk A e hr
 |t::ts,v::vs,A,e,hr=>by
  simp only[rV,jy,gU]
  exact xg hk ts vs _ _ (hr.put (some t) v)
theorem qz{f g:List Value->Prop}(h:∀vs,f vs=g vs)(n:Nat):kg n f=kg n g:=by rw[funext h]
def B8(P:Program)(n:Nat)(an:Nat->Option (List Nat)):Code->Nat->(aU->Heap->Prop)->(Nat->aU->Heap->Prop)->(aU->Heap->Prop)->aU->Heap->Prop
 | .skip,_,kn,_,_,A,h=>kn A h
 | .region _ ops draw,_,kn,_,_,A,h=>MO P n ops.toList draw A h kn
 | .seq a b,p,kn,kx,kr,A,h=>match an p with
   |none=>B8 P n an a (2*p) (fun A' h'=>B8 P n an b (2*p+1) kn kx kr A' h') kx kr A h
   |some L=>∃J:List Value->Heap->Prop,B8 P n an a (2*p) (fun A' h'=>J (dK A' L) h') kx kr A h/\
    ∀(tC:Nat->Value),kg (iA L) fun vs=>∀h':Heap,J vs h'->qP n tC (writes a) A fun A1=>rV n L vs A1 fun A2=>B8 P n an b (2*p+1) kn kx kr A2 h'
 | .cond c a b,p,kn,kx,kr,A,h=>MF (fh A c) (B8 P n an a (2*p) kn kx kr A h) (B8 P n an b (2*p+1) kn kx kr A h)
 | .block id c,p,kn,kx,kr,A,h=>B8 P n an c (2*p) kn (fun i A' h'=>match Nat.beq i id with
   |true=>kn A' h'
   |false=>kx i A' h') kr A h
 | .loop c,p,_,kx,kr,A,h=>match an p with
   |none=>False
   |some L=>∃(I:List Value->Heap->Prop)(μ:List Value->Heap->Nat),I (dK A L) h/\
    ∀(tC:Nat->Value),kg (iA L) fun vs=>∀h':Heap,I vs h'->qP n tC (writes c) A fun A1=>rV n L vs A1 fun A2=>
     B8 P n an c (2*p) (fun A'' lc=>I (dK A'' L) lc/\μ (dK A'' L) lc<μ vs h') kx kr A2 h'
 | .exit id,_,_,kx,_,A,h=>kx id A h
 | .ret,_,_,_,kr,A,h=>kr A h
 | .label _,_,kn,_,_,A,h=>kn A h
 |_,_,_,_,_,_,_=>False
theorem Vh{P:Program}{n:Nat}{an:Nat->Option (List Nat)}:∀(c:Code)(p:Nat)(kn:aU->Heap->Prop)(kx:Nat->aU->Heap->Prop)(kr:aU->Heap->Prop)(pN:Env->Heap->Prop)(rQ:Nat->Env->Heap->Prop)(vm:Env->Heap->Prop)(A:aU)(e:Env)(h:Heap),
 tD n A e->(∀A e h,tD n A e->kn A h=pN e h)->(∀i A e h,tD n A e->kx i A h=rQ i e h)->(∀A e h,tD n A e->kr A h=vm e h)->B8 P n an c p kn kx kr A h=AD P an c p pN rQ vm e h:=by
 intro c
 induction c with
 |skip=>intro p kn kx kr pN rQ vm A e h hr h1 h2 h3;exact h1 A e h hr
 |region id ops draw=>intro p kn kx kr pN rQ vm A e h hr h1 h2 h3;exact QM h1 hr
 |seq a b QN QO=>
  intro p kn kx kr pN rQ vm A e h hr h1 h2 h3
  simp only[B8,AD]
  cases an p with
  |none=>exact QN _ _ _ _ _ _ _ _ _ _ hr (fun A e h hr=>QO _ _ _ _ _ _ _ _ _ _ hr h1 h2 h3) h2 h3
  |some L=>
   simp only
   congr 1
   funext J
   rw[QN (2*p) (fun A' h'=>J (dK A' L) h') kx kr (fun e' h'=>J (eC e' L) h') rQ vm A e h hr (fun A e h hr=>by rw[hr.many]) h2 h3]
   congr 1
   refine propext (forall_congr' fun tC=> ?_)
   rw[qz]
   intro vs
   refine propext (forall_congr' fun h'=> ?_)
   rw[tF (fun A1 e1 Vj=>xg (fun A2 e2 hr2=>QO _ _ _ _ _ _ _ _ _ _ hr2 h1 h2 h3) L vs A1 e1 Vj) _ _ _ hr]
 |cond c a b QN QO=>
  intro p kn kx kr pN rQ vm A e h hr h1 h2 h3
  simp only[B8,AD]
  rw[QN _ _ _ _ _ _ _ _ _ _ hr h1 h2 h3,QO _ _ _ _ _ _ _ _ _ _ hr h1 h2 h3,hr.ev]
 |block id c ih=>
  intro p kn kx kr pN rQ vm A e h hr h1 h2 h3
  simp only[B8,AD]
  refine ih _ _ _ _ _ _ _ _ _ _ hr h1 (fun i A e h hr=> ?_) h3
  cases Nat.beq i id with
  |true=>exact h1 A e h hr
  |false=>exact h2 i A e h hr
 |loop c ih=>
  intro p kn kx kr pN rQ vm A e h hr h1 h2 h3
  simp only[B8,AD]
  cases an p with
  |none=>rfl
  |some L=>
   simp only
   congr 1
   funext I
   congr 1
   funext μ
   rw[hr.many]
   congr 1
   refine propext (forall_congr' fun tC=> ?_)
   rw[qz]
   intro vs
   refine propext (forall_congr' fun h'=> ?_)
   rw[tF (fun A1 e1 Vj=>xg (fun A2 e2 hr2=>ih (2*p) _ kx kr (fun e'' lc=>I (eC e'' L) lc/\μ (eC e'' L) lc<μ vs h') rQ vm A2 e2 h' hr2 (fun A e h hr=>by rw[hr.many]) h2 h3) L vs A1 e1 Vj) _ _ _ hr]
 |exit id=>intro p kn kx kr pN rQ vm A e h hr h1 h2 h3;exact h2 id A e h hr
 |ret=>intro p kn kx kr pN rQ vm A e h hr h1 h2 h3;exact h3 A e h hr
 |label l=>intro p kn kx kr pN rQ vm A e h hr h1 h2 h3;exact h1 A e h hr
 |_=>intros;rfl
def rW:List Value->Nat->aU
 |[],_=>[]
 |v::vs,i=>(i,v)::rW vs (i+1)
theorem xi:∀(vs:List Value)(i t:Nat),lP (rW vs i) t=if t<i then undef else eK vs (t-i)
 |[],i,t=>by simp[rW,lP,eK]
 |v::vs,i,t=>by
  simp only[rW,lP]
  cases hq:Nat.beq i t with
  |true=>have:=Nat.eq_of_beq_eq_true hq;subst this;simp[eK]
  |false=>
   have eA:i≠t:=fun e=>by subst e;simp at hq
   simp only[xi vs (i+1) t]
   by_cases h:t<i
   ·simp[h,show t<i+1 by omega]
   ·simp only[h,show¬t<i+1 by omega,if_false]
    rw[show t-i=(t-(i+1))+1 by omega]
    rfl
theorem MP(vs:List Value)(m n:Nat)(hn:vs.length+m=n):tD n (rW vs 0) (vs++kI m):=by
 have hu:∀m,(kI m).length=m/\∀t,eK (kI m) t=undef:=by
  intro m
  induction m with
  |zero=>exact⟨rfl,fun t=>rfl⟩
  |succ m ih=>refine⟨by simp[kI,ih.1],fun t=> ?_⟩;cases t<;>simp[kI,eK,ih.2]
 refine⟨by simp[(hu m).1,hn],fun t=> ?_⟩
 rw[xi]
 simp only[Nat.not_lt_zero,if_false,Nat.sub_zero]
 have key:∀(l:List Value)(t:Nat),eK (l++kI m) t=eK l t:=by
  intro l
  induction l with
  |nil=>intro t;simp[(hu m).2,eK]
  |cons x xs ih=>intro t;cases t<;>simp[eK,ih]
 exact key vs t
def MQ(P:Program)(A:aU)(h:Heap)(K:Value->Heap->Prop)(rs:List ResultVar):Prop:=B5 P (lP A) h K rs []
theorem B9{P:Program}(hm:P.follows .mixedOrders=true){f:FuncId}{fn:Func}{c:Code}(hf:P.funcs[f]?=some fn)(hb:fn.body=some c)(hn:(fn.name== "runtime.NumGoroutine")=false)
 (an:Nat->Option (List Nat)) {args:List Value} {h:Heap} {K:Value->Heap->Prop} (m n:Nat) (hk:fn.ntmps-args.length=m) (MS:args.length+m=n) (rs:List ResultVar) (hr:fn.results.toList=rs)
 (H:B8 P n an c 1 (fun A h=>MQ P A h K rs) (fun _ _ _=>False) (fun A h=>MQ P A h K rs) (rW args 0) h):aE P f args.toArray h K:=by
 refine B7 hm hf hb hn an m hk rs hr ?_
 have hg:∀(A:aU)(e:Env)(h:Heap),tD n A e->MQ P A h K rs=ML P rs e h K:=fun A e h hr=>by
  unfold MQ ML
  rw[show lP A=eK e from funext fun t=>(hr.get t).symm]
 rw[<-Vh c 1 _ (fun _ _ _=>False) _ _ (fun _ _ _=>False) _ _ _ h (MP args m n MS) hg (fun _ _ _ _ _=>rfl) hg]
 exact H
end Go.Mx
