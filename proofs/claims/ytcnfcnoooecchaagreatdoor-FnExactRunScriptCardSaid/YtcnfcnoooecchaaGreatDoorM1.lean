import Derived.Orders
import Derived.KernelRfl
import Derived.Laws.Sem
set_option linter.unusedVariables false
set_option linter.unusedSimpArgs false
namespace Go.Mx
abbrev Heap:=Array Obj
abbrev Env:=List Value
structure cN(w w':World):Prop where
 os:w'.os=w.os
 tape:w'.tape=w.tape
 output:w'.output=w.output
theorem cN.refl(w:World):cN w w:=⟨rfl,rfl,rfl⟩
theorem cN.trans{a b c:World}(h:cN a b)(k:cN b c):cN a c:=⟨k.os.trans h.os,k.tape.trans h.tape,k.output.trans h.output⟩
def eK:Env->Nat->Value
 |[],_=>undef
 |v::_,0=>v
 |_::vs,n+1=>eK vs n
def sY:Env->Nat->Value->Env
 |[],_,_=>[]
 |_::vs,0,u=>u::vs
 |v::vs,n+1,u=>v::sY vs n u
def put(e:Env)(dst:Option Tmp)(v:Value):Env:=
 match dst with
 |some d=>sY e d v
 |none=>e
def ev(e:Env):Operand->Value
 | .tmp t=>eK e t
 | .const v=>v
 | .global g=> .pointer (some ⟨g,0,none⟩)
 | .func f=> .func (.func f) #[] #[]
def mN(ρ:Operand->Value):List Operand->List Value
 |[]=>[]
 |x::xs=>ρ x::mN ρ xs
def eB(e:Env):List Nat->List Value
 |[]=>[]
 |t::ts=>eK e t::eB e ts
def jr(e:Env):List Nat->List Value->Env
 |[],_=>e
 |_::_,[]=>e
 |t::ts,v::vs=>jr (sY e t v) ts vs
def fM(e:Env)(j:Nat->Value):List Nat->Env
 |[]=>e
 |t::ts=>fM (sY e t (j t)) j ts
theorem eZ:∀(e:Env)(n:Nat)(v:Value),(sY e n v).length=e.length
 |[],_,_=>rfl
 |_::_,0,_=>rfl
 |_::vs,n+1,v=>by simp[sY,eZ vs n v]
theorem fa:∀(e:Env)(n m:Nat)(v:Value),n≠m->eK (sY e n v) m=eK e m
 |[],_,_,_,_=>rfl
 |_::_,0,0,_,h=>absurd rfl h
 |_::_,0,m+1,_,_=>rfl
 |_::_,n+1,0,_,_=>rfl
 |_::vs,n+1,m+1,v,h=>by simp only[sY,eK];exact fa vs n m v (by omega)
theorem j8:∀(e:Env)(n:Nat)(v:Value),n<e.length->eK (sY e n v) n=v
 |[],_,_,h=>by simp at h
 |_::_,0,_,_=>rfl
 |_::vs,n+1,v,h=>by simp only[sY,eK];exact j8 vs n v (by simpa using h)
theorem BL:∀(e:Env)(n:Nat),e.length<=n->eK e n=undef
 |[],_,_=>rfl
 |_::_,0,h=>by simp at h
 |_::vs,n+1,h=>by simp only[eK];exact BL vs n (by simpa using h)
theorem BM:∀(e e':Env),e.length=e'.length->(∀t,t<e.length->eK e t=eK e' t)->e=e'
 |[],[],_,_=>rfl
 |[],_::_,h,_=>by simp at h
 |_::_,[],h,_=>by simp at h
 |v::vs,u::us,h,k=>by
  have h0:=k 0 (by simp)
  simp only[eK]at h0
  rw[h0,BM vs us (by simpa using h) fun t ht=>by have:=k (t+1) (by simpa using ht);simpa[eK]using this]
theorem Ai(e:Env)(d:Nat)(v:Value):sY e d v=e.set d v:=by
 induction e generalizing d with
 |nil=>rfl
 |cons x xs ih=>cases d with
  |zero=>rfl
  |succ d=>simp[sY,ih]
theorem jz(a:Array Value)(t:Nat):eK a.toList t=a.getD t undef:=by
 have key:∀(l:List Value)(t:Nat),eK l t=l[t]?.getD undef:=by
  intro l
  induction l with
  |nil=>intro t;simp[eK]
  |cons x xs ih=>intro t;cases t with
   |zero=>simp[eK]
   |succ t=>simp[eK,ih]
 rw[key];simp
theorem qC(a:Act)(dst:Option Tmp)(v:Value):(a.put dst v).tmps.toList=put a.tmps.toList dst v:=by
 cases dst with
 |none=>rfl
 |some d=>simp[Act.put,put,Ai]
theorem put_defers(a:Act)(dst:Option Tmp)(v:Value):(a.put dst v).defers=a.defers:=by cases dst<;>rfl
theorem eG(a:Act)(x:Operand):ev a.tmps.toList x=a.eval x:=by
 cases x<;>simp[ev,Act.eval,jz]
theorem Qh(ρ:Operand->Value)(l:List Operand):mN ρ l=l.map ρ:=by induction l<;>simp[mN, *]
structure pop(P:Program)(s:Sem Value)(K:Value->Prop):Prop where
 out:∃v,(∀w,s.run P w= .ok v w)/\K v
structure zN(P:Program)(s:Sem Value)(h:Heap)(K:Value->Prop):Prop where
 out:∃v,(∀w:World,w.heap=h->s.run P w= .ok v w)/\K v
structure jQ(P:Program)(s:Sem Value)(h:Heap)(K:Value->Heap->Prop):Prop where
 out:∀w:World,w.heap=h->∃v w',s.run P w= .ok v w'/\cN w w'/\K v w'.heap
structure Aj(P:Program)(s:Sem Unit)(h:Heap)(K:Value->Heap->Prop):Prop where
 out:∀w:World,w.heap=h->∃w',s.run P w= .ok () w'/\cN w w'/\K undef w'.heap
def Mh(P:Program)(f:FuncId)(args:Array Value)(w:World)(K:Value->Heap->Prop):Prop:=
 Calls P f args w fun e w'=>∃v,e= .returned v/\cN w w'/\K v w'.heap
structure aE(P:Program)(f:FuncId)(args:Array Value)(h:Heap)(K:Value->Heap->Prop):Prop where
 out:∀w:World,w.heap=h->(∃v w',(callFunc f args).run P w= .ok (.value v) w'/\cN w w'/\K v w'.heap)\/
  (∃f' Ak w',(callFunc f args).run P w= .ok (.enter f' Ak) w'/\w'=w/\Mh P f' Ak w K)
def fA(P:Program)(v:Value)(args:List Value)(h:Heap)(K:Value->Heap->Prop):Prop:=
 match v with
 | .func (.func g) first cap=>aE P g (first.toList++args++cap.toList).toArray h K
 |_=>False
structure Mi(v:Value)(A B:Prop):Prop where
 out:∃t:Bool,v= .bool t/\(t=true->A)/\(t=false->B)
structure GM(v:Value)(want:Bool)(A:(Value->Heap->Prop)->Prop)(h:Heap)(K:Value->Heap->Prop):Prop where
 out:∃b:Bool,v= .bool b/\(b=want->A K)/\(b≠want->K undef h)
def jA(ρ:Operand->Value)(ty:TypeId):Op->Option (Sem Value)
 | .pick c a b=>some (do pure (if<-asBool (ρ c)then ρ a else ρ b))
 | .nilCheck x=>some (match ρ x with
   | .pointer none| .nilIface| .nilFunc=>runtimePanic .nilDeref
   | .func (.method _) _ _=>stuck "a method value"
   |x=>pure x)
 | .binOp op t x y _=>some (do eqGuard op t x y (ρ x) (ρ y);binOp op t (ρ x) (ρ y))
 | .unOp op _ x=>some (Op.unary op (ρ x))
 | .makeInterface t x=>some (Instr.makeInterface t (ρ x))
 | .makeFunc fn first captured=>some (Instr.makeFunc fn (mN ρ first.toList).toArray (mN ρ captured.toList).toArray)
 | .slice t x lo hi mx=>some (Instr.sliceAt t (ρ x) (lo.map ρ) (hi.map ρ) (mx.map ρ))
 | .fieldAddr s x f=>some (Instr.fieldAt s (ρ x) f)
 | .field t x f=>some (Instr.field t (ρ x) f)
 | .indexAddr t x ix=>some (Instr.indexAt t (ρ x) (ρ ix))
 | .index t x ix=>some (Instr.index t (ρ x) (ρ ix))
 | .extract t ix=>some (Instr.extract (ρ t) ix)
 | .build t parts=>some (Instr.build t (parts.toList.map fun p=>(p.1,ρ p.2)).toArray)
 | .call c=>match c.callee with
   | .builtin .len=>some (Builtin.len_ c.argTypes ty (mN ρ c.args.toList).toArray)
   | .builtin .cap=>some (Builtin.cap_ c.argTypes ty (mN ρ c.args.toList).toArray)
   | .builtin .max=>some (Builtin.max_ c.argTypes ty (mN ρ c.args.toList).toArray)
   | .builtin .min=>some (Builtin.min_ c.argTypes ty (mN ρ c.args.toList).toArray)
   |_=>none
 |_=>none
def nR(ρ:Operand->Value):Op->Option (Sem Value)
 | .load t a=>some (Instr.loadAt t (ρ a))
 | .convert src dst x=>some (convert src dst (ρ x))
 | .lookup t x ix ok=>some (Instr.lookup t (ρ x) (ρ ix) ok)
 | .typeAssert x aaO asserted ok=>some (Instr.typeAssert (ρ x) aaO asserted ok)
 |_=>none
def Ed(ρ:Operand->Value)(ty:TypeId):Op->Option (Sem Value)
 | .alloc elem=>some (Instr.alloc elem true (.tuple #[]))
 | .box elem x=>some (Instr.box elem (ρ x))
 | .buildSlice t len parts=>some (Instr.buildSlice t len (parts.toList.map fun p=>(p.1,ρ p.2)).toArray)
 | .makeMap t r=>some (Instr.makeMap t (r.map ρ))
 | .makeSlice t l c=>some (Instr.makeSlice t (ρ l) (ρ c))
 | .range t x=>some (Instr.range t (ρ x))
 | .next it isString=>some (Instr.next (ρ it) isString ty)
 | .entry it=>some (Instr.entry (ρ it))
 | .call c=>match c.callee with
   | .builtin .append=>some (Builtin.append_ c.argTypes ty (mN ρ c.args.toList).toArray)
   | .builtin .copy=>some (Builtin.copy_ c.argTypes ty (mN ρ c.args.toList).toArray)
   |_=>none
 |_=>none
def Ee(ρ:Operand->Value):Op->Option (Sem Unit)
 | .store t a x=>some (Instr.storeAt t (ρ a) (ρ x))
 | .mapUpdate t m k x| .insert t m k x=>some (Instr.mapUpdate t (ρ m) (ρ k) (ρ x))
 |_=>none
def gu:Op->Option Operand
 | .move x| .assign x=>some x
 |_=>none
def kz:Op->Option (Operand×Array Operand)
 | .call c=>match c.callee with
   | .value f=>some (f,c.args)
   |_=>none
 |_=>none
def fi(P:Program)(ρ:Operand->Value)(op:Op)(ty:TypeId)(h:Heap)(K:Value->Heap->Prop):Prop:=
 match gu op with
 |some x=>K (ρ x) h
 |none=>match kz op with
  |some (f,args)=>fA P (ρ f) (mN ρ args.toList) h K
  |none=>match jA ρ ty op with
   |some s=>pop P s fun v=>K v h
   |none=>match nR ρ op with
    |some s=>zN P s h fun v=>K v h
    |none=>match Ed ρ ty op with
     |some s=>jQ P s h K
     |none=>match Ee ρ op with
      |some s=>Aj P s h K
      |none=>False
theorem qD{P:Program}{f:FuncId}{args:Array Value}{h:Heap}{K K':Value->Heap->Prop}(hk:∀v h,K v h->K' v h)(H:aE P f args h K):aE P f args h K':=by
 refine⟨fun w hw=> ?_⟩
 rcases H.out w hw with⟨v,w',h1,h2,h3⟩|⟨f',Ak,w',h1,h2,h3⟩
 ·exact .inl ⟨v,w',h1,h2,hk _ _ h3⟩
 ·exact .inr ⟨f',Ak,w',h1,h2,h3.mono fun e w'' ⟨v,a,b,c⟩=>⟨v,a,b,hk _ _ c⟩⟩
theorem kA{P:Program}{v:Value}{args:List Value}{h:Heap}{K K':Value->Heap->Prop}(hk:∀v h,K v h->K' v h)(H:fA P v args h K):fA P v args h K':=by
 unfold fA at*
 split at H
 ·exact qD hk H
 ·exact H.elim
theorem iX{P:Program}{e:Operand->Value}{op:Op}{ty:TypeId}{h:Heap}{K K':Value->Heap->Prop}(hk:∀v h,K v h->K' v h)(H:fi P e op ty h K):fi P e op ty h K':=by
 unfold fi at*
 split
 ·rename_i x hx;simp only[hx]at H;exact hk _ _ H
 ·rename_i hx;simp only[hx]at H
  split
  ·rename_i f args hc;simp only[hc]at H;exact kA hk H
  ·rename_i hc;simp only[hc]at H
   split
   ·rename_i s hs;simp only[hs]at H;obtain⟨v,a,b⟩:=H;exact⟨v,a,hk _ _ b⟩
   ·rename_i hs;simp only[hs]at H
    split
    ·rename_i s hr;simp only[hr]at H;obtain⟨v,a,b⟩:=H;exact⟨v,a,hk _ _ b⟩
    ·rename_i hr;simp only[hr]at H
     split
     ·rename_i s he;simp only[he]at H
      exact⟨fun w hw=>let⟨v,w',a,b,c⟩:=H.out w hw;⟨v,w',a,b,hk _ _ c⟩⟩
     ·rename_i he;simp only[he]at H
      split
      ·rename_i s hu;simp only[hu]at H
       exact⟨fun w hw=>let⟨w',a,b,c⟩:=H.out w hw;⟨w',a,b,hk _ _ c⟩⟩
      ·rename_i hu;simp only[hu]at H
def Next.Mj(P:Program)(w:World)(K:Value->Heap->Prop):Result Next->Prop
 | .ok (.value v) w'=>cN w w'/\K v w'.heap
 | .ok .skip w'=>cN w w'/\K undef w'.heap
 | .ok (.enter f args) w'=>w'=w/\Mh P f args w K
 |_=>False
theorem mO{P:Program}{w:World}{K:Value->Heap->Prop}{s:Sem Value}{v:Value}{w':World}(h:s.run P w= .ok v w')(hs:cN w w')(hk:K v w'.heap):
 Next.Mj P w K ((do let x<-s;pure (Next.value x):Sem Next).run P w):=by
 have:((do let x<-s;pure (Next.value x):Sem Next).run P w)= .ok (.value v) w':=by
  show(s.bind fun x=>Sem.pure (Next.value x)).run P w=_
  rw[Sem.run_bind',h];rfl
 rw[this];exact⟨hs,hk⟩
theorem Qi{P:Program}{w:World}{K:Value->Heap->Prop}{s:Sem Unit}{w':World}(h:s.run P w= .ok () w')(hs:cN w w')(hk:K undef w'.heap):
 Next.Mj P w K ((do s;pure Next.skip:Sem Next).run P w):=by
 have:((do s;pure Next.skip:Sem Next).run P w)= .ok .skip w':=by
  show(s.bind fun _=>Sem.pure Next.skip).run P w=_
  rw[Sem.run_bind',h];rfl
 rw[this];exact⟨hs,hk⟩
theorem kB(a:Act)(xs:Array Operand):xs.map a.eval=(mN (ev a.tmps.toList) xs.toList).toArray:=by
 rw[Qh]
 apply Array.ext'
 simp only[Array.toList_map]
 exact List.map_congr_left fun x _=>(eG a x).symm
theorem kq(a:Act)(xs:Array (Nat×Operand)):(xs.map fun(i,x)=>(i,a.eval x))=(xs.toList.map fun p=>(p.1,ev a.tmps.toList p.2)).toArray:=by
 apply Array.ext'
 simp only[Array.toList_map]
 exact List.map_congr_left fun x _=>by rw[eG]
theorem vU(a:Act)(x:Option Operand):x.map a.eval=x.map (ev a.tmps.toList):=by
 cases x<;>simp[eG]
theorem Mk{P:Program}{w:World}{c a b v:Value}(h:(do pure (if<-asBool c then a else b):Sem Value).run P w= .ok v w):
 ((do pure (Next.value (if<-asBool c then a else b))):Sem Next).run P w= .ok (.value v) w:=by
 cases c<;>first|(simp[asBool,Sem.run,bind,pure,Sem.bind]at h⊢;exact h)|(simp[asBool,stuck,Sem.run,bind,pure,Sem.bind]at h)
theorem Ef{P:Program}{a:Act}{o:Oper}{w:World}{K:Value->Heap->Prop}(H:fi P (ev a.tmps.toList) o.op o.type w.heap K):
 Next.Mj P w K ((execOp a.eval o).run P w):=by
 obtain⟨dst,op,type,pos,after,guard⟩:=o
 simp only at H
 cases op<;>simp only[fi,gu,kz,jA,nR,Ed,Ee]at H
 case move x=>simp only[execOp];rw[<-eG];exact⟨cN.refl w,H⟩
 case assign x=>simp only[execOp];rw[<-eG];exact⟨cN.refl w,H⟩
 case pick c x y=>
  obtain⟨v,hv,hk⟩:=H
  simp only[execOp,<-eG]
  rw[Mk (hv w)]
  exact⟨cN.refl w,hk⟩
 case nilCheck x=>
  obtain⟨v,hv,hk⟩:=H
  simp only[execOp,<-eG]
  have hw:=hv w
  generalize ev a.tmps.toList x=u at*
  cases u<;>try (simp only[pure,Sem.run,Result.ok.injEq]at hw;obtain⟨rfl,_⟩:=hw;exact⟨cN.refl w,hk⟩)
  case pointer q=>
   cases q with
   |none=>
    exfalso
    have:∀(e:RuntimeError),(runtimePanic e:Sem Value).run P w≠ .ok v w:=by
     intro e he
     unfold runtimePanic at he
     cases e<;>simp[program,bind,Sem.bind,Sem.run,goPanic]at he
     all_goals (try (repeat (first|split at he|(simp[Sem.run_bind',Result.andThen]at he))))
    exact this _ hw
   |some q=>simp only[pure,Sem.run,Result.ok.injEq]at hw;obtain⟨rfl,_⟩:=hw;exact⟨cN.refl w,hk⟩
  case nilIface=>
   simp[runtimePanic,program,bind,Sem.bind,Sem.run,goPanic]at hw
  case nilFunc=>
   simp[runtimePanic,program,bind,Sem.bind,Sem.run,goPanic]at hw
  case func fn first cap=>
   cases fn<;>first|(simp only[pure,Sem.run,Result.ok.injEq]at hw;obtain⟨rfl,_⟩:=hw;exact⟨cN.refl w,hk⟩)|(simp[stuck,Sem.run]at hw)
 case call c=>
  obtain⟨callee,args,argTypes⟩:=c
  cases callee with
  |value f=>
   simp only at H
   simp only[execOp,resolve,<-eG,kB]
   unfold fA at H
   split at H
   ·rename_i g first cap hf
    simp only[hf]
    have e1:(do let d<-Deferred.ofValue (Value.func (.func g) first cap) (mN (ev a.tmps.toList) args.toList).toArray;invoke d.target d.args:Sem Next)=callFunc g ((first++(mN (ev a.tmps.toList) args.toList).toArray)++cap):=rfl
    rw[e1]
    have e2:(first++(mN (ev a.tmps.toList) args.toList).toArray)++cap=(first.toList++mN (ev a.tmps.toList) args.toList++cap.toList).toArray:=by
     apply Array.ext';simp
    rw[e2]
    rcases H.out w rfl with⟨v,w',h1,h2,h3⟩|⟨f',Ak,w',h1,h2,h3⟩
    ·rw[h1];exact⟨h2,h3⟩
    ·rw[h1];exact⟨h2,h3⟩
   ·exact H.elim
  |invoke r m=>simp only at H
  |builtin b=>
   cases b<;>simp only at H<;>
    first
     |exact H.elim
     |(obtain⟨v,hv,hk⟩:=H;simp only[execOp,resolve,kB];exact mO (hv w) (cN.refl w) hk)
     |(obtain⟨v,w',h1,h2,h3⟩:=H.out w rfl;simp only[execOp,resolve,kB];exact mO h1 h2 h3)
 case build t parts=>
  obtain⟨v,hv,hk⟩:=H
  simp only[execOp]
  rw[kq]
  exact mO (hv w) (cN.refl w) hk
 case buildSlice t len parts=>
  obtain⟨v,w',h1,h2,h3⟩:=H.out w rfl
  simp only[execOp]
  rw[kq]
  exact mO h1 h2 h3
 all_goals
  first
   |exact H.elim
   |(obtain⟨v,hv,hk⟩:=H;simp only[execOp,<-eG,kB,kq,vU];exact mO (hv w) (cN.refl w) hk)
   |(obtain⟨v,hv,hk⟩:=H;simp only[execOp,<-eG,kB,kq,vU];exact mO (hv w rfl) (cN.refl w) hk)
   |(obtain⟨v,w',h1,h2,h3⟩:=H.out w rfl;simp only[execOp,<-eG,kB,kq,vU];exact mO h1 h2 h3)
   |(obtain⟨w',h1,h2,h3⟩:=H.out w rfl;simp only[execOp,<-eG,kB,kq,vU];exact Qi h1 h2 h3)
def gE:List Oper->Nat->Option Oper
 |[],_=>none
 |o::_,0=>some o
 |_::os,n+1=>gE os n
def wJ(ops:List Oper)(j:Nat):Option Tmp:=
 match gE ops j with
 |some o=>o.dst
 |none=>none
def qE(ops:List Oper)(e:Env)(j:Nat):Value:=
 match wJ ops j with
 |some t=>eK e t
 |none=>undef
def KB(v:Value)(want:Bool):Value:=match v with
 | .bool b=> .bool b
 |_=> .bool (!want)
theorem UL{v:Value}{want b:Bool}(h:KB v want= .bool b)(hv:∀c,v≠ .bool c):b≠want:=by
 unfold KB at h
 cases v<;>first
  |exact absurd rfl (hv _)
  |(simp only[Value.bool.injEq]at h;subst h;cases want<;>decide)
def jB(P:Program)(ops:List Oper)(e:Env)(h:Heap)(o:Oper)(k:Value->Heap->Prop):Prop:=
 match o.guard with
 |none=>fi P (ev e) o.op o.type h k
 |some (j,want)=>GM (KB (qE ops e j) want) want (fi P (ev e) o.op o.type h) h k
def wpIn(P:Program)(ops:List Oper):List Oper->Env->Heap->(Env->Heap->Prop)->Prop
 |[],e,h,K=>K e h
 |o::os,e,h,K=>jB P ops e h o fun v h'=>wpIn P ops os (put e o.dst v) h' K
theorem pB(ops:Array Oper)(i:Nat):gE ops.toList i=ops[i]?:=by
 have key:∀(l:List Oper)(i:Nat),gE l i=l[i]?:=by
  intro l
  induction l with
  |nil=>intro i;simp[gE]
  |cons x xs ih=>intro i;cases i<;>simp[gE,ih]
 rw[key];simp
theorem KC{ops:Array Oper}{a:Act}{j:Nat}{b:Bool}(h:qE ops.toList a.tmps.toList j= .bool b):yielded ops a.tmps j=some b:=by
 unfold qE wJ at h
 rw[pB]at h
 unfold yielded
 cases ho:ops[j]? with
 |none=>rw[ho]at h;simp[undef]at h
 |some o=>
  rw[ho]at h
  simp only at h
  cases hd:o.dst with
  |none=>rw[hd]at h;simp[undef]at h
  |some t=>
   rw[hd]at h
   simp only[jz]at h
   simp only[Option.bind_some,hd]
   cases ht:a.tmps[t]? with
   |none=>simp[Array.getD_eq_getD_getElem?,ht,undef]at h
   |some v=>simp[Array.getD_eq_getD_getElem?,ht]at h;rw[h]
theorem KD{ops:Array Oper}{a:Act}{j:Nat}(h:∀b,qE ops.toList a.tmps.toList j≠ .bool b):yielded ops a.tmps j=none:=by
 unfold qE wJ at h
 rw[pB]at h
 unfold yielded
 cases ho:ops[j]? with
 |none=>simp
 |some o=>
  rw[ho]at h
  simp only at h
  cases hd:o.dst with
  |none=>simp[hd]
  |some t=>
   rw[hd]at h
   simp only[jz]at h
   simp only[Option.bind_some,hd]
   cases ht:a.tmps[t]? with
   |none=>rfl
   |some v=>
    cases v with
    |bool b=>exact absurd (by simp[Array.getD_eq_getD_getElem?,ht]) (h b)
    |_=>rfl
theorem qn{P:Program}{ops:Array Oper}{Q:Exit->Act->World->Prop}{i:Nat}{o:Oper}{a:Act}{w:World}{K:Act->World->Prop}(ho:ops[i]?=some o)
 (H:jB P ops.toList a.tmps.toList w.heap o fun v h'=>∀w',cN w w'->w'.heap=h'->K (a.put o.dst v) w'):wpOp P ops Q i K a w:=by
 have key:(fi P (ev a.tmps.toList) o.op o.type w.heap fun v h'=>∀w',cN w w'->w'.heap=h'->K (a.put o.dst v) w')->o.wp P a w K Q:=by
  intro hx
  have hg:=Ef hx
  unfold Oper.wp
  generalize (execOp a.eval o).run P w=r at*
  cases r with
  |halt x w'=>exact hg.elim
  |ok n w'=>
   cases n<;>first
    |exact hg.elim
    |exact hg.2 _ hg.1 rfl
    |(obtain⟨rfl,hc⟩:=hg
      exact hc.mono fun e w'' ⟨v,he,hs,hk⟩=>by subst he;exact hk _ hs rfl)
 unfold wpOp
 simp only[ho]
 unfold jB at H
 cases hgd:o.guard with
 |none=>
  simp only[hgd]at H
  simp only[Region.wanted,hgd,if_true]
  exact .inl (key H)
 |some p=>
  obtain⟨j,want⟩:=p
  simp only[hgd]at H
  obtain⟨b,hb,h1,h2⟩:=H
  by_cases hv:∃c,qE ops.toList a.tmps.toList j= .bool c
  ·obtain⟨c,hc⟩:=hv
   have hbc:c=b:=by
    rw[hc]at hb
    simpa[KB]using hb
   subst hbc
   have hy:=KC hc
   simp only[Region.wanted,hgd,hy]
   by_cases GN:c=want
   ·subst GN
    simp only[beq_self_eq_true,if_true]
    exact .inl (key (h1 rfl))
   ·have:(some c==some want)=false:=by simpa using GN
    simp only[this,Bool.false_eq_true,if_false]
    exact h2 GN w (cN.refl w) rfl
  ·have dZ:=UL hb fun c hc=>hv ⟨c,hc⟩
   have hy:=KD fun c hc=>hv ⟨c,hc⟩
   simp only[Region.wanted,hgd,hy]
   have:((none:Option Bool)==some want)=false:=rfl
   simp only[this,Bool.false_eq_true,if_false]
   exact h2 dZ w (cN.refl w) rfl
theorem gY{P:Program}{ops:List Oper}{e:Env}{h:Heap}{o:Oper}{k k':Value->Heap->Prop}(hk:∀v h,k v h->k' v h)(H:jB P ops e h o k):jB P ops e h o k':=by
 unfold jB at*
 cases hg:o.guard with
 |none=>simp only[hg]at H⊢;exact iX hk H
 |some p=>
  obtain⟨j,want⟩:=p
  simp only[hg]at H⊢
  obtain⟨b,hb,h1,h2⟩:=H
  exact⟨b,hb,fun e=>iX hk (h1 e),fun e=>hk _ _ (h2 e)⟩
def lB:List Bool->Nat->Bool->Bool
 |[],_,d=>d
 |b::_,0,_=>b
 |_::bs,n+1,d=>lB bs n d
def ij:List Bool->Nat->List Bool
 |[],_=>[]
 |_::bs,0=>true::bs
 |b::bs,n+1=>b::ij bs n
def fU(l:List Bool)(o:Oper)(i:Nat):Bool:=
 !lB l i true&&o.after.toList.all fun e=> !Region.binds .any e||lB l e.on false
def aY:List Oper->Nat->List Bool->List (Nat×Oper)
 |[],_,_=>[]
 |o::os,i,l=>match fU l o i with
  |true=>(i,o)::aY os (i+1) l
  |false=>aY os (i+1) l
def fk:Operand->Value:=fun _=>undef
def uZ(op:Op):Bool:=(gu op).isSome||((kz op).isNone&&(jA fk 0 op).isSome)
def zJ(op:Op):Bool:=(gu op).isNone&&((kz op).isNone&&((jA fk 0 op).isNone&&(nR fk op).isSome))
def cU:List (Nat×Oper)->Option (Nat×Oper)
 |[]=>none
 |(i,o)::r=>match uZ o.op||zJ o.op with
  |true=>some (i,o)
  |false=>cU r
def js(o:Oper)(i:Nat):Bool:=o.after.toList.any fun e=>Region.binds .any e&&Nat.beq e.on i
def looks(ops:List Oper)(o:Oper):List Tmp:=
 (o.op.operands.toList.filterMap fun| .tmp t=>some t|_=>none)++
 (match o.guard with
  |some (g,_)=>(wJ ops g).toList
  |none=>[])
def eH:List Nat->Nat->Bool
 |[],_=>false
 |x::xs,n=>Nat.beq x n||eH xs n
def wK(ops:List Oper)(x y:Oper):Bool:=
 (match x.dst with
  |some d=> ! eH (looks ops y) d&&(match y.dst with|some d'=> !Nat.beq d d'|none=>true)
  |none=>true)&&
 (match y.dst with
  |some d=> ! eH (looks ops x) d
  |none=>true)
def pC(ops:List Oper)(x:Oper)(i:Nat):List Oper->Bool
 |[]=>true
 |y::ys=>(wK ops x y||js y i)&&pC ops x i ys
def fo(ops:List Oper):List Oper->Nat->Bool
 |[],_=>true
 |x::xs,i=>pC ops x i xs&&fo ops xs (i+1)
abbrev j9:=List (Nat×(Heap->Prop))
def Yx(P:Program)(e:Operand->Value)(op:Op)(ty:TypeId)(g:Heap)(v:Value):Prop:=
 match gu op with
 |some x=>v=e x
 |none=>match jA e ty op with
  |some s=>∀w,s.run P w= .ok v w
  |none=>match nR e op with
   |some s=>∀w:World,w.heap=g->s.run P w= .ok v w
   |none=>False
def Yv(P:Program)(ops:List Oper)(e:Env)(g:Heap)(o:Oper)(v:Value):Prop:=
 match o.guard with
 |none=>Yx P (ev e) o.op o.type g v
 |some (j,want)=>∃b:Bool,KB (qE ops e j) want= .bool b/\(b=want->Yx P (ev e) o.op o.type g v)/\(b≠want->v=undef)
def mP:List Edge->List Nat
 |[]=>[]
 |e::es=>match Region.binds .any e with
  |true=>e.on::mP es
  |false=>mP es
def UM:List Nat->List Nat->List Nat
 |[],b=>b
 |x::a,b=>x::UM a b
def anc(ops:List Oper):Nat->List Nat->List Nat->List Nat
 |0,_,seen=>seen
 |_+1,[],seen=>seen
 |n+1,i::todo,seen=>match eH seen i with
  |true=>anc ops n todo seen
  |false=>match gE ops i with
   |some o=>anc ops n (UM (mP o.after.toList) todo) (i::seen)
   |none=>anc ops n todo (i::seen)
def u1(ops:List Oper)(o:Oper):List Nat:=anc ops 2000 (mP o.after.toList) []
def qo(bf:List Nat):j9->j9
 |[]=>[]
 |(i,p)::S=>match eH bf i with
  |true=>qo bf S
  |false=>(i,p)::qo bf S
def lc(ops:List Oper)(o:Oper)(S:j9):j9:=qo (u1 ops o) S
def Ml(h:Heap)(K:Prop):j9->Prop
 |[]=>K
 |(_,p)::S=>p h/\Ml h K S
def GO(f:Nat->Oper->Prop):List (Nat×Oper)->Prop
 |[]=>True
 |[(i,o)]=>f i o
 |(i,o)::r=>f i o/\GO f r
def lC(P:Program)(ops:List Oper)(K:Env->Heap->Prop):Nat->List Bool->Env->Heap->j9->Prop
 |0,l,e,h,_=>match aY ops 0 l with
  |[]=>K e h
  |_::_=>False
 |n+1,l,e,h,S=>match cU (aY ops 0 l)with
  |some (i,o)=>match uZ o.op with
   |true=>jB P ops e h o fun v h'=>lC P ops K n (ij l i) (put e o.dst v) h' S
   |false=>jB P ops e h o fun v h'=>lC P ops K n (ij l i) (put e o.dst v) h' ((i,fun g=>Yv P ops e g o v)::S)
  |none=>match aY ops 0 l with
   |[]=>K e h
   |r::rs=>GO (fun i o=>jB P ops e h o fun v h'=>Ml h' (lC P ops K n (ij l i) (put e o.dst v) h' (lc ops o S)) (lc ops o S)) (r::rs)
def zO(P:Program)(ops:List Oper)(K:Env->Heap->Prop):Nat->List Bool->Env->Heap->j9->Prop
 |0,l,e,h,_=>aY ops 0 l=[]/\K e h
 |n+1,l,e,h,S=>(aY ops 0 l=[]->K e h)/\∀i o,(i,o)∈aY ops 0 l->jB P ops e h o fun v h'=>
  ((uZ o.op||zJ o.op)=true->zO P ops K n (ij l i) (put e o.dst v) h' S)/\
  ((uZ o.op||zJ o.op)=false->(∀s,s∈lc ops o S->s.2 h')/\zO P ops K n (ij l i) (put e o.dst v) h' (lc ops o S))
theorem qF:∀(l:List Bool)(i j:Nat)(d:Bool),i≠j->lB (ij l i) j d=lB l j d
 |[],_,_,_,_=>rfl
 |_::_,0,0,_,h=>absurd rfl h
 |_::_,0,_+1,_,_=>rfl
 |_::_,_+1,0,_,_=>rfl
 |_::bs,n+1,m+1,d,h=>by simp only[ij,lB];exact qF bs n m d (by omega)
theorem mQ:∀(l:List Bool)(i j:Nat),lB l j false=true->lB (ij l i) j false=true
 |[],_,_,h=>h
 |_::_,0,0,_=>rfl
 |_::_,0,_+1,h=>h
 |_::_,_+1,0,h=>h
 |_::bs,n+1,m+1,h=>by simp only[ij,lB]at*;exact mQ bs n m h
theorem sZ:∀(l:List Bool)(i j:Nat),ij (ij l i) j=ij (ij l j) i
 |[],_,_=>rfl
 |_::_,0,0=>rfl
 |_::_,0,_+1=>rfl
 |_::_,_+1,0=>rfl
 |_::bs,n+1,m+1=>by simp only[ij];rw[sZ bs n m]
theorem lD:∀(l:List Bool)(i:Nat),lB l i true=false->lB l i false=false
 |[],_,h=>by simp[lB]at h
 |_::_,0,h=>h
 |_::bs,n+1,h=>lD bs n h
theorem nG:∀(ops:List Oper)(k:Nat)(l:List Bool)(i:Nat)(o:Oper),(i,o)∈aY ops k l↔∃j,i=k+j/\gE ops j=some o/\fU l o i=true
 |[],_,_,_,_=>by simp[aY,gE]
 |x::xs,k,l,i,o=>by
  have ih:=nG xs (k+1) l i o
  have hh:(∃j,i=k+j/\gE (x::xs) j=some o/\fU l o i=true)↔((i=k/\x=o/\fU l o i=true)\/(∃j,i=k+1+j/\gE xs j=some o/\fU l o i=true)):=by
   constructor
   ·rintro⟨j,hj,ho,hr⟩
    cases j with
    |zero=>simp only[gE,Option.some.injEq]at ho;exact .inl ⟨by omega,ho,hr⟩
    |succ j=>exact .inr ⟨j,by omega,ho,hr⟩
   ·rintro(⟨h1,h2,h3⟩|⟨j,hj,ho,hr⟩)
    ·exact⟨0,by omega,by simp[gE,h2],h3⟩
    ·exact⟨j+1,by omega,ho,hr⟩
  rw[hh,<-ih]
  have hu:aY (x::xs) k l=match fU l x k with
   |true=>(k,x)::aY xs (k+1) l
   |false=>aY xs (k+1) l:=rfl
  rw[hu]
  cases hr:fU l x k with
  |true=>
   simp only[List.mem_cons,Prod.mk.injEq]
   constructor
   ·rintro(⟨rfl,rfl⟩|h)
    ·exact .inl ⟨rfl,rfl,hr⟩
    ·exact .inr h
   ·rintro(⟨rfl,rfl,_⟩|h)
    ·exact .inl ⟨rfl,rfl⟩
    ·exact .inr h
  |false=>
   constructor
   ·exact .inr
   ·rintro(⟨rfl,rfl,h3⟩|h)
    ·rw[hr]at h3;cases h3
    ·exact h
theorem cG{ops:List Oper}{l:List Bool}{i:Nat}{o:Oper}:(i,o)∈aY ops 0 l↔gE ops i=some o/\fU l o i=true:=by
 rw[nG]
 constructor
 ·rintro⟨j,h1,h2,h3⟩;obtain rfl:i=j:=by omega
  exact⟨h2,h3⟩
 ·rintro⟨h2,h3⟩;exact⟨i,by omega,h2,h3⟩
theorem gZ{l:List Bool}{o:Oper}{i:Nat}:fU l o i=true↔lB l i true=false/\∀e,e∈o.after->Region.binds .any e=true->lB l e.on false=true:=by
 unfold fU
 simp only[Bool.and_eq_true,Bool.not_eq_true',List.all_eq_true,Bool.or_eq_true,Array.mem_toList_iff]
 constructor
 ·rintro⟨h1,h2⟩
  refine⟨h1,fun e he hb=> ?_⟩
  rcases h2 e he with h|h
  ·rw[hb]at h;cases h
  ·exact h
 ·rintro⟨h1,h2⟩
  refine⟨h1,fun e he=> ?_⟩
  cases hb:Region.binds .any e with
  |false=>exact .inl rfl
  |true=>exact .inr (h2 e he hb)
theorem nZ{l:List Bool}{o:Oper}{i j:Nat}(h:fU l o j=true)(dZ:j≠i):fU (ij l i) o j=true:=by
 rw[gZ]at*
 exact⟨by rw[qF _ _ _ _ (Ne.symm dZ)];exact h.1,fun e he hb=>mQ _ _ _ (h.2 e he hb)⟩
theorem Ja{l:List Bool}{o:Oper}{i j:Nat}(h:fU l o j=true)(hi:lB l i true=false):js o i=false:=by
 rw[gZ]at h
 cases hh:js o i with
 |false=>rfl
 |true=>
  unfold js at hh
  rw[List.any_eq_true]at hh
  obtain⟨e,he,h2⟩:=hh
  simp only[Bool.and_eq_true]at h2
  have hon:e.on=i:=Nat.eq_of_beq_eq_true h2.2
  have:=h.2 e (by simpa using he) h2.1
  rw[hon,lD _ _ hi]at this
  cases this
theorem ld(e e':Operand->Value)(ty ty':TypeId)(op:Op):(jA e ty op).isSome=(jA e' ty' op).isSome:=by
 cases op<;>try rfl
 case call c=>
  obtain⟨callee,args,argTypes⟩:=c
  cases callee<;>try rfl
  case builtin b=>cases b<;>rfl
theorem Eg(e e':Operand->Value)(op:Op):(nR e op).isSome=(nR e' op).isSome:=by cases op<;>rfl
theorem gv{P:Program}{e:Operand->Value}{op:Op}{ty:TypeId}{h:Heap}{k:Value->Heap->Prop}(hq:(uZ op||zJ op)=true):fi P e op ty h k↔∃v,Yx P e op ty h v/\k v h:=by
 unfold fi Yx
 cases hm:gu op with
 |some x=>simp
 |none=>
  simp only[uZ,zJ,hm]at hq
  cases hc:kz op with
  |some c=>simp[hc]at hq
  |none=>
   simp only[hc]at hq
   cases hp:jA e ty op with
   |some s=>exact⟨fun h=>h.out,fun h=>⟨h⟩⟩
   |none=>
    have h0:(jA fk 0 op).isSome=false:=by rw[ld fk e 0 ty,hp];rfl
    cases hr:nR e op with
    |some s=>exact⟨fun h=>h.out,fun h=>⟨h⟩⟩
    |none=>
     have h1:(nR fk op).isSome=false:=by rw[Eg fk e,hr];rfl
     have h0':jA fk 0 op=none:=by simpa using h0
     have UN:nR fk op=none:=by simpa using h1
     simp[h0',UN]at hq
theorem jC{P:Program}{ops:List Oper}{e:Env}{h:Heap}{o:Oper}{k:Value->Heap->Prop}(hq:(uZ o.op||zJ o.op)=true):jB P ops e h o k↔∃v,Yv P ops e h o v/\k v h:=by
 unfold jB Yv
 cases hg:o.guard with
 |none=>exact gv hq
 |some p=>
  obtain⟨j,want⟩:=p
  constructor
  ·rintro⟨b,hb,h1,h2⟩
   by_cases GN:b=want
   ·obtain⟨v,hv,hk⟩:=(gv hq).1 (h1 GN)
    exact⟨v,⟨b,hb,fun _=>hv,fun h=>absurd GN h⟩,hk⟩
   ·exact⟨undef,⟨b,hb,fun h=>absurd h GN,fun _=>rfl⟩,h2 GN⟩
  ·rintro⟨v,⟨b,hb,h1,h2⟩,hk⟩
   exact⟨b,hb,fun he=>(gv hq).2 ⟨v,h1 he,hk⟩,fun he=>by rw[<-h2 he];exact hk⟩
theorem Jb{P:Program}{e:Operand->Value}{op:Op}{ty:TypeId}{h:Heap}{v:Value}(hq:uZ op=true)(H:Yx P e op ty h v)(g:Heap):Yx P e op ty g v:=by
 unfold Yx at*
 cases hm:gu op with
 |some x=>simpa[hm]using H
 |none=>
  simp only[hm]at H⊢
  cases hp:jA e ty op with
  |some s=>simpa[hp]using H
  |none=>
   have h0:(jA fk 0 op).isSome=false:=by rw[ld fk e 0 ty,hp];rfl
   simp[uZ,hm,h0]at hq
theorem Qj{P:Program}{ops:List Oper}{e:Env}{h:Heap}{o:Oper}{v:Value}(hq:uZ o.op=true)(H:Yv P ops e h o v)(g:Heap):Yv P ops e g o v:=by
 unfold Yv at*
 cases hg:o.guard with
 |none=>simp only[hg]at H⊢;exact Jb hq H g
 |some p=>
  obtain⟨j,want⟩:=p
  simp only[hg]at H⊢
  obtain⟨b,hb,h1,h2⟩:=H
  exact⟨b,hb,fun e=>Jb hq (h1 e) g,h2⟩
theorem iY{e e':Operand->Value}:∀(l:List Operand),(∀x,x∈l->e x=e' x)->mN e l=mN e' l
 |[],_=>rfl
 |x::xs,h=>by simp only[mN];rw[h x (by simp),iY xs fun y hy=>h y (by simp[hy])]
theorem u3{e e':Operand->Value}(ps:Array (Nat×Operand))(h:∀x,x∈(ps.toList.map (·.2))->e x=e' x):(ps.toList.map fun p=>(p.1,e p.2))=(ps.toList.map fun p=>(p.1,e' p.2)):=
 List.map_congr_left fun p hp=>by rw[h p.2 (List.mem_map.2 ⟨p,hp,rfl⟩)]
theorem pD{e e':Operand->Value}(x:Option Operand)(h:∀y,y∈x.toArray->e y=e' y):x.map e=x.map e':=by
 cases x with
 |none=>rfl
 |some y=>simp[h y (by simp)]
theorem qG{e e':Operand->Value}{ty:TypeId}{op:Op}(h:∀x,x∈op.operands->e x=e' x):jA e ty op=jA e' ty op:=by
 cases op<;>simp only[Op.operands]at h<;>simp only[jA]
 case pick c a b=>rw[h c (by simp),h a (by simp),h b (by simp)]
 case nilCheck x=>rw[h x (by simp)]
 case binOp op t x y u=>rw[h x (by simp),h y (by simp)]
 case unOp op t x=>rw[h x (by simp)]
 case makeInterface t x=>rw[h x (by simp)]
 case makeFunc fn first cap=>rw[iY first.toList fun x hx=>h x (by simp at hx;simp[hx]),iY cap.toList fun x hx=>h x (by simp at hx;simp[hx])]
 case slice t x lo hi mx=>rw[h x (by simp),pD lo fun y hy=>h y (by simp[hy]),pD hi fun y hy=>h y (by simp[hy]),pD mx fun y hy=>h y (by simp[hy])]
 case fieldAddr s x f=>rw[h x (by simp)]
 case field t x f=>rw[h x (by simp)]
 case indexAddr t x ix=>rw[h x (by simp),h ix (by simp)]
 case index t x ix=>rw[h x (by simp),h ix (by simp)]
 case extract t ix=>rw[h t (by simp)]
 case build t parts=>rw[u3 parts fun x hx=>h x (by simpa using hx)]
 case call c=>
  have:mN e c.args.toList=mN e' c.args.toList:=iY _ fun x hx=>h x (by simp at hx;simp[Call.operands,hx])
  rw[this]
theorem mR{e e':Operand->Value}{op:Op}(h:∀x,x∈op.operands->e x=e' x):nR e op=nR e' op:=by
 cases op<;>simp only[Op.operands]at h<;>simp only[nR]
 case load t x=>rw[h x (by simp)]
 case convert s d x=>rw[h x (by simp)]
 case lookup t x ix ok=>rw[h x (by simp),h ix (by simp)]
 case typeAssert x a b c=>rw[h x (by simp)]
theorem wL{e e':Operand->Value}{ty:TypeId}{op:Op}(h:∀x,x∈op.operands->e x=e' x):Ed e ty op=Ed e' ty op:=by
 cases op<;>simp only[Op.operands]at h<;>simp only[Ed]
 case box t x=>rw[h x (by simp)]
 case buildSlice t n parts=>rw[u3 parts fun x hx=>h x (by simpa using hx)]
 case makeMap t r=>rw[pD r h]
 case makeSlice t l c=>rw[h l (by simp),h c (by simp)]
 case range t x=>rw[h x (by simp)]
 case next it b=>rw[h it (by simp)]
 case entry it=>rw[h it (by simp)]
 case call c=>
  have:mN e c.args.toList=mN e' c.args.toList:=iY _ fun x hx=>h x (by simp at hx;simp[Call.operands,hx])
  rw[this]
theorem wM{e e':Operand->Value}{op:Op}(h:∀x,x∈op.operands->e x=e' x):Ee e op=Ee e' op:=by
 cases op<;>simp only[Op.operands]at h<;>simp only[Ee]
 case store t a x=>rw[h a (by simp),h x (by simp)]
 case mapUpdate t m k x=>rw[h m (by simp),h k (by simp),h x (by simp)]
 case insert t m k x=>rw[h m (by simp),h k (by simp),h x (by simp)]
theorem wN{op:Op}{x:Operand}(h:gu op=some x):x∈op.operands:=by
 cases op<;>simp[gu]at h<;>simp[Op.operands,h]
theorem GP{op:Op}{f:Operand}{args:Array Operand}(h:kz op=some (f,args)):f∈op.operands/\∀x,x∈args->x∈op.operands:=by
 cases op<;>simp[kz]at h
 case call c=>
  obtain⟨callee,as,ts⟩:=c
  cases callee<;>simp at h
  obtain⟨rfl,rfl⟩:=h
  exact⟨by simp[Op.operands,Call.operands],fun x hx=>by simp[Op.operands,Call.operands,hx]⟩
theorem u4{P:Program}{e e':Operand->Value}{op:Op}{ty:TypeId}{h:Heap}{k:Value->Heap->Prop}(H:∀x,x∈op.operands->e x=e' x):fi P e op ty h k=fi P e' op ty h k:=by
 unfold fi
 cases hm:gu op with
 |some x=>simp only[H x (wN hm)]
 |none=>
  cases hc:kz op with
  |some p=>
   obtain⟨f,args⟩:=p
   obtain⟨h1,h2⟩:=GP hc
   simp only[H f h1,iY args.toList fun x hx=>H x (h2 x (by simpa using hx))]
  |none=>simp only[qG (ty:=ty) H,mR H,wL (ty:=ty) H,wM H]
theorem Eh{P:Program}{e e':Operand->Value}{op:Op}{ty:TypeId}{g:Heap}{v:Value}(H:∀x,x∈op.operands->e x=e' x):Yx P e op ty g v=Yx P e' op ty g v:=by
 unfold Yx
 cases hm:gu op with
 |some x=>simp only[H x (wN hm)]
 |none=>simp only[qG (ty:=ty) H,mR H]
theorem rD:∀(l:List Nat)(n:Nat),eH l n=false->n∉l
 |[],_,_=>by simp
 |x::xs,n,h=>by
  simp only[eH,Bool.or_eq_false_iff]at h
  have h1:x≠n:=fun e=>by subst e;simp at h
  simp only[List.mem_cons,not_or]
  exact⟨fun e=>h1 e.symm,rD xs n h.2⟩
def oc(ops:List Oper)(dst:Option Tmp)(o:Oper):Prop:=∀d,dst=some d->d∉looks ops o
theorem UO{e:Env}{dst:Option Tmp}{u:Value}{x:Operand}(h:∀d,dst=some d->x≠ .tmp d):ev (put e dst u) x=ev e x:=by
 cases dst with
 |none=>rfl
 |some d=>
  cases x with
  |tmp t=>simp only[put,ev];exact fa _ _ _ _ fun he=>h d rfl (by rw[he])
  |_=>rfl
theorem pE{ops:List Oper}{o:Oper}{dst:Option Tmp}{e:Env}{u:Value}(h:oc ops dst o):∀x,x∈o.op.operands->ev (put e dst u) x=ev e x:=by
 intro x hx
 refine UO fun d hd Jc=>h d hd ?_
 subst Jc
 unfold looks
 exact List.mem_append_left _ (List.mem_filterMap.2 ⟨.tmp d,by simpa using hx,rfl⟩)
theorem u5{ops:List Oper}{o:Oper}{dst:Option Tmp}{e:Env}{u:Value}(h:oc ops dst o){j:Nat}{want:Bool}(hg:o.guard=some (j,want)):qE ops (put e dst u) j=qE ops e j:=by
 unfold qE
 cases ht:wJ ops j with
 |none=>rfl
 |some t=>
  cases dst with
  |none=>rfl
  |some d=>
   simp only[put]
   refine fa _ _ _ _ fun he=>h d rfl ?_
   unfold looks
   rw[hg]
   simp[ht,he]
theorem KE{P:Program}{ops:List Oper}{e:Env}{h:Heap}{o:Oper}{k:Value->Heap->Prop}{dst:Option Tmp}{u:Value}(hu:oc ops dst o):jB P ops (put e dst u) h o k=jB P ops e h o k:=by
 unfold jB
 cases hg:o.guard with
 |none=>exact u4 (pE hu)
 |some p=>
  obtain⟨j,want⟩:=p
  have h2:fi P (ev (put e dst u)) o.op o.type h=fi P (ev e) o.op o.type h:=funext fun _=>u4 (pE hu)
  simp only[u5 hu hg,h2]
theorem BN{P:Program}{ops:List Oper}{e:Env}{g:Heap}{o:Oper}{v:Value}{dst:Option Tmp}{u:Value}(hu:oc ops dst o):Yv P ops (put e dst u) g o v=Yv P ops e g o v:=by
 unfold Yv
 cases hg:o.guard with
 |none=>exact Eh (pE hu)
 |some p=>
  obtain⟨j,want⟩:=p
  simp only[u5 hu hg,Eh (pE hu)]
theorem put_comm{e:Env}{x y:Option Tmp}{u v:Value}(h:∀d,x=some d->y≠some d):put (put e x u) y v=put (put e y v) x u:=by
 cases x with
 |none=>rfl
 |some d=>
  cases y with
  |none=>rfl
  |some d'=>
   have dZ:d≠d':=fun he=>h d rfl (by rw[he])
   simp only[put,Ai]
   exact List.set_comm _ _ dZ
theorem apart_spec{ops:List Oper}{x y:Oper}(h:wK ops x y=true):oc ops x.dst y/\(∀d,x.dst=some d->y.dst≠some d)/\oc ops y.dst x:=by
 unfold wK at h
 simp only[Bool.and_eq_true]at h
 obtain⟨h1,h2⟩:=h
 refine⟨fun d hd=> ?_,fun d hd hy=> ?_,fun d hd=> ?_⟩
 ·rw[hd]at h1
  simp only[Bool.and_eq_true,Bool.not_eq_true']at h1
  exact rD _ _ h1.1
 ·rw[hd,hy]at h1
  simp at h1
 ·rw[hd]at h2
  simp only[Bool.not_eq_true']at h2
  exact rD _ _ h2
theorem od{ops:List Oper}{x:Oper}{i:Nat}:∀(l:List Oper),pC ops x i l=true->∀j y,gE l j=some y->wK ops x y=true\/js y i=true
 |[],_,j,y,hy=>by simp[gE]at hy
 |z::zs,h,j,y,hy=>by
  simp only[pC,Bool.and_eq_true,Bool.or_eq_true]at h
  cases j with
  |zero=>simp only[gE,Option.some.injEq]at hy;subst hy;exact h.1
  |succ j=>exact od zs h.2 j y hy
theorem kC{ops:List Oper}:∀(l:List Oper)(k:Nat),fo ops l k=true->∀i j x y,i<j->gE l i=some x->gE l j=some y->wK ops x y=true\/js y (k+i)=true
 |[],_,_,i,j,x,y,_,hx,_=>by simp[gE]at hx
 |z::zs,k,h,i,j,x,y,TX,hx,hy=>by
  simp only[fo,Bool.and_eq_true]at h
  cases j with
  |zero=>omega
  |succ j=>
   cases i with
   |zero=>
    simp only[gE,Option.some.injEq]at hx
    subst hx
    exact od zs h.1 j y hy
   |succ i=>
    have:=kC zs (k+1) h.2 i j x y (by omega) hx hy
    rw[show k+(i+1)=k+1+i by omega]
    exact this
theorem Mm{ops:List Oper}(hp:fo ops ops 0=true){i j:Nat}{x y:Oper}(hx:gE ops i=some x)(hy:gE ops j=some y)(dZ:j≠i)(h1:js y i=false)(h2:js x j=false):
 oc ops x.dst y/\(∀d,x.dst=some d->y.dst≠some d)/\oc ops y.dst x:=by
 rcases Nat.lt_or_gt_of_ne dZ with h|h
 ·rcases kC ops 0 hp j i y x h hy hx with h3|h3
  ·obtain⟨a,b,c⟩:=apart_spec h3
   exact⟨c,fun d hd PZ=>b d PZ hd,a⟩
  ·rw[Nat.zero_add,h2]at h3;cases h3
 ·rcases kC ops 0 hp i j x y h hx hy with h3|h3
  ·exact apart_spec h3
  ·rw[Nat.zero_add,h1]at h3;cases h3
theorem Al{bf:List Nat}{s:Nat×(Heap->Prop)}:∀{S:j9},s∈qo bf S↔s∈S/\eH bf s.1=false
 |[]=>by simp[qo]
 |(i,p)::S=>by
  have ih:=Al (bf:=bf) (s:=s) (S:=S)
  unfold qo
  cases h:eH bf i with
  |true=>
   simp only[ih,List.mem_cons]
   constructor
   ·rintro⟨a,b⟩;exact⟨.inr a,b⟩
   ·rintro⟨a|a,b⟩
    ·subst a;rw[h]at b;cases b
    ·exact⟨a,b⟩
  |false=>
   simp only[List.mem_cons,ih]
   constructor
   ·rintro(a|⟨a,b⟩)
    ·subst a;exact⟨.inl rfl,h⟩
    ·exact⟨.inr a,b⟩
   ·rintro⟨a|a,b⟩
    ·exact .inl a
    ·exact .inr ⟨a,b⟩
theorem KG{ops:List Oper}{o:Oper}{s:Nat×(Heap->Prop)}{S:j9}:s∈lc ops o S↔s∈S/\eH (u1 ops o) s.1=false:=Al
def lg(ops:List Oper)(l:List Bool):Prop:=∀j o,gE ops j=some o->lB l j false=true->∀x,x∈mP o.after.toList->lB l x false=true
theorem qH:∀{es:List Edge}{x:Nat},x∈mP es->∃e,e∈es/\Region.binds .any e=true/\e.on=x
 |[],x,h=>by simp[mP]at h
 |e::es,x,h=>by
  unfold mP at h
  cases hb:Region.binds .any e with
  |true=>
   rw[hb]at h
   rcases List.mem_cons.1 h with rfl|h
   ·exact⟨e,by simp,hb,rfl⟩
   ·obtain⟨f,h1,h2⟩:=qH h
    exact⟨f,by simp[h1],h2⟩
  |false=>
   rw[hb]at h
   obtain⟨f,h1,h2⟩:=qH h
   exact⟨f,by simp[h1],h2⟩
theorem u7{l:List Bool}{o:Oper}{i:Nat}(h:fU l o i=true):∀x,x∈mP o.after.toList->lB l x false=true:=fun x hx=>by
 obtain⟨e,h1,h2,h3⟩:=qH hx
 rw[<-h3]
 exact(gZ.1 h).2 e (by simpa using h1) h2
theorem lg.set{ops:List Oper}{l:List Bool}(C:lg ops l){i:Nat}{o:Oper}(ho:gE ops i=some o)(hr:fU l o i=true):lg ops (ij l i):=fun j o' ho' hj x hx=>by
 refine mQ _ _ _ ?_
 by_cases h:j=i
 ·subst h
  rw[ho]at ho'
  have:=Option.some.inj ho'
  subst this
  exact u7 hr x hx
 ·rw[qF _ _ _ _ (Ne.symm h)]at hj
  exact C j o' ho' hj x hx
theorem Ei:∀{a b:List Nat}{x:Nat},x∈UM a b->x∈a\/x∈b
 |[],b,x,h=> .inr h
 |y::a,b,x,h=>by
  rcases List.mem_cons.1 h with rfl|h
  ·exact .inl (by simp)
  ·rcases Ei h with h|h
   ·exact .inl (by simp[h])
   ·exact .inr h
theorem Ej:∀{l:List Nat}{i:Nat},eH l i=true->i∈l
 |[],i,h=>by simp[eH]at h
 |x::l,i,h=>by
  simp only[eH,Bool.or_eq_true]at h
  rcases h with h|h
  ·have:=Nat.eq_of_beq_eq_true h;subst this;simp
  ·simp[Ej h]
theorem rF{ops:List Oper}{l:List Bool}(C:lg ops l):∀{n:Nat}{todo seen:List Nat},(∀x,x∈todo->lB l x false=true)->(∀x,x∈seen->lB l x false=true)->∀x,x∈anc ops n todo seen->lB l x false=true
 |0,_,_,_,h2,x,hx=>h2 x hx
 |_+1,[],_,_,h2,x,hx=>h2 x hx
 |n+1,i::todo,seen,h1,h2,x,hx=>by
  have hi:=h1 i (by simp)
  have ht:∀x,x∈todo->lB l x false=true:=fun x hx=>h1 x (by simp[hx])
  have hs:∀x,x∈i::seen->lB l x false=true:=fun x hx=>by
   rcases List.mem_cons.1 hx with rfl|hx
   ·exact hi
   ·exact h2 x hx
  unfold anc at hx
  split at hx
  ·exact rF C ht h2 x hx
  ·split at hx
   ·rename_i o ho
    exact rF C (fun y hy=>(Ei hy).elim (C i o ho hi y) (ht y)) hs x hx
   ·exact rF C ht hs x hx
theorem Mn{ops:List Oper}{l:List Bool}(C:lg ops l){o:Oper}{i j:Nat}(h:fU l o j=true)(hi:lB l i true=false):eH (u1 ops o) i=false:=by
 cases hh:eH (u1 ops o) i with
 |false=>rfl
 |true=>
  have:=rF C (u7 h) (fun x hx=>by simp at hx) i (Ej hh)
  rw[lD _ _ hi]at this
  cases this
theorem mS{P:Program}{ops:List Oper}{K:Env->Heap->Prop}:∀(n:Nat)(l:List Bool)(e:Env)(h:Heap)(S S':j9),(∀s,s∈S'->s∈S\/∀g,s.2 g)->zO P ops K n l e h S->zO P ops K n l e h S'
 |0,_,_,_,_,_,_,H=>H
 |n+1,l,e,h,S,S',hs,H=>by
  refine⟨H.1,fun i o hi=>gY (fun v h' hv=>⟨fun hq=>mS n _ _ _ _ _ hs (hv.1 hq),fun hq=> ?_⟩) (H.2 i o hi)⟩
  obtain⟨h1,h2⟩:=hv.2 hq
  have GQ:∀s,s∈lc ops o S'->s∈lc ops o S\/∀g,s.2 g:=fun s hm=>by
   rw[KG]at*
   rcases hs _ hm.1 with h|h
   ·exact .inl ⟨h,hm.2⟩
   ·exact .inr h
  exact⟨fun s hm=>(GQ s hm).elim (h1 s) fun k=>k _,mS n _ _ _ _ _ GQ h2⟩
theorem wO{P:Program}{ops:List Oper}{K:Env->Heap->Prop}(hp:fo ops ops 0=true){i:Nat}{oi:Oper}{v:Value}(hi:gE ops i=some oi)(hq:(uZ oi.op||zJ oi.op)=true)(p:Heap->Prop):
 ∀(n:Nat)(l:List Bool)(e:Env)(h:Heap)(S:j9),lg ops l->(∀g,p g->Yv P ops e g oi v)->fU l oi i=true->Yv P ops e h oi v->
  zO P ops K n (ij l i) (put e oi.dst v) h ((i,p)::S)->zO P ops K (n+1) l e h S:=by
 intro n
 induction n with
 |zero=>
  intro l e h S C hpy hr hy H
  refine⟨fun h0=> ?_,fun j oj hj=> ?_⟩
  ·have:=cG.2 ⟨hi,hr⟩;rw[h0]at this;cases this
  ·obtain⟨P0,TY⟩:=cG.1 hj
   by_cases UP:j=i
   ·subst UP
    obtain rfl:oj=oi:=by rw[hi]at P0;exact(Option.some.inj P0).symm
    rw[jC hq]
    exact⟨v,hy,fun _=>⟨H.1,H.2⟩,fun hc=>by rw[hq]at hc;cases hc⟩
   ·have:=cG.2 ⟨P0,nZ TY UP⟩
    rw[H.1]at this;cases this
 |succ n ih=>
  intro l e h S C hpy hr hy H
  refine⟨fun h0=> ?_,fun j oj hj=> ?_⟩
  ·have:=cG.2 ⟨hi,hr⟩;rw[h0]at this;cases this
  ·obtain⟨P0,TY⟩:=cG.1 hj
   by_cases UP:j=i
   ·subst UP
    obtain rfl:oj=oi:=by rw[hi]at P0;exact(Option.some.inj P0).symm
    rw[jC hq]
    exact⟨v,hy,fun _=>mS _ _ _ _ _ _ (fun s hs=> .inl (by simp[hs])) H,fun hc=>by rw[hq]at hc;cases hc⟩
   ·have hli:lB l i true=false:=(gZ.1 hr).1
    have hlj:lB l j true=false:=(gZ.1 TY).1
    have hnj:js oj i=false:=Ja TY hli
    have hni:js oi j=false:=Ja hr hlj
    obtain⟨a1,a2,a3⟩:=Mm hp hi P0 UP hnj hni
    have H1:=H.2 j oj (cG.2 ⟨P0,nZ TY UP⟩)
    rw[KE a1]at H1
    have hri:fU (ij l j) oi i=true:=nZ hr (Ne.symm UP)
    by_cases hqj:(uZ oj.op||zJ oj.op)=true
    ·rw[jC hqj]at H1⊢
     obtain⟨u,hu,H2⟩:=H1
     refine⟨u,hu,fun _=> ?_,fun hc=>by rw[hqj]at hc;cases hc⟩
     refine ih (ij l j) (put e oj.dst u) h S (C.set P0 TY) (fun g hg=>by rw[BN a3];exact hpy g hg) hri (by rw[BN a3];exact hy) ?_
     rw[sZ,<-put_comm a2]
     exact H2.1 hqj
    ·have aed:(uZ oj.op||zJ oj.op)=false:=by simpa using hqj
     refine gY (fun u h' H2=>⟨fun hc=>absurd hc hqj,fun _=> ?_⟩) H1
     obtain⟨h3,h4⟩:=H2.2 aed
     have hk:lc ops oj ((i,p)::S)=(i,p)::lc ops oj S:=by simp[lc,qo,Mn C TY hli]
     rw[hk]at h3 h4
     refine⟨fun s hs=>h3 s (by simp[hs]),?_⟩
     refine ih (ij l j) (put e oj.dst u) h' (lc ops oj S) (C.set P0 TY) (fun g hg=>by rw[BN a3];exact hpy g hg) hri ?_ ?_
     ·rw[BN a3]
      exact hpy _ (h3 (i,p) (by simp))
     ·rw[sZ,<-put_comm a2]
      exact h4
theorem oe:∀{r:List (Nat×Oper)}{x:Nat×Oper},cU r=some x->x∈r/\(uZ x.2.op||zJ x.2.op)=true
 |[],_,h=>by simp[cU]at h
 |(i,o)::r,x,h=>by
  unfold cU at h
  cases hq:(uZ o.op||zJ o.op)with
  |true=>rw[hq]at h;simp only[Option.some.injEq]at h;subst h;exact⟨by simp,hq⟩
  |false=>rw[hq]at h;have:=oe h;exact⟨by simp[this.1],this.2⟩
theorem nH:∀{r:List (Nat×Oper)},cU r=none->∀x,x∈r->(uZ x.2.op||zJ x.2.op)=false
 |[],_,x,hx=>by simp at hx
 |(i,o)::r,h,x,hx=>by
  unfold cU at h
  cases hq:(uZ o.op||zJ o.op)with
  |true=>rw[hq]at h;cases h
  |false=>
   rw[hq]at h
   rcases List.mem_cons.1 hx with rfl|hx
   ·exact hq
   ·exact nH h x hx
theorem Am{h:Heap}{K:Prop}:∀{S:j9},Ml h K S->(∀s,s∈S->s.2 h)/\K
 |[],H=>⟨fun s hs=>by simp at hs,H⟩
 |(i,p)::S,H=>by
  obtain⟨h1,h2⟩:=H
  obtain⟨h3,h4⟩:=Am h2
  refine⟨fun s hs=> ?_,h4⟩
  rcases List.mem_cons.1 hs with h|h
  ·rw[h];exact h1
  ·exact h3 s h
theorem Ao{f:Nat->Oper->Prop}:∀{r:List (Nat×Oper)},GO f r->∀i o,(i,o)∈r->f i o
 |[],_,i,o,h=>by simp at h
 |[(j,x)],H,i,o,h=>by simp at h;obtain⟨rfl,rfl⟩:=h;exact H
 |(j,x)::y::r,H,i,o,h=>by
  rcases List.mem_cons.1 h with h|h
  ·cases h;exact H.1
  ·exact Ao H.2 i o h
theorem iz{P:Program}{ops:List Oper}{K:Env->Heap->Prop}(hp:fo ops ops 0=true):∀(n:Nat)(l:List Bool)(e:Env)(h:Heap)(S:j9),lg ops l->lC P ops K n l e h S->zO P ops K n l e h S
 |0,l,e,h,S,C,H=>by
  unfold lC at H
  cases hr:aY ops 0 l with
  |nil=>rw[hr]at H;exact⟨hr,H⟩
  |cons x xs=>rw[hr]at H;exact H.elim
 |n+1,l,e,h,S,C,H=>by
  unfold lC at H
  cases hq:cU (aY ops 0 l)with
  |some x=>
   obtain⟨i,o⟩:=x
   obtain⟨hm,hqq⟩:=oe hq
   obtain⟨ho,hr⟩:=cG.1 hm
   rw[hq]at H
   simp only at H
   cases hpu:uZ o.op with
   |true=>
    rw[hpu]at H
    simp only at H
    rw[jC hqq]at H
    obtain⟨v,hv,H⟩:=H
    exact wO hp ho hqq (fun _=>True) n l e h S C (fun g _=>Qj hpu hv g) hr hv
     (mS _ _ _ _ _ _ (fun s hs=>(List.mem_cons.1 hs).elim (fun h=> .inr fun _=>by rw[h];trivial) .inl) (iz hp n _ _ _ _ (C.set ho hr) H))
   |false=>
    rw[hpu]at H
    simp only at H
    rw[jC hqq]at H
    obtain⟨v,hv,H⟩:=H
    exact wO hp ho hqq _ n l e h S C (fun g hg=>hg) hr hv (iz hp n _ _ _ _ (C.set ho hr) H)
  |none=>
   rw[hq]at H
   simp only at H
   cases hr:aY ops 0 l with
   |nil=>
    rw[hr]at H
    exact⟨fun _=>H,fun i o hi=>by rw[hr]at hi;cases hi⟩
   |cons x xs=>
    rw[hr]at H
    simp only at H
    refine⟨fun h0=>(by rw[hr]at h0;cases h0),fun i o hi=> ?_⟩
    rw[hr]at hi
    have H1:=Ao H i o hi
    obtain⟨ho,UQ⟩:=cG.1 (by rw[hr];exact hi:(i,o)∈aY ops 0 l)
    refine gY (fun v h' hv=>⟨fun hc=> ?_,fun _=> ?_⟩) H1
    ·have:=nH hq (i,o) (by rw[hr];exact hi)
     rw[hc]at this;cases this
    ·obtain⟨h1,h2⟩:=Am hv
     exact⟨h1,iz hp n _ _ _ _ (C.set ho UQ) h2⟩
theorem vV(l:Array Bool)(i:Nat)(d:Bool):lB l.toList i d=l.getD i d:=by
 have key:∀(l:List Bool)(i:Nat),lB l i d=l[i]?.getD d:=by
  intro l
  induction l with
  |nil=>intro i;simp[lB]
  |cons x xs ih=>intro i;cases i<;>simp[lB,ih]
 rw[key];simp
theorem u9(l:Array Bool)(i:Nat):ij l.toList i=(l.setIfInBounds i true).toList:=by
 have key:∀(l:List Bool)(i:Nat),ij l i=l.set i true:=by
  intro l
  induction l with
  |nil=>intro i;rfl
  |cons x xs ih=>intro i;cases i<;>simp[ij,ih]
 rw[key];simp
theorem qI{ops:Array Oper}{l:Array Bool}{i:Nat}:i∈Region.ready .any ops l↔∃o,(i,o)∈aY ops.toList 0 l.toList:=by
 rw[mem_ready]
 constructor
 ·rintro⟨h0,o,ho,h⟩
  refine⟨o,cG.2 ⟨by rw[pB];exact ho,gZ.2 ⟨by rw[vV];exact h0,fun e he hb=>by rw[vV];exact h e he hb⟩⟩⟩
 ·rintro⟨o,h⟩
  obtain⟨ho,hr⟩:=cG.1 h
  obtain⟨h0,h1⟩:=gZ.1 hr
  exact⟨by rw[<-vV];exact h0,o,by rw[<-pB];exact ho,fun e he hb=>by rw[<-vV];exact h1 e he hb⟩
theorem Ap{ops:Array Oper}{l:Array Bool}:Region.ready .any ops l=[]↔aY ops.toList 0 l.toList=[]:=by
 constructor
 ·intro h
  cases hr:aY ops.toList 0 l.toList with
  |nil=>rfl
  |cons x xs=>
   have:x.1∈Region.ready .any ops l:=qI.2 ⟨x.2,by rw[hr];simp⟩
   rw[h]at this;cases this
 ·intro h
  cases hr:Region.ready .any ops l with
  |nil=>rfl
  |cons x xs=>
   obtain⟨o,ho⟩:=qI.1 (show x∈Region.ready .any ops l by rw[hr];simp)
   rw[h]at ho;cases ho
theorem lE{P:Program}{ops:Array Oper}{Q:Exit->Act->World->Prop}{K:Env->Heap->Prop}{w0:World}(hQ:∀a w,cN w0 w->K a.tmps.toList w.heap->a.defers=[]->Q .normal a w):
 ∀(n:Nat)(l:Array Bool)(a:Act)(w:World)(S:j9),a.defers=[]->cN w0 w->zO P ops.toList K n l.toList a.tmps.toList w.heap S->wpAny P .any ops Q n l a w
 |0,l,a,w,S,hd,hs,H=>⟨Ap.2 H.1,hQ a w hs H.2 hd⟩
 |n+1,l,a,w,S,hd,hs,H=>by
  refine⟨fun h=>hQ a w hs (H.1 (Ap.1 h)) hd,fun i hi=> ?_⟩
  obtain⟨o,ho⟩:=qI.1 hi
  refine qn (by rw[<-pB];exact(cG.1 ho).1) (gY (fun v h' hv=> ?_) (H.2 i o ho))
  intro w' hw' hh'
  subst hh'
  have PZ:(a.put o.dst v).defers=[]:=by rw[put_defers];exact hd
  cases hq:(uZ o.op||zJ o.op)with
  |true=>
   have:=hv.1 hq
   rw[u9,<-qC]at this
   exact lE hQ n _ _ _ _ PZ (hs.trans hw') this
  |false=>
   have:=(hv.2 hq).2
   rw[u9,<-qC]at this
   exact lE hQ n _ _ _ _ PZ (hs.trans hw') this
theorem qp{P:Program}{ops:Array Oper}{Q:Exit->Act->World->Prop}{K:Env->Heap->Prop}{w0:World}(hQ:∀a w,cN w0 w->K a.tmps.toList w.heap->a.defers=[]->Q .normal a w):
 ∀(l:List Oper)(k:Nat)(a:Act)(w:World),(∀j,gE l j=gE ops.toList (k+j))->a.defers=[]->cN w0 w->wpIn P ops.toList l a.tmps.toList w.heap K->wpOps P ops Q (List.range' k l.length) a w
 |[],k,a,w,_,hd,hs,H=>by simpa[wpOps]using hQ a w hs H hd
 |o::os,k,a,w,hl,hd,hs,H=>by
  simp only[List.length_cons,List.range'_succ]
  rw[wpOps_cons]
  have ho:ops[k]?=some o:=by rw[<-pB];have:=hl 0;simp only[gE,Nat.add_zero]at this;exact this.symm
  refine qn ho (gY (fun v h' hv=> ?_) H)
  intro w' hw' hh'
  subst hh'
  refine qp hQ os (k+1) _ _ (fun j=> ?_) (by rw[put_defers];exact hd) (hs.trans hw') (by rw[qC];exact hv)
  have:=hl (j+1)
  simp only[gE]at this
  rw[this,show k+(j+1)=k+1+j by omega]
def mT:List Oper->List Bool
 |[]=>[]
 |_::os=>false::mT os
def len:List Oper->Nat
 |[]=>0
 |_::os=>len os+1
def Qk(P:Program)(ops:List Oper)(draw:Bool)(e:Env)(h:Heap)(K:Env->Heap->Prop):Prop:=
 match draw with
 |false=>wpIn P ops ops e h K
 |true=>match fo ops ops 0 with
  |true=>lC P ops K (len ops) (mT ops) e h []
  |false=>False
def zP:List Oper->List Nat
 |[]=>[]
 |o::os=>match o.dst with
  |some d=>d::zP os
  |none=>zP os
def writes:Code->List Nat
 | .region _ ops _=>zP ops.toList
 | .seq a b=>writes a++writes b
 | .cond _ a b=>writes a++writes b
 | .block _ c=>writes c
 | .loop c=>writes c
 |_=>[]
def ka:Nat->(List Value->Prop)->Prop
 |0,f=>f []
 |n+1,f=>∀v,ka n fun vs=>f (v::vs)
def ik:List Nat->Nat
 |[]=>0
 |_::xs=>ik xs+1
def Aq(P:Program)(an:Nat->Option (List Nat)):Code->Nat->(Env->Heap->Prop)->(Nat->Env->Heap->Prop)->(Env->Heap->Prop)->Env->Heap->Prop
 | .skip,_,kn,_,_,e,h=>kn e h
 | .region _ ops draw,_,kn,_,_,e,h=>Qk P ops.toList draw e h kn
 | .seq a b,p,kn,kx,kr,e,h=>match an p with
   |none=>Aq P an a (2*p) (fun e' h'=>Aq P an b (2*p+1) kn kx kr e' h') kx kr e h
   |some L=>∃J:List Value->Heap->Prop,Aq P an a (2*p) (fun e' h'=>J (eB e' L) h') kx kr e h/\
    ∀(ta:Nat->Value),ka (ik L) fun vs=>∀h':Heap,J vs h'->Aq P an b (2*p+1) kn kx kr (jr (fM e ta (writes a)) L vs) h'
 | .cond c a b,p,kn,kx,kr,e,h=>Mi (ev e c) (Aq P an a (2*p) kn kx kr e h) (Aq P an b (2*p+1) kn kx kr e h)
 | .block id c,p,kn,kx,kr,e,h=>Aq P an c (2*p) kn (fun i e' h'=>match Nat.beq i id with
   |true=>kn e' h'
   |false=>kx i e' h') kr e h
 | .loop c,p,_,kx,kr,e,h=>match an p with
   |none=>False
   |some L=>∃(I:List Value->Heap->Prop)(μ:List Value->Heap->Nat),I (eB e L) h/\
    ∀(ta:Nat->Value),ka (ik L) fun vs=>∀h':Heap,I vs h'->
     Aq P an c (2*p) (fun e'' kY=>I (eB e'' L) kY/\μ (eB e'' L) kY<μ vs h') kx kr (jr (fM e ta (writes c)) L vs) h'
 | .exit id,_,_,kx,_,e,h=>kx id e h
 | .ret,_,_,_,kr,e,h=>kr e h
 | .label _,_,kn,_,_,e,h=>kn e h
 |_,_,_,_,_,_,_=>False
structure pF(D:List Nat)(e e':Env):Prop where
 len:e'.length=e.length
 same:∀t,t∉D->eK e' t=eK e t
theorem pF.refl(D:List Nat)(e:Env):pF D e e:=⟨rfl,fun _ _=>rfl⟩
theorem pF.trans{D:List Nat}{a b c:Env}(h:pF D a b)(k:pF D b c):pF D a c:=⟨k.len.trans h.len,fun t ht=>(k.same t ht).trans (h.same t ht)⟩
theorem pF.mono{D D':List Nat}{a b:Env}(h:pF D a b)(hD:∀t,t∈D->t∈D'):pF D' a b:=⟨h.len,fun t ht=>h.same t fun hm=>ht (hD t hm)⟩
theorem pF.put{D:List Nat}{a b:Env}(h:pF D a b){dst:Option Tmp}(hd:∀d,dst=some d->d∈D)(v:Value):pF D a (put b dst v):=by
 cases dst with
 |none=>exact h
 |some d=>
  refine⟨by simp only[Mx.put];rw[eZ];exact h.len,fun t ht=> ?_⟩
  simp only[Mx.put]
  rw[fa _ _ _ _ fun he=>ht (by rw[<-he];exact hd d rfl)]
  exact h.same t ht
theorem og:∀(D:List Nat)(e:Env)(j:Nat->Value),(fM e j D).length=e.length
 |[],_,_=>rfl
 |t::ts,e,j=>by simp only[fM];rw[og ts,eZ]
theorem Ar:∀(D:List Nat)(e:Env)(j:Nat->Value)(t:Nat),t<e.length->eK (fM e j D) t=if t∈D then j t else eK e t
 |[],_,_,_,_=>by simp[fM]
 |d::ds,e,j,t,ht=>by
  simp only[fM]
  rw[Ar ds _ _ _ (by rw[eZ];exact ht)]
  by_cases h1:t∈ds
  ·simp[h1]
  ·simp only[h1,if_false,List.mem_cons,or_false]
   by_cases h2:t=d
   ·subst h2;simp[j8 _ _ _ ht]
   ·simp only[h2,if_false];exact fa _ _ _ _ (Ne.symm h2)
theorem vc:∀(L:List Nat)(e:Env),jr e L (eB e L)=e
 |[],_=>rfl
 |t::ts,e=>by
  have h0:sY e t (eK e t)=e:=BM _ _ (eZ _ _ _) fun s hs=>by
   rw[eZ]at hs
   by_cases h:t=s
   ·subst h;exact j8 _ _ _ hs
   ·exact fa _ _ _ _ h
  simp only[eB,jr,h0]
  exact vc ts e
theorem wQ{D:List Nat}{e e':Env}(h:pF D e e')(L:List Nat):jr (fM e (eK e') D) L (eB e' L)=e':=by
 have h0:fM e (eK e') D=e':=BM _ _ (by rw[og,h.len]) fun t ht=>by
  rw[og]at ht
  rw[Ar _ _ _ _ ht]
  by_cases hm:t∈D
  ·simp[hm]
  ·simp[hm,h.same t hm]
 rw[h0]
 exact vc L e'
theorem kD:∀(L:List Nat)(e:Env),(eB e L).length=ik L
 |[],_=>rfl
 |_::ts,e=>by simp[eB,ik,kD ts e]
theorem mU:∀(n:Nat)(f:List Value->Prop),ka n f->∀vs:List Value,vs.length=n->f vs
 |0,f,h,vs,hv=>by rw[List.eq_nil_of_length_eq_zero hv];exact h
 |n+1,f,h,[],hv=>by simp at hv
 |n+1,f,h,v::vs,hv=>mU n (fun vs=>f (v::vs)) (h v) vs (by simpa using hv)
def oh(D:List Nat)(kn:Env->Heap->Prop)(kx:Nat->Env->Heap->Prop)(kr:Env->Heap->Prop)(e0:Env)(w0:World):Exit->Act->World->Prop
 | .normal,a,w=>a.defers=[]/\cN w0 w/\pF D e0 a.tmps.toList/\kn a.tmps.toList w.heap
 | .exit id,a,w=>a.defers=[]/\cN w0 w/\pF D e0 a.tmps.toList/\kx id a.tmps.toList w.heap
 | .ret,a,w=>a.defers=[]/\cN w0 w/\pF D e0 a.tmps.toList/\kr a.tmps.toList w.heap
 |_,_,_=>False
theorem oh.weaken{D D':List Nat}{kn pG:Env->Heap->Prop}{kx rG:Nat->Env->Heap->Prop}{kr:Env->Heap->Prop}{e0 e1:Env}{w0 w1:World}(hD:∀t,t∈D->t∈D')(hw:cN w0 w1)(he:pF D' e0 e1)
 (hn:∀e h,kn e h->pG e h) (hx:∀i e h,kx i e h->rG i e h) {x:Exit} {a:Act} {w:World} (H:oh D kn kx kr e1 w1 x a w):oh D' pG rG kr e0 w0 x a w:=by
 cases x<;>first
  |exact⟨H.1,hw.trans H.2.1,he.trans (H.2.2.1.mono hD),hn _ _ H.2.2.2⟩
  |exact⟨H.1,hw.trans H.2.1,he.trans (H.2.2.1.mono hD),hx _ _ _ H.2.2.2⟩
  |exact⟨H.1,hw.trans H.2.1,he.trans (H.2.2.1.mono hD),H.2.2.2⟩
  |exact H
theorem oh.BO{D D':List Nat}{kn pG:Env->Heap->Prop}{kx:Nat->Env->Heap->Prop}{kr:Env->Heap->Prop}{e0 e1:Env}{w0 w1:World}(hD:∀t,t∈D->t∈D')(hw:cN w0 w1)(he:pF D' e0 e1)
 {x:Exit} {a:Act} {w:World} (hx:x≠ .normal) (H:oh D kn kx kr e1 w1 x a w):oh D' pG kx kr e0 w0 x a w:=by
 cases x<;>first
  |exact absurd rfl hx
  |exact⟨H.1,hw.trans H.2.1,he.trans (H.2.2.1.mono hD),H.2.2.2⟩
  |exact H
theorem rH:∀(ops:List Oper)(j:Nat)(o:Oper),gE ops j=some o->∀d,o.dst=some d->d∈zP ops
 |[],j,o,h,_,_=>by simp[gE]at h
 |x::xs,0,o,h,d,hd=>by simp only[gE,Option.some.injEq]at h;subst h;simp[zP,hd]
 |x::xs,j+1,o,h,d,hd=>by
  have:=rH xs j o h d hd
  unfold zP
  cases x.dst<;>simp[this]
theorem Ek{P:Program}{ops:List Oper}{K:Env->Heap->Prop}{e0:Env}{D:List Nat}:∀(l:List Oper)(e:Env)(h:Heap),(∀j o,gE l j=some o->∀d,o.dst=some d->d∈D)->pF D e0 e->wpIn P ops l e h K->wpIn P ops l e h fun e' h'=>pF D e0 e'/\K e' h'
 |[],e,h,_,ho,H=>⟨ho,H⟩
 |o::os,e,h,hl,ho,H=>gY (fun v h' hv=>Ek os _ _ (fun j x hx=>hl (j+1) x hx) (ho.put (hl 0 o rfl) v) hv) H
theorem wR{P:Program}{ops:List Oper}{K:Env->Heap->Prop}{e0:Env}:∀(n:Nat)(l:List Bool)(e:Env)(h:Heap)(S:j9),pF (zP ops) e0 e->zO P ops K n l e h S->zO P ops (fun e' h'=>pF (zP ops) e0 e'/\K e' h') n l e h S
 |0,l,e,h,S,ho,H=>⟨H.1,ho,H.2⟩
 |n+1,l,e,h,S,ho,H=>⟨fun h0=>⟨ho,H.1 h0⟩,fun i o hi=>gY (fun v h' hv=>
  ⟨fun hq=>wR n _ _ _ _ (ho.put (rH ops i o (cG.1 hi).1) v) (hv.1 hq),fun hq=>⟨(hv.2 hq).1,wR n _ _ _ _ (ho.put (rH ops i o (cG.1 hi).1) v) (hv.2 hq).2⟩⟩) (H.2 i o hi)⟩
theorem UR(ops:Array Oper):Mx.len ops.toList=ops.size:=by
 have key:∀l:List Oper,Mx.len l=l.length:=by intro l;induction l<;>simp[Mx.len, *]
 rw[key];simp
theorem At:∀(l:List Oper)(j:Nat),lB (mT l) j false=false
 |[],_=>rfl
 |_::_,0=>rfl
 |_::l,j+1=>At l j
theorem zQ(ops:List Oper):lg ops (mT ops):=fun j o _ h=>by rw[At]at h;cases h
theorem KH(ops:Array Oper):mT ops.toList=(Array.replicate ops.size false).toList:=by
 have key:∀l:List Oper,mT l=List.replicate l.length false:=by
  intro l
  induction l with
  |nil=>rfl
  |cons x xs ih=>simp[mT,ih,List.replicate_succ]
 rw[key];simp
theorem KI{P:Program}(hm:P.follows .mixedOrders=true)(an:Nat->Option (List Nat)):∀(c:Code)(p:Nat)(kn:Env->Heap->Prop)(kx:Nat->Env->Heap->Prop)(kr:Env->Heap->Prop)(a:Act)(w:World),
 a.defers=[]->Aq P an c p kn kx kr a.tmps.toList w.heap->c.wp P (oh (writes c) kn kx kr a.tmps.toList w) a w:=by
 intro c
 induction c with
 |skip=>intro p kn kx kr a w hd H;exact wp_skip ⟨hd,cN.refl w,pF.refl _ _,H⟩
 |region id ops draw=>
  intro p kn kx kr a w hd H
  simp only[Aq,Qk]at H
  cases draw with
  |false=>
   simp only at H
   have H':=Ek (D:=zP ops.toList) ops.toList _ _ (fun j o ho d hdd=>rH _ j o ho d hdd) (pF.refl _ _) H
   have:=qp (P:=P) (ops:=ops) (Q:=oh (zP ops.toList) kn kx kr a.tmps.toList w) (w0:=w) (fun a' w' hs hk PZ=>⟨PZ,hs,hk.1,hk.2⟩) ops.toList 0 a w (fun j=>by rw[Nat.zero_add]) hd (cN.refl w) H'
   refine wp_region ?_
   rw[List.range_eq_range']
   have hl:ops.toList.length=ops.size:=by simp
   rw[hl]at this
   exact this
  |true=>
   simp only at H
   cases hp:fo ops.toList ops.toList 0 with
   |false=>rw[hp]at H;exact H.elim
   |true=>
    rw[hp]at H
    simp only at H
    have H':=wR _ _ _ _ _ (pF.refl _ a.tmps.toList) (iz hp _ _ _ _ _ (zQ _) H)
    rw[UR,KH]at H'
    refine wp_region_any hm ?_
    exact lE (w0:=w) (fun a' w' hs hk PZ=>⟨PZ,hs,hk.1,hk.2⟩) ops.size _ a {w with drawn:=w.drawn+1} [] hd ⟨rfl,rfl,rfl⟩ H'
 |seq x y ihx ihy=>
  intro p kn kx kr a w hd H
  simp only[Aq]at H
  refine wp_seq ?_
  cases hp:an p with
  |none=>
   rw[hp]at H
   refine wp_mono (ihx _ _ _ _ a w hd H) fun e a' w' hq=> ?_
   cases e with
   |normal=>
    obtain⟨h1,h2,h3,h4⟩:=hq
    exact wp_mono (ihy _ _ _ _ a' w' h1 h4) fun e a'' w'' hq'=>hq'.weaken (fun t ht=>List.mem_append_right _ ht) h2 (h3.mono fun t ht=>List.mem_append_left _ ht) (fun _ _ h=>h) (fun _ _ _ h=>h)
   |_=>exact oh.BO (pG:=kn) (D':=writes x++writes y) (fun t ht=>List.mem_append_left _ ht) (cN.refl w) (pF.refl _ _) (by simp) hq
  |some L=>
   rw[hp]at H
   obtain⟨J,H1,H2⟩:=H
   refine wp_mono (ihx _ _ _ _ a w hd H1) fun e a' w' hq=> ?_
   cases e with
   |normal=>
    obtain⟨h1,h2,h3,h4⟩:=hq
    have H3:=mU _ _ (H2 (eK a'.tmps.toList)) (eB a'.tmps.toList L) (kD _ _) _ h4
    rw[wQ h3]at H3
    exact wp_mono (ihy _ _ _ _ a' w' h1 H3) fun e a'' w'' hq'=>hq'.weaken (fun t ht=>List.mem_append_right _ ht) h2 (h3.mono fun t ht=>List.mem_append_left _ ht) (fun _ _ h=>h) (fun _ _ _ h=>h)
   |_=>exact oh.BO (pG:=kn) (D':=writes x++writes y) (fun t ht=>List.mem_append_left _ ht) (cN.refl w) (pF.refl _ _) (by simp) hq
 |cond c x y ihx ihy=>
  intro p kn kx kr a w hd H
  simp only[Aq]at H
  obtain⟨t,ht,h1,h2⟩:=H
  rw[eG]at ht
  refine wp_cond_split ht (fun h=> ?_) (fun h=> ?_)
  ·exact wp_mono (ihx _ _ _ _ a w hd (h1 h)) fun e a' w' hq=>hq.weaken (fun t ht=>List.mem_append_left _ ht) (cN.refl w) (pF.refl _ _) (fun _ _ h=>h) (fun _ _ _ h=>h)
  ·exact wp_mono (ihy _ _ _ _ a w hd (h2 h)) fun e a' w' hq=>hq.weaken (fun t ht=>List.mem_append_right _ ht) (cN.refl w) (pF.refl _ _) (fun _ _ h=>h) (fun _ _ _ h=>h)
 |block id x ih=>
  intro p kn kx kr a w hd H
  simp only[Aq]at H
  refine wp_block (wp_mono (ih _ _ _ _ a w hd H) fun e a' w' hq=> ?_)
  cases e with
  |exit i=>
   obtain⟨h1,h2,h3,h4⟩:=hq
   simp only[Exit.inBlock]
   by_cases hi:i=id
   ·subst hi
    simp only[if_true]
    have hb:Nat.beq i i=true:=by simp
    rw[hb]at h4
    exact⟨h1,h2,h3,h4⟩
   ·simp only[hi,if_false]
    have hb:Nat.beq i id=false:=by
     cases hb:Nat.beq i id with
     |false=>rfl
     |true=>exact absurd (Nat.eq_of_beq_eq_true hb) hi
    rw[hb]at h4
    exact⟨h1,h2,h3,h4⟩
  |_=>exact hq
 |loop x ih=>
  intro p kn kx kr a w hd H
  simp only[Aq]at H
  cases hp:an p with
  |none=>rw[hp]at H;exact H.elim
  |some L=>
   rw[hp]at H
   obtain⟨I,μ,H0,H1⟩:=H
   refine wp_loop (fun a' w'=>a'.defers=[]/\cN w w'/\pF (writes x) a.tmps.toList a'.tmps.toList/\I (eB a'.tmps.toList L) w'.heap) (fun a' w'=>μ (eB a'.tmps.toList L) w'.heap) ⟨hd,cN.refl w,pF.refl _ _,H0⟩ ?_
   rintro a' w' ⟨h1,h2,h3,h4⟩
   have H3:=mU _ _ (H1 (eK a'.tmps.toList)) (eB a'.tmps.toList L) (kD _ _) _ h4
   rw[wQ h3]at H3
   refine wp_mono (ih _ _ _ _ a' w' h1 H3) fun e a'' w'' hq=> ?_
   cases e with
   |normal=>exact⟨⟨hq.1,h2.trans hq.2.1,h3.trans hq.2.2.1,hq.2.2.2.1⟩,hq.2.2.2.2⟩
   |_=>exact oh.BO (pG:=fun _ _=>True) (fun t ht=>ht) h2 h3 (by simp) hq
 |rangeFunc f params assign body=>intro p kn kx kr a w hd H;exact H.elim
 |exit id=>intro p kn kx kr a w hd H;exact wp_exit ⟨hd,cN.refl w,pF.refl _ _,H⟩
 |scope body=>intro p kn kx kr a w hd H;exact H.elim
 |label l=>intro p kn kx kr a w hd H;exact wp_label ⟨hd,cN.refl w,pF.refl _ _,H⟩
 |goto l=>intro p kn kx kr a w hd H;exact H.elim
 |ret=>intro p kn kx kr a w hd H;exact wp_ret ⟨hd,cN.refl w,pF.refl _ _,H⟩
 |refuse why=>intro p kn kx kr a w hd H;exact H.elim
def kE:Nat->Env
 |0=>[]
 |n+1=>undef::kE n
def oneOf:List Value->Value
 |[v]=>v
 |vs=> .tuple vs.toArray
def BP(P:Program)(e:Nat->Value)(h:Heap)(K:Value->Heap->Prop):List ResultVar->List Value->Prop
 |[],acc=>K (oneOf acc.reverse) h
 | .tmp t::rs,acc=>BP P e h K rs (e t::acc)
 | .cell a t::rs,acc=>zN P (Instr.loadAt t (e a)) h fun v=>BP P e h K rs (v::acc)
def Mo(P:Program)(rs:List ResultVar)(e:Env)(h:Heap)(K:Value->Heap->Prop):Prop:=BP P (eK e) h K rs []
theorem El{P:Program}{fn:Func}{a:Array Value}{h:Heap}{K:Value->Heap->Prop}(H:Mo P fn.results.toList a.toList h K):∃v,(∀w:World,w.heap=h->(results fn a).run P w= .ok v w)/\K v h:=by
 have aeh:∀(w:World),(results fn a).run P w=((fn.results.toList.mapM fun r=>(match r with
  | .tmp t=>pure (a.getD t undef)
  | .cell b t=>do loadVar t (<-asAddr (a.getD b undef)):Sem Value)).bind fun l=>Sem.pure (oneOf l)).run P w:=by
  intro w
  unfold results
  rw[Array.mapM_eq_mapM_toList]
  simp only[map_eq_pure_bind,bind_assoc,pure_bind]
  show Sem.run P (Sem.bind _ _) w=_
  rw[Sem.run_bind',Sem.run_bind']
  congr 1
  funext l w'
  match l with
  |[]=>rfl
  |[x]=>rfl
  |x::y::l=>simp[oneOf]
 have key:∀(rs:List ResultVar)(acc:List Value),BP P (eK a.toList) h K rs acc->∃l,(∀w:World,w.heap=h->(rs.mapM fun r=>(match r with
  | .tmp t=>pure (a.getD t undef)
  | .cell b t=>do loadVar t (<-asAddr (a.getD b undef)):Sem Value)).run P w= .ok l w)/\K (oneOf (acc.reverse++l)) h:=by
  intro rs
  induction rs with
  |nil=>intro acc H;exact⟨[],fun w hw=>rfl,by simpa[BP]using H⟩
  |cons r rs ih=>
   intro acc H
   cases r with
   |tmp t=>
    obtain⟨l,h1,h2⟩:=ih _ H
    refine⟨a.getD t undef::l,fun w hw=> ?_,by simpa[jz]using h2⟩
    rw[List.mapM_cons]
    simp only[pure_bind]
    show Sem.run P (Sem.bind _ _) w=_
    rw[Sem.run_bind',h1 w hw]
    rfl
   |cell b t=>
    obtain⟨v,hv,H⟩:=H
    obtain⟨l,h1,h2⟩:=ih _ H
    refine⟨v::l,fun w hw=> ?_,by simpa using h2⟩
    rw[List.mapM_cons]
    have h3:(do loadVar t (<-asAddr (a.getD b undef)):Sem Value).run P w= .ok v w:=by
     have:=hv w hw
     unfold Instr.loadAt at this
     rw[<-jz]
     have e1:(do loadVar t (<-Instr.sureAddr (eK a.toList b)):Sem Value)=(Instr.sureAddr (eK a.toList b)).bind fun x=>loadVar t x:=rfl
     have e2:(do loadVar t (<-asAddr (eK a.toList b)):Sem Value)=(asAddr (eK a.toList b)).bind fun x=>loadVar t x:=rfl
     rw[e1]at this
     rw[e2]
     cases hx:eK a.toList b with
     |pointer q=>
      rw[hx]at this
      cases q with
      |some q=>exact this
      |none=>simp[Instr.sureAddr,stuck,Sem.bind,Sem.run]at this
     |_=>rw[hx]at this;simp[Instr.sureAddr,stuck,Sem.bind,Sem.run]at this
    show Sem.run P (Sem.bind _ _) w=_
    rw[Sem.run_bind',h3]
    show Sem.run P (Sem.bind _ _) w=_
    rw[Sem.run_bind',h1 w hw]
    rfl
 obtain⟨l,h1,h2⟩:=key _ _ H
 refine⟨oneOf l,fun w hw=> ?_,by simpa using h2⟩
 rw[aeh,Sem.run_bind',h1 w hw]
 rfl
def Func.plain(fn:Func):Bool:= !(fn.name== "runtime.NumGoroutine")&&fn.body.isSome
theorem BR{P:Program}(hm:P.follows .mixedOrders=true){f:FuncId}{fn:Func}{c:Code}(hf:P.funcs[f]?=some fn)(hb:fn.body=some c)(hn:(fn.name== "runtime.NumGoroutine")=false)
 (an:Nat->Option (List Nat)) {args:List Value} {h:Heap} {K:Value->Heap->Prop} (n:Nat) (hk:fn.ntmps-args.length=n) (rs:List ResultVar) (hr:fn.results.toList=rs)
 (H:Aq P an c 1 (fun e h=>Mo P rs e h K) (fun _ _ _=>False) (fun e h=>Mo P rs e h K) (args++kE n) h):aE P f args.toArray h K:=by
 refine⟨fun w hw=> ?_⟩
 refine .inr ⟨f,args.toArray,w,?_,rfl,?_⟩
 ·show Sem.run P (Sem.bind program _) w=_
  rw[Sem.run_bind']
  have hn':¬fn.name= "runtime.NumGoroutine" :=by simpa using hn
  simp[program,Sem.run,hf,hn',hb,pure]
 ·subst hw hr hk
  refine calls_of_wp hf hb ?_
  have hu:∀n,kE n=List.replicate n undef:=by intro n;induction n<;>simp[kE,List.replicate_succ, *]
  have e1:(args.toArray++Array.replicate (fn.ntmps-args.toArray.size) undef).toList=args++kE (fn.ntmps-args.length):=by
   rw[hu];simp
  have:=KI hm an c 1 _ _ _ {tmps:=args.toArray++Array.replicate (fn.ntmps-args.toArray.size) undef,defers:=[]} w rfl (by rw[e1];exact H)
  refine wp_mono this fun e a w' hq=> ?_
  cases e<;>first
   |exact hq.elim
   |exact hq.2.2.2.elim
   |(obtain⟨h1,h2,h3,h4⟩:=hq
     obtain⟨v,h5,h6⟩:=El h4
     exact⟨h1,v,h5 w' rfl,v,rfl,h2,h6⟩)
def GS(fn:Func):Code:=
 match fn.body with
 |some c=>c
 |none=> .skip
def gL(op:BinOp)(t:TypeId)(a b:Value):Sem Value:=do eqGuard op t (.tmp 0) (.tmp 0) a b;binOp op t a b
def lF(op:BinOp)(t:TypeId)(x y:Operand)(a b:Value):Sem Value:=do eqGuard op t x y a b;binOp op t a b
def Jd(c a b:Value):Sem Value:=do pure (if<-asBool c then a else b)
def Mp(x:Value):Sem Value:=
 match x with
 | .pointer none| .nilIface| .nilFunc=>runtimePanic .nilDeref
 | .func (.method _) _ _=>stuck "a method value"
 |x=>pure x
def zR(t:TypeId)(ty:TypeId)(x:Value):Sem Value:=Builtin.len_ #[t] ty #[x]
def bK(t u:TypeId)(ty:TypeId)(x y:Value):Sem Value:=Builtin.append_ #[t,u] ty #[x,y]
abbrev aU:=List (Nat×Value)
def lG:aU->Nat->Value
 |[],_=>undef
 |(d,v)::A,t=>match Nat.beq d t with
  |true=>v
  |false=>lG A t
def Je{α:Sort _}:aU->Nat->(Value->α)->α
 |[],_,k=>k undef
 |(d,v)::A,t,k=>match Nat.beq d t with
  |true=>k v
  |false=>Je A t k
theorem Em{α:Sort _}:∀(A:aU)(t:Nat)(k:Value->α),Je A t k=k (lG A t)
 |[],_,_=>rfl
 |(d,v)::A,t,k=>by
  simp only[Je,lG]
  cases Nat.beq d t with
  |true=>rfl
  |false=>exact Em A t k
def wS(n:Nat)(A:aU)(dst:Option Tmp)(v:Value):aU:=
 match dst with
 |some d=>match Nat.blt d n with
  |true=>(d,v)::A
  |false=>A
 |none=>A
def vd{α:Sort _}(n:Nat)(A:aU)(dst:Option Tmp)(v:Value)(k:aU->α):α:=
 match dst with
 |some d=>match Nat.blt d n with
  |true=>k ((d,v)::A)
  |false=>k A
 |none=>k A
theorem gM{α:Sort _}(n:Nat)(A:aU)(dst:Option Tmp)(v:Value)(k:aU->α):vd n A dst v k=k (wS n A dst v):=by
 cases dst with
 |none=>rfl
 |some d=>simp only[vd,wS];cases Nat.blt d n<;>rfl
def ff(A:aU):Operand->Value
 | .tmp t=>lG A t
 | .const v=>v
 | .global g=> .pointer (some ⟨g,0,none⟩)
 | .func f=> .func (.func f) #[] #[]
def aaS{α:Sort _}(A:aU)(x:Operand)(k:Value->α):α:=
 match x with
 | .tmp t=>Je A t k
 | .const v=>k v
 | .global g=>k (.pointer (some ⟨g,0,none⟩))
 | .func f=>k (.func (.func f) #[] #[])
theorem Qm{α:Sort _}(A:aU)(x:Operand)(k:Value->α):aaS A x k=k (ff A x):=by
 cases x<;>first|rfl|exact Em _ _ _
def En{α:Sort _}:List Bool->Nat->(List Bool->α)->α
 |[],_,k=>k []
 |_::bs,0,k=>k (true::bs)
 |b::bs,n+1,k=>En bs n fun l=>k (b::l)
theorem rJ{α:Sort _}:∀(l:List Bool)(n:Nat)(k:List Bool->α),En l n k=k (ij l n)
 |[],_,_=>rfl
 |_::_,0,_=>rfl
 |b::bs,n+1,k=>by simp only[En,ij];rw[rJ bs n]
structure td(n:Nat)(A:aU)(e:Env):Prop where
 len:e.length=n
 get:∀t,eK e t=lG A t
theorem td.ev{n:Nat}{A:aU}{e:Env}(h:td n A e):Mx.ev e=ff A:=by
 funext x
 cases x<;>simp only[Mx.ev,ff]
 exact h.get _
theorem td.put{n:Nat}{A:aU}{e:Env}(h:td n A e)(dst:Option Tmp)(v:Value):td n (wS n A dst v) (Mx.put e dst v):=by
 cases dst with
 |none=>exact h
 |some d=>
  simp only[wS,Mx.put]
  cases hb:Nat.blt d n with
  |true=>
   have hd:d<n:=by simpa[Nat.blt_eq]using hb
   refine⟨by rw[eZ];exact h.len,fun t=> ?_⟩
   simp only[lG]
   cases hq:Nat.beq d t with
   |true=>
    have:=Nat.eq_of_beq_eq_true hq
    subst this
    exact j8 _ _ _ (by rw[h.len];exact hd)
   |false=>
    have dZ:d≠t:=fun e=>by subst e;simp at hq
    rw[fa _ _ _ _ dZ]
    exact h.get t
  |false=>
   have hd:¬d<n:=fun tf=>by rw[<-Nat.blt_eq]at tf;rw[hb]at tf;cases tf
   refine⟨by rw[eZ];exact h.len,fun t=> ?_⟩
   by_cases dZ:d=t
   ·subst dZ
    rw[<-h.get,BL _ _ (by rw[eZ,h.len];exact Nat.le_of_not_lt hd),BL _ _ (by rw[h.len];exact Nat.le_of_not_lt hd)]
   ·rw[fa _ _ _ _ dZ]
    exact h.get t
def wT(P:Program)(A:aU)(op:Op)(ty:TypeId)(h:Heap)(K:Value->Heap->Prop):Prop:=
 match gu op with
 |some x=>aaS A x fun v=>K v h
 |none=>fi P (ff A) op ty h K
theorem kF{P:Program}{A:aU}{op:Op}{ty:TypeId}{h:Heap}{K:Value->Heap->Prop}:wT P A op ty h K=fi P (ff A) op ty h K:=by
 unfold wT
 cases hm:gu op with
 |some x=>simp only[Qm];unfold fi;rw[hm]
 |none=>rfl
def iW(ops:List Oper)(A:aU)(j:Nat):Value:=
 match wJ ops j with
 |some t=>lG A t
 |none=>undef
theorem td.qE{n:Nat}{A:aU}{e:Env}(h:td n A e)(ops:List Oper)(j:Nat):Mx.qE ops e j=iW ops A j:=by
 unfold Mx.qE iW
 cases wJ ops j with
 |none=>rfl
 |some t=>exact h.get t
def lh(P:Program)(ops:List Oper)(A:aU)(h:Heap)(o:Oper)(k:Value->Heap->Prop):Prop:=
 match o.guard with
 |none=>wT P A o.op o.type h k
 |some (j,want)=>GM (KB (iW ops A j) want) want (wT P A o.op o.type h) h k
theorem rK{P:Program}{ops:List Oper}{n:Nat}{A:aU}{e:Env}(hr:td n A e){h:Heap}{o:Oper}{k:Value->Heap->Prop}:lh P ops A h o k=jB P ops e h o k:=by
 have:wT P A o.op o.type h=fi P (ev e) o.op o.type h:=funext fun _=>by rw[kF,hr.ev]
 have h2:wT P A o.op o.type h k=fi P (ev e) o.op o.type h k:=by rw[this]
 unfold lh jB
 cases o.guard with
 |none=>exact h2
 |some p=>
  obtain⟨j,want⟩:=p
  simp only[this,hr.qE]
def Mq(P:Program)(ops:List Oper)(A:aU)(g:Heap)(o:Oper)(v:Value):Prop:=
 match o.guard with
 |none=>Yx P (ff A) o.op o.type g v
 |some (j,want)=>∃b:Bool,KB (iW ops A j) want= .bool b/\(b=want->Yx P (ff A) o.op o.type g v)/\(b≠want->v=undef)
theorem US{P:Program}{ops:List Oper}{n:Nat}{A:aU}{e:Env}(hr:td n A e){g:Heap}{o:Oper}{v:Value}:Mq P ops A g o v=Yv P ops e g o v:=by
 unfold Mq Yv
 cases o.guard with
 |none=>simp only[hr.ev]
 |some p=>obtain⟨j,want⟩:=p;simp only[hr.ev,hr.qE]
def Au(P:Program)(n:Nat)(ops:List Oper):List Oper->aU->Heap->(aU->Heap->Prop)->Prop
 |[],A,h,K=>K A h
 |o::os,A,h,K=>lh P ops A h o fun v h'=>vd n A o.dst v fun A'=>Au P n ops os A' h' K
theorem Eo{P:Program}{n:Nat}{ops:List Oper}{K:aU->Heap->Prop}{K':Env->Heap->Prop}(hK:∀A e h,td n A e->K A h=K' e h):∀(l:List Oper)(A:aU)(e:Env)(h:Heap),td n A e->Au P n ops l A h K=wpIn P ops l e h K'
 |[],A,e,h,hr=>hK A e h hr
 |o::os,A,e,h,hr=>by
  simp only[Au,wpIn,gM]
  rw[rK hr]
  congr 1
  funext v h'
  exact Eo hK os _ _ _ (hr.put o.dst v)
def jt(P:Program)(n:Nat)(ops:List Oper)(K:aU->Heap->Prop):Nat->List Bool->aU->Heap->j9->Prop
 |0,l,A,h,_=>match aY ops 0 l with
  |[]=>K A h
  |_::_=>False
 |m+1,l,A,h,S=>match cU (aY ops 0 l)with
  |some (i,o)=>En l i fun l'=>match uZ o.op with
   |true=>lh P ops A h o fun v h'=>vd n A o.dst v fun A'=>jt P n ops K m l' A' h' S
   |false=>lh P ops A h o fun v h'=>vd n A o.dst v fun A'=>jt P n ops K m l' A' h' ((i,fun g=>Mq P ops A g o v)::S)
  |none=>match aY ops 0 l with
   |[]=>K A h
   |r::rs=>GO (fun i o=>En l i fun l'=>lh P ops A h o fun v h'=>Ml h' (vd n A o.dst v fun A'=>jt P n ops K m l' A' h' (lc ops o S)) (lc ops o S)) (r::rs)
theorem wU{P:Program}{n:Nat}{ops:List Oper}{K:aU->Heap->Prop}{K':Env->Heap->Prop}(hK:∀A e h,td n A e->K A h=K' e h):∀(m:Nat)(l:List Bool)(A:aU)(e:Env)(h:Heap)(S:j9),td n A e->jt P n ops K m l A h S=lC P ops K' m l e h S
 |0,l,A,e,h,S,hr=>by
  simp only[jt,lC]
  cases aY ops 0 l with
  |nil=>exact hK A e h hr
  |cons x xs=>rfl
 |m+1,l,A,e,h,S,hr=>by
  have ih:=fun l A e h S hr=>wU (P:=P) (n:=n) (ops:=ops) hK m l A e h S hr
  simp only[jt,lC,gM,rJ]
  cases cU (aY ops 0 l)with
  |some x=>
   obtain⟨i,o⟩:=x
   simp only
   have hy:∀v,(fun g=>Mq P ops A g o v)=fun g=>Yv P ops e g o v:=fun v=>funext fun g=>US hr
   cases uZ o.op with
   |true=>simp only[rK hr];congr 1;funext v h';exact ih _ _ _ _ _ (hr.put o.dst v)
   |false=>simp only[rK hr,hy];congr 1;funext v h';exact ih _ _ _ _ _ (hr.put o.dst v)
  |none=>
   simp only
   cases aY ops 0 l with
   |nil=>exact hK A e h hr
   |cons x xs=>
    simp only
    congr 1
    funext i o
    rw[rK hr]
    congr 1
    funext v h'
    rw[ih _ _ _ _ _ (hr.put o.dst v)]
def Mr(P:Program)(n:Nat)(ops:List Oper)(draw:Bool)(A:aU)(h:Heap)(K:aU->Heap->Prop):Prop:=
 match draw with
 |false=>Au P n ops ops A h K
 |true=>match fo ops ops 0 with
  |true=>jt P n ops K (len ops) (mT ops) A h []
  |false=>False
theorem Qn{P:Program}{n:Nat}{ops:List Oper}{K:aU->Heap->Prop}{K':Env->Heap->Prop}(hK:∀A e h,td n A e->K A h=K' e h){draw:Bool}{A:aU}{e:Env}{h:Heap}(hr:td n A e):Mr P n ops draw A h K=Qk P ops draw e h K':=by
 unfold Mr Qk
 cases draw with
 |false=>exact Eo hK _ _ _ _ hr
 |true=>simp only;rw[wU hK _ _ _ _ _ _ hr]
def dI(A:aU):List Nat->List Value
 |[]=>[]
 |t::ts=>lG A t::dI A ts
def qJ{α:Sort _}(n:Nat)(j:Nat->Value):List Nat->aU->(aU->α)->α
 |[],A,k=>k A
 |t::ts,A,k=>vd n A (some t) (j t) fun A'=>qJ n j ts A' k
def rL{α:Sort _}(n:Nat):List Nat->List Value->aU->(aU->α)->α
 |[],_,A,k=>k A
 |_::_,[],A,k=>k A
 |t::ts,v::vs,A,k=>vd n A (some t) v fun A'=>rL n ts vs A' k
theorem td.many{n:Nat}{A:aU}{e:Env}(h:td n A e):∀L:List Nat,eB e L=dI A L
 |[]=>rfl
 |t::ts=>by simp only[eB,dI,h.get,h.many ts]
theorem tg{α:Sort _}{n:Nat}{j:Nat->Value}{k:aU->α}{k':Env->α}(hk:∀A e,td n A e->k A=k' e):∀(L:List Nat)(A:aU)(e:Env),td n A e->qJ n j L A k=k' (fM e j L)
 |[],A,e,hr=>hk A e hr
 |t::ts,A,e,hr=>by
  simp only[qJ,fM,gM]
  exact tg hk ts _ _ (hr.put (some t) (j t))
theorem wV{α:Sort _}{n:Nat}{k:aU->α}{k':Env->α}(hk:∀A e,td n A e->k A=k' e):∀(L:List Nat)(vs:List Value)(A:aU)(e:Env),td n A e->rL n L vs A k=k' (jr e L vs)
 |[],_,A,e,hr=>by simp only[rL,jr];exact hk A e hr
 |_::_,[],A,e,hr=>by simp only[rL,jr];exact hk A e hr
 |t::ts,v::vs,A,e,hr=>by
  simp only[rL,jr,gM]
  exact wV hk ts vs _ _ (hr.put (some t) v)
theorem qt{f g:List Value->Prop}(h:∀vs,f vs=g vs)(n:Nat):ka n f=ka n g:=by rw[funext h]
def BS(P:Program)(n:Nat)(an:Nat->Option (List Nat)):Code->Nat->(aU->Heap->Prop)->(Nat->aU->Heap->Prop)->(aU->Heap->Prop)->aU->Heap->Prop
 | .skip,_,kn,_,_,A,h=>kn A h
 | .region _ ops draw,_,kn,_,_,A,h=>Mr P n ops.toList draw A h kn
 | .seq a b,p,kn,kx,kr,A,h=>match an p with
   |none=>BS P n an a (2*p) (fun A' h'=>BS P n an b (2*p+1) kn kx kr A' h') kx kr A h
   |some L=>∃J:List Value->Heap->Prop,BS P n an a (2*p) (fun A' h'=>J (dI A' L) h') kx kr A h/\
    ∀(ta:Nat->Value),ka (ik L) fun vs=>∀h':Heap,J vs h'->qJ n ta (writes a) A fun A1=>rL n L vs A1 fun A2=>BS P n an b (2*p+1) kn kx kr A2 h'
 | .cond c a b,p,kn,kx,kr,A,h=>Mi (ff A c) (BS P n an a (2*p) kn kx kr A h) (BS P n an b (2*p+1) kn kx kr A h)
 | .block id c,p,kn,kx,kr,A,h=>BS P n an c (2*p) kn (fun i A' h'=>match Nat.beq i id with
   |true=>kn A' h'
   |false=>kx i A' h') kr A h
 | .loop c,p,_,kx,kr,A,h=>match an p with
   |none=>False
   |some L=>∃(I:List Value->Heap->Prop)(μ:List Value->Heap->Nat),I (dI A L) h/\
    ∀(ta:Nat->Value),ka (ik L) fun vs=>∀h':Heap,I vs h'->qJ n ta (writes c) A fun A1=>rL n L vs A1 fun A2=>
     BS P n an c (2*p) (fun A'' kY=>I (dI A'' L) kY/\μ (dI A'' L) kY<μ vs h') kx kr A2 h'
 | .exit id,_,_,kx,_,A,h=>kx id A h
 | .ret,_,_,_,kr,A,h=>kr A h
 | .label _,_,kn,_,_,A,h=>kn A h
 |_,_,_,_,_,_,_=>False
theorem UT{P:Program}{n:Nat}{an:Nat->Option (List Nat)}:∀(c:Code)(p:Nat)(kn:aU->Heap->Prop)(kx:Nat->aU->Heap->Prop)(kr:aU->Heap->Prop)(pG:Env->Heap->Prop)(rG:Nat->Env->Heap->Prop)(ve:Env->Heap->Prop)(A:aU)(e:Env)(h:Heap),
 td n A e->(∀A e h,td n A e->kn A h=pG e h)->(∀i A e h,td n A e->kx i A h=rG i e h)->(∀A e h,td n A e->kr A h=ve e h)->BS P n an c p kn kx kr A h=Aq P an c p pG rG ve e h:=by
 intro c
 induction c with
 |skip=>intro p kn kx kr pG rG ve A e h hr h1 h2 h3;exact h1 A e h hr
 |region id ops draw=>intro p kn kx kr pG rG ve A e h hr h1 h2 h3;exact Qn h1 hr
 |seq a b Qo Qq=>
  intro p kn kx kr pG rG ve A e h hr h1 h2 h3
  simp only[BS,Aq]
  cases an p with
  |none=>exact Qo _ _ _ _ _ _ _ _ _ _ hr (fun A e h hr=>Qq _ _ _ _ _ _ _ _ _ _ hr h1 h2 h3) h2 h3
  |some L=>
   simp only
   congr 1
   funext J
   rw[Qo (2*p) (fun A' h'=>J (dI A' L) h') kx kr (fun e' h'=>J (eB e' L) h') rG ve A e h hr (fun A e h hr=>by rw[hr.many]) h2 h3]
   congr 1
   refine propext (forall_congr' fun ta=> ?_)
   rw[qt]
   intro vs
   refine propext (forall_congr' fun h'=> ?_)
   rw[tg (fun A1 e1 UU=>wV (fun A2 e2 hr2=>Qq _ _ _ _ _ _ _ _ _ _ hr2 h1 h2 h3) L vs A1 e1 UU) _ _ _ hr]
 |cond c a b Qo Qq=>
  intro p kn kx kr pG rG ve A e h hr h1 h2 h3
  simp only[BS,Aq]
  rw[Qo _ _ _ _ _ _ _ _ _ _ hr h1 h2 h3,Qq _ _ _ _ _ _ _ _ _ _ hr h1 h2 h3,hr.ev]
 |block id c ih=>
  intro p kn kx kr pG rG ve A e h hr h1 h2 h3
  simp only[BS,Aq]
  refine ih _ _ _ _ _ _ _ _ _ _ hr h1 (fun i A e h hr=> ?_) h3
  cases Nat.beq i id with
  |true=>exact h1 A e h hr
  |false=>exact h2 i A e h hr
 |loop c ih=>
  intro p kn kx kr pG rG ve A e h hr h1 h2 h3
  simp only[BS,Aq]
  cases an p with
  |none=>rfl
  |some L=>
   simp only
   congr 1
   funext I
   congr 1
   funext μ
   rw[hr.many]
   congr 1
   refine propext (forall_congr' fun ta=> ?_)
   rw[qt]
   intro vs
   refine propext (forall_congr' fun h'=> ?_)
   rw[tg (fun A1 e1 UU=>wV (fun A2 e2 hr2=>ih (2*p) _ kx kr (fun e'' kY=>I (eB e'' L) kY/\μ (eB e'' L) kY<μ vs h') rG ve A2 e2 h' hr2 (fun A e h hr=>by rw[hr.many]) h2 h3) L vs A1 e1 UU) _ _ _ hr]
 |exit id=>intro p kn kx kr pG rG ve A e h hr h1 h2 h3;exact h2 id A e h hr
 |ret=>intro p kn kx kr pG rG ve A e h hr h1 h2 h3;exact h3 A e h hr
 |label l=>intro p kn kx kr pG rG ve A e h hr h1 h2 h3;exact h1 A e h hr
 |_=>intros;rfl
def rM:List Value->Nat->aU
 |[],_=>[]
 |v::vs,i=>(i,v)::rM vs (i+1)
theorem wW:∀(vs:List Value)(i t:Nat),lG (rM vs i) t=if t<i then undef else eK vs (t-i)
 |[],i,t=>by simp[rM,lG,eK]
 |v::vs,i,t=>by
  simp only[rM,lG]
  cases hq:Nat.beq i t with
  |true=>have:=Nat.eq_of_beq_eq_true hq;subst this;simp[eK]
  |false=>
   have dZ:i≠t:=fun e=>by subst e;simp at hq
   simp only[wW vs (i+1) t]
   by_cases h:t<i
   ·simp[h,show t<i+1 by omega]
   ·simp only[h,show¬t<i+1 by omega,if_false]
    rw[show t-i=(t-(i+1))+1 by omega]
    rfl
theorem Ms(vs:List Value)(m n:Nat)(hn:vs.length+m=n):td n (rM vs 0) (vs++kE m):=by
 have hu:∀m,(kE m).length=m/\∀t,eK (kE m) t=undef:=by
  intro m
  induction m with
  |zero=>exact⟨rfl,fun t=>rfl⟩
  |succ m ih=>refine⟨by simp[kE,ih.1],fun t=> ?_⟩;cases t<;>simp[kE,eK,ih.2]
 refine⟨by simp[(hu m).1,hn],fun t=> ?_⟩
 rw[wW]
 simp only[Nat.not_lt_zero,if_false,Nat.sub_zero]
 have key:∀(l:List Value)(t:Nat),eK (l++kE m) t=eK l t:=by
  intro l
  induction l with
  |nil=>intro t;simp[(hu m).2,eK]
  |cons x xs ih=>intro t;cases t<;>simp[eK,ih]
 exact key vs t
def Mt(P:Program)(A:aU)(h:Heap)(K:Value->Heap->Prop)(rs:List ResultVar):Prop:=BP P (lG A) h K rs []
theorem BT{P:Program}(hm:P.follows .mixedOrders=true){f:FuncId}{fn:Func}{c:Code}(hf:P.funcs[f]?=some fn)(hb:fn.body=some c)(hn:(fn.name== "runtime.NumGoroutine")=false)
 (an:Nat->Option (List Nat)) {args:List Value} {h:Heap} {K:Value->Heap->Prop} (m n:Nat) (hk:fn.ntmps-args.length=m) (Mu:args.length+m=n) (rs:List ResultVar) (hr:fn.results.toList=rs)
 (H:BS P n an c 1 (fun A h=>Mt P A h K rs) (fun _ _ _=>False) (fun A h=>Mt P A h K rs) (rM args 0) h):aE P f args.toArray h K:=by
 refine BR hm hf hb hn an m hk rs hr ?_
 have hg:∀(A:aU)(e:Env)(h:Heap),td n A e->Mt P A h K rs=Mo P rs e h K:=fun A e h hr=>by
  unfold Mt Mo
  rw[show lG A=eK e from funext fun t=>(hr.get t).symm]
 rw[<-UT c 1 _ (fun _ _ _=>False) _ _ (fun _ _ _=>False) _ _ _ h (Ms args m n Mu) hg (fun _ _ _ _ _=>rfl) hg]
 exact H
end Go.Mx
