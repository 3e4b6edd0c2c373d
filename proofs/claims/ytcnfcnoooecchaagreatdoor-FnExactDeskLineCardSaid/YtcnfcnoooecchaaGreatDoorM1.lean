import Derived.Orders
import Derived.KernelRfl
import Derived.Laws.Sem
set_option linter.unusedVariables false
set_option linter.unusedSimpArgs false
namespace Go.Mx
abbrev Heap:=Array Obj
abbrev Env:=List Value
structure cO(w w':World):Prop where
 os:w'.os=w.os
 tape:w'.tape=w.tape
 output:w'.output=w.output
theorem cO.refl(w:World):cO w w:=⟨rfl,rfl,rfl⟩
theorem cO.trans{a b c:World}(h:cO a b)(k:cO b c):cO a c:=⟨k.os.trans h.os,k.tape.trans h.tape,k.output.trans h.output⟩
def eQ:Env->Nat->Value
 |[],_=>undef
 |v::_,0=>v
 |_::vs,n+1=>eQ vs n
def tC:Env->Nat->Value->Env
 |[],_,_=>[]
 |_::vs,0,u=>u::vs
 |v::vs,n+1,u=>v::tC vs n u
def put(e:Env)(dst:Option Tmp)(v:Value):Env:=
 match dst with
 |some d=>tC e d v
 |none=>e
def ev(e:Env):Operand->Value
 | .tmp t=>eQ e t
 | .const v=>v
 | .global g=> .pointer (some ⟨g,0,none⟩)
 | .func f=> .func (.func f) #[] #[]
def mW(ρ:Operand->Value):List Operand->List Value
 |[]=>[]
 |x::xs=>ρ x::mW ρ xs
def eG(e:Env):List Nat->List Value
 |[]=>[]
 |t::ts=>eQ e t::eG e ts
def jz(e:Env):List Nat->List Value->Env
 |[],_=>e
 |_::_,[]=>e
 |t::ts,v::vs=>jz (tC e t v) ts vs
def fU(e:Env)(j:Nat->Value):List Nat->Env
 |[]=>e
 |t::ts=>fU (tC e t (j t)) j ts
theorem fb:∀(e:Env)(n:Nat)(v:Value),(tC e n v).length=e.length
 |[],_,_=>rfl
 |_::_,0,_=>rfl
 |_::vs,n+1,v=>by simp[tC,fb vs n v]
theorem fc:∀(e:Env)(n m:Nat)(v:Value),n≠m->eQ (tC e n v) m=eQ e m
 |[],_,_,_,_=>rfl
 |_::_,0,0,_,h=>absurd rfl h
 |_::_,0,m+1,_,_=>rfl
 |_::_,n+1,0,_,_=>rfl
 |_::vs,n+1,m+1,v,h=>by simp only[tC,eQ];exact fc vs n m v (by omega)
theorem kb:∀(e:Env)(n:Nat)(v:Value),n<e.length->eQ (tC e n v) n=v
 |[],_,_,h=>by simp at h
 |_::_,0,_,_=>rfl
 |_::vs,n+1,v,h=>by simp only[tC,eQ];exact kb vs n v (by simpa using h)
theorem BR:∀(e:Env)(n:Nat),e.length<=n->eQ e n=undef
 |[],_,_=>rfl
 |_::_,0,h=>by simp at h
 |_::vs,n+1,h=>by simp only[eQ];exact BR vs n (by simpa using h)
theorem BS:∀(e e':Env),e.length=e'.length->(∀t,t<e.length->eQ e t=eQ e' t)->e=e'
 |[],[],_,_=>rfl
 |[],_::_,h,_=>by simp at h
 |_::_,[],h,_=>by simp at h
 |v::vs,u::us,h,k=>by
  have h0:=k 0 (by simp)
  simp only[eQ]at h0
  rw[h0,BS vs us (by simpa using h) fun t ht=>by have:=k (t+1) (by simpa using ht);simpa[eQ]using this]
theorem Ap(e:Env)(d:Nat)(v:Value):tC e d v=e.set d v:=by
 induction e generalizing d with
 |nil=>rfl
 |cons x xs ih=>cases d with
  |zero=>rfl
  |succ d=>simp[tC,ih]
theorem jF(a:Array Value)(t:Nat):eQ a.toList t=a.getD t undef:=by
 have key:∀(l:List Value)(t:Nat),eQ l t=l[t]?.getD undef:=by
  intro l
  induction l with
  |nil=>intro t;simp[eQ]
  |cons x xs ih=>intro t;cases t with
   |zero=>simp[eQ]
   |succ t=>simp[eQ,ih]
 rw[key];simp
theorem qF(a:Act)(dst:Option Tmp)(v:Value):(a.put dst v).tmps.toList=put a.tmps.toList dst v:=by
 cases dst with
 |none=>rfl
 |some d=>simp[Act.put,put,Ap]
theorem put_defers(a:Act)(dst:Option Tmp)(v:Value):(a.put dst v).defers=a.defers:=by cases dst<;>rfl
theorem eM(a:Act)(x:Operand):ev a.tmps.toList x=a.eval x:=by
 cases x<;>simp[ev,Act.eval,jF]
theorem QY(ρ:Operand->Value)(l:List Operand):mW ρ l=l.map ρ:=by induction l<;>simp[mW, *]
structure pop(P:Program)(s:Sem Value)(K:Value->Prop):Prop where
 out:∃v,(∀w,s.run P w= .ok v w)/\K v
structure zS(P:Program)(s:Sem Value)(h:Heap)(K:Value->Prop):Prop where
 out:∃v,(∀w:World,w.heap=h->s.run P w= .ok v w)/\K v
structure kE(P:Program)(s:Sem Value)(h:Heap)(K:Value->Heap->Prop):Prop where
 out:∀w:World,w.heap=h->∃v w',s.run P w= .ok v w'/\cO w w'/\K v w'.heap
structure Aq(P:Program)(s:Sem Unit)(h:Heap)(K:Value->Heap->Prop):Prop where
 out:∀w:World,w.heap=h->∃w',s.run P w= .ok () w'/\cO w w'/\K undef w'.heap
def MO(P:Program)(f:FuncId)(args:Array Value)(w:World)(K:Value->Heap->Prop):Prop:=
 Calls P f args w fun e w'=>∃v,e= .returned v/\cO w w'/\K v w'.heap
structure aE(P:Program)(f:FuncId)(args:Array Value)(h:Heap)(K:Value->Heap->Prop):Prop where
 out:∀w:World,w.heap=h->(∃v w',(callFunc f args).run P w= .ok (.value v) w'/\cO w w'/\K v w'.heap)\/
  (∃f' Ar w',(callFunc f args).run P w= .ok (.enter f' Ar) w'/\w'=w/\MO P f' Ar w K)
def fD(P:Program)(v:Value)(args:List Value)(h:Heap)(K:Value->Heap->Prop):Prop:=
 match v with
 | .func (.func g) first cap=>aE P g (first.toList++args++cap.toList).toArray h K
 |_=>False
structure MP(v:Value)(A B:Prop):Prop where
 out:∃t:Bool,v= .bool t/\(t=true->A)/\(t=false->B)
structure Hk(v:Value)(want:Bool)(A:(Value->Heap->Prop)->Prop)(h:Heap)(K:Value->Heap->Prop):Prop where
 out:∃b:Bool,v= .bool b/\(b=want->A K)/\(b≠want->K undef h)
def jG(ρ:Operand->Value)(ty:TypeId):Op->Option (Sem Value)
 | .pick c a b=>some (do pure (if<-asBool (ρ c)then ρ a else ρ b))
 | .nilCheck x=>some (match ρ x with
   | .pointer none| .nilIface| .nilFunc=>runtimePanic .nilDeref
   | .func (.method _) _ _=>stuck "a method value"
   |x=>pure x)
 | .binOp op t x y _=>some (do eqGuard op t x y (ρ x) (ρ y);binOp op t (ρ x) (ρ y))
 | .unOp op _ x=>some (Op.unary op (ρ x))
 | .makeInterface t x=>some (Instr.makeInterface t (ρ x))
 | .makeFunc fn first captured=>some (Instr.makeFunc fn (mW ρ first.toList).toArray (mW ρ captured.toList).toArray)
 | .slice t x lo hi mx=>some (Instr.sliceAt t (ρ x) (lo.map ρ) (hi.map ρ) (mx.map ρ))
 | .fieldAddr s x f=>some (Instr.fieldAt s (ρ x) f)
 | .field t x f=>some (Instr.field t (ρ x) f)
 | .indexAddr t x ix=>some (Instr.indexAt t (ρ x) (ρ ix))
 | .index t x ix=>some (Instr.index t (ρ x) (ρ ix))
 | .extract t ix=>some (Instr.extract (ρ t) ix)
 | .build t parts=>some (Instr.build t (parts.toList.map fun p=>(p.1,ρ p.2)).toArray)
 | .call c=>match c.callee with
   | .builtin .len=>some (Builtin.len_ c.argTypes ty (mW ρ c.args.toList).toArray)
   | .builtin .cap=>some (Builtin.cap_ c.argTypes ty (mW ρ c.args.toList).toArray)
   | .builtin .max=>some (Builtin.max_ c.argTypes ty (mW ρ c.args.toList).toArray)
   | .builtin .min=>some (Builtin.min_ c.argTypes ty (mW ρ c.args.toList).toArray)
   |_=>none
 |_=>none
def nY(ρ:Operand->Value):Op->Option (Sem Value)
 | .load t a=>some (Instr.loadAt t (ρ a))
 | .convert src dst x=>some (convert src dst (ρ x))
 | .lookup t x ix ok=>some (Instr.lookup t (ρ x) (ρ ix) ok)
 | .typeAssert x abv asserted ok=>some (Instr.typeAssert (ρ x) abv asserted ok)
 |_=>none
def El(ρ:Operand->Value)(ty:TypeId):Op->Option (Sem Value)
 | .alloc elem=>some (Instr.alloc elem true (.tuple #[]))
 | .box elem x=>some (Instr.box elem (ρ x))
 | .buildSlice t len parts=>some (Instr.buildSlice t len (parts.toList.map fun p=>(p.1,ρ p.2)).toArray)
 | .makeMap t r=>some (Instr.makeMap t (r.map ρ))
 | .makeSlice t l c=>some (Instr.makeSlice t (ρ l) (ρ c))
 | .range t x=>some (Instr.range t (ρ x))
 | .next it isString=>some (Instr.next (ρ it) isString ty)
 | .entry it=>some (Instr.entry (ρ it))
 | .call c=>match c.callee with
   | .builtin .append=>some (Builtin.append_ c.argTypes ty (mW ρ c.args.toList).toArray)
   | .builtin .copy=>some (Builtin.copy_ c.argTypes ty (mW ρ c.args.toList).toArray)
   |_=>none
 |_=>none
def Em(ρ:Operand->Value):Op->Option (Sem Unit)
 | .store t a x=>some (Instr.storeAt t (ρ a) (ρ x))
 | .mapUpdate t m k x| .insert t m k x=>some (Instr.mapUpdate t (ρ m) (ρ k) (ρ x))
 |_=>none
def gw:Op->Option Operand
 | .move x| .assign x=>some x
 |_=>none
def kF:Op->Option (Operand×Array Operand)
 | .call c=>match c.callee with
   | .value f=>some (f,c.args)
   |_=>none
 |_=>none
def fm(P:Program)(ρ:Operand->Value)(op:Op)(ty:TypeId)(h:Heap)(K:Value->Heap->Prop):Prop:=
 match gw op with
 |some x=>K (ρ x) h
 |none=>match kF op with
  |some (f,args)=>fD P (ρ f) (mW ρ args.toList) h K
  |none=>match jG ρ ty op with
   |some s=>pop P s fun v=>K v h
   |none=>match nY ρ op with
    |some s=>zS P s h fun v=>K v h
    |none=>match El ρ ty op with
     |some s=>kE P s h K
     |none=>match Em ρ op with
      |some s=>Aq P s h K
      |none=>False
theorem qG{P:Program}{f:FuncId}{args:Array Value}{h:Heap}{K K':Value->Heap->Prop}(hk:∀v h,K v h->K' v h)(H:aE P f args h K):aE P f args h K':=by
 refine⟨fun w hw=> ?_⟩
 rcases H.out w hw with⟨v,w',h1,h2,h3⟩|⟨f',Ar,w',h1,h2,h3⟩
 ·exact .inl ⟨v,w',h1,h2,hk _ _ h3⟩
 ·exact .inr ⟨f',Ar,w',h1,h2,h3.mono fun e w'' ⟨v,a,b,c⟩=>⟨v,a,b,hk _ _ c⟩⟩
theorem kG{P:Program}{v:Value}{args:List Value}{h:Heap}{K K':Value->Heap->Prop}(hk:∀v h,K v h->K' v h)(H:fD P v args h K):fD P v args h K':=by
 unfold fD at*
 split at H
 ·exact qG hk H
 ·exact H.elim
theorem jd{P:Program}{e:Operand->Value}{op:Op}{ty:TypeId}{h:Heap}{K K':Value->Heap->Prop}(hk:∀v h,K v h->K' v h)(H:fm P e op ty h K):fm P e op ty h K':=by
 unfold fm at*
 split
 ·rename_i x hx;simp only[hx]at H;exact hk _ _ H
 ·rename_i hx;simp only[hx]at H
  split
  ·rename_i f args hc;simp only[hc]at H;exact kG hk H
  ·rename_i hc;simp only[hc]at H
   split
   ·rename_i s hs;simp only[hs]at H;obtain⟨v,a,b⟩:=H;exact⟨v,a,hk _ _ b⟩
   ·rename_i hs;simp only[hs]at H
    split
    ·rename_i s hr;simp only[hr]at H;obtain⟨v,a,b⟩:=H;exact⟨v,a,hk _ _ b⟩
    ·rename_i hr;simp only[hr]at H
     split
     ·rename_i s he;simp only[he]at H
      exact⟨fun w hw=>let⟨v,w',a,b,c⟩:=H.out w hw;⟨v,w',a,b,hk _ _ c⟩⟩
     ·rename_i he;simp only[he]at H
      split
      ·rename_i s hu;simp only[hu]at H
       exact⟨fun w hw=>let⟨w',a,b,c⟩:=H.out w hw;⟨w',a,b,hk _ _ c⟩⟩
      ·rename_i hu;simp only[hu]at H
def Next.MQ(P:Program)(w:World)(K:Value->Heap->Prop):Result Next->Prop
 | .ok (.value v) w'=>cO w w'/\K v w'.heap
 | .ok .skip w'=>cO w w'/\K undef w'.heap
 | .ok (.enter f args) w'=>w'=w/\MO P f args w K
 |_=>False
theorem mX{P:Program}{w:World}{K:Value->Heap->Prop}{s:Sem Value}{v:Value}{w':World}(h:s.run P w= .ok v w')(hs:cO w w')(hk:K v w'.heap):
 Next.MQ P w K ((do let x<-s;pure (Next.value x):Sem Next).run P w):=by
 have:((do let x<-s;pure (Next.value x):Sem Next).run P w)= .ok (.value v) w':=by
  show(s.bind fun x=>Sem.pure (Next.value x)).run P w=_
  rw[Sem.run_bind',h];rfl
 rw[this];exact⟨hs,hk⟩
theorem QZ{P:Program}{w:World}{K:Value->Heap->Prop}{s:Sem Unit}{w':World}(h:s.run P w= .ok () w')(hs:cO w w')(hk:K undef w'.heap):
 Next.MQ P w K ((do s;pure Next.skip:Sem Next).run P w):=by
 have:((do s;pure Next.skip:Sem Next).run P w)= .ok .skip w':=by
  show(s.bind fun _=>Sem.pure Next.skip).run P w=_
  rw[Sem.run_bind',h];rfl
 rw[this];exact⟨hs,hk⟩
theorem kH(a:Act)(xs:Array Operand):xs.map a.eval=(mW (ev a.tmps.toList) xs.toList).toArray:=by
 rw[QY]
 apply Array.ext'
 simp only[Array.toList_map]
 exact List.map_congr_left fun x _=>(eM a x).symm
theorem kv(a:Act)(xs:Array (Nat×Operand)):(xs.map fun(i,x)=>(i,a.eval x))=(xs.toList.map fun p=>(p.1,ev a.tmps.toList p.2)).toArray:=by
 apply Array.ext'
 simp only[Array.toList_map]
 exact List.map_congr_left fun x _=>by rw[eM]
theorem wc(a:Act)(x:Option Operand):x.map a.eval=x.map (ev a.tmps.toList):=by
 cases x<;>simp[eM]
theorem MS{P:Program}{w:World}{c a b v:Value}(h:(do pure (if<-asBool c then a else b):Sem Value).run P w= .ok v w):
 ((do pure (Next.value (if<-asBool c then a else b))):Sem Next).run P w= .ok (.value v) w:=by
 cases c<;>first|(simp[asBool,Sem.run,bind,pure,Sem.bind]at h⊢;exact h)|(simp[asBool,stuck,Sem.run,bind,pure,Sem.bind]at h)
theorem En{P:Program}{a:Act}{o:Oper}{w:World}{K:Value->Heap->Prop}(H:fm P (ev a.tmps.toList) o.op o.type w.heap K):
 Next.MQ P w K ((execOp a.eval o).run P w):=by
 obtain⟨dst,op,type,pos,after,guard⟩:=o
 simp only at H
 cases op<;>simp only[fm,gw,kF,jG,nY,El,Em]at H
 case move x=>simp only[execOp];rw[<-eM];exact⟨cO.refl w,H⟩
 case assign x=>simp only[execOp];rw[<-eM];exact⟨cO.refl w,H⟩
 case pick c x y=>
  obtain⟨v,hv,hk⟩:=H
  simp only[execOp,<-eM]
  rw[MS (hv w)]
  exact⟨cO.refl w,hk⟩
 case nilCheck x=>
  obtain⟨v,hv,hk⟩:=H
  simp only[execOp,<-eM]
  have hw:=hv w
  generalize ev a.tmps.toList x=u at*
  cases u<;>try (simp only[pure,Sem.run,Result.ok.injEq]at hw;obtain⟨rfl,_⟩:=hw;exact⟨cO.refl w,hk⟩)
  case pointer q=>
   cases q with
   |none=>
    exfalso
    have:∀(e:RuntimeError),(runtimePanic e:Sem Value).run P w≠ .ok v w:=by
     intro e he
     unfold runtimePanic at he
     cases e<;>simp[program,bind,Sem.bind,Sem.run,goPanic]at he
     all_goals (try (repeat (first|split at he|(simp[Sem.run_bind',Result.andThen]at he))))
    exact this _ hw
   |some q=>simp only[pure,Sem.run,Result.ok.injEq]at hw;obtain⟨rfl,_⟩:=hw;exact⟨cO.refl w,hk⟩
  case nilIface=>
   simp[runtimePanic,program,bind,Sem.bind,Sem.run,goPanic]at hw
  case nilFunc=>
   simp[runtimePanic,program,bind,Sem.bind,Sem.run,goPanic]at hw
  case func fn first cap=>
   cases fn<;>first|(simp only[pure,Sem.run,Result.ok.injEq]at hw;obtain⟨rfl,_⟩:=hw;exact⟨cO.refl w,hk⟩)|(simp[stuck,Sem.run]at hw)
 case call c=>
  obtain⟨callee,args,argTypes⟩:=c
  cases callee with
  |value f=>
   simp only at H
   simp only[execOp,resolve,<-eM,kH]
   unfold fD at H
   split at H
   ·rename_i g first cap hf
    simp only[hf]
    have e1:(do let d<-Deferred.ofValue (Value.func (.func g) first cap) (mW (ev a.tmps.toList) args.toList).toArray;invoke d.target d.args:Sem Next)=callFunc g ((first++(mW (ev a.tmps.toList) args.toList).toArray)++cap):=rfl
    rw[e1]
    have e2:(first++(mW (ev a.tmps.toList) args.toList).toArray)++cap=(first.toList++mW (ev a.tmps.toList) args.toList++cap.toList).toArray:=by
     apply Array.ext';simp
    rw[e2]
    rcases H.out w rfl with⟨v,w',h1,h2,h3⟩|⟨f',Ar,w',h1,h2,h3⟩
    ·rw[h1];exact⟨h2,h3⟩
    ·rw[h1];exact⟨h2,h3⟩
   ·exact H.elim
  |invoke r m=>simp only at H
  |builtin b=>
   cases b<;>simp only at H<;>
    first
     |exact H.elim
     |(obtain⟨v,hv,hk⟩:=H;simp only[execOp,resolve,kH];exact mX (hv w) (cO.refl w) hk)
     |(obtain⟨v,w',h1,h2,h3⟩:=H.out w rfl;simp only[execOp,resolve,kH];exact mX h1 h2 h3)
 case build t parts=>
  obtain⟨v,hv,hk⟩:=H
  simp only[execOp]
  rw[kv]
  exact mX (hv w) (cO.refl w) hk
 case buildSlice t len parts=>
  obtain⟨v,w',h1,h2,h3⟩:=H.out w rfl
  simp only[execOp]
  rw[kv]
  exact mX h1 h2 h3
 all_goals
  first
   |exact H.elim
   |(obtain⟨v,hv,hk⟩:=H;simp only[execOp,<-eM,kH,kv,wc];exact mX (hv w) (cO.refl w) hk)
   |(obtain⟨v,hv,hk⟩:=H;simp only[execOp,<-eM,kH,kv,wc];exact mX (hv w rfl) (cO.refl w) hk)
   |(obtain⟨v,w',h1,h2,h3⟩:=H.out w rfl;simp only[execOp,<-eM,kH,kv,wc];exact mX h1 h2 h3)
   |(obtain⟨w',h1,h2,h3⟩:=H.out w rfl;simp only[execOp,<-eM,kH,kv,wc];exact QZ h1 h2 h3)
def gI:List Oper->Nat->Option Oper
 |[],_=>none
 |o::_,0=>some o
 |_::os,n+1=>gI os n
def wO(ops:List Oper)(j:Nat):Option Tmp:=
 match gI ops j with
 |some o=>o.dst
 |none=>none
def qH(ops:List Oper)(e:Env)(j:Nat):Value:=
 match wO ops j with
 |some t=>eQ e t
 |none=>undef
def K7(v:Value)(want:Bool):Value:=match v with
 | .bool b=> .bool b
 |_=> .bool (!want)
theorem Vs{v:Value}{want b:Bool}(h:K7 v want= .bool b)(hv:∀c,v≠ .bool c):b≠want:=by
 unfold K7 at h
 cases v<;>first
  |exact absurd rfl (hv _)
  |(simp only[Value.bool.injEq]at h;subst h;cases want<;>decide)
def jH(P:Program)(ops:List Oper)(e:Env)(h:Heap)(o:Oper)(k:Value->Heap->Prop):Prop:=
 match o.guard with
 |none=>fm P (ev e) o.op o.type h k
 |some (j,want)=>Hk (K7 (qH ops e j) want) want (fm P (ev e) o.op o.type h) h k
def wpIn(P:Program)(ops:List Oper):List Oper->Env->Heap->(Env->Heap->Prop)->Prop
 |[],e,h,K=>K e h
 |o::os,e,h,K=>jH P ops e h o fun v h'=>wpIn P ops os (put e o.dst v) h' K
theorem pG(ops:Array Oper)(i:Nat):gI ops.toList i=ops[i]?:=by
 have key:∀(l:List Oper)(i:Nat),gI l i=l[i]?:=by
  intro l
  induction l with
  |nil=>intro i;simp[gI]
  |cons x xs ih=>intro i;cases i<;>simp[gI,ih]
 rw[key];simp
theorem K8{ops:Array Oper}{a:Act}{j:Nat}{b:Bool}(h:qH ops.toList a.tmps.toList j= .bool b):yielded ops a.tmps j=some b:=by
 unfold qH wO at h
 rw[pG]at h
 unfold yielded
 cases ho:ops[j]? with
 |none=>rw[ho]at h;simp[undef]at h
 |some o=>
  rw[ho]at h
  simp only at h
  cases hd:o.dst with
  |none=>rw[hd]at h;simp[undef]at h
  |some t=>
   rw[hd]at h
   simp only[jF]at h
   simp only[Option.bind_some,hd]
   cases ht:a.tmps[t]? with
   |none=>simp[Array.getD_eq_getD_getElem?,ht,undef]at h
   |some v=>simp[Array.getD_eq_getD_getElem?,ht]at h;rw[h]
theorem K9{ops:Array Oper}{a:Act}{j:Nat}(h:∀b,qH ops.toList a.tmps.toList j≠ .bool b):yielded ops a.tmps j=none:=by
 unfold qH wO at h
 rw[pG]at h
 unfold yielded
 cases ho:ops[j]? with
 |none=>simp
 |some o=>
  rw[ho]at h
  simp only at h
  cases hd:o.dst with
  |none=>simp[hd]
  |some t=>
   rw[hd]at h
   simp only[jF]at h
   simp only[Option.bind_some,hd]
   cases ht:a.tmps[t]? with
   |none=>rfl
   |some v=>
    cases v with
    |bool b=>exact absurd (by simp[Array.getD_eq_getD_getElem?,ht]) (h b)
    |_=>rfl
theorem qw{P:Program}{ops:Array Oper}{Q:Exit->Act->World->Prop}{i:Nat}{o:Oper}{a:Act}{w:World}{K:Act->World->Prop}(ho:ops[i]?=some o)
 (H:jH P ops.toList a.tmps.toList w.heap o fun v h'=>∀w',cO w w'->w'.heap=h'->K (a.put o.dst v) w'):wpOp P ops Q i K a w:=by
 have key:(fm P (ev a.tmps.toList) o.op o.type w.heap fun v h'=>∀w',cO w w'->w'.heap=h'->K (a.put o.dst v) w')->o.wp P a w K Q:=by
  intro hx
  have hg:=En hx
  unfold Oper.wp
  generalize (execOp a.eval o).run P w=r at*
  cases r with
  |halt x w'=>exact hg.elim
  |ok n w'=>
   cases n<;>first
    |exact hg.elim
    |exact hg.2 _ hg.1 rfl
    |(obtain⟨rfl,hc⟩:=hg
      exact hc.mono fun e w'' ⟨v,he,hs,hk⟩=>by subst he;exact hk _ hs rfl)
 unfold wpOp
 simp only[ho]
 unfold jH at H
 cases hgd:o.guard with
 |none=>
  simp only[hgd]at H
  simp only[Region.wanted,hgd,if_true]
  exact .inl (key H)
 |some p=>
  obtain⟨j,want⟩:=p
  simp only[hgd]at H
  obtain⟨b,hb,h1,h2⟩:=H
  by_cases hv:∃c,qH ops.toList a.tmps.toList j= .bool c
  ·obtain⟨c,hc⟩:=hv
   have hbc:c=b:=by
    rw[hc]at hb
    simpa[K7]using hb
   subst hbc
   have hy:=K8 hc
   simp only[Region.wanted,hgd,hy]
   by_cases Hl:c=want
   ·subst Hl
    simp only[beq_self_eq_true,if_true]
    exact .inl (key (h1 rfl))
   ·have:(some c==some want)=false:=by simpa using Hl
    simp only[this,Bool.false_eq_true,if_false]
    exact h2 Hl w (cO.refl w) rfl
  ·have eA:=Vs hb fun c hc=>hv ⟨c,hc⟩
   have hy:=K9 fun c hc=>hv ⟨c,hc⟩
   simp only[Region.wanted,hgd,hy]
   have:((none:Option Bool)==some want)=false:=rfl
   simp only[this,Bool.false_eq_true,if_false]
   exact h2 eA w (cO.refl w) rfl
theorem ig{P:Program}{ops:List Oper}{e:Env}{h:Heap}{o:Oper}{k k':Value->Heap->Prop}(hk:∀v h,k v h->k' v h)(H:jH P ops e h o k):jH P ops e h o k':=by
 unfold jH at*
 cases hg:o.guard with
 |none=>simp only[hg]at H⊢;exact jd hk H
 |some p=>
  obtain⟨j,want⟩:=p
  simp only[hg]at H⊢
  obtain⟨b,hb,h1,h2⟩:=H
  exact⟨b,hb,fun e=>jd hk (h1 e),fun e=>hk _ _ (h2 e)⟩
def lB:List Bool->Nat->Bool->Bool
 |[],_,d=>d
 |b::_,0,_=>b
 |_::bs,n+1,d=>lB bs n d
def iB:List Bool->Nat->List Bool
 |[],_=>[]
 |_::bs,0=>true::bs
 |b::bs,n+1=>b::iB bs n
def ga(l:List Bool)(o:Oper)(i:Nat):Bool:=
 !lB l i true&&o.after.toList.all fun e=> !Region.binds .any e||lB l e.on false
def bA:List Oper->Nat->List Bool->List (Nat×Oper)
 |[],_,_=>[]
 |o::os,i,l=>match ga l o i with
  |true=>(i,o)::bA os (i+1) l
  |false=>bA os (i+1) l
def fo:Operand->Value:=fun _=>undef
def vg(op:Op):Bool:=(gw op).isSome||((kF op).isNone&&(jG fo 0 op).isSome)
def zP(op:Op):Bool:=(gw op).isNone&&((kF op).isNone&&((jG fo 0 op).isNone&&(nY fo op).isSome))
def cV:List (Nat×Oper)->Option (Nat×Oper)
 |[]=>none
 |(i,o)::r=>match vg o.op||zP o.op with
  |true=>some (i,o)
  |false=>cV r
def jA(o:Oper)(i:Nat):Bool:=o.after.toList.any fun e=>Region.binds .any e&&Nat.beq e.on i
def looks(ops:List Oper)(o:Oper):List Tmp:=
 (o.op.operands.toList.filterMap fun| .tmp t=>some t|_=>none)++
 (match o.guard with
  |some (g,_)=>(wO ops g).toList
  |none=>[])
def eN:List Nat->Nat->Bool
 |[],_=>false
 |x::xs,n=>Nat.beq x n||eN xs n
def wQ(ops:List Oper)(x y:Oper):Bool:=
 (match x.dst with
  |some d=> ! eN (looks ops y) d&&(match y.dst with|some d'=> !Nat.beq d d'|none=>true)
  |none=>true)&&
 (match y.dst with
  |some d=> ! eN (looks ops x) d
  |none=>true)
def pH(ops:List Oper)(x:Oper)(i:Nat):List Oper->Bool
 |[]=>true
 |y::ys=>(wQ ops x y||jA y i)&&pH ops x i ys
def fq(ops:List Oper):List Oper->Nat->Bool
 |[],_=>true
 |x::xs,i=>pH ops x i xs&&fq ops xs (i+1)
abbrev ke:=List (Nat×(Heap->Prop))
def Yx(P:Program)(e:Operand->Value)(op:Op)(ty:TypeId)(g:Heap)(v:Value):Prop:=
 match gw op with
 |some x=>v=e x
 |none=>match jG e ty op with
  |some s=>∀w,s.run P w= .ok v w
  |none=>match nY e op with
   |some s=>∀w:World,w.heap=g->s.run P w= .ok v w
   |none=>False
def Yv(P:Program)(ops:List Oper)(e:Env)(g:Heap)(o:Oper)(v:Value):Prop:=
 match o.guard with
 |none=>Yx P (ev e) o.op o.type g v
 |some (j,want)=>∃b:Bool,K7 (qH ops e j) want= .bool b/\(b=want->Yx P (ev e) o.op o.type g v)/\(b≠want->v=undef)
def mY:List Edge->List Nat
 |[]=>[]
 |e::es=>match Region.binds .any e with
  |true=>e.on::mY es
  |false=>mY es
def Vt:List Nat->List Nat->List Nat
 |[],b=>b
 |x::a,b=>x::Vt a b
def anc(ops:List Oper):Nat->List Nat->List Nat->List Nat
 |0,_,seen=>seen
 |_+1,[],seen=>seen
 |n+1,i::todo,seen=>match eN seen i with
  |true=>anc ops n todo seen
  |false=>match gI ops i with
   |some o=>anc ops n (Vt (mY o.after.toList) todo) (i::seen)
   |none=>anc ops n todo (i::seen)
def vh(ops:List Oper)(o:Oper):List Nat:=anc ops 2000 (mY o.after.toList) []
def qx(bf:List Nat):ke->ke
 |[]=>[]
 |(i,p)::S=>match eN bf i with
  |true=>qx bf S
  |false=>(i,p)::qx bf S
def lq(ops:List Oper)(o:Oper)(S:ke):ke:=qx (vh ops o) S
def MT(h:Heap)(K:Prop):ke->Prop
 |[]=>K
 |(_,p)::S=>p h/\MT h K S
def Hm(f:Nat->Oper->Prop):List (Nat×Oper)->Prop
 |[]=>True
 |[(i,o)]=>f i o
 |(i,o)::r=>f i o/\Hm f r
def lL(P:Program)(ops:List Oper)(K:Env->Heap->Prop):Nat->List Bool->Env->Heap->ke->Prop
 |0,l,e,h,_=>match bA ops 0 l with
  |[]=>K e h
  |_::_=>False
 |n+1,l,e,h,S=>match cV (bA ops 0 l)with
  |some (i,o)=>match vg o.op with
   |true=>jH P ops e h o fun v h'=>lL P ops K n (iB l i) (put e o.dst v) h' S
   |false=>jH P ops e h o fun v h'=>lL P ops K n (iB l i) (put e o.dst v) h' ((i,fun g=>Yv P ops e g o v)::S)
  |none=>match bA ops 0 l with
   |[]=>K e h
   |r::rs=>Hm (fun i o=>jH P ops e h o fun v h'=>MT h' (lL P ops K n (iB l i) (put e o.dst v) h' (lq ops o S)) (lq ops o S)) (r::rs)
def zT(P:Program)(ops:List Oper)(K:Env->Heap->Prop):Nat->List Bool->Env->Heap->ke->Prop
 |0,l,e,h,_=>bA ops 0 l=[]/\K e h
 |n+1,l,e,h,S=>(bA ops 0 l=[]->K e h)/\∀i o,(i,o)∈bA ops 0 l->jH P ops e h o fun v h'=>
  ((vg o.op||zP o.op)=true->zT P ops K n (iB l i) (put e o.dst v) h' S)/\
  ((vg o.op||zP o.op)=false->(∀s,s∈lq ops o S->s.2 h')/\zT P ops K n (iB l i) (put e o.dst v) h' (lq ops o S))
theorem qI:∀(l:List Bool)(i j:Nat)(d:Bool),i≠j->lB (iB l i) j d=lB l j d
 |[],_,_,_,_=>rfl
 |_::_,0,0,_,h=>absurd rfl h
 |_::_,0,_+1,_,_=>rfl
 |_::_,_+1,0,_,_=>rfl
 |_::bs,n+1,m+1,d,h=>by simp only[iB,lB];exact qI bs n m d (by omega)
theorem mZ:∀(l:List Bool)(i j:Nat),lB l j false=true->lB (iB l i) j false=true
 |[],_,_,h=>h
 |_::_,0,0,_=>rfl
 |_::_,0,_+1,h=>h
 |_::_,_+1,0,h=>h
 |_::bs,n+1,m+1,h=>by simp only[iB,lB]at*;exact mZ bs n m h
theorem tD:∀(l:List Bool)(i j:Nat),iB (iB l i) j=iB (iB l j) i
 |[],_,_=>rfl
 |_::_,0,0=>rfl
 |_::_,0,_+1=>rfl
 |_::_,_+1,0=>rfl
 |_::bs,n+1,m+1=>by simp only[iB];rw[tD bs n m]
theorem lM:∀(l:List Bool)(i:Nat),lB l i true=false->lB l i false=false
 |[],_,h=>by simp[lB]at h
 |_::_,0,h=>h
 |_::bs,n+1,h=>lM bs n h
theorem nN:∀(ops:List Oper)(k:Nat)(l:List Bool)(i:Nat)(o:Oper),(i,o)∈bA ops k l↔∃j,i=k+j/\gI ops j=some o/\ga l o i=true
 |[],_,_,_,_=>by simp[bA,gI]
 |x::xs,k,l,i,o=>by
  have ih:=nN xs (k+1) l i o
  have hh:(∃j,i=k+j/\gI (x::xs) j=some o/\ga l o i=true)↔((i=k/\x=o/\ga l o i=true)\/(∃j,i=k+1+j/\gI xs j=some o/\ga l o i=true)):=by
   constructor
   ·rintro⟨j,hj,ho,hr⟩
    cases j with
    |zero=>simp only[gI,Option.some.injEq]at ho;exact .inl ⟨by omega,ho,hr⟩
    |succ j=>exact .inr ⟨j,by omega,ho,hr⟩
   ·rintro(⟨h1,h2,h3⟩|⟨j,hj,ho,hr⟩)
    ·exact⟨0,by omega,by simp[gI,h2],h3⟩
    ·exact⟨j+1,by omega,ho,hr⟩
  rw[hh,<-ih]
  have hu:bA (x::xs) k l=match ga l x k with
   |true=>(k,x)::bA xs (k+1) l
   |false=>bA xs (k+1) l:=rfl
  rw[hu]
  cases hr:ga l x k with
  |true=>
   simp only[List.mem_cons,Prod.mk.injEq]
   constructor
   ·rintro(⟨rfl,rfl⟩|h)
    ·exact .inl ⟨rfl,rfl,hr⟩
    ·exact .inr h
   ·rintro(⟨rfl,rfl,_⟩|h)
    ·exact .inl ⟨rfl,rfl⟩
    ·exact .inr h
  |false=>
   constructor
   ·exact .inr
   ·rintro(⟨rfl,rfl,h3⟩|h)
    ·rw[hr]at h3;cases h3
    ·exact h
theorem cH{ops:List Oper}{l:List Bool}{i:Nat}{o:Oper}:(i,o)∈bA ops 0 l↔gI ops i=some o/\ga l o i=true:=by
 rw[nN]
 constructor
 ·rintro⟨j,h1,h2,h3⟩;obtain rfl:i=j:=by omega
  exact⟨h2,h3⟩
 ·rintro⟨h2,h3⟩;exact⟨i,by omega,h2,h3⟩
theorem ij{l:List Bool}{o:Oper}{i:Nat}:ga l o i=true↔lB l i true=false/\∀e,e∈o.after->Region.binds .any e=true->lB l e.on false=true:=by
 unfold ga
 simp only[Bool.and_eq_true,Bool.not_eq_true',List.all_eq_true,Bool.or_eq_true,Array.mem_toList_iff]
 constructor
 ·rintro⟨h1,h2⟩
  refine⟨h1,fun e he hb=> ?_⟩
  rcases h2 e he with h|h
  ·rw[hb]at h;cases h
  ·exact h
 ·rintro⟨h1,h2⟩
  refine⟨h1,fun e he=> ?_⟩
  cases hb:Region.binds .any e with
  |false=>exact .inl rfl
  |true=>exact .inr (h2 e he hb)
theorem oq{l:List Bool}{o:Oper}{i j:Nat}(h:ga l o j=true)(eA:j≠i):ga (iB l i) o j=true:=by
 rw[ij]at*
 exact⟨by rw[qI _ _ _ _ (Ne.symm eA)];exact h.1,fun e he hb=>mZ _ _ _ (h.2 e he hb)⟩
theorem JB{l:List Bool}{o:Oper}{i j:Nat}(h:ga l o j=true)(hi:lB l i true=false):jA o i=false:=by
 rw[ij]at h
 cases hh:jA o i with
 |false=>rfl
 |true=>
  unfold jA at hh
  rw[List.any_eq_true]at hh
  obtain⟨e,he,h2⟩:=hh
  simp only[Bool.and_eq_true]at h2
  have hon:e.on=i:=Nat.eq_of_beq_eq_true h2.2
  have:=h.2 e (by simpa using he) h2.1
  rw[hon,lM _ _ hi]at this
  cases this
theorem lr(e e':Operand->Value)(ty ty':TypeId)(op:Op):(jG e ty op).isSome=(jG e' ty' op).isSome:=by
 cases op<;>try rfl
 case call c=>
  obtain⟨callee,args,argTypes⟩:=c
  cases callee<;>try rfl
  case builtin b=>cases b<;>rfl
theorem Eo(e e':Operand->Value)(op:Op):(nY e op).isSome=(nY e' op).isSome:=by cases op<;>rfl
theorem gy{P:Program}{e:Operand->Value}{op:Op}{ty:TypeId}{h:Heap}{k:Value->Heap->Prop}(hq:(vg op||zP op)=true):fm P e op ty h k↔∃v,Yx P e op ty h v/\k v h:=by
 unfold fm Yx
 cases hm:gw op with
 |some x=>simp
 |none=>
  simp only[vg,zP,hm]at hq
  cases hc:kF op with
  |some c=>simp[hc]at hq
  |none=>
   simp only[hc]at hq
   cases hp:jG e ty op with
   |some s=>exact⟨fun h=>h.out,fun h=>⟨h⟩⟩
   |none=>
    have h0:(jG fo 0 op).isSome=false:=by rw[lr fo e 0 ty,hp];rfl
    cases hr:nY e op with
    |some s=>exact⟨fun h=>h.out,fun h=>⟨h⟩⟩
    |none=>
     have h1:(nY fo op).isSome=false:=by rw[Eo fo e,hr];rfl
     have h0':jG fo 0 op=none:=by simpa using h0
     have QK:nY fo op=none:=by simpa using h1
     simp[h0',QK]at hq
theorem jI{P:Program}{ops:List Oper}{e:Env}{h:Heap}{o:Oper}{k:Value->Heap->Prop}(hq:(vg o.op||zP o.op)=true):jH P ops e h o k↔∃v,Yv P ops e h o v/\k v h:=by
 unfold jH Yv
 cases hg:o.guard with
 |none=>exact gy hq
 |some p=>
  obtain⟨j,want⟩:=p
  constructor
  ·rintro⟨b,hb,h1,h2⟩
   by_cases Hl:b=want
   ·obtain⟨v,hv,hk⟩:=(gy hq).1 (h1 Hl)
    exact⟨v,⟨b,hb,fun _=>hv,fun h=>absurd Hl h⟩,hk⟩
   ·exact⟨undef,⟨b,hb,fun h=>absurd h Hl,fun _=>rfl⟩,h2 Hl⟩
  ·rintro⟨v,⟨b,hb,h1,h2⟩,hk⟩
   exact⟨b,hb,fun he=>(gy hq).2 ⟨v,h1 he,hk⟩,fun he=>by rw[<-h2 he];exact hk⟩
theorem JC{P:Program}{e:Operand->Value}{op:Op}{ty:TypeId}{h:Heap}{v:Value}(hq:vg op=true)(H:Yx P e op ty h v)(g:Heap):Yx P e op ty g v:=by
 unfold Yx at*
 cases hm:gw op with
 |some x=>simpa[hm]using H
 |none=>
  simp only[hm]at H⊢
  cases hp:jG e ty op with
  |some s=>simpa[hp]using H
  |none=>
   have h0:(jG fo 0 op).isSome=false:=by rw[lr fo e 0 ty,hp];rfl
   simp[vg,hm,h0]at hq
theorem Q0{P:Program}{ops:List Oper}{e:Env}{h:Heap}{o:Oper}{v:Value}(hq:vg o.op=true)(H:Yv P ops e h o v)(g:Heap):Yv P ops e g o v:=by
 unfold Yv at*
 cases hg:o.guard with
 |none=>simp only[hg]at H⊢;exact JC hq H g
 |some p=>
  obtain⟨j,want⟩:=p
  simp only[hg]at H⊢
  obtain⟨b,hb,h1,h2⟩:=H
  exact⟨b,hb,fun e=>JC hq (h1 e) g,h2⟩
theorem je{e e':Operand->Value}:∀(l:List Operand),(∀x,x∈l->e x=e' x)->mW e l=mW e' l
 |[],_=>rfl
 |x::xs,h=>by simp only[mW];rw[h x (by simp),je xs fun y hy=>h y (by simp[hy])]
theorem vi{e e':Operand->Value}(ps:Array (Nat×Operand))(h:∀x,x∈(ps.toList.map (·.2))->e x=e' x):(ps.toList.map fun p=>(p.1,e p.2))=(ps.toList.map fun p=>(p.1,e' p.2)):=
 List.map_congr_left fun p hp=>by rw[h p.2 (List.mem_map.2 ⟨p,hp,rfl⟩)]
theorem pI{e e':Operand->Value}(x:Option Operand)(h:∀y,y∈x.toArray->e y=e' y):x.map e=x.map e':=by
 cases x with
 |none=>rfl
 |some y=>simp[h y (by simp)]
theorem qJ{e e':Operand->Value}{ty:TypeId}{op:Op}(h:∀x,x∈op.operands->e x=e' x):jG e ty op=jG e' ty op:=by
 cases op<;>simp only[Op.operands]at h<;>simp only[jG]
 case pick c a b=>rw[h c (by simp),h a (by simp),h b (by simp)]
 case nilCheck x=>rw[h x (by simp)]
 case binOp op t x y u=>rw[h x (by simp),h y (by simp)]
 case unOp op t x=>rw[h x (by simp)]
 case makeInterface t x=>rw[h x (by simp)]
 case makeFunc fn first cap=>rw[je first.toList fun x hx=>h x (by simp at hx;simp[hx]),je cap.toList fun x hx=>h x (by simp at hx;simp[hx])]
 case slice t x lo hi mx=>rw[h x (by simp),pI lo fun y hy=>h y (by simp[hy]),pI hi fun y hy=>h y (by simp[hy]),pI mx fun y hy=>h y (by simp[hy])]
 case fieldAddr s x f=>rw[h x (by simp)]
 case field t x f=>rw[h x (by simp)]
 case indexAddr t x ix=>rw[h x (by simp),h ix (by simp)]
 case index t x ix=>rw[h x (by simp),h ix (by simp)]
 case extract t ix=>rw[h t (by simp)]
 case build t parts=>rw[vi parts fun x hx=>h x (by simpa using hx)]
 case call c=>
  have:mW e c.args.toList=mW e' c.args.toList:=je _ fun x hx=>h x (by simp at hx;simp[Call.operands,hx])
  rw[this]
theorem na{e e':Operand->Value}{op:Op}(h:∀x,x∈op.operands->e x=e' x):nY e op=nY e' op:=by
 cases op<;>simp only[Op.operands]at h<;>simp only[nY]
 case load t x=>rw[h x (by simp)]
 case convert s d x=>rw[h x (by simp)]
 case lookup t x ix ok=>rw[h x (by simp),h ix (by simp)]
 case typeAssert x a b c=>rw[h x (by simp)]
theorem wR{e e':Operand->Value}{ty:TypeId}{op:Op}(h:∀x,x∈op.operands->e x=e' x):El e ty op=El e' ty op:=by
 cases op<;>simp only[Op.operands]at h<;>simp only[El]
 case box t x=>rw[h x (by simp)]
 case buildSlice t n parts=>rw[vi parts fun x hx=>h x (by simpa using hx)]
 case makeMap t r=>rw[pI r h]
 case makeSlice t l c=>rw[h l (by simp),h c (by simp)]
 case range t x=>rw[h x (by simp)]
 case next it b=>rw[h it (by simp)]
 case entry it=>rw[h it (by simp)]
 case call c=>
  have:mW e c.args.toList=mW e' c.args.toList:=je _ fun x hx=>h x (by simp at hx;simp[Call.operands,hx])
  rw[this]
theorem wS{e e':Operand->Value}{op:Op}(h:∀x,x∈op.operands->e x=e' x):Em e op=Em e' op:=by
 cases op<;>simp only[Op.operands]at h<;>simp only[Em]
 case store t a x=>rw[h a (by simp),h x (by simp)]
 case mapUpdate t m k x=>rw[h m (by simp),h k (by simp),h x (by simp)]
 case insert t m k x=>rw[h m (by simp),h k (by simp),h x (by simp)]
theorem wT{op:Op}{x:Operand}(h:gw op=some x):x∈op.operands:=by
 cases op<;>simp[gw]at h<;>simp[Op.operands,h]
theorem Hn{op:Op}{f:Operand}{args:Array Operand}(h:kF op=some (f,args)):f∈op.operands/\∀x,x∈args->x∈op.operands:=by
 cases op<;>simp[kF]at h
 case call c=>
  obtain⟨callee,as,ts⟩:=c
  cases callee<;>simp at h
  obtain⟨rfl,rfl⟩:=h
  exact⟨by simp[Op.operands,Call.operands],fun x hx=>by simp[Op.operands,Call.operands,hx]⟩
theorem vj{P:Program}{e e':Operand->Value}{op:Op}{ty:TypeId}{h:Heap}{k:Value->Heap->Prop}(H:∀x,x∈op.operands->e x=e' x):fm P e op ty h k=fm P e' op ty h k:=by
 unfold fm
 cases hm:gw op with
 |some x=>simp only[H x (wT hm)]
 |none=>
  cases hc:kF op with
  |some p=>
   obtain⟨f,args⟩:=p
   obtain⟨h1,h2⟩:=Hn hc
   simp only[H f h1,je args.toList fun x hx=>H x (h2 x (by simpa using hx))]
  |none=>simp only[qJ (ty:=ty) H,na H,wR (ty:=ty) H,wS H]
theorem Ep{P:Program}{e e':Operand->Value}{op:Op}{ty:TypeId}{g:Heap}{v:Value}(H:∀x,x∈op.operands->e x=e' x):Yx P e op ty g v=Yx P e' op ty g v:=by
 unfold Yx
 cases hm:gw op with
 |some x=>simp only[H x (wT hm)]
 |none=>simp only[qJ (ty:=ty) H,na H]
theorem rJ:∀(l:List Nat)(n:Nat),eN l n=false->n∉l
 |[],_,_=>by simp
 |x::xs,n,h=>by
  simp only[eN,Bool.or_eq_false_iff]at h
  have h1:x≠n:=fun e=>by subst e;simp at h
  simp only[List.mem_cons,not_or]
  exact⟨fun e=>h1 e.symm,rJ xs n h.2⟩
def ou(ops:List Oper)(dst:Option Tmp)(o:Oper):Prop:=∀d,dst=some d->d∉looks ops o
theorem Vu{e:Env}{dst:Option Tmp}{u:Value}{x:Operand}(h:∀d,dst=some d->x≠ .tmp d):ev (put e dst u) x=ev e x:=by
 cases dst with
 |none=>rfl
 |some d=>
  cases x with
  |tmp t=>simp only[put,ev];exact fc _ _ _ _ fun he=>h d rfl (by rw[he])
  |_=>rfl
theorem pJ{ops:List Oper}{o:Oper}{dst:Option Tmp}{e:Env}{u:Value}(h:ou ops dst o):∀x,x∈o.op.operands->ev (put e dst u) x=ev e x:=by
 intro x hx
 refine Vu fun d hd Er=>h d hd ?_
 subst Er
 unfold looks
 exact List.mem_append_left _ (List.mem_filterMap.2 ⟨.tmp d,by simpa using hx,rfl⟩)
theorem vk{ops:List Oper}{o:Oper}{dst:Option Tmp}{e:Env}{u:Value}(h:ou ops dst o){j:Nat}{want:Bool}(hg:o.guard=some (j,want)):qH ops (put e dst u) j=qH ops e j:=by
 unfold qH
 cases ht:wO ops j with
 |none=>rfl
 |some t=>
  cases dst with
  |none=>rfl
  |some d=>
   simp only[put]
   refine fc _ _ _ _ fun he=>h d rfl ?_
   unfold looks
   rw[hg]
   simp[ht,he]
theorem La{P:Program}{ops:List Oper}{e:Env}{h:Heap}{o:Oper}{k:Value->Heap->Prop}{dst:Option Tmp}{u:Value}(hu:ou ops dst o):jH P ops (put e dst u) h o k=jH P ops e h o k:=by
 unfold jH
 cases hg:o.guard with
 |none=>exact vj (pJ hu)
 |some p=>
  obtain⟨j,want⟩:=p
  have h2:fm P (ev (put e dst u)) o.op o.type h=fm P (ev e) o.op o.type h:=funext fun _=>vj (pJ hu)
  simp only[vk hu hg,h2]
theorem BT{P:Program}{ops:List Oper}{e:Env}{g:Heap}{o:Oper}{v:Value}{dst:Option Tmp}{u:Value}(hu:ou ops dst o):Yv P ops (put e dst u) g o v=Yv P ops e g o v:=by
 unfold Yv
 cases hg:o.guard with
 |none=>exact Ep (pJ hu)
 |some p=>
  obtain⟨j,want⟩:=p
  simp only[vk hu hg,Ep (pJ hu)]
theorem put_comm{e:Env}{x y:Option Tmp}{u v:Value}(h:∀d,x=some d->y≠some d):put (put e x u) y v=put (put e y v) x u:=by
 cases x with
 |none=>rfl
 |some d=>
  cases y with
  |none=>rfl
  |some d'=>
   have eA:d≠d':=fun he=>h d rfl (by rw[he])
   simp only[put,Ap]
   exact List.set_comm _ _ eA
theorem apart_spec{ops:List Oper}{x y:Oper}(h:wQ ops x y=true):ou ops x.dst y/\(∀d,x.dst=some d->y.dst≠some d)/\ou ops y.dst x:=by
 unfold wQ at h
 simp only[Bool.and_eq_true]at h
 obtain⟨h1,h2⟩:=h
 refine⟨fun d hd=> ?_,fun d hd hy=> ?_,fun d hd=> ?_⟩
 ·rw[hd]at h1
  simp only[Bool.and_eq_true,Bool.not_eq_true']at h1
  exact rJ _ _ h1.1
 ·rw[hd,hy]at h1
  simp at h1
 ·rw[hd]at h2
  simp only[Bool.not_eq_true']at h2
  exact rJ _ _ h2
theorem ov{ops:List Oper}{x:Oper}{i:Nat}:∀(l:List Oper),pH ops x i l=true->∀j y,gI l j=some y->wQ ops x y=true\/jA y i=true
 |[],_,j,y,hy=>by simp[gI]at hy
 |z::zs,h,j,y,hy=>by
  simp only[pH,Bool.and_eq_true,Bool.or_eq_true]at h
  cases j with
  |zero=>simp only[gI,Option.some.injEq]at hy;subst hy;exact h.1
  |succ j=>exact ov zs h.2 j y hy
theorem kI{ops:List Oper}:∀(l:List Oper)(k:Nat),fq ops l k=true->∀i j x y,i<j->gI l i=some x->gI l j=some y->wQ ops x y=true\/jA y (k+i)=true
 |[],_,_,i,j,x,y,_,hx,_=>by simp[gI]at hx
 |z::zs,k,h,i,j,x,y,UL,hx,hy=>by
  simp only[fq,Bool.and_eq_true]at h
  cases j with
  |zero=>omega
  |succ j=>
   cases i with
   |zero=>
    simp only[gI,Option.some.injEq]at hx
    subst hx
    exact ov zs h.1 j y hy
   |succ i=>
    have:=kI zs (k+1) h.2 i j x y (by omega) hx hy
    rw[show k+(i+1)=k+1+i by omega]
    exact this
theorem MU{ops:List Oper}(hp:fq ops ops 0=true){i j:Nat}{x y:Oper}(hx:gI ops i=some x)(hy:gI ops j=some y)(eA:j≠i)(h1:jA y i=false)(h2:jA x j=false):
 ou ops x.dst y/\(∀d,x.dst=some d->y.dst≠some d)/\ou ops y.dst x:=by
 rcases Nat.lt_or_gt_of_ne eA with h|h
 ·rcases kI ops 0 hp j i y x h hy hx with h3|h3
  ·obtain⟨a,b,c⟩:=apart_spec h3
   exact⟨c,fun d hd QL=>b d QL hd,a⟩
  ·rw[Nat.zero_add,h2]at h3;cases h3
 ·rcases kI ops 0 hp i j x y h hx hy with h3|h3
  ·exact apart_spec h3
  ·rw[Nat.zero_add,h1]at h3;cases h3
theorem At{bf:List Nat}{s:Nat×(Heap->Prop)}:∀{S:ke},s∈qx bf S↔s∈S/\eN bf s.1=false
 |[]=>by simp[qx]
 |(i,p)::S=>by
  have ih:=At (bf:=bf) (s:=s) (S:=S)
  unfold qx
  cases h:eN bf i with
  |true=>
   simp only[ih,List.mem_cons]
   constructor
   ·rintro⟨a,b⟩;exact⟨.inr a,b⟩
   ·rintro⟨a|a,b⟩
    ·subst a;rw[h]at b;cases b
    ·exact⟨a,b⟩
  |false=>
   simp only[List.mem_cons,ih]
   constructor
   ·rintro(a|⟨a,b⟩)
    ·subst a;exact⟨.inl rfl,h⟩
    ·exact⟨.inr a,b⟩
   ·rintro⟨a|a,b⟩
    ·exact .inl a
    ·exact .inr ⟨a,b⟩
theorem Lb{ops:List Oper}{o:Oper}{s:Nat×(Heap->Prop)}{S:ke}:s∈lq ops o S↔s∈S/\eN (vh ops o) s.1=false:=At
def lu(ops:List Oper)(l:List Bool):Prop:=∀j o,gI ops j=some o->lB l j false=true->∀x,x∈mY o.after.toList->lB l x false=true
theorem qK:∀{es:List Edge}{x:Nat},x∈mY es->∃e,e∈es/\Region.binds .any e=true/\e.on=x
 |[],x,h=>by simp[mY]at h
 |e::es,x,h=>by
  unfold mY at h
  cases hb:Region.binds .any e with
  |true=>
   rw[hb]at h
   rcases List.mem_cons.1 h with rfl|h
   ·exact⟨e,by simp,hb,rfl⟩
   ·obtain⟨f,h1,h2⟩:=qK h
    exact⟨f,by simp[h1],h2⟩
  |false=>
   rw[hb]at h
   obtain⟨f,h1,h2⟩:=qK h
   exact⟨f,by simp[h1],h2⟩
theorem vl{l:List Bool}{o:Oper}{i:Nat}(h:ga l o i=true):∀x,x∈mY o.after.toList->lB l x false=true:=fun x hx=>by
 obtain⟨e,h1,h2,h3⟩:=qK hx
 rw[<-h3]
 exact(ij.1 h).2 e (by simpa using h1) h2
theorem lu.set{ops:List Oper}{l:List Bool}(C:lu ops l){i:Nat}{o:Oper}(ho:gI ops i=some o)(hr:ga l o i=true):lu ops (iB l i):=fun j o' ho' hj x hx=>by
 refine mZ _ _ _ ?_
 by_cases h:j=i
 ·subst h
  rw[ho]at ho'
  have:=Option.some.inj ho'
  subst this
  exact vl hr x hx
 ·rw[qI _ _ _ _ (Ne.symm h)]at hj
  exact C j o' ho' hj x hx
theorem Es:∀{a b:List Nat}{x:Nat},x∈Vt a b->x∈a\/x∈b
 |[],b,x,h=> .inr h
 |y::a,b,x,h=>by
  rcases List.mem_cons.1 h with rfl|h
  ·exact .inl (by simp)
  ·rcases Es h with h|h
   ·exact .inl (by simp[h])
   ·exact .inr h
theorem Et:∀{l:List Nat}{i:Nat},eN l i=true->i∈l
 |[],i,h=>by simp[eN]at h
 |x::l,i,h=>by
  simp only[eN,Bool.or_eq_true]at h
  rcases h with h|h
  ·have:=Nat.eq_of_beq_eq_true h;subst this;simp
  ·simp[Et h]
theorem rK{ops:List Oper}{l:List Bool}(C:lu ops l):∀{n:Nat}{todo seen:List Nat},(∀x,x∈todo->lB l x false=true)->(∀x,x∈seen->lB l x false=true)->∀x,x∈anc ops n todo seen->lB l x false=true
 |0,_,_,_,h2,x,hx=>h2 x hx
 |_+1,[],_,_,h2,x,hx=>h2 x hx
 |n+1,i::todo,seen,h1,h2,x,hx=>by
  have hi:=h1 i (by simp)
  have ht:∀x,x∈todo->lB l x false=true:=fun x hx=>h1 x (by simp[hx])
  have hs:∀x,x∈i::seen->lB l x false=true:=fun x hx=>by
   rcases List.mem_cons.1 hx with rfl|hx
   ·exact hi
   ·exact h2 x hx
  unfold anc at hx
  split at hx
  ·exact rK C ht h2 x hx
  ·split at hx
   ·rename_i o ho
    exact rK C (fun y hy=>(Es hy).elim (C i o ho hi y) (ht y)) hs x hx
   ·exact rK C ht hs x hx
theorem MV{ops:List Oper}{l:List Bool}(C:lu ops l){o:Oper}{i j:Nat}(h:ga l o j=true)(hi:lB l i true=false):eN (vh ops o) i=false:=by
 cases hh:eN (vh ops o) i with
 |false=>rfl
 |true=>
  have:=rK C (vl h) (fun x hx=>by simp at hx) i (Et hh)
  rw[lM _ _ hi]at this
  cases this
theorem nb{P:Program}{ops:List Oper}{K:Env->Heap->Prop}:∀(n:Nat)(l:List Bool)(e:Env)(h:Heap)(S S':ke),(∀s,s∈S'->s∈S\/∀g,s.2 g)->zT P ops K n l e h S->zT P ops K n l e h S'
 |0,_,_,_,_,_,_,H=>H
 |n+1,l,e,h,S,S',hs,H=>by
  refine⟨H.1,fun i o hi=>ig (fun v h' hv=>⟨fun hq=>nb n _ _ _ _ _ hs (hv.1 hq),fun hq=> ?_⟩) (H.2 i o hi)⟩
  obtain⟨h1,h2⟩:=hv.2 hq
  have Ho:∀s,s∈lq ops o S'->s∈lq ops o S\/∀g,s.2 g:=fun s hm=>by
   rw[Lb]at*
   rcases hs _ hm.1 with h|h
   ·exact .inl ⟨h,hm.2⟩
   ·exact .inr h
  exact⟨fun s hm=>(Ho s hm).elim (h1 s) fun k=>k _,nb n _ _ _ _ _ Ho h2⟩
theorem wU{P:Program}{ops:List Oper}{K:Env->Heap->Prop}(hp:fq ops ops 0=true){i:Nat}{oi:Oper}{v:Value}(hi:gI ops i=some oi)(hq:(vg oi.op||zP oi.op)=true)(p:Heap->Prop):
 ∀(n:Nat)(l:List Bool)(e:Env)(h:Heap)(S:ke),lu ops l->(∀g,p g->Yv P ops e g oi v)->ga l oi i=true->Yv P ops e h oi v->
  zT P ops K n (iB l i) (put e oi.dst v) h ((i,p)::S)->zT P ops K (n+1) l e h S:=by
 intro n
 induction n with
 |zero=>
  intro l e h S C hpy hr hy H
  refine⟨fun h0=> ?_,fun j oj hj=> ?_⟩
  ·have:=cH.2 ⟨hi,hr⟩;rw[h0]at this;cases this
  ·obtain⟨QM,UM⟩:=cH.1 hj
   by_cases Vv:j=i
   ·subst Vv
    obtain rfl:oj=oi:=by rw[hi]at QM;exact(Option.some.inj QM).symm
    rw[jI hq]
    exact⟨v,hy,fun _=>⟨H.1,H.2⟩,fun hc=>by rw[hq]at hc;cases hc⟩
   ·have:=cH.2 ⟨QM,oq UM Vv⟩
    rw[H.1]at this;cases this
 |succ n ih=>
  intro l e h S C hpy hr hy H
  refine⟨fun h0=> ?_,fun j oj hj=> ?_⟩
  ·have:=cH.2 ⟨hi,hr⟩;rw[h0]at this;cases this
  ·obtain⟨QM,UM⟩:=cH.1 hj
   by_cases Vv:j=i
   ·subst Vv
    obtain rfl:oj=oi:=by rw[hi]at QM;exact(Option.some.inj QM).symm
    rw[jI hq]
    exact⟨v,hy,fun _=>nb _ _ _ _ _ _ (fun s hs=> .inl (by simp[hs])) H,fun hc=>by rw[hq]at hc;cases hc⟩
   ·have hli:lB l i true=false:=(ij.1 hr).1
    have hlj:lB l j true=false:=(ij.1 UM).1
    have hnj:jA oj i=false:=JB UM hli
    have hni:jA oi j=false:=JB hr hlj
    obtain⟨a1,a2,a3⟩:=MU hp hi QM Vv hnj hni
    have H1:=H.2 j oj (cH.2 ⟨QM,oq UM Vv⟩)
    rw[La a1]at H1
    have hri:ga (iB l j) oi i=true:=oq hr (Ne.symm Vv)
    by_cases hqj:(vg oj.op||zP oj.op)=true
    ·rw[jI hqj]at H1⊢
     obtain⟨u,hu,H2⟩:=H1
     refine⟨u,hu,fun _=> ?_,fun hc=>by rw[hqj]at hc;cases hc⟩
     refine ih (iB l j) (put e oj.dst u) h S (C.set QM UM) (fun g hg=>by rw[BT a3];exact hpy g hg) hri (by rw[BT a3];exact hy) ?_
     rw[tD,<-put_comm a2]
     exact H2.1 hqj
    ·have aeU:(vg oj.op||zP oj.op)=false:=by simpa using hqj
     refine ig (fun u h' H2=>⟨fun hc=>absurd hc hqj,fun _=> ?_⟩) H1
     obtain⟨h3,h4⟩:=H2.2 aeU
     have hk:lq ops oj ((i,p)::S)=(i,p)::lq ops oj S:=by simp[lq,qx,MV C UM hli]
     rw[hk]at h3 h4
     refine⟨fun s hs=>h3 s (by simp[hs]),?_⟩
     refine ih (iB l j) (put e oj.dst u) h' (lq ops oj S) (C.set QM UM) (fun g hg=>by rw[BT a3];exact hpy g hg) hri ?_ ?_
     ·rw[BT a3]
      exact hpy _ (h3 (i,p) (by simp))
     ·rw[tD,<-put_comm a2]
      exact h4
theorem oy:∀{r:List (Nat×Oper)}{x:Nat×Oper},cV r=some x->x∈r/\(vg x.2.op||zP x.2.op)=true
 |[],_,h=>by simp[cV]at h
 |(i,o)::r,x,h=>by
  unfold cV at h
  cases hq:(vg o.op||zP o.op)with
  |true=>rw[hq]at h;simp only[Option.some.injEq]at h;subst h;exact⟨by simp,hq⟩
  |false=>rw[hq]at h;have:=oy h;exact⟨by simp[this.1],this.2⟩
theorem nO:∀{r:List (Nat×Oper)},cV r=none->∀x,x∈r->(vg x.2.op||zP x.2.op)=false
 |[],_,x,hx=>by simp at hx
 |(i,o)::r,h,x,hx=>by
  unfold cV at h
  cases hq:(vg o.op||zP o.op)with
  |true=>rw[hq]at h;cases h
  |false=>
   rw[hq]at h
   rcases List.mem_cons.1 hx with rfl|hx
   ·exact hq
   ·exact nO h x hx
theorem Au{h:Heap}{K:Prop}:∀{S:ke},MT h K S->(∀s,s∈S->s.2 h)/\K
 |[],H=>⟨fun s hs=>by simp at hs,H⟩
 |(i,p)::S,H=>by
  obtain⟨h1,h2⟩:=H
  obtain⟨h3,h4⟩:=Au h2
  refine⟨fun s hs=> ?_,h4⟩
  rcases List.mem_cons.1 hs with h|h
  ·rw[h];exact h1
  ·exact h3 s h
theorem Aw{f:Nat->Oper->Prop}:∀{r:List (Nat×Oper)},Hm f r->∀i o,(i,o)∈r->f i o
 |[],_,i,o,h=>by simp at h
 |[(j,x)],H,i,o,h=>by simp at h;obtain⟨rfl,rfl⟩:=h;exact H
 |(j,x)::y::r,H,i,o,h=>by
  rcases List.mem_cons.1 h with h|h
  ·cases h;exact H.1
  ·exact Aw H.2 i o h
theorem iG{P:Program}{ops:List Oper}{K:Env->Heap->Prop}(hp:fq ops ops 0=true):∀(n:Nat)(l:List Bool)(e:Env)(h:Heap)(S:ke),lu ops l->lL P ops K n l e h S->zT P ops K n l e h S
 |0,l,e,h,S,C,H=>by
  unfold lL at H
  cases hr:bA ops 0 l with
  |nil=>rw[hr]at H;exact⟨hr,H⟩
  |cons x xs=>rw[hr]at H;exact H.elim
 |n+1,l,e,h,S,C,H=>by
  unfold lL at H
  cases hq:cV (bA ops 0 l)with
  |some x=>
   obtain⟨i,o⟩:=x
   obtain⟨hm,hqq⟩:=oy hq
   obtain⟨ho,hr⟩:=cH.1 hm
   rw[hq]at H
   simp only at H
   cases hpu:vg o.op with
   |true=>
    rw[hpu]at H
    simp only at H
    rw[jI hqq]at H
    obtain⟨v,hv,H⟩:=H
    exact wU hp ho hqq (fun _=>True) n l e h S C (fun g _=>Q0 hpu hv g) hr hv
     (nb _ _ _ _ _ _ (fun s hs=>(List.mem_cons.1 hs).elim (fun h=> .inr fun _=>by rw[h];trivial) .inl) (iG hp n _ _ _ _ (C.set ho hr) H))
   |false=>
    rw[hpu]at H
    simp only at H
    rw[jI hqq]at H
    obtain⟨v,hv,H⟩:=H
    exact wU hp ho hqq _ n l e h S C (fun g hg=>hg) hr hv (iG hp n _ _ _ _ (C.set ho hr) H)
  |none=>
   rw[hq]at H
   simp only at H
   cases hr:bA ops 0 l with
   |nil=>
    rw[hr]at H
    exact⟨fun _=>H,fun i o hi=>by rw[hr]at hi;cases hi⟩
   |cons x xs=>
    rw[hr]at H
    simp only at H
    refine⟨fun h0=>(by rw[hr]at h0;cases h0),fun i o hi=> ?_⟩
    rw[hr]at hi
    have H1:=Aw H i o hi
    obtain⟨ho,Vw⟩:=cH.1 (by rw[hr];exact hi:(i,o)∈bA ops 0 l)
    refine ig (fun v h' hv=>⟨fun hc=> ?_,fun _=> ?_⟩) H1
    ·have:=nO hq (i,o) (by rw[hr];exact hi)
     rw[hc]at this;cases this
    ·obtain⟨h1,h2⟩:=Au hv
     exact⟨h1,iG hp n _ _ _ _ (C.set ho Vw) h2⟩
theorem we(l:Array Bool)(i:Nat)(d:Bool):lB l.toList i d=l.getD i d:=by
 have key:∀(l:List Bool)(i:Nat),lB l i d=l[i]?.getD d:=by
  intro l
  induction l with
  |nil=>intro i;simp[lB]
  |cons x xs ih=>intro i;cases i<;>simp[lB,ih]
 rw[key];simp
theorem vm(l:Array Bool)(i:Nat):iB l.toList i=(l.setIfInBounds i true).toList:=by
 have key:∀(l:List Bool)(i:Nat),iB l i=l.set i true:=by
  intro l
  induction l with
  |nil=>intro i;rfl
  |cons x xs ih=>intro i;cases i<;>simp[iB,ih]
 rw[key];simp
theorem qL{ops:Array Oper}{l:Array Bool}{i:Nat}:i∈Region.ready .any ops l↔∃o,(i,o)∈bA ops.toList 0 l.toList:=by
 rw[mem_ready]
 constructor
 ·rintro⟨h0,o,ho,h⟩
  refine⟨o,cH.2 ⟨by rw[pG];exact ho,ij.2 ⟨by rw[we];exact h0,fun e he hb=>by rw[we];exact h e he hb⟩⟩⟩
 ·rintro⟨o,h⟩
  obtain⟨ho,hr⟩:=cH.1 h
  obtain⟨h0,h1⟩:=ij.1 hr
  exact⟨by rw[<-we];exact h0,o,by rw[<-pG];exact ho,fun e he hb=>by rw[<-we];exact h1 e he hb⟩
theorem Ax{ops:Array Oper}{l:Array Bool}:Region.ready .any ops l=[]↔bA ops.toList 0 l.toList=[]:=by
 constructor
 ·intro h
  cases hr:bA ops.toList 0 l.toList with
  |nil=>rfl
  |cons x xs=>
   have:x.1∈Region.ready .any ops l:=qL.2 ⟨x.2,by rw[hr];simp⟩
   rw[h]at this;cases this
 ·intro h
  cases hr:Region.ready .any ops l with
  |nil=>rfl
  |cons x xs=>
   obtain⟨o,ho⟩:=qL.1 (show x∈Region.ready .any ops l by rw[hr];simp)
   rw[h]at ho;cases ho
theorem lP{P:Program}{ops:Array Oper}{Q:Exit->Act->World->Prop}{K:Env->Heap->Prop}{w0:World}(hQ:∀a w,cO w0 w->K a.tmps.toList w.heap->a.defers=[]->Q .normal a w):
 ∀(n:Nat)(l:Array Bool)(a:Act)(w:World)(S:ke),a.defers=[]->cO w0 w->zT P ops.toList K n l.toList a.tmps.toList w.heap S->wpAny P .any ops Q n l a w
 |0,l,a,w,S,hd,hs,H=>⟨Ax.2 H.1,hQ a w hs H.2 hd⟩
 |n+1,l,a,w,S,hd,hs,H=>by
  refine⟨fun h=>hQ a w hs (H.1 (Ax.1 h)) hd,fun i hi=> ?_⟩
  obtain⟨o,ho⟩:=qL.1 hi
  refine qw (by rw[<-pG];exact(cH.1 ho).1) (ig (fun v h' hv=> ?_) (H.2 i o ho))
  intro w' hw' hh'
  subst hh'
  have QL:(a.put o.dst v).defers=[]:=by rw[put_defers];exact hd
  cases hq:(vg o.op||zP o.op)with
  |true=>
   have:=hv.1 hq
   rw[vm,<-qF]at this
   exact lP hQ n _ _ _ _ QL (hs.trans hw') this
  |false=>
   have:=(hv.2 hq).2
   rw[vm,<-qF]at this
   exact lP hQ n _ _ _ _ QL (hs.trans hw') this
theorem qy{P:Program}{ops:Array Oper}{Q:Exit->Act->World->Prop}{K:Env->Heap->Prop}{w0:World}(hQ:∀a w,cO w0 w->K a.tmps.toList w.heap->a.defers=[]->Q .normal a w):
 ∀(l:List Oper)(k:Nat)(a:Act)(w:World),(∀j,gI l j=gI ops.toList (k+j))->a.defers=[]->cO w0 w->wpIn P ops.toList l a.tmps.toList w.heap K->wpOps P ops Q (List.range' k l.length) a w
 |[],k,a,w,_,hd,hs,H=>by simpa[wpOps]using hQ a w hs H hd
 |o::os,k,a,w,hl,hd,hs,H=>by
  simp only[List.length_cons,List.range'_succ]
  rw[wpOps_cons]
  have ho:ops[k]?=some o:=by rw[<-pG];have:=hl 0;simp only[gI,Nat.add_zero]at this;exact this.symm
  refine qw ho (ig (fun v h' hv=> ?_) H)
  intro w' hw' hh'
  subst hh'
  refine qy hQ os (k+1) _ _ (fun j=> ?_) (by rw[put_defers];exact hd) (hs.trans hw') (by rw[qF];exact hv)
  have:=hl (j+1)
  simp only[gI]at this
  rw[this,show k+(j+1)=k+1+j by omega]
def nc:List Oper->List Bool
 |[]=>[]
 |_::os=>false::nc os
def len:List Oper->Nat
 |[]=>0
 |_::os=>len os+1
def Q2(P:Program)(ops:List Oper)(draw:Bool)(e:Env)(h:Heap)(K:Env->Heap->Prop):Prop:=
 match draw with
 |false=>wpIn P ops ops e h K
 |true=>match fq ops ops 0 with
  |true=>lL P ops K (len ops) (nc ops) e h []
  |false=>False
def zU:List Oper->List Nat
 |[]=>[]
 |o::os=>match o.dst with
  |some d=>d::zU os
  |none=>zU os
def writes:Code->List Nat
 | .region _ ops _=>zU ops.toList
 | .seq a b=>writes a++writes b
 | .cond _ a b=>writes a++writes b
 | .block _ c=>writes c
 | .loop c=>writes c
 |_=>[]
def kf:Nat->(List Value->Prop)->Prop
 |0,f=>f []
 |n+1,f=>∀v,kf n fun vs=>f (v::vs)
def iC:List Nat->Nat
 |[]=>0
 |_::xs=>iC xs+1
def Ay(P:Program)(an:Nat->Option (List Nat)):Code->Nat->(Env->Heap->Prop)->(Nat->Env->Heap->Prop)->(Env->Heap->Prop)->Env->Heap->Prop
 | .skip,_,kn,_,_,e,h=>kn e h
 | .region _ ops draw,_,kn,_,_,e,h=>Q2 P ops.toList draw e h kn
 | .seq a b,p,kn,kx,kr,e,h=>match an p with
   |none=>Ay P an a (2*p) (fun e' h'=>Ay P an b (2*p+1) kn kx kr e' h') kx kr e h
   |some L=>∃J:List Value->Heap->Prop,Ay P an a (2*p) (fun e' h'=>J (eG e' L) h') kx kr e h/\
    ∀(tE:Nat->Value),kf (iC L) fun vs=>∀h':Heap,J vs h'->Ay P an b (2*p+1) kn kx kr (jz (fU e tE (writes a)) L vs) h'
 | .cond c a b,p,kn,kx,kr,e,h=>MP (ev e c) (Ay P an a (2*p) kn kx kr e h) (Ay P an b (2*p+1) kn kx kr e h)
 | .block id c,p,kn,kx,kr,e,h=>Ay P an c (2*p) kn (fun i e' h'=>match Nat.beq i id with
   |true=>kn e' h'
   |false=>kx i e' h') kr e h
 | .loop c,p,_,kx,kr,e,h=>match an p with
   |none=>False
   |some L=>∃(I:List Value->Heap->Prop)(μ:List Value->Heap->Nat),I (eG e L) h/\
    ∀(tE:Nat->Value),kf (iC L) fun vs=>∀h':Heap,I vs h'->
     Ay P an c (2*p) (fun e'' lg=>I (eG e'' L) lg/\μ (eG e'' L) lg<μ vs h') kx kr (jz (fU e tE (writes c)) L vs) h'
 | .exit id,_,_,kx,_,e,h=>kx id e h
 | .ret,_,_,_,kr,e,h=>kr e h
 | .label _,_,kn,_,_,e,h=>kn e h
 |_,_,_,_,_,_,_=>False
structure pK(D:List Nat)(e e':Env):Prop where
 len:e'.length=e.length
 same:∀t,t∉D->eQ e' t=eQ e t
theorem pK.refl(D:List Nat)(e:Env):pK D e e:=⟨rfl,fun _ _=>rfl⟩
theorem pK.trans{D:List Nat}{a b c:Env}(h:pK D a b)(k:pK D b c):pK D a c:=⟨k.len.trans h.len,fun t ht=>(k.same t ht).trans (h.same t ht)⟩
theorem pK.mono{D D':List Nat}{a b:Env}(h:pK D a b)(hD:∀t,t∈D->t∈D'):pK D' a b:=⟨h.len,fun t ht=>h.same t fun hm=>ht (hD t hm)⟩
theorem pK.put{D:List Nat}{a b:Env}(h:pK D a b){dst:Option Tmp}(hd:∀d,dst=some d->d∈D)(v:Value):pK D a (put b dst v):=by
 cases dst with
 |none=>exact h
 |some d=>
  refine⟨by simp only[Mx.put];rw[fb];exact h.len,fun t ht=> ?_⟩
  simp only[Mx.put]
  rw[fc _ _ _ _ fun he=>ht (by rw[<-he];exact hd d rfl)]
  exact h.same t ht
theorem oz:∀(D:List Nat)(e:Env)(j:Nat->Value),(fU e j D).length=e.length
 |[],_,_=>rfl
 |t::ts,e,j=>by simp only[fU];rw[oz ts,fb]
theorem Az:∀(D:List Nat)(e:Env)(j:Nat->Value)(t:Nat),t<e.length->eQ (fU e j D) t=if t∈D then j t else eQ e t
 |[],_,_,_,_=>by simp[fU]
 |d::ds,e,j,t,ht=>by
  simp only[fU]
  rw[Az ds _ _ _ (by rw[fb];exact ht)]
  by_cases h1:t∈ds
  ·simp[h1]
  ·simp only[h1,if_false,List.mem_cons,or_false]
   by_cases h2:t=d
   ·subst h2;simp[kb _ _ _ ht]
   ·simp only[h2,if_false];exact fc _ _ _ _ (Ne.symm h2)
theorem vn:∀(L:List Nat)(e:Env),jz e L (eG e L)=e
 |[],_=>rfl
 |t::ts,e=>by
  have h0:tC e t (eQ e t)=e:=BS _ _ (fb _ _ _) fun s hs=>by
   rw[fb]at hs
   by_cases h:t=s
   ·subst h;exact kb _ _ _ hs
   ·exact fc _ _ _ _ h
  simp only[eG,jz,h0]
  exact vn ts e
theorem wV{D:List Nat}{e e':Env}(h:pK D e e')(L:List Nat):jz (fU e (eQ e') D) L (eG e' L)=e':=by
 have h0:fU e (eQ e') D=e':=BS _ _ (by rw[oz,h.len]) fun t ht=>by
  rw[oz]at ht
  rw[Az _ _ _ _ ht]
  by_cases hm:t∈D
  ·simp[hm]
  ·simp[hm,h.same t hm]
 rw[h0]
 exact vn L e'
theorem kJ:∀(L:List Nat)(e:Env),(eG e L).length=iC L
 |[],_=>rfl
 |_::ts,e=>by simp[eG,iC,kJ ts e]
theorem nf:∀(n:Nat)(f:List Value->Prop),kf n f->∀vs:List Value,vs.length=n->f vs
 |0,f,h,vs,hv=>by rw[List.eq_nil_of_length_eq_zero hv];exact h
 |n+1,f,h,[],hv=>by simp at hv
 |n+1,f,h,v::vs,hv=>nf n (fun vs=>f (v::vs)) (h v) vs (by simpa using hv)
def oA(D:List Nat)(kn:Env->Heap->Prop)(kx:Nat->Env->Heap->Prop)(kr:Env->Heap->Prop)(e0:Env)(w0:World):Exit->Act->World->Prop
 | .normal,a,w=>a.defers=[]/\cO w0 w/\pK D e0 a.tmps.toList/\kn a.tmps.toList w.heap
 | .exit id,a,w=>a.defers=[]/\cO w0 w/\pK D e0 a.tmps.toList/\kx id a.tmps.toList w.heap
 | .ret,a,w=>a.defers=[]/\cO w0 w/\pK D e0 a.tmps.toList/\kr a.tmps.toList w.heap
 |_,_,_=>False
theorem oA.weaken{D D':List Nat}{kn pL:Env->Heap->Prop}{kx rL:Nat->Env->Heap->Prop}{kr:Env->Heap->Prop}{e0 e1:Env}{w0 w1:World}(hD:∀t,t∈D->t∈D')(hw:cO w0 w1)(he:pK D' e0 e1)
 (hn:∀e h,kn e h->pL e h) (hx:∀i e h,kx i e h->rL i e h) {x:Exit} {a:Act} {w:World} (H:oA D kn kx kr e1 w1 x a w):oA D' pL rL kr e0 w0 x a w:=by
 cases x<;>first
  |exact⟨H.1,hw.trans H.2.1,he.trans (H.2.2.1.mono hD),hn _ _ H.2.2.2⟩
  |exact⟨H.1,hw.trans H.2.1,he.trans (H.2.2.1.mono hD),hx _ _ _ H.2.2.2⟩
  |exact⟨H.1,hw.trans H.2.1,he.trans (H.2.2.1.mono hD),H.2.2.2⟩
  |exact H
theorem oA.BU{D D':List Nat}{kn pL:Env->Heap->Prop}{kx:Nat->Env->Heap->Prop}{kr:Env->Heap->Prop}{e0 e1:Env}{w0 w1:World}(hD:∀t,t∈D->t∈D')(hw:cO w0 w1)(he:pK D' e0 e1)
 {x:Exit} {a:Act} {w:World} (hx:x≠ .normal) (H:oA D kn kx kr e1 w1 x a w):oA D' pL kx kr e0 w0 x a w:=by
 cases x<;>first
  |exact absurd rfl hx
  |exact⟨H.1,hw.trans H.2.1,he.trans (H.2.2.1.mono hD),H.2.2.2⟩
  |exact H
theorem rM:∀(ops:List Oper)(j:Nat)(o:Oper),gI ops j=some o->∀d,o.dst=some d->d∈zU ops
 |[],j,o,h,_,_=>by simp[gI]at h
 |x::xs,0,o,h,d,hd=>by simp only[gI,Option.some.injEq]at h;subst h;simp[zU,hd]
 |x::xs,j+1,o,h,d,hd=>by
  have:=rM xs j o h d hd
  unfold zU
  cases x.dst<;>simp[this]
theorem Eu{P:Program}{ops:List Oper}{K:Env->Heap->Prop}{e0:Env}{D:List Nat}:∀(l:List Oper)(e:Env)(h:Heap),(∀j o,gI l j=some o->∀d,o.dst=some d->d∈D)->pK D e0 e->wpIn P ops l e h K->wpIn P ops l e h fun e' h'=>pK D e0 e'/\K e' h'
 |[],e,h,_,ho,H=>⟨ho,H⟩
 |o::os,e,h,hl,ho,H=>ig (fun v h' hv=>Eu os _ _ (fun j x hx=>hl (j+1) x hx) (ho.put (hl 0 o rfl) v) hv) H
theorem wW{P:Program}{ops:List Oper}{K:Env->Heap->Prop}{e0:Env}:∀(n:Nat)(l:List Bool)(e:Env)(h:Heap)(S:ke),pK (zU ops) e0 e->zT P ops K n l e h S->zT P ops (fun e' h'=>pK (zU ops) e0 e'/\K e' h') n l e h S
 |0,l,e,h,S,ho,H=>⟨H.1,ho,H.2⟩
 |n+1,l,e,h,S,ho,H=>⟨fun h0=>⟨ho,H.1 h0⟩,fun i o hi=>ig (fun v h' hv=>
  ⟨fun hq=>wW n _ _ _ _ (ho.put (rM ops i o (cH.1 hi).1) v) (hv.1 hq),fun hq=>⟨(hv.2 hq).1,wW n _ _ _ _ (ho.put (rM ops i o (cH.1 hi).1) v) (hv.2 hq).2⟩⟩) (H.2 i o hi)⟩
theorem Vx(ops:Array Oper):Mx.len ops.toList=ops.size:=by
 have key:∀l:List Oper,Mx.len l=l.length:=by intro l;induction l<;>simp[Mx.len, *]
 rw[key];simp
theorem AA:∀(l:List Oper)(j:Nat),lB (nc l) j false=false
 |[],_=>rfl
 |_::_,0=>rfl
 |_::l,j+1=>AA l j
theorem zV(ops:List Oper):lu ops (nc ops):=fun j o _ h=>by rw[AA]at h;cases h
theorem Lc(ops:Array Oper):nc ops.toList=(Array.replicate ops.size false).toList:=by
 have key:∀l:List Oper,nc l=List.replicate l.length false:=by
  intro l
  induction l with
  |nil=>rfl
  |cons x xs ih=>simp[nc,ih,List.replicate_succ]
 rw[key];simp
theorem Ld{P:Program}(hm:P.follows .mixedOrders=true)(an:Nat->Option (List Nat)):∀(c:Code)(p:Nat)(kn:Env->Heap->Prop)(kx:Nat->Env->Heap->Prop)(kr:Env->Heap->Prop)(a:Act)(w:World),
 a.defers=[]->Ay P an c p kn kx kr a.tmps.toList w.heap->c.wp P (oA (writes c) kn kx kr a.tmps.toList w) a w:=by
 intro c
 induction c with
 |skip=>intro p kn kx kr a w hd H;exact wp_skip ⟨hd,cO.refl w,pK.refl _ _,H⟩
 |region id ops draw=>
  intro p kn kx kr a w hd H
  simp only[Ay,Q2]at H
  cases draw with
  |false=>
   simp only at H
   have H':=Eu (D:=zU ops.toList) ops.toList _ _ (fun j o ho d hdd=>rM _ j o ho d hdd) (pK.refl _ _) H
   have:=qy (P:=P) (ops:=ops) (Q:=oA (zU ops.toList) kn kx kr a.tmps.toList w) (w0:=w) (fun a' w' hs hk QL=>⟨QL,hs,hk.1,hk.2⟩) ops.toList 0 a w (fun j=>by rw[Nat.zero_add]) hd (cO.refl w) H'
   refine wp_region ?_
   rw[List.range_eq_range']
   have hl:ops.toList.length=ops.size:=by simp
   rw[hl]at this
   exact this
  |true=>
   simp only at H
   cases hp:fq ops.toList ops.toList 0 with
   |false=>rw[hp]at H;exact H.elim
   |true=>
    rw[hp]at H
    simp only at H
    have H':=wW _ _ _ _ _ (pK.refl _ a.tmps.toList) (iG hp _ _ _ _ _ (zV _) H)
    rw[Vx,Lc]at H'
    refine wp_region_any hm ?_
    exact lP (w0:=w) (fun a' w' hs hk QL=>⟨QL,hs,hk.1,hk.2⟩) ops.size _ a {w with drawn:=w.drawn+1} [] hd ⟨rfl,rfl,rfl⟩ H'
 |seq x y ihx ihy=>
  intro p kn kx kr a w hd H
  simp only[Ay]at H
  refine wp_seq ?_
  cases hp:an p with
  |none=>
   rw[hp]at H
   refine wp_mono (ihx _ _ _ _ a w hd H) fun e a' w' hq=> ?_
   cases e with
   |normal=>
    obtain⟨h1,h2,h3,h4⟩:=hq
    exact wp_mono (ihy _ _ _ _ a' w' h1 h4) fun e a'' w'' hq'=>hq'.weaken (fun t ht=>List.mem_append_right _ ht) h2 (h3.mono fun t ht=>List.mem_append_left _ ht) (fun _ _ h=>h) (fun _ _ _ h=>h)
   |_=>exact oA.BU (pL:=kn) (D':=writes x++writes y) (fun t ht=>List.mem_append_left _ ht) (cO.refl w) (pK.refl _ _) (by simp) hq
  |some L=>
   rw[hp]at H
   obtain⟨J,H1,H2⟩:=H
   refine wp_mono (ihx _ _ _ _ a w hd H1) fun e a' w' hq=> ?_
   cases e with
   |normal=>
    obtain⟨h1,h2,h3,h4⟩:=hq
    have H3:=nf _ _ (H2 (eQ a'.tmps.toList)) (eG a'.tmps.toList L) (kJ _ _) _ h4
    rw[wV h3]at H3
    exact wp_mono (ihy _ _ _ _ a' w' h1 H3) fun e a'' w'' hq'=>hq'.weaken (fun t ht=>List.mem_append_right _ ht) h2 (h3.mono fun t ht=>List.mem_append_left _ ht) (fun _ _ h=>h) (fun _ _ _ h=>h)
   |_=>exact oA.BU (pL:=kn) (D':=writes x++writes y) (fun t ht=>List.mem_append_left _ ht) (cO.refl w) (pK.refl _ _) (by simp) hq
 |cond c x y ihx ihy=>
  intro p kn kx kr a w hd H
  simp only[Ay]at H
  obtain⟨t,ht,h1,h2⟩:=H
  rw[eM]at ht
  refine wp_cond_split ht (fun h=> ?_) (fun h=> ?_)
  ·exact wp_mono (ihx _ _ _ _ a w hd (h1 h)) fun e a' w' hq=>hq.weaken (fun t ht=>List.mem_append_left _ ht) (cO.refl w) (pK.refl _ _) (fun _ _ h=>h) (fun _ _ _ h=>h)
  ·exact wp_mono (ihy _ _ _ _ a w hd (h2 h)) fun e a' w' hq=>hq.weaken (fun t ht=>List.mem_append_right _ ht) (cO.refl w) (pK.refl _ _) (fun _ _ h=>h) (fun _ _ _ h=>h)
 |block id x ih=>
  intro p kn kx kr a w hd H
  simp only[Ay]at H
  refine wp_block (wp_mono (ih _ _ _ _ a w hd H) fun e a' w' hq=> ?_)
  cases e with
  |exit i=>
   obtain⟨h1,h2,h3,h4⟩:=hq
   simp only[Exit.inBlock]
   by_cases hi:i=id
   ·subst hi
    simp only[if_true]
    have hb:Nat.beq i i=true:=by simp
    rw[hb]at h4
    exact⟨h1,h2,h3,h4⟩
   ·simp only[hi,if_false]
    have hb:Nat.beq i id=false:=by
     cases hb:Nat.beq i id with
     |false=>rfl
     |true=>exact absurd (Nat.eq_of_beq_eq_true hb) hi
    rw[hb]at h4
    exact⟨h1,h2,h3,h4⟩
  |_=>exact hq
 |loop x ih=>
  intro p kn kx kr a w hd H
  simp only[Ay]at H
  cases hp:an p with
  |none=>rw[hp]at H;exact H.elim
  |some L=>
   rw[hp]at H
   obtain⟨I,μ,H0,H1⟩:=H
   refine wp_loop (fun a' w'=>a'.defers=[]/\cO w w'/\pK (writes x) a.tmps.toList a'.tmps.toList/\I (eG a'.tmps.toList L) w'.heap) (fun a' w'=>μ (eG a'.tmps.toList L) w'.heap) ⟨hd,cO.refl w,pK.refl _ _,H0⟩ ?_
   rintro a' w' ⟨h1,h2,h3,h4⟩
   have H3:=nf _ _ (H1 (eQ a'.tmps.toList)) (eG a'.tmps.toList L) (kJ _ _) _ h4
   rw[wV h3]at H3
   refine wp_mono (ih _ _ _ _ a' w' h1 H3) fun e a'' w'' hq=> ?_
   cases e with
   |normal=>exact⟨⟨hq.1,h2.trans hq.2.1,h3.trans hq.2.2.1,hq.2.2.2.1⟩,hq.2.2.2.2⟩
   |_=>exact oA.BU (pL:=fun _ _=>True) (fun t ht=>ht) h2 h3 (by simp) hq
 |rangeFunc f params assign body=>intro p kn kx kr a w hd H;exact H.elim
 |exit id=>intro p kn kx kr a w hd H;exact wp_exit ⟨hd,cO.refl w,pK.refl _ _,H⟩
 |scope body=>intro p kn kx kr a w hd H;exact H.elim
 |label l=>intro p kn kx kr a w hd H;exact wp_label ⟨hd,cO.refl w,pK.refl _ _,H⟩
 |goto l=>intro p kn kx kr a w hd H;exact H.elim
 |ret=>intro p kn kx kr a w hd H;exact wp_ret ⟨hd,cO.refl w,pK.refl _ _,H⟩
 |refuse why=>intro p kn kx kr a w hd H;exact H.elim
def kK:Nat->Env
 |0=>[]
 |n+1=>undef::kK n
def oneOf:List Value->Value
 |[v]=>v
 |vs=> .tuple vs.toArray
def BV(P:Program)(e:Nat->Value)(h:Heap)(K:Value->Heap->Prop):List ResultVar->List Value->Prop
 |[],acc=>K (oneOf acc.reverse) h
 | .tmp t::rs,acc=>BV P e h K rs (e t::acc)
 | .cell a t::rs,acc=>zS P (Instr.loadAt t (e a)) h fun v=>BV P e h K rs (v::acc)
def MW(P:Program)(rs:List ResultVar)(e:Env)(h:Heap)(K:Value->Heap->Prop):Prop:=BV P (eQ e) h K rs []
theorem Ev{P:Program}{fn:Func}{a:Array Value}{h:Heap}{K:Value->Heap->Prop}(H:MW P fn.results.toList a.toList h K):∃v,(∀w:World,w.heap=h->(results fn a).run P w= .ok v w)/\K v h:=by
 have aeY:∀(w:World),(results fn a).run P w=((fn.results.toList.mapM fun r=>(match r with
  | .tmp t=>pure (a.getD t undef)
  | .cell b t=>do loadVar t (<-asAddr (a.getD b undef)):Sem Value)).bind fun l=>Sem.pure (oneOf l)).run P w:=by
  intro w
  unfold results
  rw[Array.mapM_eq_mapM_toList]
  simp only[map_eq_pure_bind,bind_assoc,pure_bind]
  show Sem.run P (Sem.bind _ _) w=_
  rw[Sem.run_bind',Sem.run_bind']
  congr 1
  funext l w'
  match l with
  |[]=>rfl
  |[x]=>rfl
  |x::y::l=>simp[oneOf]
 have key:∀(rs:List ResultVar)(acc:List Value),BV P (eQ a.toList) h K rs acc->∃l,(∀w:World,w.heap=h->(rs.mapM fun r=>(match r with
  | .tmp t=>pure (a.getD t undef)
  | .cell b t=>do loadVar t (<-asAddr (a.getD b undef)):Sem Value)).run P w= .ok l w)/\K (oneOf (acc.reverse++l)) h:=by
  intro rs
  induction rs with
  |nil=>intro acc H;exact⟨[],fun w hw=>rfl,by simpa[BV]using H⟩
  |cons r rs ih=>
   intro acc H
   cases r with
   |tmp t=>
    obtain⟨l,h1,h2⟩:=ih _ H
    refine⟨a.getD t undef::l,fun w hw=> ?_,by simpa[jF]using h2⟩
    rw[List.mapM_cons]
    simp only[pure_bind]
    show Sem.run P (Sem.bind _ _) w=_
    rw[Sem.run_bind',h1 w hw]
    rfl
   |cell b t=>
    obtain⟨v,hv,H⟩:=H
    obtain⟨l,h1,h2⟩:=ih _ H
    refine⟨v::l,fun w hw=> ?_,by simpa using h2⟩
    rw[List.mapM_cons]
    have h3:(do loadVar t (<-asAddr (a.getD b undef)):Sem Value).run P w= .ok v w:=by
     have:=hv w hw
     unfold Instr.loadAt at this
     rw[<-jF]
     have e1:(do loadVar t (<-Instr.sureAddr (eQ a.toList b)):Sem Value)=(Instr.sureAddr (eQ a.toList b)).bind fun x=>loadVar t x:=rfl
     have e2:(do loadVar t (<-asAddr (eQ a.toList b)):Sem Value)=(asAddr (eQ a.toList b)).bind fun x=>loadVar t x:=rfl
     rw[e1]at this
     rw[e2]
     cases hx:eQ a.toList b with
     |pointer q=>
      rw[hx]at this
      cases q with
      |some q=>exact this
      |none=>simp[Instr.sureAddr,stuck,Sem.bind,Sem.run]at this
     |_=>rw[hx]at this;simp[Instr.sureAddr,stuck,Sem.bind,Sem.run]at this
    show Sem.run P (Sem.bind _ _) w=_
    rw[Sem.run_bind',h3]
    show Sem.run P (Sem.bind _ _) w=_
    rw[Sem.run_bind',h1 w hw]
    rfl
 obtain⟨l,h1,h2⟩:=key _ _ H
 refine⟨oneOf l,fun w hw=> ?_,by simpa using h2⟩
 rw[aeY,Sem.run_bind',h1 w hw]
 rfl
def Func.plain(fn:Func):Bool:= !(fn.name== "runtime.NumGoroutine")&&fn.body.isSome
theorem BW{P:Program}(hm:P.follows .mixedOrders=true){f:FuncId}{fn:Func}{c:Code}(hf:P.funcs[f]?=some fn)(hb:fn.body=some c)(hn:(fn.name== "runtime.NumGoroutine")=false)
 (an:Nat->Option (List Nat)) {args:List Value} {h:Heap} {K:Value->Heap->Prop} (n:Nat) (hk:fn.ntmps-args.length=n) (rs:List ResultVar) (hr:fn.results.toList=rs)
 (H:Ay P an c 1 (fun e h=>MW P rs e h K) (fun _ _ _=>False) (fun e h=>MW P rs e h K) (args++kK n) h):aE P f args.toArray h K:=by
 refine⟨fun w hw=> ?_⟩
 refine .inr ⟨f,args.toArray,w,?_,rfl,?_⟩
 ·show Sem.run P (Sem.bind program _) w=_
  rw[Sem.run_bind']
  have hn':¬fn.name= "runtime.NumGoroutine" :=by simpa using hn
  simp[program,Sem.run,hf,hn',hb,pure]
 ·subst hw hr hk
  refine calls_of_wp hf hb ?_
  have hu:∀n,kK n=List.replicate n undef:=by intro n;induction n<;>simp[kK,List.replicate_succ, *]
  have e1:(args.toArray++Array.replicate (fn.ntmps-args.toArray.size) undef).toList=args++kK (fn.ntmps-args.length):=by
   rw[hu];simp
  have:=Ld hm an c 1 _ _ _ {tmps:=args.toArray++Array.replicate (fn.ntmps-args.toArray.size) undef,defers:=[]} w rfl (by rw[e1];exact H)
  refine wp_mono this fun e a w' hq=> ?_
  cases e<;>first
   |exact hq.elim
   |exact hq.2.2.2.elim
   |(obtain⟨h1,h2,h3,h4⟩:=hq
     obtain⟨v,h5,h6⟩:=Ev h4
     exact⟨h1,v,h5 w' rfl,v,rfl,h2,h6⟩)
def Hq(fn:Func):Code:=
 match fn.body with
 |some c=>c
 |none=> .skip
def gO(op:BinOp)(t:TypeId)(a b:Value):Sem Value:=do eqGuard op t (.tmp 0) (.tmp 0) a b;binOp op t a b
def lQ(op:BinOp)(t:TypeId)(x y:Operand)(a b:Value):Sem Value:=do eqGuard op t x y a b;binOp op t a b
def JD(c a b:Value):Sem Value:=do pure (if<-asBool c then a else b)
def MX(x:Value):Sem Value:=
 match x with
 | .pointer none| .nilIface| .nilFunc=>runtimePanic .nilDeref
 | .func (.method _) _ _=>stuck "a method value"
 |x=>pure x
def zW(t:TypeId)(ty:TypeId)(x:Value):Sem Value:=Builtin.len_ #[t] ty #[x]
def bR(t u:TypeId)(ty:TypeId)(x y:Value):Sem Value:=Builtin.append_ #[t,u] ty #[x,y]
abbrev aU:=List (Nat×Value)
def lR:aU->Nat->Value
 |[],_=>undef
 |(d,v)::A,t=>match Nat.beq d t with
  |true=>v
  |false=>lR A t
def JE{α:Sort _}:aU->Nat->(Value->α)->α
 |[],_,k=>k undef
 |(d,v)::A,t,k=>match Nat.beq d t with
  |true=>k v
  |false=>JE A t k
theorem Ew{α:Sort _}:∀(A:aU)(t:Nat)(k:Value->α),JE A t k=k (lR A t)
 |[],_,_=>rfl
 |(d,v)::A,t,k=>by
  simp only[JE,lR]
  cases Nat.beq d t with
  |true=>rfl
  |false=>exact Ew A t k
def wX(n:Nat)(A:aU)(dst:Option Tmp)(v:Value):aU:=
 match dst with
 |some d=>match Nat.blt d n with
  |true=>(d,v)::A
  |false=>A
 |none=>A
def vo{α:Sort _}(n:Nat)(A:aU)(dst:Option Tmp)(v:Value)(k:aU->α):α:=
 match dst with
 |some d=>match Nat.blt d n with
  |true=>k ((d,v)::A)
  |false=>k A
 |none=>k A
theorem gP{α:Sort _}(n:Nat)(A:aU)(dst:Option Tmp)(v:Value)(k:aU->α):vo n A dst v k=k (wX n A dst v):=by
 cases dst with
 |none=>rfl
 |some d=>simp only[vo,wX];cases Nat.blt d n<;>rfl
def fi(A:aU):Operand->Value
 | .tmp t=>lR A t
 | .const v=>v
 | .global g=> .pointer (some ⟨g,0,none⟩)
 | .func f=> .func (.func f) #[] #[]
def abz{α:Sort _}(A:aU)(x:Operand)(k:Value->α):α:=
 match x with
 | .tmp t=>JE A t k
 | .const v=>k v
 | .global g=>k (.pointer (some ⟨g,0,none⟩))
 | .func f=>k (.func (.func f) #[] #[])
theorem Q3{α:Sort _}(A:aU)(x:Operand)(k:Value->α):abz A x k=k (fi A x):=by
 cases x<;>first|rfl|exact Ew _ _ _
def Ex{α:Sort _}:List Bool->Nat->(List Bool->α)->α
 |[],_,k=>k []
 |_::bs,0,k=>k (true::bs)
 |b::bs,n+1,k=>Ex bs n fun l=>k (b::l)
theorem rN{α:Sort _}:∀(l:List Bool)(n:Nat)(k:List Bool->α),Ex l n k=k (iB l n)
 |[],_,_=>rfl
 |_::_,0,_=>rfl
 |b::bs,n+1,k=>by simp only[Ex,iB];rw[rN bs n]
structure tF(n:Nat)(A:aU)(e:Env):Prop where
 len:e.length=n
 get:∀t,eQ e t=lR A t
theorem tF.ev{n:Nat}{A:aU}{e:Env}(h:tF n A e):Mx.ev e=fi A:=by
 funext x
 cases x<;>simp only[Mx.ev,fi]
 exact h.get _
theorem tF.put{n:Nat}{A:aU}{e:Env}(h:tF n A e)(dst:Option Tmp)(v:Value):tF n (wX n A dst v) (Mx.put e dst v):=by
 cases dst with
 |none=>exact h
 |some d=>
  simp only[wX,Mx.put]
  cases hb:Nat.blt d n with
  |true=>
   have hd:d<n:=by simpa[Nat.blt_eq]using hb
   refine⟨by rw[fb];exact h.len,fun t=> ?_⟩
   simp only[lR]
   cases hq:Nat.beq d t with
   |true=>
    have:=Nat.eq_of_beq_eq_true hq
    subst this
    exact kb _ _ _ (by rw[h.len];exact hd)
   |false=>
    have eA:d≠t:=fun e=>by subst e;simp at hq
    rw[fc _ _ _ _ eA]
    exact h.get t
  |false=>
   have hd:¬d<n:=fun rO=>by rw[<-Nat.blt_eq]at rO;rw[hb]at rO;cases rO
   refine⟨by rw[fb];exact h.len,fun t=> ?_⟩
   by_cases eA:d=t
   ·subst eA
    rw[<-h.get,BR _ _ (by rw[fb,h.len];exact Nat.le_of_not_lt hd),BR _ _ (by rw[h.len];exact Nat.le_of_not_lt hd)]
   ·rw[fc _ _ _ _ eA]
    exact h.get t
def wY(P:Program)(A:aU)(op:Op)(ty:TypeId)(h:Heap)(K:Value->Heap->Prop):Prop:=
 match gw op with
 |some x=>abz A x fun v=>K v h
 |none=>fm P (fi A) op ty h K
theorem kL{P:Program}{A:aU}{op:Op}{ty:TypeId}{h:Heap}{K:Value->Heap->Prop}:wY P A op ty h K=fm P (fi A) op ty h K:=by
 unfold wY
 cases hm:gw op with
 |some x=>simp only[Q3];unfold fm;rw[hm]
 |none=>rfl
def jc(ops:List Oper)(A:aU)(j:Nat):Value:=
 match wO ops j with
 |some t=>lR A t
 |none=>undef
theorem tF.qH{n:Nat}{A:aU}{e:Env}(h:tF n A e)(ops:List Oper)(j:Nat):Mx.qH ops e j=jc ops A j:=by
 unfold Mx.qH jc
 cases wO ops j with
 |none=>rfl
 |some t=>exact h.get t
def lx(P:Program)(ops:List Oper)(A:aU)(h:Heap)(o:Oper)(k:Value->Heap->Prop):Prop:=
 match o.guard with
 |none=>wY P A o.op o.type h k
 |some (j,want)=>Hk (K7 (jc ops A j) want) want (wY P A o.op o.type h) h k
theorem rP{P:Program}{ops:List Oper}{n:Nat}{A:aU}{e:Env}(hr:tF n A e){h:Heap}{o:Oper}{k:Value->Heap->Prop}:lx P ops A h o k=jH P ops e h o k:=by
 have:wY P A o.op o.type h=fm P (ev e) o.op o.type h:=funext fun _=>by rw[kL,hr.ev]
 have h2:wY P A o.op o.type h k=fm P (ev e) o.op o.type h k:=by rw[this]
 unfold lx jH
 cases o.guard with
 |none=>exact h2
 |some p=>
  obtain⟨j,want⟩:=p
  simp only[this,hr.qH]
def MY(P:Program)(ops:List Oper)(A:aU)(g:Heap)(o:Oper)(v:Value):Prop:=
 match o.guard with
 |none=>Yx P (fi A) o.op o.type g v
 |some (j,want)=>∃b:Bool,K7 (jc ops A j) want= .bool b/\(b=want->Yx P (fi A) o.op o.type g v)/\(b≠want->v=undef)
theorem Vy{P:Program}{ops:List Oper}{n:Nat}{A:aU}{e:Env}(hr:tF n A e){g:Heap}{o:Oper}{v:Value}:MY P ops A g o v=Yv P ops e g o v:=by
 unfold MY Yv
 cases o.guard with
 |none=>simp only[hr.ev]
 |some p=>obtain⟨j,want⟩:=p;simp only[hr.ev,hr.qH]
def AB(P:Program)(n:Nat)(ops:List Oper):List Oper->aU->Heap->(aU->Heap->Prop)->Prop
 |[],A,h,K=>K A h
 |o::os,A,h,K=>lx P ops A h o fun v h'=>vo n A o.dst v fun A'=>AB P n ops os A' h' K
theorem Ey{P:Program}{n:Nat}{ops:List Oper}{K:aU->Heap->Prop}{K':Env->Heap->Prop}(hK:∀A e h,tF n A e->K A h=K' e h):∀(l:List Oper)(A:aU)(e:Env)(h:Heap),tF n A e->AB P n ops l A h K=wpIn P ops l e h K'
 |[],A,e,h,hr=>hK A e h hr
 |o::os,A,e,h,hr=>by
  simp only[AB,wpIn,gP]
  rw[rP hr]
  congr 1
  funext v h'
  exact Ey hK os _ _ _ (hr.put o.dst v)
def jB(P:Program)(n:Nat)(ops:List Oper)(K:aU->Heap->Prop):Nat->List Bool->aU->Heap->ke->Prop
 |0,l,A,h,_=>match bA ops 0 l with
  |[]=>K A h
  |_::_=>False
 |m+1,l,A,h,S=>match cV (bA ops 0 l)with
  |some (i,o)=>Ex l i fun l'=>match vg o.op with
   |true=>lx P ops A h o fun v h'=>vo n A o.dst v fun A'=>jB P n ops K m l' A' h' S
   |false=>lx P ops A h o fun v h'=>vo n A o.dst v fun A'=>jB P n ops K m l' A' h' ((i,fun g=>MY P ops A g o v)::S)
  |none=>match bA ops 0 l with
   |[]=>K A h
   |r::rs=>Hm (fun i o=>Ex l i fun l'=>lx P ops A h o fun v h'=>MT h' (vo n A o.dst v fun A'=>jB P n ops K m l' A' h' (lq ops o S)) (lq ops o S)) (r::rs)
theorem wZ{P:Program}{n:Nat}{ops:List Oper}{K:aU->Heap->Prop}{K':Env->Heap->Prop}(hK:∀A e h,tF n A e->K A h=K' e h):∀(m:Nat)(l:List Bool)(A:aU)(e:Env)(h:Heap)(S:ke),tF n A e->jB P n ops K m l A h S=lL P ops K' m l e h S
 |0,l,A,e,h,S,hr=>by
  simp only[jB,lL]
  cases bA ops 0 l with
  |nil=>exact hK A e h hr
  |cons x xs=>rfl
 |m+1,l,A,e,h,S,hr=>by
  have ih:=fun l A e h S hr=>wZ (P:=P) (n:=n) (ops:=ops) hK m l A e h S hr
  simp only[jB,lL,gP,rN]
  cases cV (bA ops 0 l)with
  |some x=>
   obtain⟨i,o⟩:=x
   simp only
   have hy:∀v,(fun g=>MY P ops A g o v)=fun g=>Yv P ops e g o v:=fun v=>funext fun g=>Vy hr
   cases vg o.op with
   |true=>simp only[rP hr];congr 1;funext v h';exact ih _ _ _ _ _ (hr.put o.dst v)
   |false=>simp only[rP hr,hy];congr 1;funext v h';exact ih _ _ _ _ _ (hr.put o.dst v)
  |none=>
   simp only
   cases bA ops 0 l with
   |nil=>exact hK A e h hr
   |cons x xs=>
    simp only
    congr 1
    funext i o
    rw[rP hr]
    congr 1
    funext v h'
    rw[ih _ _ _ _ _ (hr.put o.dst v)]
def MZ(P:Program)(n:Nat)(ops:List Oper)(draw:Bool)(A:aU)(h:Heap)(K:aU->Heap->Prop):Prop:=
 match draw with
 |false=>AB P n ops ops A h K
 |true=>match fq ops ops 0 with
  |true=>jB P n ops K (len ops) (nc ops) A h []
  |false=>False
theorem Q4{P:Program}{n:Nat}{ops:List Oper}{K:aU->Heap->Prop}{K':Env->Heap->Prop}(hK:∀A e h,tF n A e->K A h=K' e h){draw:Bool}{A:aU}{e:Env}{h:Heap}(hr:tF n A e):MZ P n ops draw A h K=Q2 P ops draw e h K':=by
 unfold MZ Q2
 cases draw with
 |false=>exact Ey hK _ _ _ _ hr
 |true=>simp only;rw[wZ hK _ _ _ _ _ _ hr]
def dH(A:aU):List Nat->List Value
 |[]=>[]
 |t::ts=>lR A t::dH A ts
def qM{α:Sort _}(n:Nat)(j:Nat->Value):List Nat->aU->(aU->α)->α
 |[],A,k=>k A
 |t::ts,A,k=>vo n A (some t) (j t) fun A'=>qM n j ts A' k
def rQ{α:Sort _}(n:Nat):List Nat->List Value->aU->(aU->α)->α
 |[],_,A,k=>k A
 |_::_,[],A,k=>k A
 |t::ts,v::vs,A,k=>vo n A (some t) v fun A'=>rQ n ts vs A' k
theorem tF.many{n:Nat}{A:aU}{e:Env}(h:tF n A e):∀L:List Nat,eG e L=dH A L
 |[]=>rfl
 |t::ts=>by simp only[eG,dH,h.get,h.many ts]
theorem tG{α:Sort _}{n:Nat}{j:Nat->Value}{k:aU->α}{k':Env->α}(hk:∀A e,tF n A e->k A=k' e):∀(L:List Nat)(A:aU)(e:Env),tF n A e->qM n j L A k=k' (fU e j L)
 |[],A,e,hr=>hk A e hr
 |t::ts,A,e,hr=>by
  simp only[qM,fU,gP]
  exact tG hk ts _ _ (hr.put (some t) (j t))
theorem xd{α:Sort _}{n:Nat}{k:aU->α}{k':Env->α}(hk:∀A e,tF n A e->k A=k' e):∀(L:List Nat)(vs:List Value)(A:aU)(e:Env),tF n A e->rQ n L vs A k=k' (jz e L vs)
 |[],_,A,e,hr=>by simp only[rQ,jz];exact hk A e hr
 |_::_,[],A,e,hr=>by simp only[rQ,jz];exact hk A e hr
 |t::ts,v::vs,A,e,hr=>by
  simp only[rQ,jz,gP]
  exact xd hk ts vs _ _ (hr.put (some t) v)
theorem qz{f g:List Value->Prop}(h:∀vs,f vs=g vs)(n:Nat):kf n f=kf n g:=by rw[funext h]
def BX(P:Program)(n:Nat)(an:Nat->Option (List Nat)):Code->Nat->(aU->Heap->Prop)->(Nat->aU->Heap->Prop)->(aU->Heap->Prop)->aU->Heap->Prop
 | .skip,_,kn,_,_,A,h=>kn A h
 | .region _ ops draw,_,kn,_,_,A,h=>MZ P n ops.toList draw A h kn
 | .seq a b,p,kn,kx,kr,A,h=>match an p with
   |none=>BX P n an a (2*p) (fun A' h'=>BX P n an b (2*p+1) kn kx kr A' h') kx kr A h
   |some L=>∃J:List Value->Heap->Prop,BX P n an a (2*p) (fun A' h'=>J (dH A' L) h') kx kr A h/\
    ∀(tE:Nat->Value),kf (iC L) fun vs=>∀h':Heap,J vs h'->qM n tE (writes a) A fun A1=>rQ n L vs A1 fun A2=>BX P n an b (2*p+1) kn kx kr A2 h'
 | .cond c a b,p,kn,kx,kr,A,h=>MP (fi A c) (BX P n an a (2*p) kn kx kr A h) (BX P n an b (2*p+1) kn kx kr A h)
 | .block id c,p,kn,kx,kr,A,h=>BX P n an c (2*p) kn (fun i A' h'=>match Nat.beq i id with
   |true=>kn A' h'
   |false=>kx i A' h') kr A h
 | .loop c,p,_,kx,kr,A,h=>match an p with
   |none=>False
   |some L=>∃(I:List Value->Heap->Prop)(μ:List Value->Heap->Nat),I (dH A L) h/\
    ∀(tE:Nat->Value),kf (iC L) fun vs=>∀h':Heap,I vs h'->qM n tE (writes c) A fun A1=>rQ n L vs A1 fun A2=>
     BX P n an c (2*p) (fun A'' lg=>I (dH A'' L) lg/\μ (dH A'' L) lg<μ vs h') kx kr A2 h'
 | .exit id,_,_,kx,_,A,h=>kx id A h
 | .ret,_,_,_,kr,A,h=>kr A h
 | .label _,_,kn,_,_,A,h=>kn A h
 |_,_,_,_,_,_,_=>False
theorem Vz{P:Program}{n:Nat}{an:Nat->Option (List Nat)}:∀(c:Code)(p:Nat)(kn:aU->Heap->Prop)(kx:Nat->aU->Heap->Prop)(kr:aU->Heap->Prop)(pL:Env->Heap->Prop)(rL:Nat->Env->Heap->Prop)(vp:Env->Heap->Prop)(A:aU)(e:Env)(h:Heap),
 tF n A e->(∀A e h,tF n A e->kn A h=pL e h)->(∀i A e h,tF n A e->kx i A h=rL i e h)->(∀A e h,tF n A e->kr A h=vp e h)->BX P n an c p kn kx kr A h=Ay P an c p pL rL vp e h:=by
 intro c
 induction c with
 |skip=>intro p kn kx kr pL rL vp A e h hr h1 h2 h3;exact h1 A e h hr
 |region id ops draw=>intro p kn kx kr pL rL vp A e h hr h1 h2 h3;exact Q4 h1 hr
 |seq a b Q5 Q8=>
  intro p kn kx kr pL rL vp A e h hr h1 h2 h3
  simp only[BX,Ay]
  cases an p with
  |none=>exact Q5 _ _ _ _ _ _ _ _ _ _ hr (fun A e h hr=>Q8 _ _ _ _ _ _ _ _ _ _ hr h1 h2 h3) h2 h3
  |some L=>
   simp only
   congr 1
   funext J
   rw[Q5 (2*p) (fun A' h'=>J (dH A' L) h') kx kr (fun e' h'=>J (eG e' L) h') rL vp A e h hr (fun A e h hr=>by rw[hr.many]) h2 h3]
   congr 1
   refine propext (forall_congr' fun tE=> ?_)
   rw[qz]
   intro vs
   refine propext (forall_congr' fun h'=> ?_)
   rw[tG (fun A1 e1 VA=>xd (fun A2 e2 hr2=>Q8 _ _ _ _ _ _ _ _ _ _ hr2 h1 h2 h3) L vs A1 e1 VA) _ _ _ hr]
 |cond c a b Q5 Q8=>
  intro p kn kx kr pL rL vp A e h hr h1 h2 h3
  simp only[BX,Ay]
  rw[Q5 _ _ _ _ _ _ _ _ _ _ hr h1 h2 h3,Q8 _ _ _ _ _ _ _ _ _ _ hr h1 h2 h3,hr.ev]
 |block id c ih=>
  intro p kn kx kr pL rL vp A e h hr h1 h2 h3
  simp only[BX,Ay]
  refine ih _ _ _ _ _ _ _ _ _ _ hr h1 (fun i A e h hr=> ?_) h3
  cases Nat.beq i id with
  |true=>exact h1 A e h hr
  |false=>exact h2 i A e h hr
 |loop c ih=>
  intro p kn kx kr pL rL vp A e h hr h1 h2 h3
  simp only[BX,Ay]
  cases an p with
  |none=>rfl
  |some L=>
   simp only
   congr 1
   funext I
   congr 1
   funext μ
   rw[hr.many]
   congr 1
   refine propext (forall_congr' fun tE=> ?_)
   rw[qz]
   intro vs
   refine propext (forall_congr' fun h'=> ?_)
   rw[tG (fun A1 e1 VA=>xd (fun A2 e2 hr2=>ih (2*p) _ kx kr (fun e'' lg=>I (eG e'' L) lg/\μ (eG e'' L) lg<μ vs h') rL vp A2 e2 h' hr2 (fun A e h hr=>by rw[hr.many]) h2 h3) L vs A1 e1 VA) _ _ _ hr]
 |exit id=>intro p kn kx kr pL rL vp A e h hr h1 h2 h3;exact h2 id A e h hr
 |ret=>intro p kn kx kr pL rL vp A e h hr h1 h2 h3;exact h3 A e h hr
 |label l=>intro p kn kx kr pL rL vp A e h hr h1 h2 h3;exact h1 A e h hr
 |_=>intros;rfl
def rS:List Value->Nat->aU
 |[],_=>[]
 |v::vs,i=>(i,v)::rS vs (i+1)
theorem xf:∀(vs:List Value)(i t:Nat),lR (rS vs i) t=if t<i then undef else eQ vs (t-i)
 |[],i,t=>by simp[rS,lR,eQ]
 |v::vs,i,t=>by
  simp only[rS,lR]
  cases hq:Nat.beq i t with
  |true=>have:=Nat.eq_of_beq_eq_true hq;subst this;simp[eQ]
  |false=>
   have eA:i≠t:=fun e=>by subst e;simp at hq
   simp only[xf vs (i+1) t]
   by_cases h:t<i
   ·simp[h,show t<i+1 by omega]
   ·simp only[h,show¬t<i+1 by omega,if_false]
    rw[show t-i=(t-(i+1))+1 by omega]
    rfl
theorem M0(vs:List Value)(m n:Nat)(hn:vs.length+m=n):tF n (rS vs 0) (vs++kK m):=by
 have hu:∀m,(kK m).length=m/\∀t,eQ (kK m) t=undef:=by
  intro m
  induction m with
  |zero=>exact⟨rfl,fun t=>rfl⟩
  |succ m ih=>refine⟨by simp[kK,ih.1],fun t=> ?_⟩;cases t<;>simp[kK,eQ,ih.2]
 refine⟨by simp[(hu m).1,hn],fun t=> ?_⟩
 rw[xf]
 simp only[Nat.not_lt_zero,if_false,Nat.sub_zero]
 have key:∀(l:List Value)(t:Nat),eQ (l++kK m) t=eQ l t:=by
  intro l
  induction l with
  |nil=>intro t;simp[(hu m).2,eQ]
  |cons x xs ih=>intro t;cases t<;>simp[eQ,ih]
 exact key vs t
def M4(P:Program)(A:aU)(h:Heap)(K:Value->Heap->Prop)(rs:List ResultVar):Prop:=BV P (lR A) h K rs []
theorem BZ{P:Program}(hm:P.follows .mixedOrders=true){f:FuncId}{fn:Func}{c:Code}(hf:P.funcs[f]?=some fn)(hb:fn.body=some c)(hn:(fn.name== "runtime.NumGoroutine")=false)
 (an:Nat->Option (List Nat)) {args:List Value} {h:Heap} {K:Value->Heap->Prop} (m n:Nat) (hk:fn.ntmps-args.length=m) (M5:args.length+m=n) (rs:List ResultVar) (hr:fn.results.toList=rs)
 (H:BX P n an c 1 (fun A h=>M4 P A h K rs) (fun _ _ _=>False) (fun A h=>M4 P A h K rs) (rS args 0) h):aE P f args.toArray h K:=by
 refine BW hm hf hb hn an m hk rs hr ?_
 have hg:∀(A:aU)(e:Env)(h:Heap),tF n A e->M4 P A h K rs=MW P rs e h K:=fun A e h hr=>by
  unfold M4 MW
  rw[show lR A=eQ e from funext fun t=>(hr.get t).symm]
 rw[<-Vz c 1 _ (fun _ _ _=>False) _ _ (fun _ _ _=>False) _ _ _ h (M0 args m n M5) hg (fun _ _ _ _ _=>rfl) hg]
 exact H
end Go.Mx
