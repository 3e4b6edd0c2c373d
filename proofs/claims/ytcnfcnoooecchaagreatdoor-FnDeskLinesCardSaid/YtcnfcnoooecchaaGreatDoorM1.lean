import Derived.Orders
import Derived.KernelRfl
import Derived.Laws.Sem
set_option linter.unusedVariables false
set_option linter.unusedSimpArgs false
namespace Go.Mx
abbrev aH:=List Int
abbrev aE:=List (List Int)
abbrev aK:=Nat->Prop
theorem aY:type_of% @decide_eq_false_iff_not:=@decide_eq_false_iff_not
theorem aR:type_of% @List.not_mem_nil:=@List.not_mem_nil
theorem aO:type_of% @List.mem_cons:=@List.mem_cons
theorem aT:type_of% @decide_eq_true_eq:=@decide_eq_true_eq
theorem aF:type_of% @if_neg:=@if_neg
theorem aJ:type_of% @if_pos:=@if_pos
theorem bG:type_of% @List.length_map:=@List.length_map
theorem bJ:type_of% @List.getElem_mem:=@List.getElem_mem
theorem bI:type_of% @Option.some.inj:=@Option.some.inj
theorem aW:type_of% @Nat.le_refl:=@Nat.le_refl
theorem bD:type_of% @Bool.and_eq_true:=@Bool.and_eq_true
theorem aN:type_of% @or_false:=@or_false
theorem cT:type_of% @List.take_of_length_le:=@List.take_of_length_le
theorem cO:type_of% @List.mem_cons_of_mem:=@List.mem_cons_of_mem
theorem eG:type_of% @List.getD_eq_getElem?_getD:=@List.getD_eq_getElem?_getD
theorem cB:type_of% @List.length_append:=@List.length_append
theorem dY:type_of% @List.getElem?_eq_getElem:=@List.getElem?_eq_getElem
theorem cF:type_of% @List.mem_cons_self:=@List.mem_cons_self
theorem bK:type_of% @List.map_cons:=@List.map_cons
theorem bY:type_of% @List.length_set:=@List.length_set
theorem cK:type_of% @List.getElem_map:=@List.getElem_map
theorem dC:type_of% @Option.some.injEq:=@Option.some.injEq
theorem ft:type_of% @Nat.eq_of_beq_eq_true:=@Nat.eq_of_beq_eq_true
theorem cV:type_of% @List.map_append:=@List.map_append
theorem eZ:type_of% @List.mem_singleton:=@List.mem_singleton
theorem ko:type_of% @List.flatten_replicate_singleton:=@List.flatten_replicate_singleton
theorem cA:type_of% @Int.le_refl:=@Int.le_refl
theorem fQ:type_of% @Nat.lt_of_lt_of_le:=@Nat.lt_of_lt_of_le
theorem dD:type_of% @Nat.le_trans:=@Nat.le_trans
theorem dL:type_of% @List.mem_map:=@List.mem_map
theorem fI:type_of% @List.length_take:=@List.length_take
theorem gj:type_of% @List.length_range:=@List.length_range
theorem fR:type_of% @List.getElem_set:=@List.getElem_set
theorem ja:type_of% @List.length_replicate:=@List.length_replicate
theorem og:type_of% @List.take_succ_eq_append_getElem:=@List.take_succ_eq_append_getElem
theorem gV:type_of% @Bool.not_eq_true':=@Bool.not_eq_true'
theorem gX:type_of% @List.append_assoc:=@List.append_assoc
theorem fk:type_of% @Bool.true_and:=@Bool.true_and
theorem jU:type_of% @ByteArray.size_append:=@ByteArray.size_append
theorem kk:type_of% @List.drop_of_length_le:=@List.drop_of_length_le
theorem gI:type_of% @List.mem_append:=@List.mem_append
theorem fH:type_of% @Prod.mk.injEq:=@Prod.mk.injEq
theorem pG:type_of% @List.eq_nil_of_length_eq_zero:=@List.eq_nil_of_length_eq_zero
theorem gZ:type_of% @decide_eq_false:=@decide_eq_false
theorem gJ:type_of% @Bool.false_and:=@Bool.false_and
theorem js:type_of% @List.all_eq_true:=@List.all_eq_true
theorem l8:type_of% @Bool.and_eq_true_iff:=@Bool.and_eq_true_iff
theorem jb:type_of% @List.append_nil:=@List.append_nil
theorem kR:type_of% @List.getElem_range:=@List.getElem_range
theorem hH:type_of% @Int.mul_assoc:=@Int.mul_assoc
theorem iq:type_of% @Sem.run_bind':=@Sem.run_bind'
theorem pZ:type_of% @List.length_eq_zero_iff:=@List.length_eq_zero_iff
theorem p4:type_of% @List.filter_cons_of_neg:=@List.filter_cons_of_neg
theorem rm:type_of% @List.mem_or_eq_of_mem_set:=@List.mem_or_eq_of_mem_set
theorem j8:type_of% @List.ext_getElem:=@List.ext_getElem
theorem oh:type_of% @Nat.mul_le_mul_right:=@Nat.mul_le_mul_right
theorem ov:type_of% @List.mem_of_mem_take:=@List.mem_of_mem_take
theorem iu:type_of% @List.map_set:=@List.map_set
theorem rD:type_of% @List.filter_cons_of_pos:=@List.filter_cons_of_pos
theorem gL:type_of% @Nat.mul_one:=@Nat.mul_one
theorem iO:type_of% @Nat.zero_add:=@Nat.zero_add
theorem iP:type_of% @List.map_map:=@List.map_map
theorem uc:type_of% @List.getElem_append_left:=@List.getElem_append_left
theorem km:type_of% @decide_eq_true:=@decide_eq_true
theorem ku:type_of% @List.mem_range:=@List.mem_range
theorem iY:type_of% @List.map_nil:=@List.map_nil
theorem pz:type_of% @List.map_congr_left:=@List.map_congr_left
theorem wg:type_of% @List.drop_eq_getElem_cons:=@List.drop_eq_getElem_cons
theorem A5:type_of% @Array.getElem?_setIfInBounds:=@Array.getElem?_setIfInBounds
theorem qf:type_of% @Bool.false_ne_true:=@Bool.false_ne_true
theorem iZ:type_of% @Int.one_mul:=@Int.one_mul
theorem jQ:type_of% @Int.mul_comm:=@Int.mul_comm
theorem jR:type_of% @Sem.run_bind:=@Sem.run_bind
theorem kS:type_of% @Nat.add_assoc:=@Nat.add_assoc
theorem pU:type_of% @Int.mul_left_comm:=@Int.mul_left_comm
theorem Ab:type_of% @Array.getElem?_eq_some_iff:=@Array.getElem?_eq_some_iff
theorem Af:type_of% @List.getElem?_eq_some_iff:=@List.getElem?_eq_some_iff
theorem pL:type_of% @Nat.lt_succ_self:=@Nat.lt_succ_self
theorem qX:type_of% @of_decide_eq_true:=@of_decide_eq_true
theorem Be:type_of% @List.idxOf_lt_length_iff:=@List.idxOf_lt_length_iff
theorem uj:type_of% @List.mem_replicate:=@List.mem_replicate
theorem pS:type_of% @List.range_succ:=@List.range_succ
theorem kv:type_of% @Int.neg_mul:=@Int.neg_mul
theorem uv:type_of% @Bool.not_eq_false':=@Bool.not_eq_false'
theorem wo:type_of% @List.mem_of_mem_drop:=@List.mem_of_mem_drop
theorem lR:type_of% @Int.add_zero:=@Int.add_zero
theorem GJ:type_of% @Int.tmod_eq_emod_of_nonneg:=@Int.tmod_eq_emod_of_nonneg
theorem AZ:type_of% @List.drop_eq_nil_of_le:=@List.drop_eq_nil_of_le
theorem wD:type_of% @List.getElem_of_mem:=@List.getElem_of_mem
theorem qZ:type_of% @List.cons.injEq:=@List.cons.injEq
theorem na:type_of% @Int.zero_mul:=@Int.zero_mul
theorem Ba:type_of% @List.length_filter_le:=@List.length_filter_le
theorem vX:type_of% @Bool.false_eq_true:=@Bool.false_eq_true
theorem EK:type_of% @Option.isSome_iff_exists:=@Option.isSome_iff_exists
theorem j9:type_of% @Nat.mod_lt:=@Nat.mod_lt
theorem wK:type_of% @List.filter_append:=@List.filter_append
theorem zR:type_of% @List.mem_append_left:=@List.mem_append_left
theorem qR:type_of% @List.drop_zero:=@List.drop_zero
theorem wL:type_of% @List.getElem?_set:=@List.getElem?_set
theorem wN:type_of% @List.take_add_one:=@List.take_add_one
theorem sL:type_of% @Nat.lt_trichotomy:=@Nat.lt_trichotomy
theorem vo:type_of% @List.length_pos_iff:=@List.length_pos_iff
theorem zC:type_of% @List.getElem_replicate:=@List.getElem_replicate
theorem EP:type_of% @List.getElem_concat_length:=@List.getElem_concat_length
theorem gB:type_of% @if_false:=@if_false
theorem za:type_of% @Array.getElem?_modify:=@Array.getElem?_modify
theorem zd:type_of% @Classical.choose_spec:=@Classical.choose_spec
theorem mD:type_of% @Int.zero_add:=@Int.zero_add
theorem lr:type_of% @Int.mul_add:=@Int.mul_add
theorem zE:type_of% @Nat.pow_le_pow_right:=@Nat.pow_le_pow_right
theorem sK:type_of% @List.mem_filter:=@List.mem_filter
theorem mm:type_of% @Nat.add_mul:=@Nat.add_mul
theorem uV:type_of% @List.length_drop:=@List.length_drop
theorem vk:type_of% @decide_eq_decide:=@decide_eq_decide
theorem sI:type_of% @Int.natAbs_mul:=@Int.natAbs_mul
theorem lx:type_of% @beq_iff_eq:=@beq_iff_eq
theorem sO:type_of% @Bool.and_false:=@Bool.and_false
theorem uW:type_of% @List.take_left':=@List.take_left'
theorem ve:type_of% @List.drop_left':=@List.drop_left'
theorem p7:type_of% @Nat.mul_comm:=@Nat.mul_comm
theorem sF:type_of% @Bool.and_true:=@Bool.and_true
theorem uX:type_of% @Nat.mul_le_mul:=@Nat.mul_le_mul
theorem jJ:type_of% @if_true:=@if_true
abbrev Heap:=Array Obj
abbrev aL:=Value->Heap->Prop
abbrev Env:=List Value
structure dV(w w':World):Prop where
 os:w'.os=w.os
 tape:w'.tape=w.tape
 output:w'.output=w.output
theorem dV.refl(w:World):dV w w:=⟨rfl,rfl,rfl⟩
theorem dV.trans{a b c:World}(h:dV a b)(k:dV b c):dV a c:=⟨k.os.trans h.os,k.tape.trans h.tape,k.output.trans h.output⟩
def ga:Env->Nat->Value
 |[],_=>undef
 |v::_,0=>v
 |_::vs,n+1=>ga vs n
def vW:Env->Nat->Value->Env
 |[],_,_=>[]
 |_::vs,0,u=>u::vs
 |v::vs,n+1,u=>v::vW vs n u
def put(e:Env)(dst:Option Tmp)(v:Value):Env:=
 match dst with
 |some d=>vW e d v
 |none=>e
def ev(e:Env):Operand->Value
 | .tmp t=>ga e t
 | .const v=>v
 | .global g=> .pointer (some ⟨g,0,none⟩)
 | .func f=> .func (.func f) #[] #[]
def pw(ρ:Operand->Value):List Operand->List Value
 |[]=>[]
 |x::xs=>ρ x::pw ρ xs
def fP(e:Env):List Nat->List Value
 |[]=>[]
 |t::ts=>ga e t::fP e ts
def lh(e:Env):List Nat->List Value->Env
 |[],_=>e
 |_::_,[]=>e
 |t::ts,v::vs=>lh (vW e t v) ts vs
def iI(e:Env)(j:Nat->Value):List Nat->Env
 |[]=>e
 |t::ts=>iI (vW e t (j t)) j ts
theorem gz:∀(e:Env)(n:Nat)(v:Value),(vW e n v).length=e.length
 |[],_,_=>rfl
 |_::_,0,_=>rfl
 |_::vs,n+1,v=>by simp[vW,gz vs n v]
theorem gA:∀(e:Env)(n m:Nat)(v:Value),n≠m->ga (vW e n v) m=ga e m
 |[],_,_,_,_=>rfl
 |_::_,0,0,_,h=>absurd rfl h
 |_::_,0,m+1,_,_=>rfl
 |_::_,n+1,0,_,_=>rfl
 |_::vs,n+1,m+1,v,h=>by simp only[vW,ga];exact gA vs n m v (by omega)
theorem mf:∀(e:Env)(n:Nat)(v:Value),n<e.length->ga (vW e n v) n=v
 |[],_,_,h=>by simp at h
 |_::_,0,_,_=>rfl
 |_::vs,n+1,v,h=>by simp only[vW,ga];exact mf vs n v (by simpa using h)
theorem EB:∀(e:Env)(n:Nat),e.length<=n->ga e n=undef
 |[],_,_=>rfl
 |_::_,0,h=>by simp at h
 |_::vs,n+1,h=>by simp only[ga];exact EB vs n (by simpa using h)
theorem EC:∀(e e':Env),e.length=e'.length->(∀t,t<e.length->ga e t=ga e' t)->e=e'
 |[],[],_,_=>rfl
 |[],_::_,h,_=>by simp at h
 |_::_,[],h,_=>by simp at h
 |v::vs,u::us,h,k=>by
  have h0:=k 0 (by simp)
  simp only[ga]at h0
  rw[h0,EC vs us (by simpa using h) fun t ht=>by have:=k (t+1) (by simpa using ht);simpa[ga]using this]
theorem Db(e:Env)(d:Nat)(v:Value):vW e d v=e.set d v:=by
 induction e generalizing d with
 |nil=>rfl
 |cons x xs ih=>cases d with
  |zero=>rfl
  |succ d=>simp[vW,ih]
theorem lz(a:Array Value)(t:Nat):ga a.toList t=a.getD t undef:=by
 have key:∀(l:List Value)(t:Nat),ga l t=l[t]?.getD undef:=by
  intro l
  induction l with
  |nil=>intro t;simp[ga]
  |cons x xs ih=>intro t;cases t with
   |zero=>simp[ga]
   |succ t=>simp[ga,ih]
 rw[key];simp
theorem tP(a:Act)(dst:Option Tmp)(v:Value):(a.put dst v).tmps.toList=put a.tmps.toList dst v:=by
 cases dst with
 |none=>rfl
 |some d=>simp[Act.put,put,Db]
theorem put_defers(a:Act)(dst:Option Tmp)(v:Value):(a.put dst v).defers=a.defers:=by cases dst<;>rfl
theorem fZ(a:Act)(x:Operand):ev a.tmps.toList x=a.eval x:=by
 cases x<;>simp[ev,Act.eval,lz]
theorem Uh(ρ:Operand->Value)(l:List Operand):pw ρ l=l.map ρ:=by induction l<;>simp[pw, *]
structure pop(P:Program)(s:Sem Value)(K:Value->Prop):Prop where
 out:∃v,(∀w,s.run P w= .ok v w)/\K v
structure CI(P:Program)(s:Sem Value)(h:Heap)(K:Value->Prop):Prop where
 out:∃v,(∀w:World,w.heap=h->s.run P w= .ok v w)/\K v
structure lQ(P:Program)(s:Sem Value)(h:Heap)(K:aL):Prop where
 out:∀w:World,w.heap=h->∃v w',s.run P w= .ok v w'/\dV w w'/\K v w'.heap
structure Hc(P:Program)(s:Sem Unit)(h:Heap)(K:aL):Prop where
 out:∀w:World,w.heap=h->∃w',s.run P w= .ok () w'/\dV w w'/\K undef w'.heap
def PB(P:Program)(f:FuncId)(args:Array Value)(w:World)(K:aL):Prop:=
 Calls P f args w fun e w'=>∃v,e= .returned v/\dV w w'/\K v w'.heap
structure aG(P:Program)(f:FuncId)(args:Array Value)(h:Heap)(K:aL):Prop where
 out:∀w:World,w.heap=h->(∃v w',(callFunc f args).run P w= .ok (.value v) w'/\dV w w'/\K v w'.heap)\/
  (∃f' Dc w',(callFunc f args).run P w= .ok (.enter f' Dc) w'/\w'=w/\PB P f' Dc w K)
def iQ(P:Program)(v:Value)(args:List Value)(h:Heap)(K:aL):Prop:=
 match v with
 | .func (.func g) first cap=>aG P g (first.toList++args++cap.toList).toArray h K
 |_=>False
structure PC(v:Value)(A B:Prop):Prop where
 out:∃t:Bool,v= .bool t/\(t=true->A)/\(t=false->B)
structure J5(v:Value)(want:Bool)(A:(aL)->Prop)(h:Heap)(K:aL):Prop where
 out:∃b:Bool,v= .bool b/\(b=want->A K)/\(b≠want->K undef h)
def lA(ρ:Operand->Value)(ty:TypeId):Op->Option (Sem Value)
 | .pick c a b=>some (do pure (if<-asBool (ρ c)then ρ a else ρ b))
 | .nilCheck x=>some (match ρ x with
   | .pointer none| .nilIface| .nilFunc=>runtimePanic .nilDeref
   | .func (.method _) _ _=>stuck "a method value"
   |x=>pure x)
 | .binOp op t x y _=>some (do eqGuard op t x y (ρ x) (ρ y);binOp op t (ρ x) (ρ y))
 | .unOp op _ x=>some (Op.unary op (ρ x))
 | .makeInterface t x=>some (Instr.makeInterface t (ρ x))
 | .makeFunc fn first captured=>some (Instr.makeFunc fn (pw ρ first.toList).toArray (pw ρ captured.toList).toArray)
 | .slice t x lo hi mx=>some (Instr.sliceAt t (ρ x) (lo.map ρ) (hi.map ρ) (mx.map ρ))
 | .fieldAddr s x f=>some (Instr.fieldAt s (ρ x) f)
 | .field t x f=>some (Instr.field t (ρ x) f)
 | .indexAddr t x ix=>some (Instr.indexAt t (ρ x) (ρ ix))
 | .index t x ix=>some (Instr.index t (ρ x) (ρ ix))
 | .extract t ix=>some (Instr.extract (ρ t) ix)
 | .build t parts=>some (Instr.build t (parts.toList.map fun p=>(p.1,ρ p.2)).toArray)
 | .call c=>match c.callee with
   | .builtin .len=>some (Builtin.len_ c.argTypes ty (pw ρ c.args.toList).toArray)
   | .builtin .cap=>some (Builtin.cap_ c.argTypes ty (pw ρ c.args.toList).toArray)
   | .builtin .max=>some (Builtin.max_ c.argTypes ty (pw ρ c.args.toList).toArray)
   | .builtin .min=>some (Builtin.min_ c.argTypes ty (pw ρ c.args.toList).toArray)
   |_=>none
 |_=>none
def qv(ρ:Operand->Value):Op->Option (Sem Value)
 | .load t a=>some (Instr.loadAt t (ρ a))
 | .convert src dst x=>some (convert src dst (ρ x))
 | .lookup t x ix ok=>some (Instr.lookup t (ρ x) (ρ ix) ok)
 | .typeAssert x aey asserted ok=>some (Instr.typeAssert (ρ x) aey asserted ok)
 |_=>none
def Hd(ρ:Operand->Value)(ty:TypeId):Op->Option (Sem Value)
 | .alloc elem=>some (Instr.alloc elem true (.tuple #[]))
 | .box elem x=>some (Instr.box elem (ρ x))
 | .buildSlice t len parts=>some (Instr.buildSlice t len (parts.toList.map fun p=>(p.1,ρ p.2)).toArray)
 | .makeMap t r=>some (Instr.makeMap t (r.map ρ))
 | .makeSlice t l c=>some (Instr.makeSlice t (ρ l) (ρ c))
 | .range t x=>some (Instr.range t (ρ x))
 | .next it isString=>some (Instr.next (ρ it) isString ty)
 | .entry it=>some (Instr.entry (ρ it))
 | .call c=>match c.callee with
   | .builtin .append=>some (Builtin.append_ c.argTypes ty (pw ρ c.args.toList).toArray)
   | .builtin .copy=>some (Builtin.copy_ c.argTypes ty (pw ρ c.args.toList).toArray)
   |_=>none
 |_=>none
def He(ρ:Operand->Value):Op->Option (Sem Unit)
 | .store t a x=>some (Instr.storeAt t (ρ a) (ρ x))
 | .mapUpdate t m k x| .insert t m k x=>some (Instr.mapUpdate t (ρ m) (ρ k) (ρ x))
 |_=>none
def iU:Op->Option Operand
 | .move x| .assign x=>some x
 |_=>none
def mO:Op->Option (Operand×Array Operand)
 | .call c=>match c.callee with
   | .value f=>some (f,c.args)
   |_=>none
 |_=>none
def gM(P:Program)(ρ:Operand->Value)(op:Op)(ty:TypeId)(h:Heap)(K:aL):Prop:=
 match iU op with
 |some x=>K (ρ x) h
 |none=>match mO op with
  |some (f,args)=>iQ P (ρ f) (pw ρ args.toList) h K
  |none=>match lA ρ ty op with
   |some s=>pop P s fun v=>K v h
   |none=>match qv ρ op with
    |some s=>CI P s h fun v=>K v h
    |none=>match Hd ρ ty op with
     |some s=>lQ P s h K
     |none=>match He ρ op with
      |some s=>Hc P s h K
      |none=>False
theorem zJ{P:Program}{f:FuncId}{args:Array Value}{h:Heap}{K K':aL}(hk:∀v h,K v h->K' v h)(H:aG P f args h K):aG P f args h K':=by
 refine⟨fun w hw=> ?_⟩
 rcases H.out w hw with⟨v,w',h1,h2,h3⟩|⟨f',Dc,w',h1,h2,h3⟩
 ·exact .inl ⟨v,w',h1,h2,hk _ _ h3⟩
 ·exact .inr ⟨f',Dc,w',h1,h2,h3.mono fun e w'' ⟨v,a,b,c⟩=>⟨v,a,b,hk _ _ c⟩⟩
theorem px{P:Program}{v:Value}{args:List Value}{h:Heap}{K K':aL}(hk:∀v h,K v h->K' v h)(H:iQ P v args h K):iQ P v args h K':=by
 unfold iQ at*
 split at H
 ·exact zJ hk H
 ·exact H.elim
theorem kN{P:Program}{e:Operand->Value}{op:Op}{ty:TypeId}{h:Heap}{K K':aL}(hk:∀v h,K v h->K' v h)(H:gM P e op ty h K):gM P e op ty h K':=by
 unfold gM at*
 split
 ·rename_i x hx;simp only[hx]at H;exact hk _ _ H
 ·rename_i hx;simp only[hx]at H
  split
  ·rename_i f args hc;simp only[hc]at H;exact px hk H
  ·rename_i hc;simp only[hc]at H
   split
   ·rename_i s hs;simp only[hs]at H;obtain⟨v,a,b⟩:=H;exact⟨v,a,hk _ _ b⟩
   ·rename_i hs;simp only[hs]at H
    split
    ·rename_i s hr;simp only[hr]at H;obtain⟨v,a,b⟩:=H;exact⟨v,a,hk _ _ b⟩
    ·rename_i hr;simp only[hr]at H
     split
     ·rename_i s he;simp only[he]at H
      exact⟨fun w hw=>let⟨v,w',a,b,c⟩:=H.out w hw;⟨v,w',a,b,hk _ _ c⟩⟩
     ·rename_i he;simp only[he]at H
      split
      ·rename_i s hu;simp only[hu]at H
       exact⟨fun w hw=>let⟨w',a,b,c⟩:=H.out w hw;⟨w',a,b,hk _ _ c⟩⟩
      ·rename_i hu;simp only[hu]at H
def Next.PD(P:Program)(w:World)(K:aL):Result Next->Prop
 | .ok (.value v) w'=>dV w w'/\K v w'.heap
 | .ok .skip w'=>dV w w'/\K undef w'.heap
 | .ok (.enter f args) w'=>w'=w/\PB P f args w K
 |_=>False
theorem py{P:Program}{w:World}{K:aL}{s:Sem Value}{v:Value}{w':World}(h:s.run P w= .ok v w')(hs:dV w w')(hk:K v w'.heap):
 Next.PD P w K ((do let x<-s;pure (Next.value x):Sem Next).run P w):=by
 have:((do let x<-s;pure (Next.value x):Sem Next).run P w)= .ok (.value v) w':=by
  show(s.bind fun x=>Sem.pure (Next.value x)).run P w=_
  rw[iq,h];rfl
 rw[this];exact⟨hs,hk⟩
theorem Ui{P:Program}{w:World}{K:aL}{s:Sem Unit}{w':World}(h:s.run P w= .ok () w')(hs:dV w w')(hk:K undef w'.heap):
 Next.PD P w K ((do s;pure Next.skip:Sem Next).run P w):=by
 have:((do s;pure Next.skip:Sem Next).run P w)= .ok .skip w':=by
  show(s.bind fun _=>Sem.pure Next.skip).run P w=_
  rw[iq,h];rfl
 rw[this];exact⟨hs,hk⟩
theorem mP(a:Act)(xs:Array Operand):xs.map a.eval=(pw (ev a.tmps.toList) xs.toList).toArray:=by
 rw[Uh]
 apply Array.ext'
 simp only[Array.toList_map]
 exact pz fun x _=>(fZ a x).symm
theorem mG(a:Act)(xs:Array (Nat×Operand)):(xs.map fun(i,x)=>(i,a.eval x))=(xs.toList.map fun p=>(p.1,ev a.tmps.toList p.2)).toArray:=by
 apply Array.ext'
 simp only[Array.toList_map]
 exact pz fun x _=>by rw[fZ]
theorem yY(a:Act)(x:Option Operand):x.map a.eval=x.map (ev a.tmps.toList):=by
 cases x<;>simp[fZ]
theorem PE{P:Program}{w:World}{c a b v:Value}(h:(do pure (if<-asBool c then a else b):Sem Value).run P w= .ok v w):
 ((do pure (Next.value (if<-asBool c then a else b))):Sem Next).run P w= .ok (.value v) w:=by
 cases c<;>first|(simp[asBool,Sem.run,bind,pure,Sem.bind]at h⊢;exact h)|(simp[asBool,stuck,Sem.run,bind,pure,Sem.bind]at h)
theorem Hf{P:Program}{a:Act}{o:Oper}{w:World}{K:aL}(H:gM P (ev a.tmps.toList) o.op o.type w.heap K):
 Next.PD P w K ((execOp a.eval o).run P w):=by
 obtain⟨dst,op,type,pos,after,guard⟩:=o
 simp only at H
 cases op<;>simp only[gM,iU,mO,lA,qv,Hd,He]at H
 case move x=>simp only[execOp];rw[<-fZ];exact⟨dV.refl w,H⟩
 case assign x=>simp only[execOp];rw[<-fZ];exact⟨dV.refl w,H⟩
 case pick c x y=>
  obtain⟨v,hv,hk⟩:=H
  simp only[execOp,<-fZ]
  rw[PE (hv w)]
  exact⟨dV.refl w,hk⟩
 case nilCheck x=>
  obtain⟨v,hv,hk⟩:=H
  simp only[execOp,<-fZ]
  have hw:=hv w
  generalize ev a.tmps.toList x=u at*
  cases u<;>try (simp only[pure,Sem.run,Result.ok.injEq]at hw;obtain⟨rfl,_⟩:=hw;exact⟨dV.refl w,hk⟩)
  case pointer q=>
   cases q with
   |none=>
    exfalso
    have:∀(e:RuntimeError),(runtimePanic e:Sem Value).run P w≠ .ok v w:=by
     intro e he
     unfold runtimePanic at he
     cases e<;>simp[program,bind,Sem.bind,Sem.run,goPanic]at he
     all_goals (try (repeat (first|split at he|(simp[iq,Result.andThen]at he))))
    exact this _ hw
   |some q=>simp only[pure,Sem.run,Result.ok.injEq]at hw;obtain⟨rfl,_⟩:=hw;exact⟨dV.refl w,hk⟩
  case nilIface=>
   simp[runtimePanic,program,bind,Sem.bind,Sem.run,goPanic]at hw
  case nilFunc=>
   simp[runtimePanic,program,bind,Sem.bind,Sem.run,goPanic]at hw
  case func fn first cap=>
   cases fn<;>first|(simp only[pure,Sem.run,Result.ok.injEq]at hw;obtain⟨rfl,_⟩:=hw;exact⟨dV.refl w,hk⟩)|(simp[stuck,Sem.run]at hw)
 case call c=>
  obtain⟨callee,args,argTypes⟩:=c
  cases callee with
  |value f=>
   simp only at H
   simp only[execOp,resolve,<-fZ,mP]
   unfold iQ at H
   split at H
   ·rename_i g first cap hf
    simp only[hf]
    have e1:(do let d<-Deferred.ofValue (Value.func (.func g) first cap) (pw (ev a.tmps.toList) args.toList).toArray;invoke d.target d.args:Sem Next)=callFunc g ((first++(pw (ev a.tmps.toList) args.toList).toArray)++cap):=rfl
    rw[e1]
    have e2:(first++(pw (ev a.tmps.toList) args.toList).toArray)++cap=(first.toList++pw (ev a.tmps.toList) args.toList++cap.toList).toArray:=by
     apply Array.ext';simp
    rw[e2]
    rcases H.out w rfl with⟨v,w',h1,h2,h3⟩|⟨f',Dc,w',h1,h2,h3⟩
    ·rw[h1];exact⟨h2,h3⟩
    ·rw[h1];exact⟨h2,h3⟩
   ·exact H.elim
  |invoke r m=>simp only at H
  |builtin b=>
   cases b<;>simp only at H<;>
    first
     |exact H.elim
     |(obtain⟨v,hv,hk⟩:=H;simp only[execOp,resolve,mP];exact py (hv w) (dV.refl w) hk)
     |(obtain⟨v,w',h1,h2,h3⟩:=H.out w rfl;simp only[execOp,resolve,mP];exact py h1 h2 h3)
 case build t parts=>
  obtain⟨v,hv,hk⟩:=H
  simp only[execOp]
  rw[mG]
  exact py (hv w) (dV.refl w) hk
 case buildSlice t len parts=>
  obtain⟨v,w',h1,h2,h3⟩:=H.out w rfl
  simp only[execOp]
  rw[mG]
  exact py h1 h2 h3
 all_goals
  first
   |exact H.elim
   |(obtain⟨v,hv,hk⟩:=H;simp only[execOp,<-fZ,mP,mG,yY];exact py (hv w) (dV.refl w) hk)
   |(obtain⟨v,hv,hk⟩:=H;simp only[execOp,<-fZ,mP,mG,yY];exact py (hv w rfl) (dV.refl w) hk)
   |(obtain⟨v,w',h1,h2,h3⟩:=H.out w rfl;simp only[execOp,<-fZ,mP,mG,yY];exact py h1 h2 h3)
   |(obtain⟨w',h1,h2,h3⟩:=H.out w rfl;simp only[execOp,<-fZ,mP,mG,yY];exact Ui h1 h2 h3)
def jh:List Oper->Nat->Option Oper
 |[],_=>none
 |o::_,0=>some o
 |_::os,n+1=>jh os n
def zK(ops:List Oper)(j:Nat):Option Tmp:=
 match jh ops j with
 |some o=>o.dst
 |none=>none
def tQ(ops:List Oper)(e:Env)(j:Nat):Value:=
 match zK ops j with
 |some t=>ga e t
 |none=>undef
def ND(v:Value)(want:Bool):Value:=match v with
 | .bool b=> .bool b
 |_=> .bool (!want)
theorem YG{v:Value}{want b:Bool}(h:ND v want= .bool b)(hv:∀c,v≠ .bool c):b≠want:=by
 unfold ND at h
 cases v<;>first
  |exact absurd rfl (hv _)
  |(simp only[Value.bool.injEq]at h;subst h;cases want<;>decide)
def lC(P:Program)(ops:List Oper)(e:Env)(h:Heap)(o:Oper)(k:aL):Prop:=
 match o.guard with
 |none=>gM P (ev e) o.op o.type h k
 |some (j,want)=>J5 (ND (tQ ops e j) want) want (gM P (ev e) o.op o.type h) h k
def wpIn(P:Program)(ops:List Oper):List Oper->Env->Heap->(Env->Heap->Prop)->Prop
 |[],e,h,K=>K e h
 |o::os,e,h,K=>lC P ops e h o fun v h'=>wpIn P ops os (put e o.dst v) h' K
theorem r8(ops:Array Oper)(i:Nat):jh ops.toList i=ops[i]?:=by
 have key:∀(l:List Oper)(i:Nat),jh l i=l[i]?:=by
  intro l
  induction l with
  |nil=>intro i;simp[jh]
  |cons x xs ih=>intro i;cases i<;>simp[jh,ih]
 rw[key];simp
theorem NE{ops:Array Oper}{a:Act}{j:Nat}{b:Bool}(h:tQ ops.toList a.tmps.toList j= .bool b):yielded ops a.tmps j=some b:=by
 unfold tQ zK at h
 rw[r8]at h
 unfold yielded
 cases ho:ops[j]? with
 |none=>rw[ho]at h;simp[undef]at h
 |some o=>
  rw[ho]at h
  simp only at h
  cases hd:o.dst with
  |none=>rw[hd]at h;simp[undef]at h
  |some t=>
   rw[hd]at h
   simp only[lz]at h
   simp only[Option.bind_some,hd]
   cases ht:a.tmps[t]? with
   |none=>simp[Array.getD_eq_getD_getElem?,ht,undef]at h
   |some v=>simp[Array.getD_eq_getD_getElem?,ht]at h;rw[h]
theorem NF{ops:Array Oper}{a:Act}{j:Nat}(h:∀b,tQ ops.toList a.tmps.toList j≠ .bool b):yielded ops a.tmps j=none:=by
 unfold tQ zK at h
 rw[r8]at h
 unfold yielded
 cases ho:ops[j]? with
 |none=>simp
 |some o=>
  rw[ho]at h
  simp only at h
  cases hd:o.dst with
  |none=>simp[hd]
  |some t=>
   rw[hd]at h
   simp only[lz]at h
   simp only[Option.bind_some,hd]
   cases ht:a.tmps[t]? with
   |none=>rfl
   |some v=>
    cases v with
    |bool b=>exact absurd (by simp[Array.getD_eq_getD_getElem?,ht]) (h b)
    |_=>rfl
theorem tE{P:Program}{ops:Array Oper}{Q:Exit->Act->World->Prop}{i:Nat}{o:Oper}{a:Act}{w:World}{K:Act->World->Prop}(ho:ops[i]?=some o)
 (H:lC P ops.toList a.tmps.toList w.heap o fun v h'=>∀w',dV w w'->w'.heap=h'->K (a.put o.dst v) w'):wpOp P ops Q i K a w:=by
 have key:(gM P (ev a.tmps.toList) o.op o.type w.heap fun v h'=>∀w',dV w w'->w'.heap=h'->K (a.put o.dst v) w')->o.wp P a w K Q:=by
  intro hx
  have hg:=Hf hx
  unfold Oper.wp
  generalize (execOp a.eval o).run P w=r at*
  cases r with
  |halt x w'=>exact hg.elim
  |ok n w'=>
   cases n<;>first
    |exact hg.elim
    |exact hg.2 _ hg.1 rfl
    |(obtain⟨rfl,hc⟩:=hg
      exact hc.mono fun e w'' ⟨v,he,hs,hk⟩=>by subst he;exact hk _ hs rfl)
 unfold wpOp
 simp only[ho]
 unfold lC at H
 cases hgd:o.guard with
 |none=>
  simp only[hgd]at H
  simp only[Region.wanted,hgd,jJ]
  exact .inl (key H)
 |some p=>
  obtain⟨j,want⟩:=p
  simp only[hgd]at H
  obtain⟨b,hb,h1,h2⟩:=H
  by_cases hv:∃c,tQ ops.toList a.tmps.toList j= .bool c
  ·obtain⟨c,hc⟩:=hv
   have hbc:c=b:=by
    rw[hc]at hb
    simpa[ND]using hb
   subst hbc
   have hy:=NE hc
   simp only[Region.wanted,hgd,hy]
   by_cases J6:c=want
   ·subst J6
    simp only[beq_self_eq_true,jJ]
    exact .inl (key (h1 rfl))
   ·have:(some c==some want)=false:=by simpa using J6
    simp only[this,vX,gB]
    exact h2 J6 w (dV.refl w) rfl
  ·have fL:=YG hb fun c hc=>hv ⟨c,hc⟩
   have hy:=NF fun c hc=>hv ⟨c,hc⟩
   simp only[Region.wanted,hgd,hy]
   have:((none:Option Bool)==some want)=false:=rfl
   simp only[this,vX,gB]
   exact h2 fL w (dV.refl w) rfl
theorem jN{P:Program}{ops:List Oper}{e:Env}{h:Heap}{o:Oper}{k k':aL}(hk:∀v h,k v h->k' v h)(H:lC P ops e h o k):lC P ops e h o k':=by
 unfold lC at*
 cases hg:o.guard with
 |none=>simp only[hg]at H⊢;exact kN hk H
 |some p=>
  obtain⟨j,want⟩:=p
  simp only[hg]at H⊢
  obtain⟨b,hb,h1,h2⟩:=H
  exact⟨b,hb,fun e=>kN hk (h1 e),fun e=>hk _ _ (h2 e)⟩
def lB:List Bool->Nat->Bool->Bool
 |[],_,d=>d
 |b::_,0,_=>b
 |_::bs,n+1,d=>lB bs n d
def j3:List Bool->Nat->List Bool
 |[],_=>[]
 |_::bs,0=>true::bs
 |b::bs,n+1=>b::j3 bs n
def iN(l:List Bool)(o:Oper)(i:Nat):Bool:=
 !lB l i true&&o.after.toList.all fun e=> !Region.binds .any e||lB l e.on false
def bW:List Oper->Nat->List Bool->List (Nat×Oper)
 |[],_,_=>[]
 |o::os,i,l=>match iN l o i with
  |true=>(i,o)::bW os (i+1) l
  |false=>bW os (i+1) l
def gO:Operand->Value:=fun _=>undef
def xZ(op:Op):Bool:=(iU op).isSome||((mO op).isNone&&(lA gO 0 op).isSome)
def CD(op:Op):Bool:=(iU op).isNone&&((mO op).isNone&&((lA gO 0 op).isNone&&(qv gO op).isSome))
def eD:List (Nat×Oper)->Option (Nat×Oper)
 |[]=>none
 |(i,o)::r=>match xZ o.op||CD o.op with
  |true=>some (i,o)
  |false=>eD r
def li(o:Oper)(i:Nat):Bool:=o.after.toList.any fun e=>Region.binds .any e&&Nat.beq e.on i
def looks(ops:List Oper)(o:Oper):List Tmp:=
 (o.op.operands.toList.filterMap fun| .tmp t=>some t|_=>none)++
 (match o.guard with
  |some (g,_)=>(zK ops g).toList
  |none=>[])
def gf:List Nat->Nat->Bool
 |[],_=>false
 |x::xs,n=>Nat.beq x n||gf xs n
def zM(ops:List Oper)(x y:Oper):Bool:=
 (match x.dst with
  |some d=> ! gf (looks ops y) d&&(match y.dst with|some d'=> !Nat.beq d d'|none=>true)
  |none=>true)&&
 (match y.dst with
  |some d=> ! gf (looks ops x) d
  |none=>true)
def sa(ops:List Oper)(x:Oper)(i:Nat):List Oper->Bool
 |[]=>true
 |y::ys=>(zM ops x y||li y i)&&sa ops x i ys
def gU(ops:List Oper):List Oper->Nat->Bool
 |[],_=>true
 |x::xs,i=>sa ops x i xs&&gU ops xs (i+1)
abbrev mg:=List (Nat×(Heap->Prop))
def Yx(P:Program)(e:Operand->Value)(op:Op)(ty:TypeId)(g:Heap)(v:Value):Prop:=
 match iU op with
 |some x=>v=e x
 |none=>match lA e ty op with
  |some s=>∀w,s.run P w= .ok v w
  |none=>match qv e op with
   |some s=>∀w:World,w.heap=g->s.run P w= .ok v w
   |none=>False
def Yv(P:Program)(ops:List Oper)(e:Env)(g:Heap)(o:Oper)(v:Value):Prop:=
 match o.guard with
 |none=>Yx P (ev e) o.op o.type g v
 |some (j,want)=>∃b:Bool,ND (tQ ops e j) want= .bool b/\(b=want->Yx P (ev e) o.op o.type g v)/\(b≠want->v=undef)
def pA:List Edge->List Nat
 |[]=>[]
 |e::es=>match Region.binds .any e with
  |true=>e.on::pA es
  |false=>pA es
def YH:List Nat->List Nat->List Nat
 |[],b=>b
 |x::a,b=>x::YH a b
def anc(ops:List Oper):Nat->List Nat->List Nat->List Nat
 |0,_,seen=>seen
 |_+1,[],seen=>seen
 |n+1,i::todo,seen=>match gf seen i with
  |true=>anc ops n todo seen
  |false=>match jh ops i with
   |some o=>anc ops n (YH (pA o.after.toList) todo) (i::seen)
   |none=>anc ops n todo (i::seen)
def ya(ops:List Oper)(o:Oper):List Nat:=anc ops 2000 (pA o.after.toList) []
def tF(bf:List Nat):mg->mg
 |[]=>[]
 |(i,p)::S=>match gf bf i with
  |true=>tF bf S
  |false=>(i,p)::tF bf S
def nH(ops:List Oper)(o:Oper)(S:mg):mg:=tF (ya ops o) S
def PF(h:Heap)(K:Prop):mg->Prop
 |[]=>K
 |(_,p)::S=>p h/\PF h K S
def J7(f:Nat->Oper->Prop):List (Nat×Oper)->Prop
 |[]=>True
 |[(i,o)]=>f i o
 |(i,o)::r=>f i o/\J7 f r
def nY(P:Program)(ops:List Oper)(K:Env->Heap->Prop):Nat->List Bool->Env->Heap->mg->Prop
 |0,l,e,h,_=>match bW ops 0 l with
  |[]=>K e h
  |_::_=>False
 |n+1,l,e,h,S=>match eD (bW ops 0 l)with
  |some (i,o)=>match xZ o.op with
   |true=>lC P ops e h o fun v h'=>nY P ops K n (j3 l i) (put e o.dst v) h' S
   |false=>lC P ops e h o fun v h'=>nY P ops K n (j3 l i) (put e o.dst v) h' ((i,fun g=>Yv P ops e g o v)::S)
  |none=>match bW ops 0 l with
   |[]=>K e h
   |r::rs=>J7 (fun i o=>lC P ops e h o fun v h'=>PF h' (nY P ops K n (j3 l i) (put e o.dst v) h' (nH ops o S)) (nH ops o S)) (r::rs)
def CJ(P:Program)(ops:List Oper)(K:Env->Heap->Prop):Nat->List Bool->Env->Heap->mg->Prop
 |0,l,e,h,_=>bW ops 0 l=[]/\K e h
 |n+1,l,e,h,S=>(bW ops 0 l=[]->K e h)/\∀i o,(i,o)∈bW ops 0 l->lC P ops e h o fun v h'=>
  ((xZ o.op||CD o.op)=true->CJ P ops K n (j3 l i) (put e o.dst v) h' S)/\
  ((xZ o.op||CD o.op)=false->(∀s,s∈nH ops o S->s.2 h')/\CJ P ops K n (j3 l i) (put e o.dst v) h' (nH ops o S))
theorem tS:∀(l:List Bool)(i j:Nat)(d:Bool),i≠j->lB (j3 l i) j d=lB l j d
 |[],_,_,_,_=>rfl
 |_::_,0,0,_,h=>absurd rfl h
 |_::_,0,_+1,_,_=>rfl
 |_::_,_+1,0,_,_=>rfl
 |_::bs,n+1,m+1,d,h=>by simp only[j3,lB];exact tS bs n m d (by omega)
theorem pB:∀(l:List Bool)(i j:Nat),lB l j false=true->lB (j3 l i) j false=true
 |[],_,_,h=>h
 |_::_,0,0,_=>rfl
 |_::_,0,_+1,h=>h
 |_::_,_+1,0,h=>h
 |_::bs,n+1,m+1,h=>by simp only[j3,lB]at*;exact pB bs n m h
theorem vY:∀(l:List Bool)(i j:Nat),j3 (j3 l i) j=j3 (j3 l j) i
 |[],_,_=>rfl
 |_::_,0,0=>rfl
 |_::_,0,_+1=>rfl
 |_::_,_+1,0=>rfl
 |_::bs,n+1,m+1=>by simp only[j3];rw[vY bs n m]
theorem nZ:∀(l:List Bool)(i:Nat),lB l i true=false->lB l i false=false
 |[],_,h=>by simp[lB]at h
 |_::_,0,h=>h
 |_::bs,n+1,h=>nZ bs n h
theorem qg:∀(ops:List Oper)(k:Nat)(l:List Bool)(i:Nat)(o:Oper),(i,o)∈bW ops k l↔∃j,i=k+j/\jh ops j=some o/\iN l o i=true
 |[],_,_,_,_=>by simp[bW,jh]
 |x::xs,k,l,i,o=>by
  have ih:=qg xs (k+1) l i o
  have hh:(∃j,i=k+j/\jh (x::xs) j=some o/\iN l o i=true)↔((i=k/\x=o/\iN l o i=true)\/(∃j,i=k+1+j/\jh xs j=some o/\iN l o i=true)):=by
   constructor
   ·rintro⟨j,hj,ho,hr⟩
    cases j with
    |zero=>simp only[jh,dC]at ho;exact .inl ⟨by omega,ho,hr⟩
    |succ j=>exact .inr ⟨j,by omega,ho,hr⟩
   ·rintro(⟨h1,h2,h3⟩|⟨j,hj,ho,hr⟩)
    ·exact⟨0,by omega,by simp[jh,h2],h3⟩
    ·exact⟨j+1,by omega,ho,hr⟩
  rw[hh,<-ih]
  have hu:bW (x::xs) k l=match iN l x k with
   |true=>(k,x)::bW xs (k+1) l
   |false=>bW xs (k+1) l:=rfl
  rw[hu]
  cases hr:iN l x k with
  |true=>
   simp only[aO,fH]
   constructor
   ·rintro(⟨rfl,rfl⟩|h)
    ·exact .inl ⟨rfl,rfl,hr⟩
    ·exact .inr h
   ·rintro(⟨rfl,rfl,_⟩|h)
    ·exact .inl ⟨rfl,rfl⟩
    ·exact .inr h
  |false=>
   constructor
   ·exact .inr
   ·rintro(⟨rfl,rfl,h3⟩|h)
    ·rw[hr]at h3;cases h3
    ·exact h
theorem dS{ops:List Oper}{l:List Bool}{i:Nat}{o:Oper}:(i,o)∈bW ops 0 l↔jh ops i=some o/\iN l o i=true:=by
 rw[qg]
 constructor
 ·rintro⟨j,h1,h2,h3⟩;obtain rfl:i=j:=by omega
  exact⟨h2,h3⟩
 ·rintro⟨h2,h3⟩;exact⟨i,by omega,h2,h3⟩
theorem jO{l:List Bool}{o:Oper}{i:Nat}:iN l o i=true↔lB l i true=false/\∀e,e∈o.after->Region.binds .any e=true->lB l e.on false=true:=by
 unfold iN
 simp only[bD,gV,js,Bool.or_eq_true,Array.mem_toList_iff]
 constructor
 ·rintro⟨h1,h2⟩
  refine⟨h1,fun e he hb=> ?_⟩
  rcases h2 e he with h|h
  ·rw[hb]at h;cases h
  ·exact h
 ·rintro⟨h1,h2⟩
  refine⟨h1,fun e he=> ?_⟩
  cases hb:Region.binds .any e with
  |false=>exact .inl rfl
  |true=>exact .inr (h2 e he hb)
theorem qE{l:List Bool}{o:Oper}{i j:Nat}(h:iN l o j=true)(fL:j≠i):iN (j3 l i) o j=true:=by
 rw[jO]at*
 exact⟨by rw[tS _ _ _ _ (Ne.symm fL)];exact h.1,fun e he hb=>pB _ _ _ (h.2 e he hb)⟩
theorem LX{l:List Bool}{o:Oper}{i j:Nat}(h:iN l o j=true)(hi:lB l i true=false):li o i=false:=by
 rw[jO]at h
 cases hh:li o i with
 |false=>rfl
 |true=>
  unfold li at hh
  rw[List.any_eq_true]at hh
  obtain⟨e,he,h2⟩:=hh
  simp only[bD]at h2
  have hon:e.on=i:=ft h2.2
  have:=h.2 e (by simpa using he) h2.1
  rw[hon,nZ _ _ hi]at this
  cases this
theorem nI(e e':Operand->Value)(ty ty':TypeId)(op:Op):(lA e ty op).isSome=(lA e' ty' op).isSome:=by
 cases op<;>try rfl
 case call c=>
  obtain⟨callee,args,argTypes⟩:=c
  cases callee<;>try rfl
  case builtin b=>cases b<;>rfl
theorem Hg(e e':Operand->Value)(op:Op):(qv e op).isSome=(qv e' op).isSome:=by cases op<;>rfl
theorem iV{P:Program}{e:Operand->Value}{op:Op}{ty:TypeId}{h:Heap}{k:aL}(hq:(xZ op||CD op)=true):gM P e op ty h k↔∃v,Yx P e op ty h v/\k v h:=by
 unfold gM Yx
 cases hm:iU op with
 |some x=>simp
 |none=>
  simp only[xZ,CD,hm]at hq
  cases hc:mO op with
  |some c=>simp[hc]at hq
  |none=>
   simp only[hc]at hq
   cases hp:lA e ty op with
   |some s=>exact⟨fun h=>h.out,fun h=>⟨h⟩⟩
   |none=>
    have h0:(lA gO 0 op).isSome=false:=by rw[nI gO e 0 ty,hp];rfl
    cases hr:qv e op with
    |some s=>exact⟨fun h=>h.out,fun h=>⟨h⟩⟩
    |none=>
     have h1:(qv gO op).isSome=false:=by rw[Hg gO e,hr];rfl
     have h0':lA gO 0 op=none:=by simpa using h0
     have YI:qv gO op=none:=by simpa using h1
     simp[h0',YI]at hq
theorem lD{P:Program}{ops:List Oper}{e:Env}{h:Heap}{o:Oper}{k:aL}(hq:(xZ o.op||CD o.op)=true):lC P ops e h o k↔∃v,Yv P ops e h o v/\k v h:=by
 unfold lC Yv
 cases hg:o.guard with
 |none=>exact iV hq
 |some p=>
  obtain⟨j,want⟩:=p
  constructor
  ·rintro⟨b,hb,h1,h2⟩
   by_cases J6:b=want
   ·obtain⟨v,hv,hk⟩:=(iV hq).1 (h1 J6)
    exact⟨v,⟨b,hb,fun _=>hv,fun h=>absurd J6 h⟩,hk⟩
   ·exact⟨undef,⟨b,hb,fun h=>absurd h J6,fun _=>rfl⟩,h2 J6⟩
  ·rintro⟨v,⟨b,hb,h1,h2⟩,hk⟩
   exact⟨b,hb,fun he=>(iV hq).2 ⟨v,h1 he,hk⟩,fun he=>by rw[<-h2 he];exact hk⟩
theorem LY{P:Program}{e:Operand->Value}{op:Op}{ty:TypeId}{h:Heap}{v:Value}(hq:xZ op=true)(H:Yx P e op ty h v)(g:Heap):Yx P e op ty g v:=by
 unfold Yx at*
 cases hm:iU op with
 |some x=>simpa[hm]using H
 |none=>
  simp only[hm]at H⊢
  cases hp:lA e ty op with
  |some s=>simpa[hp]using H
  |none=>
   have h0:(lA gO 0 op).isSome=false:=by rw[nI gO e 0 ty,hp];rfl
   simp[xZ,hm,h0]at hq
theorem Uj{P:Program}{ops:List Oper}{e:Env}{h:Heap}{o:Oper}{v:Value}(hq:xZ o.op=true)(H:Yv P ops e h o v)(g:Heap):Yv P ops e g o v:=by
 unfold Yv at*
 cases hg:o.guard with
 |none=>simp only[hg]at H⊢;exact LY hq H g
 |some p=>
  obtain⟨j,want⟩:=p
  simp only[hg]at H⊢
  obtain⟨b,hb,h1,h2⟩:=H
  exact⟨b,hb,fun e=>LY hq (h1 e) g,h2⟩
theorem kO{e e':Operand->Value}:∀(l:List Operand),(∀x,x∈l->e x=e' x)->pw e l=pw e' l
 |[],_=>rfl
 |x::xs,h=>by simp only[pw];rw[h x (by simp),kO xs fun y hy=>h y (by simp[hy])]
theorem yb{e e':Operand->Value}(ps:Array (Nat×Operand))(h:∀x,x∈(ps.toList.map (·.2))->e x=e' x):(ps.toList.map fun p=>(p.1,e p.2))=(ps.toList.map fun p=>(p.1,e' p.2)):=
 pz fun p hp=>by rw[h p.2 (dL.2 ⟨p,hp,rfl⟩)]
theorem sf{e e':Operand->Value}(x:Option Operand)(h:∀y,y∈x.toArray->e y=e' y):x.map e=x.map e':=by
 cases x with
 |none=>rfl
 |some y=>simp[h y (by simp)]
theorem tT{e e':Operand->Value}{ty:TypeId}{op:Op}(h:∀x,x∈op.operands->e x=e' x):lA e ty op=lA e' ty op:=by
 cases op<;>simp only[Op.operands]at h<;>simp only[lA]
 case pick c a b=>rw[h c (by simp),h a (by simp),h b (by simp)]
 case nilCheck x=>rw[h x (by simp)]
 case binOp op t x y u=>rw[h x (by simp),h y (by simp)]
 case unOp op t x=>rw[h x (by simp)]
 case makeInterface t x=>rw[h x (by simp)]
 case makeFunc fn first cap=>rw[kO first.toList fun x hx=>h x (by simp at hx;simp[hx]),kO cap.toList fun x hx=>h x (by simp at hx;simp[hx])]
 case slice t x lo hi mx=>rw[h x (by simp),sf lo fun y hy=>h y (by simp[hy]),sf hi fun y hy=>h y (by simp[hy]),sf mx fun y hy=>h y (by simp[hy])]
 case fieldAddr s x f=>rw[h x (by simp)]
 case field t x f=>rw[h x (by simp)]
 case indexAddr t x ix=>rw[h x (by simp),h ix (by simp)]
 case index t x ix=>rw[h x (by simp),h ix (by simp)]
 case extract t ix=>rw[h t (by simp)]
 case build t parts=>rw[yb parts fun x hx=>h x (by simpa using hx)]
 case call c=>
  have:pw e c.args.toList=pw e' c.args.toList:=kO _ fun x hx=>h x (by simp at hx;simp[Call.operands,hx])
  rw[this]
theorem pC{e e':Operand->Value}{op:Op}(h:∀x,x∈op.operands->e x=e' x):qv e op=qv e' op:=by
 cases op<;>simp only[Op.operands]at h<;>simp only[qv]
 case load t x=>rw[h x (by simp)]
 case convert s d x=>rw[h x (by simp)]
 case lookup t x ix ok=>rw[h x (by simp),h ix (by simp)]
 case typeAssert x a b c=>rw[h x (by simp)]
theorem zN{e e':Operand->Value}{ty:TypeId}{op:Op}(h:∀x,x∈op.operands->e x=e' x):Hd e ty op=Hd e' ty op:=by
 cases op<;>simp only[Op.operands]at h<;>simp only[Hd]
 case box t x=>rw[h x (by simp)]
 case buildSlice t n parts=>rw[yb parts fun x hx=>h x (by simpa using hx)]
 case makeMap t r=>rw[sf r h]
 case makeSlice t l c=>rw[h l (by simp),h c (by simp)]
 case range t x=>rw[h x (by simp)]
 case next it b=>rw[h it (by simp)]
 case entry it=>rw[h it (by simp)]
 case call c=>
  have:pw e c.args.toList=pw e' c.args.toList:=kO _ fun x hx=>h x (by simp at hx;simp[Call.operands,hx])
  rw[this]
theorem zO{e e':Operand->Value}{op:Op}(h:∀x,x∈op.operands->e x=e' x):He e op=He e' op:=by
 cases op<;>simp only[Op.operands]at h<;>simp only[He]
 case store t a x=>rw[h a (by simp),h x (by simp)]
 case mapUpdate t m k x=>rw[h m (by simp),h k (by simp),h x (by simp)]
 case insert t m k x=>rw[h m (by simp),h k (by simp),h x (by simp)]
theorem zP{op:Op}{x:Operand}(h:iU op=some x):x∈op.operands:=by
 cases op<;>simp[iU]at h<;>simp[Op.operands,h]
theorem J8{op:Op}{f:Operand}{args:Array Operand}(h:mO op=some (f,args)):f∈op.operands/\∀x,x∈args->x∈op.operands:=by
 cases op<;>simp[mO]at h
 case call c=>
  obtain⟨callee,as,ts⟩:=c
  cases callee<;>simp at h
  obtain⟨rfl,rfl⟩:=h
  exact⟨by simp[Op.operands,Call.operands],fun x hx=>by simp[Op.operands,Call.operands,hx]⟩
theorem yc{P:Program}{e e':Operand->Value}{op:Op}{ty:TypeId}{h:Heap}{k:aL}(H:∀x,x∈op.operands->e x=e' x):gM P e op ty h k=gM P e' op ty h k:=by
 unfold gM
 cases hm:iU op with
 |some x=>simp only[H x (zP hm)]
 |none=>
  cases hc:mO op with
  |some p=>
   obtain⟨f,args⟩:=p
   obtain⟨h1,h2⟩:=J8 hc
   simp only[H f h1,kO args.toList fun x hx=>H x (h2 x (by simpa using hx))]
  |none=>simp only[tT (ty:=ty) H,pC H,zN (ty:=ty) H,zO H]
theorem Hh{P:Program}{e e':Operand->Value}{op:Op}{ty:TypeId}{g:Heap}{v:Value}(H:∀x,x∈op.operands->e x=e' x):Yx P e op ty g v=Yx P e' op ty g v:=by
 unfold Yx
 cases hm:iU op with
 |some x=>simp only[H x (zP hm)]
 |none=>simp only[tT (ty:=ty) H,pC H]
theorem zQ:∀(l:List Nat)(n:Nat),gf l n=false->n∉l
 |[],_,_=>by simp
 |x::xs,n,h=>by
  simp only[gf,Bool.or_eq_false_iff]at h
  have h1:x≠n:=fun e=>by subst e;simp at h
  simp only[aO,not_or]
  exact⟨fun e=>h1 e.symm,zQ xs n h.2⟩
def qF(ops:List Oper)(dst:Option Tmp)(o:Oper):Prop:=∀d,dst=some d->d∉looks ops o
theorem YJ{e:Env}{dst:Option Tmp}{u:Value}{x:Operand}(h:∀d,dst=some d->x≠ .tmp d):ev (put e dst u) x=ev e x:=by
 cases dst with
 |none=>rfl
 |some d=>
  cases x with
  |tmp t=>simp only[put,ev];exact gA _ _ _ _ fun he=>h d rfl (by rw[he])
  |_=>rfl
theorem sr{ops:List Oper}{o:Oper}{dst:Option Tmp}{e:Env}{u:Value}(h:qF ops dst o):∀x,x∈o.op.operands->ev (put e dst u) x=ev e x:=by
 intro x hx
 refine YJ fun d hd Uk=>h d hd ?_
 subst Uk
 unfold looks
 exact zR _ (List.mem_filterMap.2 ⟨.tmp d,by simpa using hx,rfl⟩)
theorem yd{ops:List Oper}{o:Oper}{dst:Option Tmp}{e:Env}{u:Value}(h:qF ops dst o){j:Nat}{want:Bool}(hg:o.guard=some (j,want)):tQ ops (put e dst u) j=tQ ops e j:=by
 unfold tQ
 cases ht:zK ops j with
 |none=>rfl
 |some t=>
  cases dst with
  |none=>rfl
  |some d=>
   simp only[put]
   refine gA _ _ _ _ fun he=>h d rfl ?_
   unfold looks
   rw[hg]
   simp[ht,he]
theorem NG{P:Program}{ops:List Oper}{e:Env}{h:Heap}{o:Oper}{k:aL}{dst:Option Tmp}{u:Value}(hu:qF ops dst o):lC P ops (put e dst u) h o k=lC P ops e h o k:=by
 unfold lC
 cases hg:o.guard with
 |none=>exact yc (sr hu)
 |some p=>
  obtain⟨j,want⟩:=p
  have h2:gM P (ev (put e dst u)) o.op o.type h=gM P (ev e) o.op o.type h:=funext fun _=>yc (sr hu)
  simp only[yd hu hg,h2]
theorem ED{P:Program}{ops:List Oper}{e:Env}{g:Heap}{o:Oper}{v:Value}{dst:Option Tmp}{u:Value}(hu:qF ops dst o):Yv P ops (put e dst u) g o v=Yv P ops e g o v:=by
 unfold Yv
 cases hg:o.guard with
 |none=>exact Hh (sr hu)
 |some p=>
  obtain⟨j,want⟩:=p
  simp only[yd hu hg,Hh (sr hu)]
theorem put_comm{e:Env}{x y:Option Tmp}{u v:Value}(h:∀d,x=some d->y≠some d):put (put e x u) y v=put (put e y v) x u:=by
 cases x with
 |none=>rfl
 |some d=>
  cases y with
  |none=>rfl
  |some d'=>
   have fL:d≠d':=fun he=>h d rfl (by rw[he])
   simp only[put,Db]
   exact List.set_comm _ _ fL
theorem apart_spec{ops:List Oper}{x y:Oper}(h:zM ops x y=true):qF ops x.dst y/\(∀d,x.dst=some d->y.dst≠some d)/\qF ops y.dst x:=by
 unfold zM at h
 simp only[bD]at h
 obtain⟨h1,h2⟩:=h
 refine⟨fun d hd=> ?_,fun d hd hy=> ?_,fun d hd=> ?_⟩
 ·rw[hd]at h1
  simp only[bD,gV]at h1
  exact zQ _ _ h1.1
 ·rw[hd,hy]at h1
  simp at h1
 ·rw[hd]at h2
  simp only[gV]at h2
  exact zQ _ _ h2
theorem qG{ops:List Oper}{x:Oper}{i:Nat}:∀(l:List Oper),sa ops x i l=true->∀j y,jh l j=some y->zM ops x y=true\/li y i=true
 |[],_,j,y,hy=>by simp[jh]at hy
 |z::zs,h,j,y,hy=>by
  simp only[sa,bD,Bool.or_eq_true]at h
  cases j with
  |zero=>simp only[jh,dC]at hy;subst hy;exact h.1
  |succ j=>exact qG zs h.2 j y hy
theorem mQ{ops:List Oper}:∀(l:List Oper)(k:Nat),gU ops l k=true->∀i j x y,i<j->jh l i=some x->jh l j=some y->zM ops x y=true\/li y (k+i)=true
 |[],_,_,i,j,x,y,_,hx,_=>by simp[jh]at hx
 |z::zs,k,h,i,j,x,y,hij,hx,hy=>by
  simp only[gU,bD]at h
  cases j with
  |zero=>omega
  |succ j=>
   cases i with
   |zero=>
    simp only[jh,dC]at hx
    subst hx
    exact qG zs h.1 j y hy
   |succ i=>
    have:=mQ zs (k+1) h.2 i j x y (by omega) hx hy
    rw[show k+(i+1)=k+1+i by omega]
    exact this
theorem PG{ops:List Oper}(hp:gU ops ops 0=true){i j:Nat}{x y:Oper}(hx:jh ops i=some x)(hy:jh ops j=some y)(fL:j≠i)(h1:li y i=false)(h2:li x j=false):
 qF ops x.dst y/\(∀d,x.dst=some d->y.dst≠some d)/\qF ops y.dst x:=by
 rcases Nat.lt_or_gt_of_ne fL with h|h
 ·rcases mQ ops 0 hp j i y x h hy hx with h3|h3
  ·obtain⟨a,b,c⟩:=apart_spec h3
   exact⟨c,fun d hd TN=>b d TN hd,a⟩
  ·rw[iO,h2]at h3;cases h3
 ·rcases mQ ops 0 hp i j x y h hx hy with h3|h3
  ·exact apart_spec h3
  ·rw[iO,h1]at h3;cases h3
theorem Dd{bf:List Nat}{s:Nat×(Heap->Prop)}:∀{S:mg},s∈tF bf S↔s∈S/\gf bf s.1=false
 |[]=>by simp[tF]
 |(i,p)::S=>by
  have ih:=Dd (bf:=bf) (s:=s) (S:=S)
  unfold tF
  cases h:gf bf i with
  |true=>
   simp only[ih,aO]
   constructor
   ·rintro⟨a,b⟩;exact⟨.inr a,b⟩
   ·rintro⟨a|a,b⟩
    ·subst a;rw[h]at b;cases b
    ·exact⟨a,b⟩
  |false=>
   simp only[aO,ih]
   constructor
   ·rintro(a|⟨a,b⟩)
    ·subst a;exact⟨.inl rfl,h⟩
    ·exact⟨.inr a,b⟩
   ·rintro⟨a|a,b⟩
    ·exact .inl a
    ·exact .inr ⟨a,b⟩
theorem NH{ops:List Oper}{o:Oper}{s:Nat×(Heap->Prop)}{S:mg}:s∈nH ops o S↔s∈S/\gf (ya ops o) s.1=false:=Dd
def nJ(ops:List Oper)(l:List Bool):Prop:=∀j o,jh ops j=some o->lB l j false=true->∀x,x∈pA o.after.toList->lB l x false=true
theorem tU:∀{es:List Edge}{x:Nat},x∈pA es->∃e,e∈es/\Region.binds .any e=true/\e.on=x
 |[],x,h=>by simp[pA]at h
 |e::es,x,h=>by
  unfold pA at h
  cases hb:Region.binds .any e with
  |true=>
   rw[hb]at h
   rcases aO.1 h with rfl|h
   ·exact⟨e,by simp,hb,rfl⟩
   ·obtain⟨f,h1,h2⟩:=tU h
    exact⟨f,by simp[h1],h2⟩
  |false=>
   rw[hb]at h
   obtain⟨f,h1,h2⟩:=tU h
   exact⟨f,by simp[h1],h2⟩
theorem ye{l:List Bool}{o:Oper}{i:Nat}(h:iN l o i=true):∀x,x∈pA o.after.toList->lB l x false=true:=fun x hx=>by
 obtain⟨e,h1,h2,h3⟩:=tU hx
 rw[<-h3]
 exact(jO.1 h).2 e (by simpa using h1) h2
theorem nJ.set{ops:List Oper}{l:List Bool}(C:nJ ops l){i:Nat}{o:Oper}(ho:jh ops i=some o)(hr:iN l o i=true):nJ ops (j3 l i):=fun j o' ho' hj x hx=>by
 refine pB _ _ _ ?_
 by_cases h:j=i
 ·subst h
  rw[ho]at ho'
  have:=bI ho'
  subst this
  exact ye hr x hx
 ·rw[tS _ _ _ _ (Ne.symm h)]at hj
  exact C j o' ho' hj x hx
theorem Hj:∀{a b:List Nat}{x:Nat},x∈YH a b->x∈a\/x∈b
 |[],b,x,h=> .inr h
 |y::a,b,x,h=>by
  rcases aO.1 h with rfl|h
  ·exact .inl (by simp)
  ·rcases Hj h with h|h
   ·exact .inl (by simp[h])
   ·exact .inr h
theorem Hk:∀{l:List Nat}{i:Nat},gf l i=true->i∈l
 |[],i,h=>by simp[gf]at h
 |x::l,i,h=>by
  simp only[gf,Bool.or_eq_true]at h
  rcases h with h|h
  ·have:=ft h;subst this;simp
  ·simp[Hk h]
theorem uN{ops:List Oper}{l:List Bool}(C:nJ ops l):∀{n:Nat}{todo seen:List Nat},(∀x,x∈todo->lB l x false=true)->(∀x,x∈seen->lB l x false=true)->∀x,x∈anc ops n todo seen->lB l x false=true
 |0,_,_,_,h2,x,hx=>h2 x hx
 |_+1,[],_,_,h2,x,hx=>h2 x hx
 |n+1,i::todo,seen,h1,h2,x,hx=>by
  have hi:=h1 i (by simp)
  have ht:∀x,x∈todo->lB l x false=true:=fun x hx=>h1 x (by simp[hx])
  have hs:∀x,x∈i::seen->lB l x false=true:=fun x hx=>by
   rcases aO.1 hx with rfl|hx
   ·exact hi
   ·exact h2 x hx
  unfold anc at hx
  split at hx
  ·exact uN C ht h2 x hx
  ·split at hx
   ·rename_i o ho
    exact uN C (fun y hy=>(Hj hy).elim (C i o ho hi y) (ht y)) hs x hx
   ·exact uN C ht hs x hx
theorem PH{ops:List Oper}{l:List Bool}(C:nJ ops l){o:Oper}{i j:Nat}(h:iN l o j=true)(hi:lB l i true=false):gf (ya ops o) i=false:=by
 cases hh:gf (ya ops o) i with
 |false=>rfl
 |true=>
  have:=uN C (ye h) (fun x hx=>by simp at hx) i (Hk hh)
  rw[nZ _ _ hi]at this
  cases this
theorem pD{P:Program}{ops:List Oper}{K:Env->Heap->Prop}:∀(n:Nat)(l:List Bool)(e:Env)(h:Heap)(S S':mg),(∀s,s∈S'->s∈S\/∀g,s.2 g)->CJ P ops K n l e h S->CJ P ops K n l e h S'
 |0,_,_,_,_,_,_,H=>H
 |n+1,l,e,h,S,S',hs,H=>by
  refine⟨H.1,fun i o hi=>jN (fun v h' hv=>⟨fun hq=>pD n _ _ _ _ _ hs (hv.1 hq),fun hq=> ?_⟩) (H.2 i o hi)⟩
  obtain⟨h1,h2⟩:=hv.2 hq
  have J9:∀s,s∈nH ops o S'->s∈nH ops o S\/∀g,s.2 g:=fun s hm=>by
   rw[NH]at*
   rcases hs _ hm.1 with h|h
   ·exact .inl ⟨h,hm.2⟩
   ·exact .inr h
  exact⟨fun s hm=>(J9 s hm).elim (h1 s) fun k=>k _,pD n _ _ _ _ _ J9 h2⟩
theorem zS{P:Program}{ops:List Oper}{K:Env->Heap->Prop}(hp:gU ops ops 0=true){i:Nat}{oi:Oper}{v:Value}(hi:jh ops i=some oi)(hq:(xZ oi.op||CD oi.op)=true)(p:Heap->Prop):
 ∀(n:Nat)(l:List Bool)(e:Env)(h:Heap)(S:mg),nJ ops l->(∀g,p g->Yv P ops e g oi v)->iN l oi i=true->Yv P ops e h oi v->
  CJ P ops K n (j3 l i) (put e oi.dst v) h ((i,p)::S)->CJ P ops K (n+1) l e h S:=by
 intro n
 induction n with
 |zero=>
  intro l e h S C hpy hr hy H
  refine⟨fun h0=> ?_,fun j oj hj=> ?_⟩
  ·have:=dS.2 ⟨hi,hr⟩;rw[h0]at this;cases this
  ·obtain⟨TO,XX⟩:=dS.1 hj
   by_cases YK:j=i
   ·subst YK
    obtain rfl:oj=oi:=by rw[hi]at TO;exact(bI TO).symm
    rw[lD hq]
    exact⟨v,hy,fun _=>⟨H.1,H.2⟩,fun hc=>by rw[hq]at hc;cases hc⟩
   ·have:=dS.2 ⟨TO,qE XX YK⟩
    rw[H.1]at this;cases this
 |succ n ih=>
  intro l e h S C hpy hr hy H
  refine⟨fun h0=> ?_,fun j oj hj=> ?_⟩
  ·have:=dS.2 ⟨hi,hr⟩;rw[h0]at this;cases this
  ·obtain⟨TO,XX⟩:=dS.1 hj
   by_cases YK:j=i
   ·subst YK
    obtain rfl:oj=oi:=by rw[hi]at TO;exact(bI TO).symm
    rw[lD hq]
    exact⟨v,hy,fun _=>pD _ _ _ _ _ _ (fun s hs=> .inl (by simp[hs])) H,fun hc=>by rw[hq]at hc;cases hc⟩
   ·have hli:lB l i true=false:=(jO.1 hr).1
    have hlj:lB l j true=false:=(jO.1 XX).1
    have hnj:li oj i=false:=LX XX hli
    have hni:li oi j=false:=LX hr hlj
    obtain⟨a1,a2,a3⟩:=PG hp hi TO YK hnj hni
    have H1:=H.2 j oj (dS.2 ⟨TO,qE XX YK⟩)
    rw[NG a1]at H1
    have hri:iN (j3 l j) oi i=true:=qE hr (Ne.symm YK)
    by_cases hqj:(xZ oj.op||CD oj.op)=true
    ·rw[lD hqj]at H1⊢
     obtain⟨u,hu,H2⟩:=H1
     refine⟨u,hu,fun _=> ?_,fun hc=>by rw[hqj]at hc;cases hc⟩
     refine ih (j3 l j) (put e oj.dst u) h S (C.set TO XX) (fun g hg=>by rw[ED a3];exact hpy g hg) hri (by rw[ED a3];exact hy) ?_
     rw[vY,<-put_comm a2]
     exact H2.1 hqj
    ·have ahP:(xZ oj.op||CD oj.op)=false:=by simpa using hqj
     refine jN (fun u h' H2=>⟨fun hc=>absurd hc hqj,fun _=> ?_⟩) H1
     obtain⟨h3,h4⟩:=H2.2 ahP
     have hk:nH ops oj ((i,p)::S)=(i,p)::nH ops oj S:=by simp[nH,tF,PH C XX hli]
     rw[hk]at h3 h4
     refine⟨fun s hs=>h3 s (by simp[hs]),?_⟩
     refine ih (j3 l j) (put e oj.dst u) h' (nH ops oj S) (C.set TO XX) (fun g hg=>by rw[ED a3];exact hpy g hg) hri ?_ ?_
     ·rw[ED a3]
      exact hpy _ (h3 (i,p) (by simp))
     ·rw[vY,<-put_comm a2]
      exact h4
theorem qH:∀{r:List (Nat×Oper)}{x:Nat×Oper},eD r=some x->x∈r/\(xZ x.2.op||CD x.2.op)=true
 |[],_,h=>by simp[eD]at h
 |(i,o)::r,x,h=>by
  unfold eD at h
  cases hq:(xZ o.op||CD o.op)with
  |true=>rw[hq]at h;simp only[dC]at h;subst h;exact⟨by simp,hq⟩
  |false=>rw[hq]at h;have:=qH h;exact⟨by simp[this.1],this.2⟩
theorem qh:∀{r:List (Nat×Oper)},eD r=none->∀x,x∈r->(xZ x.2.op||CD x.2.op)=false
 |[],_,x,hx=>by simp at hx
 |(i,o)::r,h,x,hx=>by
  unfold eD at h
  cases hq:(xZ o.op||CD o.op)with
  |true=>rw[hq]at h;cases h
  |false=>
   rw[hq]at h
   rcases aO.1 hx with rfl|hx
   ·exact hq
   ·exact qh h x hx
theorem De{h:Heap}{K:Prop}:∀{S:mg},PF h K S->(∀s,s∈S->s.2 h)/\K
 |[],H=>⟨fun s hs=>by simp at hs,H⟩
 |(i,p)::S,H=>by
  obtain⟨h1,h2⟩:=H
  obtain⟨h3,h4⟩:=De h2
  refine⟨fun s hs=> ?_,h4⟩
  rcases aO.1 hs with h|h
  ·rw[h];exact h1
  ·exact h3 s h
theorem Df{f:Nat->Oper->Prop}:∀{r:List (Nat×Oper)},J7 f r->∀i o,(i,o)∈r->f i o
 |[],_,i,o,h=>by simp at h
 |[(j,x)],H,i,o,h=>by simp at h;obtain⟨rfl,rfl⟩:=h;exact H
 |(j,x)::y::r,H,i,o,h=>by
  rcases aO.1 h with h|h
  ·cases h;exact H.1
  ·exact Df H.2 i o h
theorem j7{P:Program}{ops:List Oper}{K:Env->Heap->Prop}(hp:gU ops ops 0=true):∀(n:Nat)(l:List Bool)(e:Env)(h:Heap)(S:mg),nJ ops l->nY P ops K n l e h S->CJ P ops K n l e h S
 |0,l,e,h,S,C,H=>by
  unfold nY at H
  cases hr:bW ops 0 l with
  |nil=>rw[hr]at H;exact⟨hr,H⟩
  |cons x xs=>rw[hr]at H;exact H.elim
 |n+1,l,e,h,S,C,H=>by
  unfold nY at H
  cases hq:eD (bW ops 0 l)with
  |some x=>
   obtain⟨i,o⟩:=x
   obtain⟨hm,hqq⟩:=qH hq
   obtain⟨ho,hr⟩:=dS.1 hm
   rw[hq]at H
   simp only at H
   cases hpu:xZ o.op with
   |true=>
    rw[hpu]at H
    simp only at H
    rw[lD hqq]at H
    obtain⟨v,hv,H⟩:=H
    exact zS hp ho hqq (fun _=>True) n l e h S C (fun g _=>Uj hpu hv g) hr hv
     (pD _ _ _ _ _ _ (fun s hs=>(aO.1 hs).elim (fun h=> .inr fun _=>by rw[h];trivial) .inl) (j7 hp n _ _ _ _ (C.set ho hr) H))
   |false=>
    rw[hpu]at H
    simp only at H
    rw[lD hqq]at H
    obtain⟨v,hv,H⟩:=H
    exact zS hp ho hqq _ n l e h S C (fun g hg=>hg) hr hv (j7 hp n _ _ _ _ (C.set ho hr) H)
  |none=>
   rw[hq]at H
   simp only at H
   cases hr:bW ops 0 l with
   |nil=>
    rw[hr]at H
    exact⟨fun _=>H,fun i o hi=>by rw[hr]at hi;cases hi⟩
   |cons x xs=>
    rw[hr]at H
    simp only at H
    refine⟨fun h0=>(by rw[hr]at h0;cases h0),fun i o hi=> ?_⟩
    rw[hr]at hi
    have H1:=Df H i o hi
    obtain⟨ho,YL⟩:=dS.1 (by rw[hr];exact hi:(i,o)∈bW ops 0 l)
    refine jN (fun v h' hv=>⟨fun hc=> ?_,fun _=> ?_⟩) H1
    ·have:=qh hq (i,o) (by rw[hr];exact hi)
     rw[hc]at this;cases this
    ·obtain⟨h1,h2⟩:=De hv
     exact⟨h1,j7 hp n _ _ _ _ (C.set ho YL) h2⟩
theorem yZ(l:Array Bool)(i:Nat)(d:Bool):lB l.toList i d=l.getD i d:=by
 have key:∀(l:List Bool)(i:Nat),lB l i d=l[i]?.getD d:=by
  intro l
  induction l with
  |nil=>intro i;simp[lB]
  |cons x xs ih=>intro i;cases i<;>simp[lB,ih]
 rw[key];simp
theorem yf(l:Array Bool)(i:Nat):j3 l.toList i=(l.setIfInBounds i true).toList:=by
 have key:∀(l:List Bool)(i:Nat),j3 l i=l.set i true:=by
  intro l
  induction l with
  |nil=>intro i;rfl
  |cons x xs ih=>intro i;cases i<;>simp[j3,ih]
 rw[key];simp
theorem tV{ops:Array Oper}{l:Array Bool}{i:Nat}:i∈Region.ready .any ops l↔∃o,(i,o)∈bW ops.toList 0 l.toList:=by
 rw[mem_ready]
 constructor
 ·rintro⟨h0,o,ho,h⟩
  refine⟨o,dS.2 ⟨by rw[r8];exact ho,jO.2 ⟨by rw[yZ];exact h0,fun e he hb=>by rw[yZ];exact h e he hb⟩⟩⟩
 ·rintro⟨o,h⟩
  obtain⟨ho,hr⟩:=dS.1 h
  obtain⟨h0,h1⟩:=jO.1 hr
  exact⟨by rw[<-yZ];exact h0,o,by rw[<-r8];exact ho,fun e he hb=>by rw[<-yZ];exact h1 e he hb⟩
theorem Dg{ops:Array Oper}{l:Array Bool}:Region.ready .any ops l=[]↔bW ops.toList 0 l.toList=[]:=by
 constructor
 ·intro h
  cases hr:bW ops.toList 0 l.toList with
  |nil=>rfl
  |cons x xs=>
   have:x.1∈Region.ready .any ops l:=tV.2 ⟨x.2,by rw[hr];simp⟩
   rw[h]at this;cases this
 ·intro h
  cases hr:Region.ready .any ops l with
  |nil=>rfl
  |cons x xs=>
   obtain⟨o,ho⟩:=tV.1 (show x∈Region.ready .any ops l by rw[hr];simp)
   rw[h]at ho;cases ho
theorem oc{P:Program}{ops:Array Oper}{Q:Exit->Act->World->Prop}{K:Env->Heap->Prop}{w0:World}(hQ:∀a w,dV w0 w->K a.tmps.toList w.heap->a.defers=[]->Q .normal a w):
 ∀(n:Nat)(l:Array Bool)(a:Act)(w:World)(S:mg),a.defers=[]->dV w0 w->CJ P ops.toList K n l.toList a.tmps.toList w.heap S->wpAny P .any ops Q n l a w
 |0,l,a,w,S,hd,hs,H=>⟨Dg.2 H.1,hQ a w hs H.2 hd⟩
 |n+1,l,a,w,S,hd,hs,H=>by
  refine⟨fun h=>hQ a w hs (H.1 (Dg.1 h)) hd,fun i hi=> ?_⟩
  obtain⟨o,ho⟩:=tV.1 hi
  refine tE (by rw[<-r8];exact(dS.1 ho).1) (jN (fun v h' hv=> ?_) (H.2 i o ho))
  intro w' hw' hh'
  subst hh'
  have TN:(a.put o.dst v).defers=[]:=by rw[put_defers];exact hd
  cases hq:(xZ o.op||CD o.op)with
  |true=>
   have:=hv.1 hq
   rw[yf,<-tP]at this
   exact oc hQ n _ _ _ _ TN (hs.trans hw') this
  |false=>
   have:=(hv.2 hq).2
   rw[yf,<-tP]at this
   exact oc hQ n _ _ _ _ TN (hs.trans hw') this
theorem tG{P:Program}{ops:Array Oper}{Q:Exit->Act->World->Prop}{K:Env->Heap->Prop}{w0:World}(hQ:∀a w,dV w0 w->K a.tmps.toList w.heap->a.defers=[]->Q .normal a w):
 ∀(l:List Oper)(k:Nat)(a:Act)(w:World),(∀j,jh l j=jh ops.toList (k+j))->a.defers=[]->dV w0 w->wpIn P ops.toList l a.tmps.toList w.heap K->wpOps P ops Q (List.range' k l.length) a w
 |[],k,a,w,_,hd,hs,H=>by simpa[wpOps]using hQ a w hs H hd
 |o::os,k,a,w,hl,hd,hs,H=>by
  simp only[List.length_cons,List.range'_succ]
  rw[wpOps_cons]
  have ho:ops[k]?=some o:=by rw[<-r8];have:=hl 0;simp only[jh,Nat.add_zero]at this;exact this.symm
  refine tE ho (jN (fun v h' hv=> ?_) H)
  intro w' hw' hh'
  subst hh'
  refine tG hQ os (k+1) _ _ (fun j=> ?_) (by rw[put_defers];exact hd) (hs.trans hw') (by rw[tP];exact hv)
  have:=hl (j+1)
  simp only[jh]at this
  rw[this,show k+(j+1)=k+1+j by omega]
def pE:List Oper->List Bool
 |[]=>[]
 |_::os=>false::pE os
def len:List Oper->Nat
 |[]=>0
 |_::os=>len os+1
def Ul(P:Program)(ops:List Oper)(draw:Bool)(e:Env)(h:Heap)(K:Env->Heap->Prop):Prop:=
 match draw with
 |false=>wpIn P ops ops e h K
 |true=>match gU ops ops 0 with
  |true=>nY P ops K (len ops) (pE ops) e h []
  |false=>False
def CK:List Oper->List Nat
 |[]=>[]
 |o::os=>match o.dst with
  |some d=>d::CK os
  |none=>CK os
def writes:Code->List Nat
 | .region _ ops _=>CK ops.toList
 | .seq a b=>writes a++writes b
 | .cond _ a b=>writes a++writes b
 | .block _ c=>writes c
 | .loop c=>writes c
 |_=>[]
def mh:Nat->(List Value->Prop)->Prop
 |0,f=>f []
 |n+1,f=>∀v,mh n fun vs=>f (v::vs)
def j5:List Nat->Nat
 |[]=>0
 |_::xs=>j5 xs+1
def Dh(P:Program)(an:Nat->Option (List Nat)):Code->Nat->(Env->Heap->Prop)->(Nat->Env->Heap->Prop)->(Env->Heap->Prop)->Env->Heap->Prop
 | .skip,_,kn,_,_,e,h=>kn e h
 | .region _ ops draw,_,kn,_,_,e,h=>Ul P ops.toList draw e h kn
 | .seq a b,p,kn,kx,kr,e,h=>match an p with
   |none=>Dh P an a (2*p) (fun e' h'=>Dh P an b (2*p+1) kn kx kr e' h') kx kr e h
   |some L=>∃J:List Value->Heap->Prop,Dh P an a (2*p) (fun e' h'=>J (fP e' L) h') kx kr e h/\
    ∀(vZ:Nat->Value),mh (j5 L) fun vs=>∀h':Heap,J vs h'->Dh P an b (2*p+1) kn kx kr (lh (iI e vZ (writes a)) L vs) h'
 | .cond c a b,p,kn,kx,kr,e,h=>PC (ev e c) (Dh P an a (2*p) kn kx kr e h) (Dh P an b (2*p+1) kn kx kr e h)
 | .block id c,p,kn,kx,kr,e,h=>Dh P an c (2*p) kn (fun i e' h'=>match Nat.beq i id with
   |true=>kn e' h'
   |false=>kx i e' h') kr e h
 | .loop c,p,_,kx,kr,e,h=>match an p with
   |none=>False
   |some L=>∃(I:List Value->Heap->Prop)(μ:List Value->Heap->Nat),I (fP e L) h/\
    ∀(vZ:Nat->Value),mh (j5 L) fun vs=>∀h':Heap,I vs h'->
     Dh P an c (2*p) (fun e'' nB=>I (fP e'' L) nB/\μ (fP e'' L) nB<μ vs h') kx kr (lh (iI e vZ (writes c)) L vs) h'
 | .exit id,_,_,kx,_,e,h=>kx id e h
 | .ret,_,_,_,kr,e,h=>kr e h
 | .label _,_,kn,_,_,e,h=>kn e h
 |_,_,_,_,_,_,_=>False
structure su(D:List Nat)(e e':Env):Prop where
 len:e'.length=e.length
 same:∀t,t∉D->ga e' t=ga e t
theorem su.refl(D:List Nat)(e:Env):su D e e:=⟨rfl,fun _ _=>rfl⟩
theorem su.trans{D:List Nat}{a b c:Env}(h:su D a b)(k:su D b c):su D a c:=⟨k.len.trans h.len,fun t ht=>(k.same t ht).trans (h.same t ht)⟩
theorem su.mono{D D':List Nat}{a b:Env}(h:su D a b)(hD:∀t,t∈D->t∈D'):su D' a b:=⟨h.len,fun t ht=>h.same t fun hm=>ht (hD t hm)⟩
theorem su.put{D:List Nat}{a b:Env}(h:su D a b){dst:Option Tmp}(hd:∀d,dst=some d->d∈D)(v:Value):su D a (put b dst v):=by
 cases dst with
 |none=>exact h
 |some d=>
  refine⟨by simp only[Mx.put];rw[gz];exact h.len,fun t ht=> ?_⟩
  simp only[Mx.put]
  rw[gA _ _ _ _ fun he=>ht (by rw[<-he];exact hd d rfl)]
  exact h.same t ht
theorem qI:∀(D:List Nat)(e:Env)(j:Nat->Value),(iI e j D).length=e.length
 |[],_,_=>rfl
 |t::ts,e,j=>by simp only[iI];rw[qI ts,gz]
theorem Di:∀(D:List Nat)(e:Env)(j:Nat->Value)(t:Nat),t<e.length->ga (iI e j D) t=if t∈D then j t else ga e t
 |[],_,_,_,_=>by simp[iI]
 |d::ds,e,j,t,ht=>by
  simp only[iI]
  rw[Di ds _ _ _ (by rw[gz];exact ht)]
  by_cases h1:t∈ds
  ·simp[h1]
  ·simp only[h1,gB,aO,aN]
   by_cases h2:t=d
   ·subst h2;simp[mf _ _ _ ht]
   ·simp only[h2,gB];exact gA _ _ _ _ (Ne.symm h2)
theorem yg:∀(L:List Nat)(e:Env),lh e L (fP e L)=e
 |[],_=>rfl
 |t::ts,e=>by
  have h0:vW e t (ga e t)=e:=EC _ _ (gz _ _ _) fun s hs=>by
   rw[gz]at hs
   by_cases h:t=s
   ·subst h;exact mf _ _ _ hs
   ·exact gA _ _ _ _ h
  simp only[fP,lh,h0]
  exact yg ts e
theorem zT{D:List Nat}{e e':Env}(h:su D e e')(L:List Nat):lh (iI e (ga e') D) L (fP e' L)=e':=by
 have h0:iI e (ga e') D=e':=EC _ _ (by rw[qI,h.len]) fun t ht=>by
  rw[qI]at ht
  rw[Di _ _ _ _ ht]
  by_cases hm:t∈D
  ·simp[hm]
  ·simp[hm,h.same t hm]
 rw[h0]
 exact yg L e'
theorem mR:∀(L:List Nat)(e:Env),(fP e L).length=j5 L
 |[],_=>rfl
 |_::ts,e=>by simp[fP,j5,mR ts e]
theorem pF:∀(n:Nat)(f:List Value->Prop),mh n f->∀vs:List Value,vs.length=n->f vs
 |0,f,h,vs,hv=>by rw[pG hv];exact h
 |n+1,f,h,[],hv=>by simp at hv
 |n+1,f,h,v::vs,hv=>pF n (fun vs=>f (v::vs)) (h v) vs (by simpa using hv)
def qJ(D:List Nat)(kn:Env->Heap->Prop)(kx:Nat->Env->Heap->Prop)(kr:Env->Heap->Prop)(e0:Env)(w0:World):Exit->Act->World->Prop
 | .normal,a,w=>a.defers=[]/\dV w0 w/\su D e0 a.tmps.toList/\kn a.tmps.toList w.heap
 | .exit id,a,w=>a.defers=[]/\dV w0 w/\su D e0 a.tmps.toList/\kx id a.tmps.toList w.heap
 | .ret,a,w=>a.defers=[]/\dV w0 w/\su D e0 a.tmps.toList/\kr a.tmps.toList w.heap
 |_,_,_=>False
theorem qJ.weaken{D D':List Nat}{kn sv:Env->Heap->Prop}{kx uO:Nat->Env->Heap->Prop}{kr:Env->Heap->Prop}{e0 e1:Env}{w0 w1:World}(hD:∀t,t∈D->t∈D')(hw:dV w0 w1)(he:su D' e0 e1)
 (hn:∀e h,kn e h->sv e h) (hx:∀i e h,kx i e h->uO i e h) {x:Exit} {a:Act} {w:World} (H:qJ D kn kx kr e1 w1 x a w):qJ D' sv uO kr e0 w0 x a w:=by
 cases x<;>first
  |exact⟨H.1,hw.trans H.2.1,he.trans (H.2.2.1.mono hD),hn _ _ H.2.2.2⟩
  |exact⟨H.1,hw.trans H.2.1,he.trans (H.2.2.1.mono hD),hx _ _ _ H.2.2.2⟩
  |exact⟨H.1,hw.trans H.2.1,he.trans (H.2.2.1.mono hD),H.2.2.2⟩
  |exact H
theorem qJ.EE{D D':List Nat}{kn sv:Env->Heap->Prop}{kx:Nat->Env->Heap->Prop}{kr:Env->Heap->Prop}{e0 e1:Env}{w0 w1:World}(hD:∀t,t∈D->t∈D')(hw:dV w0 w1)(he:su D' e0 e1)
 {x:Exit} {a:Act} {w:World} (hx:x≠ .normal) (H:qJ D kn kx kr e1 w1 x a w):qJ D' sv kx kr e0 w0 x a w:=by
 cases x<;>first
  |exact absurd rfl hx
  |exact⟨H.1,hw.trans H.2.1,he.trans (H.2.2.1.mono hD),H.2.2.2⟩
  |exact H
theorem uP:∀(ops:List Oper)(j:Nat)(o:Oper),jh ops j=some o->∀d,o.dst=some d->d∈CK ops
 |[],j,o,h,_,_=>by simp[jh]at h
 |x::xs,0,o,h,d,hd=>by simp only[jh,dC]at h;subst h;simp[CK,hd]
 |x::xs,j+1,o,h,d,hd=>by
  have:=uP xs j o h d hd
  unfold CK
  cases x.dst<;>simp[this]
theorem Hl{P:Program}{ops:List Oper}{K:Env->Heap->Prop}{e0:Env}{D:List Nat}:∀(l:List Oper)(e:Env)(h:Heap),(∀j o,jh l j=some o->∀d,o.dst=some d->d∈D)->su D e0 e->wpIn P ops l e h K->wpIn P ops l e h fun e' h'=>su D e0 e'/\K e' h'
 |[],e,h,_,ho,H=>⟨ho,H⟩
 |o::os,e,h,hl,ho,H=>jN (fun v h' hv=>Hl os _ _ (fun j x hx=>hl (j+1) x hx) (ho.put (hl 0 o rfl) v) hv) H
theorem zU{P:Program}{ops:List Oper}{K:Env->Heap->Prop}{e0:Env}:∀(n:Nat)(l:List Bool)(e:Env)(h:Heap)(S:mg),su (CK ops) e0 e->CJ P ops K n l e h S->CJ P ops (fun e' h'=>su (CK ops) e0 e'/\K e' h') n l e h S
 |0,l,e,h,S,ho,H=>⟨H.1,ho,H.2⟩
 |n+1,l,e,h,S,ho,H=>⟨fun h0=>⟨ho,H.1 h0⟩,fun i o hi=>jN (fun v h' hv=>
  ⟨fun hq=>zU n _ _ _ _ (ho.put (uP ops i o (dS.1 hi).1) v) (hv.1 hq),fun hq=>⟨(hv.2 hq).1,zU n _ _ _ _ (ho.put (uP ops i o (dS.1 hi).1) v) (hv.2 hq).2⟩⟩) (H.2 i o hi)⟩
theorem YM(ops:Array Oper):Mx.len ops.toList=ops.size:=by
 have key:∀l:List Oper,Mx.len l=l.length:=by intro l;induction l<;>simp[Mx.len, *]
 rw[key];simp
theorem Dm:∀(l:List Oper)(j:Nat),lB (pE l) j false=false
 |[],_=>rfl
 |_::_,0=>rfl
 |_::l,j+1=>Dm l j
theorem CL(ops:List Oper):nJ ops (pE ops):=fun j o _ h=>by rw[Dm]at h;cases h
theorem NI(ops:Array Oper):pE ops.toList=(Array.replicate ops.size false).toList:=by
 have key:∀l:List Oper,pE l=List.replicate l.length false:=by
  intro l
  induction l with
  |nil=>rfl
  |cons x xs ih=>simp[pE,ih,List.replicate_succ]
 rw[key];simp
theorem NJ{P:Program}(hm:P.follows .mixedOrders=true)(an:Nat->Option (List Nat)):∀(c:Code)(p:Nat)(kn:Env->Heap->Prop)(kx:Nat->Env->Heap->Prop)(kr:Env->Heap->Prop)(a:Act)(w:World),
 a.defers=[]->Dh P an c p kn kx kr a.tmps.toList w.heap->c.wp P (qJ (writes c) kn kx kr a.tmps.toList w) a w:=by
 intro c
 induction c with
 |skip=>intro p kn kx kr a w hd H;exact wp_skip ⟨hd,dV.refl w,su.refl _ _,H⟩
 |region id ops draw=>
  intro p kn kx kr a w hd H
  simp only[Dh,Ul]at H
  cases draw with
  |false=>
   simp only at H
   have H':=Hl (D:=CK ops.toList) ops.toList _ _ (fun j o ho d hdd=>uP _ j o ho d hdd) (su.refl _ _) H
   have:=tG (P:=P) (ops:=ops) (Q:=qJ (CK ops.toList) kn kx kr a.tmps.toList w) (w0:=w) (fun a' w' hs hk TN=>⟨TN,hs,hk.1,hk.2⟩) ops.toList 0 a w (fun j=>by rw[iO]) hd (dV.refl w) H'
   refine wp_region ?_
   rw[List.range_eq_range']
   have hl:ops.toList.length=ops.size:=by simp
   rw[hl]at this
   exact this
  |true=>
   simp only at H
   cases hp:gU ops.toList ops.toList 0 with
   |false=>rw[hp]at H;exact H.elim
   |true=>
    rw[hp]at H
    simp only at H
    have H':=zU _ _ _ _ _ (su.refl _ a.tmps.toList) (j7 hp _ _ _ _ _ (CL _) H)
    rw[YM,NI]at H'
    refine wp_region_any hm ?_
    exact oc (w0:=w) (fun a' w' hs hk TN=>⟨TN,hs,hk.1,hk.2⟩) ops.size _ a {w with drawn:=w.drawn+1} [] hd ⟨rfl,rfl,rfl⟩ H'
 |seq x y ihx ihy=>
  intro p kn kx kr a w hd H
  simp only[Dh]at H
  refine wp_seq ?_
  cases hp:an p with
  |none=>
   rw[hp]at H
   refine wp_mono (ihx _ _ _ _ a w hd H) fun e a' w' hq=> ?_
   cases e with
   |normal=>
    obtain⟨h1,h2,h3,h4⟩:=hq
    exact wp_mono (ihy _ _ _ _ a' w' h1 h4) fun e a'' w'' hq'=>hq'.weaken (fun t ht=>List.mem_append_right _ ht) h2 (h3.mono fun t ht=>zR _ ht) (fun _ _ h=>h) (fun _ _ _ h=>h)
   |_=>exact qJ.EE (sv:=kn) (D':=writes x++writes y) (fun t ht=>zR _ ht) (dV.refl w) (su.refl _ _) (by simp) hq
  |some L=>
   rw[hp]at H
   obtain⟨J,H1,H2⟩:=H
   refine wp_mono (ihx _ _ _ _ a w hd H1) fun e a' w' hq=> ?_
   cases e with
   |normal=>
    obtain⟨h1,h2,h3,h4⟩:=hq
    have H3:=pF _ _ (H2 (ga a'.tmps.toList)) (fP a'.tmps.toList L) (mR _ _) _ h4
    rw[zT h3]at H3
    exact wp_mono (ihy _ _ _ _ a' w' h1 H3) fun e a'' w'' hq'=>hq'.weaken (fun t ht=>List.mem_append_right _ ht) h2 (h3.mono fun t ht=>zR _ ht) (fun _ _ h=>h) (fun _ _ _ h=>h)
   |_=>exact qJ.EE (sv:=kn) (D':=writes x++writes y) (fun t ht=>zR _ ht) (dV.refl w) (su.refl _ _) (by simp) hq
 |cond c x y ihx ihy=>
  intro p kn kx kr a w hd H
  simp only[Dh]at H
  obtain⟨t,ht,h1,h2⟩:=H
  rw[fZ]at ht
  refine wp_cond_split ht (fun h=> ?_) (fun h=> ?_)
  ·exact wp_mono (ihx _ _ _ _ a w hd (h1 h)) fun e a' w' hq=>hq.weaken (fun t ht=>zR _ ht) (dV.refl w) (su.refl _ _) (fun _ _ h=>h) (fun _ _ _ h=>h)
  ·exact wp_mono (ihy _ _ _ _ a w hd (h2 h)) fun e a' w' hq=>hq.weaken (fun t ht=>List.mem_append_right _ ht) (dV.refl w) (su.refl _ _) (fun _ _ h=>h) (fun _ _ _ h=>h)
 |block id x ih=>
  intro p kn kx kr a w hd H
  simp only[Dh]at H
  refine wp_block (wp_mono (ih _ _ _ _ a w hd H) fun e a' w' hq=> ?_)
  cases e with
  |exit i=>
   obtain⟨h1,h2,h3,h4⟩:=hq
   simp only[Exit.inBlock]
   by_cases hi:i=id
   ·subst hi
    simp only[jJ]
    have hb:Nat.beq i i=true:=by simp
    rw[hb]at h4
    exact⟨h1,h2,h3,h4⟩
   ·simp only[hi,gB]
    have hb:Nat.beq i id=false:=by
     cases hb:Nat.beq i id with
     |false=>rfl
     |true=>exact absurd (ft hb) hi
    rw[hb]at h4
    exact⟨h1,h2,h3,h4⟩
  |_=>exact hq
 |loop x ih=>
  intro p kn kx kr a w hd H
  simp only[Dh]at H
  cases hp:an p with
  |none=>rw[hp]at H;exact H.elim
  |some L=>
   rw[hp]at H
   obtain⟨I,μ,H0,H1⟩:=H
   refine wp_loop (fun a' w'=>a'.defers=[]/\dV w w'/\su (writes x) a.tmps.toList a'.tmps.toList/\I (fP a'.tmps.toList L) w'.heap) (fun a' w'=>μ (fP a'.tmps.toList L) w'.heap) ⟨hd,dV.refl w,su.refl _ _,H0⟩ ?_
   rintro a' w' ⟨h1,h2,h3,h4⟩
   have H3:=pF _ _ (H1 (ga a'.tmps.toList)) (fP a'.tmps.toList L) (mR _ _) _ h4
   rw[zT h3]at H3
   refine wp_mono (ih _ _ _ _ a' w' h1 H3) fun e a'' w'' hq=> ?_
   cases e with
   |normal=>exact⟨⟨hq.1,h2.trans hq.2.1,h3.trans hq.2.2.1,hq.2.2.2.1⟩,hq.2.2.2.2⟩
   |_=>exact qJ.EE (sv:=fun _ _=>True) (fun t ht=>ht) h2 h3 (by simp) hq
 |rangeFunc f params assign body=>intro p kn kx kr a w hd H;exact H.elim
 |exit id=>intro p kn kx kr a w hd H;exact wp_exit ⟨hd,dV.refl w,su.refl _ _,H⟩
 |scope body=>intro p kn kx kr a w hd H;exact H.elim
 |label l=>intro p kn kx kr a w hd H;exact wp_label ⟨hd,dV.refl w,su.refl _ _,H⟩
 |goto l=>intro p kn kx kr a w hd H;exact H.elim
 |ret=>intro p kn kx kr a w hd H;exact wp_ret ⟨hd,dV.refl w,su.refl _ _,H⟩
 |refuse why=>intro p kn kx kr a w hd H;exact H.elim
def mS:Nat->Env
 |0=>[]
 |n+1=>undef::mS n
def oneOf:List Value->Value
 |[v]=>v
 |vs=> .tuple vs.toArray
def EF(P:Program)(e:Nat->Value)(h:Heap)(K:aL):List ResultVar->List Value->Prop
 |[],acc=>K (oneOf acc.reverse) h
 | .tmp t::rs,acc=>EF P e h K rs (e t::acc)
 | .cell a t::rs,acc=>CI P (Instr.loadAt t (e a)) h fun v=>EF P e h K rs (v::acc)
def PI(P:Program)(rs:List ResultVar)(e:Env)(h:Heap)(K:aL):Prop:=EF P (ga e) h K rs []
theorem Hm{P:Program}{fn:Func}{a:Array Value}{h:Heap}{K:aL}(H:PI P fn.results.toList a.toList h K):∃v,(∀w:World,w.heap=h->(results fn a).run P w= .ok v w)/\K v h:=by
 have ahT:∀(w:World),(results fn a).run P w=((fn.results.toList.mapM fun r=>(match r with
  | .tmp t=>pure (a.getD t undef)
  | .cell b t=>do loadVar t (<-asAddr (a.getD b undef)):Sem Value)).bind fun l=>Sem.pure (oneOf l)).run P w:=by
  intro w
  unfold results
  rw[Array.mapM_eq_mapM_toList]
  simp only[map_eq_pure_bind,bind_assoc,pure_bind]
  show Sem.run P (Sem.bind _ _) w=_
  rw[iq,iq]
  congr 1
  funext l w'
  match l with
  |[]=>rfl
  |[x]=>rfl
  |x::y::l=>simp[oneOf]
 have key:∀(rs:List ResultVar)(acc:List Value),EF P (ga a.toList) h K rs acc->∃l,(∀w:World,w.heap=h->(rs.mapM fun r=>(match r with
  | .tmp t=>pure (a.getD t undef)
  | .cell b t=>do loadVar t (<-asAddr (a.getD b undef)):Sem Value)).run P w= .ok l w)/\K (oneOf (acc.reverse++l)) h:=by
  intro rs
  induction rs with
  |nil=>intro acc H;exact⟨[],fun w hw=>rfl,by simpa[EF]using H⟩
  |cons r rs ih=>
   intro acc H
   cases r with
   |tmp t=>
    obtain⟨l,h1,h2⟩:=ih _ H
    refine⟨a.getD t undef::l,fun w hw=> ?_,by simpa[lz]using h2⟩
    rw[List.mapM_cons]
    simp only[pure_bind]
    show Sem.run P (Sem.bind _ _) w=_
    rw[iq,h1 w hw]
    rfl
   |cell b t=>
    obtain⟨v,hv,H⟩:=H
    obtain⟨l,h1,h2⟩:=ih _ H
    refine⟨v::l,fun w hw=> ?_,by simpa using h2⟩
    rw[List.mapM_cons]
    have h3:(do loadVar t (<-asAddr (a.getD b undef)):Sem Value).run P w= .ok v w:=by
     have:=hv w hw
     unfold Instr.loadAt at this
     rw[<-lz]
     have e1:(do loadVar t (<-Instr.sureAddr (ga a.toList b)):Sem Value)=(Instr.sureAddr (ga a.toList b)).bind fun x=>loadVar t x:=rfl
     have e2:(do loadVar t (<-asAddr (ga a.toList b)):Sem Value)=(asAddr (ga a.toList b)).bind fun x=>loadVar t x:=rfl
     rw[e1]at this
     rw[e2]
     cases hx:ga a.toList b with
     |pointer q=>
      rw[hx]at this
      cases q with
      |some q=>exact this
      |none=>simp[Instr.sureAddr,stuck,Sem.bind,Sem.run]at this
     |_=>rw[hx]at this;simp[Instr.sureAddr,stuck,Sem.bind,Sem.run]at this
    show Sem.run P (Sem.bind _ _) w=_
    rw[iq,h3]
    show Sem.run P (Sem.bind _ _) w=_
    rw[iq,h1 w hw]
    rfl
 obtain⟨l,h1,h2⟩:=key _ _ H
 refine⟨oneOf l,fun w hw=> ?_,by simpa using h2⟩
 rw[ahT,iq,h1 w hw]
 rfl
theorem EG{P:Program}(hm:P.follows .mixedOrders=true){f:FuncId}{fn:Func}{c:Code}(hf:P.funcs[f]?=some fn)(hb:fn.body=some c)(hn:(fn.name== "runtime.NumGoroutine")=false)
 (an:Nat->Option (List Nat)) {args:List Value} {h:Heap} {K:aL} (n:Nat) (hk:fn.ntmps-args.length=n) (rs:List ResultVar) (hr:fn.results.toList=rs)
 (H:Dh P an c 1 (fun e h=>PI P rs e h K) (fun _ _ _=>False) (fun e h=>PI P rs e h K) (args++mS n) h):aG P f args.toArray h K:=by
 refine⟨fun w hw=> ?_⟩
 refine .inr ⟨f,args.toArray,w,?_,rfl,?_⟩
 ·show Sem.run P (Sem.bind program _) w=_
  rw[iq]
  have hn':¬fn.name= "runtime.NumGoroutine" :=by simpa using hn
  simp[program,Sem.run,hf,hn',hb,pure]
 ·subst hw hr hk
  refine calls_of_wp hf hb ?_
  have hu:∀n,mS n=List.replicate n undef:=by intro n;induction n<;>simp[mS,List.replicate_succ, *]
  have e1:(args.toArray++Array.replicate (fn.ntmps-args.toArray.size) undef).toList=args++mS (fn.ntmps-args.length):=by
   rw[hu];simp
  have:=NJ hm an c 1 _ _ _ {tmps:=args.toArray++Array.replicate (fn.ntmps-args.toArray.size) undef,defers:=[]} w rfl (by rw[e1];exact H)
  refine wp_mono this fun e a w' hq=> ?_
  cases e<;>first
   |exact hq.elim
   |exact hq.2.2.2.elim
   |(obtain⟨h1,h2,h3,h4⟩:=hq
     obtain⟨v,h5,h6⟩:=Hm h4
     exact⟨h1,v,h5 w' rfl,v,rfl,h2,h6⟩)
def Ka(fn:Func):Code:=
 match fn.body with
 |some c=>c
 |none=> .skip
def ji(op:BinOp)(t:TypeId)(a b:Value):Sem Value:=do eqGuard op t (.tmp 0) (.tmp 0) a b;binOp op t a b
def od(op:BinOp)(t:TypeId)(x y:Operand)(a b:Value):Sem Value:=do eqGuard op t x y a b;binOp op t a b
def LZ(c a b:Value):Sem Value:=do pure (if<-asBool c then a else b)
def PJ(x:Value):Sem Value:=
 match x with
 | .pointer none| .nilIface| .nilFunc=>runtimePanic .nilDeref
 | .func (.method _) _ _=>stuck "a method value"
 |x=>pure x
def CM(t:TypeId)(ty:TypeId)(x:Value):Sem Value:=Builtin.len_ #[t] ty #[x]
def cE(t u:TypeId)(ty:TypeId)(x y:Value):Sem Value:=Builtin.append_ #[t,u] ty #[x,y]
abbrev bP:=List (Nat×Value)
def oe:bP->Nat->Value
 |[],_=>undef
 |(d,v)::A,t=>match Nat.beq d t with
  |true=>v
  |false=>oe A t
def L1{α:Sort _}:bP->Nat->(Value->α)->α
 |[],_,k=>k undef
 |(d,v)::A,t,k=>match Nat.beq d t with
  |true=>k v
  |false=>L1 A t k
theorem Hn{α:Sort _}:∀(A:bP)(t:Nat)(k:Value->α),L1 A t k=k (oe A t)
 |[],_,_=>rfl
 |(d,v)::A,t,k=>by
  simp only[L1,oe]
  cases Nat.beq d t with
  |true=>rfl
  |false=>exact Hn A t k
def zV(n:Nat)(A:bP)(dst:Option Tmp)(v:Value):bP:=
 match dst with
 |some d=>match Nat.blt d n with
  |true=>(d,v)::A
  |false=>A
 |none=>A
def yh{α:Sort _}(n:Nat)(A:bP)(dst:Option Tmp)(v:Value)(k:bP->α):α:=
 match dst with
 |some d=>match Nat.blt d n with
  |true=>k ((d,v)::A)
  |false=>k A
 |none=>k A
theorem jA{α:Sort _}(n:Nat)(A:bP)(dst:Option Tmp)(v:Value)(k:bP->α):yh n A dst v k=k (zV n A dst v):=by
 cases dst with
 |none=>rfl
 |some d=>simp only[yh,zV];cases Nat.blt d n<;>rfl
def gG(A:bP):Operand->Value
 | .tmp t=>oe A t
 | .const v=>v
 | .global g=> .pointer (some ⟨g,0,none⟩)
 | .func f=> .func (.func f) #[] #[]
def aeC{α:Sort _}(A:bP)(x:Operand)(k:Value->α):α:=
 match x with
 | .tmp t=>L1 A t k
 | .const v=>k v
 | .global g=>k (.pointer (some ⟨g,0,none⟩))
 | .func f=>k (.func (.func f) #[] #[])
theorem Um{α:Sort _}(A:bP)(x:Operand)(k:Value->α):aeC A x k=k (gG A x):=by
 cases x<;>first|rfl|exact Hn _ _ _
def Ho{α:Sort _}:List Bool->Nat->(List Bool->α)->α
 |[],_,k=>k []
 |_::bs,0,k=>k (true::bs)
 |b::bs,n+1,k=>Ho bs n fun l=>k (b::l)
theorem uQ{α:Sort _}:∀(l:List Bool)(n:Nat)(k:List Bool->α),Ho l n k=k (j3 l n)
 |[],_,_=>rfl
 |_::_,0,_=>rfl
 |b::bs,n+1,k=>by simp only[Ho,j3];rw[uQ bs n]
structure v7(n:Nat)(A:bP)(e:Env):Prop where
 len:e.length=n
 get:∀t,ga e t=oe A t
theorem v7.ev{n:Nat}{A:bP}{e:Env}(h:v7 n A e):Mx.ev e=gG A:=by
 funext x
 cases x<;>simp only[Mx.ev,gG]
 exact h.get _
theorem v7.put{n:Nat}{A:bP}{e:Env}(h:v7 n A e)(dst:Option Tmp)(v:Value):v7 n (zV n A dst v) (Mx.put e dst v):=by
 cases dst with
 |none=>exact h
 |some d=>
  simp only[zV,Mx.put]
  cases hb:Nat.blt d n with
  |true=>
   have hd:d<n:=by simpa[Nat.blt_eq]using hb
   refine⟨by rw[gz];exact h.len,fun t=> ?_⟩
   simp only[oe]
   cases hq:Nat.beq d t with
   |true=>
    have:=ft hq
    subst this
    exact mf _ _ _ (by rw[h.len];exact hd)
   |false=>
    have fL:d≠t:=fun e=>by subst e;simp at hq
    rw[gA _ _ _ _ fL]
    exact h.get t
  |false=>
   have hd:¬d<n:=fun wc=>by rw[<-Nat.blt_eq]at wc;rw[hb]at wc;cases wc
   refine⟨by rw[gz];exact h.len,fun t=> ?_⟩
   by_cases fL:d=t
   ·subst fL
    rw[<-h.get,EB _ _ (by rw[gz,h.len];exact Nat.le_of_not_lt hd),EB _ _ (by rw[h.len];exact Nat.le_of_not_lt hd)]
   ·rw[gA _ _ _ _ fL]
    exact h.get t
def zW(P:Program)(A:bP)(op:Op)(ty:TypeId)(h:Heap)(K:aL):Prop:=
 match iU op with
 |some x=>aeC A x fun v=>K v h
 |none=>gM P (gG A) op ty h K
theorem mT{P:Program}{A:bP}{op:Op}{ty:TypeId}{h:Heap}{K:aL}:zW P A op ty h K=gM P (gG A) op ty h K:=by
 unfold zW
 cases hm:iU op with
 |some x=>simp only[Um];unfold gM;rw[hm]
 |none=>rfl
def kK(ops:List Oper)(A:bP)(j:Nat):Value:=
 match zK ops j with
 |some t=>oe A t
 |none=>undef
theorem v7.tQ{n:Nat}{A:bP}{e:Env}(h:v7 n A e)(ops:List Oper)(j:Nat):Mx.tQ ops e j=kK ops A j:=by
 unfold Mx.tQ kK
 cases zK ops j with
 |none=>rfl
 |some t=>exact h.get t
def nK(P:Program)(ops:List Oper)(A:bP)(h:Heap)(o:Oper)(k:aL):Prop:=
 match o.guard with
 |none=>zW P A o.op o.type h k
 |some (j,want)=>J5 (ND (kK ops A j) want) want (zW P A o.op o.type h) h k
theorem uR{P:Program}{ops:List Oper}{n:Nat}{A:bP}{e:Env}(hr:v7 n A e){h:Heap}{o:Oper}{k:aL}:nK P ops A h o k=lC P ops e h o k:=by
 have:zW P A o.op o.type h=gM P (ev e) o.op o.type h:=funext fun _=>by rw[mT,hr.ev]
 have h2:zW P A o.op o.type h k=gM P (ev e) o.op o.type h k:=by rw[this]
 unfold nK lC
 cases o.guard with
 |none=>exact h2
 |some p=>
  obtain⟨j,want⟩:=p
  simp only[this,hr.tQ]
def PK(P:Program)(ops:List Oper)(A:bP)(g:Heap)(o:Oper)(v:Value):Prop:=
 match o.guard with
 |none=>Yx P (gG A) o.op o.type g v
 |some (j,want)=>∃b:Bool,ND (kK ops A j) want= .bool b/\(b=want->Yx P (gG A) o.op o.type g v)/\(b≠want->v=undef)
theorem YN{P:Program}{ops:List Oper}{n:Nat}{A:bP}{e:Env}(hr:v7 n A e){g:Heap}{o:Oper}{v:Value}:PK P ops A g o v=Yv P ops e g o v:=by
 unfold PK Yv
 cases o.guard with
 |none=>simp only[hr.ev]
 |some p=>obtain⟨j,want⟩:=p;simp only[hr.ev,hr.tQ]
def Dn(P:Program)(n:Nat)(ops:List Oper):List Oper->bP->Heap->(bP->Heap->Prop)->Prop
 |[],A,h,K=>K A h
 |o::os,A,h,K=>nK P ops A h o fun v h'=>yh n A o.dst v fun A'=>Dn P n ops os A' h' K
theorem Hq{P:Program}{n:Nat}{ops:List Oper}{K:bP->Heap->Prop}{K':Env->Heap->Prop}(hK:∀A e h,v7 n A e->K A h=K' e h):∀(l:List Oper)(A:bP)(e:Env)(h:Heap),v7 n A e->Dn P n ops l A h K=wpIn P ops l e h K'
 |[],A,e,h,hr=>hK A e h hr
 |o::os,A,e,h,hr=>by
  simp only[Dn,wpIn,jA]
  rw[uR hr]
  congr 1
  funext v h'
  exact Hq hK os _ _ _ (hr.put o.dst v)
def lk(P:Program)(n:Nat)(ops:List Oper)(K:bP->Heap->Prop):Nat->List Bool->bP->Heap->mg->Prop
 |0,l,A,h,_=>match bW ops 0 l with
  |[]=>K A h
  |_::_=>False
 |m+1,l,A,h,S=>match eD (bW ops 0 l)with
  |some (i,o)=>Ho l i fun l'=>match xZ o.op with
   |true=>nK P ops A h o fun v h'=>yh n A o.dst v fun A'=>lk P n ops K m l' A' h' S
   |false=>nK P ops A h o fun v h'=>yh n A o.dst v fun A'=>lk P n ops K m l' A' h' ((i,fun g=>PK P ops A g o v)::S)
  |none=>match bW ops 0 l with
   |[]=>K A h
   |r::rs=>J7 (fun i o=>Ho l i fun l'=>nK P ops A h o fun v h'=>PF h' (yh n A o.dst v fun A'=>lk P n ops K m l' A' h' (nH ops o S)) (nH ops o S)) (r::rs)
theorem zY{P:Program}{n:Nat}{ops:List Oper}{K:bP->Heap->Prop}{K':Env->Heap->Prop}(hK:∀A e h,v7 n A e->K A h=K' e h):∀(m:Nat)(l:List Bool)(A:bP)(e:Env)(h:Heap)(S:mg),v7 n A e->lk P n ops K m l A h S=nY P ops K' m l e h S
 |0,l,A,e,h,S,hr=>by
  simp only[lk,nY]
  cases bW ops 0 l with
  |nil=>exact hK A e h hr
  |cons x xs=>rfl
 |m+1,l,A,e,h,S,hr=>by
  have ih:=fun l A e h S hr=>zY (P:=P) (n:=n) (ops:=ops) hK m l A e h S hr
  simp only[lk,nY,jA,uQ]
  cases eD (bW ops 0 l)with
  |some x=>
   obtain⟨i,o⟩:=x
   simp only
   have hy:∀v,(fun g=>PK P ops A g o v)=fun g=>Yv P ops e g o v:=fun v=>funext fun g=>YN hr
   cases xZ o.op with
   |true=>simp only[uR hr];congr 1;funext v h';exact ih _ _ _ _ _ (hr.put o.dst v)
   |false=>simp only[uR hr,hy];congr 1;funext v h';exact ih _ _ _ _ _ (hr.put o.dst v)
  |none=>
   simp only
   cases bW ops 0 l with
   |nil=>exact hK A e h hr
   |cons x xs=>
    simp only
    congr 1
    funext i o
    rw[uR hr]
    congr 1
    funext v h'
    rw[ih _ _ _ _ _ (hr.put o.dst v)]
def PL(P:Program)(n:Nat)(ops:List Oper)(draw:Bool)(A:bP)(h:Heap)(K:bP->Heap->Prop):Prop:=
 match draw with
 |false=>Dn P n ops ops A h K
 |true=>match gU ops ops 0 with
  |true=>lk P n ops K (len ops) (pE ops) A h []
  |false=>False
theorem Un{P:Program}{n:Nat}{ops:List Oper}{K:bP->Heap->Prop}{K':Env->Heap->Prop}(hK:∀A e h,v7 n A e->K A h=K' e h){draw:Bool}{A:bP}{e:Env}{h:Heap}(hr:v7 n A e):PL P n ops draw A h K=Ul P ops draw e h K':=by
 unfold PL Ul
 cases draw with
 |false=>exact Hq hK _ _ _ _ hr
 |true=>simp only;rw[zY hK _ _ _ _ _ _ hr]
def fo(A:bP):List Nat->List Value
 |[]=>[]
 |t::ts=>oe A t::fo A ts
def tW{α:Sort _}(n:Nat)(j:Nat->Value):List Nat->bP->(bP->α)->α
 |[],A,k=>k A
 |t::ts,A,k=>yh n A (some t) (j t) fun A'=>tW n j ts A' k
def uS{α:Sort _}(n:Nat):List Nat->List Value->bP->(bP->α)->α
 |[],_,A,k=>k A
 |_::_,[],A,k=>k A
 |t::ts,v::vs,A,k=>yh n A (some t) v fun A'=>uS n ts vs A' k
theorem v7.many{n:Nat}{A:bP}{e:Env}(h:v7 n A e):∀L:List Nat,fP e L=fo A L
 |[]=>rfl
 |t::ts=>by simp only[fP,fo,h.get,h.many ts]
theorem we{α:Sort _}{n:Nat}{j:Nat->Value}{k:bP->α}{k':Env->α}(hk:∀A e,v7 n A e->k A=k' e):∀(L:List Nat)(A:bP)(e:Env),v7 n A e->tW n j L A k=k' (iI e j L)
 |[],A,e,hr=>hk A e hr
 |t::ts,A,e,hr=>by
  simp only[tW,iI,jA]
  exact we hk ts _ _ (hr.put (some t) (j t))
theorem zZ{α:Sort _}{n:Nat}{k:bP->α}{k':Env->α}(hk:∀A e,v7 n A e->k A=k' e):∀(L:List Nat)(vs:List Value)(A:bP)(e:Env),v7 n A e->uS n L vs A k=k' (lh e L vs)
 |[],_,A,e,hr=>by simp only[uS,lh];exact hk A e hr
 |_::_,[],A,e,hr=>by simp only[uS,lh];exact hk A e hr
 |t::ts,v::vs,A,e,hr=>by
  simp only[uS,lh,jA]
  exact zZ hk ts vs _ _ (hr.put (some t) v)
theorem tH{f g:List Value->Prop}(h:∀vs,f vs=g vs)(n:Nat):mh n f=mh n g:=by rw[funext h]
def EH(P:Program)(n:Nat)(an:Nat->Option (List Nat)):Code->Nat->(bP->Heap->Prop)->(Nat->bP->Heap->Prop)->(bP->Heap->Prop)->bP->Heap->Prop
 | .skip,_,kn,_,_,A,h=>kn A h
 | .region _ ops draw,_,kn,_,_,A,h=>PL P n ops.toList draw A h kn
 | .seq a b,p,kn,kx,kr,A,h=>match an p with
   |none=>EH P n an a (2*p) (fun A' h'=>EH P n an b (2*p+1) kn kx kr A' h') kx kr A h
   |some L=>∃J:List Value->Heap->Prop,EH P n an a (2*p) (fun A' h'=>J (fo A' L) h') kx kr A h/\
    ∀(vZ:Nat->Value),mh (j5 L) fun vs=>∀h':Heap,J vs h'->tW n vZ (writes a) A fun A1=>uS n L vs A1 fun A2=>EH P n an b (2*p+1) kn kx kr A2 h'
 | .cond c a b,p,kn,kx,kr,A,h=>PC (gG A c) (EH P n an a (2*p) kn kx kr A h) (EH P n an b (2*p+1) kn kx kr A h)
 | .block id c,p,kn,kx,kr,A,h=>EH P n an c (2*p) kn (fun i A' h'=>match Nat.beq i id with
   |true=>kn A' h'
   |false=>kx i A' h') kr A h
 | .loop c,p,_,kx,kr,A,h=>match an p with
   |none=>False
   |some L=>∃(I:List Value->Heap->Prop)(μ:List Value->Heap->Nat),I (fo A L) h/\
    ∀(vZ:Nat->Value),mh (j5 L) fun vs=>∀h':Heap,I vs h'->tW n vZ (writes c) A fun A1=>uS n L vs A1 fun A2=>
     EH P n an c (2*p) (fun A'' nB=>I (fo A'' L) nB/\μ (fo A'' L) nB<μ vs h') kx kr A2 h'
 | .exit id,_,_,kx,_,A,h=>kx id A h
 | .ret,_,_,_,kr,A,h=>kr A h
 | .label _,_,kn,_,_,A,h=>kn A h
 |_,_,_,_,_,_,_=>False
theorem YO{P:Program}{n:Nat}{an:Nat->Option (List Nat)}:∀(c:Code)(p:Nat)(kn:bP->Heap->Prop)(kx:Nat->bP->Heap->Prop)(kr:bP->Heap->Prop)(sv:Env->Heap->Prop)(uO:Nat->Env->Heap->Prop)(yi:Env->Heap->Prop)(A:bP)(e:Env)(h:Heap),
 v7 n A e->(∀A e h,v7 n A e->kn A h=sv e h)->(∀i A e h,v7 n A e->kx i A h=uO i e h)->(∀A e h,v7 n A e->kr A h=yi e h)->EH P n an c p kn kx kr A h=Dh P an c p sv uO yi e h:=by
 intro c
 induction c with
 |skip=>intro p kn kx kr sv uO yi A e h hr h1 h2 h3;exact h1 A e h hr
 |region id ops draw=>intro p kn kx kr sv uO yi A e h hr h1 h2 h3;exact Un h1 hr
 |seq a b Uo Up=>
  intro p kn kx kr sv uO yi A e h hr h1 h2 h3
  simp only[EH,Dh]
  cases an p with
  |none=>exact Uo _ _ _ _ _ _ _ _ _ _ hr (fun A e h hr=>Up _ _ _ _ _ _ _ _ _ _ hr h1 h2 h3) h2 h3
  |some L=>
   simp only
   congr 1
   funext J
   rw[Uo (2*p) (fun A' h'=>J (fo A' L) h') kx kr (fun e' h'=>J (fP e' L) h') uO yi A e h hr (fun A e h hr=>by rw[hr.many]) h2 h3]
   congr 1
   refine propext (forall_congr' fun vZ=> ?_)
   rw[tH]
   intro vs
   refine propext (forall_congr' fun h'=> ?_)
   rw[we (fun A1 e1 YP=>zZ (fun A2 e2 hr2=>Up _ _ _ _ _ _ _ _ _ _ hr2 h1 h2 h3) L vs A1 e1 YP) _ _ _ hr]
 |cond c a b Uo Up=>
  intro p kn kx kr sv uO yi A e h hr h1 h2 h3
  simp only[EH,Dh]
  rw[Uo _ _ _ _ _ _ _ _ _ _ hr h1 h2 h3,Up _ _ _ _ _ _ _ _ _ _ hr h1 h2 h3,hr.ev]
 |block id c ih=>
  intro p kn kx kr sv uO yi A e h hr h1 h2 h3
  simp only[EH,Dh]
  refine ih _ _ _ _ _ _ _ _ _ _ hr h1 (fun i A e h hr=> ?_) h3
  cases Nat.beq i id with
  |true=>exact h1 A e h hr
  |false=>exact h2 i A e h hr
 |loop c ih=>
  intro p kn kx kr sv uO yi A e h hr h1 h2 h3
  simp only[EH,Dh]
  cases an p with
  |none=>rfl
  |some L=>
   simp only
   congr 1
   funext I
   congr 1
   funext μ
   rw[hr.many]
   congr 1
   refine propext (forall_congr' fun vZ=> ?_)
   rw[tH]
   intro vs
   refine propext (forall_congr' fun h'=> ?_)
   rw[we (fun A1 e1 YP=>zZ (fun A2 e2 hr2=>ih (2*p) _ kx kr (fun e'' nB=>I (fP e'' L) nB/\μ (fP e'' L) nB<μ vs h') uO yi A2 e2 h' hr2 (fun A e h hr=>by rw[hr.many]) h2 h3) L vs A1 e1 YP) _ _ _ hr]
 |exit id=>intro p kn kx kr sv uO yi A e h hr h1 h2 h3;exact h2 id A e h hr
 |ret=>intro p kn kx kr sv uO yi A e h hr h1 h2 h3;exact h3 A e h hr
 |label l=>intro p kn kx kr sv uO yi A e h hr h1 h2 h3;exact h1 A e h hr
 |_=>intros;rfl
def uT:List Value->Nat->bP
 |[],_=>[]
 |v::vs,i=>(i,v)::uT vs (i+1)
theorem Aa:∀(vs:List Value)(i t:Nat),oe (uT vs i) t=if t<i then undef else ga vs (t-i)
 |[],i,t=>by simp[uT,oe,ga]
 |v::vs,i,t=>by
  simp only[uT,oe]
  cases hq:Nat.beq i t with
  |true=>have:=ft hq;subst this;simp[ga]
  |false=>
   have fL:i≠t:=fun e=>by subst e;simp at hq
   simp only[Aa vs (i+1) t]
   by_cases h:t<i
   ·simp[h,show t<i+1 by omega]
   ·simp only[h,show¬t<i+1 by omega,gB]
    rw[show t-i=(t-(i+1))+1 by omega]
    rfl
theorem PN(vs:List Value)(m n:Nat)(hn:vs.length+m=n):v7 n (uT vs 0) (vs++mS m):=by
 have hu:∀m,(mS m).length=m/\∀t,ga (mS m) t=undef:=by
  intro m
  induction m with
  |zero=>exact⟨rfl,fun t=>rfl⟩
  |succ m ih=>refine⟨by simp[mS,ih.1],fun t=> ?_⟩;cases t<;>simp[mS,ga,ih.2]
 refine⟨by simp[(hu m).1,hn],fun t=> ?_⟩
 rw[Aa]
 simp only[Nat.not_lt_zero,gB,Nat.sub_zero]
 have key:∀(l:List Value)(t:Nat),ga (l++mS m) t=ga l t:=by
  intro l
  induction l with
  |nil=>intro t;simp[(hu m).2,ga]
  |cons x xs ih=>intro t;cases t<;>simp[ga,ih]
 exact key vs t
def PO(P:Program)(A:bP)(h:Heap)(K:aL)(rs:List ResultVar):Prop:=EF P (oe A) h K rs []
theorem EI{P:Program}(hm:P.follows .mixedOrders=true){f:FuncId}{fn:Func}{c:Code}(hf:P.funcs[f]?=some fn)(hb:fn.body=some c)(hn:(fn.name== "runtime.NumGoroutine")=false)
 (an:Nat->Option (List Nat)) {args:List Value} {h:Heap} {K:aL} (m n:Nat) (hk:fn.ntmps-args.length=m) (PP:args.length+m=n) (rs:List ResultVar) (hr:fn.results.toList=rs)
 (H:EH P n an c 1 (fun A h=>PO P A h K rs) (fun _ _ _=>False) (fun A h=>PO P A h K rs) (uT args 0) h):aG P f args.toArray h K:=by
 refine EG hm hf hb hn an m hk rs hr ?_
 have hg:∀(A:bP)(e:Env)(h:Heap),v7 n A e->PO P A h K rs=PI P rs e h K:=fun A e h hr=>by
  unfold PO PI
  rw[show oe A=ga e from funext fun t=>(hr.get t).symm]
 rw[<-YO c 1 _ (fun _ _ _=>False) _ _ (fun _ _ _=>False) _ _ _ h (PN args m n PP) hg (fun _ _ _ _ _=>rfl) hg]
 exact H
end Go.Mx
