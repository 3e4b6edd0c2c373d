import Derived.Orders
import Derived.KernelRfl
import Derived.Laws.Sem
set_option linter.unusedVariables false
set_option linter.unusedSimpArgs false
namespace Go.Mx
abbrev aH:=List Int
abbrev aE:=List (List Int)
abbrev aK:=Nat->Prop
theorem aW:type_of% @decide_eq_false_iff_not:=@decide_eq_false_iff_not
theorem aS:type_of% @List.not_mem_nil:=@List.not_mem_nil
theorem aT:type_of% @decide_eq_true_eq:=@decide_eq_true_eq
theorem aO:type_of% @List.mem_cons:=@List.mem_cons
theorem aF:type_of% @if_neg:=@if_neg
theorem bB:type_of% @List.length_map:=@List.length_map
theorem aJ:type_of% @if_pos:=@if_pos
theorem bI:type_of% @List.getElem_mem:=@List.getElem_mem
theorem aY:type_of% @Nat.le_refl:=@Nat.le_refl
theorem bK:type_of% @Bool.and_eq_true:=@Bool.and_eq_true
theorem aN:type_of% @or_false:=@or_false
theorem bF:type_of% @Option.some.inj:=@Option.some.inj
theorem bT:type_of% @List.length_append:=@List.length_append
theorem cW:type_of% @List.take_of_length_le:=@List.take_of_length_le
theorem cK:type_of% @List.mem_cons_of_mem:=@List.mem_cons_of_mem
theorem eG:type_of% @List.getD_eq_getElem?_getD:=@List.getD_eq_getElem?_getD
theorem dT:type_of% @List.getElem?_eq_getElem:=@List.getElem?_eq_getElem
theorem cE:type_of% @List.mem_cons_self:=@List.mem_cons_self
theorem bV:type_of% @List.getElem_map:=@List.getElem_map
theorem bJ:type_of% @List.map_cons:=@List.map_cons
theorem bY:type_of% @List.length_set:=@List.length_set
theorem dD:type_of% @Option.some.injEq:=@Option.some.injEq
theorem cQ:type_of% @List.map_append:=@List.map_append
theorem fo:type_of% @Nat.eq_of_beq_eq_true:=@Nat.eq_of_beq_eq_true
theorem fM:type_of% @ByteArray.size_append:=@ByteArray.size_append
theorem eO:type_of% @List.mem_singleton:=@List.mem_singleton
theorem cB:type_of% @Nat.le_trans:=@Nat.le_trans
theorem fp:type_of% @Nat.lt_of_lt_of_le:=@Nat.lt_of_lt_of_le
theorem kT:type_of% @List.flatten_replicate_singleton:=@List.flatten_replicate_singleton
theorem cL:type_of% @Int.le_refl:=@Int.le_refl
theorem fD:type_of% @List.length_take:=@List.length_take
theorem gh:type_of% @List.length_range:=@List.length_range
theorem fQ:type_of% @List.getElem_set:=@List.getElem_set
theorem dN:type_of% @List.mem_map:=@List.mem_map
theorem jd:type_of% @List.length_replicate:=@List.length_replicate
theorem gu:type_of% @List.append_assoc:=@List.append_assoc
theorem og:type_of% @List.take_succ_eq_append_getElem:=@List.take_succ_eq_append_getElem
theorem gE:type_of% @Bool.not_eq_true':=@Bool.not_eq_true'
theorem kM:type_of% @List.drop_eq_getElem_cons:=@List.drop_eq_getElem_cons
theorem jK:type_of% @List.drop_of_length_le:=@List.drop_of_length_le
theorem fc:type_of% @Bool.true_and:=@Bool.true_and
theorem gG:type_of% @List.mem_append:=@List.mem_append
theorem gK:type_of% @List.append_nil:=@List.append_nil
theorem fL:type_of% @Prod.mk.injEq:=@Prod.mk.injEq
theorem pJ:type_of% @List.eq_nil_of_length_eq_zero:=@List.eq_nil_of_length_eq_zero
theorem gU:type_of% @decide_eq_false:=@decide_eq_false
theorem gI:type_of% @Bool.false_and:=@Bool.false_and
theorem lR:type_of% @List.mem_of_mem_take:=@List.mem_of_mem_take
theorem l8:type_of% @Bool.and_eq_true_iff:=@Bool.and_eq_true_iff
theorem fE:type_of% @Nat.mul_one:=@Nat.mul_one
theorem kO:type_of% @List.getElem_range:=@List.getElem_range
theorem gV:type_of% @Int.mul_assoc:=@Int.mul_assoc
theorem ie:type_of% @Sem.run_bind':=@Sem.run_bind'
theorem qa:type_of% @List.length_eq_zero_iff:=@List.length_eq_zero_iff
theorem qb:type_of% @List.filter_cons_of_neg:=@List.filter_cons_of_neg
theorem rJ:type_of% @List.mem_or_eq_of_mem_set:=@List.mem_or_eq_of_mem_set
theorem j6:type_of% @List.all_eq_true:=@List.all_eq_true
theorem j8:type_of% @List.ext_getElem:=@List.ext_getElem
theorem oh:type_of% @Nat.mul_le_mul_right:=@Nat.mul_le_mul_right
theorem ig:type_of% @List.map_set:=@List.map_set
theorem rO:type_of% @List.filter_cons_of_pos:=@List.filter_cons_of_pos
theorem iM:type_of% @Nat.zero_add:=@Nat.zero_add
theorem iP:type_of% @List.map_map:=@List.map_map
theorem rT:type_of% @List.drop_eq_nil_of_le:=@List.drop_eq_nil_of_le
theorem uz:type_of% @List.getElem_append_left:=@List.getElem_append_left
theorem kk:type_of% @decide_eq_true:=@decide_eq_true
theorem ko:type_of% @List.mem_range:=@List.mem_range
theorem jb:type_of% @List.map_nil:=@List.map_nil
theorem Bv:type_of% @Array.getElem?_setIfInBounds:=@Array.getElem?_setIfInBounds
theorem qm:type_of% @Bool.false_ne_true:=@Bool.false_ne_true
theorem qM:type_of% @List.map_congr_left:=@List.map_congr_left
theorem jc:type_of% @Int.one_mul:=@Int.one_mul
theorem jL:type_of% @Int.mul_comm:=@Int.mul_comm
theorem jM:type_of% @Sem.run_bind:=@Sem.run_bind
theorem kP:type_of% @Nat.add_assoc:=@Nat.add_assoc
theorem p4:type_of% @Int.mul_left_comm:=@Int.mul_left_comm
theorem AE:type_of% @Array.getElem?_eq_some_iff:=@Array.getElem?_eq_some_iff
theorem yt:type_of% @ByteArray.size_extract:=@ByteArray.size_extract
theorem AJ:type_of% @List.getElem?_eq_some_iff:=@List.getElem?_eq_some_iff
theorem pO:type_of% @Nat.lt_succ_self:=@Nat.lt_succ_self
theorem ry:type_of% @of_decide_eq_true:=@of_decide_eq_true
theorem BD:type_of% @List.idxOf_lt_length_iff:=@List.idxOf_lt_length_iff
theorem oq:type_of% @List.drop_zero:=@List.drop_zero
theorem uF:type_of% @List.mem_replicate:=@List.mem_replicate
theorem pY:type_of% @List.range_succ:=@List.range_succ
theorem kp:type_of% @Int.neg_mul:=@Int.neg_mul
theorem uM:type_of% @Bool.not_eq_false':=@Bool.not_eq_false'
theorem wN:type_of% @List.mem_of_mem_drop:=@List.mem_of_mem_drop
theorem q6:type_of% @List.length_drop:=@List.length_drop
theorem lS:type_of% @Int.add_zero:=@Int.add_zero
theorem Hd:type_of% @Int.tmod_eq_emod_of_nonneg:=@Int.tmod_eq_emod_of_nonneg
theorem wX:type_of% @List.length_pos_iff:=@List.length_pos_iff
theorem rA:type_of% @List.cons.injEq:=@List.cons.injEq
theorem na:type_of% @Int.zero_mul:=@Int.zero_mul
theorem Bz:type_of% @List.length_filter_le:=@List.length_filter_le
theorem wz:type_of% @Bool.false_eq_true:=@Bool.false_eq_true
theorem E3:type_of% @Option.isSome_iff_exists:=@Option.isSome_iff_exists
theorem j9:type_of% @Nat.mod_lt:=@Nat.mod_lt
theorem xg:type_of% @List.filter_append:=@List.filter_append
theorem At:type_of% @List.mem_append_left:=@List.mem_append_left
theorem tf:type_of% @List.getElem?_set:=@List.getElem?_set
theorem tg:type_of% @Nat.lt_trichotomy:=@Nat.lt_trichotomy
theorem vj:type_of% @List.drop_succ_cons:=@List.drop_succ_cons
theorem vE:type_of% @List.getElem_of_mem:=@List.getElem_of_mem
theorem Af:type_of% @List.getElem_replicate:=@List.getElem_replicate
theorem E8:type_of% @List.getElem_concat_length:=@List.getElem_concat_length
theorem gz:type_of% @if_false:=@if_false
theorem zy:type_of% @Array.getElem?_modify:=@Array.getElem?_modify
theorem zA:type_of% @Classical.choose_spec:=@Classical.choose_spec
theorem nQ:type_of% @List.map_take:=@List.map_take
theorem mE:type_of% @Int.zero_add:=@Int.zero_add
theorem E9:type_of% @List.pairwise_iff_getElem:=@List.pairwise_iff_getElem
theorem lx:type_of% @Int.mul_add:=@Int.mul_add
theorem Ah:type_of% @Nat.pow_le_pow_right:=@Nat.pow_le_pow_right
theorem td:type_of% @List.mem_filter:=@List.mem_filter
theorem vL:type_of% @List.take_add_one:=@List.take_add_one
theorem mm:type_of% @Nat.add_mul:=@Nat.add_mul
theorem vD:type_of% @decide_eq_decide:=@decide_eq_decide
theorem sR:type_of% @List.drop_drop:=@List.drop_drop
theorem sZ:type_of% @Int.natAbs_mul:=@Int.natAbs_mul
theorem ly:type_of% @beq_iff_eq:=@beq_iff_eq
theorem Ac:type_of% @of_decide_eq_false:=@of_decide_eq_false
theorem vl:type_of% @List.take_left':=@List.take_left'
theorem vx:type_of% @List.drop_left':=@List.drop_left'
theorem qe:type_of% @Nat.mul_comm:=@Nat.mul_comm
theorem wk:type_of% @UInt8.toNat_inj:=@UInt8.toNat_inj
theorem sV:type_of% @Bool.and_true:=@Bool.and_true
theorem zT:type_of% @List.getElem?_map:=@List.getElem?_map
theorem vm:type_of% @Nat.mul_le_mul:=@Nat.mul_le_mul
theorem pT:type_of% @Prod.mk.inj:=@Prod.mk.inj
theorem jE:type_of% @if_true:=@if_true
abbrev Heap:=Array Obj
abbrev aL:=Value->Heap->Prop
abbrev Env:=List Value
structure dV(w w':World):Prop where
 os:w'.os=w.os
 tape:w'.tape=w.tape
 output:w'.output=w.output
theorem dV.refl(w:World):dV w w:=⟨rfl,rfl,rfl⟩
theorem dV.trans{a b c:World}(h:dV a b)(k:dV b c):dV a c:=⟨k.os.trans h.os,k.tape.trans h.tape,k.output.trans h.output⟩
def fZ:Env->Nat->Value
 |[],_=>undef
 |v::_,0=>v
 |_::vs,n+1=>fZ vs n
def wy:Env->Nat->Value->Env
 |[],_,_=>[]
 |_::vs,0,u=>u::vs
 |v::vs,n+1,u=>v::wy vs n u
def put(e:Env)(dst:Option Tmp)(v:Value):Env:=
 match dst with
 |some d=>wy e d v
 |none=>e
def ev(e:Env):Operand->Value
 | .tmp t=>fZ e t
 | .const v=>v
 | .global g=> .pointer (some ⟨g,0,none⟩)
 | .func f=> .func (.func f) #[] #[]
def pA(ρ:Operand->Value):List Operand->List Value
 |[]=>[]
 |x::xs=>ρ x::pA ρ xs
def fP(e:Env):List Nat->List Value
 |[]=>[]
 |t::ts=>fZ e t::fP e ts
def lh(e:Env):List Nat->List Value->Env
 |[],_=>e
 |_::_,[]=>e
 |t::ts,v::vs=>lh (wy e t v) ts vs
def iD(e:Env)(j:Nat->Value):List Nat->Env
 |[]=>e
 |t::ts=>iD (wy e t (j t)) j ts
theorem gw:∀(e:Env)(n:Nat)(v:Value),(wy e n v).length=e.length
 |[],_,_=>rfl
 |_::_,0,_=>rfl
 |_::vs,n+1,v=>by simp[wy,gw vs n v]
theorem gy:∀(e:Env)(n m:Nat)(v:Value),n≠m->fZ (wy e n v) m=fZ e m
 |[],_,_,_,_=>rfl
 |_::_,0,0,_,h=>absurd rfl h
 |_::_,0,m+1,_,_=>rfl
 |_::_,n+1,0,_,_=>rfl
 |_::vs,n+1,m+1,v,h=>by simp only[wy,fZ];exact gy vs n m v (by omega)
theorem mf:∀(e:Env)(n:Nat)(v:Value),n<e.length->fZ (wy e n v) n=v
 |[],_,_,h=>by simp at h
 |_::_,0,_,_=>rfl
 |_::vs,n+1,v,h=>by simp only[wy,fZ];exact mf vs n v (by simpa using h)
theorem ET:∀(e:Env)(n:Nat),e.length<=n->fZ e n=undef
 |[],_,_=>rfl
 |_::_,0,h=>by simp at h
 |_::vs,n+1,h=>by simp only[fZ];exact ET vs n (by simpa using h)
theorem EU:∀(e e':Env),e.length=e'.length->(∀t,t<e.length->fZ e t=fZ e' t)->e=e'
 |[],[],_,_=>rfl
 |[],_::_,h,_=>by simp at h
 |_::_,[],h,_=>by simp at h
 |v::vs,u::us,h,k=>by
  have h0:=k 0 (by simp)
  simp only[fZ]at h0
  rw[h0,EU vs us (by simpa using h) fun t ht=>by have:=k (t+1) (by simpa using ht);simpa[fZ]using this]
theorem Dw(e:Env)(d:Nat)(v:Value):wy e d v=e.set d v:=by
 induction e generalizing d with
 |nil=>rfl
 |cons x xs ih=>cases d with
  |zero=>rfl
  |succ d=>simp[wy,ih]
theorem lC(a:Array Value)(t:Nat):fZ a.toList t=a.getD t undef:=by
 have key:∀(l:List Value)(t:Nat),fZ l t=l[t]?.getD undef:=by
  intro l
  induction l with
  |nil=>intro t;simp[fZ]
  |cons x xs ih=>intro t;cases t with
   |zero=>simp[fZ]
   |succ t=>simp[fZ,ih]
 rw[key];simp
theorem ul(a:Act)(dst:Option Tmp)(v:Value):(a.put dst v).tmps.toList=put a.tmps.toList dst v:=by
 cases dst with
 |none=>rfl
 |some d=>simp[Act.put,put,Dw]
theorem put_defers(a:Act)(dst:Option Tmp)(v:Value):(a.put dst v).defers=a.defers:=by cases dst<;>rfl
theorem fU(a:Act)(x:Operand):ev a.tmps.toList x=a.eval x:=by
 cases x<;>simp[ev,Act.eval,lC]
theorem Uk(ρ:Operand->Value)(l:List Operand):pA ρ l=l.map ρ:=by induction l<;>simp[pA, *]
structure pop(P:Program)(s:Sem Value)(K:Value->Prop):Prop where
 out:∃v,(∀w,s.run P w= .ok v w)/\K v
structure Da(P:Program)(s:Sem Value)(h:Heap)(K:Value->Prop):Prop where
 out:∃v,(∀w:World,w.heap=h->s.run P w= .ok v w)/\K v
structure j5(P:Program)(s:Sem Value)(h:Heap)(K:aL):Prop where
 out:∀w:World,w.heap=h->∃v w',s.run P w= .ok v w'/\dV w w'/\K v w'.heap
structure Hz(P:Program)(s:Sem Unit)(h:Heap)(K:aL):Prop where
 out:∀w:World,w.heap=h->∃w',s.run P w= .ok () w'/\dV w w'/\K undef w'.heap
def PQ(P:Program)(f:FuncId)(args:Array Value)(w:World)(K:aL):Prop:=
 Calls P f args w fun e w'=>∃v,e= .returned v/\dV w w'/\K v w'.heap
structure aG(P:Program)(f:FuncId)(args:Array Value)(h:Heap)(K:aL):Prop where
 out:∀w:World,w.heap=h->(∃v w',(callFunc f args).run P w= .ok (.value v) w'/\dV w w'/\K v w'.heap)\/
  (∃f' Dx w',(callFunc f args).run P w= .ok (.enter f' Dx) w'/\w'=w/\PQ P f' Dx w K)
def iW(P:Program)(v:Value)(args:List Value)(h:Heap)(K:aL):Prop:=
 match v with
 | .func (.func g) first cap=>aG P g (first.toList++args++cap.toList).toArray h K
 |_=>False
structure PR(v:Value)(A B:Prop):Prop where
 out:∃t:Bool,v= .bool t/\(t=true->A)/\(t=false->B)
structure Kp(v:Value)(want:Bool)(A:(aL)->Prop)(h:Heap)(K:aL):Prop where
 out:∃b:Bool,v= .bool b/\(b=want->A K)/\(b≠want->K undef h)
def lD(ρ:Operand->Value)(ty:TypeId):Op->Option (Sem Value)
 | .pick c a b=>some (do pure (if<-asBool (ρ c)then ρ a else ρ b))
 | .nilCheck x=>some (match ρ x with
   | .pointer none| .nilIface| .nilFunc=>runtimePanic .nilDeref
   | .func (.method _) _ _=>stuck "a method value"
   |x=>pure x)
 | .binOp op t x y _=>some (do eqGuard op t x y (ρ x) (ρ y);binOp op t (ρ x) (ρ y))
 | .unOp op _ x=>some (Op.unary op (ρ x))
 | .makeInterface t x=>some (Instr.makeInterface t (ρ x))
 | .makeFunc fn first captured=>some (Instr.makeFunc fn (pA ρ first.toList).toArray (pA ρ captured.toList).toArray)
 | .slice t x lo hi mx=>some (Instr.sliceAt t (ρ x) (lo.map ρ) (hi.map ρ) (mx.map ρ))
 | .fieldAddr s x f=>some (Instr.fieldAt s (ρ x) f)
 | .field t x f=>some (Instr.field t (ρ x) f)
 | .indexAddr t x ix=>some (Instr.indexAt t (ρ x) (ρ ix))
 | .index t x ix=>some (Instr.index t (ρ x) (ρ ix))
 | .extract t ix=>some (Instr.extract (ρ t) ix)
 | .build t parts=>some (Instr.build t (parts.toList.map fun p=>(p.1,ρ p.2)).toArray)
 | .call c=>match c.callee with
   | .builtin .len=>some (Builtin.len_ c.argTypes ty (pA ρ c.args.toList).toArray)
   | .builtin .cap=>some (Builtin.cap_ c.argTypes ty (pA ρ c.args.toList).toArray)
   | .builtin .max=>some (Builtin.max_ c.argTypes ty (pA ρ c.args.toList).toArray)
   | .builtin .min=>some (Builtin.min_ c.argTypes ty (pA ρ c.args.toList).toArray)
   |_=>none
 |_=>none
def qE(ρ:Operand->Value):Op->Option (Sem Value)
 | .load t a=>some (Instr.loadAt t (ρ a))
 | .convert src dst x=>some (convert src dst (ρ x))
 | .lookup t x ix ok=>some (Instr.lookup t (ρ x) (ρ ix) ok)
 | .typeAssert x aex asserted ok=>some (Instr.typeAssert (ρ x) aex asserted ok)
 |_=>none
def HA(ρ:Operand->Value)(ty:TypeId):Op->Option (Sem Value)
 | .alloc elem=>some (Instr.alloc elem true (.tuple #[]))
 | .box elem x=>some (Instr.box elem (ρ x))
 | .buildSlice t len parts=>some (Instr.buildSlice t len (parts.toList.map fun p=>(p.1,ρ p.2)).toArray)
 | .makeMap t r=>some (Instr.makeMap t (r.map ρ))
 | .makeSlice t l c=>some (Instr.makeSlice t (ρ l) (ρ c))
 | .range t x=>some (Instr.range t (ρ x))
 | .next it isString=>some (Instr.next (ρ it) isString ty)
 | .entry it=>some (Instr.entry (ρ it))
 | .call c=>match c.callee with
   | .builtin .append=>some (Builtin.append_ c.argTypes ty (pA ρ c.args.toList).toArray)
   | .builtin .copy=>some (Builtin.copy_ c.argTypes ty (pA ρ c.args.toList).toArray)
   |_=>none
 |_=>none
def HB(ρ:Operand->Value):Op->Option (Sem Unit)
 | .store t a x=>some (Instr.storeAt t (ρ a) (ρ x))
 | .mapUpdate t m k x| .insert t m k x=>some (Instr.mapUpdate t (ρ m) (ρ k) (ρ x))
 |_=>none
def iX:Op->Option Operand
 | .move x| .assign x=>some x
 |_=>none
def mO:Op->Option (Operand×Array Operand)
 | .call c=>match c.callee with
   | .value f=>some (f,c.args)
   |_=>none
 |_=>none
def gL(P:Program)(ρ:Operand->Value)(op:Op)(ty:TypeId)(h:Heap)(K:aL):Prop:=
 match iX op with
 |some x=>K (ρ x) h
 |none=>match mO op with
  |some (f,args)=>iW P (ρ f) (pA ρ args.toList) h K
  |none=>match lD ρ ty op with
   |some s=>pop P s fun v=>K v h
   |none=>match qE ρ op with
    |some s=>Da P s h fun v=>K v h
    |none=>match HA ρ ty op with
     |some s=>j5 P s h K
     |none=>match HB ρ op with
      |some s=>Hz P s h K
      |none=>False
theorem Ak{P:Program}{f:FuncId}{args:Array Value}{h:Heap}{K K':aL}(hk:∀v h,K v h->K' v h)(H:aG P f args h K):aG P f args h K':=by
 refine⟨fun w hw=> ?_⟩
 rcases H.out w hw with⟨v,w',h1,h2,h3⟩|⟨f',Dx,w',h1,h2,h3⟩
 ·exact .inl ⟨v,w',h1,h2,hk _ _ h3⟩
 ·exact .inr ⟨f',Dx,w',h1,h2,h3.mono fun e w'' ⟨v,a,b,c⟩=>⟨v,a,b,hk _ _ c⟩⟩
theorem pB{P:Program}{v:Value}{args:List Value}{h:Heap}{K K':aL}(hk:∀v h,K v h->K' v h)(H:iW P v args h K):iW P v args h K':=by
 unfold iW at*
 split at H
 ·exact Ak hk H
 ·exact H.elim
theorem kJ{P:Program}{e:Operand->Value}{op:Op}{ty:TypeId}{h:Heap}{K K':aL}(hk:∀v h,K v h->K' v h)(H:gL P e op ty h K):gL P e op ty h K':=by
 unfold gL at*
 split
 ·rename_i x hx;simp only[hx]at H;exact hk _ _ H
 ·rename_i hx;simp only[hx]at H
  split
  ·rename_i f args hc;simp only[hc]at H;exact pB hk H
  ·rename_i hc;simp only[hc]at H
   split
   ·rename_i s hs;simp only[hs]at H;obtain⟨v,a,b⟩:=H;exact⟨v,a,hk _ _ b⟩
   ·rename_i hs;simp only[hs]at H
    split
    ·rename_i s hr;simp only[hr]at H;obtain⟨v,a,b⟩:=H;exact⟨v,a,hk _ _ b⟩
    ·rename_i hr;simp only[hr]at H
     split
     ·rename_i s he;simp only[he]at H
      exact⟨fun w hw=>let⟨v,w',a,b,c⟩:=H.out w hw;⟨v,w',a,b,hk _ _ c⟩⟩
     ·rename_i he;simp only[he]at H
      split
      ·rename_i s hu;simp only[hu]at H
       exact⟨fun w hw=>let⟨w',a,b,c⟩:=H.out w hw;⟨w',a,b,hk _ _ c⟩⟩
      ·rename_i hu;simp only[hu]at H
def Next.PS(P:Program)(w:World)(K:aL):Result Next->Prop
 | .ok (.value v) w'=>dV w w'/\K v w'.heap
 | .ok .skip w'=>dV w w'/\K undef w'.heap
 | .ok (.enter f args) w'=>w'=w/\PQ P f args w K
 |_=>False
theorem pC{P:Program}{w:World}{K:aL}{s:Sem Value}{v:Value}{w':World}(h:s.run P w= .ok v w')(hs:dV w w')(hk:K v w'.heap):
 Next.PS P w K ((do let x<-s;pure (Next.value x):Sem Next).run P w):=by
 have:((do let x<-s;pure (Next.value x):Sem Next).run P w)= .ok (.value v) w':=by
  show(s.bind fun x=>Sem.pure (Next.value x)).run P w=_
  rw[ie,h];rfl
 rw[this];exact⟨hs,hk⟩
theorem Ul{P:Program}{w:World}{K:aL}{s:Sem Unit}{w':World}(h:s.run P w= .ok () w')(hs:dV w w')(hk:K undef w'.heap):
 Next.PS P w K ((do s;pure Next.skip:Sem Next).run P w):=by
 have:((do s;pure Next.skip:Sem Next).run P w)= .ok .skip w':=by
  show(s.bind fun _=>Sem.pure Next.skip).run P w=_
  rw[ie,h];rfl
 rw[this];exact⟨hs,hk⟩
theorem mP(a:Act)(xs:Array Operand):xs.map a.eval=(pA (ev a.tmps.toList) xs.toList).toArray:=by
 rw[Uk]
 apply Array.ext'
 simp only[Array.toList_map]
 exact qM fun x _=>(fU a x).symm
theorem mJ(a:Act)(xs:Array (Nat×Operand)):(xs.map fun(i,x)=>(i,a.eval x))=(xs.toList.map fun p=>(p.1,ev a.tmps.toList p.2)).toArray:=by
 apply Array.ext'
 simp only[Array.toList_map]
 exact qM fun x _=>by rw[fU]
theorem zu(a:Act)(x:Option Operand):x.map a.eval=x.map (ev a.tmps.toList):=by
 cases x<;>simp[fU]
theorem PT{P:Program}{w:World}{c a b v:Value}(h:(do pure (if<-asBool c then a else b):Sem Value).run P w= .ok v w):
 ((do pure (Next.value (if<-asBool c then a else b))):Sem Next).run P w= .ok (.value v) w:=by
 cases c<;>first|(simp[asBool,Sem.run,bind,pure,Sem.bind]at h⊢;exact h)|(simp[asBool,stuck,Sem.run,bind,pure,Sem.bind]at h)
theorem HD{P:Program}{a:Act}{o:Oper}{w:World}{K:aL}(H:gL P (ev a.tmps.toList) o.op o.type w.heap K):
 Next.PS P w K ((execOp a.eval o).run P w):=by
 obtain⟨dst,op,type,pos,after,guard⟩:=o
 simp only at H
 cases op<;>simp only[gL,iX,mO,lD,qE,HA,HB]at H
 case move x=>simp only[execOp];rw[<-fU];exact⟨dV.refl w,H⟩
 case assign x=>simp only[execOp];rw[<-fU];exact⟨dV.refl w,H⟩
 case pick c x y=>
  obtain⟨v,hv,hk⟩:=H
  simp only[execOp,<-fU]
  rw[PT (hv w)]
  exact⟨dV.refl w,hk⟩
 case nilCheck x=>
  obtain⟨v,hv,hk⟩:=H
  simp only[execOp,<-fU]
  have hw:=hv w
  generalize ev a.tmps.toList x=u at*
  cases u<;>try (simp only[pure,Sem.run,Result.ok.injEq]at hw;obtain⟨rfl,_⟩:=hw;exact⟨dV.refl w,hk⟩)
  case pointer q=>
   cases q with
   |none=>
    exfalso
    have:∀(e:RuntimeError),(runtimePanic e:Sem Value).run P w≠ .ok v w:=by
     intro e he
     unfold runtimePanic at he
     cases e<;>simp[program,bind,Sem.bind,Sem.run,goPanic]at he
     all_goals (try (repeat (first|split at he|(simp[ie,Result.andThen]at he))))
    exact this _ hw
   |some q=>simp only[pure,Sem.run,Result.ok.injEq]at hw;obtain⟨rfl,_⟩:=hw;exact⟨dV.refl w,hk⟩
  case nilIface=>
   simp[runtimePanic,program,bind,Sem.bind,Sem.run,goPanic]at hw
  case nilFunc=>
   simp[runtimePanic,program,bind,Sem.bind,Sem.run,goPanic]at hw
  case func fn first cap=>
   cases fn<;>first|(simp only[pure,Sem.run,Result.ok.injEq]at hw;obtain⟨rfl,_⟩:=hw;exact⟨dV.refl w,hk⟩)|(simp[stuck,Sem.run]at hw)
 case call c=>
  obtain⟨callee,args,argTypes⟩:=c
  cases callee with
  |value f=>
   simp only at H
   simp only[execOp,resolve,<-fU,mP]
   unfold iW at H
   split at H
   ·rename_i g first cap hf
    simp only[hf]
    have e1:(do let d<-Deferred.ofValue (Value.func (.func g) first cap) (pA (ev a.tmps.toList) args.toList).toArray;invoke d.target d.args:Sem Next)=callFunc g ((first++(pA (ev a.tmps.toList) args.toList).toArray)++cap):=rfl
    rw[e1]
    have e2:(first++(pA (ev a.tmps.toList) args.toList).toArray)++cap=(first.toList++pA (ev a.tmps.toList) args.toList++cap.toList).toArray:=by
     apply Array.ext';simp
    rw[e2]
    rcases H.out w rfl with⟨v,w',h1,h2,h3⟩|⟨f',Dx,w',h1,h2,h3⟩
    ·rw[h1];exact⟨h2,h3⟩
    ·rw[h1];exact⟨h2,h3⟩
   ·exact H.elim
  |invoke r m=>simp only at H
  |builtin b=>
   cases b<;>simp only at H<;>
    first
     |exact H.elim
     |(obtain⟨v,hv,hk⟩:=H;simp only[execOp,resolve,mP];exact pC (hv w) (dV.refl w) hk)
     |(obtain⟨v,w',h1,h2,h3⟩:=H.out w rfl;simp only[execOp,resolve,mP];exact pC h1 h2 h3)
 case build t parts=>
  obtain⟨v,hv,hk⟩:=H
  simp only[execOp]
  rw[mJ]
  exact pC (hv w) (dV.refl w) hk
 case buildSlice t len parts=>
  obtain⟨v,w',h1,h2,h3⟩:=H.out w rfl
  simp only[execOp]
  rw[mJ]
  exact pC h1 h2 h3
 all_goals
  first
   |exact H.elim
   |(obtain⟨v,hv,hk⟩:=H;simp only[execOp,<-fU,mP,mJ,zu];exact pC (hv w) (dV.refl w) hk)
   |(obtain⟨v,hv,hk⟩:=H;simp only[execOp,<-fU,mP,mJ,zu];exact pC (hv w rfl) (dV.refl w) hk)
   |(obtain⟨v,w',h1,h2,h3⟩:=H.out w rfl;simp only[execOp,<-fU,mP,mJ,zu];exact pC h1 h2 h3)
   |(obtain⟨w',h1,h2,h3⟩:=H.out w rfl;simp only[execOp,<-fU,mP,mJ,zu];exact Ul h1 h2 h3)
def jk:List Oper->Nat->Option Oper
 |[],_=>none
 |o::_,0=>some o
 |_::os,n+1=>jk os n
def Al(ops:List Oper)(j:Nat):Option Tmp:=
 match jk ops j with
 |some o=>o.dst
 |none=>none
def um(ops:List Oper)(e:Env)(j:Nat):Value:=
 match Al ops j with
 |some t=>fZ e t
 |none=>undef
def NV(v:Value)(want:Bool):Value:=match v with
 | .bool b=> .bool b
 |_=> .bool (!want)
theorem YI{v:Value}{want b:Bool}(h:NV v want= .bool b)(hv:∀c,v≠ .bool c):b≠want:=by
 unfold NV at h
 cases v<;>first
  |exact absurd rfl (hv _)
  |(simp only[Value.bool.injEq]at h;subst h;cases want<;>decide)
def lE(P:Program)(ops:List Oper)(e:Env)(h:Heap)(o:Oper)(k:aL):Prop:=
 match o.guard with
 |none=>gL P (ev e) o.op o.type h k
 |some (j,want)=>Kp (NV (um ops e j) want) want (gL P (ev e) o.op o.type h) h k
def wpIn(P:Program)(ops:List Oper):List Oper->Env->Heap->(Env->Heap->Prop)->Prop
 |[],e,h,K=>K e h
 |o::os,e,h,K=>lE P ops e h o fun v h'=>wpIn P ops os (put e o.dst v) h' K
theorem sI(ops:Array Oper)(i:Nat):jk ops.toList i=ops[i]?:=by
 have key:∀(l:List Oper)(i:Nat),jk l i=l[i]?:=by
  intro l
  induction l with
  |nil=>intro i;simp[jk]
  |cons x xs ih=>intro i;cases i<;>simp[jk,ih]
 rw[key];simp
theorem NW{ops:Array Oper}{a:Act}{j:Nat}{b:Bool}(h:um ops.toList a.tmps.toList j= .bool b):yielded ops a.tmps j=some b:=by
 unfold um Al at h
 rw[sI]at h
 unfold yielded
 cases ho:ops[j]? with
 |none=>rw[ho]at h;simp[undef]at h
 |some o=>
  rw[ho]at h
  simp only at h
  cases hd:o.dst with
  |none=>rw[hd]at h;simp[undef]at h
  |some t=>
   rw[hd]at h
   simp only[lC]at h
   simp only[Option.bind_some,hd]
   cases ht:a.tmps[t]? with
   |none=>simp[Array.getD_eq_getD_getElem?,ht,undef]at h
   |some v=>simp[Array.getD_eq_getD_getElem?,ht]at h;rw[h]
theorem NX{ops:Array Oper}{a:Act}{j:Nat}(h:∀b,um ops.toList a.tmps.toList j≠ .bool b):yielded ops a.tmps j=none:=by
 unfold um Al at h
 rw[sI]at h
 unfold yielded
 cases ho:ops[j]? with
 |none=>simp
 |some o=>
  rw[ho]at h
  simp only at h
  cases hd:o.dst with
  |none=>simp[hd]
  |some t=>
   rw[hd]at h
   simp only[lC]at h
   simp only[Option.bind_some,hd]
   cases ht:a.tmps[t]? with
   |none=>rfl
   |some v=>
    cases v with
    |bool b=>exact absurd (by simp[Array.getD_eq_getD_getElem?,ht]) (h b)
    |_=>rfl
theorem tZ{P:Program}{ops:Array Oper}{Q:Exit->Act->World->Prop}{i:Nat}{o:Oper}{a:Act}{w:World}{K:Act->World->Prop}(ho:ops[i]?=some o)
 (H:lE P ops.toList a.tmps.toList w.heap o fun v h'=>∀w',dV w w'->w'.heap=h'->K (a.put o.dst v) w'):wpOp P ops Q i K a w:=by
 have key:(gL P (ev a.tmps.toList) o.op o.type w.heap fun v h'=>∀w',dV w w'->w'.heap=h'->K (a.put o.dst v) w')->o.wp P a w K Q:=by
  intro hx
  have hg:=HD hx
  unfold Oper.wp
  generalize (execOp a.eval o).run P w=r at*
  cases r with
  |halt x w'=>exact hg.elim
  |ok n w'=>
   cases n<;>first
    |exact hg.elim
    |exact hg.2 _ hg.1 rfl
    |(obtain⟨rfl,hc⟩:=hg
      exact hc.mono fun e w'' ⟨v,he,hs,hk⟩=>by subst he;exact hk _ hs rfl)
 unfold wpOp
 simp only[ho]
 unfold lE at H
 cases hgd:o.guard with
 |none=>
  simp only[hgd]at H
  simp only[Region.wanted,hgd,jE]
  exact .inl (key H)
 |some p=>
  obtain⟨j,want⟩:=p
  simp only[hgd]at H
  obtain⟨b,hb,h1,h2⟩:=H
  by_cases hv:∃c,um ops.toList a.tmps.toList j= .bool c
  ·obtain⟨c,hc⟩:=hv
   have hbc:c=b:=by
    rw[hc]at hb
    simpa[NV]using hb
   subst hbc
   have hy:=NW hc
   simp only[Region.wanted,hgd,hy]
   by_cases Kq:c=want
   ·subst Kq
    simp only[beq_self_eq_true,jE]
    exact .inl (key (h1 rfl))
   ·have:(some c==some want)=false:=by simpa using Kq
    simp only[this,wz,gz]
    exact h2 Kq w (dV.refl w) rfl
  ·have fH:=YI hb fun c hc=>hv ⟨c,hc⟩
   have hy:=NX fun c hc=>hv ⟨c,hc⟩
   simp only[Region.wanted,hgd,hy]
   have:((none:Option Bool)==some want)=false:=rfl
   simp only[this,wz,gz]
   exact h2 fH w (dV.refl w) rfl
theorem jI{P:Program}{ops:List Oper}{e:Env}{h:Heap}{o:Oper}{k k':aL}(hk:∀v h,k v h->k' v h)(H:lE P ops e h o k):lE P ops e h o k':=by
 unfold lE at*
 cases hg:o.guard with
 |none=>simp only[hg]at H⊢;exact kJ hk H
 |some p=>
  obtain⟨j,want⟩:=p
  simp only[hg]at H⊢
  obtain⟨b,hb,h1,h2⟩:=H
  exact⟨b,hb,fun e=>kJ hk (h1 e),fun e=>hk _ _ (h2 e)⟩
def lB:List Bool->Nat->Bool->Bool
 |[],_,d=>d
 |b::_,0,_=>b
 |_::bs,n+1,d=>lB bs n d
def jV:List Bool->Nat->List Bool
 |[],_=>[]
 |_::bs,0=>true::bs
 |b::bs,n+1=>b::jV bs n
def iL(l:List Bool)(o:Oper)(i:Nat):Bool:=
 !lB l i true&&o.after.toList.all fun e=> !Region.binds .any e||lB l e.on false
def bW:List Oper->Nat->List Bool->List (Nat×Oper)
 |[],_,_=>[]
 |o::os,i,l=>match iL l o i with
  |true=>(i,o)::bW os (i+1) l
  |false=>bW os (i+1) l
def gN:Operand->Value:=fun _=>undef
def yv(op:Op):Bool:=(iX op).isSome||((mO op).isNone&&(lD gN 0 op).isSome)
def CZ(op:Op):Bool:=(iX op).isNone&&((mO op).isNone&&((lD gN 0 op).isNone&&(qE gN op).isSome))
def eC:List (Nat×Oper)->Option (Nat×Oper)
 |[]=>none
 |(i,o)::r=>match yv o.op||CZ o.op with
  |true=>some (i,o)
  |false=>eC r
def lk(o:Oper)(i:Nat):Bool:=o.after.toList.any fun e=>Region.binds .any e&&Nat.beq e.on i
def looks(ops:List Oper)(o:Oper):List Tmp:=
 (o.op.operands.toList.filterMap fun| .tmp t=>some t|_=>none)++
 (match o.guard with
  |some (g,_)=>(Al ops g).toList
  |none=>[])
def ga:List Nat->Nat->Bool
 |[],_=>false
 |x::xs,n=>Nat.beq x n||ga xs n
def Am(ops:List Oper)(x y:Oper):Bool:=
 (match x.dst with
  |some d=> ! ga (looks ops y) d&&(match y.dst with|some d'=> !Nat.beq d d'|none=>true)
  |none=>true)&&
 (match y.dst with
  |some d=> ! ga (looks ops x) d
  |none=>true)
def sJ(ops:List Oper)(x:Oper)(i:Nat):List Oper->Bool
 |[]=>true
 |y::ys=>(Am ops x y||lk y i)&&sJ ops x i ys
def gP(ops:List Oper):List Oper->Nat->Bool
 |[],_=>true
 |x::xs,i=>sJ ops x i xs&&gP ops xs (i+1)
abbrev mg:=List (Nat×(Heap->Prop))
def Yx(P:Program)(e:Operand->Value)(op:Op)(ty:TypeId)(g:Heap)(v:Value):Prop:=
 match iX op with
 |some x=>v=e x
 |none=>match lD e ty op with
  |some s=>∀w,s.run P w= .ok v w
  |none=>match qE e op with
   |some s=>∀w:World,w.heap=g->s.run P w= .ok v w
   |none=>False
def Yv(P:Program)(ops:List Oper)(e:Env)(g:Heap)(o:Oper)(v:Value):Prop:=
 match o.guard with
 |none=>Yx P (ev e) o.op o.type g v
 |some (j,want)=>∃b:Bool,NV (um ops e j) want= .bool b/\(b=want->Yx P (ev e) o.op o.type g v)/\(b≠want->v=undef)
def pD:List Edge->List Nat
 |[]=>[]
 |e::es=>match Region.binds .any e with
  |true=>e.on::pD es
  |false=>pD es
def YJ:List Nat->List Nat->List Nat
 |[],b=>b
 |x::a,b=>x::YJ a b
def anc(ops:List Oper):Nat->List Nat->List Nat->List Nat
 |0,_,seen=>seen
 |_+1,[],seen=>seen
 |n+1,i::todo,seen=>match ga seen i with
  |true=>anc ops n todo seen
  |false=>match jk ops i with
   |some o=>anc ops n (YJ (pD o.after.toList) todo) (i::seen)
   |none=>anc ops n todo (i::seen)
def yw(ops:List Oper)(o:Oper):List Nat:=anc ops 2000 (pD o.after.toList) []
def ua(bf:List Nat):mg->mg
 |[]=>[]
 |(i,p)::S=>match ga bf i with
  |true=>ua bf S
  |false=>(i,p)::ua bf S
def nJ(ops:List Oper)(o:Oper)(S:mg):mg:=ua (yw ops o) S
def PU(h:Heap)(K:Prop):mg->Prop
 |[]=>K
 |(_,p)::S=>p h/\PU h K S
def Kr(f:Nat->Oper->Prop):List (Nat×Oper)->Prop
 |[]=>True
 |[(i,o)]=>f i o
 |(i,o)::r=>f i o/\Kr f r
def nY(P:Program)(ops:List Oper)(K:Env->Heap->Prop):Nat->List Bool->Env->Heap->mg->Prop
 |0,l,e,h,_=>match bW ops 0 l with
  |[]=>K e h
  |_::_=>False
 |n+1,l,e,h,S=>match eC (bW ops 0 l)with
  |some (i,o)=>match yv o.op with
   |true=>lE P ops e h o fun v h'=>nY P ops K n (jV l i) (put e o.dst v) h' S
   |false=>lE P ops e h o fun v h'=>nY P ops K n (jV l i) (put e o.dst v) h' ((i,fun g=>Yv P ops e g o v)::S)
  |none=>match bW ops 0 l with
   |[]=>K e h
   |r::rs=>Kr (fun i o=>lE P ops e h o fun v h'=>PU h' (nY P ops K n (jV l i) (put e o.dst v) h' (nJ ops o S)) (nJ ops o S)) (r::rs)
def Db(P:Program)(ops:List Oper)(K:Env->Heap->Prop):Nat->List Bool->Env->Heap->mg->Prop
 |0,l,e,h,_=>bW ops 0 l=[]/\K e h
 |n+1,l,e,h,S=>(bW ops 0 l=[]->K e h)/\∀i o,(i,o)∈bW ops 0 l->lE P ops e h o fun v h'=>
  ((yv o.op||CZ o.op)=true->Db P ops K n (jV l i) (put e o.dst v) h' S)/\
  ((yv o.op||CZ o.op)=false->(∀s,s∈nJ ops o S->s.2 h')/\Db P ops K n (jV l i) (put e o.dst v) h' (nJ ops o S))
theorem uo:∀(l:List Bool)(i j:Nat)(d:Bool),i≠j->lB (jV l i) j d=lB l j d
 |[],_,_,_,_=>rfl
 |_::_,0,0,_,h=>absurd rfl h
 |_::_,0,_+1,_,_=>rfl
 |_::_,_+1,0,_,_=>rfl
 |_::bs,n+1,m+1,d,h=>by simp only[jV,lB];exact uo bs n m d (by omega)
theorem pE:∀(l:List Bool)(i j:Nat),lB l j false=true->lB (jV l i) j false=true
 |[],_,_,h=>h
 |_::_,0,0,_=>rfl
 |_::_,0,_+1,h=>h
 |_::_,_+1,0,h=>h
 |_::bs,n+1,m+1,h=>by simp only[jV,lB]at*;exact pE bs n m h
theorem wB:∀(l:List Bool)(i j:Nat),jV (jV l i) j=jV (jV l j) i
 |[],_,_=>rfl
 |_::_,0,0=>rfl
 |_::_,0,_+1=>rfl
 |_::_,_+1,0=>rfl
 |_::bs,n+1,m+1=>by simp only[jV];rw[wB bs n m]
theorem nZ:∀(l:List Bool)(i:Nat),lB l i true=false->lB l i false=false
 |[],_,h=>by simp[lB]at h
 |_::_,0,h=>h
 |_::bs,n+1,h=>nZ bs n h
theorem qn:∀(ops:List Oper)(k:Nat)(l:List Bool)(i:Nat)(o:Oper),(i,o)∈bW ops k l↔∃j,i=k+j/\jk ops j=some o/\iL l o i=true
 |[],_,_,_,_=>by simp[bW,jk]
 |x::xs,k,l,i,o=>by
  have ih:=qn xs (k+1) l i o
  have hh:(∃j,i=k+j/\jk (x::xs) j=some o/\iL l o i=true)↔((i=k/\x=o/\iL l o i=true)\/(∃j,i=k+1+j/\jk xs j=some o/\iL l o i=true)):=by
   constructor
   ·rintro⟨j,hj,ho,hr⟩
    cases j with
    |zero=>simp only[jk,dD]at ho;exact .inl ⟨by omega,ho,hr⟩
    |succ j=>exact .inr ⟨j,by omega,ho,hr⟩
   ·rintro(⟨h1,h2,h3⟩|⟨j,hj,ho,hr⟩)
    ·exact⟨0,by omega,by simp[jk,h2],h3⟩
    ·exact⟨j+1,by omega,ho,hr⟩
  rw[hh,<-ih]
  have hu:bW (x::xs) k l=match iL l x k with
   |true=>(k,x)::bW xs (k+1) l
   |false=>bW xs (k+1) l:=rfl
  rw[hu]
  cases hr:iL l x k with
  |true=>
   simp only[aO,fL]
   constructor
   ·rintro(⟨rfl,rfl⟩|h)
    ·exact .inl ⟨rfl,rfl,hr⟩
    ·exact .inr h
   ·rintro(⟨rfl,rfl,_⟩|h)
    ·exact .inl ⟨rfl,rfl⟩
    ·exact .inr h
  |false=>
   constructor
   ·exact .inr
   ·rintro(⟨rfl,rfl,h3⟩|h)
    ·rw[hr]at h3;cases h3
    ·exact h
theorem dP{ops:List Oper}{l:List Bool}{i:Nat}{o:Oper}:(i,o)∈bW ops 0 l↔jk ops i=some o/\iL l o i=true:=by
 rw[qn]
 constructor
 ·rintro⟨j,h1,h2,h3⟩;obtain rfl:i=j:=by omega
  exact⟨h2,h3⟩
 ·rintro⟨h2,h3⟩;exact⟨i,by omega,h2,h3⟩
theorem jJ{l:List Bool}{o:Oper}{i:Nat}:iL l o i=true↔lB l i true=false/\∀e,e∈o.after->Region.binds .any e=true->lB l e.on false=true:=by
 unfold iL
 simp only[bK,gE,j6,Bool.or_eq_true,Array.mem_toList_iff]
 constructor
 ·rintro⟨h1,h2⟩
  refine⟨h1,fun e he hb=> ?_⟩
  rcases h2 e he with h|h
  ·rw[hb]at h;cases h
  ·exact h
 ·rintro⟨h1,h2⟩
  refine⟨h1,fun e he=> ?_⟩
  cases hb:Region.binds .any e with
  |false=>exact .inl rfl
  |true=>exact .inr (h2 e he hb)
theorem qN{l:List Bool}{o:Oper}{i j:Nat}(h:iL l o j=true)(fH:j≠i):iL (jV l i) o j=true:=by
 rw[jJ]at*
 exact⟨by rw[uo _ _ _ _ (Ne.symm fH)];exact h.1,fun e he hb=>pE _ _ _ (h.2 e he hb)⟩
theorem Mi{l:List Bool}{o:Oper}{i j:Nat}(h:iL l o j=true)(hi:lB l i true=false):lk o i=false:=by
 rw[jJ]at h
 cases hh:lk o i with
 |false=>rfl
 |true=>
  unfold lk at hh
  rw[List.any_eq_true]at hh
  obtain⟨e,he,h2⟩:=hh
  simp only[bK]at h2
  have hon:e.on=i:=fo h2.2
  have:=h.2 e (by simpa using he) h2.1
  rw[hon,nZ _ _ hi]at this
  cases this
theorem nK(e e':Operand->Value)(ty ty':TypeId)(op:Op):(lD e ty op).isSome=(lD e' ty' op).isSome:=by
 cases op<;>try rfl
 case call c=>
  obtain⟨callee,args,argTypes⟩:=c
  cases callee<;>try rfl
  case builtin b=>cases b<;>rfl
theorem HF(e e':Operand->Value)(op:Op):(qE e op).isSome=(qE e' op).isSome:=by cases op<;>rfl
theorem iY{P:Program}{e:Operand->Value}{op:Op}{ty:TypeId}{h:Heap}{k:aL}(hq:(yv op||CZ op)=true):gL P e op ty h k↔∃v,Yx P e op ty h v/\k v h:=by
 unfold gL Yx
 cases hm:iX op with
 |some x=>simp
 |none=>
  simp only[yv,CZ,hm]at hq
  cases hc:mO op with
  |some c=>simp[hc]at hq
  |none=>
   simp only[hc]at hq
   cases hp:lD e ty op with
   |some s=>exact⟨fun h=>h.out,fun h=>⟨h⟩⟩
   |none=>
    have h0:(lD gN 0 op).isSome=false:=by rw[nK gN e 0 ty,hp];rfl
    cases hr:qE e op with
    |some s=>exact⟨fun h=>h.out,fun h=>⟨h⟩⟩
    |none=>
     have h1:(qE gN op).isSome=false:=by rw[HF gN e,hr];rfl
     have h0':lD gN 0 op=none:=by simpa using h0
     have YK:qE gN op=none:=by simpa using h1
     simp[h0',YK]at hq
theorem lF{P:Program}{ops:List Oper}{e:Env}{h:Heap}{o:Oper}{k:aL}(hq:(yv o.op||CZ o.op)=true):lE P ops e h o k↔∃v,Yv P ops e h o v/\k v h:=by
 unfold lE Yv
 cases hg:o.guard with
 |none=>exact iY hq
 |some p=>
  obtain⟨j,want⟩:=p
  constructor
  ·rintro⟨b,hb,h1,h2⟩
   by_cases Kq:b=want
   ·obtain⟨v,hv,hk⟩:=(iY hq).1 (h1 Kq)
    exact⟨v,⟨b,hb,fun _=>hv,fun h=>absurd Kq h⟩,hk⟩
   ·exact⟨undef,⟨b,hb,fun h=>absurd h Kq,fun _=>rfl⟩,h2 Kq⟩
  ·rintro⟨v,⟨b,hb,h1,h2⟩,hk⟩
   exact⟨b,hb,fun he=>(iY hq).2 ⟨v,h1 he,hk⟩,fun he=>by rw[<-h2 he];exact hk⟩
theorem Mj{P:Program}{e:Operand->Value}{op:Op}{ty:TypeId}{h:Heap}{v:Value}(hq:yv op=true)(H:Yx P e op ty h v)(g:Heap):Yx P e op ty g v:=by
 unfold Yx at*
 cases hm:iX op with
 |some x=>simpa[hm]using H
 |none=>
  simp only[hm]at H⊢
  cases hp:lD e ty op with
  |some s=>simpa[hp]using H
  |none=>
   have h0:(lD gN 0 op).isSome=false:=by rw[nK gN e 0 ty,hp];rfl
   simp[yv,hm,h0]at hq
theorem Um{P:Program}{ops:List Oper}{e:Env}{h:Heap}{o:Oper}{v:Value}(hq:yv o.op=true)(H:Yv P ops e h o v)(g:Heap):Yv P ops e g o v:=by
 unfold Yv at*
 cases hg:o.guard with
 |none=>simp only[hg]at H⊢;exact Mj hq H g
 |some p=>
  obtain⟨j,want⟩:=p
  simp only[hg]at H⊢
  obtain⟨b,hb,h1,h2⟩:=H
  exact⟨b,hb,fun e=>Mj hq (h1 e) g,h2⟩
theorem kK{e e':Operand->Value}:∀(l:List Operand),(∀x,x∈l->e x=e' x)->pA e l=pA e' l
 |[],_=>rfl
 |x::xs,h=>by simp only[pA];rw[h x (by simp),kK xs fun y hy=>h y (by simp[hy])]
theorem yx{e e':Operand->Value}(ps:Array (Nat×Operand))(h:∀x,x∈(ps.toList.map (·.2))->e x=e' x):(ps.toList.map fun p=>(p.1,e p.2))=(ps.toList.map fun p=>(p.1,e' p.2)):=
 qM fun p hp=>by rw[h p.2 (dN.2 ⟨p,hp,rfl⟩)]
theorem sK{e e':Operand->Value}(x:Option Operand)(h:∀y,y∈x.toArray->e y=e' y):x.map e=x.map e':=by
 cases x with
 |none=>rfl
 |some y=>simp[h y (by simp)]
theorem uq{e e':Operand->Value}{ty:TypeId}{op:Op}(h:∀x,x∈op.operands->e x=e' x):lD e ty op=lD e' ty op:=by
 cases op<;>simp only[Op.operands]at h<;>simp only[lD]
 case pick c a b=>rw[h c (by simp),h a (by simp),h b (by simp)]
 case nilCheck x=>rw[h x (by simp)]
 case binOp op t x y u=>rw[h x (by simp),h y (by simp)]
 case unOp op t x=>rw[h x (by simp)]
 case makeInterface t x=>rw[h x (by simp)]
 case makeFunc fn first cap=>rw[kK first.toList fun x hx=>h x (by simp at hx;simp[hx]),kK cap.toList fun x hx=>h x (by simp at hx;simp[hx])]
 case slice t x lo hi mx=>rw[h x (by simp),sK lo fun y hy=>h y (by simp[hy]),sK hi fun y hy=>h y (by simp[hy]),sK mx fun y hy=>h y (by simp[hy])]
 case fieldAddr s x f=>rw[h x (by simp)]
 case field t x f=>rw[h x (by simp)]
 case indexAddr t x ix=>rw[h x (by simp),h ix (by simp)]
 case index t x ix=>rw[h x (by simp),h ix (by simp)]
 case extract t ix=>rw[h t (by simp)]
 case build t parts=>rw[yx parts fun x hx=>h x (by simpa using hx)]
 case call c=>
  have:pA e c.args.toList=pA e' c.args.toList:=kK _ fun x hx=>h x (by simp at hx;simp[Call.operands,hx])
  rw[this]
theorem pF{e e':Operand->Value}{op:Op}(h:∀x,x∈op.operands->e x=e' x):qE e op=qE e' op:=by
 cases op<;>simp only[Op.operands]at h<;>simp only[qE]
 case load t x=>rw[h x (by simp)]
 case convert s d x=>rw[h x (by simp)]
 case lookup t x ix ok=>rw[h x (by simp),h ix (by simp)]
 case typeAssert x a b c=>rw[h x (by simp)]
theorem Ao{e e':Operand->Value}{ty:TypeId}{op:Op}(h:∀x,x∈op.operands->e x=e' x):HA e ty op=HA e' ty op:=by
 cases op<;>simp only[Op.operands]at h<;>simp only[HA]
 case box t x=>rw[h x (by simp)]
 case buildSlice t n parts=>rw[yx parts fun x hx=>h x (by simpa using hx)]
 case makeMap t r=>rw[sK r h]
 case makeSlice t l c=>rw[h l (by simp),h c (by simp)]
 case range t x=>rw[h x (by simp)]
 case next it b=>rw[h it (by simp)]
 case entry it=>rw[h it (by simp)]
 case call c=>
  have:pA e c.args.toList=pA e' c.args.toList:=kK _ fun x hx=>h x (by simp at hx;simp[Call.operands,hx])
  rw[this]
theorem Ap{e e':Operand->Value}{op:Op}(h:∀x,x∈op.operands->e x=e' x):HB e op=HB e' op:=by
 cases op<;>simp only[Op.operands]at h<;>simp only[HB]
 case store t a x=>rw[h a (by simp),h x (by simp)]
 case mapUpdate t m k x=>rw[h m (by simp),h k (by simp),h x (by simp)]
 case insert t m k x=>rw[h m (by simp),h k (by simp),h x (by simp)]
theorem Aq{op:Op}{x:Operand}(h:iX op=some x):x∈op.operands:=by
 cases op<;>simp[iX]at h<;>simp[Op.operands,h]
theorem Ks{op:Op}{f:Operand}{args:Array Operand}(h:mO op=some (f,args)):f∈op.operands/\∀x,x∈args->x∈op.operands:=by
 cases op<;>simp[mO]at h
 case call c=>
  obtain⟨callee,as,ts⟩:=c
  cases callee<;>simp at h
  obtain⟨rfl,rfl⟩:=h
  exact⟨by simp[Op.operands,Call.operands],fun x hx=>by simp[Op.operands,Call.operands,hx]⟩
theorem yy{P:Program}{e e':Operand->Value}{op:Op}{ty:TypeId}{h:Heap}{k:aL}(H:∀x,x∈op.operands->e x=e' x):gL P e op ty h k=gL P e' op ty h k:=by
 unfold gL
 cases hm:iX op with
 |some x=>simp only[H x (Aq hm)]
 |none=>
  cases hc:mO op with
  |some p=>
   obtain⟨f,args⟩:=p
   obtain⟨h1,h2⟩:=Ks hc
   simp only[H f h1,kK args.toList fun x hx=>H x (h2 x (by simpa using hx))]
  |none=>simp only[uq (ty:=ty) H,pF H,Ao (ty:=ty) H,Ap H]
theorem HG{P:Program}{e e':Operand->Value}{op:Op}{ty:TypeId}{g:Heap}{v:Value}(H:∀x,x∈op.operands->e x=e' x):Yx P e op ty g v=Yx P e' op ty g v:=by
 unfold Yx
 cases hm:iX op with
 |some x=>simp only[H x (Aq hm)]
 |none=>simp only[uq (ty:=ty) H,pF H]
theorem Ar:∀(l:List Nat)(n:Nat),ga l n=false->n∉l
 |[],_,_=>by simp
 |x::xs,n,h=>by
  simp only[ga,Bool.or_eq_false_iff]at h
  have h1:x≠n:=fun e=>by subst e;simp at h
  simp only[aO,not_or]
  exact⟨fun e=>h1 e.symm,Ar xs n h.2⟩
def qO(ops:List Oper)(dst:Option Tmp)(o:Oper):Prop:=∀d,dst=some d->d∉looks ops o
theorem YL{e:Env}{dst:Option Tmp}{u:Value}{x:Operand}(h:∀d,dst=some d->x≠ .tmp d):ev (put e dst u) x=ev e x:=by
 cases dst with
 |none=>rfl
 |some d=>
  cases x with
  |tmp t=>simp only[put,ev];exact gy _ _ _ _ fun he=>h d rfl (by rw[he])
  |_=>rfl
theorem sL{ops:List Oper}{o:Oper}{dst:Option Tmp}{e:Env}{u:Value}(h:qO ops dst o):∀x,x∈o.op.operands->ev (put e dst u) x=ev e x:=by
 intro x hx
 refine YL fun d hd Un=>h d hd ?_
 subst Un
 unfold looks
 exact At _ (List.mem_filterMap.2 ⟨.tmp d,by simpa using hx,rfl⟩)
theorem yz{ops:List Oper}{o:Oper}{dst:Option Tmp}{e:Env}{u:Value}(h:qO ops dst o){j:Nat}{want:Bool}(hg:o.guard=some (j,want)):um ops (put e dst u) j=um ops e j:=by
 unfold um
 cases ht:Al ops j with
 |none=>rfl
 |some t=>
  cases dst with
  |none=>rfl
  |some d=>
   simp only[put]
   refine gy _ _ _ _ fun he=>h d rfl ?_
   unfold looks
   rw[hg]
   simp[ht,he]
theorem NY{P:Program}{ops:List Oper}{e:Env}{h:Heap}{o:Oper}{k:aL}{dst:Option Tmp}{u:Value}(hu:qO ops dst o):lE P ops (put e dst u) h o k=lE P ops e h o k:=by
 unfold lE
 cases hg:o.guard with
 |none=>exact yy (sL hu)
 |some p=>
  obtain⟨j,want⟩:=p
  have h2:gL P (ev (put e dst u)) o.op o.type h=gL P (ev e) o.op o.type h:=funext fun _=>yy (sL hu)
  simp only[yz hu hg,h2]
theorem EV{P:Program}{ops:List Oper}{e:Env}{g:Heap}{o:Oper}{v:Value}{dst:Option Tmp}{u:Value}(hu:qO ops dst o):Yv P ops (put e dst u) g o v=Yv P ops e g o v:=by
 unfold Yv
 cases hg:o.guard with
 |none=>exact HG (sL hu)
 |some p=>
  obtain⟨j,want⟩:=p
  simp only[yz hu hg,HG (sL hu)]
theorem put_comm{e:Env}{x y:Option Tmp}{u v:Value}(h:∀d,x=some d->y≠some d):put (put e x u) y v=put (put e y v) x u:=by
 cases x with
 |none=>rfl
 |some d=>
  cases y with
  |none=>rfl
  |some d'=>
   have fH:d≠d':=fun he=>h d rfl (by rw[he])
   simp only[put,Dw]
   exact List.set_comm _ _ fH
theorem apart_spec{ops:List Oper}{x y:Oper}(h:Am ops x y=true):qO ops x.dst y/\(∀d,x.dst=some d->y.dst≠some d)/\qO ops y.dst x:=by
 unfold Am at h
 simp only[bK]at h
 obtain⟨h1,h2⟩:=h
 refine⟨fun d hd=> ?_,fun d hd hy=> ?_,fun d hd=> ?_⟩
 ·rw[hd]at h1
  simp only[bK,gE]at h1
  exact Ar _ _ h1.1
 ·rw[hd,hy]at h1
  simp at h1
 ·rw[hd]at h2
  simp only[gE]at h2
  exact Ar _ _ h2
theorem qP{ops:List Oper}{x:Oper}{i:Nat}:∀(l:List Oper),sJ ops x i l=true->∀j y,jk l j=some y->Am ops x y=true\/lk y i=true
 |[],_,j,y,hy=>by simp[jk]at hy
 |z::zs,h,j,y,hy=>by
  simp only[sJ,bK,Bool.or_eq_true]at h
  cases j with
  |zero=>simp only[jk,dD]at hy;subst hy;exact h.1
  |succ j=>exact qP zs h.2 j y hy
theorem mQ{ops:List Oper}:∀(l:List Oper)(k:Nat),gP ops l k=true->∀i j x y,i<j->jk l i=some x->jk l j=some y->Am ops x y=true\/lk y (k+i)=true
 |[],_,_,i,j,x,y,_,hx,_=>by simp[jk]at hx
 |z::zs,k,h,i,j,x,y,hij,hx,hy=>by
  simp only[gP,bK]at h
  cases j with
  |zero=>omega
  |succ j=>
   cases i with
   |zero=>
    simp only[jk,dD]at hx
    subst hx
    exact qP zs h.1 j y hy
   |succ i=>
    have:=mQ zs (k+1) h.2 i j x y (by omega) hx hy
    rw[show k+(i+1)=k+1+i by omega]
    exact this
theorem PV{ops:List Oper}(hp:gP ops ops 0=true){i j:Nat}{x y:Oper}(hx:jk ops i=some x)(hy:jk ops j=some y)(fH:j≠i)(h1:lk y i=false)(h2:lk x j=false):
 qO ops x.dst y/\(∀d,x.dst=some d->y.dst≠some d)/\qO ops y.dst x:=by
 rcases Nat.lt_or_gt_of_ne fH with h|h
 ·rcases mQ ops 0 hp j i y x h hy hx with h3|h3
  ·obtain⟨a,b,c⟩:=apart_spec h3
   exact⟨c,fun d hd TR=>b d TR hd,a⟩
  ·rw[iM,h2]at h3;cases h3
 ·rcases mQ ops 0 hp i j x y h hx hy with h3|h3
  ·exact apart_spec h3
  ·rw[iM,h1]at h3;cases h3
theorem Dy{bf:List Nat}{s:Nat×(Heap->Prop)}:∀{S:mg},s∈ua bf S↔s∈S/\ga bf s.1=false
 |[]=>by simp[ua]
 |(i,p)::S=>by
  have ih:=Dy (bf:=bf) (s:=s) (S:=S)
  unfold ua
  cases h:ga bf i with
  |true=>
   simp only[ih,aO]
   constructor
   ·rintro⟨a,b⟩;exact⟨.inr a,b⟩
   ·rintro⟨a|a,b⟩
    ·subst a;rw[h]at b;cases b
    ·exact⟨a,b⟩
  |false=>
   simp only[aO,ih]
   constructor
   ·rintro(a|⟨a,b⟩)
    ·subst a;exact⟨.inl rfl,h⟩
    ·exact⟨.inr a,b⟩
   ·rintro⟨a|a,b⟩
    ·exact .inl a
    ·exact .inr ⟨a,b⟩
theorem NZ{ops:List Oper}{o:Oper}{s:Nat×(Heap->Prop)}{S:mg}:s∈nJ ops o S↔s∈S/\ga (yw ops o) s.1=false:=Dy
def nL(ops:List Oper)(l:List Bool):Prop:=∀j o,jk ops j=some o->lB l j false=true->∀x,x∈pD o.after.toList->lB l x false=true
theorem ur:∀{es:List Edge}{x:Nat},x∈pD es->∃e,e∈es/\Region.binds .any e=true/\e.on=x
 |[],x,h=>by simp[pD]at h
 |e::es,x,h=>by
  unfold pD at h
  cases hb:Region.binds .any e with
  |true=>
   rw[hb]at h
   rcases aO.1 h with rfl|h
   ·exact⟨e,by simp,hb,rfl⟩
   ·obtain⟨f,h1,h2⟩:=ur h
    exact⟨f,by simp[h1],h2⟩
  |false=>
   rw[hb]at h
   obtain⟨f,h1,h2⟩:=ur h
   exact⟨f,by simp[h1],h2⟩
theorem yA{l:List Bool}{o:Oper}{i:Nat}(h:iL l o i=true):∀x,x∈pD o.after.toList->lB l x false=true:=fun x hx=>by
 obtain⟨e,h1,h2,h3⟩:=ur hx
 rw[<-h3]
 exact(jJ.1 h).2 e (by simpa using h1) h2
theorem nL.set{ops:List Oper}{l:List Bool}(C:nL ops l){i:Nat}{o:Oper}(ho:jk ops i=some o)(hr:iL l o i=true):nL ops (jV l i):=fun j o' ho' hj x hx=>by
 refine pE _ _ _ ?_
 by_cases h:j=i
 ·subst h
  rw[ho]at ho'
  have:=bF ho'
  subst this
  exact yA hr x hx
 ·rw[uo _ _ _ _ (Ne.symm h)]at hj
  exact C j o' ho' hj x hx
theorem HH:∀{a b:List Nat}{x:Nat},x∈YJ a b->x∈a\/x∈b
 |[],b,x,h=> .inr h
 |y::a,b,x,h=>by
  rcases aO.1 h with rfl|h
  ·exact .inl (by simp)
  ·rcases HH h with h|h
   ·exact .inl (by simp[h])
   ·exact .inr h
theorem HI:∀{l:List Nat}{i:Nat},ga l i=true->i∈l
 |[],i,h=>by simp[ga]at h
 |x::l,i,h=>by
  simp only[ga,Bool.or_eq_true]at h
  rcases h with h|h
  ·have:=fo h;subst this;simp
  ·simp[HI h]
theorem vc{ops:List Oper}{l:List Bool}(C:nL ops l):∀{n:Nat}{todo seen:List Nat},(∀x,x∈todo->lB l x false=true)->(∀x,x∈seen->lB l x false=true)->∀x,x∈anc ops n todo seen->lB l x false=true
 |0,_,_,_,h2,x,hx=>h2 x hx
 |_+1,[],_,_,h2,x,hx=>h2 x hx
 |n+1,i::todo,seen,h1,h2,x,hx=>by
  have hi:=h1 i (by simp)
  have ht:∀x,x∈todo->lB l x false=true:=fun x hx=>h1 x (by simp[hx])
  have hs:∀x,x∈i::seen->lB l x false=true:=fun x hx=>by
   rcases aO.1 hx with rfl|hx
   ·exact hi
   ·exact h2 x hx
  unfold anc at hx
  split at hx
  ·exact vc C ht h2 x hx
  ·split at hx
   ·rename_i o ho
    exact vc C (fun y hy=>(HH hy).elim (C i o ho hi y) (ht y)) hs x hx
   ·exact vc C ht hs x hx
theorem PW{ops:List Oper}{l:List Bool}(C:nL ops l){o:Oper}{i j:Nat}(h:iL l o j=true)(hi:lB l i true=false):ga (yw ops o) i=false:=by
 cases hh:ga (yw ops o) i with
 |false=>rfl
 |true=>
  have:=vc C (yA h) (fun x hx=>by simp at hx) i (HI hh)
  rw[nZ _ _ hi]at this
  cases this
theorem pG{P:Program}{ops:List Oper}{K:Env->Heap->Prop}:∀(n:Nat)(l:List Bool)(e:Env)(h:Heap)(S S':mg),(∀s,s∈S'->s∈S\/∀g,s.2 g)->Db P ops K n l e h S->Db P ops K n l e h S'
 |0,_,_,_,_,_,_,H=>H
 |n+1,l,e,h,S,S',hs,H=>by
  refine⟨H.1,fun i o hi=>jI (fun v h' hv=>⟨fun hq=>pG n _ _ _ _ _ hs (hv.1 hq),fun hq=> ?_⟩) (H.2 i o hi)⟩
  obtain⟨h1,h2⟩:=hv.2 hq
  have Kt:∀s,s∈nJ ops o S'->s∈nJ ops o S\/∀g,s.2 g:=fun s hm=>by
   rw[NZ]at*
   rcases hs _ hm.1 with h|h
   ·exact .inl ⟨h,hm.2⟩
   ·exact .inr h
  exact⟨fun s hm=>(Kt s hm).elim (h1 s) fun k=>k _,pG n _ _ _ _ _ Kt h2⟩
theorem Au{P:Program}{ops:List Oper}{K:Env->Heap->Prop}(hp:gP ops ops 0=true){i:Nat}{oi:Oper}{v:Value}(hi:jk ops i=some oi)(hq:(yv oi.op||CZ oi.op)=true)(p:Heap->Prop):
 ∀(n:Nat)(l:List Bool)(e:Env)(h:Heap)(S:mg),nL ops l->(∀g,p g->Yv P ops e g oi v)->iL l oi i=true->Yv P ops e h oi v->
  Db P ops K n (jV l i) (put e oi.dst v) h ((i,p)::S)->Db P ops K (n+1) l e h S:=by
 intro n
 induction n with
 |zero=>
  intro l e h S C hpy hr hy H
  refine⟨fun h0=> ?_,fun j oj hj=> ?_⟩
  ·have:=dP.2 ⟨hi,hr⟩;rw[h0]at this;cases this
  ·obtain⟨TS,X1⟩:=dP.1 hj
   by_cases YM:j=i
   ·subst YM
    obtain rfl:oj=oi:=by rw[hi]at TS;exact(bF TS).symm
    rw[lF hq]
    exact⟨v,hy,fun _=>⟨H.1,H.2⟩,fun hc=>by rw[hq]at hc;cases hc⟩
   ·have:=dP.2 ⟨TS,qN X1 YM⟩
    rw[H.1]at this;cases this
 |succ n ih=>
  intro l e h S C hpy hr hy H
  refine⟨fun h0=> ?_,fun j oj hj=> ?_⟩
  ·have:=dP.2 ⟨hi,hr⟩;rw[h0]at this;cases this
  ·obtain⟨TS,X1⟩:=dP.1 hj
   by_cases YM:j=i
   ·subst YM
    obtain rfl:oj=oi:=by rw[hi]at TS;exact(bF TS).symm
    rw[lF hq]
    exact⟨v,hy,fun _=>pG _ _ _ _ _ _ (fun s hs=> .inl (by simp[hs])) H,fun hc=>by rw[hq]at hc;cases hc⟩
   ·have hli:lB l i true=false:=(jJ.1 hr).1
    have hlj:lB l j true=false:=(jJ.1 X1).1
    have hnj:lk oj i=false:=Mi X1 hli
    have hni:lk oi j=false:=Mi hr hlj
    obtain⟨a1,a2,a3⟩:=PV hp hi TS YM hnj hni
    have H1:=H.2 j oj (dP.2 ⟨TS,qN X1 YM⟩)
    rw[NY a1]at H1
    have hri:iL (jV l j) oi i=true:=qN hr (Ne.symm YM)
    by_cases hqj:(yv oj.op||CZ oj.op)=true
    ·rw[lF hqj]at H1⊢
     obtain⟨u,hu,H2⟩:=H1
     refine⟨u,hu,fun _=> ?_,fun hc=>by rw[hqj]at hc;cases hc⟩
     refine ih (jV l j) (put e oj.dst u) h S (C.set TS X1) (fun g hg=>by rw[EV a3];exact hpy g hg) hri (by rw[EV a3];exact hy) ?_
     rw[wB,<-put_comm a2]
     exact H2.1 hqj
    ·have ahV:(yv oj.op||CZ oj.op)=false:=by simpa using hqj
     refine jI (fun u h' H2=>⟨fun hc=>absurd hc hqj,fun _=> ?_⟩) H1
     obtain⟨h3,h4⟩:=H2.2 ahV
     have hk:nJ ops oj ((i,p)::S)=(i,p)::nJ ops oj S:=by simp[nJ,ua,PW C X1 hli]
     rw[hk]at h3 h4
     refine⟨fun s hs=>h3 s (by simp[hs]),?_⟩
     refine ih (jV l j) (put e oj.dst u) h' (nJ ops oj S) (C.set TS X1) (fun g hg=>by rw[EV a3];exact hpy g hg) hri ?_ ?_
     ·rw[EV a3]
      exact hpy _ (h3 (i,p) (by simp))
     ·rw[wB,<-put_comm a2]
      exact h4
theorem qQ:∀{r:List (Nat×Oper)}{x:Nat×Oper},eC r=some x->x∈r/\(yv x.2.op||CZ x.2.op)=true
 |[],_,h=>by simp[eC]at h
 |(i,o)::r,x,h=>by
  unfold eC at h
  cases hq:(yv o.op||CZ o.op)with
  |true=>rw[hq]at h;simp only[dD]at h;subst h;exact⟨by simp,hq⟩
  |false=>rw[hq]at h;have:=qQ h;exact⟨by simp[this.1],this.2⟩
theorem qo:∀{r:List (Nat×Oper)},eC r=none->∀x,x∈r->(yv x.2.op||CZ x.2.op)=false
 |[],_,x,hx=>by simp at hx
 |(i,o)::r,h,x,hx=>by
  unfold eC at h
  cases hq:(yv o.op||CZ o.op)with
  |true=>rw[hq]at h;cases h
  |false=>
   rw[hq]at h
   rcases aO.1 hx with rfl|hx
   ·exact hq
   ·exact qo h x hx
theorem Dz{h:Heap}{K:Prop}:∀{S:mg},PU h K S->(∀s,s∈S->s.2 h)/\K
 |[],H=>⟨fun s hs=>by simp at hs,H⟩
 |(i,p)::S,H=>by
  obtain⟨h1,h2⟩:=H
  obtain⟨h3,h4⟩:=Dz h2
  refine⟨fun s hs=> ?_,h4⟩
  rcases aO.1 hs with h|h
  ·rw[h];exact h1
  ·exact h3 s h
theorem DA{f:Nat->Oper->Prop}:∀{r:List (Nat×Oper)},Kr f r->∀i o,(i,o)∈r->f i o
 |[],_,i,o,h=>by simp at h
 |[(j,x)],H,i,o,h=>by simp at h;obtain⟨rfl,rfl⟩:=h;exact H
 |(j,x)::y::r,H,i,o,h=>by
  rcases aO.1 h with h|h
  ·cases h;exact H.1
  ·exact DA H.2 i o h
theorem j7{P:Program}{ops:List Oper}{K:Env->Heap->Prop}(hp:gP ops ops 0=true):∀(n:Nat)(l:List Bool)(e:Env)(h:Heap)(S:mg),nL ops l->nY P ops K n l e h S->Db P ops K n l e h S
 |0,l,e,h,S,C,H=>by
  unfold nY at H
  cases hr:bW ops 0 l with
  |nil=>rw[hr]at H;exact⟨hr,H⟩
  |cons x xs=>rw[hr]at H;exact H.elim
 |n+1,l,e,h,S,C,H=>by
  unfold nY at H
  cases hq:eC (bW ops 0 l)with
  |some x=>
   obtain⟨i,o⟩:=x
   obtain⟨hm,hqq⟩:=qQ hq
   obtain⟨ho,hr⟩:=dP.1 hm
   rw[hq]at H
   simp only at H
   cases hpu:yv o.op with
   |true=>
    rw[hpu]at H
    simp only at H
    rw[lF hqq]at H
    obtain⟨v,hv,H⟩:=H
    exact Au hp ho hqq (fun _=>True) n l e h S C (fun g _=>Um hpu hv g) hr hv
     (pG _ _ _ _ _ _ (fun s hs=>(aO.1 hs).elim (fun h=> .inr fun _=>by rw[h];trivial) .inl) (j7 hp n _ _ _ _ (C.set ho hr) H))
   |false=>
    rw[hpu]at H
    simp only at H
    rw[lF hqq]at H
    obtain⟨v,hv,H⟩:=H
    exact Au hp ho hqq _ n l e h S C (fun g hg=>hg) hr hv (j7 hp n _ _ _ _ (C.set ho hr) H)
  |none=>
   rw[hq]at H
   simp only at H
   cases hr:bW ops 0 l with
   |nil=>
    rw[hr]at H
    exact⟨fun _=>H,fun i o hi=>by rw[hr]at hi;cases hi⟩
   |cons x xs=>
    rw[hr]at H
    simp only at H
    refine⟨fun h0=>(by rw[hr]at h0;cases h0),fun i o hi=> ?_⟩
    rw[hr]at hi
    have H1:=DA H i o hi
    obtain⟨ho,YN⟩:=dP.1 (by rw[hr];exact hi:(i,o)∈bW ops 0 l)
    refine jI (fun v h' hv=>⟨fun hc=> ?_,fun _=> ?_⟩) H1
    ·have:=qo hq (i,o) (by rw[hr];exact hi)
     rw[hc]at this;cases this
    ·obtain⟨h1,h2⟩:=Dz hv
     exact⟨h1,j7 hp n _ _ _ _ (C.set ho YN) h2⟩
theorem zw(l:Array Bool)(i:Nat)(d:Bool):lB l.toList i d=l.getD i d:=by
 have key:∀(l:List Bool)(i:Nat),lB l i d=l[i]?.getD d:=by
  intro l
  induction l with
  |nil=>intro i;simp[lB]
  |cons x xs ih=>intro i;cases i<;>simp[lB,ih]
 rw[key];simp
theorem yB(l:Array Bool)(i:Nat):jV l.toList i=(l.setIfInBounds i true).toList:=by
 have key:∀(l:List Bool)(i:Nat),jV l i=l.set i true:=by
  intro l
  induction l with
  |nil=>intro i;rfl
  |cons x xs ih=>intro i;cases i<;>simp[jV,ih]
 rw[key];simp
theorem uu{ops:Array Oper}{l:Array Bool}{i:Nat}:i∈Region.ready .any ops l↔∃o,(i,o)∈bW ops.toList 0 l.toList:=by
 rw[mem_ready]
 constructor
 ·rintro⟨h0,o,ho,h⟩
  refine⟨o,dP.2 ⟨by rw[sI];exact ho,jJ.2 ⟨by rw[zw];exact h0,fun e he hb=>by rw[zw];exact h e he hb⟩⟩⟩
 ·rintro⟨o,h⟩
  obtain⟨ho,hr⟩:=dP.1 h
  obtain⟨h0,h1⟩:=jJ.1 hr
  exact⟨by rw[<-zw];exact h0,o,by rw[<-sI];exact ho,fun e he hb=>by rw[<-zw];exact h1 e he hb⟩
theorem DB{ops:Array Oper}{l:Array Bool}:Region.ready .any ops l=[]↔bW ops.toList 0 l.toList=[]:=by
 constructor
 ·intro h
  cases hr:bW ops.toList 0 l.toList with
  |nil=>rfl
  |cons x xs=>
   have:x.1∈Region.ready .any ops l:=uu.2 ⟨x.2,by rw[hr];simp⟩
   rw[h]at this;cases this
 ·intro h
  cases hr:Region.ready .any ops l with
  |nil=>rfl
  |cons x xs=>
   obtain⟨o,ho⟩:=uu.1 (show x∈Region.ready .any ops l by rw[hr];simp)
   rw[h]at ho;cases ho
theorem oc{P:Program}{ops:Array Oper}{Q:Exit->Act->World->Prop}{K:Env->Heap->Prop}{w0:World}(hQ:∀a w,dV w0 w->K a.tmps.toList w.heap->a.defers=[]->Q .normal a w):
 ∀(n:Nat)(l:Array Bool)(a:Act)(w:World)(S:mg),a.defers=[]->dV w0 w->Db P ops.toList K n l.toList a.tmps.toList w.heap S->wpAny P .any ops Q n l a w
 |0,l,a,w,S,hd,hs,H=>⟨DB.2 H.1,hQ a w hs H.2 hd⟩
 |n+1,l,a,w,S,hd,hs,H=>by
  refine⟨fun h=>hQ a w hs (H.1 (DB.1 h)) hd,fun i hi=> ?_⟩
  obtain⟨o,ho⟩:=uu.1 hi
  refine tZ (by rw[<-sI];exact(dP.1 ho).1) (jI (fun v h' hv=> ?_) (H.2 i o ho))
  intro w' hw' hh'
  subst hh'
  have TR:(a.put o.dst v).defers=[]:=by rw[put_defers];exact hd
  cases hq:(yv o.op||CZ o.op)with
  |true=>
   have:=hv.1 hq
   rw[yB,<-ul]at this
   exact oc hQ n _ _ _ _ TR (hs.trans hw') this
  |false=>
   have:=(hv.2 hq).2
   rw[yB,<-ul]at this
   exact oc hQ n _ _ _ _ TR (hs.trans hw') this
theorem uc{P:Program}{ops:Array Oper}{Q:Exit->Act->World->Prop}{K:Env->Heap->Prop}{w0:World}(hQ:∀a w,dV w0 w->K a.tmps.toList w.heap->a.defers=[]->Q .normal a w):
 ∀(l:List Oper)(k:Nat)(a:Act)(w:World),(∀j,jk l j=jk ops.toList (k+j))->a.defers=[]->dV w0 w->wpIn P ops.toList l a.tmps.toList w.heap K->wpOps P ops Q (List.range' k l.length) a w
 |[],k,a,w,_,hd,hs,H=>by simpa[wpOps]using hQ a w hs H hd
 |o::os,k,a,w,hl,hd,hs,H=>by
  simp only[List.length_cons,List.range'_succ]
  rw[wpOps_cons]
  have ho:ops[k]?=some o:=by rw[<-sI];have:=hl 0;simp only[jk,Nat.add_zero]at this;exact this.symm
  refine tZ ho (jI (fun v h' hv=> ?_) H)
  intro w' hw' hh'
  subst hh'
  refine uc hQ os (k+1) _ _ (fun j=> ?_) (by rw[put_defers];exact hd) (hs.trans hw') (by rw[ul];exact hv)
  have:=hl (j+1)
  simp only[jk]at this
  rw[this,show k+(j+1)=k+1+j by omega]
def pH:List Oper->List Bool
 |[]=>[]
 |_::os=>false::pH os
def len:List Oper->Nat
 |[]=>0
 |_::os=>len os+1
def Uo(P:Program)(ops:List Oper)(draw:Bool)(e:Env)(h:Heap)(K:Env->Heap->Prop):Prop:=
 match draw with
 |false=>wpIn P ops ops e h K
 |true=>match gP ops ops 0 with
  |true=>nY P ops K (len ops) (pH ops) e h []
  |false=>False
def Dc:List Oper->List Nat
 |[]=>[]
 |o::os=>match o.dst with
  |some d=>d::Dc os
  |none=>Dc os
def writes:Code->List Nat
 | .region _ ops _=>Dc ops.toList
 | .seq a b=>writes a++writes b
 | .cond _ a b=>writes a++writes b
 | .block _ c=>writes c
 | .loop c=>writes c
 |_=>[]
def mh:Nat->(List Value->Prop)->Prop
 |0,f=>f []
 |n+1,f=>∀v,mh n fun vs=>f (v::vs)
def jW:List Nat->Nat
 |[]=>0
 |_::xs=>jW xs+1
def DC(P:Program)(an:Nat->Option (List Nat)):Code->Nat->(Env->Heap->Prop)->(Nat->Env->Heap->Prop)->(Env->Heap->Prop)->Env->Heap->Prop
 | .skip,_,kn,_,_,e,h=>kn e h
 | .region _ ops draw,_,kn,_,_,e,h=>Uo P ops.toList draw e h kn
 | .seq a b,p,kn,kx,kr,e,h=>match an p with
   |none=>DC P an a (2*p) (fun e' h'=>DC P an b (2*p+1) kn kx kr e' h') kx kr e h
   |some L=>∃J:List Value->Heap->Prop,DC P an a (2*p) (fun e' h'=>J (fP e' L) h') kx kr e h/\
    ∀(wC:Nat->Value),mh (jW L) fun vs=>∀h':Heap,J vs h'->DC P an b (2*p+1) kn kx kr (lh (iD e wC (writes a)) L vs) h'
 | .cond c a b,p,kn,kx,kr,e,h=>PR (ev e c) (DC P an a (2*p) kn kx kr e h) (DC P an b (2*p+1) kn kx kr e h)
 | .block id c,p,kn,kx,kr,e,h=>DC P an c (2*p) kn (fun i e' h'=>match Nat.beq i id with
   |true=>kn e' h'
   |false=>kx i e' h') kr e h
 | .loop c,p,_,kx,kr,e,h=>match an p with
   |none=>False
   |some L=>∃(I:List Value->Heap->Prop)(μ:List Value->Heap->Nat),I (fP e L) h/\
    ∀(wC:Nat->Value),mh (jW L) fun vs=>∀h':Heap,I vs h'->
     DC P an c (2*p) (fun e'' nD=>I (fP e'' L) nD/\μ (fP e'' L) nD<μ vs h') kx kr (lh (iD e wC (writes c)) L vs) h'
 | .exit id,_,_,kx,_,e,h=>kx id e h
 | .ret,_,_,_,kr,e,h=>kr e h
 | .label _,_,kn,_,_,e,h=>kn e h
 |_,_,_,_,_,_,_=>False
structure sM(D:List Nat)(e e':Env):Prop where
 len:e'.length=e.length
 same:∀t,t∉D->fZ e' t=fZ e t
theorem sM.refl(D:List Nat)(e:Env):sM D e e:=⟨rfl,fun _ _=>rfl⟩
theorem sM.trans{D:List Nat}{a b c:Env}(h:sM D a b)(k:sM D b c):sM D a c:=⟨k.len.trans h.len,fun t ht=>(k.same t ht).trans (h.same t ht)⟩
theorem sM.mono{D D':List Nat}{a b:Env}(h:sM D a b)(hD:∀t,t∈D->t∈D'):sM D' a b:=⟨h.len,fun t ht=>h.same t fun hm=>ht (hD t hm)⟩
theorem sM.put{D:List Nat}{a b:Env}(h:sM D a b){dst:Option Tmp}(hd:∀d,dst=some d->d∈D)(v:Value):sM D a (put b dst v):=by
 cases dst with
 |none=>exact h
 |some d=>
  refine⟨by simp only[Mx.put];rw[gw];exact h.len,fun t ht=> ?_⟩
  simp only[Mx.put]
  rw[gy _ _ _ _ fun he=>ht (by rw[<-he];exact hd d rfl)]
  exact h.same t ht
theorem qR:∀(D:List Nat)(e:Env)(j:Nat->Value),(iD e j D).length=e.length
 |[],_,_=>rfl
 |t::ts,e,j=>by simp only[iD];rw[qR ts,gw]
theorem DD:∀(D:List Nat)(e:Env)(j:Nat->Value)(t:Nat),t<e.length->fZ (iD e j D) t=if t∈D then j t else fZ e t
 |[],_,_,_,_=>by simp[iD]
 |d::ds,e,j,t,ht=>by
  simp only[iD]
  rw[DD ds _ _ _ (by rw[gw];exact ht)]
  by_cases h1:t∈ds
  ·simp[h1]
  ·simp only[h1,gz,aO,aN]
   by_cases h2:t=d
   ·subst h2;simp[mf _ _ _ ht]
   ·simp only[h2,gz];exact gy _ _ _ _ (Ne.symm h2)
theorem yC:∀(L:List Nat)(e:Env),lh e L (fP e L)=e
 |[],_=>rfl
 |t::ts,e=>by
  have h0:wy e t (fZ e t)=e:=EU _ _ (gw _ _ _) fun s hs=>by
   rw[gw]at hs
   by_cases h:t=s
   ·subst h;exact mf _ _ _ hs
   ·exact gy _ _ _ _ h
  simp only[fP,lh,h0]
  exact yC ts e
theorem Aw{D:List Nat}{e e':Env}(h:sM D e e')(L:List Nat):lh (iD e (fZ e') D) L (fP e' L)=e':=by
 have h0:iD e (fZ e') D=e':=EU _ _ (by rw[qR,h.len]) fun t ht=>by
  rw[qR]at ht
  rw[DD _ _ _ _ ht]
  by_cases hm:t∈D
  ·simp[hm]
  ·simp[hm,h.same t hm]
 rw[h0]
 exact yC L e'
theorem mR:∀(L:List Nat)(e:Env),(fP e L).length=jW L
 |[],_=>rfl
 |_::ts,e=>by simp[fP,jW,mR ts e]
theorem pI:∀(n:Nat)(f:List Value->Prop),mh n f->∀vs:List Value,vs.length=n->f vs
 |0,f,h,vs,hv=>by rw[pJ hv];exact h
 |n+1,f,h,[],hv=>by simp at hv
 |n+1,f,h,v::vs,hv=>pI n (fun vs=>f (v::vs)) (h v) vs (by simpa using hv)
def qS(D:List Nat)(kn:Env->Heap->Prop)(kx:Nat->Env->Heap->Prop)(kr:Env->Heap->Prop)(e0:Env)(w0:World):Exit->Act->World->Prop
 | .normal,a,w=>a.defers=[]/\dV w0 w/\sM D e0 a.tmps.toList/\kn a.tmps.toList w.heap
 | .exit id,a,w=>a.defers=[]/\dV w0 w/\sM D e0 a.tmps.toList/\kx id a.tmps.toList w.heap
 | .ret,a,w=>a.defers=[]/\dV w0 w/\sM D e0 a.tmps.toList/\kr a.tmps.toList w.heap
 |_,_,_=>False
theorem qS.weaken{D D':List Nat}{kn sN:Env->Heap->Prop}{kx vd:Nat->Env->Heap->Prop}{kr:Env->Heap->Prop}{e0 e1:Env}{w0 w1:World}(hD:∀t,t∈D->t∈D')(hw:dV w0 w1)(he:sM D' e0 e1)
 (hn:∀e h,kn e h->sN e h) (hx:∀i e h,kx i e h->vd i e h) {x:Exit} {a:Act} {w:World} (H:qS D kn kx kr e1 w1 x a w):qS D' sN vd kr e0 w0 x a w:=by
 cases x<;>first
  |exact⟨H.1,hw.trans H.2.1,he.trans (H.2.2.1.mono hD),hn _ _ H.2.2.2⟩
  |exact⟨H.1,hw.trans H.2.1,he.trans (H.2.2.1.mono hD),hx _ _ _ H.2.2.2⟩
  |exact⟨H.1,hw.trans H.2.1,he.trans (H.2.2.1.mono hD),H.2.2.2⟩
  |exact H
theorem qS.EW{D D':List Nat}{kn sN:Env->Heap->Prop}{kx:Nat->Env->Heap->Prop}{kr:Env->Heap->Prop}{e0 e1:Env}{w0 w1:World}(hD:∀t,t∈D->t∈D')(hw:dV w0 w1)(he:sM D' e0 e1)
 {x:Exit} {a:Act} {w:World} (hx:x≠ .normal) (H:qS D kn kx kr e1 w1 x a w):qS D' sN kx kr e0 w0 x a w:=by
 cases x<;>first
  |exact absurd rfl hx
  |exact⟨H.1,hw.trans H.2.1,he.trans (H.2.2.1.mono hD),H.2.2.2⟩
  |exact H
theorem ve:∀(ops:List Oper)(j:Nat)(o:Oper),jk ops j=some o->∀d,o.dst=some d->d∈Dc ops
 |[],j,o,h,_,_=>by simp[jk]at h
 |x::xs,0,o,h,d,hd=>by simp only[jk,dD]at h;subst h;simp[Dc,hd]
 |x::xs,j+1,o,h,d,hd=>by
  have:=ve xs j o h d hd
  unfold Dc
  cases x.dst<;>simp[this]
theorem HJ{P:Program}{ops:List Oper}{K:Env->Heap->Prop}{e0:Env}{D:List Nat}:∀(l:List Oper)(e:Env)(h:Heap),(∀j o,jk l j=some o->∀d,o.dst=some d->d∈D)->sM D e0 e->wpIn P ops l e h K->wpIn P ops l e h fun e' h'=>sM D e0 e'/\K e' h'
 |[],e,h,_,ho,H=>⟨ho,H⟩
 |o::os,e,h,hl,ho,H=>jI (fun v h' hv=>HJ os _ _ (fun j x hx=>hl (j+1) x hx) (ho.put (hl 0 o rfl) v) hv) H
theorem Ax{P:Program}{ops:List Oper}{K:Env->Heap->Prop}{e0:Env}:∀(n:Nat)(l:List Bool)(e:Env)(h:Heap)(S:mg),sM (Dc ops) e0 e->Db P ops K n l e h S->Db P ops (fun e' h'=>sM (Dc ops) e0 e'/\K e' h') n l e h S
 |0,l,e,h,S,ho,H=>⟨H.1,ho,H.2⟩
 |n+1,l,e,h,S,ho,H=>⟨fun h0=>⟨ho,H.1 h0⟩,fun i o hi=>jI (fun v h' hv=>
  ⟨fun hq=>Ax n _ _ _ _ (ho.put (ve ops i o (dP.1 hi).1) v) (hv.1 hq),fun hq=>⟨(hv.2 hq).1,Ax n _ _ _ _ (ho.put (ve ops i o (dP.1 hi).1) v) (hv.2 hq).2⟩⟩) (H.2 i o hi)⟩
theorem YO(ops:Array Oper):Mx.len ops.toList=ops.size:=by
 have key:∀l:List Oper,Mx.len l=l.length:=by intro l;induction l<;>simp[Mx.len, *]
 rw[key];simp
theorem DE:∀(l:List Oper)(j:Nat),lB (pH l) j false=false
 |[],_=>rfl
 |_::_,0=>rfl
 |_::l,j+1=>DE l j
theorem Dd(ops:List Oper):nL ops (pH ops):=fun j o _ h=>by rw[DE]at h;cases h
theorem N3(ops:Array Oper):pH ops.toList=(Array.replicate ops.size false).toList:=by
 have key:∀l:List Oper,pH l=List.replicate l.length false:=by
  intro l
  induction l with
  |nil=>rfl
  |cons x xs ih=>simp[pH,ih,List.replicate_succ]
 rw[key];simp
theorem N4{P:Program}(hm:P.follows .mixedOrders=true)(an:Nat->Option (List Nat)):∀(c:Code)(p:Nat)(kn:Env->Heap->Prop)(kx:Nat->Env->Heap->Prop)(kr:Env->Heap->Prop)(a:Act)(w:World),
 a.defers=[]->DC P an c p kn kx kr a.tmps.toList w.heap->c.wp P (qS (writes c) kn kx kr a.tmps.toList w) a w:=by
 intro c
 induction c with
 |skip=>intro p kn kx kr a w hd H;exact wp_skip ⟨hd,dV.refl w,sM.refl _ _,H⟩
 |region id ops draw=>
  intro p kn kx kr a w hd H
  simp only[DC,Uo]at H
  cases draw with
  |false=>
   simp only at H
   have H':=HJ (D:=Dc ops.toList) ops.toList _ _ (fun j o ho d hdd=>ve _ j o ho d hdd) (sM.refl _ _) H
   have:=uc (P:=P) (ops:=ops) (Q:=qS (Dc ops.toList) kn kx kr a.tmps.toList w) (w0:=w) (fun a' w' hs hk TR=>⟨TR,hs,hk.1,hk.2⟩) ops.toList 0 a w (fun j=>by rw[iM]) hd (dV.refl w) H'
   refine wp_region ?_
   rw[List.range_eq_range']
   have hl:ops.toList.length=ops.size:=by simp
   rw[hl]at this
   exact this
  |true=>
   simp only at H
   cases hp:gP ops.toList ops.toList 0 with
   |false=>rw[hp]at H;exact H.elim
   |true=>
    rw[hp]at H
    simp only at H
    have H':=Ax _ _ _ _ _ (sM.refl _ a.tmps.toList) (j7 hp _ _ _ _ _ (Dd _) H)
    rw[YO,N3]at H'
    refine wp_region_any hm ?_
    exact oc (w0:=w) (fun a' w' hs hk TR=>⟨TR,hs,hk.1,hk.2⟩) ops.size _ a {w with drawn:=w.drawn+1} [] hd ⟨rfl,rfl,rfl⟩ H'
 |seq x y ihx ihy=>
  intro p kn kx kr a w hd H
  simp only[DC]at H
  refine wp_seq ?_
  cases hp:an p with
  |none=>
   rw[hp]at H
   refine wp_mono (ihx _ _ _ _ a w hd H) fun e a' w' hq=> ?_
   cases e with
   |normal=>
    obtain⟨h1,h2,h3,h4⟩:=hq
    exact wp_mono (ihy _ _ _ _ a' w' h1 h4) fun e a'' w'' hq'=>hq'.weaken (fun t ht=>List.mem_append_right _ ht) h2 (h3.mono fun t ht=>At _ ht) (fun _ _ h=>h) (fun _ _ _ h=>h)
   |_=>exact qS.EW (sN:=kn) (D':=writes x++writes y) (fun t ht=>At _ ht) (dV.refl w) (sM.refl _ _) (by simp) hq
  |some L=>
   rw[hp]at H
   obtain⟨J,H1,H2⟩:=H
   refine wp_mono (ihx _ _ _ _ a w hd H1) fun e a' w' hq=> ?_
   cases e with
   |normal=>
    obtain⟨h1,h2,h3,h4⟩:=hq
    have H3:=pI _ _ (H2 (fZ a'.tmps.toList)) (fP a'.tmps.toList L) (mR _ _) _ h4
    rw[Aw h3]at H3
    exact wp_mono (ihy _ _ _ _ a' w' h1 H3) fun e a'' w'' hq'=>hq'.weaken (fun t ht=>List.mem_append_right _ ht) h2 (h3.mono fun t ht=>At _ ht) (fun _ _ h=>h) (fun _ _ _ h=>h)
   |_=>exact qS.EW (sN:=kn) (D':=writes x++writes y) (fun t ht=>At _ ht) (dV.refl w) (sM.refl _ _) (by simp) hq
 |cond c x y ihx ihy=>
  intro p kn kx kr a w hd H
  simp only[DC]at H
  obtain⟨t,ht,h1,h2⟩:=H
  rw[fU]at ht
  refine wp_cond_split ht (fun h=> ?_) (fun h=> ?_)
  ·exact wp_mono (ihx _ _ _ _ a w hd (h1 h)) fun e a' w' hq=>hq.weaken (fun t ht=>At _ ht) (dV.refl w) (sM.refl _ _) (fun _ _ h=>h) (fun _ _ _ h=>h)
  ·exact wp_mono (ihy _ _ _ _ a w hd (h2 h)) fun e a' w' hq=>hq.weaken (fun t ht=>List.mem_append_right _ ht) (dV.refl w) (sM.refl _ _) (fun _ _ h=>h) (fun _ _ _ h=>h)
 |block id x ih=>
  intro p kn kx kr a w hd H
  simp only[DC]at H
  refine wp_block (wp_mono (ih _ _ _ _ a w hd H) fun e a' w' hq=> ?_)
  cases e with
  |exit i=>
   obtain⟨h1,h2,h3,h4⟩:=hq
   simp only[Exit.inBlock]
   by_cases hi:i=id
   ·subst hi
    simp only[jE]
    have hb:Nat.beq i i=true:=by simp
    rw[hb]at h4
    exact⟨h1,h2,h3,h4⟩
   ·simp only[hi,gz]
    have hb:Nat.beq i id=false:=by
     cases hb:Nat.beq i id with
     |false=>rfl
     |true=>exact absurd (fo hb) hi
    rw[hb]at h4
    exact⟨h1,h2,h3,h4⟩
  |_=>exact hq
 |loop x ih=>
  intro p kn kx kr a w hd H
  simp only[DC]at H
  cases hp:an p with
  |none=>rw[hp]at H;exact H.elim
  |some L=>
   rw[hp]at H
   obtain⟨I,μ,H0,H1⟩:=H
   refine wp_loop (fun a' w'=>a'.defers=[]/\dV w w'/\sM (writes x) a.tmps.toList a'.tmps.toList/\I (fP a'.tmps.toList L) w'.heap) (fun a' w'=>μ (fP a'.tmps.toList L) w'.heap) ⟨hd,dV.refl w,sM.refl _ _,H0⟩ ?_
   rintro a' w' ⟨h1,h2,h3,h4⟩
   have H3:=pI _ _ (H1 (fZ a'.tmps.toList)) (fP a'.tmps.toList L) (mR _ _) _ h4
   rw[Aw h3]at H3
   refine wp_mono (ih _ _ _ _ a' w' h1 H3) fun e a'' w'' hq=> ?_
   cases e with
   |normal=>exact⟨⟨hq.1,h2.trans hq.2.1,h3.trans hq.2.2.1,hq.2.2.2.1⟩,hq.2.2.2.2⟩
   |_=>exact qS.EW (sN:=fun _ _=>True) (fun t ht=>ht) h2 h3 (by simp) hq
 |rangeFunc f params assign body=>intro p kn kx kr a w hd H;exact H.elim
 |exit id=>intro p kn kx kr a w hd H;exact wp_exit ⟨hd,dV.refl w,sM.refl _ _,H⟩
 |scope body=>intro p kn kx kr a w hd H;exact H.elim
 |label l=>intro p kn kx kr a w hd H;exact wp_label ⟨hd,dV.refl w,sM.refl _ _,H⟩
 |goto l=>intro p kn kx kr a w hd H;exact H.elim
 |ret=>intro p kn kx kr a w hd H;exact wp_ret ⟨hd,dV.refl w,sM.refl _ _,H⟩
 |refuse why=>intro p kn kx kr a w hd H;exact H.elim
def mS:Nat->Env
 |0=>[]
 |n+1=>undef::mS n
def oneOf:List Value->Value
 |[v]=>v
 |vs=> .tuple vs.toArray
def EX(P:Program)(e:Nat->Value)(h:Heap)(K:aL):List ResultVar->List Value->Prop
 |[],acc=>K (oneOf acc.reverse) h
 | .tmp t::rs,acc=>EX P e h K rs (e t::acc)
 | .cell a t::rs,acc=>Da P (Instr.loadAt t (e a)) h fun v=>EX P e h K rs (v::acc)
def PX(P:Program)(rs:List ResultVar)(e:Env)(h:Heap)(K:aL):Prop:=EX P (fZ e) h K rs []
theorem HL{P:Program}{fn:Func}{a:Array Value}{h:Heap}{K:aL}(H:PX P fn.results.toList a.toList h K):∃v,(∀w:World,w.heap=h->(results fn a).run P w= .ok v w)/\K v h:=by
 have ahZ:∀(w:World),(results fn a).run P w=((fn.results.toList.mapM fun r=>(match r with
  | .tmp t=>pure (a.getD t undef)
  | .cell b t=>do loadVar t (<-asAddr (a.getD b undef)):Sem Value)).bind fun l=>Sem.pure (oneOf l)).run P w:=by
  intro w
  unfold results
  rw[Array.mapM_eq_mapM_toList]
  simp only[map_eq_pure_bind,bind_assoc,pure_bind]
  show Sem.run P (Sem.bind _ _) w=_
  rw[ie,ie]
  congr 1
  funext l w'
  match l with
  |[]=>rfl
  |[x]=>rfl
  |x::y::l=>simp[oneOf]
 have key:∀(rs:List ResultVar)(acc:List Value),EX P (fZ a.toList) h K rs acc->∃l,(∀w:World,w.heap=h->(rs.mapM fun r=>(match r with
  | .tmp t=>pure (a.getD t undef)
  | .cell b t=>do loadVar t (<-asAddr (a.getD b undef)):Sem Value)).run P w= .ok l w)/\K (oneOf (acc.reverse++l)) h:=by
  intro rs
  induction rs with
  |nil=>intro acc H;exact⟨[],fun w hw=>rfl,by simpa[EX]using H⟩
  |cons r rs ih=>
   intro acc H
   cases r with
   |tmp t=>
    obtain⟨l,h1,h2⟩:=ih _ H
    refine⟨a.getD t undef::l,fun w hw=> ?_,by simpa[lC]using h2⟩
    rw[List.mapM_cons]
    simp only[pure_bind]
    show Sem.run P (Sem.bind _ _) w=_
    rw[ie,h1 w hw]
    rfl
   |cell b t=>
    obtain⟨v,hv,H⟩:=H
    obtain⟨l,h1,h2⟩:=ih _ H
    refine⟨v::l,fun w hw=> ?_,by simpa using h2⟩
    rw[List.mapM_cons]
    have h3:(do loadVar t (<-asAddr (a.getD b undef)):Sem Value).run P w= .ok v w:=by
     have:=hv w hw
     unfold Instr.loadAt at this
     rw[<-lC]
     have e1:(do loadVar t (<-Instr.sureAddr (fZ a.toList b)):Sem Value)=(Instr.sureAddr (fZ a.toList b)).bind fun x=>loadVar t x:=rfl
     have e2:(do loadVar t (<-asAddr (fZ a.toList b)):Sem Value)=(asAddr (fZ a.toList b)).bind fun x=>loadVar t x:=rfl
     rw[e1]at this
     rw[e2]
     cases hx:fZ a.toList b with
     |pointer q=>
      rw[hx]at this
      cases q with
      |some q=>exact this
      |none=>simp[Instr.sureAddr,stuck,Sem.bind,Sem.run]at this
     |_=>rw[hx]at this;simp[Instr.sureAddr,stuck,Sem.bind,Sem.run]at this
    show Sem.run P (Sem.bind _ _) w=_
    rw[ie,h3]
    show Sem.run P (Sem.bind _ _) w=_
    rw[ie,h1 w hw]
    rfl
 obtain⟨l,h1,h2⟩:=key _ _ H
 refine⟨oneOf l,fun w hw=> ?_,by simpa using h2⟩
 rw[ahZ,ie,h1 w hw]
 rfl
theorem EY{P:Program}(hm:P.follows .mixedOrders=true){f:FuncId}{fn:Func}{c:Code}(hf:P.funcs[f]?=some fn)(hb:fn.body=some c)(hn:(fn.name== "runtime.NumGoroutine")=false)
 (an:Nat->Option (List Nat)) {args:List Value} {h:Heap} {K:aL} (n:Nat) (hk:fn.ntmps-args.length=n) (rs:List ResultVar) (hr:fn.results.toList=rs)
 (H:DC P an c 1 (fun e h=>PX P rs e h K) (fun _ _ _=>False) (fun e h=>PX P rs e h K) (args++mS n) h):aG P f args.toArray h K:=by
 refine⟨fun w hw=> ?_⟩
 refine .inr ⟨f,args.toArray,w,?_,rfl,?_⟩
 ·show Sem.run P (Sem.bind program _) w=_
  rw[ie]
  have hn':¬fn.name= "runtime.NumGoroutine" :=by simpa using hn
  simp[program,Sem.run,hf,hn',hb,pure]
 ·subst hw hr hk
  refine calls_of_wp hf hb ?_
  have hu:∀n,mS n=List.replicate n undef:=by intro n;induction n<;>simp[mS,List.replicate_succ, *]
  have e1:(args.toArray++Array.replicate (fn.ntmps-args.toArray.size) undef).toList=args++mS (fn.ntmps-args.length):=by
   rw[hu];simp
  have:=N4 hm an c 1 _ _ _ {tmps:=args.toArray++Array.replicate (fn.ntmps-args.toArray.size) undef,defers:=[]} w rfl (by rw[e1];exact H)
  refine wp_mono this fun e a w' hq=> ?_
  cases e<;>first
   |exact hq.elim
   |exact hq.2.2.2.elim
   |(obtain⟨h1,h2,h3,h4⟩:=hq
     obtain⟨v,h5,h6⟩:=HL h4
     exact⟨h1,v,h5 w' rfl,v,rfl,h2,h6⟩)
def Ku(fn:Func):Code:=
 match fn.body with
 |some c=>c
 |none=> .skip
def jm(op:BinOp)(t:TypeId)(a b:Value):Sem Value:=do eqGuard op t (.tmp 0) (.tmp 0) a b;binOp op t a b
def od(op:BinOp)(t:TypeId)(x y:Operand)(a b:Value):Sem Value:=do eqGuard op t x y a b;binOp op t a b
def Mk(c a b:Value):Sem Value:=do pure (if<-asBool c then a else b)
def PY(x:Value):Sem Value:=
 match x with
 | .pointer none| .nilIface| .nilFunc=>runtimePanic .nilDeref
 | .func (.method _) _ _=>stuck "a method value"
 |x=>pure x
def De(t:TypeId)(ty:TypeId)(x:Value):Sem Value:=Builtin.len_ #[t] ty #[x]
def cD(t u:TypeId)(ty:TypeId)(x y:Value):Sem Value:=Builtin.append_ #[t,u] ty #[x,y]
abbrev bP:=List (Nat×Value)
def oe:bP->Nat->Value
 |[],_=>undef
 |(d,v)::A,t=>match Nat.beq d t with
  |true=>v
  |false=>oe A t
def Ml{α:Sort _}:bP->Nat->(Value->α)->α
 |[],_,k=>k undef
 |(d,v)::A,t,k=>match Nat.beq d t with
  |true=>k v
  |false=>Ml A t k
theorem HM{α:Sort _}:∀(A:bP)(t:Nat)(k:Value->α),Ml A t k=k (oe A t)
 |[],_,_=>rfl
 |(d,v)::A,t,k=>by
  simp only[Ml,oe]
  cases Nat.beq d t with
  |true=>rfl
  |false=>exact HM A t k
def Ay(n:Nat)(A:bP)(dst:Option Tmp)(v:Value):bP:=
 match dst with
 |some d=>match Nat.blt d n with
  |true=>(d,v)::A
  |false=>A
 |none=>A
def yD{α:Sort _}(n:Nat)(A:bP)(dst:Option Tmp)(v:Value)(k:bP->α):α:=
 match dst with
 |some d=>match Nat.blt d n with
  |true=>k ((d,v)::A)
  |false=>k A
 |none=>k A
theorem ju{α:Sort _}(n:Nat)(A:bP)(dst:Option Tmp)(v:Value)(k:bP->α):yD n A dst v k=k (Ay n A dst v):=by
 cases dst with
 |none=>rfl
 |some d=>simp only[yD,Ay];cases Nat.blt d n<;>rfl
def gD(A:bP):Operand->Value
 | .tmp t=>oe A t
 | .const v=>v
 | .global g=> .pointer (some ⟨g,0,none⟩)
 | .func f=> .func (.func f) #[] #[]
def aeB{α:Sort _}(A:bP)(x:Operand)(k:Value->α):α:=
 match x with
 | .tmp t=>Ml A t k
 | .const v=>k v
 | .global g=>k (.pointer (some ⟨g,0,none⟩))
 | .func f=>k (.func (.func f) #[] #[])
theorem Up{α:Sort _}(A:bP)(x:Operand)(k:Value->α):aeB A x k=k (gD A x):=by
 cases x<;>first|rfl|exact HM _ _ _
def HO{α:Sort _}:List Bool->Nat->(List Bool->α)->α
 |[],_,k=>k []
 |_::bs,0,k=>k (true::bs)
 |b::bs,n+1,k=>HO bs n fun l=>k (b::l)
theorem vf{α:Sort _}:∀(l:List Bool)(n:Nat)(k:List Bool->α),HO l n k=k (jV l n)
 |[],_,_=>rfl
 |_::_,0,_=>rfl
 |b::bs,n+1,k=>by simp only[HO,jV];rw[vf bs n]
structure wD(n:Nat)(A:bP)(e:Env):Prop where
 len:e.length=n
 get:∀t,fZ e t=oe A t
theorem wD.ev{n:Nat}{A:bP}{e:Env}(h:wD n A e):Mx.ev e=gD A:=by
 funext x
 cases x<;>simp only[Mx.ev,gD]
 exact h.get _
theorem wD.put{n:Nat}{A:bP}{e:Env}(h:wD n A e)(dst:Option Tmp)(v:Value):wD n (Ay n A dst v) (Mx.put e dst v):=by
 cases dst with
 |none=>exact h
 |some d=>
  simp only[Ay,Mx.put]
  cases hb:Nat.blt d n with
  |true=>
   have hd:d<n:=by simpa[Nat.blt_eq]using hb
   refine⟨by rw[gw];exact h.len,fun t=> ?_⟩
   simp only[oe]
   cases hq:Nat.beq d t with
   |true=>
    have:=fo hq
    subst this
    exact mf _ _ _ (by rw[h.len];exact hd)
   |false=>
    have fH:d≠t:=fun e=>by subst e;simp at hq
    rw[gy _ _ _ _ fH]
    exact h.get t
  |false=>
   have hd:¬d<n:=fun wF=>by rw[<-Nat.blt_eq]at wF;rw[hb]at wF;cases wF
   refine⟨by rw[gw];exact h.len,fun t=> ?_⟩
   by_cases fH:d=t
   ·subst fH
    rw[<-h.get,ET _ _ (by rw[gw,h.len];exact Nat.le_of_not_lt hd),ET _ _ (by rw[h.len];exact Nat.le_of_not_lt hd)]
   ·rw[gy _ _ _ _ fH]
    exact h.get t
def Az(P:Program)(A:bP)(op:Op)(ty:TypeId)(h:Heap)(K:aL):Prop:=
 match iX op with
 |some x=>aeB A x fun v=>K v h
 |none=>gL P (gD A) op ty h K
theorem mT{P:Program}{A:bP}{op:Op}{ty:TypeId}{h:Heap}{K:aL}:Az P A op ty h K=gL P (gD A) op ty h K:=by
 unfold Az
 cases hm:iX op with
 |some x=>simp only[Up];unfold gL;rw[hm]
 |none=>rfl
def kI(ops:List Oper)(A:bP)(j:Nat):Value:=
 match Al ops j with
 |some t=>oe A t
 |none=>undef
theorem wD.um{n:Nat}{A:bP}{e:Env}(h:wD n A e)(ops:List Oper)(j:Nat):Mx.um ops e j=kI ops A j:=by
 unfold Mx.um kI
 cases Al ops j with
 |none=>rfl
 |some t=>exact h.get t
def nM(P:Program)(ops:List Oper)(A:bP)(h:Heap)(o:Oper)(k:aL):Prop:=
 match o.guard with
 |none=>Az P A o.op o.type h k
 |some (j,want)=>Kp (NV (kI ops A j) want) want (Az P A o.op o.type h) h k
theorem vg{P:Program}{ops:List Oper}{n:Nat}{A:bP}{e:Env}(hr:wD n A e){h:Heap}{o:Oper}{k:aL}:nM P ops A h o k=lE P ops e h o k:=by
 have:Az P A o.op o.type h=gL P (ev e) o.op o.type h:=funext fun _=>by rw[mT,hr.ev]
 have h2:Az P A o.op o.type h k=gL P (ev e) o.op o.type h k:=by rw[this]
 unfold nM lE
 cases o.guard with
 |none=>exact h2
 |some p=>
  obtain⟨j,want⟩:=p
  simp only[this,hr.um]
def PZ(P:Program)(ops:List Oper)(A:bP)(g:Heap)(o:Oper)(v:Value):Prop:=
 match o.guard with
 |none=>Yx P (gD A) o.op o.type g v
 |some (j,want)=>∃b:Bool,NV (kI ops A j) want= .bool b/\(b=want->Yx P (gD A) o.op o.type g v)/\(b≠want->v=undef)
theorem YP{P:Program}{ops:List Oper}{n:Nat}{A:bP}{e:Env}(hr:wD n A e){g:Heap}{o:Oper}{v:Value}:PZ P ops A g o v=Yv P ops e g o v:=by
 unfold PZ Yv
 cases o.guard with
 |none=>simp only[hr.ev]
 |some p=>obtain⟨j,want⟩:=p;simp only[hr.ev,hr.um]
def DF(P:Program)(n:Nat)(ops:List Oper):List Oper->bP->Heap->(bP->Heap->Prop)->Prop
 |[],A,h,K=>K A h
 |o::os,A,h,K=>nM P ops A h o fun v h'=>yD n A o.dst v fun A'=>DF P n ops os A' h' K
theorem HP{P:Program}{n:Nat}{ops:List Oper}{K:bP->Heap->Prop}{K':Env->Heap->Prop}(hK:∀A e h,wD n A e->K A h=K' e h):∀(l:List Oper)(A:bP)(e:Env)(h:Heap),wD n A e->DF P n ops l A h K=wpIn P ops l e h K'
 |[],A,e,h,hr=>hK A e h hr
 |o::os,A,e,h,hr=>by
  simp only[DF,wpIn,ju]
  rw[vg hr]
  congr 1
  funext v h'
  exact HP hK os _ _ _ (hr.put o.dst v)
def lm(P:Program)(n:Nat)(ops:List Oper)(K:bP->Heap->Prop):Nat->List Bool->bP->Heap->mg->Prop
 |0,l,A,h,_=>match bW ops 0 l with
  |[]=>K A h
  |_::_=>False
 |m+1,l,A,h,S=>match eC (bW ops 0 l)with
  |some (i,o)=>HO l i fun l'=>match yv o.op with
   |true=>nM P ops A h o fun v h'=>yD n A o.dst v fun A'=>lm P n ops K m l' A' h' S
   |false=>nM P ops A h o fun v h'=>yD n A o.dst v fun A'=>lm P n ops K m l' A' h' ((i,fun g=>PZ P ops A g o v)::S)
  |none=>match bW ops 0 l with
   |[]=>K A h
   |r::rs=>Kr (fun i o=>HO l i fun l'=>nM P ops A h o fun v h'=>PU h' (yD n A o.dst v fun A'=>lm P n ops K m l' A' h' (nJ ops o S)) (nJ ops o S)) (r::rs)
theorem AA{P:Program}{n:Nat}{ops:List Oper}{K:bP->Heap->Prop}{K':Env->Heap->Prop}(hK:∀A e h,wD n A e->K A h=K' e h):∀(m:Nat)(l:List Bool)(A:bP)(e:Env)(h:Heap)(S:mg),wD n A e->lm P n ops K m l A h S=nY P ops K' m l e h S
 |0,l,A,e,h,S,hr=>by
  simp only[lm,nY]
  cases bW ops 0 l with
  |nil=>exact hK A e h hr
  |cons x xs=>rfl
 |m+1,l,A,e,h,S,hr=>by
  have ih:=fun l A e h S hr=>AA (P:=P) (n:=n) (ops:=ops) hK m l A e h S hr
  simp only[lm,nY,ju,vf]
  cases eC (bW ops 0 l)with
  |some x=>
   obtain⟨i,o⟩:=x
   simp only
   have hy:∀v,(fun g=>PZ P ops A g o v)=fun g=>Yv P ops e g o v:=fun v=>funext fun g=>YP hr
   cases yv o.op with
   |true=>simp only[vg hr];congr 1;funext v h';exact ih _ _ _ _ _ (hr.put o.dst v)
   |false=>simp only[vg hr,hy];congr 1;funext v h';exact ih _ _ _ _ _ (hr.put o.dst v)
  |none=>
   simp only
   cases bW ops 0 l with
   |nil=>exact hK A e h hr
   |cons x xs=>
    simp only
    congr 1
    funext i o
    rw[vg hr]
    congr 1
    funext v h'
    rw[ih _ _ _ _ _ (hr.put o.dst v)]
def P0(P:Program)(n:Nat)(ops:List Oper)(draw:Bool)(A:bP)(h:Heap)(K:bP->Heap->Prop):Prop:=
 match draw with
 |false=>DF P n ops ops A h K
 |true=>match gP ops ops 0 with
  |true=>lm P n ops K (len ops) (pH ops) A h []
  |false=>False
theorem Uq{P:Program}{n:Nat}{ops:List Oper}{K:bP->Heap->Prop}{K':Env->Heap->Prop}(hK:∀A e h,wD n A e->K A h=K' e h){draw:Bool}{A:bP}{e:Env}{h:Heap}(hr:wD n A e):P0 P n ops draw A h K=Uo P ops draw e h K':=by
 unfold P0 Uo
 cases draw with
 |false=>exact HP hK _ _ _ _ hr
 |true=>simp only;rw[AA hK _ _ _ _ _ _ hr]
def fh(A:bP):List Nat->List Value
 |[]=>[]
 |t::ts=>oe A t::fh A ts
def uv{α:Sort _}(n:Nat)(j:Nat->Value):List Nat->bP->(bP->α)->α
 |[],A,k=>k A
 |t::ts,A,k=>yD n A (some t) (j t) fun A'=>uv n j ts A' k
def vh{α:Sort _}(n:Nat):List Nat->List Value->bP->(bP->α)->α
 |[],_,A,k=>k A
 |_::_,[],A,k=>k A
 |t::ts,v::vs,A,k=>yD n A (some t) v fun A'=>vh n ts vs A' k
theorem wD.many{n:Nat}{A:bP}{e:Env}(h:wD n A e):∀L:List Nat,fP e L=fh A L
 |[]=>rfl
 |t::ts=>by simp only[fP,fh,h.get,h.many ts]
theorem wG{α:Sort _}{n:Nat}{j:Nat->Value}{k:bP->α}{k':Env->α}(hk:∀A e,wD n A e->k A=k' e):∀(L:List Nat)(A:bP)(e:Env),wD n A e->uv n j L A k=k' (iD e j L)
 |[],A,e,hr=>hk A e hr
 |t::ts,A,e,hr=>by
  simp only[uv,iD,ju]
  exact wG hk ts _ _ (hr.put (some t) (j t))
theorem AB{α:Sort _}{n:Nat}{k:bP->α}{k':Env->α}(hk:∀A e,wD n A e->k A=k' e):∀(L:List Nat)(vs:List Value)(A:bP)(e:Env),wD n A e->vh n L vs A k=k' (lh e L vs)
 |[],_,A,e,hr=>by simp only[vh,lh];exact hk A e hr
 |_::_,[],A,e,hr=>by simp only[vh,lh];exact hk A e hr
 |t::ts,v::vs,A,e,hr=>by
  simp only[vh,lh,ju]
  exact AB hk ts vs _ _ (hr.put (some t) v)
theorem ud{f g:List Value->Prop}(h:∀vs,f vs=g vs)(n:Nat):mh n f=mh n g:=by rw[funext h]
def EZ(P:Program)(n:Nat)(an:Nat->Option (List Nat)):Code->Nat->(bP->Heap->Prop)->(Nat->bP->Heap->Prop)->(bP->Heap->Prop)->bP->Heap->Prop
 | .skip,_,kn,_,_,A,h=>kn A h
 | .region _ ops draw,_,kn,_,_,A,h=>P0 P n ops.toList draw A h kn
 | .seq a b,p,kn,kx,kr,A,h=>match an p with
   |none=>EZ P n an a (2*p) (fun A' h'=>EZ P n an b (2*p+1) kn kx kr A' h') kx kr A h
   |some L=>∃J:List Value->Heap->Prop,EZ P n an a (2*p) (fun A' h'=>J (fh A' L) h') kx kr A h/\
    ∀(wC:Nat->Value),mh (jW L) fun vs=>∀h':Heap,J vs h'->uv n wC (writes a) A fun A1=>vh n L vs A1 fun A2=>EZ P n an b (2*p+1) kn kx kr A2 h'
 | .cond c a b,p,kn,kx,kr,A,h=>PR (gD A c) (EZ P n an a (2*p) kn kx kr A h) (EZ P n an b (2*p+1) kn kx kr A h)
 | .block id c,p,kn,kx,kr,A,h=>EZ P n an c (2*p) kn (fun i A' h'=>match Nat.beq i id with
   |true=>kn A' h'
   |false=>kx i A' h') kr A h
 | .loop c,p,_,kx,kr,A,h=>match an p with
   |none=>False
   |some L=>∃(I:List Value->Heap->Prop)(μ:List Value->Heap->Nat),I (fh A L) h/\
    ∀(wC:Nat->Value),mh (jW L) fun vs=>∀h':Heap,I vs h'->uv n wC (writes c) A fun A1=>vh n L vs A1 fun A2=>
     EZ P n an c (2*p) (fun A'' nD=>I (fh A'' L) nD/\μ (fh A'' L) nD<μ vs h') kx kr A2 h'
 | .exit id,_,_,kx,_,A,h=>kx id A h
 | .ret,_,_,_,kr,A,h=>kr A h
 | .label _,_,kn,_,_,A,h=>kn A h
 |_,_,_,_,_,_,_=>False
theorem YQ{P:Program}{n:Nat}{an:Nat->Option (List Nat)}:∀(c:Code)(p:Nat)(kn:bP->Heap->Prop)(kx:Nat->bP->Heap->Prop)(kr:bP->Heap->Prop)(sN:Env->Heap->Prop)(vd:Nat->Env->Heap->Prop)(yE:Env->Heap->Prop)(A:bP)(e:Env)(h:Heap),
 wD n A e->(∀A e h,wD n A e->kn A h=sN e h)->(∀i A e h,wD n A e->kx i A h=vd i e h)->(∀A e h,wD n A e->kr A h=yE e h)->EZ P n an c p kn kx kr A h=DC P an c p sN vd yE e h:=by
 intro c
 induction c with
 |skip=>intro p kn kx kr sN vd yE A e h hr h1 h2 h3;exact h1 A e h hr
 |region id ops draw=>intro p kn kx kr sN vd yE A e h hr h1 h2 h3;exact Uq h1 hr
 |seq a b Ur Us=>
  intro p kn kx kr sN vd yE A e h hr h1 h2 h3
  simp only[EZ,DC]
  cases an p with
  |none=>exact Ur _ _ _ _ _ _ _ _ _ _ hr (fun A e h hr=>Us _ _ _ _ _ _ _ _ _ _ hr h1 h2 h3) h2 h3
  |some L=>
   simp only
   congr 1
   funext J
   rw[Ur (2*p) (fun A' h'=>J (fh A' L) h') kx kr (fun e' h'=>J (fP e' L) h') vd yE A e h hr (fun A e h hr=>by rw[hr.many]) h2 h3]
   congr 1
   refine propext (forall_congr' fun wC=> ?_)
   rw[ud]
   intro vs
   refine propext (forall_congr' fun h'=> ?_)
   rw[wG (fun A1 e1 YR=>AB (fun A2 e2 hr2=>Us _ _ _ _ _ _ _ _ _ _ hr2 h1 h2 h3) L vs A1 e1 YR) _ _ _ hr]
 |cond c a b Ur Us=>
  intro p kn kx kr sN vd yE A e h hr h1 h2 h3
  simp only[EZ,DC]
  rw[Ur _ _ _ _ _ _ _ _ _ _ hr h1 h2 h3,Us _ _ _ _ _ _ _ _ _ _ hr h1 h2 h3,hr.ev]
 |block id c ih=>
  intro p kn kx kr sN vd yE A e h hr h1 h2 h3
  simp only[EZ,DC]
  refine ih _ _ _ _ _ _ _ _ _ _ hr h1 (fun i A e h hr=> ?_) h3
  cases Nat.beq i id with
  |true=>exact h1 A e h hr
  |false=>exact h2 i A e h hr
 |loop c ih=>
  intro p kn kx kr sN vd yE A e h hr h1 h2 h3
  simp only[EZ,DC]
  cases an p with
  |none=>rfl
  |some L=>
   simp only
   congr 1
   funext I
   congr 1
   funext μ
   rw[hr.many]
   congr 1
   refine propext (forall_congr' fun wC=> ?_)
   rw[ud]
   intro vs
   refine propext (forall_congr' fun h'=> ?_)
   rw[wG (fun A1 e1 YR=>AB (fun A2 e2 hr2=>ih (2*p) _ kx kr (fun e'' nD=>I (fP e'' L) nD/\μ (fP e'' L) nD<μ vs h') vd yE A2 e2 h' hr2 (fun A e h hr=>by rw[hr.many]) h2 h3) L vs A1 e1 YR) _ _ _ hr]
 |exit id=>intro p kn kx kr sN vd yE A e h hr h1 h2 h3;exact h2 id A e h hr
 |ret=>intro p kn kx kr sN vd yE A e h hr h1 h2 h3;exact h3 A e h hr
 |label l=>intro p kn kx kr sN vd yE A e h hr h1 h2 h3;exact h1 A e h hr
 |_=>intros;rfl
def vi:List Value->Nat->bP
 |[],_=>[]
 |v::vs,i=>(i,v)::vi vs (i+1)
theorem AD:∀(vs:List Value)(i t:Nat),oe (vi vs i) t=if t<i then undef else fZ vs (t-i)
 |[],i,t=>by simp[vi,oe,fZ]
 |v::vs,i,t=>by
  simp only[vi,oe]
  cases hq:Nat.beq i t with
  |true=>have:=fo hq;subst this;simp[fZ]
  |false=>
   have fH:i≠t:=fun e=>by subst e;simp at hq
   simp only[AD vs (i+1) t]
   by_cases h:t<i
   ·simp[h,show t<i+1 by omega]
   ·simp only[h,show¬t<i+1 by omega,gz]
    rw[show t-i=(t-(i+1))+1 by omega]
    rfl
theorem P1(vs:List Value)(m n:Nat)(hn:vs.length+m=n):wD n (vi vs 0) (vs++mS m):=by
 have hu:∀m,(mS m).length=m/\∀t,fZ (mS m) t=undef:=by
  intro m
  induction m with
  |zero=>exact⟨rfl,fun t=>rfl⟩
  |succ m ih=>refine⟨by simp[mS,ih.1],fun t=> ?_⟩;cases t<;>simp[mS,fZ,ih.2]
 refine⟨by simp[(hu m).1,hn],fun t=> ?_⟩
 rw[AD]
 simp only[Nat.not_lt_zero,gz,Nat.sub_zero]
 have key:∀(l:List Value)(t:Nat),fZ (l++mS m) t=fZ l t:=by
  intro l
  induction l with
  |nil=>intro t;simp[(hu m).2,fZ]
  |cons x xs ih=>intro t;cases t<;>simp[fZ,ih]
 exact key vs t
def P4(P:Program)(A:bP)(h:Heap)(K:aL)(rs:List ResultVar):Prop:=EX P (oe A) h K rs []
theorem E0{P:Program}(hm:P.follows .mixedOrders=true){f:FuncId}{fn:Func}{c:Code}(hf:P.funcs[f]?=some fn)(hb:fn.body=some c)(hn:(fn.name== "runtime.NumGoroutine")=false)
 (an:Nat->Option (List Nat)) {args:List Value} {h:Heap} {K:aL} (m n:Nat) (hk:fn.ntmps-args.length=m) (P5:args.length+m=n) (rs:List ResultVar) (hr:fn.results.toList=rs)
 (H:EZ P n an c 1 (fun A h=>P4 P A h K rs) (fun _ _ _=>False) (fun A h=>P4 P A h K rs) (vi args 0) h):aG P f args.toArray h K:=by
 refine EY hm hf hb hn an m hk rs hr ?_
 have hg:∀(A:bP)(e:Env)(h:Heap),wD n A e->P4 P A h K rs=PX P rs e h K:=fun A e h hr=>by
  unfold P4 PX
  rw[show oe A=fZ e from funext fun t=>(hr.get t).symm]
 rw[<-YQ c 1 _ (fun _ _ _=>False) _ _ (fun _ _ _=>False) _ _ _ h (P1 args m n P5) hg (fun _ _ _ _ _=>rfl) hg]
 exact H
end Go.Mx
