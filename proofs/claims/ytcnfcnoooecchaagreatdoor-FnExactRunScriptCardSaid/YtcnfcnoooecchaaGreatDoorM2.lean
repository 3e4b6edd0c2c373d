import Derived.Test.YtcnfcnoooecchaaGreatDoorM1
import Derived.Laws.Entries
set_option linter.unusedVariables false
set_option linter.unusedSimpArgs false
namespace Go.Mx
def aR(h:Heap)(a:Addr):Option Value:=
 match h[a.block]? with
 |some (.cells c _ _)=>if a.spot.isSome then none else c[a.off]?
 |_=>none
def vC(h:Heap)(a:Addr):Bool:=
 match h[a.block]? with
 |some (.cells _ _ (lo,hi))=>lo<=a.off&&a.off<hi
 |_=>false
def cK(h:Heap)(a:Addr)(v:Value):Heap:=
 h.modify a.block fun
  | .cells c elem frozen=> .cells (if a.spot.isSome then c else c.setIfInBounds a.off v) elem frozen
  |o=>o
theorem BU(w:World)(a:Addr):w.cell? a=aR w.heap a:=rfl
theorem KJ(w:World)(a:Addr):w.frozen? a=vC w.heap a:=rfl
theorem mV(w:World)(a:Addr)(v:Value):(w.setCell a v).heap=cK w.heap a v:=rfl
structure Fr(T:Nat->Prop)(h h':Heap):Prop where
 size:h.size<=h'.size
 same:∀k,k<h.size->¬T k->h'[k]?=h[k]?
def No:Nat->Prop:=fun _=>False
theorem Fr.refl(T:Nat->Prop)(h:Heap):Fr T h h:=⟨Nat.le_refl _,fun _ _ _=>rfl⟩
theorem Fr.trans{T:Nat->Prop}{a b c:Heap}(h:Fr T a b)(k:Fr T b c):Fr T a c:=
 ⟨Nat.le_trans h.size k.size,fun i hi hT=>(k.same i (Nat.lt_of_lt_of_le hi h.size) hT).trans (h.same i hi hT)⟩
theorem Fr.mono{T T':Nat->Prop}{a b:Heap}(h:Fr T a b)(hT:∀k,k<a.size->T k->T' k):Fr T' a b:=⟨h.size,fun i hi ht=>h.same i hi fun hk=>ht (hT i hi hk)⟩
theorem Fr.aB{T:Nat->Prop}{a b:Heap}(h:Fr No a b):Fr T a b:=h.mono fun _ _ hk=>hk.elim
theorem Fr.push(h:Heap)(o:Obj):Fr No h (h.push o):=⟨by simp,fun k hk _=>by rw[Array.getElem?_push,if_neg (by omega)]⟩
theorem GU(h:Heap)(a:Addr)(v:Value)(k:Nat)(hk:k≠a.block):(cK h a v)[k]?=h[k]?:=by
 simp only[cK,Array.getElem?_modify]
 rw[if_neg (by omega)]
theorem KK(h:Heap)(a:Addr)(v:Value):(cK h a v).size=h.size:=by simp[cK]
theorem Fr.set(h:Heap)(a:Addr)(v:Value):Fr (fun k=>k=a.block) h (cK h a v):=⟨by rw[KK];exact Nat.le_refl _,fun k _ hk=>GU _ _ _ _ hk⟩
def dC(h:Heap)(b:Nat)(cs:List Value):Prop:=∃T,h[b]?=some (.cells cs.toArray T (0,0))
theorem dC.lt{h:Heap}{b:Nat}{cs:List Value}(H:dC h b cs):b<h.size:=by
 obtain⟨T,hT⟩:=H
 exact(Array.getElem?_eq_some_iff.1 hT).1
theorem dC.fr{T:Nat->Prop}{h h':Heap}{b:Nat}{cs:List Value}(H:dC h b cs)(hf:Fr T h h')(hT:¬T b):dC h' b cs:=by
 have hl:=H.lt
 obtain⟨t,ht⟩:=H
 exact⟨t,(hf.same b hl hT).trans ht⟩
inductive Vars(h:Heap):List (Nat×List Value)->Prop where
 |nil:Vars h []
 |cons {b:Nat} {cs:List Value} {L:List (Nat×List Value)}:dC h b cs->(∀p,p∈L->p.1≠b)->Vars h L->Vars h ((b,cs)::L)
def jR:List (Nat×List Value)->Nat->Option (Nat×List Value)
 |[],_=>none
 |p::_,0=>some p
 |_::L,n+1=>jR L n
def Ep:List (Nat×List Value)->Nat->List Value->List (Nat×List Value)
 |[],_,_=>[]
 |(b,_)::L,0,cs=>(b,cs)::L
 |p::L,n+1,cs=>p::Ep L n cs
theorem Vars.mem{h:Heap}:∀{L:List (Nat×List Value)},Vars h L->∀p,p∈L->dC h p.1 p.2
 |_,.nil,p,hp=>by simp at hp
 |_,.cons hv _ hl,p,hp=>by
  rcases List.mem_cons.1 hp with rfl|hp
  ·exact hv
  ·exact hl.mem p hp
theorem oq:∀{L:List (Nat×List Value)}{i:Nat}{p:Nat×List Value},jR L i=some p->p∈L
 |[],i,p,h=>by simp[jR]at h
 |q::L,0,p,h=>by simp only[jR,Option.some.injEq]at h;subst h;simp
 |q::L,i+1,p,h=>by simp only[jR]at h;exact List.mem_cons_of_mem _ (oq h)
theorem Vars.get{h:Heap}{L:List (Nat×List Value)}(H:Vars h L)(i:Nat){b:Nat}{cs:List Value}(hi:jR L i=some (b,cs)):dC h b cs:=H.mem _ (oq hi)
theorem Vars.fr{T:Nat->Prop}{h h':Heap}:∀{L:List (Nat×List Value)},Vars h L->Fr T h h'->(∀p,p∈L->¬T p.1)->Vars h' L
 |_,.nil,_,_=> .nil
 |_,.cons (b:=b0) (cs:=c0) hv hn hl,hf,hT=> .cons (hv.fr hf (hT (b0,c0) (by simp))) hn (hl.fr hf fun p hp=>hT p (by simp[hp]))
theorem Vars.aB{h h':Heap}{L:List (Nat×List Value)}(H:Vars h L)(hf:Fr No h h'):Vars h' L:=H.fr hf fun _ _ h=>h
theorem Vars.tail{h:Heap}{p:Nat×List Value}{L:List (Nat×List Value)}(H:Vars h (p::L)):Vars h L:=by cases H;assumption
theorem Vars.head{h:Heap}{b:Nat}{cs:List Value}{L:List (Nat×List Value)}(H:Vars h ((b,cs)::L)):dC h b cs:=by cases H;assumption
theorem Vars.ne{h:Heap}{b:Nat}{cs:List Value}{L:List (Nat×List Value)}(H:Vars h ((b,cs)::L)):∀p,p∈L->p.1≠b:=by cases H;assumption
theorem Vars.push{h:Heap}{L:List (Nat×List Value)}(H:Vars h L)(cs:List Value)(T:TypeId):Vars (h.push (.cells cs.toArray T (0,0))) ((h.size,cs)::L):=by
 refine .cons ⟨T,by simp⟩ (fun p hp e=> ?_) (H.aB (Fr.push _ _))
 have:=(H.mem p hp).lt
 omega
def iZ:List Value->Nat->List Value->List Value
 |cs,_,[]=>cs
 |[],_,_=>[]
 |_::cs,0,v::vs=>v::iZ cs 0 vs
 |c::cs,n+1,vs=>c::iZ cs n vs
theorem Er:∀(L:List (Nat×List Value))(i:Nat)(cs:List Value),(Ep L i cs).map (·.1)=L.map (·.1)
 |[],_,_=>rfl
 |(b,_)::L,0,cs=>rfl
 |p::L,i+1,cs=>by simp[Ep,Er L i cs]
theorem Vars.set{h h':Heap}:∀{L:List (Nat×List Value)}{i:Nat}{b:Nat}{cs lH:List Value},Vars h L->jR L i=some (b,cs)->Fr (fun k=>k=b) h h'->dC h' b lH->Vars h' (Ep L i lH)
 |_,0,b,cs,lH,.cons (b:=b0) (L:=L) hv hn hl,hi,hf,hv'=>by
  simp only[jR,Option.some.injEq,Prod.mk.injEq]at hi
  obtain⟨rfl,rfl⟩:=hi
  exact .cons hv' hn (hl.fr hf fun p hp e=>hn p hp e)
 |_,i+1,b,cs,lH,.cons (b:=b0) (cs:=c0) (L:=L) hv hn hl,hi,hf,hv'=>by
  simp only[jR]at hi
  have hb:b≠b0:=hn _ (oq hi)
  refine .cons (hv.fr hf fun e=>hb e.symm) (fun p hp e=> ?_) (hl.set hi hf hv')
  have:p.1∈(Ep L i lH).map (·.1):=List.mem_map.2 ⟨p,hp,rfl⟩
  rw[Er]at this
  obtain⟨q,hq,hqe⟩:=List.mem_map.1 this
  exact hn q hq (hqe.trans e)
 |_,i,b,cs,lH,.nil,hi,_,_=>by simp[jR]at hi
structure Sl where
 a:Option Addr
 n:Nat
 c:Nat
@[reducible] def Sl.v(s:Sl):Value:= .slice s.a s.n s.c
def aC:Sl:=⟨none,0,0⟩
@[reducible] def VI(n:Int):Value:= .int .i64 n
@[reducible] def VB(b:Bool):Value:= .bool b
@[reducible] def VS(s:ByteArray):Value:= .string s
@[reducible] def VP(b:Nat)(o:Nat):Value:= .pointer (some ⟨b,o,none⟩)
def aL(x:Int):Int:=IntKind.i64.wrap x
theorem aG(x:Int)(h: -9223372036854775808<=x)(h':x<9223372036854775808):aL x=x:=by
 simp only[aL,IntKind.wrap,IntKind.bits,IntKind.signed]
 simp
 omega
theorem pop.mk'{P:Program}{s:Sem Value}{K:Value->Prop}{v:Value}(hs:∀w,s.run P w= .ok v w)(H:K v):pop P s K:=⟨v,hs,H⟩
theorem pop.mono{P:Program}{s:Sem Value}{K K':Value->Prop}(H:pop P s K)(h:∀v,K v->K' v):pop P s K':=let⟨v,a,b⟩:=H.out;⟨v,a,h _ b⟩
theorem zN.mono{P:Program}{s:Sem Value}{h:Heap}{K K':Value->Prop}(H:zN P s h K)(hk:∀v,K v->K' v):zN P s h K':=let⟨v,a,b⟩:=H.out;⟨v,a,hk _ b⟩
theorem jQ.mono{P:Program}{s:Sem Value}{h:Heap}{K K':Value->Heap->Prop}(H:jQ P s h K)(hk:∀v h,K v h->K' v h):jQ P s h K':=⟨fun w hw=>let⟨v,w',a,b,c⟩:=H.out w hw;⟨v,w',a,b,hk _ _ c⟩⟩
theorem Aj.mono{P:Program}{s:Sem Unit}{h:Heap}{K K':Value->Heap->Prop}(H:Aj P s h K)(hk:∀v h,K v h->K' v h):Aj P s h K':=⟨fun w hw=>let⟨w',a,b,c⟩:=H.out w hw;⟨w',a,b,hk _ _ c⟩⟩
theorem aE.mono{P:Program}{f:FuncId}{args:Array Value}{h:Heap}{K K':Value->Heap->Prop}(H:aE P f args h K)(hk:∀v h,K v h->K' v h):aE P f args h K':=qD hk H
theorem fA.mono{P:Program}{v:Value}{args:List Value}{h:Heap}{K K':Value->Heap->Prop}(H:fA P v args h K)(hk:∀v h,K v h->K' v h):fA P v args h K':=kA hk H
section
variable {P:Program} {t:TypeId} {K:Value->Prop}
theorem Qs(k:IntKind)(a b:Int)(H:K (.int k (k.wrap (a+b)))):pop P (gL .add t (.int k a) (.int k b)) K:=
 .mk' (fun w=>by simp[gL,eqGuard,binOp,Op.intArith,bind,Sem.bind,pure,Sem.run]) H
theorem Qt(k:IntKind)(a b:Int)(H:K (.int k (k.wrap (a-b)))):pop P (gL .sub t (.int k a) (.int k b)) K:=
 .mk' (fun w=>by simp[gL,eqGuard,binOp,Op.intArith,bind,Sem.bind,pure,Sem.run]) H
theorem Qu(k:IntKind)(a b:Int)(H:K (.int k (k.wrap (a*b)))):pop P (gL .mul t (.int k a) (.int k b)) K:=
 .mk' (fun w=>by simp[gL,eqGuard,binOp,Op.intArith,bind,Sem.bind,pure,Sem.run]) H
theorem Jf(k:IntKind)(a b:Int)(hb:b≠0)(H:K (.int k (k.wrap (a.tdiv b)))):pop P (gL .quo t (.int k a) (.int k b)) K:=
 .mk' (fun w=>by simp[gL,eqGuard,binOp,Op.intDiv,hb,bind,Sem.bind,pure,Sem.run]) H
theorem Jg(k:IntKind)(a b:Int)(hb:b≠0)(H:K (.int k (a.tmod b))):pop P (gL .rem t (.int k a) (.int k b)) K:=
 .mk' (fun w=>by simp[gL,eqGuard,binOp,Op.intDiv,hb,bind,Sem.bind,pure,Sem.run]) H
theorem Qv(k:IntKind)(a b:Int)(H:K (.bool (decide (a<b)))):pop P (gL .lss t (.int k a) (.int k b)) K:=
 .mk' (fun w=>by simp[gL,eqGuard,binOp,Op.intCmp,bind,Sem.bind,pure,Sem.run]) H
theorem Qw(k:IntKind)(a b:Int)(H:K (.bool (decide (a<=b)))):pop P (gL .leq t (.int k a) (.int k b)) K:=
 .mk' (fun w=>by simp[gL,eqGuard,binOp,Op.intCmp,bind,Sem.bind,pure,Sem.run]) H
theorem Qx(k:IntKind)(a b:Int)(H:K (.bool (decide (b<a)))):pop P (gL .gtr t (.int k a) (.int k b)) K:=
 .mk' (fun w=>by simp[gL,eqGuard,binOp,Op.intCmp,bind,Sem.bind,pure,Sem.run]) H
theorem Qy(k:IntKind)(a b:Int)(H:K (.bool (decide (b<=a)))):pop P (gL .geq t (.int k a) (.int k b)) K:=
 .mk' (fun w=>by simp[gL,eqGuard,binOp,Op.intCmp,bind,Sem.bind,pure,Sem.run]) H
theorem Qz(k:IntKind)(x y:Operand)(a b:Int)(H:K (.bool (decide (a=b)))):pop P (lF .eql t x y (.int k a) (.int k b)) K:=
 .mk' (fun w=>by
  have e:(a==b)=decide (a=b):=by rw[Bool.eq_iff_iff];simp
  have hk:¬(k≠k):=fun h=>h rfl
  simp only[lF,eqGuard,binOp,Op.intCmp,bind,pure,<-e,if_neg hk]
  rfl) H
theorem QA(k:IntKind)(x y:Operand)(a b:Int)(H:K (.bool (!decide (a=b)))):pop P (lF .neq t x y (.int k a) (.int k b)) K:=
 .mk' (fun w=>by
  have e:(a==b)=decide (a=b):=by rw[Bool.eq_iff_iff];simp
  have hk:¬(k≠k):=fun h=>h rfl
  simp only[lF,eqGuard,binOp,Op.intCmp,bind,pure,<-e,if_neg hk]
  rfl) H
theorem run_equalIn_bool{w:World}(d:Nat)(ht:P.underlying t=some .bool)(a b:Bool):(Op.equalIn (d+1) t (.bool a) (.bool b)).run P w= .ok (a==b) w:=by
 unfold Op.equalIn
 have:(underlying t).run P w= .ok .bool w:=by
  simp[underlying,program,ht,bind,Sem.bind,pure,Sem.run]
 show Sem.run P (Sem.bind _ _) w=_
 rw[Sem.run_bind',this]
 rfl
theorem run_equal_bool{w:World}(ht:P.underlying t=some .bool)(a b:Bool):(Op.equal t (.bool a) (.bool b)).run P w= .ok (a==b) w:=run_equalIn_bool 9999 ht a b
theorem QB(ht:P.underlying t=some .bool)(x y:Operand)(a b:Bool)(H:K (.bool (a==b))):pop P (lF .eql t x y (.bool a) (.bool b)) K:=
 .mk' (fun w=>by
  show Sem.run P (Sem.bind (Sem.pure ()) fun _=>Sem.bind (Op.equal t (.bool a) (.bool b)) _) w=_
  rw[Sem.run_bind']
  show Sem.run P (Sem.bind (Op.equal t (.bool a) (.bool b)) _) w=_
  rw[Sem.run_bind',run_equal_bool ht]
  rfl) H
theorem QC(ht:P.underlying t=some .bool)(x y:Operand)(a b:Bool)(H:K (.bool (!(a==b)))):pop P (lF .neq t x y (.bool a) (.bool b)) K:=
 .mk' (fun w=>by
  show Sem.run P (Sem.bind (Sem.pure ()) fun _=>Sem.bind (Op.equal t (.bool a) (.bool b)) _) w=_
  rw[Sem.run_bind']
  show Sem.run P (Sem.bind (Op.equal t (.bool a) (.bool b)) _) w=_
  rw[Sem.run_bind',run_equal_bool ht]
  rfl) H
theorem QD(b:Bool)(H:K (.bool (!b))):pop P (Op.unary .not (.bool b)) K:= .mk' (fun w=>rfl) H
theorem QE(k:IntKind)(a:Int)(H:K (.int k (k.wrap (0-a)))):pop P (Op.unary .neg (.int k a)) K:= .mk' (fun w=>rfl) H
theorem KL(x y:Value)(H:K x):pop P (Jd (.bool true) x y) K:= .mk' (fun w=>rfl) H
theorem KM(x y:Value)(H:K y):pop P (Jd (.bool false) x y) K:= .mk' (fun w=>rfl) H
theorem QF{vs:Array Value}{i:Nat}{v:Value}(hi:vs[i]?=some v)(H:K v):pop P (Instr.extract (.tuple vs) i) K:=
 .mk' (fun w=>by simp[Instr.extract,hi,pure,Sem.run]) H
theorem QG(s:Sl)(ty e:TypeId)(ht:P.underlying t=some (.slice e))(H:K (.int .i64 s.n)):pop P (zR t ty s.v) K:=
 .mk' (fun w=>by simp[zR,Builtin.len_,underlying,program,ht,goInt,bind,Sem.bind,pure,Sem.run]) H
theorem Mv(s:ByteArray)(ty:TypeId)(ht:P.underlying t=some .string)(H:K (.int .i64 s.size)):pop P (zR t ty (.string s)) K:=
 .mk' (fun w=>by simp[zR,Builtin.len_,underlying,program,ht,goInt,bind,Sem.bind,pure,Sem.run]) H
theorem Mw(a b:ByteArray)(h:a.size+b.size<=9223372036854775807)(H:K (.string (a++b))):pop P (gL .add t (.string a) (.string b)) K:=
 .mk' (fun w=>by
  have:¬IntKind.i64.max<((a.size:Int)+(b.size:Int)):=by simp[IntKind.max,IntKind.signed,IntKind.bits];omega
  have h2:(a.size:Int)+(b.size:Int)<=9223372036854775807:=by omega
  simp[gL,eqGuard,binOp,Op.stringOp,this,h2,bind,Sem.bind,pure,Sem.run]) H
theorem QH(x y:Operand)(a b:ByteArray)(H:K (.bool (a.toList==b.toList))):pop P (lF .eql t x y (.string a) (.string b)) K:=
 .mk' (fun w=>rfl) H
theorem QI(x y:Operand)(a b:ByteArray)(H:K (.bool (!(a.toList==b.toList)))):pop P (lF .neq t x y (.string a) (.string b)) K:=
 .mk' (fun w=>rfl) H
theorem My(fn:Fn)(first captured:Array Value)(H:K (.func fn first captured)):pop P (Instr.makeFunc fn first captured) K:= .mk' (fun w=>rfl) H
theorem vW(a:Addr)(H:K (.pointer (some a))):pop P (Mp (.pointer (some a))) K:= .mk' (fun w=>rfl) H
end
theorem QJ{b:Bool}{A B:Prop}(h1:b=true->A)(h2:b=false->B):Mi (.bool b) A B:=⟨b,rfl,h1,h2⟩
def gN(P:Program)(t:TypeId):Bool:=
 match P.underlying t,P.info? t with
 |some (.struct _),_|some (.array _ _),_|none,_|_,none=>false
 |_,some i=>i.size==1
def qK(P:Program)(t:TypeId):Option Nat:=
 match P.underlying t,P.info? t with
 |some (.struct _),some i|some (.array _ _),some i=>some i.size
 |_,_=>none
def wX(P:Program)(t:TypeId)(i:Nat):Option Nat:=
 match P.underlying t with
 |some (.struct fs)=>match fs[i]? with
  |some f=>match P.info? f.type with
   |some j=>if j.size=0 then none else some f.offset
   |none=>none
  |none=>none
 |_=>none
theorem bV{P:Program}{t:TypeId}{d:TypeDesc}(h:P.underlying t=some d)(w:World):(underlying t).run P w= .ok d w:=by
 simp[underlying,program,h,bind,Sem.bind,pure,Sem.run]
theorem dP{P:Program}{t:TypeId}{i:TypeInfo}(h:P.info? t=some i)(w:World):(typeInfo t).run P w= .ok i w:=by
 simp[typeInfo,program,h,bind,Sem.bind,pure,Sem.run]
theorem aK{α β:Type}{P:Program}{x:Sem α}{f:α->Sem β}{w w':World}{a:α}(h:x.run P w= .ok a w'):(x>>=f).run P w=(f a).run P w':=by
 show(x.bind f).run P w=_
 rw[Sem.run_bind',h];rfl
theorem Aw{P:Program}{t:TypeId}(h:gN P t=true)(w:World):(isAgg t).run P w= .ok false w/\(sizeOf t).run P w= .ok 1 w:=by
 unfold gN at h
 cases hu:P.underlying t with
 |none=>rw[hu]at h;simp at h
 |some d=>
  rw[hu]at h
  cases hi:P.info? t with
  |none=>rw[hi]at h;cases d<;>simp at h
  |some i=>
   rw[hi]at h
   constructor
   ·unfold isAgg
    rw[aK (bV hu w)]
    cases d<;>first|rfl|simp at h
   ·unfold sizeOf
    rw[aK (dP hi w)]
    have:i.size=1:=by cases d<;>simp at h<;>exact h
    rw[this];rfl
theorem pH{P:Program}{t:TypeId}{n:Nat}(h:qK P t=some n)(w:World):(isAgg t).run P w= .ok true w/\(sizeOf t).run P w= .ok n w:=by
 unfold qK at h
 cases hu:P.underlying t with
 |none=>rw[hu]at h;simp at h
 |some d=>
  rw[hu]at h
  cases hi:P.info? t with
  |none=>rw[hi]at h;cases d<;>simp at h
  |some i=>
   rw[hi]at h
   constructor
   ·unfold isAgg
    rw[aK (bV hu w)]
    cases d<;>first|rfl|simp at h
   ·unfold sizeOf
    rw[aK (dP hi w)]
    have:i.size=n:=by cases d<;>simp at h<;>exact h
    rw[this];rfl
theorem Ax{P:Program}{w:World}{a:Addr}{v:Value}(h:aR w.heap a=some v):(load a).run P w= .ok v w:=by
 have h':w.cell? a=some v:=h
 simp[load,Sem.run,h']
theorem run_loadCellsFrom{P:Program}{w:World}{a:Addr}:∀(n i:Nat)(vs:List Value)(acc:Array Value),vs.length=n->(∀j(hj:j<vs.length),aR w.heap (a.add (i+j))=some vs[j])->
 (loadCellsFrom a i n acc).run P w= .ok (acc++vs.toArray) w
 |0,i,vs,acc,hl,_=>by
  have:vs=[]:=List.eq_nil_of_length_eq_zero hl
  subst this
  simp[loadCellsFrom,pure,Sem.run]
 |n+1,i,[],acc,hl,_=>by simp at hl
 |n+1,i,v::vs,acc,hl,hc=>by
  unfold loadCellsFrom
  have h0:=hc 0 (by simp)
  simp only[Nat.add_zero,List.getElem_cons_zero]at h0
  rw[aK (Ax h0)]
  rw[run_loadCellsFrom n (i+1) vs (acc.push v) (by simpa using hl) fun j hj=>by
   have:=hc (j+1) (by simpa using hj)
   simp only[List.getElem_cons_succ]at this
   rw[show i+1+j=i+(j+1) by omega]
   exact this]
  simp
theorem ou{P:Program}{t:TypeId}(ht:gN P t=true){w:World}{a:Addr}{v:Value}(h:aR w.heap a=some v):(Instr.loadAt t (.pointer (some a))).run P w= .ok v w:=by
 unfold Instr.loadAt
 rw[aK (show(Instr.sureAddr (.pointer (some a))).run P w= .ok a w from rfl)]
 unfold loadVar
 rw[aK (Aw ht w).1]
 exact Ax h
theorem ov{P:Program}{t:TypeId}{n:Nat}(ht:qK P t=some n){w:World}{a:Addr}{vs:List Value}(hl:vs.length=n)(h:∀j(hj:j<vs.length),aR w.heap (a.add j)=some vs[j]):(Instr.loadAt t (.pointer (some a))).run P w= .ok (.agg vs.toArray) w:=by
 unfold Instr.loadAt
 rw[aK (show(Instr.sureAddr (.pointer (some a))).run P w= .ok a w from rfl)]
 unfold loadVar
 rw[aK (pH ht w).1]
 simp only[if_true]
 rw[aK (pH ht w).2]
 have:(loadCells a n).run P w= .ok vs.toArray w:=by
  unfold loadCells
  rw[run_loadCellsFrom n 0 vs #[] hl fun j hj=>by rw[Nat.zero_add];exact h j hj]
  simp
 rw[aK this]
 rfl
theorem Jh{P:Program}{t:TypeId}(ht:gN P t=true){h:Heap}{K:Value->Prop}{a:Addr}(v:Value)(hc:aR h a=some v)(H:K v):zN P (Instr.loadAt t (.pointer (some a))) h K:=
 ⟨v,fun w hw=>ou ht (by rw[hw];exact hc),H⟩
theorem Ji{P:Program}{t:TypeId}{n:Nat}(ht:qK P t=some n){h:Heap}{K:Value->Prop}{a:Addr}(vs:List Value)(hl:vs.length=n)(hc:∀j(hj:j<vs.length),aR h (a.add j)=some vs[j])(H:K (.agg vs.toArray)):zN P (Instr.loadAt t (.pointer (some a))) h K:=
 ⟨_,fun w hw=>ov ht hl fun j hj=>by rw[hw];exact hc j hj,H⟩
theorem gw(b o j:Nat):(⟨b,o,none⟩:Addr).add j=⟨b,o+j,none⟩:=by unfold Addr.add;split<;>simp_all
theorem dC.cell{h:Heap}{b:Nat}{cs:List Value}(H:dC h b cs)(o:Nat):aR h ⟨b,o,none⟩=cs[o]?:=by
 obtain⟨T,hT⟩:=H
 simp[aR,hT]
theorem dC.frz{h:Heap}{b:Nat}{cs:List Value}(H:dC h b cs)(o:Nat):vC h ⟨b,o,none⟩=false:=by
 obtain⟨T,hT⟩:=H
 simp[vC,hT]
theorem Jj{P:Program}{t:TypeId}(ht:gN P t=true){h:Heap}{K:Value->Prop}{L:List (Nat×List Value)}(hL:Vars h L)(i:Nat){b:Nat}{cs:List Value}(hi:jR L i=some (b,cs))(o:Nat){v:Value}(hv:cs[o]?=some v)(H:K v):
 zN P (Instr.loadAt t (VP b o)) h K:=Jh ht v (by rw[(hL.get i hi).cell];exact hv) H
def GV:List Value->Nat->Nat->List Value
 |cs,0,n=>cs.take n
 |[],_,_=>[]
 |_::cs,o+1,n=>GV cs o n
theorem mW:∀(cs:List Value)(o n:Nat),GV cs o n=(cs.drop o).take n
 |cs,0,n=>by cases cs<;>rfl
 |[],o+1,n=>by simp[GV]
 |c::cs,o+1,n=>by simp only[GV,List.drop_succ_cons];exact mW cs o n
theorem Es{P:Program}{t:TypeId}{n:Nat}(ht:qK P t=some n){h:Heap}{K:Value->Prop}{L:List (Nat×List Value)}(hL:Vars h L)(i:Nat){b:Nat}{cs:List Value}(hi:jR L i=some (b,cs))(o:Nat){vs:List Value}(hv:GV cs o n=vs)(hn:vs.length=n)(H:K (.agg vs.toArray)):
 zN P (Instr.loadAt t (VP b o)) h K:=by
 refine Ji ht vs hn (fun j hj=> ?_) H
 rw[gw,(hL.get i hi).cell]
 rw[mW]at hv
 subst hv
 rw[List.getElem_take,List.getElem_drop]
 exact List.getElem?_eq_getElem _
theorem KO{P:Program}{t:TypeId}{K:Value->Prop}(i:Nat){off:Nat}(hf:wX P t i=some off)(b o:Nat)(H:K (VP b (o+off))):pop P (Instr.fieldAt t (VP b o) i) K:=by
 refine .mk' (fun w=> ?_) H
 unfold wX at hf
 cases hu:P.underlying t with
 |none=>rw[hu]at hf;simp at hf
 |some d=>
  rw[hu]at hf
  cases d<;>simp at hf
  rename_i fs
  cases hx:fs[i]? with
  |none=>rw[hx]at hf;simp at hf
  |some f=>
   rw[hx]at hf
   simp only at hf
   cases hj:P.info? f.type with
   |none=>rw[hj]at hf;simp at hf
   |some j=>
    rw[hj]at hf
    simp only[Option.ite_none_left_eq_some,Option.some.injEq]at hf
    obtain⟨h0,rfl⟩:=hf
    unfold Instr.fieldAt
    rw[aK (bV hu w)]
    simp only[hx]
    rw[aK (show(Instr.sureAddr (VP b o)).run P w= .ok ⟨b,o,none⟩ w from rfl)]
    have:(fieldPlace ⟨b,o,none⟩ f).run P w= .ok ⟨b,o+f.offset,none⟩ w:=by
     unfold fieldPlace
     rw[aK (show(sizeOf f.type).run P w= .ok j.size w from by unfold sizeOf;rw[aK (dP hj w)];rfl)]
     rw[if_neg h0,gw]
     rfl
    rw[aK this]
    rfl
def oy(P:Program)(t:TypeId):Option Value:=(P.info? t).bind (·.zero)
theorem Ay(w:World)(o:Obj):cN w {w with heap:=w.heap.push o}:=⟨rfl,rfl,rfl⟩
theorem wY{P:Program}(t:TypeId)(v:Value)(w:World):(newVar t v).run P w= .ok ⟨w.heap.size,0,none⟩ {w with heap:=w.heap.push (.cells v.cells t)}:=by
 simp[newVar,newRow,newObj,bind,Sem.bind,pure,Sem.run]
theorem QK{P:Program}(t:TypeId)(v:Value){cs:List Value}(hv:v.cells=cs.toArray){h:Heap}{K:Value->Heap->Prop}{L:List (Nat×List Value)}(hL:Vars h L)
 (H:∀(b:Nat)(h1:Heap),h.size<=b->Fr No h h1->Vars h1 ((b,cs)::L)->K (VP b 0) h1):jQ P (Instr.box t v) h K:=by
 refine⟨fun w hw=> ?_⟩
 refine⟨VP w.heap.size 0,{w with heap:=w.heap.push (.cells v.cells t)},?_,Ay w _,?_⟩
 ·unfold Instr.box
  rw[aK (wY t v w)]
  rfl
 ·subst hw
  have:=H w.heap.size (w.heap.push (.cells cs.toArray t (0,0))) (Nat.le_refl _) (Fr.push _ _) (hL.push cs t)
  rw[<-hv]at this
  exact this
theorem KP{P:Program}(t:TypeId){z:Value}(hz:oy P t=some z){cs:List Value}(hv:z.cells=cs.toArray){h:Heap}{K:Value->Heap->Prop}{L:List (Nat×List Value)}(hL:Vars h L)
 (H:∀(b:Nat)(h1:Heap),h.size<=b->Fr No h h1->Vars h1 ((b,cs)::L)->K (VP b 0) h1):jQ P (Instr.alloc t true (.tuple #[])) h K:=by
 refine⟨fun w hw=> ?_⟩
 refine⟨VP w.heap.size 0,{w with heap:=w.heap.push (.cells z.cells t)},?_,Ay w _,?_⟩
 ·unfold Instr.alloc
  have:(zeroValue t).run P w= .ok z w:=by
   unfold oy at hz
   cases hi:P.info? t with
   |none=>rw[hi]at hz;simp at hz
   |some i=>
    rw[hi]at hz
    simp only[Option.bind_some]at hz
    unfold zeroValue
    rw[aK (dP hi w)]
    simp[hz,pure,Sem.run]
  rw[aK this]
  show((newVar t z)>>=_).run P w=_
  rw[aK (wY t z w)]
  rfl
 ·subst hw
  have:=H w.heap.size (w.heap.push (.cells cs.toArray t (0,0))) (Nat.le_refl _) (Fr.push _ _) (hL.push cs t)
  rw[<-hv]at this
  exact this
theorem GW{P:Program}{w:World}{a:Addr}{v u:Value}(hc:aR w.heap a=some u)(hf:vC w.heap a=false)(h1:v.cells= #[v])(h2:∀cs,v≠ .agg cs)(h3:∀cs,v≠ .tuple cs):(store a v).run P w= .ok () (w.setCell a v):=by
 have P1:w.cell? a=some u:=hc
 have hf':w.frozen? a=false:=hf
 unfold store
 cases v<;>first|exact absurd rfl (h2 _)|exact absurd rfl (h3 _)|simp[Sem.run,P1,hf']
def fp:Value->Bool
 | .agg _| .tuple _=>false
 |_=>true
theorem oz{v:Value}(h:fp v=true):v.cells= #[v]/\(∀cs,v≠ .agg cs)/\∀cs,v≠ .tuple cs:=by
 cases v<;>simp[fp]at h<;>simp[Value.cells]
theorem oA{P:Program}{a:Addr}:∀(vs:List Value)(i:Nat)(w:World),(∀v,v∈vs->fp v=true)->(∀j,j<vs.length->(aR w.heap (a.add (i+j))).isSome=true/\vC w.heap (a.add (i+j))=false)->
 ∃w',(storeCells a vs i).run P w= .ok () w'/\cN w w'/\w'.heap=(vs.zipIdx i).foldl (fun h p=>cK h (a.add p.2) p.1) w.heap
 |[],i,w,_,_=>⟨w,rfl,cN.refl w,rfl⟩
 |v::vs,i,w,hp,hc=>by
  obtain⟨h1,h2⟩:=hc 0 (by simp)
  rw[Nat.add_zero]at h1 h2
  obtain⟨u,hu⟩:=Option.isSome_iff_exists.1 h1
  obtain⟨p1,p2,p3⟩:=oz (hp v (by simp))
  have hs:=GW (P:=P) hu h2 p1 p2 p3
  have keep:∀b,(aR w.heap b).isSome=true->(aR (w.setCell (a.add i) v).heap b).isSome=true:=by
   intro b hb
   rw[mV]
   unfold aR cK at*
   rw[Array.getElem?_modify]
   by_cases hk:(a.add i).block=b.block
   ·simp only[hk,if_true]
    cases ho:w.heap[b.block]? with
    |none=>rw[ho]at hb;simp at hb
    |some o=>
     rw[ho]at hb
     cases o<;>simp at hb⊢
     rename_i c e f
     split at hb
     ·simp at hb
     ·rename_i Mz
      simp only[Mz]
      simp
      split
      ·simpa using hb
      ·simpa using hb
   ·simp only[hk,if_false];exact hb
  have aaU:∀b,vC (w.setCell (a.add i) v).heap b=vC w.heap b:=by
   intro b
   rw[mV]
   unfold vC cK
   rw[Array.getElem?_modify]
   by_cases hk:(a.add i).block=b.block
   ·simp only[hk,if_true]
    cases ho:w.heap[b.block]? with
    |none=>rfl
    |some o=>cases o<;>rfl
   ·simp only[hk,if_false]
  obtain⟨w',r1,r2,r3⟩:=oA (P:=P) (a:=a) vs (i+1) (w.setCell (a.add i) v) (fun x hx=>hp x (by simp[hx])) (fun j hj=>by
   obtain⟨c1,c2⟩:=hc (j+1) (by simpa using hj)
   rw[show i+1+j=i+(j+1) by omega]
   exact⟨keep _ c1,by rw[aaU];exact c2⟩)
  refine⟨w',?_,cN.trans (b:=w.setCell (a.add i) v) ⟨rfl,rfl,rfl⟩ r2,?_⟩
  ·unfold storeCells
   rw[aK hs]
   exact r1
  ·rw[r3,mV];rfl
theorem oB{P:Program}{t:TypeId}{n:Nat}{w:World}(ht:(sizeOf t).run P w= .ok n w){a:Addr}{v:Value}{vs:List Value}(hv:v.cells=vs.toArray)(hn:vs.length=n)(hp:∀v,v∈vs->fp v=true)
 (hc:∀j,j<vs.length->(aR w.heap (a.add j)).isSome=true/\vC w.heap (a.add j)=false):
 ∃w',(Instr.storeAt t (.pointer (some a)) v).run P w= .ok () w'/\cN w w'/\w'.heap=vs.zipIdx.foldl (fun h p=>cK h (a.add p.2) p.1) w.heap:=by
 obtain⟨w',r1,r2,r3⟩:=oA (P:=P) (a:=a) vs 0 w hp (fun j hj=>by rw[Nat.zero_add];exact hc j hj)
 refine⟨w',?_,r2,r3⟩
 unfold Instr.storeAt
 rw[aK (show(Instr.sureAddr (.pointer (some a))).run P w= .ok a w from rfl)]
 unfold storeVar
 rw[aK ht]
 have qv:v.cells.size=n:=by rw[hv];simpa using hn
 simp only[qv,ne_eq,not_true,if_false]
 rw[hv]
 exact r1
theorem dC.cK{h:Heap}{b:Nat}{cs:List Value}(H:dC h b cs)(o:Nat)(v:Value):dC (Mx.cK h ⟨b,o,none⟩ v) b (cs.set o v):=by
 obtain⟨T,hT⟩:=H
 refine⟨T,?_⟩
 simp only[Mx.cK,Array.getElem?_modify,hT]
 simp
theorem Az{b:Nat}:∀(vs:List Value)(i o:Nat)(h:Heap)(cs:List Value),dC h b cs->o+i+vs.length<=cs.length->
 Fr (fun k=>k=b) h ((vs.zipIdx i).foldl (fun h p=>Mx.cK h ((⟨b,o,none⟩:Addr).add p.2) p.1) h)/\
 dC ((vs.zipIdx i).foldl (fun h p=>Mx.cK h ((⟨b,o,none⟩:Addr).add p.2) p.1) h) b (cs.take (o+i)++vs++cs.drop (o+i+vs.length))
 |[],i,o,h,cs,H,_=>⟨Fr.refl _ _,by simpa using H⟩
 |v::vs,i,o,h,cs,H,hl=>by
  simp only[List.length_cons]at hl
  simp only[List.zipIdx_cons,List.foldl_cons]
  rw[gw]
  obtain⟨h1,h2⟩:=Az vs (i+1) o (Mx.cK h ⟨b,o+i,none⟩ v) (cs.set (o+i) v) (H.cK _ _) (by simp;omega)
  refine⟨(Fr.set h ⟨b,o+i,none⟩ v).trans h1,?_⟩
  have e:(cs.set (o+i) v).take (o+(i+1))++vs++(cs.set (o+i) v).drop (o+(i+1)+vs.length)=cs.take (o+i)++(v::vs)++cs.drop (o+i+(v::vs).length):=by
   have e1:(cs.set (o+i) v).take (o+(i+1))=cs.take (o+i)++[v]:=by
    rw[show o+(i+1)=(o+i)+1 by omega,List.take_succ_eq_append_getElem (by simp;omega),List.take_set_of_le (Nat.le_refl _)]
    simp
   have e2:(cs.set (o+i) v).drop (o+(i+1)+vs.length)=cs.drop (o+i+(v::vs).length):=by
    rw[List.drop_set_of_lt (by omega)]
    congr 1
    simp;omega
   rw[e1,e2]
   simp
  rw[<-e]
  exact h2
theorem lY:∀(cs:List Value)(o:Nat)(vs:List Value),o+vs.length<=cs.length->iZ cs o vs=cs.take o++vs++cs.drop (o+vs.length)
 |cs,o,[],_=>by cases cs<;>simp[iZ]
 |[],o,v::vs,h=>by simp at h
 |c::cs,0,v::vs,h=>by
  simp only[iZ]
  rw[lY cs 0 vs (by simpa using h)]
  simp
 |c::cs,o+1,v::vs,h=>by
  simp only[iZ]
  rw[lY cs o (v::vs) (by simp at h⊢;omega)]
  simp only[List.length_cons,List.take_succ_cons,List.cons_append]
  rw[show o+1+(vs.length+1)=(o+(vs.length+1))+1 by omega,List.drop_succ_cons]
def li(P:Program)(t:TypeId):Option Nat:=(P.info? t).map (·.size)
theorem kG{P:Program}{t:TypeId}{n:Nat}(h:li P t=some n)(w:World):(sizeOf t).run P w= .ok n w:=by
 unfold li at h
 cases hi:P.info? t with
 |none=>rw[hi]at h;simp at h
 |some i=>
  rw[hi]at h
  simp only[Option.map_some,Option.some.injEq]at h
  unfold sizeOf
  rw[aK (dP hi w),h]
  rfl
theorem QL{P:Program}{t:TypeId}{n:Nat}(ht:li P t=some n){h:Heap}{K:Value->Heap->Prop}{L:List (Nat×List Value)}(hL:Vars h L)(i:Nat){b:Nat}{cs:List Value}(hi:jR L i=some (b,cs))(o:Nat){v:Value}(vs:List Value)
 (hv:v.cells=vs.toArray) (hn:vs.length=n) (hp:vs.all fp=true) (ho:o+vs.length<=cs.length) {L':List (Nat×List Value)} (hL':Ep L i (iZ cs o vs)=L')
 (H:∀h1:Heap,Fr (fun k=>k=b) h h1->Vars h1 L'->K undef h1):Aj P (Instr.storeAt t (VP b o) v) h K:=by
 refine⟨fun w hw=> ?_⟩
 have hV:=hL.get i hi
 subst hw
 obtain⟨w',r1,r2,r3⟩:=oB (P:=P) (kG ht w) (a:=⟨b,o,none⟩) hv hn (fun v hm=>List.all_eq_true.1 hp v hm) (fun j hj=>by
  rw[gw,hV.cell,hV.frz]
  refine⟨?_,rfl⟩
  rw[List.getElem?_eq_getElem (show o+j<cs.length by omega)]
  rfl)
 obtain⟨f1,f2⟩:=Az (b:=b) vs 0 o w.heap cs hV (by simpa using ho)
 rw[Nat.add_zero,<-lY cs o vs ho]at f2
 refine⟨w',r1,r2,?_⟩
 rw[r3]
 subst hL'
 exact H _ f1 (hL.set hi f1 f2)
def Sl.at(s:Sl)(i:Int)(sz:Nat):Addr:=(s.a.getD ⟨0,0,none⟩).add (i.toNat*sz)
structure dQ(s:Sl)(i:Int):Prop where
 some:s.a.isSome=true
 lo:0<=i
 hi:i<(s.n:Int)
def lk(h:Heap)(a:Addr)(vs:List Value):Prop:=∀j(hj:j<vs.length),aR h (a.add j)=Option.some vs[j]
structure dT(h:Heap)(a:Addr):Prop where
 cell:(aR h a).isSome=true
 free:vC h a=false
theorem KR{P:Program}{t e:TypeId}{n:Nat}(ht:P.underlying t=some (.slice e))(he:li P e=some n)(k:IntKind)(s:Sl)(i:Int)(hb:dQ s i){K:Value->Prop}(H:K (.pointer (some (s.at i n)))):pop P (Instr.indexAt t s.v (.int k i)) K:=by
 refine .mk' (fun w=> ?_) H
 obtain⟨ad,had⟩:=Option.isSome_iff_exists.1 hb.some
 have hu:=bV ht w
 have hz:=kG he w
 unfold Instr.indexAt
 simp[had,Sl.v,go_sem,hu,hz,hb.lo,hb.hi,Sl.at]
theorem MA{P:Program}{t:TypeId}(ht:li P t=some 1){h:Heap}{K:Value->Heap->Prop}{a:Addr}{v:Value}(hw:dT h a)(hp:fp v=true)(H:∀h1:Heap,h1=cK h a v->K undef h1):Aj P (Instr.storeAt t (.pointer (some a)) v) h K:=by
 refine⟨fun w hh=> ?_⟩
 subst hh
 obtain⟨p1,p2,p3⟩:=oz hp
 obtain⟨w',r1,r2,r3⟩:=oB (P:=P) (kG ht w) (a:=a) (v:=v) (vs:=[v]) (by rw[p1]) rfl (fun x hx=>by simp at hx;rw[hx];exact hp) (fun j hj=>by
  obtain rfl:j=0:=by simpa using hj
  have:a.add 0=a:=by simp[Addr.add]
  rw[this]
  exact⟨hw.cell,hw.free⟩)
 refine⟨w',r1,r2,?_⟩
 have:a.add 0=a:=by simp[Addr.add]
 rw[r3]
 simp only[List.zipIdx_cons,List.zipIdx_nil,List.foldl_cons,List.foldl_nil,this]
 exact H _ rfl
def In(B:List Nat):Nat->Prop:=fun k=>k∈B
theorem Fr.r(T:Nat->Prop)(h:Heap):Fr T h h:=Fr.refl T h
theorem Fr.no'{T:Nat->Prop}{u a c:Heap}(h:Fr T u a)(k:Fr No a c):Fr T u c:=h.trans k.aB
theorem Fr.new{T:Nat->Prop}{u a c:Heap}{b:Nat}(h:Fr T u a)(hb:u.size<=b)(k:Fr (fun k=>k=b) a c):Fr T u c:=
 ⟨Nat.le_trans h.size k.size,fun i hi hT=>(k.same i (Nat.lt_of_lt_of_le hi h.size) (by omega)).trans (h.same i hi hT)⟩
theorem Fr.rN{B:List Nat}{u a c:Heap}{b:Nat}(h:Fr (In B) u a)(k:Fr (fun k=>k=b) a c):Fr (In (b::B)) u c:=
 ⟨Nat.le_trans h.size k.size,fun i hi hT=>(k.same i (Nat.lt_of_lt_of_le hi h.size) (fun e=>hT (by simp[In,e]))).trans (h.same i hi fun hm=>hT (by unfold In at*;simp[hm]))⟩
theorem KS{P:Program}{K:Value->Prop}{b:Bool}{x y:Value}(h1:b=true->K x)(h2:b=false->K y):pop P (Jd (.bool b) x y) K:=by
 cases hb:b
 ·exact KM _ _ (h2 hb)
 ·exact KL _ _ (h1 hb)
theorem AA{P:Program}{t:TypeId}(ht:gN P t=true){h:Heap}{a:Addr}{v:Value}(hc:aR h a=some v):∀w:World,w.heap=h->(Instr.loadAt t (.pointer (some a))).run P w= .ok v w:=fun w hw=>ou ht (by rw[hw];exact hc)
theorem AB{P:Program}{t:TypeId}{n:Nat}(ht:qK P t=some n){h:Heap}{a:Addr}(vs:List Value)(hl:vs.length=n)(hc:lk h a vs):∀w:World,w.heap=h->(Instr.loadAt t (.pointer (some a))).run P w= .ok (.agg vs.toArray) w:=fun w hw=>ov ht hl fun j hj=>by rw[hw];exact hc j hj
theorem KT{P:Program}{t:TypeId}(ht:gN P t=true){h:Heap}{L:List (Nat×List Value)}(hL:Vars h L)(i:Nat){b:Nat}{cs:List Value}(hi:jR L i=some (b,cs))(o:Nat){v:Value}(hv:cs[o]?=some v):∀w:World,w.heap=h->(Instr.loadAt t (VP b o)).run P w= .ok v w:=
 AA ht (by rw[(hL.get i hi).cell];exact hv)
theorem GY{P:Program}{t:TypeId}{n:Nat}(ht:qK P t=some n){h:Heap}{L:List (Nat×List Value)}(hL:Vars h L)(i:Nat){b:Nat}{cs:List Value}(hi:jR L i=some (b,cs))(o:Nat){vs:List Value}(hv:GV cs o n=vs)(hn:vs.length=n):∀w:World,w.heap=h->(Instr.loadAt t (VP b o)).run P w= .ok (.agg vs.toArray) w:=by
 refine AB ht vs hn fun j hj=> ?_
 rw[gw,(hL.get i hi).cell]
 rw[mW]at hv
 subst hv
 rw[List.getElem_take,List.getElem_drop]
 exact List.getElem?_eq_getElem _
theorem GZ{I0:List Value}{h:Heap}{B:(List Value->Heap->Prop)->(List Value->Heap->Nat)->Prop}(J:Nat->List Value->Heap->Prop)(n0:Nat)(h0:J n0 I0 h)
 (H:∀(I:List Value->Heap->Prop)(μ:List Value->Heap->Nat),(∀vs h',I vs h'->∃n,J n vs h'/\∀pI kY,(∃m,m<n/\J m pI kY)->I pI kY/\μ pI kY<μ vs h')->B I μ):∃I μ,I I0 h/\B I μ:=by
 have ex:∀vs h',(∃n,J n vs h')->∃n,J n vs h'/\∀m,J m vs h'->n<=m:=by
  rintro vs h' ⟨n,hn⟩
  induction n using Nat.strongRecOn with
  |_ n ih=>
   by_cases hm:∃m,m<n/\J m vs h'
   ·obtain⟨m,h1,h2⟩:=hm
    exact ih m h1 h2
   ·exact⟨n,hn,fun m hj=>Nat.le_of_not_lt fun tf=>hm ⟨m,tf,hj⟩⟩
 have fn:∃μ:List Value->Heap->Nat,∀vs h',(∃n,J n vs h')->J (μ vs h') vs h'/\∀m,J m vs h'->μ vs h'<=m:=by
  classical
  refine⟨fun vs h'=>if hx:∃n,J n vs h' then Classical.choose (ex vs h' hx)else 0,fun vs h' hx=> ?_⟩
  simp only[hx,dif_pos]
  exact Classical.choose_spec (ex vs h' hx)
 obtain⟨μ,hμ⟩:=fn
 refine⟨fun vs h'=>∃n,J n vs h',μ,⟨n0,h0⟩,H _ _ fun vs h' hx=>⟨μ vs h',(hμ vs h' hx).1,fun pI kY hm=> ?_⟩⟩
 obtain⟨m,h1,h2⟩:=hm
 exact⟨⟨m,h2⟩,Nat.lt_of_le_of_lt ((hμ pI kY ⟨m,h2⟩).2 m h2) h1⟩
theorem Ha{P:Program}{t:TypeId}{K:Value->Prop}(i:Nat){off:Nat}(hf:wX P t i=some off)(a:Addr)(H:K (.pointer (some (a.add off)))):pop P (Instr.fieldAt t (.pointer (some a)) i) K:=by
 refine .mk' (fun w=> ?_) H
 unfold wX at hf
 cases hu:P.underlying t with
 |none=>rw[hu]at hf;simp at hf
 |some d=>
  rw[hu]at hf
  cases d<;>simp at hf
  rename_i fs
  cases hx:fs[i]? with
  |none=>rw[hx]at hf;simp at hf
  |some f=>
   rw[hx]at hf
   simp only at hf
   cases hj:P.info? f.type with
   |none=>rw[hj]at hf;simp at hf
   |some j=>
    rw[hj]at hf
    simp only[Option.ite_none_left_eq_some,Option.some.injEq]at hf
    obtain⟨h0,rfl⟩:=hf
    unfold Instr.fieldAt
    rw[aK (bV hu w)]
    simp only[hx]
    rw[aK (show(Instr.sureAddr (.pointer (some a))).run P w= .ok a w from rfl)]
    have:(fieldPlace a f).run P w= .ok (a.add f.offset) w:=by
     unfold fieldPlace
     rw[aK (show(sizeOf f.type).run P w= .ok j.size w from by unfold sizeOf;rw[aK (dP hj w)];rfl)]
     rw[if_neg h0]
     rfl
    rw[aK this]
    rfl
def wZ(L:List (Nat×List Value)):List Nat->List (Nat×List Value)
 |[]=>[]
 |i::is=>match jR L i with
  |some p=>p::wZ L is
  |none=>wZ L is
def Hb:List Nat->Bool
 |[]=>true
 |i::is=> ! eH is i&&Hb is
theorem Vars.apart{h:Heap}:∀{L:List (Nat×List Value)},Vars h L->∀{i j:Nat}{p q:Nat×List Value},i≠j->jR L i=some p->jR L j=some q->p.1≠q.1
 |_,.nil,i,j,p,q,_,hp,_=>by simp[jR]at hp
 |_,.cons (b:=b) (cs:=cs) (L:=L) hv hn hl,0,0,p,q,dZ,_,_=>absurd rfl dZ
 |_,.cons (b:=b) (cs:=cs) (L:=L) hv hn hl,0,j+1,p,q,_,hp,hq=>by
  simp only[jR,Option.some.injEq]at hp hq
  subst hp
  exact fun e=>hn q (oq hq) e.symm
 |_,.cons (b:=b) (cs:=cs) (L:=L) hv hn hl,i+1,0,p,q,_,hp,hq=>by
  simp only[jR,Option.some.injEq]at hp hq
  subst hq
  exact hn p (oq hp)
 |_,.cons (b:=b) (cs:=cs) (L:=L) hv hn hl,i+1,j+1,p,q,dZ,hp,hq=>hl.apart (i:=i) (j:=j) (by omega) hp hq
theorem ti{L:List (Nat×List Value)}:∀{is:List Nat}{p:Nat×List Value},p∈wZ L is->∃i,i∈is/\jR L i=some p
 |[],p,h=>by simp[wZ]at h
 |i::is,p,h=>by
  unfold wZ at h
  cases hn:jR L i with
  |none=>rw[hn]at h;obtain⟨j,h1,h2⟩:=ti h;exact⟨j,by simp[h1],h2⟩
  |some q=>
   rw[hn]at h
   rcases List.mem_cons.1 h with rfl|h
   ·exact⟨i,by simp,hn⟩
   ·obtain⟨j,h1,h2⟩:=ti h;exact⟨j,by simp[h1],h2⟩
theorem Vars.pick{h:Heap}{L:List (Nat×List Value)}(H:Vars h L):∀(is:List Nat),Hb is=true->Vars h (wZ L is)
 |[],_=> .nil
 |i::is,hf=>by
  simp only[Hb,Bool.and_eq_true,Bool.not_eq_true']at hf
  unfold wZ
  cases hn:jR L i with
  |none=>exact H.pick is hf.2
  |some p=>
   obtain⟨b,cs⟩:=p
   refine .cons (H.get i hn) (fun q hq e=> ?_) (H.pick is hf.2)
   obtain⟨j,h1,h2⟩:=ti hq
   have TX:j≠i:=fun e=>by subst e;exact rD _ _ hf.1 h1
   exact H.apart TX h2 hn e
end Go.Mx
