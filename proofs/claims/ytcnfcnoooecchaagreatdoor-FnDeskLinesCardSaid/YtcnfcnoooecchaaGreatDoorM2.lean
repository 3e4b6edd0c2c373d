import Derived.Test.YtcnfcnoooecchaaGreatDoorM1
import Derived.Laws.Entries
set_option linter.unusedVariables false
set_option linter.unusedSimpArgs false
namespace Go.Mx
def bF(h:Heap)(a:Addr):Option Value:=
 match h[a.block]? with
 |some (.cells c _ _)=>if a.spot.isSome then none else c[a.off]?
 |_=>none
def yF(h:Heap)(a:Addr):Bool:=
 match h[a.block]? with
 |some (.cells _ _ (lo,hi))=>lo<=a.off&&a.off<hi
 |_=>false
def dR(h:Heap)(a:Addr)(v:Value):Heap:=
 h.modify a.block fun
  | .cells c elem frozen=> .cells (if a.spot.isSome then c else c.setIfInBounds a.off v) elem frozen
  |o=>o
theorem y9(w:World)(a:Addr):w.cell? a=bF w.heap a:=rfl
theorem NK(w:World)(a:Addr):w.frozen? a=yF w.heap a:=rfl
theorem pH(w:World)(a:Addr)(v:Value):(w.setCell a v).heap=dR w.heap a v:=rfl
structure Fr(T:aK)(h h':Heap):Prop where
 size:h.size<=h'.size
 same:∀k,k<h.size->¬T k->h'[k]?=h[k]?
def No:aK:=fun _=>False
theorem Fr.refl(T:aK)(h:Heap):Fr T h h:=⟨aW _,fun _ _ _=>rfl⟩
theorem Fr.trans{T:aK}{a b c:Heap}(h:Fr T a b)(k:Fr T b c):Fr T a c:=
 ⟨dD h.size k.size,fun i hi hT=>(k.same i (fQ hi h.size) hT).trans (h.same i hi hT)⟩
theorem Fr.mono{T T':aK}{a b:Heap}(h:Fr T a b)(hT:∀k,k<a.size->T k->T' k):Fr T' a b:=⟨h.size,fun i hi ht=>h.same i hi fun hk=>ht (hT i hi hk)⟩
theorem Fr.aB{T:aK}{a b:Heap}(h:Fr No a b):Fr T a b:=h.mono fun _ _ hk=>hk.elim
theorem Fr.push(h:Heap)(o:Obj):Fr No h (h.push o):=⟨by simp,fun k hk _=>by rw[Array.getElem?_push,aF (by omega)]⟩
theorem Kb(h:Heap)(a:Addr)(v:Value)(k:Nat)(hk:k≠a.block):(dR h a v)[k]?=h[k]?:=by
 simp only[dR,za]
 rw[aF (by omega)]
theorem NL(h:Heap)(a:Addr)(v:Value):(dR h a v).size=h.size:=by simp[dR]
theorem Fr.set(h:Heap)(a:Addr)(v:Value):Fr (fun k=>k=a.block) h (dR h a v):=⟨by rw[NL];exact aW _,fun k _ hk=>Kb _ _ _ _ hk⟩
def bV(h:Heap)(b:Nat)(cs:List Value):Prop:=∃T,h[b]?=some (.cells cs.toArray T (0,0))
theorem bV.lt{h:Heap}{b:Nat}{cs:List Value}(H:bV h b cs):b<h.size:=by
 obtain⟨T,hT⟩:=H
 exact(Ab.1 hT).1
theorem bV.fr{T:aK}{h h':Heap}{b:Nat}{cs:List Value}(H:bV h b cs)(hf:Fr T h h')(hT:¬T b):bV h' b cs:=by
 have hl:=H.lt
 obtain⟨t,ht⟩:=H
 exact⟨t,(hf.same b hl hT).trans ht⟩
inductive Vars(h:Heap):List (Nat×List Value)->Prop where
 |nil:Vars h []
 |cons {b:Nat} {cs:List Value} {L:List (Nat×List Value)}:bV h b cs->(∀p,p∈L->p.1≠b)->Vars h L->Vars h ((b,cs)::L)
def qK:List (Nat×List Value)->Nat->Option (Nat×List Value)
 |[],_=>none
 |p::_,0=>some p
 |_::L,n+1=>qK L n
def EJ:List (Nat×List Value)->Nat->List Value->List (Nat×List Value)
 |[],_,_=>[]
 |(b,_)::L,0,cs=>(b,cs)::L
 |p::L,n+1,cs=>p::EJ L n cs
theorem Vars.mem{h:Heap}:∀{L:List (Nat×List Value)},Vars h L->∀p,p∈L->bV h p.1 p.2
 |_,.nil,p,hp=>by simp at hp
 |_,.cons hv _ hl,p,hp=>by
  rcases aO.1 hp with rfl|hp
  ·exact hv
  ·exact hl.mem p hp
theorem Ac:∀{L:List (Nat×List Value)}{i:Nat}{p:Nat×List Value},qK L i=some p->p∈L
 |[],i,p,h=>by simp[qK]at h
 |q::L,0,p,h=>by simp only[qK,dC]at h;subst h;simp
 |q::L,i+1,p,h=>by simp only[qK]at h;exact cO _ (Ac h)
theorem Vars.get{h:Heap}{L:List (Nat×List Value)}(H:Vars h L)(i:Nat){b:Nat}{cs:List Value}(hi:qK L i=some (b,cs)):bV h b cs:=H.mem _ (Ac hi)
theorem Vars.fr{T:aK}{h h':Heap}:∀{L:List (Nat×List Value)},Vars h L->Fr T h h'->(∀p,p∈L->¬T p.1)->Vars h' L
 |_,.nil,_,_=> .nil
 |_,.cons (b:=b0) (cs:=c0) hv hn hl,hf,hT=> .cons (hv.fr hf (hT (b0,c0) (by simp))) hn (hl.fr hf fun p hp=>hT p (by simp[hp]))
theorem Vars.aB{h h':Heap}{L:List (Nat×List Value)}(H:Vars h L)(hf:Fr No h h'):Vars h' L:=H.fr hf fun _ _ h=>h
theorem Vars.tail{h:Heap}{p:Nat×List Value}{L:List (Nat×List Value)}(H:Vars h (p::L)):Vars h L:=by cases H;assumption
theorem Vars.head{h:Heap}{b:Nat}{cs:List Value}{L:List (Nat×List Value)}(H:Vars h ((b,cs)::L)):bV h b cs:=by cases H;assumption
theorem Vars.ne{h:Heap}{b:Nat}{cs:List Value}{L:List (Nat×List Value)}(H:Vars h ((b,cs)::L)):∀p,p∈L->p.1≠b:=by cases H;assumption
theorem Vars.push{h:Heap}{L:List (Nat×List Value)}(H:Vars h L)(cs:List Value)(T:TypeId):Vars (h.push (.cells cs.toArray T (0,0))) ((h.size,cs)::L):=by
 refine .cons ⟨T,by simp⟩ (fun p hp e=> ?_) (H.aB (Fr.push _ _))
 have:=(H.mem p hp).lt
 omega
def kP:List Value->Nat->List Value->List Value
 |cs,_,[]=>cs
 |[],_,_=>[]
 |_::cs,0,v::vs=>v::kP cs 0 vs
 |c::cs,n+1,vs=>c::kP cs n vs
theorem Hr:∀(L:List (Nat×List Value))(i:Nat)(cs:List Value),(EJ L i cs).map (·.1)=L.map (·.1)
 |[],_,_=>rfl
 |(b,_)::L,0,cs=>rfl
 |p::L,i+1,cs=>by simp[EJ,Hr L i cs]
theorem Vars.set{h h':Heap}:∀{L:List (Nat×List Value)}{i:Nat}{b:Nat}{cs nA:List Value},Vars h L->qK L i=some (b,cs)->Fr (fun k=>k=b) h h'->bV h' b nA->Vars h' (EJ L i nA)
 |_,0,b,cs,nA,.cons (b:=b0) (L:=L) hv hn hl,hi,hf,XY=>by
  simp only[qK,dC,fH]at hi
  obtain⟨rfl,rfl⟩:=hi
  exact .cons XY hn (hl.fr hf fun p hp e=>hn p hp e)
 |_,i+1,b,cs,nA,.cons (b:=b0) (cs:=c0) (L:=L) hv hn hl,hi,hf,XY=>by
  simp only[qK]at hi
  have hb:b≠b0:=hn _ (Ac hi)
  refine .cons (hv.fr hf fun e=>hb e.symm) (fun p hp e=> ?_) (hl.set hi hf XY)
  have:p.1∈(EJ L i nA).map (·.1):=dL.2 ⟨p,hp,rfl⟩
  rw[Hr]at this
  obtain⟨q,hq,hqe⟩:=dL.1 this
  exact hn q hq (hqe.trans e)
 |_,i,b,cs,nA,.nil,hi,_,_=>by simp[qK]at hi
structure Sl where
 a:Option Addr
 n:Nat
 c:Nat
@[reducible] def Sl.v(s:Sl):Value:= .slice s.a s.n s.c
def aD:Sl:=⟨none,0,0⟩
@[reducible] def VI(n:Int):Value:= .int .i64 n
@[reducible] def VB(b:Bool):Value:= .bool b
@[reducible] def VS(s:ByteArray):Value:= .string s
@[reducible] def VP(b:Nat)(o:Nat):Value:= .pointer (some ⟨b,o,none⟩)
def aX(x:Int):Int:=IntKind.i64.wrap x
theorem aP(x:Int)(h: -9223372036854775808<=x)(h':x<9223372036854775808):aX x=x:=by
 simp only[aX,IntKind.wrap,IntKind.bits,IntKind.signed]
 simp
 omega
theorem pop.mk'{P:Program}{s:Sem Value}{K:Value->Prop}{v:Value}(hs:∀w,s.run P w= .ok v w)(H:K v):pop P s K:=⟨v,hs,H⟩
theorem pop.mono{P:Program}{s:Sem Value}{K K':Value->Prop}(H:pop P s K)(h:∀v,K v->K' v):pop P s K':=let⟨v,a,b⟩:=H.out;⟨v,a,h _ b⟩
theorem CI.mono{P:Program}{s:Sem Value}{h:Heap}{K K':Value->Prop}(H:CI P s h K)(hk:∀v,K v->K' v):CI P s h K':=let⟨v,a,b⟩:=H.out;⟨v,a,hk _ b⟩
theorem lQ.mono{P:Program}{s:Sem Value}{h:Heap}{K K':aL}(H:lQ P s h K)(hk:∀v h,K v h->K' v h):lQ P s h K':=⟨fun w hw=>let⟨v,w',a,b,c⟩:=H.out w hw;⟨v,w',a,b,hk _ _ c⟩⟩
section
variable {P:Program} {t:TypeId} {K:Value->Prop}
theorem Uq(k:IntKind)(a b:Int)(H:K (.int k (k.wrap (a+b)))):pop P (ji .add t (.int k a) (.int k b)) K:=
 .mk' (fun w=>by simp[ji,eqGuard,binOp,Op.intArith,bind,Sem.bind,pure,Sem.run]) H
theorem Ur(k:IntKind)(a b:Int)(H:K (.int k (k.wrap (a-b)))):pop P (ji .sub t (.int k a) (.int k b)) K:=
 .mk' (fun w=>by simp[ji,eqGuard,binOp,Op.intArith,bind,Sem.bind,pure,Sem.run]) H
theorem Us(k:IntKind)(a b:Int)(H:K (.int k (k.wrap (a*b)))):pop P (ji .mul t (.int k a) (.int k b)) K:=
 .mk' (fun w=>by simp[ji,eqGuard,binOp,Op.intArith,bind,Sem.bind,pure,Sem.run]) H
theorem L2(k:IntKind)(a b:Int)(hb:b≠0)(H:K (.int k (k.wrap (a.tdiv b)))):pop P (ji .quo t (.int k a) (.int k b)) K:=
 .mk' (fun w=>by simp[ji,eqGuard,binOp,Op.intDiv,hb,bind,Sem.bind,pure,Sem.run]) H
theorem L3(k:IntKind)(a b:Int)(hb:b≠0)(H:K (.int k (a.tmod b))):pop P (ji .rem t (.int k a) (.int k b)) K:=
 .mk' (fun w=>by simp[ji,eqGuard,binOp,Op.intDiv,hb,bind,Sem.bind,pure,Sem.run]) H
theorem Ut(k:IntKind)(a b:Int)(H:K (.bool (decide (a<b)))):pop P (ji .lss t (.int k a) (.int k b)) K:=
 .mk' (fun w=>by simp[ji,eqGuard,binOp,Op.intCmp,bind,Sem.bind,pure,Sem.run]) H
theorem Uu(k:IntKind)(a b:Int)(H:K (.bool (decide (a<=b)))):pop P (ji .leq t (.int k a) (.int k b)) K:=
 .mk' (fun w=>by simp[ji,eqGuard,binOp,Op.intCmp,bind,Sem.bind,pure,Sem.run]) H
theorem Uv(k:IntKind)(a b:Int)(H:K (.bool (decide (b<a)))):pop P (ji .gtr t (.int k a) (.int k b)) K:=
 .mk' (fun w=>by simp[ji,eqGuard,binOp,Op.intCmp,bind,Sem.bind,pure,Sem.run]) H
theorem Uw(k:IntKind)(a b:Int)(H:K (.bool (decide (b<=a)))):pop P (ji .geq t (.int k a) (.int k b)) K:=
 .mk' (fun w=>by simp[ji,eqGuard,binOp,Op.intCmp,bind,Sem.bind,pure,Sem.run]) H
theorem Ux(k:IntKind)(x y:Operand)(a b:Int)(H:K (.bool (decide (a=b)))):pop P (od .eql t x y (.int k a) (.int k b)) K:=
 .mk' (fun w=>by
  have e:(a==b)=decide (a=b):=by rw[Bool.eq_iff_iff];simp
  have hk:¬(k≠k):=fun h=>h rfl
  simp only[od,eqGuard,binOp,Op.intCmp,bind,pure,<-e,aF hk]
  rfl) H
theorem Uy(k:IntKind)(x y:Operand)(a b:Int)(H:K (.bool (!decide (a=b)))):pop P (od .neq t x y (.int k a) (.int k b)) K:=
 .mk' (fun w=>by
  have e:(a==b)=decide (a=b):=by rw[Bool.eq_iff_iff];simp
  have hk:¬(k≠k):=fun h=>h rfl
  simp only[od,eqGuard,binOp,Op.intCmp,bind,pure,<-e,aF hk]
  rfl) H
theorem run_equalIn_bool{w:World}(d:Nat)(ht:P.underlying t=some .bool)(a b:Bool):(Op.equalIn (d+1) t (.bool a) (.bool b)).run P w= .ok (a==b) w:=by
 unfold Op.equalIn
 have:(underlying t).run P w= .ok .bool w:=by
  simp[underlying,program,ht,bind,Sem.bind,pure,Sem.run]
 show Sem.run P (Sem.bind _ _) w=_
 rw[iq,this]
 rfl
theorem run_equal_bool{w:World}(ht:P.underlying t=some .bool)(a b:Bool):(Op.equal t (.bool a) (.bool b)).run P w= .ok (a==b) w:=run_equalIn_bool 9999 ht a b
theorem Uz(ht:P.underlying t=some .bool)(x y:Operand)(a b:Bool)(H:K (.bool (a==b))):pop P (od .eql t x y (.bool a) (.bool b)) K:=
 .mk' (fun w=>by
  show Sem.run P (Sem.bind (Sem.pure ()) fun _=>Sem.bind (Op.equal t (.bool a) (.bool b)) _) w=_
  rw[iq]
  show Sem.run P (Sem.bind (Op.equal t (.bool a) (.bool b)) _) w=_
  rw[iq,run_equal_bool ht]
  rfl) H
theorem UA(ht:P.underlying t=some .bool)(x y:Operand)(a b:Bool)(H:K (.bool (!(a==b)))):pop P (od .neq t x y (.bool a) (.bool b)) K:=
 .mk' (fun w=>by
  show Sem.run P (Sem.bind (Sem.pure ()) fun _=>Sem.bind (Op.equal t (.bool a) (.bool b)) _) w=_
  rw[iq]
  show Sem.run P (Sem.bind (Op.equal t (.bool a) (.bool b)) _) w=_
  rw[iq,run_equal_bool ht]
  rfl) H
theorem UB(b:Bool)(H:K (.bool (!b))):pop P (Op.unary .not (.bool b)) K:= .mk' (fun w=>rfl) H
theorem UC(k:IntKind)(a:Int)(H:K (.int k (k.wrap (0-a)))):pop P (Op.unary .neg (.int k a)) K:= .mk' (fun w=>rfl) H
theorem NM(x y:Value)(H:K x):pop P (LZ (.bool true) x y) K:= .mk' (fun w=>rfl) H
theorem NN(x y:Value)(H:K y):pop P (LZ (.bool false) x y) K:= .mk' (fun w=>rfl) H
theorem UD{vs:Array Value}{i:Nat}{v:Value}(hi:vs[i]?=some v)(H:K v):pop P (Instr.extract (.tuple vs) i) K:=
 .mk' (fun w=>by simp[Instr.extract,hi,pure,Sem.run]) H
theorem UE(s:Sl)(ty e:TypeId)(ht:P.underlying t=some (.slice e))(H:K (.int .i64 s.n)):pop P (CM t ty s.v) K:=
 .mk' (fun w=>by simp[CM,Builtin.len_,underlying,program,ht,goInt,bind,Sem.bind,pure,Sem.run]) H
theorem PQ(s:ByteArray)(ty:TypeId)(ht:P.underlying t=some .string)(H:K (.int .i64 s.size)):pop P (CM t ty (.string s)) K:=
 .mk' (fun w=>by simp[CM,Builtin.len_,underlying,program,ht,goInt,bind,Sem.bind,pure,Sem.run]) H
theorem PR(a b:ByteArray)(h:a.size+b.size<=9223372036854775807)(H:K (.string (a++b))):pop P (ji .add t (.string a) (.string b)) K:=
 .mk' (fun w=>by
  have:¬IntKind.i64.max<((a.size:Int)+(b.size:Int)):=by simp[IntKind.max,IntKind.signed,IntKind.bits];omega
  have h2:(a.size:Int)+(b.size:Int)<=9223372036854775807:=by omega
  simp[ji,eqGuard,binOp,Op.stringOp,this,h2,bind,Sem.bind,pure,Sem.run]) H
theorem UF(x y:Operand)(a b:ByteArray)(H:K (.bool (a.toList==b.toList))):pop P (od .eql t x y (.string a) (.string b)) K:=
 .mk' (fun w=>rfl) H
theorem UG(x y:Operand)(a b:ByteArray)(H:K (.bool (!(a.toList==b.toList)))):pop P (od .neq t x y (.string a) (.string b)) K:=
 .mk' (fun w=>rfl) H
theorem PS(fn:Fn)(first captured:Array Value)(H:K (.func fn first captured)):pop P (Instr.makeFunc fn first captured) K:= .mk' (fun w=>rfl) H
theorem zc(a:Addr)(H:K (.pointer (some a))):pop P (PJ (.pointer (some a))) K:= .mk' (fun w=>rfl) H
end
theorem UH{b:Bool}{A B:Prop}(h1:b=true->A)(h2:b=false->B):PC (.bool b) A B:=⟨b,rfl,h1,h2⟩
def jt(P:Program)(t:TypeId):Bool:=
 match P.underlying t,P.info? t with
 |some (.struct _),_|some (.array _ _),_|none,_|_,none=>false
 |_,some i=>i.size==1
def tX(P:Program)(t:TypeId):Option Nat:=
 match P.underlying t,P.info? t with
 |some (.struct _),some i|some (.array _ _),some i=>some i.size
 |_,_=>none
def Ad(P:Program)(t:TypeId)(i:Nat):Option Nat:=
 match P.underlying t with
 |some (.struct fs)=>match fs[i]? with
  |some f=>match P.info? f.type with
   |some j=>if j.size=0 then none else some f.offset
   |none=>none
  |none=>none
 |_=>none
theorem dE{P:Program}{t:TypeId}{d:TypeDesc}(h:P.underlying t=some d)(w:World):(underlying t).run P w= .ok d w:=by
 simp[underlying,program,h,bind,Sem.bind,pure,Sem.run]
theorem fA{P:Program}{t:TypeId}{i:TypeInfo}(h:P.info? t=some i)(w:World):(typeInfo t).run P w= .ok i w:=by
 simp[typeInfo,program,h,bind,Sem.bind,pure,Sem.run]
theorem aV{α β:Type}{P:Program}{x:Sem α}{f:α->Sem β}{w w':World}{a:α}(h:x.run P w= .ok a w'):(x>>=f).run P w=(f a).run P w':=by
 show(x.bind f).run P w=_
 rw[iq,h];rfl
theorem Dp{P:Program}{t:TypeId}(h:jt P t=true)(w:World):(isAgg t).run P w= .ok false w/\(sizeOf t).run P w= .ok 1 w:=by
 unfold jt at h
 cases hu:P.underlying t with
 |none=>rw[hu]at h;simp at h
 |some d=>
  rw[hu]at h
  cases hi:P.info? t with
  |none=>rw[hi]at h;cases d<;>simp at h
  |some i=>
   rw[hi]at h
   constructor
   ·unfold isAgg
    rw[aV (dE hu w)]
    cases d<;>first|rfl|simp at h
   ·unfold sizeOf
    rw[aV (fA hi w)]
    have:i.size=1:=by cases d<;>simp at h<;>exact h
    rw[this];rfl
theorem sx{P:Program}{t:TypeId}{n:Nat}(h:tX P t=some n)(w:World):(isAgg t).run P w= .ok true w/\(sizeOf t).run P w= .ok n w:=by
 unfold tX at h
 cases hu:P.underlying t with
 |none=>rw[hu]at h;simp at h
 |some d=>
  rw[hu]at h
  cases hi:P.info? t with
  |none=>rw[hi]at h;cases d<;>simp at h
  |some i=>
   rw[hi]at h
   constructor
   ·unfold isAgg
    rw[aV (dE hu w)]
    cases d<;>first|rfl|simp at h
   ·unfold sizeOf
    rw[aV (fA hi w)]
    have:i.size=n:=by cases d<;>simp at h<;>exact h
    rw[this];rfl
theorem Dq{P:Program}{w:World}{a:Addr}{v:Value}(h:bF w.heap a=some v):(load a).run P w= .ok v w:=by
 have h':w.cell? a=some v:=h
 simp[load,Sem.run,h']
theorem run_loadCellsFrom{P:Program}{w:World}{a:Addr}:∀(n i:Nat)(vs:List Value)(acc:Array Value),vs.length=n->(∀j(hj:j<vs.length),bF w.heap (a.add (i+j))=some vs[j])->
 (loadCellsFrom a i n acc).run P w= .ok (acc++vs.toArray) w
 |0,i,vs,acc,hl,_=>by
  have:vs=[]:=pG hl
  subst this
  simp[loadCellsFrom,pure,Sem.run]
 |n+1,i,[],acc,hl,_=>by simp at hl
 |n+1,i,v::vs,acc,hl,hc=>by
  unfold loadCellsFrom
  have h0:=hc 0 (by simp)
  simp only[Nat.add_zero,List.getElem_cons_zero]at h0
  rw[aV (Dq h0)]
  rw[run_loadCellsFrom n (i+1) vs (acc.push v) (by simpa using hl) fun j hj=>by
   have:=hc (j+1) (by simpa using hj)
   simp only[List.getElem_cons_succ]at this
   rw[show i+1+j=i+(j+1) by omega]
   exact this]
  simp
theorem qL{P:Program}{t:TypeId}(ht:jt P t=true){w:World}{a:Addr}{v:Value}(h:bF w.heap a=some v):(Instr.loadAt t (.pointer (some a))).run P w= .ok v w:=by
 unfold Instr.loadAt
 rw[aV (show(Instr.sureAddr (.pointer (some a))).run P w= .ok a w from rfl)]
 unfold loadVar
 rw[aV (Dp ht w).1]
 exact Dq h
theorem qM{P:Program}{t:TypeId}{n:Nat}(ht:tX P t=some n){w:World}{a:Addr}{vs:List Value}(hl:vs.length=n)(h:∀j(hj:j<vs.length),bF w.heap (a.add j)=some vs[j]):(Instr.loadAt t (.pointer (some a))).run P w= .ok (.agg vs.toArray) w:=by
 unfold Instr.loadAt
 rw[aV (show(Instr.sureAddr (.pointer (some a))).run P w= .ok a w from rfl)]
 unfold loadVar
 rw[aV (sx ht w).1]
 simp only[jJ]
 rw[aV (sx ht w).2]
 have:(loadCells a n).run P w= .ok vs.toArray w:=by
  unfold loadCells
  rw[run_loadCellsFrom n 0 vs #[] hl fun j hj=>by rw[iO];exact h j hj]
  simp
 rw[aV this]
 rfl
theorem L4{P:Program}{t:TypeId}(ht:jt P t=true){h:Heap}{K:Value->Prop}{a:Addr}(v:Value)(hc:bF h a=some v)(H:K v):CI P (Instr.loadAt t (.pointer (some a))) h K:=
 ⟨v,fun w hw=>qL ht (by rw[hw];exact hc),H⟩
theorem L5{P:Program}{t:TypeId}{n:Nat}(ht:tX P t=some n){h:Heap}{K:Value->Prop}{a:Addr}(vs:List Value)(hl:vs.length=n)(hc:∀j(hj:j<vs.length),bF h (a.add j)=some vs[j])(H:K (.agg vs.toArray)):CI P (Instr.loadAt t (.pointer (some a))) h K:=
 ⟨_,fun w hw=>qM ht hl fun j hj=>by rw[hw];exact hc j hj,H⟩
theorem iW(b o j:Nat):(⟨b,o,none⟩:Addr).add j=⟨b,o+j,none⟩:=by unfold Addr.add;split<;>simp_all
theorem bV.cell{h:Heap}{b:Nat}{cs:List Value}(H:bV h b cs)(o:Nat):bF h ⟨b,o,none⟩=cs[o]?:=by
 obtain⟨T,hT⟩:=H
 simp[bF,hT]
theorem bV.frz{h:Heap}{b:Nat}{cs:List Value}(H:bV h b cs)(o:Nat):yF h ⟨b,o,none⟩=false:=by
 obtain⟨T,hT⟩:=H
 simp[yF,hT]
theorem L6{P:Program}{t:TypeId}(ht:jt P t=true){h:Heap}{K:Value->Prop}{L:List (Nat×List Value)}(hL:Vars h L)(i:Nat){b:Nat}{cs:List Value}(hi:qK L i=some (b,cs))(o:Nat){v:Value}(hv:cs[o]?=some v)(H:K v):
 CI P (Instr.loadAt t (VP b o)) h K:=L4 ht v (by rw[(hL.get i hi).cell];exact hv) H
def Kc:List Value->Nat->Nat->List Value
 |cs,0,n=>cs.take n
 |[],_,_=>[]
 |_::cs,o+1,n=>Kc cs o n
theorem pI:∀(cs:List Value)(o n:Nat),Kc cs o n=(cs.drop o).take n
 |cs,0,n=>by cases cs<;>rfl
 |[],o+1,n=>by simp[Kc]
 |c::cs,o+1,n=>by simp only[Kc,List.drop_succ_cons];exact pI cs o n
theorem Hs{P:Program}{t:TypeId}{n:Nat}(ht:tX P t=some n){h:Heap}{K:Value->Prop}{L:List (Nat×List Value)}(hL:Vars h L)(i:Nat){b:Nat}{cs:List Value}(hi:qK L i=some (b,cs))(o:Nat){vs:List Value}(hv:Kc cs o n=vs)(hn:vs.length=n)(H:K (.agg vs.toArray)):
 CI P (Instr.loadAt t (VP b o)) h K:=by
 refine L5 ht vs hn (fun j hj=> ?_) H
 rw[iW,(hL.get i hi).cell]
 rw[pI]at hv
 subst hv
 rw[List.getElem_take,List.getElem_drop]
 exact dY _
theorem NO{P:Program}{t:TypeId}{K:Value->Prop}(i:Nat){off:Nat}(hf:Ad P t i=some off)(b o:Nat)(H:K (VP b (o+off))):pop P (Instr.fieldAt t (VP b o) i) K:=by
 refine .mk' (fun w=> ?_) H
 unfold Ad at hf
 cases hu:P.underlying t with
 |none=>rw[hu]at hf;simp at hf
 |some d=>
  rw[hu]at hf
  cases d<;>simp at hf
  rename_i fs
  cases hx:fs[i]? with
  |none=>rw[hx]at hf;simp at hf
  |some f=>
   rw[hx]at hf
   simp only at hf
   cases hj:P.info? f.type with
   |none=>rw[hj]at hf;simp at hf
   |some j=>
    rw[hj]at hf
    simp only[Option.ite_none_left_eq_some,dC]at hf
    obtain⟨h0,rfl⟩:=hf
    unfold Instr.fieldAt
    rw[aV (dE hu w)]
    simp only[hx]
    rw[aV (show(Instr.sureAddr (VP b o)).run P w= .ok ⟨b,o,none⟩ w from rfl)]
    have:(fieldPlace ⟨b,o,none⟩ f).run P w= .ok ⟨b,o+f.offset,none⟩ w:=by
     unfold fieldPlace
     rw[aV (show(sizeOf f.type).run P w= .ok j.size w from by unfold sizeOf;rw[aV (fA hj w)];rfl)]
     rw[aF h0,iW]
     rfl
    rw[aV this]
    rfl
def qN(P:Program)(t:TypeId):Option Value:=(P.info? t).bind (·.zero)
theorem Dr(w:World)(o:Obj):dV w {w with heap:=w.heap.push o}:=⟨rfl,rfl,rfl⟩
theorem Ae{P:Program}(t:TypeId)(v:Value)(w:World):(newVar t v).run P w= .ok ⟨w.heap.size,0,none⟩ {w with heap:=w.heap.push (.cells v.cells t)}:=by
 simp[newVar,newRow,newObj,bind,Sem.bind,pure,Sem.run]
theorem UI{P:Program}(t:TypeId)(v:Value){cs:List Value}(hv:v.cells=cs.toArray){h:Heap}{K:aL}{L:List (Nat×List Value)}(hL:Vars h L)
 (H:∀(b:Nat)(h1:Heap),h.size<=b->Fr No h h1->Vars h1 ((b,cs)::L)->K (VP b 0) h1):lQ P (Instr.box t v) h K:=by
 refine⟨fun w hw=> ?_⟩
 refine⟨VP w.heap.size 0,{w with heap:=w.heap.push (.cells v.cells t)},?_,Dr w _,?_⟩
 ·unfold Instr.box
  rw[aV (Ae t v w)]
  rfl
 ·subst hw
  have:=H w.heap.size (w.heap.push (.cells cs.toArray t (0,0))) (aW _) (Fr.push _ _) (hL.push cs t)
  rw[<-hv]at this
  exact this
theorem NP{P:Program}(t:TypeId){z:Value}(hz:qN P t=some z){cs:List Value}(hv:z.cells=cs.toArray){h:Heap}{K:aL}{L:List (Nat×List Value)}(hL:Vars h L)
 (H:∀(b:Nat)(h1:Heap),h.size<=b->Fr No h h1->Vars h1 ((b,cs)::L)->K (VP b 0) h1):lQ P (Instr.alloc t true (.tuple #[])) h K:=by
 refine⟨fun w hw=> ?_⟩
 refine⟨VP w.heap.size 0,{w with heap:=w.heap.push (.cells z.cells t)},?_,Dr w _,?_⟩
 ·unfold Instr.alloc
  have:(zeroValue t).run P w= .ok z w:=by
   unfold qN at hz
   cases hi:P.info? t with
   |none=>rw[hi]at hz;simp at hz
   |some i=>
    rw[hi]at hz
    simp only[Option.bind_some]at hz
    unfold zeroValue
    rw[aV (fA hi w)]
    simp[hz,pure,Sem.run]
  rw[aV this]
  show((newVar t z)>>=_).run P w=_
  rw[aV (Ae t z w)]
  rfl
 ·subst hw
  have:=H w.heap.size (w.heap.push (.cells cs.toArray t (0,0))) (aW _) (Fr.push _ _) (hL.push cs t)
  rw[<-hv]at this
  exact this
theorem Kd{P:Program}{w:World}{a:Addr}{v u:Value}(hc:bF w.heap a=some u)(hf:yF w.heap a=false)(h1:v.cells= #[v])(h2:∀cs,v≠ .agg cs)(h3:∀cs,v≠ .tuple cs):(store a v).run P w= .ok () (w.setCell a v):=by
 have TP:w.cell? a=some u:=hc
 have hf':w.frozen? a=false:=hf
 unfold store
 cases v<;>first|exact absurd rfl (h2 _)|exact absurd rfl (h3 _)|simp[Sem.run,TP,hf']
def gW:Value->Bool
 | .agg _| .tuple _=>false
 |_=>true
theorem qO{v:Value}(h:gW v=true):v.cells= #[v]/\(∀cs,v≠ .agg cs)/\∀cs,v≠ .tuple cs:=by
 cases v<;>simp[gW]at h<;>simp[Value.cells]
theorem qP{P:Program}{a:Addr}:∀(vs:List Value)(i:Nat)(w:World),(∀v,v∈vs->gW v=true)->(∀j,j<vs.length->(bF w.heap (a.add (i+j))).isSome=true/\yF w.heap (a.add (i+j))=false)->
 ∃w',(storeCells a vs i).run P w= .ok () w'/\dV w w'/\w'.heap=(vs.zipIdx i).foldl (fun h p=>dR h (a.add p.2) p.1) w.heap
 |[],i,w,_,_=>⟨w,rfl,dV.refl w,rfl⟩
 |v::vs,i,w,hp,hc=>by
  obtain⟨h1,h2⟩:=hc 0 (by simp)
  rw[Nat.add_zero]at h1 h2
  obtain⟨u,hu⟩:=EK.1 h1
  obtain⟨p1,p2,p3⟩:=qO (hp v (by simp))
  have hs:=Kd (P:=P) hu h2 p1 p2 p3
  have keep:∀b,(bF w.heap b).isSome=true->(bF (w.setCell (a.add i) v).heap b).isSome=true:=by
   intro b hb
   rw[pH]
   unfold bF dR at*
   rw[za]
   by_cases hk:(a.add i).block=b.block
   ·simp only[hk,jJ]
    cases ho:w.heap[b.block]? with
    |none=>rw[ho]at hb;simp at hb
    |some o=>
     rw[ho]at hb
     cases o<;>simp at hb⊢
     rename_i c e f
     split at hb
     ·simp at hb
     ·rename_i PT
      simp only[PT]
      simp
      split
      ·simpa using hb
      ·simpa using hb
   ·simp only[hk,gB];exact hb
  have aeE:∀b,yF (w.setCell (a.add i) v).heap b=yF w.heap b:=by
   intro b
   rw[pH]
   unfold yF dR
   rw[za]
   by_cases hk:(a.add i).block=b.block
   ·simp only[hk,jJ]
    cases ho:w.heap[b.block]? with
    |none=>rfl
    |some o=>cases o<;>rfl
   ·simp only[hk,gB]
  obtain⟨w',r1,r2,r3⟩:=qP (P:=P) (a:=a) vs (i+1) (w.setCell (a.add i) v) (fun x hx=>hp x (by simp[hx])) (fun j hj=>by
   obtain⟨c1,c2⟩:=hc (j+1) (by simpa using hj)
   rw[show i+1+j=i+(j+1) by omega]
   exact⟨keep _ c1,by rw[aeE];exact c2⟩)
  refine⟨w',?_,dV.trans (b:=w.setCell (a.add i) v) ⟨rfl,rfl,rfl⟩ r2,?_⟩
  ·unfold storeCells
   rw[aV hs]
   exact r1
  ·rw[r3,pH];rfl
theorem qQ{P:Program}{t:TypeId}{n:Nat}{w:World}(ht:(sizeOf t).run P w= .ok n w){a:Addr}{v:Value}{vs:List Value}(hv:v.cells=vs.toArray)(hn:vs.length=n)(hp:∀v,v∈vs->gW v=true)
 (hc:∀j,j<vs.length->(bF w.heap (a.add j)).isSome=true/\yF w.heap (a.add j)=false):
 ∃w',(Instr.storeAt t (.pointer (some a)) v).run P w= .ok () w'/\dV w w'/\w'.heap=vs.zipIdx.foldl (fun h p=>dR h (a.add p.2) p.1) w.heap:=by
 obtain⟨w',r1,r2,r3⟩:=qP (P:=P) (a:=a) vs 0 w hp (fun j hj=>by rw[iO];exact hc j hj)
 refine⟨w',?_,r2,r3⟩
 unfold Instr.storeAt
 rw[aV (show(Instr.sureAddr (.pointer (some a))).run P w= .ok a w from rfl)]
 unfold storeVar
 rw[aV ht]
 have tJ:v.cells.size=n:=by rw[hv];simpa using hn
 simp only[tJ,ne_eq,not_true,gB]
 rw[hv]
 exact r1
theorem bV.dR{h:Heap}{b:Nat}{cs:List Value}(H:bV h b cs)(o:Nat)(v:Value):bV (Mx.dR h ⟨b,o,none⟩ v) b (cs.set o v):=by
 obtain⟨T,hT⟩:=H
 refine⟨T,?_⟩
 simp only[Mx.dR,za,hT]
 simp
theorem Ds{b:Nat}:∀(vs:List Value)(i o:Nat)(h:Heap)(cs:List Value),bV h b cs->o+i+vs.length<=cs.length->
 Fr (fun k=>k=b) h ((vs.zipIdx i).foldl (fun h p=>Mx.dR h ((⟨b,o,none⟩:Addr).add p.2) p.1) h)/\
 bV ((vs.zipIdx i).foldl (fun h p=>Mx.dR h ((⟨b,o,none⟩:Addr).add p.2) p.1) h) b (cs.take (o+i)++vs++cs.drop (o+i+vs.length))
 |[],i,o,h,cs,H,_=>⟨Fr.refl _ _,by simpa using H⟩
 |v::vs,i,o,h,cs,H,hl=>by
  simp only[List.length_cons]at hl
  simp only[List.zipIdx_cons,List.foldl_cons]
  rw[iW]
  obtain⟨h1,h2⟩:=Ds vs (i+1) o (Mx.dR h ⟨b,o+i,none⟩ v) (cs.set (o+i) v) (H.dR _ _) (by simp;omega)
  refine⟨(Fr.set h ⟨b,o+i,none⟩ v).trans h1,?_⟩
  have e:(cs.set (o+i) v).take (o+(i+1))++vs++(cs.set (o+i) v).drop (o+(i+1)+vs.length)=cs.take (o+i)++(v::vs)++cs.drop (o+i+(v::vs).length):=by
   have e1:(cs.set (o+i) v).take (o+(i+1))=cs.take (o+i)++[v]:=by
    rw[show o+(i+1)=(o+i)+1 by omega,og (by simp;omega),List.take_set_of_le (aW _)]
    simp
   have e2:(cs.set (o+i) v).drop (o+(i+1)+vs.length)=cs.drop (o+i+(v::vs).length):=by
    rw[List.drop_set_of_lt (by omega)]
    congr 1
    simp;omega
   rw[e1,e2]
   simp
  rw[<-e]
  exact h2
theorem oK:∀(cs:List Value)(o:Nat)(vs:List Value),o+vs.length<=cs.length->kP cs o vs=cs.take o++vs++cs.drop (o+vs.length)
 |cs,o,[],_=>by cases cs<;>simp[kP]
 |[],o,v::vs,h=>by simp at h
 |c::cs,0,v::vs,h=>by
  simp only[kP]
  rw[oK cs 0 vs (by simpa using h)]
  simp
 |c::cs,o+1,v::vs,h=>by
  simp only[kP]
  rw[oK cs o (v::vs) (by simp at h⊢;omega)]
  simp only[List.length_cons,List.take_succ_cons,List.cons_append]
  rw[show o+1+(vs.length+1)=(o+(vs.length+1))+1 by omega,List.drop_succ_cons]
def nL(P:Program)(t:TypeId):Option Nat:=(P.info? t).map (·.size)
theorem mU{P:Program}{t:TypeId}{n:Nat}(h:nL P t=some n)(w:World):(sizeOf t).run P w= .ok n w:=by
 unfold nL at h
 cases hi:P.info? t with
 |none=>rw[hi]at h;simp at h
 |some i=>
  rw[hi]at h
  simp only[Option.map_some,dC]at h
  unfold sizeOf
  rw[aV (fA hi w),h]
  rfl
theorem UJ{P:Program}{t:TypeId}{n:Nat}(ht:nL P t=some n){h:Heap}{K:aL}{L:List (Nat×List Value)}(hL:Vars h L)(i:Nat){b:Nat}{cs:List Value}(hi:qK L i=some (b,cs))(o:Nat){v:Value}(vs:List Value)
 (hv:v.cells=vs.toArray) (hn:vs.length=n) (hp:vs.all gW=true) (ho:o+vs.length<=cs.length) {L':List (Nat×List Value)} (hL':EJ L i (kP cs o vs)=L')
 (H:∀h1:Heap,Fr (fun k=>k=b) h h1->Vars h1 L'->K undef h1):Hc P (Instr.storeAt t (VP b o) v) h K:=by
 refine⟨fun w hw=> ?_⟩
 have hV:=hL.get i hi
 subst hw
 obtain⟨w',r1,r2,r3⟩:=qQ (P:=P) (mU ht w) (a:=⟨b,o,none⟩) hv hn (fun v hm=>js.1 hp v hm) (fun j hj=>by
  rw[iW,hV.cell,hV.frz]
  refine⟨?_,rfl⟩
  rw[dY (show o+j<cs.length by omega)]
  rfl)
 obtain⟨f1,f2⟩:=Ds (b:=b) vs 0 o w.heap cs hV (by simpa using ho)
 rw[Nat.add_zero,<-oK cs o vs ho]at f2
 refine⟨w',r1,r2,?_⟩
 rw[r3]
 subst hL'
 exact H _ f1 (hL.set hi f1 f2)
def Sl.at(s:Sl)(i:Int)(sz:Nat):Addr:=(s.a.getD ⟨0,0,none⟩).add (i.toNat*sz)
structure fp(s:Sl)(i:Int):Prop where
 some:s.a.isSome=true
 lo:0<=i
 hi:i<(s.n:Int)
def pJ(h:Heap)(a:Addr)(vs:List Value):Prop:=∀j(hj:j<vs.length),bF h (a.add j)=Option.some vs[j]
structure eX(h:Heap)(a:Addr):Prop where
 cell:(bF h a).isSome=true
 free:yF h a=false
theorem NQ{P:Program}{t e:TypeId}{n:Nat}(ht:P.underlying t=some (.slice e))(he:nL P e=some n)(k:IntKind)(s:Sl)(i:Int)(hb:fp s i){K:Value->Prop}(H:K (.pointer (some (s.at i n)))):pop P (Instr.indexAt t s.v (.int k i)) K:=by
 refine .mk' (fun w=> ?_) H
 obtain⟨ad,had⟩:=EK.1 hb.some
 have hu:=dE ht w
 have hz:=mU he w
 unfold Instr.indexAt
 simp[had,Sl.v,go_sem,hu,hz,hb.lo,hb.hi,Sl.at]
theorem PU{P:Program}{t:TypeId}(ht:nL P t=some 1){h:Heap}{K:aL}{a:Addr}{v:Value}(hw:eX h a)(hp:gW v=true)(H:∀h1:Heap,h1=dR h a v->K undef h1):Hc P (Instr.storeAt t (.pointer (some a)) v) h K:=by
 refine⟨fun w hh=> ?_⟩
 subst hh
 obtain⟨p1,p2,p3⟩:=qO hp
 obtain⟨w',r1,r2,r3⟩:=qQ (P:=P) (mU ht w) (a:=a) (v:=v) (vs:=[v]) (by rw[p1]) rfl (fun x hx=>by simp at hx;rw[hx];exact hp) (fun j hj=>by
  obtain rfl:j=0:=by simpa using hj
  have:a.add 0=a:=by simp[Addr.add]
  rw[this]
  exact⟨hw.cell,hw.free⟩)
 refine⟨w',r1,r2,?_⟩
 have:a.add 0=a:=by simp[Addr.add]
 rw[r3]
 simp only[List.zipIdx_cons,List.zipIdx_nil,List.foldl_cons,List.foldl_nil,this]
 exact H _ rfl
def In(B:List Nat):aK:=fun k=>k∈B
theorem Fr.no'{T:aK}{u a c:Heap}(h:Fr T u a)(k:Fr No a c):Fr T u c:=h.trans k.aB
theorem Fr.new{T:aK}{u a c:Heap}{b:Nat}(h:Fr T u a)(hb:u.size<=b)(k:Fr (fun k=>k=b) a c):Fr T u c:=
 ⟨dD h.size k.size,fun i hi hT=>(k.same i (fQ hi h.size) (by omega)).trans (h.same i hi hT)⟩
theorem Fr.uU{B:List Nat}{u a c:Heap}{b:Nat}(h:Fr (In B) u a)(k:Fr (fun k=>k=b) a c):Fr (In (b::B)) u c:=
 ⟨dD h.size k.size,fun i hi hT=>(k.same i (fQ hi h.size) (fun e=>hT (by simp[In,e]))).trans (h.same i hi fun hm=>hT (by unfold In at*;simp[hm]))⟩
theorem NR{P:Program}{K:Value->Prop}{b:Bool}{x y:Value}(h1:b=true->K x)(h2:b=false->K y):pop P (LZ (.bool b) x y) K:=by
 cases hb:b
 ·exact NN _ _ (h2 hb)
 ·exact NM _ _ (h1 hb)
theorem Dt{P:Program}{t:TypeId}(ht:jt P t=true){h:Heap}{a:Addr}{v:Value}(hc:bF h a=some v):∀w:World,w.heap=h->(Instr.loadAt t (.pointer (some a))).run P w= .ok v w:=fun w hw=>qL ht (by rw[hw];exact hc)
theorem Du{P:Program}{t:TypeId}{n:Nat}(ht:tX P t=some n){h:Heap}{a:Addr}(vs:List Value)(hl:vs.length=n)(hc:pJ h a vs):∀w:World,w.heap=h->(Instr.loadAt t (.pointer (some a))).run P w= .ok (.agg vs.toArray) w:=fun w hw=>qM ht hl fun j hj=>by rw[hw];exact hc j hj
theorem NS{P:Program}{t:TypeId}(ht:jt P t=true){h:Heap}{L:List (Nat×List Value)}(hL:Vars h L)(i:Nat){b:Nat}{cs:List Value}(hi:qK L i=some (b,cs))(o:Nat){v:Value}(hv:cs[o]?=some v):∀w:World,w.heap=h->(Instr.loadAt t (VP b o)).run P w= .ok v w:=
 Dt ht (by rw[(hL.get i hi).cell];exact hv)
theorem Ke{P:Program}{t:TypeId}{n:Nat}(ht:tX P t=some n){h:Heap}{L:List (Nat×List Value)}(hL:Vars h L)(i:Nat){b:Nat}{cs:List Value}(hi:qK L i=some (b,cs))(o:Nat){vs:List Value}(hv:Kc cs o n=vs)(hn:vs.length=n):∀w:World,w.heap=h->(Instr.loadAt t (VP b o)).run P w= .ok (.agg vs.toArray) w:=by
 refine Du ht vs hn fun j hj=> ?_
 rw[iW,(hL.get i hi).cell]
 rw[pI]at hv
 subst hv
 rw[List.getElem_take,List.getElem_drop]
 exact dY _
theorem Kf{I0:List Value}{h:Heap}{B:(List Value->Heap->Prop)->(List Value->Heap->Nat)->Prop}(J:Nat->List Value->Heap->Prop)(n0:Nat)(h0:J n0 I0 h)
 (H:∀(I:List Value->Heap->Prop)(μ:List Value->Heap->Nat),(∀vs h',I vs h'->∃n,J n vs h'/\∀sA nB,(∃m,m<n/\J m sA nB)->I sA nB/\μ sA nB<μ vs h')->B I μ):∃I μ,I I0 h/\B I μ:=by
 have ex:∀vs h',(∃n,J n vs h')->∃n,J n vs h'/\∀m,J m vs h'->n<=m:=by
  rintro vs h' ⟨n,hn⟩
  induction n using Nat.strongRecOn with
  |_ n ih=>
   by_cases hm:∃m,m<n/\J m vs h'
   ·obtain⟨m,h1,h2⟩:=hm
    exact ih m h1 h2
   ·exact⟨n,hn,fun m hj=>Nat.le_of_not_lt fun wc=>hm ⟨m,wc,hj⟩⟩
 have fn:∃μ:List Value->Heap->Nat,∀vs h',(∃n,J n vs h')->J (μ vs h') vs h'/\∀m,J m vs h'->μ vs h'<=m:=by
  classical
  refine⟨fun vs h'=>if hx:∃n,J n vs h' then Classical.choose (ex vs h' hx)else 0,fun vs h' hx=> ?_⟩
  simp only[hx,dif_pos]
  exact zd (ex vs h' hx)
 obtain⟨μ,hμ⟩:=fn
 refine⟨fun vs h'=>∃n,J n vs h',μ,⟨n0,h0⟩,H _ _ fun vs h' hx=>⟨μ vs h',(hμ vs h' hx).1,fun sA nB hm=> ?_⟩⟩
 obtain⟨m,h1,h2⟩:=hm
 exact⟨⟨m,h2⟩,Nat.lt_of_le_of_lt ((hμ sA nB ⟨m,h2⟩).2 m h2) h1⟩
theorem Kg{P:Program}{t:TypeId}{K:Value->Prop}(i:Nat){off:Nat}(hf:Ad P t i=some off)(a:Addr)(H:K (.pointer (some (a.add off)))):pop P (Instr.fieldAt t (.pointer (some a)) i) K:=by
 refine .mk' (fun w=> ?_) H
 unfold Ad at hf
 cases hu:P.underlying t with
 |none=>rw[hu]at hf;simp at hf
 |some d=>
  rw[hu]at hf
  cases d<;>simp at hf
  rename_i fs
  cases hx:fs[i]? with
  |none=>rw[hx]at hf;simp at hf
  |some f=>
   rw[hx]at hf
   simp only at hf
   cases hj:P.info? f.type with
   |none=>rw[hj]at hf;simp at hf
   |some j=>
    rw[hj]at hf
    simp only[Option.ite_none_left_eq_some,dC]at hf
    obtain⟨h0,rfl⟩:=hf
    unfold Instr.fieldAt
    rw[aV (dE hu w)]
    simp only[hx]
    rw[aV (show(Instr.sureAddr (.pointer (some a))).run P w= .ok a w from rfl)]
    have:(fieldPlace a f).run P w= .ok (a.add f.offset) w:=by
     unfold fieldPlace
     rw[aV (show(sizeOf f.type).run P w= .ok j.size w from by unfold sizeOf;rw[aV (fA hj w)];rfl)]
     rw[aF h0]
     rfl
    rw[aV this]
    rfl
end Go.Mx
