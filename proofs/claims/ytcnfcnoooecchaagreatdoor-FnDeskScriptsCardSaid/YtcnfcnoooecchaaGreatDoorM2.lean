import Derived.Test.YtcnfcnoooecchaaGreatDoorM1
import Derived.Laws.Entries
set_option linter.unusedVariables false
set_option linter.unusedSimpArgs false
namespace Go.Mx
def bG(h:Heap)(a:Addr):Option Value:=
 match h[a.block]? with
 |some (.cells c _ _)=>if a.spot.isSome then none else c[a.off]?
 |_=>none
def y9(h:Heap)(a:Addr):Bool:=
 match h[a.block]? with
 |some (.cells _ _ (lo,hi))=>lo<=a.off&&a.off<hi
 |_=>false
def dS(h:Heap)(a:Addr)(v:Value):Heap:=
 h.modify a.block fun
  | .cells c elem frozen=> .cells (if a.spot.isSome then c else c.setIfInBounds a.off v) elem frozen
  |o=>o
theorem zx(w:World)(a:Addr):w.cell? a=bG w.heap a:=rfl
theorem N6(w:World)(a:Addr):w.frozen? a=y9 w.heap a:=rfl
theorem pK(w:World)(a:Addr)(v:Value):(w.setCell a v).heap=dS w.heap a v:=rfl
structure Fr(T:aK)(h h':Heap):Prop where
 size:h.size<=h'.size
 same:∀k,k<h.size->¬T k->h'[k]?=h[k]?
def No:aK:=fun _=>False
theorem Fr.refl(T:aK)(h:Heap):Fr T h h:=⟨aY _,fun _ _ _=>rfl⟩
theorem Fr.trans{T:aK}{a b c:Heap}(h:Fr T a b)(k:Fr T b c):Fr T a c:=
 ⟨cB h.size k.size,fun i hi hT=>(k.same i (fp hi h.size) hT).trans (h.same i hi hT)⟩
theorem Fr.mono{T T':aK}{a b:Heap}(h:Fr T a b)(hT:∀k,k<a.size->T k->T' k):Fr T' a b:=⟨h.size,fun i hi ht=>h.same i hi fun hk=>ht (hT i hi hk)⟩
theorem Fr.aC{T:aK}{a b:Heap}(h:Fr No a b):Fr T a b:=h.mono fun _ _ hk=>hk.elim
theorem Fr.push(h:Heap)(o:Obj):Fr No h (h.push o):=⟨by simp,fun k hk _=>by rw[Array.getElem?_push,aF (by omega)]⟩
theorem Kv(h:Heap)(a:Addr)(v:Value)(k:Nat)(hk:k≠a.block):(dS h a v)[k]?=h[k]?:=by
 simp only[dS,zy]
 rw[aF (by omega)]
theorem N7(h:Heap)(a:Addr)(v:Value):(dS h a v).size=h.size:=by simp[dS]
theorem Fr.set(h:Heap)(a:Addr)(v:Value):Fr (fun k=>k=a.block) h (dS h a v):=⟨by rw[N7];exact aY _,fun k _ hk=>Kv _ _ _ _ hk⟩
def cC(h:Heap)(b:Nat)(cs:List Value):Prop:=∃T,h[b]?=some (.cells cs.toArray T (0,0))
theorem cC.lt{h:Heap}{b:Nat}{cs:List Value}(H:cC h b cs):b<h.size:=by
 obtain⟨T,hT⟩:=H
 exact(AE.1 hT).1
theorem cC.fr{T:aK}{h h':Heap}{b:Nat}{cs:List Value}(H:cC h b cs)(hf:Fr T h h')(hT:¬T b):cC h' b cs:=by
 have hl:=H.lt
 obtain⟨t,ht⟩:=H
 exact⟨t,(hf.same b hl hT).trans ht⟩
inductive Vars(h:Heap):List (Nat×List Value)->Prop where
 |nil:Vars h []
 |cons {b:Nat} {cs:List Value} {L:List (Nat×List Value)}:cC h b cs->(∀p,p∈L->p.1≠b)->Vars h L->Vars h ((b,cs)::L)
def qT:List (Nat×List Value)->Nat->Option (Nat×List Value)
 |[],_=>none
 |p::_,0=>some p
 |_::L,n+1=>qT L n
def E2:List (Nat×List Value)->Nat->List Value->List (Nat×List Value)
 |[],_,_=>[]
 |(b,_)::L,0,cs=>(b,cs)::L
 |p::L,n+1,cs=>p::E2 L n cs
theorem Vars.mem{h:Heap}:∀{L:List (Nat×List Value)},Vars h L->∀p,p∈L->cC h p.1 p.2
 |_,.nil,p,hp=>by simp at hp
 |_,.cons hv _ hl,p,hp=>by
  rcases aO.1 hp with rfl|hp
  ·exact hv
  ·exact hl.mem p hp
theorem AF:∀{L:List (Nat×List Value)}{i:Nat}{p:Nat×List Value},qT L i=some p->p∈L
 |[],i,p,h=>by simp[qT]at h
 |q::L,0,p,h=>by simp only[qT,dD]at h;subst h;simp
 |q::L,i+1,p,h=>by simp only[qT]at h;exact cK _ (AF h)
theorem Vars.get{h:Heap}{L:List (Nat×List Value)}(H:Vars h L)(i:Nat){b:Nat}{cs:List Value}(hi:qT L i=some (b,cs)):cC h b cs:=H.mem _ (AF hi)
theorem Vars.fr{T:aK}{h h':Heap}:∀{L:List (Nat×List Value)},Vars h L->Fr T h h'->(∀p,p∈L->¬T p.1)->Vars h' L
 |_,.nil,_,_=> .nil
 |_,.cons (b:=b0) (cs:=c0) hv hn hl,hf,hT=> .cons (hv.fr hf (hT (b0,c0) (by simp))) hn (hl.fr hf fun p hp=>hT p (by simp[hp]))
theorem Vars.aC{h h':Heap}{L:List (Nat×List Value)}(H:Vars h L)(hf:Fr No h h'):Vars h' L:=H.fr hf fun _ _ h=>h
theorem Vars.tail{h:Heap}{p:Nat×List Value}{L:List (Nat×List Value)}(H:Vars h (p::L)):Vars h L:=by cases H;assumption
theorem Vars.head{h:Heap}{b:Nat}{cs:List Value}{L:List (Nat×List Value)}(H:Vars h ((b,cs)::L)):cC h b cs:=by cases H;assumption
theorem Vars.ne{h:Heap}{b:Nat}{cs:List Value}{L:List (Nat×List Value)}(H:Vars h ((b,cs)::L)):∀p,p∈L->p.1≠b:=by cases H;assumption
theorem Vars.push{h:Heap}{L:List (Nat×List Value)}(H:Vars h L)(cs:List Value)(T:TypeId):Vars (h.push (.cells cs.toArray T (0,0))) ((h.size,cs)::L):=by
 refine .cons ⟨T,by simp⟩ (fun p hp e=> ?_) (H.aC (Fr.push _ _))
 have:=(H.mem p hp).lt
 omega
def kL:List Value->Nat->List Value->List Value
 |cs,_,[]=>cs
 |[],_,_=>[]
 |_::cs,0,v::vs=>v::kL cs 0 vs
 |c::cs,n+1,vs=>c::kL cs n vs
theorem HQ:∀(L:List (Nat×List Value))(i:Nat)(cs:List Value),(E2 L i cs).map (·.1)=L.map (·.1)
 |[],_,_=>rfl
 |(b,_)::L,0,cs=>rfl
 |p::L,i+1,cs=>by simp[E2,HQ L i cs]
theorem Vars.set{h h':Heap}:∀{L:List (Nat×List Value)}{i:Nat}{b:Nat}{cs nB:List Value},Vars h L->qT L i=some (b,cs)->Fr (fun k=>k=b) h h'->cC h' b nB->Vars h' (E2 L i nB)
 |_,0,b,cs,nB,.cons (b:=b0) (L:=L) hv hn hl,hi,hf,X2=>by
  simp only[qT,dD,fL]at hi
  obtain⟨rfl,rfl⟩:=hi
  exact .cons X2 hn (hl.fr hf fun p hp e=>hn p hp e)
 |_,i+1,b,cs,nB,.cons (b:=b0) (cs:=c0) (L:=L) hv hn hl,hi,hf,X2=>by
  simp only[qT]at hi
  have hb:b≠b0:=hn _ (AF hi)
  refine .cons (hv.fr hf fun e=>hb e.symm) (fun p hp e=> ?_) (hl.set hi hf X2)
  have:p.1∈(E2 L i nB).map (·.1):=dN.2 ⟨p,hp,rfl⟩
  rw[HQ]at this
  obtain⟨q,hq,hqe⟩:=dN.1 this
  exact hn q hq (hqe.trans e)
 |_,i,b,cs,nB,.nil,hi,_,_=>by simp[qT]at hi
structure Sl where
 a:Option Addr
 n:Nat
 c:Nat
@[reducible] def Sl.v(s:Sl):Value:= .slice s.a s.n s.c
def aD:Sl:=⟨none,0,0⟩
@[reducible] def VI(n:Int):Value:= .int .i64 n
@[reducible] def VB(b:Bool):Value:= .bool b
@[reducible] def VS(s:ByteArray):Value:= .string s
@[reducible] def VP(b:Nat)(o:Nat):Value:= .pointer (some ⟨b,o,none⟩)
def aX(x:Int):Int:=IntKind.i64.wrap x
theorem aP(x:Int)(h: -9223372036854775808<=x)(h':x<9223372036854775808):aX x=x:=by
 simp only[aX,IntKind.wrap,IntKind.bits,IntKind.signed]
 simp
 omega
theorem pop.mk'{P:Program}{s:Sem Value}{K:Value->Prop}{v:Value}(hs:∀w,s.run P w= .ok v w)(H:K v):pop P s K:=⟨v,hs,H⟩
theorem pop.mono{P:Program}{s:Sem Value}{K K':Value->Prop}(H:pop P s K)(h:∀v,K v->K' v):pop P s K':=let⟨v,a,b⟩:=H.out;⟨v,a,h _ b⟩
theorem Da.mono{P:Program}{s:Sem Value}{h:Heap}{K K':Value->Prop}(H:Da P s h K)(hk:∀v,K v->K' v):Da P s h K':=let⟨v,a,b⟩:=H.out;⟨v,a,hk _ b⟩
theorem j5.mono{P:Program}{s:Sem Value}{h:Heap}{K K':aL}(H:j5 P s h K)(hk:∀v h,K v h->K' v h):j5 P s h K':=⟨fun w hw=>let⟨v,w',a,b,c⟩:=H.out w hw;⟨v,w',a,b,hk _ _ c⟩⟩
section
variable {P:Program} {t:TypeId} {K:Value->Prop}
theorem Ut(k:IntKind)(a b:Int)(H:K (.int k (k.wrap (a+b)))):pop P (jm .add t (.int k a) (.int k b)) K:=
 .mk' (fun w=>by simp[jm,eqGuard,binOp,Op.intArith,bind,Sem.bind,pure,Sem.run]) H
theorem Uu(k:IntKind)(a b:Int)(H:K (.int k (k.wrap (a-b)))):pop P (jm .sub t (.int k a) (.int k b)) K:=
 .mk' (fun w=>by simp[jm,eqGuard,binOp,Op.intArith,bind,Sem.bind,pure,Sem.run]) H
theorem Uv(k:IntKind)(a b:Int)(H:K (.int k (k.wrap (a*b)))):pop P (jm .mul t (.int k a) (.int k b)) K:=
 .mk' (fun w=>by simp[jm,eqGuard,binOp,Op.intArith,bind,Sem.bind,pure,Sem.run]) H
theorem Mm(k:IntKind)(a b:Int)(hb:b≠0)(H:K (.int k (k.wrap (a.tdiv b)))):pop P (jm .quo t (.int k a) (.int k b)) K:=
 .mk' (fun w=>by simp[jm,eqGuard,binOp,Op.intDiv,hb,bind,Sem.bind,pure,Sem.run]) H
theorem Mn(k:IntKind)(a b:Int)(hb:b≠0)(H:K (.int k (a.tmod b))):pop P (jm .rem t (.int k a) (.int k b)) K:=
 .mk' (fun w=>by simp[jm,eqGuard,binOp,Op.intDiv,hb,bind,Sem.bind,pure,Sem.run]) H
theorem Uw(k:IntKind)(a b:Int)(H:K (.bool (decide (a<b)))):pop P (jm .lss t (.int k a) (.int k b)) K:=
 .mk' (fun w=>by simp[jm,eqGuard,binOp,Op.intCmp,bind,Sem.bind,pure,Sem.run]) H
theorem Ux(k:IntKind)(a b:Int)(H:K (.bool (decide (a<=b)))):pop P (jm .leq t (.int k a) (.int k b)) K:=
 .mk' (fun w=>by simp[jm,eqGuard,binOp,Op.intCmp,bind,Sem.bind,pure,Sem.run]) H
theorem Uy(k:IntKind)(a b:Int)(H:K (.bool (decide (b<a)))):pop P (jm .gtr t (.int k a) (.int k b)) K:=
 .mk' (fun w=>by simp[jm,eqGuard,binOp,Op.intCmp,bind,Sem.bind,pure,Sem.run]) H
theorem Uz(k:IntKind)(a b:Int)(H:K (.bool (decide (b<=a)))):pop P (jm .geq t (.int k a) (.int k b)) K:=
 .mk' (fun w=>by simp[jm,eqGuard,binOp,Op.intCmp,bind,Sem.bind,pure,Sem.run]) H
theorem UA(k:IntKind)(x y:Operand)(a b:Int)(H:K (.bool (decide (a=b)))):pop P (od .eql t x y (.int k a) (.int k b)) K:=
 .mk' (fun w=>by
  have e:(a==b)=decide (a=b):=by rw[Bool.eq_iff_iff];simp
  have hk:¬(k≠k):=fun h=>h rfl
  simp only[od,eqGuard,binOp,Op.intCmp,bind,pure,<-e,aF hk]
  rfl) H
theorem UB(k:IntKind)(x y:Operand)(a b:Int)(H:K (.bool (!decide (a=b)))):pop P (od .neq t x y (.int k a) (.int k b)) K:=
 .mk' (fun w=>by
  have e:(a==b)=decide (a=b):=by rw[Bool.eq_iff_iff];simp
  have hk:¬(k≠k):=fun h=>h rfl
  simp only[od,eqGuard,binOp,Op.intCmp,bind,pure,<-e,aF hk]
  rfl) H
theorem run_equalIn_bool{w:World}(d:Nat)(ht:P.underlying t=some .bool)(a b:Bool):(Op.equalIn (d+1) t (.bool a) (.bool b)).run P w= .ok (a==b) w:=by
 unfold Op.equalIn
 have:(underlying t).run P w= .ok .bool w:=by
  simp[underlying,program,ht,bind,Sem.bind,pure,Sem.run]
 show Sem.run P (Sem.bind _ _) w=_
 rw[ie,this]
 rfl
theorem run_equal_bool{w:World}(ht:P.underlying t=some .bool)(a b:Bool):(Op.equal t (.bool a) (.bool b)).run P w= .ok (a==b) w:=run_equalIn_bool 9999 ht a b
theorem UC(ht:P.underlying t=some .bool)(x y:Operand)(a b:Bool)(H:K (.bool (a==b))):pop P (od .eql t x y (.bool a) (.bool b)) K:=
 .mk' (fun w=>by
  show Sem.run P (Sem.bind (Sem.pure ()) fun _=>Sem.bind (Op.equal t (.bool a) (.bool b)) _) w=_
  rw[ie]
  show Sem.run P (Sem.bind (Op.equal t (.bool a) (.bool b)) _) w=_
  rw[ie,run_equal_bool ht]
  rfl) H
theorem UD(ht:P.underlying t=some .bool)(x y:Operand)(a b:Bool)(H:K (.bool (!(a==b)))):pop P (od .neq t x y (.bool a) (.bool b)) K:=
 .mk' (fun w=>by
  show Sem.run P (Sem.bind (Sem.pure ()) fun _=>Sem.bind (Op.equal t (.bool a) (.bool b)) _) w=_
  rw[ie]
  show Sem.run P (Sem.bind (Op.equal t (.bool a) (.bool b)) _) w=_
  rw[ie,run_equal_bool ht]
  rfl) H
theorem UE(b:Bool)(H:K (.bool (!b))):pop P (Op.unary .not (.bool b)) K:= .mk' (fun w=>rfl) H
theorem UF(k:IntKind)(a:Int)(H:K (.int k (k.wrap (0-a)))):pop P (Op.unary .neg (.int k a)) K:= .mk' (fun w=>rfl) H
theorem N8(x y:Value)(H:K x):pop P (Mk (.bool true) x y) K:= .mk' (fun w=>rfl) H
theorem Oa(x y:Value)(H:K y):pop P (Mk (.bool false) x y) K:= .mk' (fun w=>rfl) H
theorem UG{vs:Array Value}{i:Nat}{v:Value}(hi:vs[i]?=some v)(H:K v):pop P (Instr.extract (.tuple vs) i) K:=
 .mk' (fun w=>by simp[Instr.extract,hi,pure,Sem.run]) H
theorem UH(s:Sl)(ty e:TypeId)(ht:P.underlying t=some (.slice e))(H:K (.int .i64 s.n)):pop P (De t ty s.v) K:=
 .mk' (fun w=>by simp[De,Builtin.len_,underlying,program,ht,goInt,bind,Sem.bind,pure,Sem.run]) H
theorem P6(s:ByteArray)(ty:TypeId)(ht:P.underlying t=some .string)(H:K (.int .i64 s.size)):pop P (De t ty (.string s)) K:=
 .mk' (fun w=>by simp[De,Builtin.len_,underlying,program,ht,goInt,bind,Sem.bind,pure,Sem.run]) H
theorem P7(a b:ByteArray)(h:a.size+b.size<=9223372036854775807)(H:K (.string (a++b))):pop P (jm .add t (.string a) (.string b)) K:=
 .mk' (fun w=>by
  have:¬IntKind.i64.max<((a.size:Int)+(b.size:Int)):=by simp[IntKind.max,IntKind.signed,IntKind.bits];omega
  have h2:(a.size:Int)+(b.size:Int)<=9223372036854775807:=by omega
  simp[jm,eqGuard,binOp,Op.stringOp,this,h2,bind,Sem.bind,pure,Sem.run]) H
theorem UI(x y:Operand)(a b:ByteArray)(H:K (.bool (a.toList==b.toList))):pop P (od .eql t x y (.string a) (.string b)) K:=
 .mk' (fun w=>rfl) H
theorem UJ(x y:Operand)(a b:ByteArray)(H:K (.bool (!(a.toList==b.toList)))):pop P (od .neq t x y (.string a) (.string b)) K:=
 .mk' (fun w=>rfl) H
theorem P8(fn:Fn)(first captured:Array Value)(H:K (.func fn first captured)):pop P (Instr.makeFunc fn first captured) K:= .mk' (fun w=>rfl) H
theorem zz(a:Addr)(H:K (.pointer (some a))):pop P (PY (.pointer (some a))) K:= .mk' (fun w=>rfl) H
end
theorem UK{b:Bool}{A B:Prop}(h1:b=true->A)(h2:b=false->B):PR (.bool b) A B:=⟨b,rfl,h1,h2⟩
def jv(P:Program)(t:TypeId):Bool:=
 match P.underlying t,P.info? t with
 |some (.struct _),_|some (.array _ _),_|none,_|_,none=>false
 |_,some i=>i.size==1
def uw(P:Program)(t:TypeId):Option Nat:=
 match P.underlying t,P.info? t with
 |some (.struct _),some i|some (.array _ _),some i=>some i.size
 |_,_=>none
def AG(P:Program)(t:TypeId)(i:Nat):Option Nat:=
 match P.underlying t with
 |some (.struct fs)=>match fs[i]? with
  |some f=>match P.info? f.type with
   |some j=>if j.size=0 then none else some f.offset
   |none=>none
  |none=>none
 |_=>none
theorem dF{P:Program}{t:TypeId}{d:TypeDesc}(h:P.underlying t=some d)(w:World):(underlying t).run P w= .ok d w:=by
 simp[underlying,program,h,bind,Sem.bind,pure,Sem.run]
theorem fA{P:Program}{t:TypeId}{i:TypeInfo}(h:P.info? t=some i)(w:World):(typeInfo t).run P w= .ok i w:=by
 simp[typeInfo,program,h,bind,Sem.bind,pure,Sem.run]
theorem aV{α β:Type}{P:Program}{x:Sem α}{f:α->Sem β}{w w':World}{a:α}(h:x.run P w= .ok a w'):(x>>=f).run P w=(f a).run P w':=by
 show(x.bind f).run P w=_
 rw[ie,h];rfl
theorem DG{P:Program}{t:TypeId}(h:jv P t=true)(w:World):(isAgg t).run P w= .ok false w/\(sizeOf t).run P w= .ok 1 w:=by
 unfold jv at h
 cases hu:P.underlying t with
 |none=>rw[hu]at h;simp at h
 |some d=>
  rw[hu]at h
  cases hi:P.info? t with
  |none=>rw[hi]at h;cases d<;>simp at h
  |some i=>
   rw[hi]at h
   constructor
   ·unfold isAgg
    rw[aV (dF hu w)]
    cases d<;>first|rfl|simp at h
   ·unfold sizeOf
    rw[aV (fA hi w)]
    have:i.size=1:=by cases d<;>simp at h<;>exact h
    rw[this];rfl
theorem sO{P:Program}{t:TypeId}{n:Nat}(h:uw P t=some n)(w:World):(isAgg t).run P w= .ok true w/\(sizeOf t).run P w= .ok n w:=by
 unfold uw at h
 cases hu:P.underlying t with
 |none=>rw[hu]at h;simp at h
 |some d=>
  rw[hu]at h
  cases hi:P.info? t with
  |none=>rw[hi]at h;cases d<;>simp at h
  |some i=>
   rw[hi]at h
   constructor
   ·unfold isAgg
    rw[aV (dF hu w)]
    cases d<;>first|rfl|simp at h
   ·unfold sizeOf
    rw[aV (fA hi w)]
    have:i.size=n:=by cases d<;>simp at h<;>exact h
    rw[this];rfl
theorem DH{P:Program}{w:World}{a:Addr}{v:Value}(h:bG w.heap a=some v):(load a).run P w= .ok v w:=by
 have h':w.cell? a=some v:=h
 simp[load,Sem.run,h']
theorem run_loadCellsFrom{P:Program}{w:World}{a:Addr}:∀(n i:Nat)(vs:List Value)(acc:Array Value),vs.length=n->(∀j(hj:j<vs.length),bG w.heap (a.add (i+j))=some vs[j])->
 (loadCellsFrom a i n acc).run P w= .ok (acc++vs.toArray) w
 |0,i,vs,acc,hl,_=>by
  have:vs=[]:=pJ hl
  subst this
  simp[loadCellsFrom,pure,Sem.run]
 |n+1,i,[],acc,hl,_=>by simp at hl
 |n+1,i,v::vs,acc,hl,hc=>by
  unfold loadCellsFrom
  have h0:=hc 0 (by simp)
  simp only[Nat.add_zero,List.getElem_cons_zero]at h0
  rw[aV (DH h0)]
  rw[run_loadCellsFrom n (i+1) vs (acc.push v) (by simpa using hl) fun j hj=>by
   have:=hc (j+1) (by simpa using hj)
   simp only[List.getElem_cons_succ]at this
   rw[show i+1+j=i+(j+1) by omega]
   exact this]
  simp
theorem qU{P:Program}{t:TypeId}(ht:jv P t=true){w:World}{a:Addr}{v:Value}(h:bG w.heap a=some v):(Instr.loadAt t (.pointer (some a))).run P w= .ok v w:=by
 unfold Instr.loadAt
 rw[aV (show(Instr.sureAddr (.pointer (some a))).run P w= .ok a w from rfl)]
 unfold loadVar
 rw[aV (DG ht w).1]
 exact DH h
theorem qV{P:Program}{t:TypeId}{n:Nat}(ht:uw P t=some n){w:World}{a:Addr}{vs:List Value}(hl:vs.length=n)(h:∀j(hj:j<vs.length),bG w.heap (a.add j)=some vs[j]):(Instr.loadAt t (.pointer (some a))).run P w= .ok (.agg vs.toArray) w:=by
 unfold Instr.loadAt
 rw[aV (show(Instr.sureAddr (.pointer (some a))).run P w= .ok a w from rfl)]
 unfold loadVar
 rw[aV (sO ht w).1]
 simp only[jE]
 rw[aV (sO ht w).2]
 have:(loadCells a n).run P w= .ok vs.toArray w:=by
  unfold loadCells
  rw[run_loadCellsFrom n 0 vs #[] hl fun j hj=>by rw[iM];exact h j hj]
  simp
 rw[aV this]
 rfl
theorem Mo{P:Program}{t:TypeId}(ht:jv P t=true){h:Heap}{K:Value->Prop}{a:Addr}(v:Value)(hc:bG h a=some v)(H:K v):Da P (Instr.loadAt t (.pointer (some a))) h K:=
 ⟨v,fun w hw=>qU ht (by rw[hw];exact hc),H⟩
theorem Mp{P:Program}{t:TypeId}{n:Nat}(ht:uw P t=some n){h:Heap}{K:Value->Prop}{a:Addr}(vs:List Value)(hl:vs.length=n)(hc:∀j(hj:j<vs.length),bG h (a.add j)=some vs[j])(H:K (.agg vs.toArray)):Da P (Instr.loadAt t (.pointer (some a))) h K:=
 ⟨_,fun w hw=>qV ht hl fun j hj=>by rw[hw];exact hc j hj,H⟩
theorem iZ(b o j:Nat):(⟨b,o,none⟩:Addr).add j=⟨b,o+j,none⟩:=by unfold Addr.add;split<;>simp_all
theorem cC.cell{h:Heap}{b:Nat}{cs:List Value}(H:cC h b cs)(o:Nat):bG h ⟨b,o,none⟩=cs[o]?:=by
 obtain⟨T,hT⟩:=H
 simp[bG,hT]
theorem cC.frz{h:Heap}{b:Nat}{cs:List Value}(H:cC h b cs)(o:Nat):y9 h ⟨b,o,none⟩=false:=by
 obtain⟨T,hT⟩:=H
 simp[y9,hT]
theorem Mq{P:Program}{t:TypeId}(ht:jv P t=true){h:Heap}{K:Value->Prop}{L:List (Nat×List Value)}(hL:Vars h L)(i:Nat){b:Nat}{cs:List Value}(hi:qT L i=some (b,cs))(o:Nat){v:Value}(hv:cs[o]?=some v)(H:K v):
 Da P (Instr.loadAt t (VP b o)) h K:=Mo ht v (by rw[(hL.get i hi).cell];exact hv) H
def Kw:List Value->Nat->Nat->List Value
 |cs,0,n=>cs.take n
 |[],_,_=>[]
 |_::cs,o+1,n=>Kw cs o n
theorem pL:∀(cs:List Value)(o n:Nat),Kw cs o n=(cs.drop o).take n
 |cs,0,n=>by cases cs<;>rfl
 |[],o+1,n=>by simp[Kw]
 |c::cs,o+1,n=>by simp only[Kw,vj];exact pL cs o n
theorem HU{P:Program}{t:TypeId}{n:Nat}(ht:uw P t=some n){h:Heap}{K:Value->Prop}{L:List (Nat×List Value)}(hL:Vars h L)(i:Nat){b:Nat}{cs:List Value}(hi:qT L i=some (b,cs))(o:Nat){vs:List Value}(hv:Kw cs o n=vs)(hn:vs.length=n)(H:K (.agg vs.toArray)):
 Da P (Instr.loadAt t (VP b o)) h K:=by
 refine Mp ht vs hn (fun j hj=> ?_) H
 rw[iZ,(hL.get i hi).cell]
 rw[pL]at hv
 subst hv
 rw[List.getElem_take,List.getElem_drop]
 exact dT _
theorem Ob{P:Program}{t:TypeId}{K:Value->Prop}(i:Nat){off:Nat}(hf:AG P t i=some off)(b o:Nat)(H:K (VP b (o+off))):pop P (Instr.fieldAt t (VP b o) i) K:=by
 refine .mk' (fun w=> ?_) H
 unfold AG at hf
 cases hu:P.underlying t with
 |none=>rw[hu]at hf;simp at hf
 |some d=>
  rw[hu]at hf
  cases d<;>simp at hf
  rename_i fs
  cases hx:fs[i]? with
  |none=>rw[hx]at hf;simp at hf
  |some f=>
   rw[hx]at hf
   simp only at hf
   cases hj:P.info? f.type with
   |none=>rw[hj]at hf;simp at hf
   |some j=>
    rw[hj]at hf
    simp only[Option.ite_none_left_eq_some,dD]at hf
    obtain⟨h0,rfl⟩:=hf
    unfold Instr.fieldAt
    rw[aV (dF hu w)]
    simp only[hx]
    rw[aV (show(Instr.sureAddr (VP b o)).run P w= .ok ⟨b,o,none⟩ w from rfl)]
    have:(fieldPlace ⟨b,o,none⟩ f).run P w= .ok ⟨b,o+f.offset,none⟩ w:=by
     unfold fieldPlace
     rw[aV (show(sizeOf f.type).run P w= .ok j.size w from by unfold sizeOf;rw[aV (fA hj w)];rfl)]
     rw[aF h0,iZ]
     rfl
    rw[aV this]
    rfl
def qW(P:Program)(t:TypeId):Option Value:=(P.info? t).bind (·.zero)
theorem DI(w:World)(o:Obj):dV w {w with heap:=w.heap.push o}:=⟨rfl,rfl,rfl⟩
theorem AH{P:Program}(t:TypeId)(v:Value)(w:World):(newVar t v).run P w= .ok ⟨w.heap.size,0,none⟩ {w with heap:=w.heap.push (.cells v.cells t)}:=by
 simp[newVar,newRow,newObj,bind,Sem.bind,pure,Sem.run]
theorem UL{P:Program}(t:TypeId)(v:Value){cs:List Value}(hv:v.cells=cs.toArray){h:Heap}{K:aL}{L:List (Nat×List Value)}(hL:Vars h L)
 (H:∀(b:Nat)(h1:Heap),h.size<=b->Fr No h h1->Vars h1 ((b,cs)::L)->K (VP b 0) h1):j5 P (Instr.box t v) h K:=by
 refine⟨fun w hw=> ?_⟩
 refine⟨VP w.heap.size 0,{w with heap:=w.heap.push (.cells v.cells t)},?_,DI w _,?_⟩
 ·unfold Instr.box
  rw[aV (AH t v w)]
  rfl
 ·subst hw
  have:=H w.heap.size (w.heap.push (.cells cs.toArray t (0,0))) (aY _) (Fr.push _ _) (hL.push cs t)
  rw[<-hv]at this
  exact this
theorem Oc{P:Program}(t:TypeId){z:Value}(hz:qW P t=some z){cs:List Value}(hv:z.cells=cs.toArray){h:Heap}{K:aL}{L:List (Nat×List Value)}(hL:Vars h L)
 (H:∀(b:Nat)(h1:Heap),h.size<=b->Fr No h h1->Vars h1 ((b,cs)::L)->K (VP b 0) h1):j5 P (Instr.alloc t true (.tuple #[])) h K:=by
 refine⟨fun w hw=> ?_⟩
 refine⟨VP w.heap.size 0,{w with heap:=w.heap.push (.cells z.cells t)},?_,DI w _,?_⟩
 ·unfold Instr.alloc
  have:(zeroValue t).run P w= .ok z w:=by
   unfold qW at hz
   cases hi:P.info? t with
   |none=>rw[hi]at hz;simp at hz
   |some i=>
    rw[hi]at hz
    simp only[Option.bind_some]at hz
    unfold zeroValue
    rw[aV (fA hi w)]
    simp[hz,pure,Sem.run]
  rw[aV this]
  show((newVar t z)>>=_).run P w=_
  rw[aV (AH t z w)]
  rfl
 ·subst hw
  have:=H w.heap.size (w.heap.push (.cells cs.toArray t (0,0))) (aY _) (Fr.push _ _) (hL.push cs t)
  rw[<-hv]at this
  exact this
theorem Kx{P:Program}{w:World}{a:Addr}{v u:Value}(hc:bG w.heap a=some u)(hf:y9 w.heap a=false)(h1:v.cells= #[v])(h2:∀cs,v≠ .agg cs)(h3:∀cs,v≠ .tuple cs):(store a v).run P w= .ok () (w.setCell a v):=by
 have TT:w.cell? a=some u:=hc
 have hf':w.frozen? a=false:=hf
 unfold store
 cases v<;>first|exact absurd rfl (h2 _)|exact absurd rfl (h3 _)|simp[Sem.run,TT,hf']
def gQ:Value->Bool
 | .agg _| .tuple _=>false
 |_=>true
theorem qX{v:Value}(h:gQ v=true):v.cells= #[v]/\(∀cs,v≠ .agg cs)/\∀cs,v≠ .tuple cs:=by
 cases v<;>simp[gQ]at h<;>simp[Value.cells]
theorem qY{P:Program}{a:Addr}:∀(vs:List Value)(i:Nat)(w:World),(∀v,v∈vs->gQ v=true)->(∀j,j<vs.length->(bG w.heap (a.add (i+j))).isSome=true/\y9 w.heap (a.add (i+j))=false)->
 ∃w',(storeCells a vs i).run P w= .ok () w'/\dV w w'/\w'.heap=(vs.zipIdx i).foldl (fun h p=>dS h (a.add p.2) p.1) w.heap
 |[],i,w,_,_=>⟨w,rfl,dV.refl w,rfl⟩
 |v::vs,i,w,hp,hc=>by
  obtain⟨h1,h2⟩:=hc 0 (by simp)
  rw[Nat.add_zero]at h1 h2
  obtain⟨u,hu⟩:=E3.1 h1
  obtain⟨p1,p2,p3⟩:=qX (hp v (by simp))
  have hs:=Kx (P:=P) hu h2 p1 p2 p3
  have keep:∀b,(bG w.heap b).isSome=true->(bG (w.setCell (a.add i) v).heap b).isSome=true:=by
   intro b hb
   rw[pK]
   unfold bG dS at*
   rw[zy]
   by_cases hk:(a.add i).block=b.block
   ·simp only[hk,jE]
    cases ho:w.heap[b.block]? with
    |none=>rw[ho]at hb;simp at hb
    |some o=>
     rw[ho]at hb
     cases o<;>simp at hb⊢
     rename_i c e f
     split at hb
     ·simp at hb
     ·rename_i P9
      simp only[P9]
      simp
      split
      ·simpa using hb
      ·simpa using hb
   ·simp only[hk,gz];exact hb
  have aeD:∀b,y9 (w.setCell (a.add i) v).heap b=y9 w.heap b:=by
   intro b
   rw[pK]
   unfold y9 dS
   rw[zy]
   by_cases hk:(a.add i).block=b.block
   ·simp only[hk,jE]
    cases ho:w.heap[b.block]? with
    |none=>rfl
    |some o=>cases o<;>rfl
   ·simp only[hk,gz]
  obtain⟨w',r1,r2,r3⟩:=qY (P:=P) (a:=a) vs (i+1) (w.setCell (a.add i) v) (fun x hx=>hp x (by simp[hx])) (fun j hj=>by
   obtain⟨c1,c2⟩:=hc (j+1) (by simpa using hj)
   rw[show i+1+j=i+(j+1) by omega]
   exact⟨keep _ c1,by rw[aeD];exact c2⟩)
  refine⟨w',?_,dV.trans (b:=w.setCell (a.add i) v) ⟨rfl,rfl,rfl⟩ r2,?_⟩
  ·unfold storeCells
   rw[aV hs]
   exact r1
  ·rw[r3,pK];rfl
theorem qZ{P:Program}{t:TypeId}{n:Nat}{w:World}(ht:(sizeOf t).run P w= .ok n w){a:Addr}{v:Value}{vs:List Value}(hv:v.cells=vs.toArray)(hn:vs.length=n)(hp:∀v,v∈vs->gQ v=true)
 (hc:∀j,j<vs.length->(bG w.heap (a.add j)).isSome=true/\y9 w.heap (a.add j)=false):
 ∃w',(Instr.storeAt t (.pointer (some a)) v).run P w= .ok () w'/\dV w w'/\w'.heap=vs.zipIdx.foldl (fun h p=>dS h (a.add p.2) p.1) w.heap:=by
 obtain⟨w',r1,r2,r3⟩:=qY (P:=P) (a:=a) vs 0 w hp (fun j hj=>by rw[iM];exact hc j hj)
 refine⟨w',?_,r2,r3⟩
 unfold Instr.storeAt
 rw[aV (show(Instr.sureAddr (.pointer (some a))).run P w= .ok a w from rfl)]
 unfold storeVar
 rw[aV ht]
 have tK:v.cells.size=n:=by rw[hv];simpa using hn
 simp only[tK,ne_eq,not_true,gz]
 rw[hv]
 exact r1
theorem cC.dS{h:Heap}{b:Nat}{cs:List Value}(H:cC h b cs)(o:Nat)(v:Value):cC (Mx.dS h ⟨b,o,none⟩ v) b (cs.set o v):=by
 obtain⟨T,hT⟩:=H
 refine⟨T,?_⟩
 simp only[Mx.dS,zy,hT]
 simp
theorem DJ{b:Nat}:∀(vs:List Value)(i o:Nat)(h:Heap)(cs:List Value),cC h b cs->o+i+vs.length<=cs.length->
 Fr (fun k=>k=b) h ((vs.zipIdx i).foldl (fun h p=>Mx.dS h ((⟨b,o,none⟩:Addr).add p.2) p.1) h)/\
 cC ((vs.zipIdx i).foldl (fun h p=>Mx.dS h ((⟨b,o,none⟩:Addr).add p.2) p.1) h) b (cs.take (o+i)++vs++cs.drop (o+i+vs.length))
 |[],i,o,h,cs,H,_=>⟨Fr.refl _ _,by simpa using H⟩
 |v::vs,i,o,h,cs,H,hl=>by
  simp only[List.length_cons]at hl
  simp only[List.zipIdx_cons,List.foldl_cons]
  rw[iZ]
  obtain⟨h1,h2⟩:=DJ vs (i+1) o (Mx.dS h ⟨b,o+i,none⟩ v) (cs.set (o+i) v) (H.dS _ _) (by simp;omega)
  refine⟨(Fr.set h ⟨b,o+i,none⟩ v).trans h1,?_⟩
  have e:(cs.set (o+i) v).take (o+(i+1))++vs++(cs.set (o+i) v).drop (o+(i+1)+vs.length)=cs.take (o+i)++(v::vs)++cs.drop (o+i+(v::vs).length):=by
   have e1:(cs.set (o+i) v).take (o+(i+1))=cs.take (o+i)++[v]:=by
    rw[show o+(i+1)=(o+i)+1 by omega,og (by simp;omega),List.take_set_of_le (aY _)]
    simp
   have e2:(cs.set (o+i) v).drop (o+(i+1)+vs.length)=cs.drop (o+i+(v::vs).length):=by
    rw[List.drop_set_of_lt (by omega)]
    congr 1
    simp;omega
   rw[e1,e2]
   simp
  rw[<-e]
  exact h2
theorem oJ:∀(cs:List Value)(o:Nat)(vs:List Value),o+vs.length<=cs.length->kL cs o vs=cs.take o++vs++cs.drop (o+vs.length)
 |cs,o,[],_=>by cases cs<;>simp[kL]
 |[],o,v::vs,h=>by simp at h
 |c::cs,0,v::vs,h=>by
  simp only[kL]
  rw[oJ cs 0 vs (by simpa using h)]
  simp
 |c::cs,o+1,v::vs,h=>by
  simp only[kL]
  rw[oJ cs o (v::vs) (by simp at h⊢;omega)]
  simp only[List.length_cons,List.take_succ_cons,List.cons_append]
  rw[show o+1+(vs.length+1)=(o+(vs.length+1))+1 by omega,vj]
def nN(P:Program)(t:TypeId):Option Nat:=(P.info? t).map (·.size)
theorem mU{P:Program}{t:TypeId}{n:Nat}(h:nN P t=some n)(w:World):(sizeOf t).run P w= .ok n w:=by
 unfold nN at h
 cases hi:P.info? t with
 |none=>rw[hi]at h;simp at h
 |some i=>
  rw[hi]at h
  simp only[Option.map_some,dD]at h
  unfold sizeOf
  rw[aV (fA hi w),h]
  rfl
theorem UM{P:Program}{t:TypeId}{n:Nat}(ht:nN P t=some n){h:Heap}{K:aL}{L:List (Nat×List Value)}(hL:Vars h L)(i:Nat){b:Nat}{cs:List Value}(hi:qT L i=some (b,cs))(o:Nat){v:Value}(vs:List Value)
 (hv:v.cells=vs.toArray) (hn:vs.length=n) (hp:vs.all gQ=true) (ho:o+vs.length<=cs.length) {L':List (Nat×List Value)} (hL':E2 L i (kL cs o vs)=L')
 (H:∀h1:Heap,Fr (fun k=>k=b) h h1->Vars h1 L'->K undef h1):Hz P (Instr.storeAt t (VP b o) v) h K:=by
 refine⟨fun w hw=> ?_⟩
 have hV:=hL.get i hi
 subst hw
 obtain⟨w',r1,r2,r3⟩:=qZ (P:=P) (mU ht w) (a:=⟨b,o,none⟩) hv hn (fun v hm=>j6.1 hp v hm) (fun j hj=>by
  rw[iZ,hV.cell,hV.frz]
  refine⟨?_,rfl⟩
  rw[dT (show o+j<cs.length by omega)]
  rfl)
 obtain⟨f1,f2⟩:=DJ (b:=b) vs 0 o w.heap cs hV (by simpa using ho)
 rw[Nat.add_zero,<-oJ cs o vs ho]at f2
 refine⟨w',r1,r2,?_⟩
 rw[r3]
 subst hL'
 exact H _ f1 (hL.set hi f1 f2)
def Sl.at(s:Sl)(i:Int)(sz:Nat):Addr:=(s.a.getD ⟨0,0,none⟩).add (i.toNat*sz)
structure fq(s:Sl)(i:Int):Prop where
 some:s.a.isSome=true
 lo:0<=i
 hi:i<(s.n:Int)
def pM(h:Heap)(a:Addr)(vs:List Value):Prop:=∀j(hj:j<vs.length),bG h (a.add j)=Option.some vs[j]
structure fC(h:Heap)(a:Addr):Prop where
 cell:(bG h a).isSome=true
 free:y9 h a=false
theorem Od{P:Program}{t e:TypeId}{n:Nat}(ht:P.underlying t=some (.slice e))(he:nN P e=some n)(k:IntKind)(s:Sl)(i:Int)(hb:fq s i){K:Value->Prop}(H:K (.pointer (some (s.at i n)))):pop P (Instr.indexAt t s.v (.int k i)) K:=by
 refine .mk' (fun w=> ?_) H
 obtain⟨ad,had⟩:=E3.1 hb.some
 have hu:=dF ht w
 have hz:=mU he w
 unfold Instr.indexAt
 simp[had,Sl.v,go_sem,hu,hz,hb.lo,hb.hi,Sl.at]
theorem Qa{P:Program}{t:TypeId}(ht:nN P t=some 1){h:Heap}{K:aL}{a:Addr}{v:Value}(hw:fC h a)(hp:gQ v=true)(H:∀h1:Heap,h1=dS h a v->K undef h1):Hz P (Instr.storeAt t (.pointer (some a)) v) h K:=by
 refine⟨fun w hh=> ?_⟩
 subst hh
 obtain⟨p1,p2,p3⟩:=qX hp
 obtain⟨w',r1,r2,r3⟩:=qZ (P:=P) (mU ht w) (a:=a) (v:=v) (vs:=[v]) (by rw[p1]) rfl (fun x hx=>by simp at hx;rw[hx];exact hp) (fun j hj=>by
  obtain rfl:j=0:=by simpa using hj
  have:a.add 0=a:=by simp[Addr.add]
  rw[this]
  exact⟨hw.cell,hw.free⟩)
 refine⟨w',r1,r2,?_⟩
 have:a.add 0=a:=by simp[Addr.add]
 rw[r3]
 simp only[List.zipIdx_cons,List.zipIdx_nil,List.foldl_cons,List.foldl_nil,this]
 exact H _ rfl
def In(B:List Nat):aK:=fun k=>k∈B
theorem Fr.no'{T:aK}{u a c:Heap}(h:Fr T u a)(k:Fr No a c):Fr T u c:=h.trans k.aC
theorem Fr.new{T:aK}{u a c:Heap}{b:Nat}(h:Fr T u a)(hb:u.size<=b)(k:Fr (fun k=>k=b) a c):Fr T u c:=
 ⟨cB h.size k.size,fun i hi hT=>(k.same i (fp hi h.size) (by omega)).trans (h.same i hi hT)⟩
theorem Fr.vk{B:List Nat}{u a c:Heap}{b:Nat}(h:Fr (In B) u a)(k:Fr (fun k=>k=b) a c):Fr (In (b::B)) u c:=
 ⟨cB h.size k.size,fun i hi hT=>(k.same i (fp hi h.size) (fun e=>hT (by simp[In,e]))).trans (h.same i hi fun hm=>hT (by unfold In at*;simp[hm]))⟩
theorem Oe{P:Program}{K:Value->Prop}{b:Bool}{x y:Value}(h1:b=true->K x)(h2:b=false->K y):pop P (Mk (.bool b) x y) K:=by
 cases hb:b
 ·exact Oa _ _ (h2 hb)
 ·exact N8 _ _ (h1 hb)
theorem DK{P:Program}{t:TypeId}(ht:jv P t=true){h:Heap}{a:Addr}{v:Value}(hc:bG h a=some v):∀w:World,w.heap=h->(Instr.loadAt t (.pointer (some a))).run P w= .ok v w:=fun w hw=>qU ht (by rw[hw];exact hc)
theorem DL{P:Program}{t:TypeId}{n:Nat}(ht:uw P t=some n){h:Heap}{a:Addr}(vs:List Value)(hl:vs.length=n)(hc:pM h a vs):∀w:World,w.heap=h->(Instr.loadAt t (.pointer (some a))).run P w= .ok (.agg vs.toArray) w:=fun w hw=>qV ht hl fun j hj=>by rw[hw];exact hc j hj
theorem Of{P:Program}{t:TypeId}(ht:jv P t=true){h:Heap}{L:List (Nat×List Value)}(hL:Vars h L)(i:Nat){b:Nat}{cs:List Value}(hi:qT L i=some (b,cs))(o:Nat){v:Value}(hv:cs[o]?=some v):∀w:World,w.heap=h->(Instr.loadAt t (VP b o)).run P w= .ok v w:=
 DK ht (by rw[(hL.get i hi).cell];exact hv)
theorem Ky{P:Program}{t:TypeId}{n:Nat}(ht:uw P t=some n){h:Heap}{L:List (Nat×List Value)}(hL:Vars h L)(i:Nat){b:Nat}{cs:List Value}(hi:qT L i=some (b,cs))(o:Nat){vs:List Value}(hv:Kw cs o n=vs)(hn:vs.length=n):∀w:World,w.heap=h->(Instr.loadAt t (VP b o)).run P w= .ok (.agg vs.toArray) w:=by
 refine DL ht vs hn fun j hj=> ?_
 rw[iZ,(hL.get i hi).cell]
 rw[pL]at hv
 subst hv
 rw[List.getElem_take,List.getElem_drop]
 exact dT _
theorem Kz{I0:List Value}{h:Heap}{B:(List Value->Heap->Prop)->(List Value->Heap->Nat)->Prop}(J:Nat->List Value->Heap->Prop)(n0:Nat)(h0:J n0 I0 h)
 (H:∀(I:List Value->Heap->Prop)(μ:List Value->Heap->Nat),(∀vs h',I vs h'->∃n,J n vs h'/\∀sP nD,(∃m,m<n/\J m sP nD)->I sP nD/\μ sP nD<μ vs h')->B I μ):∃I μ,I I0 h/\B I μ:=by
 have ex:∀vs h',(∃n,J n vs h')->∃n,J n vs h'/\∀m,J m vs h'->n<=m:=by
  rintro vs h' ⟨n,hn⟩
  induction n using Nat.strongRecOn with
  |_ n ih=>
   by_cases hm:∃m,m<n/\J m vs h'
   ·obtain⟨m,h1,h2⟩:=hm
    exact ih m h1 h2
   ·exact⟨n,hn,fun m hj=>Nat.le_of_not_lt fun wF=>hm ⟨m,wF,hj⟩⟩
 have fn:∃μ:List Value->Heap->Nat,∀vs h',(∃n,J n vs h')->J (μ vs h') vs h'/\∀m,J m vs h'->μ vs h'<=m:=by
  classical
  refine⟨fun vs h'=>if hx:∃n,J n vs h' then Classical.choose (ex vs h' hx)else 0,fun vs h' hx=> ?_⟩
  simp only[hx,dif_pos]
  exact zA (ex vs h' hx)
 obtain⟨μ,hμ⟩:=fn
 refine⟨fun vs h'=>∃n,J n vs h',μ,⟨n0,h0⟩,H _ _ fun vs h' hx=>⟨μ vs h',(hμ vs h' hx).1,fun sP nD hm=> ?_⟩⟩
 obtain⟨m,h1,h2⟩:=hm
 exact⟨⟨m,h2⟩,Nat.lt_of_le_of_lt ((hμ sP nD ⟨m,h2⟩).2 m h2) h1⟩
theorem KA{P:Program}{t:TypeId}{K:Value->Prop}(i:Nat){off:Nat}(hf:AG P t i=some off)(a:Addr)(H:K (.pointer (some (a.add off)))):pop P (Instr.fieldAt t (.pointer (some a)) i) K:=by
 refine .mk' (fun w=> ?_) H
 unfold AG at hf
 cases hu:P.underlying t with
 |none=>rw[hu]at hf;simp at hf
 |some d=>
  rw[hu]at hf
  cases d<;>simp at hf
  rename_i fs
  cases hx:fs[i]? with
  |none=>rw[hx]at hf;simp at hf
  |some f=>
   rw[hx]at hf
   simp only at hf
   cases hj:P.info? f.type with
   |none=>rw[hj]at hf;simp at hf
   |some j=>
    rw[hj]at hf
    simp only[Option.ite_none_left_eq_some,dD]at hf
    obtain⟨h0,rfl⟩:=hf
    unfold Instr.fieldAt
    rw[aV (dF hu w)]
    simp only[hx]
    rw[aV (show(Instr.sureAddr (.pointer (some a))).run P w= .ok a w from rfl)]
    have:(fieldPlace a f).run P w= .ok (a.add f.offset) w:=by
     unfold fieldPlace
     rw[aV (show(sizeOf f.type).run P w= .ok j.size w from by unfold sizeOf;rw[aV (fA hj w)];rfl)]
     rw[aF h0]
     rfl
    rw[aV this]
    rfl
end Go.Mx
