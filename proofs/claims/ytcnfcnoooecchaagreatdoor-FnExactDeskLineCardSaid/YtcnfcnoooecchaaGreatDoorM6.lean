import Derived.Test.YtcnfcnoooecchaaGreatDoorM2
set_option linter.unusedVariables false
set_option linter.unusedSimpArgs false
set_option linter.constructorNameAsVariable false
namespace Go.Mx
inductive Cp where
 |p (id off:Nat)
 |v (x:Value)
inductive Lf where
 |i (k:IntKind) (x:Int)
 |b (x:Bool) (kn:Option (Bool×Bool))
 |s (x:ByteArray)
 |sl (x:Sl)
 |p (id off:Nat)
 |e (x:Sl) (i:Int) (sz:Nat) (off:Option Nat)
 |f (fn:Fn) (fs cs:List Cp)
 |r (v:Value)
 |q (a:Option Addr) (e:TypeId)
 |m (r:Option Nat)
 |u
inductive Av where
 |l (x:Lf)
 |a (xs:List Lf)
inductive Tv where
 |v (x:Av)
 |t (xs:List Av)
def eW:List Nat->Nat->Nat
 |[],_=>0
 |b::_,0=>b
 |_::ρ,n+1=>eW ρ n
def Cp.v'(ρ:List Nat):Cp->Value
 | .p id off=>VP (eW ρ id) off
 | .v x=>x
def EI(ρ:List Nat):List Cp->List Value
 |[]=>[]
 |c::cs=>c.v' ρ::EI ρ cs
def Lf.v(ρ:List Nat):Lf->Value
 | .i k x=> .int k x
 | .b x _=> .bool x
 | .s x=> .string x
 | .sl x=>x.v
 | .p id off=>VP (eW ρ id) off
 | .e x j sz none=> .pointer (some (x.at j sz))
 | .e x j sz (some o)=> .pointer (some ((x.at j sz).add o))
 | .f fn fs cs=> .func fn (EI ρ fs).toArray (EI ρ cs).toArray
 | .r v=>v
 | .q a _=> .pointer a
 | .m z=> .map z
 | .u=>undef
def dA(ρ:List Nat):List Lf->List Value
 |[]=>[]
 |x::xs=>x.v ρ::dA ρ xs
def Av.v(ρ:List Nat):Av->Value
 | .l x=>x.v ρ
 | .a xs=> .agg (dA ρ xs).toArray
def UP(ρ:List Nat):List Av->List Value
 |[]=>[]
 |x::xs=>x.v ρ::UP ρ xs
def Tv.val(ρ:List Nat):Tv->Value
 | .v x=>x.v ρ
 | .t xs=> .tuple (UP ρ xs).toArray
def kg(ρ:List Nat):List (Nat×List Lf)->List (Nat×List Value)
 |[]=>[]
 |(id,xs)::L=>(eW ρ id,dA ρ xs)::kg ρ L
def Nr(m:Nat):Cp->Bool
 | .p id _=>Nat.blt id m
 | .v _=>true
def nP(m:Nat):List Cp->Bool
 |[]=>true
 |c::cs=>Nr m c&&nP m cs
def Lf.ok(m:Nat):Lf->Bool
 | .p id _=>Nat.blt id m
 | .f _ fs cs=>nP m fs&&nP m cs
 |_=>true
def bT(m:Nat):List Lf->Bool
 |[]=>true
 |x::xs=>x.ok m&&bT m xs
def Av.ok(m:Nat):Av->Bool
 | .l x=>x.ok m
 | .a xs=>bT m xs
def nQ(m:Nat):List Av->Bool
 |[]=>true
 |x::xs=>x.ok m&&nQ m xs
def Tv.ok(m:Nat):Tv->Bool
 | .v x=>x.ok m
 | .t xs=>nQ m xs
def rG(m:Nat):List (Nat×List Lf)->Bool
 |[]=>true
 |(id,xs)::L=>Nat.blt id m&&bT m xs&&rG m L
def Lf.fact:Lf->Prop
 | .b x (some (v,_))=>x=v
 |_=>True
def cD:List Lf->Prop
 |[]=>True
 |x::xs=>x.fact/\cD xs
def Av.fact:Av->Prop
 | .l x=>x.fact
 | .a xs=>cD xs
def wh:List Av->Prop
 |[]=>True
 |x::xs=>x.fact/\wh xs
def Tv.fact:Tv->Prop
 | .v x=>x.fact
 | .t xs=>wh xs
def oK:List (Nat×List Lf)->Prop
 |[]=>True
 |(_,xs)::L=>cD xs/\oK L
inductive Sh where
 |i (k:IntKind)|b|s|sl|r|q (e:TypeId)|m|n
inductive As where
 |l (x:Sh)
 |a (xs:List Sh)
inductive Ts where
 |v (x:As)
 |t (xs:List As)
def exS:Sh->(Lf->Prop)->Prop
 | .i k,Q=>∃x:Int,Q (.i k x)
 | .b,Q=>∃x:Bool,Q (.b x none)
 | .s,Q=>∃x:ByteArray,Q (.s x)
 | .sl,Q=>∃x:Sl,Q (.sl x)
 | .r,Q=>∃x:Value,Q (.r x)
 | .q e,Q=>∃x:Option Addr,Q (.q x e)
 | .m,Q=>∃x:Option Nat,Q (.m x)
 | .n,Q=>∃b:Nat,Q (.q (some ⟨b,0,none⟩) 0)
def exL:List Sh->(List Lf->Prop)->Prop
 |[],Q=>Q []
 |s::ss,Q=>exS s fun x=>exL ss fun xs=>Q (x::xs)
def exA:As->(Av->Prop)->Prop
 | .l s,Q=>exS s fun x=>Q (.l x)
 | .a ss,Q=>exL ss fun xs=>Q (.a xs)
def VG:List As->(List Av->Prop)->Prop
 |[],Q=>Q []
 |s::ss,Q=>exA s fun x=>VG ss fun xs=>Q (x::xs)
def zQ:Ts->(Tv->Prop)->Prop
 | .v s,Q=>exA s fun x=>Q (.v x)
 | .t ss,Q=>VG ss fun xs=>Q (.t xs)
def xq(P:Program):Nat->TypeId->List Sh
 |0,_=>[]
 |n+1,t=>match P.underlying t with
  |some (.int k)=>[.i k]
  |some .bool=>[.b]
  |some .string=>[.s]
  |some (.slice _)=>[.sl]
  |some (.pointer e)=>[.q e]
  |some (.map _ _)=>[.m]
  |some (.struct fs)=>UQ (fs.toList.map fun f=>xq P n f.type)
  |some (.array k e)=>UR k (xq P n e)
  |_=>[.r]
where
 UQ:List (List Sh)->List Sh
  |[]=>[]
  |x::xs=>x++UQ xs
 UR:Nat->List Sh->List Sh
  |0,_=>[]
  |k+1,x=>x++UR k x
def RB(P:Program)(t:TypeId):As:=
 match P.underlying t with
 |some (.int k)=> .l (.i k)
 |some .bool=> .l .b
 |some .string=> .l .s
 |some (.slice _)=> .l .sl
 |some (.pointer e)=> .l (.q e)
 |some (.map _ _)=> .l .m
 |some (.struct _)=> .a (xq P 20 t)
 |some (.array _ _)=> .a (xq P 20 t)
 |_=> .l .r
def US(P:Program):List TypeId->List As
 |[]=>[]
 |t::ts=>RB P t::US P ts
def fJ(P:Program)(t:TypeId):Option Ts:=
 match P.underlying t with
 |some (.tuple ts)=>match ts.toList with
  |[]=>none
  |ts=>some (.t (US P ts))
 |_=>some (.v (RB P t))
structure St where
 E:List (Nat×Option Tv)
 L:List (Nat×List Lf)
 ρ:List Nat
 m:Nat
 nw:Nat
 so:List Nat
 md:List Nat
 d:Bool
 h:Heap
def qe:List (Nat×Option Tv)->Nat->Option Tv
 |[],_=>none
 |(d,x)::E,t=>match Nat.beq d t with
  |true=>x
  |false=>qe E t
def qB:Nat->List Nat->(List Nat->Prop)->Prop
 |0,ρ,k=>k ρ
 |n+1,ρ,k=>∀b:Nat,qB n (ρ++[b]) k
def VH(h:Heap):List Nat->Prop->Prop
 |[],Q=>Q
 |b::bs,Q=>h.size<=b->VH h bs Q
def RC:List Nat->List Nat->List Nat
 |[],ρ=>ρ
 |_::xs,_::ρ=>RC xs ρ
 |_::_,[]=>[]
def vq(ρ:List Nat):List Nat->List Nat
 |[]=>[]
 |i::is=>eW ρ i::vq ρ is
def sync(s:St)(k:St->Prop):Prop:=
 match s.d with
 |false=>k s
 |true=>qB s.nw s.ρ fun ρ=>∀h':Heap,VH s.h (RC s.ρ ρ) (Fr (In (vq ρ s.so)) s.h h'->Vars h' (kg ρ s.L)->k {s with ρ:=ρ,nw:=0,so:=[],d:=false,h:=h'})
def Ns:Value->Lf
 | .int k n=> .i k n
 | .bool b=> .b b (some (b,true))
 | .string x=> .s x
 | .slice a n c=> .sl ⟨a,n,c⟩
 | .pointer a=> .q a 0
 | .map r=> .m r
 |v=> .r v
def xt:List Value->List Lf
 |[]=>[]
 |v::vs=>Ns v::xt vs
def xu(E:List (Nat×Option Tv)):Operand->Option Tv
 | .tmp t=>qe E t
 | .const v=>some (.v (.l (Ns v)))
 | .global g=>some (.v (.l (.r (.pointer (some ⟨g,0,none⟩)))))
 | .func f=>some (.v (.l (.f (.func f) [] [])))
def Eh(ρ:List Nat)(E:List (Nat×Option Tv))(x:Operand):Value:=
 match xu E x with
 |some y=>y.val ρ
 |none=>undef
def HD(m:Nat)(E:List (Nat×Option Tv)):List Operand->Bool
 |[]=>true
 |x::xs=>(match xu E x with
  |some y=>y.ok m
  |none=>false)&&HD m E xs
def lf(E:List (Nat×Option Tv))(x:Operand):Option Lf:=
 match xu E x with
 |some (.v (.l y))=>some y
 |_=>none
def Nt:Operand->Bool
 | .const (.int _ (.ofNat (_+1)))=>true
 | .const (.int _ (.negSucc _))=>true
 |_=>false
def flag(E:List (Nat×Option Tv))(c:Operand)(v:Bool):List (Nat×Option Tv):=
 match c with
 | .tmp t=>match qe E t with
   |some (.v (.l (.b x _)))=>(t,some (.v (.l (.b x (some (v,false))))))::E
   |_=>E
 |_=>E
def wi:Lf->Bool
 | .r v=>fu v
 | .u=>false
 |_=>true
def rW:List Lf->Bool
 |[]=>true
 |x::xs=>wi x&&rW xs
def xv:Tv->Option (List Lf)
 | .v (.l x)=>match wi x with
   |true=>some [x]
   |false=>none
 | .v (.a xs)=>match rW xs with
   |true=>some xs
   |false=>none
 | .t _=>none
def xx:List Lf->Nat
 |[]=>0
 |_::xs=>xx xs+1
def lh:List Lf->Nat->Nat->Option (List Lf)
 |_,0,0=>some []
 |x::xs,0,n+1=>match lh xs 0 n with
  |some r=>some (x::r)
  |none=>none
 |_::xs,o+1,n=>lh xs o n
 |[],_,_=>none
def jC:List Lf->Nat->List Lf->Option (List Lf)
 |cs,0,[]=>some cs
 |_::cs,0,v::vs=>match jC cs 0 vs with
  |some r=>some (v::r)
  |none=>none
 |c::cs,n+1,vs=>match jC cs n vs with
  |some r=>some (c::r)
  |none=>none
 |[],_,_=>none
def cE:List (Nat×List Lf)->Nat->Option (List Lf)
 |[],_=>none
 |(i,xs)::L,id=>match Nat.beq i id with
  |true=>some xs
  |false=>cE L id
def vL:List (Nat×List Lf)->Nat->List Lf->List (Nat×List Lf)
 |[],_,_=>[]
 |(i,xs)::L,id,ys=>match Nat.beq i id with
  |true=>(i,ys)::L
  |false=>(i,xs)::vL L id ys
def wj:List Cp->List Nat
 |[]=>[]
 | .p id _::cs=>id::wj cs
 | .v _::cs=>wj cs
def Lf.reach:Lf->List Nat
 | .p id _=>[id]
 | .f _ fs cs=>wj cs++wj fs
 |_=>[]
def EJ:List Lf->List Nat
 |[]=>[]
 |x::xs=>x.reach++EJ xs
def Av.reach:Av->List Nat
 | .l x=>x.reach
 | .a xs=>EJ xs
def EK:List Av->List Nat
 |[]=>[]
 |x::xs=>x.reach++EK xs
def Tv.reach:Tv->List Nat
 | .v x=>x.reach
 | .t xs=>EK xs
def gA(E:List (Nat×Option Tv)):List Operand->List Nat
 |[]=>[]
 |x::xs=>(match xu E x with
  |some y=>y.reach
  |none=>[])++gA E xs
def ae9:Lf->Sh
 | .i k _=> .i k
 | .b _ _=> .b
 | .s _=> .s
 | .sl _=> .sl
 | .q _ e=> .q e
 | .m _=> .m
 |_=> .r
def oL:List Lf->List Sh
 |[]=>[]
 |x::xs=>ae9 x::oL xs
def pQ(ids:List Nat):List (Nat×List Lf)->(List (Nat×List Lf)->Prop)->Prop
 |[],Q=>Q []
 |(i,xs)::L,Q=>match eN ids i with
  |true=>exL (oL xs) fun ys=>pQ ids L fun L'=>Q ((i,ys)::L')
  |false=>pQ ids L fun L'=>Q ((i,xs)::L')
def Nu(s:St)(k:St->Tv->Prop)(x:Lf):Prop:=k s (.v (.l x))
def brB(x:Bool)(kn:Option (Bool×Bool))(s:St)(c:Operand)(yes no:St->Prop):Prop:=
 match kn with
 |some (true,_)=>yes s
 |some (false,_)=>no s
 |none=>(x=true->yes {s with E:=flag s.E c true})/\(x=false->no {s with E:=flag s.E c false})
def exR(P:Program)(ρ:List Nat)(rv:Value)(t:Option Ts)(k:Tv->Prop):Prop:=
 match t with
 |some t=>zQ t fun x=>rv=x.val ρ/\k x
 |none=>k (.v (.l (.r rv)))
def lT(P:Program)(s:St)(op:Op)(ty:TypeId)(rt:Option Ts)(k:St->Tv->Prop):Prop:=
 match gw op,kF op with
 |none,none=>match jG fo 0 op with
  |some _=>match HD (iC s.ρ) s.E op.operands.toList with
   |true=>match jG (Eh s.ρ s.E) ty op with
    |some q=>pop P q fun rv=>exR P s.ρ rv rt fun x=>k s x
    |none=>False
   |false=>False
  |none=>sync s fun s=>match HD (iC s.ρ) s.E op.operands.toList with
   |true=>match nY (Eh s.ρ s.E) op with
    |some q=>zS P q s.h fun rv=>exR P s.ρ rv rt fun x=>k s x
    |none=>match El (Eh s.ρ s.E) ty op with
     |some q=>kE P q s.h fun rv h'=>abK P s rv h' rt fun x=>k {s with h:=h'} x
     |none=>match Em (Eh s.ρ s.E) op with
      |some q=>Aq P q s.h fun rv h'=>Vars h' (kg s.ρ s.L)/\k {s with h:=h'} (.v (.l .u))
      |none=>False
   |false=>False
 |_,_=>False
where
 abK (P:Program) (s:St) (rv:Value) (h':Heap) (t:Option Ts) (k:Tv->Prop):Prop:=
  match t with
  |some t=>zQ t fun x=>rv=x.val s.ρ/\Vars h' (kg s.ρ s.L)/\k x
  |none=>Vars h' (kg s.ρ s.L)/\k (.v (.l (.r rv)))
def Nv(P:Program)(s:St)(f:Operand)(args:List Operand)(ty:TypeId)(k:St->Tv->Prop):Prop:=
 sync s fun s=>match HD (iC s.ρ) s.E (f::args)with
  |false=>False
  |true=>abL P (Eh s.ρ s.E f) f (mW (Eh s.ρ s.E) args) s.h fun rv h'=>
   pQ (gA s.E (args++[f])) s.L fun L'=>match fJ P ty with
    |some t=>zQ t fun x=>rv=x.val s.ρ/\Vars h' (kg s.ρ L')/\k {s with L:=L',md:=gA s.E (args++[f])++s.md,h:=h'} x
    |none=>Vars h' (kg s.ρ L')/\k {s with L:=L',md:=gA s.E (args++[f])++s.md,h:=h'} (.v (.l (.r rv)))
where
 abL (P:Program) (fv:Value) (f:Operand) (xs:List Value) (h:Heap) (K:Value->Heap->Prop):Prop:=
  match f with
  | .func n=>aE P n xs.toArray h K
  |_=>fD P fv xs h K
def VJ(P:Program)(s:St)(o:BinOp)(k:IntKind)(a b:Int)(VK:Bool)(K:Lf->Prop)(raw:Prop):Prop:=
 match o with
 | .add=>K (.i k (k.wrap (a+b)))
 | .sub=>K (.i k (k.wrap (a-b)))
 | .mul=>K (.i k (k.wrap (a*b)))
 | .quo=>match VK with
   |true=>K (.i k (k.wrap (a.tdiv b)))
   |false=>b≠0/\K (.i k (k.wrap (a.tdiv b)))
 | .rem=>match VK with
   |true=>K (.i k (a.tmod b))
   |false=>b≠0/\K (.i k (a.tmod b))
 | .lss=>K (.b (decide (a<b)) none)
 | .leq=>K (.b (decide (a<=b)) none)
 | .gtr=>K (.b (decide (b<a)) none)
 | .geq=>K (.b (decide (b<=a)) none)
 | .eql=>K (.b (decide (a=b)) none)
 | .neq=>K (.b (!decide (a=b)) none)
 |_=>raw
def VM(P:Program)(s:St)(o:BinOp)(t:TypeId)(y:Operand)(A B:Option Lf)(K:Lf->Prop)(raw:Prop):Prop:=
 match A,B with
 |some (.i k a),some (.i k' b)=>match decide (k=k')with
  |true=>VJ P s o k a b (Nt y) K raw
  |false=>raw
 |some (.b a _),some (.b b _)=>match P.underlying t with
  |some .bool=>match o with
   | .eql=>K (.b (a==b) none)
   | .neq=>K (.b (!(a==b)) none)
   |_=>raw
  |_=>raw
 |some (.s a),some (.s b)=>match o with
  | .add=>a.size+b.size<=9223372036854775807/\K (.s (a++b))
  | .eql=>K (.b (a.toList==b.toList) none)
  | .neq=>K (.b (!(a.toList==b.toList)) none)
  |_=>raw
 |_,_=>raw
def RD:Option (Bool×Bool)->Option (Bool×Bool)
 |some (v,true)=>some (!v,true)
 |_=>none
def VN(s:St)(cs:List Lf)(k:St->Tv->Prop):Prop:=
 k {s with L:=(s.m,cs)::s.L,m:=s.m+1,nw:=s.nw+1,d:=true} (.v (.l (.p s.m 0)))
def loadT(P:Program)(s:St)(t:TypeId)(x:Option Lf)(k:St->Tv->Prop)(raw:Prop):Prop:=
 match x with
 |some (.p id off)=>match cE s.L id with
  |some cs=>match gQ P t with
   |true=>match lh cs off 1 with
    |some [y]=>k s (.v (.l y))
    |_=>False
   |false=>match qN P t with
    |some n=>match lh cs off n with
     |some ys=>k s (.v (.a ys))
     |none=>False
    |none=>False
  |none=>False
 |some (.e x i sz off)=>sync s fun s=>match gQ P t with
  |true=>match RB P t with
   | .l sh=>exS sh fun y=>aQ s.h (QP x i sz off)=some (y.v s.ρ)/\k s (.v (.l y))
   | .a _=>False
  |false=>match qN P t,RB P t with
   |some n,.a ss=>exL ss fun ys=>match Nat.beq (xx ys) n with
    |true=>lz s.h (QP x i sz off) (dA s.ρ ys)/\k s (.v (.a ys))
    |false=>False
   |_,_=>False
 |_=>raw
where
 QP (x:Sl) (i:Int) (sz:Nat):Option Nat->Addr
  |none=>x.at i sz
  |some o=>(x.at i sz).add o
def storeT(P:Program)(s:St)(t:TypeId)(x:Option Lf)(w:Option Tv)(k:St->Tv->Prop)(raw:Prop):Prop:=
 match x with
 |some (.p id off)=>match cE s.L id,w with
  |some cs,some w=>match xv w,ly P t with
   |some vs,some n=>match Nat.beq (xx vs) n with
    |true=>match jC cs off vs with
     |some lS=>k {s with L:=vL s.L id lS,so:=(match Nat.blt id (iC s.ρ)with|true=>id::s.so|false=>s.so),md:=id::s.md,d:=true} (.v (.l .u))
     |none=>False
    |false=>False
   |_,_=>False
  |_,_=>False
 |some (.e x i sz off)=>match w with
  |some (.v (.l y))=>match wi y,ly P t with
   |true,some 1=>sync s fun s=>match y.ok (iC s.ρ)with
    |true=>(dI s.h (loadT.QP x i sz off)/\Vars (cK s.h (loadT.QP x i sz off) (y.v s.ρ)) (kg s.ρ s.L)/\
     ∀h2:Heap,h2=cK s.h (loadT.QP x i sz off) (y.v s.ρ)->Vars h2 (kg s.ρ s.L)->k {s with h:=h2} (.v (.l .u)))
    |false=>False
   |_,_=>raw
  |_=>raw
 |_=>raw
def JO(P:Program)(t:TypeId):Option (List Lf):=
 match oE P t with
 |some z=>some (xt z.cells.toList)
 |none=>none
def abM:Option Tv->Option Cp
 |some (.v (.l (.p id off)))=>some (.p id off)
 |some (.v (.l (.i k x)))=>some (.v (.int k x))
 |some (.v (.l (.b x _)))=>some (.v (.bool x))
 |some (.v (.l (.s x)))=>some (.v (.string x))
 |some (.v (.l (.sl x)))=>some (.v x.v)
 |some (.v (.l (.r x)))=>some (.v x)
 |some (.v (.l (.q x _)))=>some (.v (.pointer x))
 |some (.v (.l (.m x)))=>some (.v (.map x))
 |_=>none
def AO(E:List (Nat×Option Tv)):List Operand->Option (List Cp)
 |[]=>some []
 |x::xs=>match abM (xu E x),AO E xs with
  |some c,some cs=>some (c::cs)
  |_,_=>none
def Lq:List Av->Nat->Option Av
 |[],_=>none
 |x::_,0=>some x
 |_::xs,n+1=>Lq xs n
def EL(P:Program)(fs:Array Field)(E:List (Nat×Option Tv))(cs:List Lf):List (Nat×Operand)->Option (List Lf)
 |[]=>some cs
 |(i,x)::ps=>match fs[i]?,xu E x with
  |some f,some w=>match xv w,ly P f.type with
   |some vs,some n=>match Nat.beq (xx vs) n with
    |true=>match jC cs f.offset vs with
     |some lS=>EL P fs E lS ps
     |none=>none
    |false=>none
   |_,_=>none
  |_,_=>none
def rX(P:Program):List Field->Bool
 |[]=>true
 |f::fs=>(match ly P f.type with|some _=>true|none=>false)&&rX P fs
def EM(P:Program)(s:St)(x:Operand)(v:Option Addr)(e:TypeId)(k:St->Tv->Prop):Prop:=
 sync s fun s=>∃b:Nat,exL (xq P 20 e) fun ys=>v=some ⟨b,0,none⟩/\Vars s.h ((b,dA s.ρ ys)::kg s.ρ s.L)/\
  k {s with E:=VO s.E x s.m,L:=(s.m,ys)::s.L,ρ:=s.ρ++[b],m:=s.m+1} (.v (.l (.p s.m 0)))
where
 VO (E:List (Nat×Option Tv)) (x:Operand) (m:Nat):List (Nat×Option Tv):=
  match x with
  | .tmp t=>(t,some (.v (.l (.p m 0))))::E
  |_=>E
def EN(P:Program)(s:St)(op:Op)(ty:TypeId)(k:St->Tv->Prop):Prop:=
 match op with
 | .move x=>match xu s.E x with
   |some y=>k s y
   |none=>False
 | .assign x=>match xu s.E x with
   |some y=>k s y
   |none=>False
 | .call ⟨.value f,args,ats⟩=>Nv P s f args.toList ty k
 | .call ⟨.builtin .len,args,ats⟩=>match args.toList,ats.toList with
   |[x],[t]=>match lf s.E x,P.underlying t with
    |some (.sl x),some (.slice _)=>k s (.v (.l (.i .i64 (x.n:Int))))
    |some (.s x),some .string=>k s (.v (.l (.i .i64 (x.size:Int))))
    |_,_=>lT P s op ty (fJ P ty) k
   |_,_=>lT P s op ty (fJ P ty) k
 | .binOp o t x y _=>VM P s o t y (lf s.E x) (lf s.E y) (Nu s k) (lT P s op ty (match Nat.beq ty 0 with|true=>some (.v (.l .b))|false=>fJ P ty) k)
 | .unOp o _ x=>match o,lf s.E x with
   | .not,some (.b x kn)=>k s (.v (.l (.b (!x) (RD kn))))
   | .neg,some (.i kd x)=>k s (.v (.l (.i kd (kd.wrap (0-x)))))
   |_,_=>lT P s op ty (fJ P ty) k
 | .pick c a b=>match lf s.E c with
   |some (.b x kn)=>brB x kn s c (fun s'=>match xu s.E a with|some y=>k s' y|none=>False) (fun s'=>match xu s.E b with|some y=>k s' y|none=>False)
   |_=>lT P s op ty (fJ P ty) k
 | .nilCheck x=>match lf s.E x with
   |some (.p id off)=>k s (.v (.l (.p id off)))
   |some (.e x i sz off)=>k s (.v (.l (.e x i sz off)))
   |some (.q v e)=>EM P s x v e k
   |_=>lT P s op ty (fJ P ty) k
 | .makeFunc fn first cap=>match AO s.E first.toList,AO s.E cap.toList with
   |some fs,some cs=>k s (.v (.l (.f fn fs cs)))
   |_,_=>False
 | .fieldAddr t x i=>match lf s.E x,xg P t i with
   |some (.p id off),some o=>k s (.v (.l (.p id (off+o))))
   |some (.e x j sz none),some o=>k s (.v (.l (.e x j sz (some o))))
   |_,_=>lT P s op ty (fJ P ty) k
 | .indexAddr t x ix=>match lf s.E x,lf s.E ix,P.underlying t with
   |some (.sl x),some (.i _ j),some (.slice e)=>match ly P e with
    |some sz=>dW x j/\k s (.v (.l (.e x j sz none)))
    |none=>False
   |_,_,_=>lT P s op ty (fJ P ty) k
 | .extract t ix=>match xu s.E t with
   |some (.t xs)=>match Lq xs ix with
    |some y=>k s (.v y)
    |none=>False
   |_=>lT P s op ty (fJ P ty) k
 | .field t x i=>match xu s.E x,P.underlying t with
   |some (.v (.a xs)),some (.struct fs)=>match fs[i]? with
    |some f=>match gQ P f.type with
     |true=>match lh xs f.offset 1 with
      |some [y]=>k s (.v (.l y))
      |_=>False
     |false=>match qN P f.type with
      |some n=>match lh xs f.offset n with
       |some ys=>k s (.v (.a ys))
       |none=>False
      |none=>False
    |none=>False
   |_,_=>lT P s op ty (fJ P ty) k
 | .build t parts=>match P.underlying t,JO P t with
   |some (.struct fs),some zs=>match rX P fs.toList,EL P fs s.E zs parts.toList with
    |true,some cs=>k s (.v (.a cs))
    |_,_=>False
   |_,_=>lT P s op ty (fJ P ty) k
 | .load t x=>loadT P s t (lf s.E x) k (lT P s op ty (fJ P ty) k)
 | .store t x v=>storeT P s t (lf s.E x) (xu s.E v) k (lT P s op ty none k)
 | .box t v=>match xu s.E v with
   |some y=>match xv y with
    |some cs=>VN s cs k
    |none=>False
   |none=>False
 | .alloc t=>match JO P t with
   |some cs=>VN s cs k
   |none=>False
 | .buildSlice t _ _=>lT P s op ty (fJ P t) k
 | .makeSlice t _ _=>lT P s op ty (fJ P t) k
 | .convert _ dst _=>lT P s op ty (fJ P dst) k
 | .slice t _ _ _ _=>lT P s op ty (match Nat.beq ty 0 with|true=>fJ P t|false=>fJ P ty) k
 |_=>lT P s op ty (fJ P ty) k
def vM(n:Nat)(s:St)(dst:Option Tmp)(x:Tv):St:=
 match dst with
 |some d=>match Nat.blt d n with
  |true=>{s with E:=(d,some x)::s.E}
  |false=>s
 |none=>s
def EO(P:Program)(ops:List Oper)(s:St)(o:Oper)(k:St->Tv->Prop):Prop:=
 match o.guard with
 |none=>EN P s o.op o.type k
 |some (j,want)=>match wO ops j with
  |none=>k s (.v (.l .u))
  |some t=>match qe s.E t with
   |some (.v (.l (.b x kn)))=>brB x kn s (.tmp t)
    (fun s'=>match want with|true=>EN P s' o.op o.type k|false=>k s' (.v (.l .u)))
    (fun s'=>match want with|true=>k s' (.v (.l .u))|false=>EN P s' o.op o.type k)
   |some (.v (.l .u))=>k s (.v (.l .u))
   |_=>False
def tIn(P:Program)(n:Nat)(ops:List Oper):List Oper->St->(St->Prop)->Prop
 |[],s,K=>K s
 |o::os,s,K=>EO P ops s o fun s' x=>tIn P n ops os (vM n s' o.dst x) K
inductive Ht where
 |UT
 |bad
 |au (id off:Nat) (t:TypeId) (ys:List Lf)
 |ce (a:Addr) (v:Value)
 |cs (a:Addr) (vs:List Value)
 |se (q:Sem Value) (v:Value)
def rY(P:Program)(s:St)(op:Op)(x:Tv):Ht:=
 match op with
 | .load t a=>match lf s.E a with
   |some (.p id off)=>match cE s.L id with
    |some cs=>match gQ P t with
     |true=>match lh cs off 1 with
      |some [y]=> .au id off t [y]
      |_=> .bad
     |false=>match qN P t with
      |some n=>match lh cs off n with
       |some ys=> .au id off t ys
       |none=> .bad
      |none=> .bad
    |none=> .bad
   |some (.e y i sz off)=>match x.ok (iC s.ρ),x with
    |true,.v (.l z)=>match gQ P t with
     |true=> .ce (loadT.QP y i sz off) (z.v s.ρ)
     |false=> .bad
    |true,.v (.a zs)=>match qN P t with
     |some n=>match Nat.beq (xx zs) n with
      |true=> .cs (loadT.QP y i sz off) (dA s.ρ zs)
      |false=> .bad
     |none=> .bad
    |_,_=> .bad
   |_=>JP P s op x
 |_=>JP P s op x
where
 JP (P:Program) (s:St) (op:Op) (x:Tv):Ht:=
  match HD (iC s.ρ) s.E op.operands.toList,x.ok (iC s.ρ),nY (Eh s.ρ s.E) op with
  |true,true,some q=> .se q (x.val s.ρ)
  |_,_,_=> .bad
def HF(P:Program)(ops:List Oper)(s:St)(o:Oper)(x:Tv):Ht:=
 match o.guard with
 |none=>rY P s o.op x
 |some (j,want)=>match wO ops j with
  |none=> .UT
  |some t=>match qe s.E t with
   |some (.v (.l (.b _ (some (v,_)))))=>match v,want with
    |true,true=>rY P s o.op x
    |false,false=>rY P s o.op x
    |_,_=> .UT
   |some (.v (.l .u))=> .UT
   |_=> .bad
def AP(bf:List Nat):List (Nat×Ht)->List (Nat×Ht)
 |[]=>[]
 |(i,p)::S=>match eN bf i with
  |true=>AP bf S
  |false=>(i,p)::AP bf S
def AQ(P:Program)(h:Heap)(K:Prop):List (Nat×Ht)->Prop
 |[]=>K
 |(_,.ce a v)::S=>aQ h a=some v/\AQ P h K S
 |(_,.cs a vs)::S=>lz h a vs/\AQ P h K S
 |(_,.bad)::S=>False
 |(_,.se q v)::S=>(∀w:World,w.heap=h->q.run P w= .ok v w)/\AQ P h K S
 |(_,_)::S=>AQ P h K S
def rZ(a b:List Nat):List Nat:=takeN (iC b-iC a) b
where
 takeN:Nat->List Nat->List Nat
  |0,_=>[]
  |n+1,x::xs=>x::takeN n xs
  |_+1,[]=>[]
def oM(ids:List Nat):List (Nat×Ht)->Bool
 |[]=>true
 |(_,.au id _ _ _)::S=> ! eN ids id&&oM ids S
 |_::S=>oM ids S
def vt(P:Program)(n:Nat)(ops:List Oper)(K:St->Prop):Nat->List Bool->St->List (Nat×Ht)->Prop
 |0,l,s,_=>match bA ops 0 l with
  |[]=>K s
  |_::_=>False
 |m+1,l,s,S=>match cV (bA ops 0 l)with
  |some (i,o)=>EO P ops s o fun s' x=>match oM (rZ s.md s'.md) S with
   |true=>match vg o.op with
    |true=>vt P n ops K m (iB l i) (vM n s' o.dst x) S
    |false=>vt P n ops K m (iB l i) (vM n s' o.dst x) ((i,HF P ops s' o x)::S)
   |false=>False
  |none=>match bA ops 0 l with
   |[]=>K s
   |r::rs=>Hm (fun i o=>EO P ops s o fun s' x=>match AP (vh ops o) S with
    |[]=>vt P n ops K m (iB l i) (vM n s' o.dst x) []
    |e::S'=>match oM (rZ s.md s'.md) (e::S')with
     |true=>sync s' fun s'=>AQ P s'.h (vt P n ops K m (iB l i) (vM n s' o.dst x) (e::S')) (e::S')
     |false=>False) (r::rs)
def VR(P:Program)(n:Nat)(ops:List Oper)(draw:Bool)(s:St)(K:St->Prop):Prop:=
 match draw with
 |false=>tIn P n ops ops s K
 |true=>match fq ops ops 0 with
  |true=>vt P n ops K (len ops) (nc ops) s []
  |false=>False
structure It where
 t:Nat
 sh:As
structure An where
 oN:List It
 ch:List Nat
 nv:List (Nat×List Sh)
def lU:List (Nat×List Sh)->List Nat
 |[]=>[]
 |(t,_)::r=>t::lU r
def abO:List (Nat×List Sh)->List Sh
 |[]=>[]
 |(_,ss)::r=> .n::(ss++abO r)
def HG:Lf->Option Nat
 | .q (some ⟨b,0,none⟩) _=>some b
 |_=>none
def mq:List It->List Nat
 |[]=>[]
 |x::xs=>x.t::mq xs
def UU:As->List Sh
 | .l x=>[x]
 | .a xs=>xs
def qf:List It->List Sh
 |[]=>[]
 |x::r=>UU x.sh++qf r
def zZ(ch:List Nat):List (Nat×List Lf)->List Sh
 |[]=>[]
 |(i,xs)::L=>match eN ch i with
  |true=>oL xs++zZ ch L
  |false=>zZ ch L
def Ei:List Sh->Type
 |[]=>Heap->Prop
 | .i _::r=>Int->Ei r
 | .b::r=>Bool->Ei r
 | .s::r=>ByteArray->Ei r
 | .sl::r=>Sl->Ei r
 | .r::r=>Value->Ei r
 | .q _::r=>Option Addr->Ei r
 | .m::r=>Option Nat->Ei r
 | .n::r=>Nat->Ei r
def qQ(ρ:List Nat):(sig:List Sh)->Ei sig->List Lf->Heap->Prop
 |[],J,[],h=>J h
 | .i k::r,J,.i k' x::vs,h=>match decide (k=k')with
   |true=>qQ ρ r (J x) vs h
   |false=>False
 | .b::r,J,.b x _::vs,h=>qQ ρ r (J x) vs h
 | .s::r,J,.s x::vs,h=>qQ ρ r (J x) vs h
 | .sl::r,J,.sl x::vs,h=>qQ ρ r (J x) vs h
 | .r::r,J,x::vs,h=>qQ ρ r (J (x.v ρ)) vs h
 | .q _::r,J,.q x _::vs,h=>qQ ρ r (J x) vs h
 | .m::r,J,.m x::vs,h=>qQ ρ r (J x) vs h
 | .n::r,J,x::vs,h=>match HG x with
   |some b=>qQ ρ r (J b) vs h
   |none=>False
 |_,_,_,_=>False
def vN:(sig:List Sh)->Ei sig->(List Lf->(Heap->Prop)->Prop)->Prop
 |[],J,Q=>Q [] J
 | .i k::r,J,Q=>∀x:Int,vN r (J x) fun vs J'=>Q (.i k x::vs) J'
 | .b::r,J,Q=>∀x:Bool,vN r (J x) fun vs J'=>Q (.b x none::vs) J'
 | .s::r,J,Q=>∀x:ByteArray,vN r (J x) fun vs J'=>Q (.s x::vs) J'
 | .sl::r,J,Q=>∀x:Sl,vN r (J x) fun vs J'=>Q (.sl x::vs) J'
 | .r::r,J,Q=>∀x:Value,vN r (J x) fun vs J'=>Q (.r x::vs) J'
 | .q e::r,J,Q=>∀x:Option Addr,vN r (J x) fun vs J'=>Q (.q x e::vs) J'
 | .m::r,J,Q=>∀x:Option Nat,vN r (J x) fun vs J'=>Q (.m x::vs) J'
 | .n::r,J,Q=>∀b:Nat,vN r (J b) fun vs J'=>Q (.q (some ⟨b,0,none⟩) 0::vs) J'
def vu:List Sh->List Lf->(List Lf->List Lf->Prop)->Prop
 |[],vs,K=>K [] vs
 |_::ss,x::vs,K=>vu ss vs fun xs r=>K (x::xs) r
 |_::_,[],_=>False
def UW:As->List Lf->(Av->List Lf->Prop)->Prop
 | .l _,x::vs,K=>K (.l x) vs
 | .l _,[],_=>False
 | .a ss,vs,K=>vu ss vs fun xs r=>K (.a xs) r
def HH(n:Nat)(E:List (Nat×Option Tv))(t:Nat)(x:Option Tv):List (Nat×Option Tv):=
 match Nat.blt t n with
 |true=>(t,x)::E
 |false=>E
def EP(n:Nat):List Nat->List (Nat×Option Tv)->List (Nat×Option Tv)
 |[],E=>E
 |t::ts,E=>EP n ts (HH n E t none)
def VT(n:Nat):List It->List Lf->List (Nat×Option Tv)->(List Lf->List (Nat×Option Tv)->Prop)->Prop
 |[],vs,E,K=>K vs E
 |x::r,vs,E,K=>UW x.sh vs fun y pN=>VT n r pN (HH n E x.t (some (.v y))) K
def Nw(ch:List Nat):List (Nat×List Lf)->List Lf->(List (Nat×List Lf)->List Lf->Prop)->Prop
 |[],vs,K=>K [] vs
 |(i,xs)::L,vs,K=>match eN ch i with
  |true=>vu (oL xs) vs fun ys pN=>Nw ch L pN fun L' r=>K ((i,ys)::L') r
  |false=>Nw ch L vs fun L' r=>K ((i,xs)::L') r
def RE(n:Nat):List (Nat×List Sh)->List Lf->St->(St->Prop)->Prop
 |[],_,s,K=>K s
 |(t,ss)::r,x::vs,s,K=>match HG x with
  |some b=>vu ss vs fun ys pN=>RE n r pN {s with E:=HH n s.E t (some (.v (.l (.p s.m 0)))),L:=(s.m,ys)::s.L,ρ:=s.ρ++[b],m:=s.m+1} K
  |none=>False
 |_::_,[],_,_=>False
def bld(n:Nat)(a:An)(ws:List Nat)(vs:List Lf)(s:St)(K:St->Prop):Prop:=
 VT n a.oN vs (EP n ws s.E) fun pN E=>Nw a.ch s.L pN fun L VU=>RE n a.nv VU {s with E:=E,L:=L,md:=a.ch++s.md} K
def EQ(E:List (Nat×Option Tv)):List It->(List Lf->Prop)->Prop
 |[],K=>K []
 |x::r,K=>match qe E x.t,x.sh with
  |some (.v (.l y)),.l _=>EQ E r fun vs=>K (y::vs)
  |some (.v (.a ys)),.a ss=>match Nat.beq (xx ys) (zW ss)with
   |true=>EQ E r fun vs=>K (ys++vs)
   |false=>False
  |_,_=>False
where
 zW:List Sh->Nat
  |[]=>0
  |_::xs=>zW xs+1
def Ny(L:List (Nat×List Lf))(ch:List Nat):List (Nat×List Lf)->(List Lf->Prop)->Prop
 |[],K=>K []
 |(i,xs)::L0,K=>match eN ch i with
  |true=>match cE L i with
   |some cs=>match Nat.beq (xx cs) (xx xs)with
    |true=>Ny L ch L0 fun vs=>K (cs++vs)
    |false=>False
   |none=>False
  |false=>Ny L ch L0 K
def JQ(m:Nat)(ch:List Nat):List Nat->Bool
 |[]=>true
 |i::l=>(eN ch i|| !Nat.blt i m)&&JQ m ch l
def RF(m0:Nat)(s:St):List Nat->List (Nat×List Sh)->(List Lf->Prop)->Prop
 |_,[],K=>K []
 |ids,(t,ss)::r,K=>match qe s.E t with
  |some (.v (.l (.p id 0)))=>match Nat.blt id m0,eN ids id with
   |false,false=>match cE s.L id with
    |some cs=>match Nat.beq (xx cs) (EQ.zW ss)with
     |true=>RF m0 s (id::ids) r fun vs=>K (.q (some ⟨eW s.ρ id,0,none⟩) 0::(cs++vs))
     |false=>False
    |none=>False
   |_,_=>False
  |_=>False
def act(a:An)(s0 s:St)(K:List Lf->Prop):Prop:=
 match JQ s0.m a.ch (rZ s0.md s.md)with
 |true=>EQ s.E a.oN fun vs=>Ny s.L a.ch s0.L fun pN=>RF s0.m s [] a.nv fun VU=>K (vs++(pN++VU))
 |false=>False
def Nz(a:An)(L:List (Nat×List Lf)):List Sh:=qf a.oN++(zZ a.ch L++abO a.nv)
def anT:List (Nat×An)->Nat->Option An
 |[],_=>none
 |(p,a)::r,n=>match Nat.beq p n with
  |true=>some a
  |false=>anT r n
def HI(P:Program)(n:Nat)(an:Nat->Option An):Code->Nat->(St->Prop)->(Nat->St->Prop)->(St->Prop)->St->Prop
 | .skip,_,kn,_,_,s=>kn s
 | .region _ ops draw,_,kn,_,_,s=>VR P n ops.toList draw s kn
 | .seq a b,p,kn,kx,kr,s=>match an p with
   |none=>HI P n an a (2*p) (fun s'=>HI P n an b (2*p+1) kn kx kr s') kx kr s
   |some x=>sync s fun s=>∃J:Ei (Nz x s.L),HI P n an a (2*p) (fun s'=>sync s' fun s'=>act x s s' fun vs=>qQ s'.ρ _ J vs s'.h) kx kr s/\
    vN _ J fun vs J'=>∀h':Heap,J' h'->bld n x (writes a) vs {s with h:=h'} fun s2=>Vars h' (kg s2.ρ s2.L)->HI P n an b (2*p+1) kn kx kr s2
 | .cond c a b,p,kn,kx,kr,s=>match lf s.E c with
   |some (.b x k)=>brB x k s c (fun s=>HI P n an a (2*p) kn kx kr s) (fun s=>HI P n an b (2*p+1) kn kx kr s)
   |_=>False
 | .block id c,p,kn,kx,kr,s=>HI P n an c (2*p) kn (fun i s'=>match Nat.beq i id with
   |true=>kn s'
   |false=>kx i s') kr s
 | .loop c,p,_,kx,kr,s=>match an p with
   |some x=>sync s fun s=>∃J:Nat->Ei (Nz x s.L),(∃n0:Nat,act x s s fun vs=>qQ s.ρ _ (J n0) vs s.h)/\
    ∀m0:Nat,vN _ (J m0) fun vs J'=>∀h':Heap,J' h'->bld n x (writes c) vs {s with h:=h'} fun s2=>Vars h' (kg s2.ρ s2.L)->
     HI P n an c (2*p) (fun s'=>sync s' fun s'=>∃m:Nat,m<m0/\act x s s' fun vs=>qQ s'.ρ _ (J m) vs s'.h) kx kr s2
   |none=>False
 | .exit id,_,_,kx,_,s=>kx id s
 | .ret,_,_,_,kr,s=>kr s
 | .label _,_,kn,_,_,s=>kn s
 |_,_,_,_,_,_=>False
def tM(ρ:List Nat):List Tv->List Value
 |[]=>[]
 |x::xs=>x.val ρ::tM ρ xs
def ER(m:Nat):List Tv->Bool
 |[]=>true
 |x::xs=>x.ok m&&ER m xs
def vO(P:Program)(K:Value->Heap->Prop):List ResultVar->List Tv->St->Prop
 |[],acc,s=>sync s fun s=>match ER (iC s.ρ) acc with
  |true=>K (oneOf (tM s.ρ acc).reverse) s.h
  |false=>False
 | .tmp t::rs,acc,s=>match qe s.E t with
   |some x=>vO P K rs (x::acc) s
   |none=>False
 | .cell a t::rs,acc,s=>match lf s.E (.tmp a)with
   |some (.p id off)=>match cE s.L id with
    |some cs=>match gQ P t with
     |true=>match lh cs off 1 with
      |some [y]=>vO P K rs (.v (.l y)::acc) s
      |_=>False
     |false=>match qN P t with
      |some n=>match lh cs off n with
       |some ys=>vO P K rs (.v (.a ys)::acc) s
       |none=>False
      |none=>False
    |none=>False
   |_=>False
def RG(args:List Tv)(L:List (Nat×List Lf))(ρ:List Nat)(h:Heap):St:=⟨NA args 0,L,ρ,iC ρ,0,[],[],false,h⟩
where
 NA:List Tv->Nat->List (Nat×Option Tv)
  |[],_=>[]
  |x::xs,i=>(i,some x)::NA xs (i+1)
end Go.Mx
