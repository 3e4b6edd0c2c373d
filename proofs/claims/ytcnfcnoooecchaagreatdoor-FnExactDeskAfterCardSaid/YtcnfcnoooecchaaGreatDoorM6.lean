import Derived.Test.YtcnfcnoooecchaaGreatDoorM2
set_option linter.unusedVariables false
set_option linter.unusedSimpArgs false
set_option linter.constructorNameAsVariable false
namespace Go.Mx
inductive Cp where
 |p (id off:Nat)
 |v (x:Value)
inductive Lf where
 |i (k:IntKind) (x:Int)
 |b (x:Bool) (kn:Option (Bool×Bool))
 |s (x:ByteArray)
 |sl (x:Sl)
 |p (id off:Nat)
 |e (x:Sl) (i:Int) (sz:Nat) (off:Option Nat)
 |f (fn:Fn) (fs cs:List Cp)
 |r (v:Value)
 |q (a:Option Addr) (e:TypeId)
 |m (r:Option Nat)
 |u
inductive Av where
 |l (x:Lf)
 |a (xs:List Lf)
inductive Tv where
 |v (x:Av)
 |t (xs:List Av)
def eM:List Nat->Nat->Nat
 |[],_=>0
 |b::_,0=>b
 |_::ρ,n+1=>eM ρ n
def Cp.v'(ρ:List Nat):Cp->Value
 | .p id off=>VP (eM ρ id) off
 | .v x=>x
def EL(ρ:List Nat):List Cp->List Value
 |[]=>[]
 |c::cs=>c.v' ρ::EL ρ cs
def Lf.v(ρ:List Nat):Lf->Value
 | .i k x=> .int k x
 | .b x _=> .bool x
 | .s x=> .string x
 | .sl x=>x.v
 | .p id off=>VP (eM ρ id) off
 | .e x j sz none=> .pointer (some (x.at j sz))
 | .e x j sz (some o)=> .pointer (some ((x.at j sz).add o))
 | .f fn fs cs=> .func fn (EL ρ fs).toArray (EL ρ cs).toArray
 | .r v=>v
 | .q a _=> .pointer a
 | .m z=> .map z
 | .u=>undef
def dB(ρ:List Nat):List Lf->List Value
 |[]=>[]
 |x::xs=>x.v ρ::dB ρ xs
def Av.v(ρ:List Nat):Av->Value
 | .l x=>x.v ρ
 | .a xs=> .agg (dB ρ xs).toArray
def Ux(ρ:List Nat):List Av->List Value
 |[]=>[]
 |x::xs=>x.v ρ::Ux ρ xs
def Tv.val(ρ:List Nat):Tv->Value
 | .v x=>x.v ρ
 | .t xs=> .tuple (Ux ρ xs).toArray
def kh(ρ:List Nat):List (Nat×List Lf)->List (Nat×List Value)
 |[]=>[]
 |(id,xs)::L=>(eM ρ id,dB ρ xs)::kh ρ L
def Nb(m:Nat):Cp->Bool
 | .p id _=>Nat.blt id m
 | .v _=>true
def nR(m:Nat):List Cp->Bool
 |[]=>true
 |c::cs=>Nb m c&&nR m cs
def Lf.ok(m:Nat):Lf->Bool
 | .p id _=>Nat.blt id m
 | .f _ fs cs=>nR m fs&&nR m cs
 |_=>true
def bS(m:Nat):List Lf->Bool
 |[]=>true
 |x::xs=>x.ok m&&bS m xs
def Av.ok(m:Nat):Av->Bool
 | .l x=>x.ok m
 | .a xs=>bS m xs
def nS(m:Nat):List Av->Bool
 |[]=>true
 |x::xs=>x.ok m&&nS m xs
def Tv.ok(m:Nat):Tv->Bool
 | .v x=>x.ok m
 | .t xs=>nS m xs
def rM(m:Nat):List (Nat×List Lf)->Bool
 |[]=>true
 |(id,xs)::L=>Nat.blt id m&&bS m xs&&rM m L
def Lf.fact:Lf->Prop
 | .b x (some (v,_))=>x=v
 |_=>True
def cD:List Lf->Prop
 |[]=>True
 |x::xs=>x.fact/\cD xs
def Av.fact:Av->Prop
 | .l x=>x.fact
 | .a xs=>cD xs
def we:List Av->Prop
 |[]=>True
 |x::xs=>x.fact/\we xs
def Tv.fact:Tv->Prop
 | .v x=>x.fact
 | .t xs=>we xs
def oL:List (Nat×List Lf)->Prop
 |[]=>True
 |(_,xs)::L=>cD xs/\oL L
inductive Sh where
 |i (k:IntKind)|b|s|sl|r|q (e:TypeId)|m|n
inductive As where
 |l (x:Sh)
 |a (xs:List Sh)
inductive Ts where
 |v (x:As)
 |t (xs:List As)
def exS:Sh->(Lf->Prop)->Prop
 | .i k,Q=>∃x:Int,Q (.i k x)
 | .b,Q=>∃x:Bool,Q (.b x none)
 | .s,Q=>∃x:ByteArray,Q (.s x)
 | .sl,Q=>∃x:Sl,Q (.sl x)
 | .r,Q=>∃x:Value,Q (.r x)
 | .q e,Q=>∃x:Option Addr,Q (.q x e)
 | .m,Q=>∃x:Option Nat,Q (.m x)
 | .n,Q=>∃b:Nat,Q (.q (some ⟨b,0,none⟩) 0)
def exL:List Sh->(List Lf->Prop)->Prop
 |[],Q=>Q []
 |s::ss,Q=>exS s fun x=>exL ss fun xs=>Q (x::xs)
def exA:As->(Av->Prop)->Prop
 | .l s,Q=>exS s fun x=>Q (.l x)
 | .a ss,Q=>exL ss fun xs=>Q (.a xs)
def Vn:List As->(List Av->Prop)->Prop
 |[],Q=>Q []
 |s::ss,Q=>exA s fun x=>Vn ss fun xs=>Q (x::xs)
def zW:Ts->(Tv->Prop)->Prop
 | .v s,Q=>exA s fun x=>Q (.v x)
 | .t ss,Q=>Vn ss fun xs=>Q (.t xs)
def xv(P:Program):Nat->TypeId->List Sh
 |0,_=>[]
 |n+1,t=>match P.underlying t with
  |some (.int k)=>[.i k]
  |some .bool=>[.b]
  |some .string=>[.s]
  |some (.slice _)=>[.sl]
  |some (.pointer e)=>[.q e]
  |some (.map _ _)=>[.m]
  |some (.struct fs)=>Uy (fs.toList.map fun f=>xv P n f.type)
  |some (.array k e)=>Uz k (xv P n e)
  |_=>[.r]
where
 Uy:List (List Sh)->List Sh
  |[]=>[]
  |x::xs=>x++Uy xs
 Uz:Nat->List Sh->List Sh
  |0,_=>[]
  |k+1,x=>x++Uz k x
def Rh(P:Program)(t:TypeId):As:=
 match P.underlying t with
 |some (.int k)=> .l (.i k)
 |some .bool=> .l .b
 |some .string=> .l .s
 |some (.slice _)=> .l .sl
 |some (.pointer e)=> .l (.q e)
 |some (.map _ _)=> .l .m
 |some (.struct _)=> .a (xv P 20 t)
 |some (.array _ _)=> .a (xv P 20 t)
 |_=> .l .r
def UA(P:Program):List TypeId->List As
 |[]=>[]
 |t::ts=>Rh P t::UA P ts
def fJ(P:Program)(t:TypeId):Option Ts:=
 match P.underlying t with
 |some (.tuple ts)=>match ts.toList with
  |[]=>none
  |ts=>some (.t (UA P ts))
 |_=>some (.v (Rh P t))
structure St where
 E:List (Nat×Option Tv)
 L:List (Nat×List Lf)
 ρ:List Nat
 m:Nat
 nw:Nat
 so:List Nat
 md:List Nat
 d:Bool
 h:Heap
def qe:List (Nat×Option Tv)->Nat->Option Tv
 |[],_=>none
 |(d,x)::E,t=>match Nat.beq d t with
  |true=>x
  |false=>qe E t
def qB:Nat->List Nat->(List Nat->Prop)->Prop
 |0,ρ,k=>k ρ
 |n+1,ρ,k=>∀b:Nat,qB n (ρ++[b]) k
def Vo(h:Heap):List Nat->Prop->Prop
 |[],Q=>Q
 |b::bs,Q=>h.size<=b->Vo h bs Q
def Ri:List Nat->List Nat->List Nat
 |[],ρ=>ρ
 |_::xs,_::ρ=>Ri xs ρ
 |_::_,[]=>[]
def vn(ρ:List Nat):List Nat->List Nat
 |[]=>[]
 |i::is=>eM ρ i::vn ρ is
def sync(s:St)(k:St->Prop):Prop:=
 match s.d with
 |false=>k s
 |true=>qB s.nw s.ρ fun ρ=>∀h':Heap,Vo s.h (Ri s.ρ ρ) (Fr (In (vn ρ s.so)) s.h h'->Vars h' (kh ρ s.L)->k {s with ρ:=ρ,nw:=0,so:=[],d:=false,h:=h'})
def Nc:Value->Lf
 | .int k n=> .i k n
 | .bool b=> .b b (some (b,true))
 | .string x=> .s x
 | .slice a n c=> .sl ⟨a,n,c⟩
 | .pointer a=> .q a 0
 | .map r=> .m r
 |v=> .r v
def xx:List Value->List Lf
 |[]=>[]
 |v::vs=>Nc v::xx vs
def xy(E:List (Nat×Option Tv)):Operand->Option Tv
 | .tmp t=>qe E t
 | .const v=>some (.v (.l (Nc v)))
 | .global g=>some (.v (.l (.r (.pointer (some ⟨g,0,none⟩)))))
 | .func f=>some (.v (.l (.f (.func f) [] [])))
def Em(ρ:List Nat)(E:List (Nat×Option Tv))(x:Operand):Value:=
 match xy E x with
 |some y=>y.val ρ
 |none=>undef
def Hx(m:Nat)(E:List (Nat×Option Tv)):List Operand->Bool
 |[]=>true
 |x::xs=>(match xy E x with
  |some y=>y.ok m
  |none=>false)&&Hx m E xs
def lf(E:List (Nat×Option Tv))(x:Operand):Option Lf:=
 match xy E x with
 |some (.v (.l y))=>some y
 |_=>none
def Nd:Operand->Bool
 | .const (.int _ (.ofNat (_+1)))=>true
 | .const (.int _ (.negSucc _))=>true
 |_=>false
def flag(E:List (Nat×Option Tv))(c:Operand)(v:Bool):List (Nat×Option Tv):=
 match c with
 | .tmp t=>match qe E t with
   |some (.v (.l (.b x _)))=>(t,some (.v (.l (.b x (some (v,false))))))::E
   |_=>E
 |_=>E
def wg:Lf->Bool
 | .r v=>fq v
 | .u=>false
 |_=>true
def rY:List Lf->Bool
 |[]=>true
 |x::xs=>wg x&&rY xs
def xz:Tv->Option (List Lf)
 | .v (.l x)=>match wg x with
   |true=>some [x]
   |false=>none
 | .v (.a xs)=>match rY xs with
   |true=>some xs
   |false=>none
 | .t _=>none
def xA:List Lf->Nat
 |[]=>0
 |_::xs=>xA xs+1
def ld:List Lf->Nat->Nat->Option (List Lf)
 |_,0,0=>some []
 |x::xs,0,n+1=>match ld xs 0 n with
  |some r=>some (x::r)
  |none=>none
 |_::xs,o+1,n=>ld xs o n
 |[],_,_=>none
def jB:List Lf->Nat->List Lf->Option (List Lf)
 |cs,0,[]=>some cs
 |_::cs,0,v::vs=>match jB cs 0 vs with
  |some r=>some (v::r)
  |none=>none
 |c::cs,n+1,vs=>match jB cs n vs with
  |some r=>some (c::r)
  |none=>none
 |[],_,_=>none
def cE:List (Nat×List Lf)->Nat->Option (List Lf)
 |[],_=>none
 |(i,xs)::L,id=>match Nat.beq i id with
  |true=>some xs
  |false=>cE L id
def vJ:List (Nat×List Lf)->Nat->List Lf->List (Nat×List Lf)
 |[],_,_=>[]
 |(i,xs)::L,id,ys=>match Nat.beq i id with
  |true=>(i,ys)::L
  |false=>(i,xs)::vJ L id ys
def wh:List Cp->List Nat
 |[]=>[]
 | .p id _::cs=>id::wh cs
 | .v _::cs=>wh cs
def Lf.reach:Lf->List Nat
 | .p id _=>[id]
 | .f _ fs cs=>wh cs++wh fs
 |_=>[]
def EM:List Lf->List Nat
 |[]=>[]
 |x::xs=>x.reach++EM xs
def Av.reach:Av->List Nat
 | .l x=>x.reach
 | .a xs=>EM xs
def EN:List Av->List Nat
 |[]=>[]
 |x::xs=>x.reach++EN xs
def Tv.reach:Tv->List Nat
 | .v x=>x.reach
 | .t xs=>EN xs
def gA(E:List (Nat×Option Tv)):List Operand->List Nat
 |[]=>[]
 |x::xs=>(match xy E x with
  |some y=>y.reach
  |none=>[])++gA E xs
def aeV:Lf->Sh
 | .i k _=> .i k
 | .b _ _=> .b
 | .s _=> .s
 | .sl _=> .sl
 | .q _ e=> .q e
 | .m _=> .m
 |_=> .r
def oM:List Lf->List Sh
 |[]=>[]
 |x::xs=>aeV x::oM xs
def pU(ids:List Nat):List (Nat×List Lf)->(List (Nat×List Lf)->Prop)->Prop
 |[],Q=>Q []
 |(i,xs)::L,Q=>match eH ids i with
  |true=>exL (oM xs) fun ys=>pU ids L fun L'=>Q ((i,ys)::L')
  |false=>pU ids L fun L'=>Q ((i,xs)::L')
def Nf(s:St)(k:St->Tv->Prop)(x:Lf):Prop:=k s (.v (.l x))
def brB(x:Bool)(kn:Option (Bool×Bool))(s:St)(c:Operand)(yes no:St->Prop):Prop:=
 match kn with
 |some (true,_)=>yes s
 |some (false,_)=>no s
 |none=>(x=true->yes {s with E:=flag s.E c true})/\(x=false->no {s with E:=flag s.E c false})
def exR(P:Program)(ρ:List Nat)(rv:Value)(t:Option Ts)(k:Tv->Prop):Prop:=
 match t with
 |some t=>zW t fun x=>rv=x.val ρ/\k x
 |none=>k (.v (.l (.r rv)))
def lR(P:Program)(s:St)(op:Op)(ty:TypeId)(rt:Option Ts)(k:St->Tv->Prop):Prop:=
 match gw op,kD op with
 |none,none=>match jF fm 0 op with
  |some _=>match Hx (iA s.ρ) s.E op.operands.toList with
   |true=>match jF (Em s.ρ s.E) ty op with
    |some q=>pop P q fun rv=>exR P s.ρ rv rt fun x=>k s x
    |none=>False
   |false=>False
  |none=>sync s fun s=>match Hx (iA s.ρ) s.E op.operands.toList with
   |true=>match oc (Em s.ρ s.E) op with
    |some q=>zZ P q s.h fun rv=>exR P s.ρ rv rt fun x=>k s x
    |none=>match Er (Em s.ρ s.E) ty op with
     |some q=>jU P q s.h fun rv h'=>abv P s rv h' rt fun x=>k {s with h:=h'} x
     |none=>match Es (Em s.ρ s.E) op with
      |some q=>Aw P q s.h fun rv h'=>Vars h' (kh s.ρ s.L)/\k {s with h:=h'} (.v (.l .u))
      |none=>False
   |false=>False
 |_,_=>False
where
 abv (P:Program) (s:St) (rv:Value) (h':Heap) (t:Option Ts) (k:Tv->Prop):Prop:=
  match t with
  |some t=>zW t fun x=>rv=x.val s.ρ/\Vars h' (kh s.ρ s.L)/\k x
  |none=>Vars h' (kh s.ρ s.L)/\k (.v (.l (.r rv)))
def Ng(P:Program)(s:St)(f:Operand)(args:List Operand)(ty:TypeId)(k:St->Tv->Prop):Prop:=
 sync s fun s=>match Hx (iA s.ρ) s.E (f::args)with
  |false=>False
  |true=>abw P (Em s.ρ s.E f) f (mV (Em s.ρ s.E) args) s.h fun rv h'=>
   pU (gA s.E (args++[f])) s.L fun L'=>match fJ P ty with
    |some t=>zW t fun x=>rv=x.val s.ρ/\Vars h' (kh s.ρ L')/\k {s with L:=L',md:=gA s.E (args++[f])++s.md,h:=h'} x
    |none=>Vars h' (kh s.ρ L')/\k {s with L:=L',md:=gA s.E (args++[f])++s.md,h:=h'} (.v (.l (.r rv)))
where
 abw (P:Program) (fv:Value) (f:Operand) (xs:List Value) (h:Heap) (K:Value->Heap->Prop):Prop:=
  match f with
  | .func n=>aE P n xs.toArray h K
  |_=>fD P fv xs h K
def Vp(P:Program)(s:St)(o:BinOp)(k:IntKind)(a b:Int)(Vq:Bool)(K:Lf->Prop)(raw:Prop):Prop:=
 match o with
 | .add=>K (.i k (k.wrap (a+b)))
 | .sub=>K (.i k (k.wrap (a-b)))
 | .mul=>K (.i k (k.wrap (a*b)))
 | .quo=>match Vq with
   |true=>K (.i k (k.wrap (a.tdiv b)))
   |false=>b≠0/\K (.i k (k.wrap (a.tdiv b)))
 | .rem=>match Vq with
   |true=>K (.i k (a.tmod b))
   |false=>b≠0/\K (.i k (a.tmod b))
 | .lss=>K (.b (decide (a<b)) none)
 | .leq=>K (.b (decide (a<=b)) none)
 | .gtr=>K (.b (decide (b<a)) none)
 | .geq=>K (.b (decide (b<=a)) none)
 | .eql=>K (.b (decide (a=b)) none)
 | .neq=>K (.b (!decide (a=b)) none)
 |_=>raw
def Vr(P:Program)(s:St)(o:BinOp)(t:TypeId)(y:Operand)(A B:Option Lf)(K:Lf->Prop)(raw:Prop):Prop:=
 match A,B with
 |some (.i k a),some (.i k' b)=>match decide (k=k')with
  |true=>Vp P s o k a b (Nd y) K raw
  |false=>raw
 |some (.b a _),some (.b b _)=>match P.underlying t with
  |some .bool=>match o with
   | .eql=>K (.b (a==b) none)
   | .neq=>K (.b (!(a==b)) none)
   |_=>raw
  |_=>raw
 |some (.s a),some (.s b)=>match o with
  | .add=>a.size+b.size<=9223372036854775807/\K (.s (a++b))
  | .eql=>K (.b (a.toList==b.toList) none)
  | .neq=>K (.b (!(a.toList==b.toList)) none)
  |_=>raw
 |_,_=>raw
def Rj:Option (Bool×Bool)->Option (Bool×Bool)
 |some (v,true)=>some (!v,true)
 |_=>none
def Vs(s:St)(cs:List Lf)(k:St->Tv->Prop):Prop:=
 k {s with L:=(s.m,cs)::s.L,m:=s.m+1,nw:=s.nw+1,d:=true} (.v (.l (.p s.m 0)))
def loadT(P:Program)(s:St)(t:TypeId)(x:Option Lf)(k:St->Tv->Prop)(raw:Prop):Prop:=
 match x with
 |some (.p id off)=>match cE s.L id with
  |some cs=>match gV P t with
   |true=>match ld cs off 1 with
    |some [y]=>k s (.v (.l y))
    |_=>False
   |false=>match qQ P t with
    |some n=>match ld cs off n with
     |some ys=>k s (.v (.a ys))
     |none=>False
    |none=>False
  |none=>False
 |some (.e x i sz off)=>sync s fun s=>match gV P t with
  |true=>match Rh P t with
   | .l sh=>exS sh fun y=>aS s.h (Qu x i sz off)=some (y.v s.ρ)/\k s (.v (.l y))
   | .a _=>False
  |false=>match qQ P t,Rh P t with
   |some n,.a ss=>exL ss fun ys=>match Nat.beq (xA ys) n with
    |true=>lx s.h (Qu x i sz off) (dB s.ρ ys)/\k s (.v (.a ys))
    |false=>False
   |_,_=>False
 |_=>raw
where
 Qu (x:Sl) (i:Int) (sz:Nat):Option Nat->Addr
  |none=>x.at i sz
  |some o=>(x.at i sz).add o
def storeT(P:Program)(s:St)(t:TypeId)(x:Option Lf)(w:Option Tv)(k:St->Tv->Prop)(raw:Prop):Prop:=
 match x with
 |some (.p id off)=>match cE s.L id,w with
  |some cs,some w=>match xz w,lu P t with
   |some vs,some n=>match Nat.beq (xA vs) n with
    |true=>match jB cs off vs with
     |some lQ=>k {s with L:=vJ s.L id lQ,so:=(match Nat.blt id (iA s.ρ)with|true=>id::s.so|false=>s.so),md:=id::s.md,d:=true} (.v (.l .u))
     |none=>False
    |false=>False
   |_,_=>False
  |_,_=>False
 |some (.e x i sz off)=>match w with
  |some (.v (.l y))=>match wg y,lu P t with
   |true,some 1=>sync s fun s=>match y.ok (iA s.ρ)with
    |true=>(dU s.h (loadT.Qu x i sz off)/\Vars (cL s.h (loadT.Qu x i sz off) (y.v s.ρ)) (kh s.ρ s.L)/\
     ∀h2:Heap,h2=cL s.h (loadT.Qu x i sz off) (y.v s.ρ)->Vars h2 (kh s.ρ s.L)->k {s with h:=h2} (.v (.l .u)))
    |false=>False
   |_,_=>raw
  |_=>raw
 |_=>raw
def JI(P:Program)(t:TypeId):Option (List Lf):=
 match oG P t with
 |some z=>some (xx z.cells.toList)
 |none=>none
def abx:Option Tv->Option Cp
 |some (.v (.l (.p id off)))=>some (.p id off)
 |some (.v (.l (.i k x)))=>some (.v (.int k x))
 |some (.v (.l (.b x _)))=>some (.v (.bool x))
 |some (.v (.l (.s x)))=>some (.v (.string x))
 |some (.v (.l (.sl x)))=>some (.v x.v)
 |some (.v (.l (.r x)))=>some (.v x)
 |some (.v (.l (.q x _)))=>some (.v (.pointer x))
 |some (.v (.l (.m x)))=>some (.v (.map x))
 |_=>none
def AQ(E:List (Nat×Option Tv)):List Operand->Option (List Cp)
 |[]=>some []
 |x::xs=>match abx (xy E x),AQ E xs with
  |some c,some cs=>some (c::cs)
  |_,_=>none
def Li:List Av->Nat->Option Av
 |[],_=>none
 |x::_,0=>some x
 |_::xs,n+1=>Li xs n
def EO(P:Program)(fs:Array Field)(E:List (Nat×Option Tv))(cs:List Lf):List (Nat×Operand)->Option (List Lf)
 |[]=>some cs
 |(i,x)::ps=>match fs[i]?,xy E x with
  |some f,some w=>match xz w,lu P f.type with
   |some vs,some n=>match Nat.beq (xA vs) n with
    |true=>match jB cs f.offset vs with
     |some lQ=>EO P fs E lQ ps
     |none=>none
    |false=>none
   |_,_=>none
  |_,_=>none
def rZ(P:Program):List Field->Bool
 |[]=>true
 |f::fs=>(match lu P f.type with|some _=>true|none=>false)&&rZ P fs
def EP(P:Program)(s:St)(x:Operand)(v:Option Addr)(e:TypeId)(k:St->Tv->Prop):Prop:=
 sync s fun s=>∃b:Nat,exL (xv P 20 e) fun ys=>v=some ⟨b,0,none⟩/\Vars s.h ((b,dB s.ρ ys)::kh s.ρ s.L)/\
  k {s with E:=Vt s.E x s.m,L:=(s.m,ys)::s.L,ρ:=s.ρ++[b],m:=s.m+1} (.v (.l (.p s.m 0)))
where
 Vt (E:List (Nat×Option Tv)) (x:Operand) (m:Nat):List (Nat×Option Tv):=
  match x with
  | .tmp t=>(t,some (.v (.l (.p m 0))))::E
  |_=>E
def EQ(P:Program)(s:St)(op:Op)(ty:TypeId)(k:St->Tv->Prop):Prop:=
 match op with
 | .move x=>match xy s.E x with
   |some y=>k s y
   |none=>False
 | .assign x=>match xy s.E x with
   |some y=>k s y
   |none=>False
 | .call ⟨.value f,args,ats⟩=>Ng P s f args.toList ty k
 | .call ⟨.builtin .len,args,ats⟩=>match args.toList,ats.toList with
   |[x],[t]=>match lf s.E x,P.underlying t with
    |some (.sl x),some (.slice _)=>k s (.v (.l (.i .i64 (x.n:Int))))
    |some (.s x),some .string=>k s (.v (.l (.i .i64 (x.size:Int))))
    |_,_=>lR P s op ty (fJ P ty) k
   |_,_=>lR P s op ty (fJ P ty) k
 | .binOp o t x y _=>Vr P s o t y (lf s.E x) (lf s.E y) (Nf s k) (lR P s op ty (match Nat.beq ty 0 with|true=>some (.v (.l .b))|false=>fJ P ty) k)
 | .unOp o _ x=>match o,lf s.E x with
   | .not,some (.b x kn)=>k s (.v (.l (.b (!x) (Rj kn))))
   | .neg,some (.i kd x)=>k s (.v (.l (.i kd (kd.wrap (0-x)))))
   |_,_=>lR P s op ty (fJ P ty) k
 | .pick c a b=>match lf s.E c with
   |some (.b x kn)=>brB x kn s c (fun s'=>match xy s.E a with|some y=>k s' y|none=>False) (fun s'=>match xy s.E b with|some y=>k s' y|none=>False)
   |_=>lR P s op ty (fJ P ty) k
 | .nilCheck x=>match lf s.E x with
   |some (.p id off)=>k s (.v (.l (.p id off)))
   |some (.e x i sz off)=>k s (.v (.l (.e x i sz off)))
   |some (.q v e)=>EP P s x v e k
   |_=>lR P s op ty (fJ P ty) k
 | .makeFunc fn first cap=>match AQ s.E first.toList,AQ s.E cap.toList with
   |some fs,some cs=>k s (.v (.l (.f fn fs cs)))
   |_,_=>False
 | .fieldAddr t x i=>match lf s.E x,xj P t i with
   |some (.p id off),some o=>k s (.v (.l (.p id (off+o))))
   |some (.e x j sz none),some o=>k s (.v (.l (.e x j sz (some o))))
   |_,_=>lR P s op ty (fJ P ty) k
 | .indexAddr t x ix=>match lf s.E x,lf s.E ix,P.underlying t with
   |some (.sl x),some (.i _ j),some (.slice e)=>match lu P e with
    |some sz=>dS x j/\k s (.v (.l (.e x j sz none)))
    |none=>False
   |_,_,_=>lR P s op ty (fJ P ty) k
 | .extract t ix=>match xy s.E t with
   |some (.t xs)=>match Li xs ix with
    |some y=>k s (.v y)
    |none=>False
   |_=>lR P s op ty (fJ P ty) k
 | .field t x i=>match xy s.E x,P.underlying t with
   |some (.v (.a xs)),some (.struct fs)=>match fs[i]? with
    |some f=>match gV P f.type with
     |true=>match ld xs f.offset 1 with
      |some [y]=>k s (.v (.l y))
      |_=>False
     |false=>match qQ P f.type with
      |some n=>match ld xs f.offset n with
       |some ys=>k s (.v (.a ys))
       |none=>False
      |none=>False
    |none=>False
   |_,_=>lR P s op ty (fJ P ty) k
 | .build t parts=>match P.underlying t,JI P t with
   |some (.struct fs),some zs=>match rZ P fs.toList,EO P fs s.E zs parts.toList with
    |true,some cs=>k s (.v (.a cs))
    |_,_=>False
   |_,_=>lR P s op ty (fJ P ty) k
 | .load t x=>loadT P s t (lf s.E x) k (lR P s op ty (fJ P ty) k)
 | .store t x v=>storeT P s t (lf s.E x) (xy s.E v) k (lR P s op ty none k)
 | .box t v=>match xy s.E v with
   |some y=>match xz y with
    |some cs=>Vs s cs k
    |none=>False
   |none=>False
 | .alloc t=>match JI P t with
   |some cs=>Vs s cs k
   |none=>False
 | .buildSlice t _ _=>lR P s op ty (fJ P t) k
 | .makeSlice t _ _=>lR P s op ty (fJ P t) k
 | .convert _ dst _=>lR P s op ty (fJ P dst) k
 | .slice t _ _ _ _=>lR P s op ty (match Nat.beq ty 0 with|true=>fJ P t|false=>fJ P ty) k
 |_=>lR P s op ty (fJ P ty) k
def vK(n:Nat)(s:St)(dst:Option Tmp)(x:Tv):St:=
 match dst with
 |some d=>match Nat.blt d n with
  |true=>{s with E:=(d,some x)::s.E}
  |false=>s
 |none=>s
def ER(P:Program)(ops:List Oper)(s:St)(o:Oper)(k:St->Tv->Prop):Prop:=
 match o.guard with
 |none=>EQ P s o.op o.type k
 |some (j,want)=>match wR ops j with
  |none=>k s (.v (.l .u))
  |some t=>match qe s.E t with
   |some (.v (.l (.b x kn)))=>brB x kn s (.tmp t)
    (fun s'=>match want with|true=>EQ P s' o.op o.type k|false=>k s' (.v (.l .u)))
    (fun s'=>match want with|true=>k s' (.v (.l .u))|false=>EQ P s' o.op o.type k)
   |some (.v (.l .u))=>k s (.v (.l .u))
   |_=>False
def tIn(P:Program)(n:Nat)(ops:List Oper):List Oper->St->(St->Prop)->Prop
 |[],s,K=>K s
 |o::os,s,K=>ER P ops s o fun s' x=>tIn P n ops os (vK n s' o.dst x) K
inductive Ht where
 |UB
 |bad
 |au (id off:Nat) (t:TypeId) (ys:List Lf)
 |ce (a:Addr) (v:Value)
 |cs (a:Addr) (vs:List Value)
 |se (q:Sem Value) (v:Value)
def r8(P:Program)(s:St)(op:Op)(x:Tv):Ht:=
 match op with
 | .load t a=>match lf s.E a with
   |some (.p id off)=>match cE s.L id with
    |some cs=>match gV P t with
     |true=>match ld cs off 1 with
      |some [y]=> .au id off t [y]
      |_=> .bad
     |false=>match qQ P t with
      |some n=>match ld cs off n with
       |some ys=> .au id off t ys
       |none=> .bad
      |none=> .bad
    |none=> .bad
   |some (.e y i sz off)=>match x.ok (iA s.ρ),x with
    |true,.v (.l z)=>match gV P t with
     |true=> .ce (loadT.Qu y i sz off) (z.v s.ρ)
     |false=> .bad
    |true,.v (.a zs)=>match qQ P t with
     |some n=>match Nat.beq (xA zs) n with
      |true=> .cs (loadT.Qu y i sz off) (dB s.ρ zs)
      |false=> .bad
     |none=> .bad
    |_,_=> .bad
   |_=>JJ P s op x
 |_=>JJ P s op x
where
 JJ (P:Program) (s:St) (op:Op) (x:Tv):Ht:=
  match Hx (iA s.ρ) s.E op.operands.toList,x.ok (iA s.ρ),oc (Em s.ρ s.E) op with
  |true,true,some q=> .se q (x.val s.ρ)
  |_,_,_=> .bad
def Hy(P:Program)(ops:List Oper)(s:St)(o:Oper)(x:Tv):Ht:=
 match o.guard with
 |none=>r8 P s o.op x
 |some (j,want)=>match wR ops j with
  |none=> .UB
  |some t=>match qe s.E t with
   |some (.v (.l (.b _ (some (v,_)))))=>match v,want with
    |true,true=>r8 P s o.op x
    |false,false=>r8 P s o.op x
    |_,_=> .UB
   |some (.v (.l .u))=> .UB
   |_=> .bad
def AR(bf:List Nat):List (Nat×Ht)->List (Nat×Ht)
 |[]=>[]
 |(i,p)::S=>match eH bf i with
  |true=>AR bf S
  |false=>(i,p)::AR bf S
def AU(P:Program)(h:Heap)(K:Prop):List (Nat×Ht)->Prop
 |[]=>K
 |(_,.ce a v)::S=>aS h a=some v/\AU P h K S
 |(_,.cs a vs)::S=>lx h a vs/\AU P h K S
 |(_,.bad)::S=>False
 |(_,.se q v)::S=>(∀w:World,w.heap=h->q.run P w= .ok v w)/\AU P h K S
 |(_,_)::S=>AU P h K S
def sa(a b:List Nat):List Nat:=takeN (iA b-iA a) b
where
 takeN:Nat->List Nat->List Nat
  |0,_=>[]
  |n+1,x::xs=>x::takeN n xs
  |_+1,[]=>[]
def oN(ids:List Nat):List (Nat×Ht)->Bool
 |[]=>true
 |(_,.au id _ _ _)::S=> ! eH ids id&&oN ids S
 |_::S=>oN ids S
def vo(P:Program)(n:Nat)(ops:List Oper)(K:St->Prop):Nat->List Bool->St->List (Nat×Ht)->Prop
 |0,l,s,_=>match bA ops 0 l with
  |[]=>K s
  |_::_=>False
 |m+1,l,s,S=>match cU (bA ops 0 l)with
  |some (i,o)=>ER P ops s o fun s' x=>match oN (sa s.md s'.md) S with
   |true=>match vd o.op with
    |true=>vo P n ops K m (iz l i) (vK n s' o.dst x) S
    |false=>vo P n ops K m (iz l i) (vK n s' o.dst x) ((i,Hy P ops s' o x)::S)
   |false=>False
  |none=>match bA ops 0 l with
   |[]=>K s
   |r::rs=>Hj (fun i o=>ER P ops s o fun s' x=>match AR (ve ops o) S with
    |[]=>vo P n ops K m (iz l i) (vK n s' o.dst x) []
    |e::S'=>match oN (sa s.md s'.md) (e::S')with
     |true=>sync s' fun s'=>AU P s'.h (vo P n ops K m (iz l i) (vK n s' o.dst x) (e::S')) (e::S')
     |false=>False) (r::rs)
def Vu(P:Program)(n:Nat)(ops:List Oper)(draw:Bool)(s:St)(K:St->Prop):Prop:=
 match draw with
 |false=>tIn P n ops ops s K
 |true=>match fp ops ops 0 with
  |true=>vo P n ops K (len ops) (nb ops) s []
  |false=>False
structure It where
 t:Nat
 sh:As
structure An where
 oO:List It
 ch:List Nat
 nv:List (Nat×List Sh)
def lS:List (Nat×List Sh)->List Nat
 |[]=>[]
 |(t,_)::r=>t::lS r
def abz:List (Nat×List Sh)->List Sh
 |[]=>[]
 |(_,ss)::r=> .n::(ss++abz r)
def Hz:Lf->Option Nat
 | .q (some ⟨b,0,none⟩) _=>some b
 |_=>none
def mh:List It->List Nat
 |[]=>[]
 |x::xs=>x.t::mh xs
def UC:As->List Sh
 | .l x=>[x]
 | .a xs=>xs
def qf:List It->List Sh
 |[]=>[]
 |x::r=>UC x.sh++qf r
def Ae(ch:List Nat):List (Nat×List Lf)->List Sh
 |[]=>[]
 |(i,xs)::L=>match eH ch i with
  |true=>oM xs++Ae ch L
  |false=>Ae ch L
def En:List Sh->Type
 |[]=>Heap->Prop
 | .i _::r=>Int->En r
 | .b::r=>Bool->En r
 | .s::r=>ByteArray->En r
 | .sl::r=>Sl->En r
 | .r::r=>Value->En r
 | .q _::r=>Option Addr->En r
 | .m::r=>Option Nat->En r
 | .n::r=>Nat->En r
def qT(ρ:List Nat):(sig:List Sh)->En sig->List Lf->Heap->Prop
 |[],J,[],h=>J h
 | .i k::r,J,.i k' x::vs,h=>match decide (k=k')with
   |true=>qT ρ r (J x) vs h
   |false=>False
 | .b::r,J,.b x _::vs,h=>qT ρ r (J x) vs h
 | .s::r,J,.s x::vs,h=>qT ρ r (J x) vs h
 | .sl::r,J,.sl x::vs,h=>qT ρ r (J x) vs h
 | .r::r,J,x::vs,h=>qT ρ r (J (x.v ρ)) vs h
 | .q _::r,J,.q x _::vs,h=>qT ρ r (J x) vs h
 | .m::r,J,.m x::vs,h=>qT ρ r (J x) vs h
 | .n::r,J,x::vs,h=>match Hz x with
   |some b=>qT ρ r (J b) vs h
   |none=>False
 |_,_,_,_=>False
def vL:(sig:List Sh)->En sig->(List Lf->(Heap->Prop)->Prop)->Prop
 |[],J,Q=>Q [] J
 | .i k::r,J,Q=>∀x:Int,vL r (J x) fun vs J'=>Q (.i k x::vs) J'
 | .b::r,J,Q=>∀x:Bool,vL r (J x) fun vs J'=>Q (.b x none::vs) J'
 | .s::r,J,Q=>∀x:ByteArray,vL r (J x) fun vs J'=>Q (.s x::vs) J'
 | .sl::r,J,Q=>∀x:Sl,vL r (J x) fun vs J'=>Q (.sl x::vs) J'
 | .r::r,J,Q=>∀x:Value,vL r (J x) fun vs J'=>Q (.r x::vs) J'
 | .q e::r,J,Q=>∀x:Option Addr,vL r (J x) fun vs J'=>Q (.q x e::vs) J'
 | .m::r,J,Q=>∀x:Option Nat,vL r (J x) fun vs J'=>Q (.m x::vs) J'
 | .n::r,J,Q=>∀b:Nat,vL r (J b) fun vs J'=>Q (.q (some ⟨b,0,none⟩) 0::vs) J'
def vp:List Sh->List Lf->(List Lf->List Lf->Prop)->Prop
 |[],vs,K=>K [] vs
 |_::ss,x::vs,K=>vp ss vs fun xs r=>K (x::xs) r
 |_::_,[],_=>False
def UD:As->List Lf->(Av->List Lf->Prop)->Prop
 | .l _,x::vs,K=>K (.l x) vs
 | .l _,[],_=>False
 | .a ss,vs,K=>vp ss vs fun xs r=>K (.a xs) r
def HA(n:Nat)(E:List (Nat×Option Tv))(t:Nat)(x:Option Tv):List (Nat×Option Tv):=
 match Nat.blt t n with
 |true=>(t,x)::E
 |false=>E
def ES(n:Nat):List Nat->List (Nat×Option Tv)->List (Nat×Option Tv)
 |[],E=>E
 |t::ts,E=>ES n ts (HA n E t none)
def Vv(n:Nat):List It->List Lf->List (Nat×Option Tv)->(List Lf->List (Nat×Option Tv)->Prop)->Prop
 |[],vs,E,K=>K vs E
 |x::r,vs,E,K=>UD x.sh vs fun y pP=>Vv n r pP (HA n E x.t (some (.v y))) K
def Nh(ch:List Nat):List (Nat×List Lf)->List Lf->(List (Nat×List Lf)->List Lf->Prop)->Prop
 |[],vs,K=>K [] vs
 |(i,xs)::L,vs,K=>match eH ch i with
  |true=>vp (oM xs) vs fun ys pP=>Nh ch L pP fun L' r=>K ((i,ys)::L') r
  |false=>Nh ch L vs fun L' r=>K ((i,xs)::L') r
def Rk(n:Nat):List (Nat×List Sh)->List Lf->St->(St->Prop)->Prop
 |[],_,s,K=>K s
 |(t,ss)::r,x::vs,s,K=>match Hz x with
  |some b=>vp ss vs fun ys pP=>Rk n r pP {s with E:=HA n s.E t (some (.v (.l (.p s.m 0)))),L:=(s.m,ys)::s.L,ρ:=s.ρ++[b],m:=s.m+1} K
  |none=>False
 |_::_,[],_,_=>False
def bld(n:Nat)(a:An)(ws:List Nat)(vs:List Lf)(s:St)(K:St->Prop):Prop:=
 Vv n a.oO vs (ES n ws s.E) fun pP E=>Nh a.ch s.L pP fun L Vw=>Rk n a.nv Vw {s with E:=E,L:=L,md:=a.ch++s.md} K
def ET(E:List (Nat×Option Tv)):List It->(List Lf->Prop)->Prop
 |[],K=>K []
 |x::r,K=>match qe E x.t,x.sh with
  |some (.v (.l y)),.l _=>ET E r fun vs=>K (y::vs)
  |some (.v (.a ys)),.a ss=>match Nat.beq (xA ys) (Ad ss)with
   |true=>ET E r fun vs=>K (ys++vs)
   |false=>False
  |_,_=>False
where
 Ad:List Sh->Nat
  |[]=>0
  |_::xs=>Ad xs+1
def Ni(L:List (Nat×List Lf))(ch:List Nat):List (Nat×List Lf)->(List Lf->Prop)->Prop
 |[],K=>K []
 |(i,xs)::L0,K=>match eH ch i with
  |true=>match cE L i with
   |some cs=>match Nat.beq (xA cs) (xA xs)with
    |true=>Ni L ch L0 fun vs=>K (cs++vs)
    |false=>False
   |none=>False
  |false=>Ni L ch L0 K
def JK(m:Nat)(ch:List Nat):List Nat->Bool
 |[]=>true
 |i::l=>(eH ch i|| !Nat.blt i m)&&JK m ch l
def Rl(m0:Nat)(s:St):List Nat->List (Nat×List Sh)->(List Lf->Prop)->Prop
 |_,[],K=>K []
 |ids,(t,ss)::r,K=>match qe s.E t with
  |some (.v (.l (.p id 0)))=>match Nat.blt id m0,eH ids id with
   |false,false=>match cE s.L id with
    |some cs=>match Nat.beq (xA cs) (ET.Ad ss)with
     |true=>Rl m0 s (id::ids) r fun vs=>K (.q (some ⟨eM s.ρ id,0,none⟩) 0::(cs++vs))
     |false=>False
    |none=>False
   |_,_=>False
  |_=>False
def act(a:An)(s0 s:St)(K:List Lf->Prop):Prop:=
 match JK s0.m a.ch (sa s0.md s.md)with
 |true=>ET s.E a.oO fun vs=>Ni s.L a.ch s0.L fun pP=>Rl s0.m s [] a.nv fun Vw=>K (vs++(pP++Vw))
 |false=>False
def Nk(a:An)(L:List (Nat×List Lf)):List Sh:=qf a.oO++(Ae a.ch L++abz a.nv)
def anT:List (Nat×An)->Nat->Option An
 |[],_=>none
 |(p,a)::r,n=>match Nat.beq p n with
  |true=>some a
  |false=>anT r n
def HB(P:Program)(n:Nat)(an:Nat->Option An):Code->Nat->(St->Prop)->(Nat->St->Prop)->(St->Prop)->St->Prop
 | .skip,_,kn,_,_,s=>kn s
 | .region _ ops draw,_,kn,_,_,s=>Vu P n ops.toList draw s kn
 | .seq a b,p,kn,kx,kr,s=>match an p with
   |none=>HB P n an a (2*p) (fun s'=>HB P n an b (2*p+1) kn kx kr s') kx kr s
   |some x=>sync s fun s=>∃J:En (Nk x s.L),HB P n an a (2*p) (fun s'=>sync s' fun s'=>act x s s' fun vs=>qT s'.ρ _ J vs s'.h) kx kr s/\
    vL _ J fun vs J'=>∀h':Heap,J' h'->bld n x (writes a) vs {s with h:=h'} fun s2=>Vars h' (kh s2.ρ s2.L)->HB P n an b (2*p+1) kn kx kr s2
 | .cond c a b,p,kn,kx,kr,s=>match lf s.E c with
   |some (.b x k)=>brB x k s c (fun s=>HB P n an a (2*p) kn kx kr s) (fun s=>HB P n an b (2*p+1) kn kx kr s)
   |_=>False
 | .block id c,p,kn,kx,kr,s=>HB P n an c (2*p) kn (fun i s'=>match Nat.beq i id with
   |true=>kn s'
   |false=>kx i s') kr s
 | .loop c,p,_,kx,kr,s=>match an p with
   |some x=>sync s fun s=>∃J:Nat->En (Nk x s.L),(∃n0:Nat,act x s s fun vs=>qT s.ρ _ (J n0) vs s.h)/\
    ∀m0:Nat,vL _ (J m0) fun vs J'=>∀h':Heap,J' h'->bld n x (writes c) vs {s with h:=h'} fun s2=>Vars h' (kh s2.ρ s2.L)->
     HB P n an c (2*p) (fun s'=>sync s' fun s'=>∃m:Nat,m<m0/\act x s s' fun vs=>qT s'.ρ _ (J m) vs s'.h) kx kr s2
   |none=>False
 | .exit id,_,_,kx,_,s=>kx id s
 | .ret,_,_,_,kr,s=>kr s
 | .label _,_,kn,_,_,s=>kn s
 |_,_,_,_,_,_=>False
def tL(ρ:List Nat):List Tv->List Value
 |[]=>[]
 |x::xs=>x.val ρ::tL ρ xs
def EU(m:Nat):List Tv->Bool
 |[]=>true
 |x::xs=>x.ok m&&EU m xs
def vM(P:Program)(K:Value->Heap->Prop):List ResultVar->List Tv->St->Prop
 |[],acc,s=>sync s fun s=>match EU (iA s.ρ) acc with
  |true=>K (oneOf (tL s.ρ acc).reverse) s.h
  |false=>False
 | .tmp t::rs,acc,s=>match qe s.E t with
   |some x=>vM P K rs (x::acc) s
   |none=>False
 | .cell a t::rs,acc,s=>match lf s.E (.tmp a)with
   |some (.p id off)=>match cE s.L id with
    |some cs=>match gV P t with
     |true=>match ld cs off 1 with
      |some [y]=>vM P K rs (.v (.l y)::acc) s
      |_=>False
     |false=>match qQ P t with
      |some n=>match ld cs off n with
       |some ys=>vM P K rs (.v (.a ys)::acc) s
       |none=>False
      |none=>False
    |none=>False
   |_=>False
def Rm(args:List Tv)(L:List (Nat×List Lf))(ρ:List Nat)(h:Heap):St:=⟨Nl args 0,L,ρ,iA ρ,0,[],[],false,h⟩
where
 Nl:List Tv->Nat->List (Nat×Option Tv)
  |[],_=>[]
  |x::xs,i=>(i,some x)::Nl xs (i+1)
end Go.Mx
