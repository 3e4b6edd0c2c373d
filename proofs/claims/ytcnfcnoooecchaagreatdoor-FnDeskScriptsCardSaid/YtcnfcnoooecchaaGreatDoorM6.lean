import Derived.Test.YtcnfcnoooecchaaGreatDoorM2
set_option linter.unusedVariables false
set_option linter.unusedSimpArgs false
set_option linter.constructorNameAsVariable false
namespace Go.Mx
inductive Cp where
 |p (id off:Nat)
 |v (x:Value)
inductive Lf where
 |i (k:IntKind) (x:Int)
 |b (x:Bool) (kn:Option (Bool×Bool))
 |s (x:ByteArray)
 |sl (x:Sl)
 |p (id off:Nat)
 |e (x:Sl) (i:Int) (sz:Nat) (off:Option Nat)
 |f (fn:Fn) (fs cs:List Cp)
 |r (v:Value)
 |q (a:Option Addr) (e:TypeId)
 |m (r:Option Nat)
 |u
inductive Av where
 |l (x:Lf)
 |a (xs:List Lf)
inductive Tv where
 |v (x:Av)
 |t (xs:List Av)
def gf:List Nat->Nat->Nat
 |[],_=>0
 |b::_,0=>b
 |_::ρ,n+1=>gf ρ n
def Cp.v'(ρ:List Nat):Cp->Value
 | .p id off=>VP (gf ρ id) off
 | .v x=>x
def H9(ρ:List Nat):List Cp->List Value
 |[]=>[]
 |c::cs=>c.v' ρ::H9 ρ cs
def Lf.v(ρ:List Nat):Lf->Value
 | .i k x=> .int k x
 | .b x _=> .bool x
 | .s x=> .string x
 | .sl x=>x.v
 | .p id off=>VP (gf ρ id) off
 | .e x j sz none=> .pointer (some (x.at j sz))
 | .e x j sz (some o)=> .pointer (some ((x.at j sz).add o))
 | .f fn fs cs=> .func fn (H9 ρ fs).toArray (H9 ρ cs).toArray
 | .r v=>v
 | .q a _=> .pointer a
 | .m z=> .map z
 | .u=>undef
def eW(ρ:List Nat):List Lf->List Value
 |[]=>[]
 |x::xs=>x.v ρ::eW ρ xs
def Av.v(ρ:List Nat):Av->Value
 | .l x=>x.v ρ
 | .a xs=> .agg (eW ρ xs).toArray
def X4(ρ:List Nat):List Av->List Value
 |[]=>[]
 |x::xs=>x.v ρ::X4 ρ xs
def Tv.val(ρ:List Nat):Tv->Value
 | .v x=>x.v ρ
 | .t xs=> .tuple (X4 ρ xs).toArray
def mn(ρ:List Nat):List (Nat×List Lf)->List (Nat×List Value)
 |[]=>[]
 |(id,xs)::L=>(gf ρ id,eW ρ xs)::mn ρ L
def Qh(m:Nat):Cp->Bool
 | .p id _=>Nat.blt id m
 | .v _=>true
def qp(m:Nat):List Cp->Bool
 |[]=>true
 |c::cs=>Qh m c&&qp m cs
def Lf.ok(m:Nat):Lf->Bool
 | .p id _=>Nat.blt id m
 | .f _ fs cs=>qp m fs&&qp m cs
 |_=>true
def cY(m:Nat):List Lf->Bool
 |[]=>true
 |x::xs=>x.ok m&&cY m xs
def Av.ok(m:Nat):Av->Bool
 | .l x=>x.ok m
 | .a xs=>cY m xs
def qt(m:Nat):List Av->Bool
 |[]=>true
 |x::xs=>x.ok m&&qt m xs
def Tv.ok(m:Nat):Tv->Bool
 | .v x=>x.ok m
 | .t xs=>qt m xs
def u6(m:Nat):List (Nat×List Lf)->Bool
 |[]=>true
 |(id,xs)::L=>Nat.blt id m&&cY m xs&&u6 m L
def Lf.fact:Lf->Prop
 | .b x (some (v,_))=>x=v
 |_=>True
def dL:List Lf->Prop
 |[]=>True
 |x::xs=>x.fact/\dL xs
def Av.fact:Av->Prop
 | .l x=>x.fact
 | .a xs=>dL xs
def zB:List Av->Prop
 |[]=>True
 |x::xs=>x.fact/\zB xs
def Tv.fact:Tv->Prop
 | .v x=>x.fact
 | .t xs=>zB xs
def ra:List (Nat×List Lf)->Prop
 |[]=>True
 |(_,xs)::L=>dL xs/\ra L
inductive Sh where
 |i (k:IntKind)|b|s|sl|r|q (e:TypeId)|m|n
inductive As where
 |l (x:Sh)
 |a (xs:List Sh)
inductive Ts where
 |v (x:As)
 |t (xs:List As)
def exS:Sh->(Lf->Prop)->Prop
 | .i k,Q=>∃x:Int,Q (.i k x)
 | .b,Q=>∃x:Bool,Q (.b x none)
 | .s,Q=>∃x:ByteArray,Q (.s x)
 | .sl,Q=>∃x:Sl,Q (.sl x)
 | .r,Q=>∃x:Value,Q (.r x)
 | .q e,Q=>∃x:Option Addr,Q (.q x e)
 | .m,Q=>∃x:Option Nat,Q (.m x)
 | .n,Q=>∃b:Nat,Q (.q (some ⟨b,0,none⟩) 0)
def exL:List Sh->(List Lf->Prop)->Prop
 |[],Q=>Q []
 |s::ss,Q=>exS s fun x=>exL ss fun xs=>Q (x::xs)
def exA:As->(Av->Prop)->Prop
 | .l s,Q=>exS s fun x=>Q (.l x)
 | .a ss,Q=>exL ss fun xs=>Q (.a xs)
def YV:List As->(List Av->Prop)->Prop
 |[],Q=>Q []
 |s::ss,Q=>exA s fun x=>YV ss fun xs=>Q (x::xs)
def C7:Ts->(Tv->Prop)->Prop
 | .v s,Q=>exA s fun x=>Q (.v x)
 | .t ss,Q=>YV ss fun xs=>Q (.t xs)
def AL(P:Program):Nat->TypeId->List Sh
 |0,_=>[]
 |n+1,t=>match P.underlying t with
  |some (.int k)=>[.i k]
  |some .bool=>[.b]
  |some .string=>[.s]
  |some (.slice _)=>[.sl]
  |some (.pointer e)=>[.q e]
  |some (.map _ _)=>[.m]
  |some (.struct fs)=>X5 (fs.toList.map fun f=>AL P n f.type)
  |some (.array k e)=>X6 k (AL P n e)
  |_=>[.r]
where
 X5:List (List Sh)->List Sh
  |[]=>[]
  |x::xs=>x++X5 xs
 X6:Nat->List Sh->List Sh
  |0,_=>[]
  |k+1,x=>x++X6 k x
def UQ(P:Program)(t:TypeId):As:=
 match P.underlying t with
 |some (.int k)=> .l (.i k)
 |some .bool=> .l .b
 |some .string=> .l .s
 |some (.slice _)=> .l .sl
 |some (.pointer e)=> .l (.q e)
 |some (.map _ _)=> .l .m
 |some (.struct _)=> .a (AL P 20 t)
 |some (.array _ _)=> .a (AL P 20 t)
 |_=> .l .r
def X7(P:Program):List TypeId->List As
 |[]=>[]
 |t::ts=>UQ P t::X7 P ts
def ij(P:Program)(t:TypeId):Option Ts:=
 match P.underlying t with
 |some (.tuple ts)=>match ts.toList with
  |[]=>none
  |ts=>some (.t (X7 P ts))
 |_=>some (.v (UQ P t))
structure St where
 E:List (Nat×Option Tv)
 L:List (Nat×List Lf)
 ρ:List Nat
 m:Nat
 nw:Nat
 so:List Nat
 md:List Nat
 d:Bool
 h:Heap
def tL:List (Nat×Option Tv)->Nat->Option Tv
 |[],_=>none
 |(d,x)::E,t=>match Nat.beq d t with
  |true=>x
  |false=>tL E t
def qB:Nat->List Nat->(List Nat->Prop)->Prop
 |0,ρ,k=>k ρ
 |n+1,ρ,k=>∀b:Nat,qB n (ρ++[b]) k
def YW(h:Heap):List Nat->Prop->Prop
 |[],Q=>Q
 |b::bs,Q=>h.size<=b->YW h bs Q
def UR:List Nat->List Nat->List Nat
 |[],ρ=>ρ
 |_::xs,_::ρ=>UR xs ρ
 |_::_,[]=>[]
def yG(ρ:List Nat):List Nat->List Nat
 |[]=>[]
 |i::is=>gf ρ i::yG ρ is
def sync(s:St)(k:St->Prop):Prop:=
 match s.d with
 |false=>k s
 |true=>qB s.nw s.ρ fun ρ=>∀h':Heap,YW s.h (UR s.ρ ρ) (Fr (In (yG ρ s.so)) s.h h'->Vars h' (mn ρ s.L)->k {s with ρ:=ρ,nw:=0,so:=[],d:=false,h:=h'})
def Qi:Value->Lf
 | .int k n=> .i k n
 | .bool b=> .b b (some (b,true))
 | .string x=> .s x
 | .slice a n c=> .sl ⟨a,n,c⟩
 | .pointer a=> .q a 0
 | .map r=> .m r
 |v=> .r v
def AM:List Value->List Lf
 |[]=>[]
 |v::vs=>Qi v::AM vs
def AN(E:List (Nat×Option Tv)):Operand->Option Tv
 | .tmp t=>tL E t
 | .const v=>some (.v (.l (Qi v)))
 | .global g=>some (.v (.l (.r (.pointer (some ⟨g,0,none⟩)))))
 | .func f=>some (.v (.l (.f (.func f) [] [])))
def Hs(ρ:List Nat)(E:List (Nat×Option Tv))(x:Operand):Value:=
 match AN E x with
 |some y=>y.val ρ
 |none=>undef
def KC(m:Nat)(E:List (Nat×Option Tv)):List Operand->Bool
 |[]=>true
 |x::xs=>(match AN E x with
  |some y=>y.ok m
  |none=>false)&&KC m E xs
def lf(E:List (Nat×Option Tv))(x:Operand):Option Lf:=
 match AN E x with
 |some (.v (.l y))=>some y
 |_=>none
def Qj:Operand->Bool
 | .const (.int _ (.ofNat (_+1)))=>true
 | .const (.int _ (.negSucc _))=>true
 |_=>false
def flag(E:List (Nat×Option Tv))(c:Operand)(v:Bool):List (Nat×Option Tv):=
 match c with
 | .tmp t=>match tL E t with
   |some (.v (.l (.b x _)))=>(t,some (.v (.l (.b x (some (v,false))))))::E
   |_=>E
 |_=>E
def zC:Lf->Bool
 | .r v=>gQ v
 | .u=>false
 |_=>true
def vn:List Lf->Bool
 |[]=>true
 |x::xs=>zC x&&vn xs
def AO:Tv->Option (List Lf)
 | .v (.l x)=>match zC x with
   |true=>some [x]
   |false=>none
 | .v (.a xs)=>match vn xs with
   |true=>some xs
   |false=>none
 | .t _=>none
def AP:List Lf->Nat
 |[]=>0
 |_::xs=>AP xs+1
def nE:List Lf->Nat->Nat->Option (List Lf)
 |_,0,0=>some []
 |x::xs,0,n+1=>match nE xs 0 n with
  |some r=>some (x::r)
  |none=>none
 |_::xs,o+1,n=>nE xs o n
 |[],_,_=>none
def lr:List Lf->Nat->List Lf->Option (List Lf)
 |cs,0,[]=>some cs
 |_::cs,0,v::vs=>match lr cs 0 vs with
  |some r=>some (v::r)
  |none=>none
 |c::cs,n+1,vs=>match lr cs n vs with
  |some r=>some (c::r)
  |none=>none
 |[],_,_=>none
def dM:List (Nat×List Lf)->Nat->Option (List Lf)
 |[],_=>none
 |(i,xs)::L,id=>match Nat.beq i id with
  |true=>some xs
  |false=>dM L id
def za:List (Nat×List Lf)->Nat->List Lf->List (Nat×List Lf)
 |[],_,_=>[]
 |(i,xs)::L,id,ys=>match Nat.beq i id with
  |true=>(i,ys)::L
  |false=>(i,xs)::za L id ys
def zD:List Cp->List Nat
 |[]=>[]
 | .p id _::cs=>id::zD cs
 | .v _::cs=>zD cs
def Lf.reach:Lf->List Nat
 | .p id _=>[id]
 | .f _ fs cs=>zD cs++zD fs
 |_=>[]
def Ia:List Lf->List Nat
 |[]=>[]
 |x::xs=>x.reach++Ia xs
def Av.reach:Av->List Nat
 | .l x=>x.reach
 | .a xs=>Ia xs
def Ib:List Av->List Nat
 |[]=>[]
 |x::xs=>x.reach++Ib xs
def Tv.reach:Tv->List Nat
 | .v x=>x.reach
 | .t xs=>Ib xs
def ja(E:List (Nat×Option Tv)):List Operand->List Nat
 |[]=>[]
 |x::xs=>(match AN E x with
  |some y=>y.reach
  |none=>[])++ja E xs
def ah8:Lf->Sh
 | .i k _=> .i k
 | .b _ _=> .b
 | .s _=> .s
 | .sl _=> .sl
 | .q _ e=> .q e
 | .m _=> .m
 |_=> .r
def rc:List Lf->List Sh
 |[]=>[]
 |x::xs=>ah8 x::rc xs
def sS(ids:List Nat):List (Nat×List Lf)->(List (Nat×List Lf)->Prop)->Prop
 |[],Q=>Q []
 |(i,xs)::L,Q=>match ga ids i with
  |true=>exL (rc xs) fun ys=>sS ids L fun L'=>Q ((i,ys)::L')
  |false=>sS ids L fun L'=>Q ((i,xs)::L')
def Qk(s:St)(k:St->Tv->Prop)(x:Lf):Prop:=k s (.v (.l x))
def brB(x:Bool)(kn:Option (Bool×Bool))(s:St)(c:Operand)(yes no:St->Prop):Prop:=
 match kn with
 |some (true,_)=>yes s
 |some (false,_)=>no s
 |none=>(x=true->yes {s with E:=flag s.E c true})/\(x=false->no {s with E:=flag s.E c false})
def exR(P:Program)(ρ:List Nat)(rv:Value)(t:Option Ts)(k:Tv->Prop):Prop:=
 match t with
 |some t=>C7 t fun x=>rv=x.val ρ/\k x
 |none=>k (.v (.l (.r rv)))
def ou(P:Program)(s:St)(op:Op)(ty:TypeId)(rt:Option Ts)(k:St->Tv->Prop):Prop:=
 match iX op,mO op with
 |none,none=>match lD gN 0 op with
  |some _=>match KC (jW s.ρ) s.E op.operands.toList with
   |true=>match lD (Hs s.ρ s.E) ty op with
    |some q=>pop P q fun rv=>exR P s.ρ rv rt fun x=>k s x
    |none=>False
   |false=>False
  |none=>sync s fun s=>match KC (jW s.ρ) s.E op.operands.toList with
   |true=>match qE (Hs s.ρ s.E) op with
    |some q=>Da P q s.h fun rv=>exR P s.ρ rv rt fun x=>k s x
    |none=>match HA (Hs s.ρ s.E) ty op with
     |some q=>j5 P q s.h fun rv h'=>aeM P s rv h' rt fun x=>k {s with h:=h'} x
     |none=>match HB (Hs s.ρ s.E) op with
      |some q=>Hz P q s.h fun rv h'=>Vars h' (mn s.ρ s.L)/\k {s with h:=h'} (.v (.l .u))
      |none=>False
   |false=>False
 |_,_=>False
where
 aeM (P:Program) (s:St) (rv:Value) (h':Heap) (t:Option Ts) (k:Tv->Prop):Prop:=
  match t with
  |some t=>C7 t fun x=>rv=x.val s.ρ/\Vars h' (mn s.ρ s.L)/\k x
  |none=>Vars h' (mn s.ρ s.L)/\k (.v (.l (.r rv)))
def Qm(P:Program)(s:St)(f:Operand)(args:List Operand)(ty:TypeId)(k:St->Tv->Prop):Prop:=
 sync s fun s=>match KC (jW s.ρ) s.E (f::args)with
  |false=>False
  |true=>aeN P (Hs s.ρ s.E f) f (pA (Hs s.ρ s.E) args) s.h fun rv h'=>
   sS (ja s.E (args++[f])) s.L fun L'=>match ij P ty with
    |some t=>C7 t fun x=>rv=x.val s.ρ/\Vars h' (mn s.ρ L')/\k {s with L:=L',md:=ja s.E (args++[f])++s.md,h:=h'} x
    |none=>Vars h' (mn s.ρ L')/\k {s with L:=L',md:=ja s.E (args++[f])++s.md,h:=h'} (.v (.l (.r rv)))
where
 aeN (P:Program) (fv:Value) (f:Operand) (xs:List Value) (h:Heap) (K:aL):Prop:=
  match f with
  | .func n=>aG P n xs.toArray h K
  |_=>iW P fv xs h K
def YX(P:Program)(s:St)(o:BinOp)(k:IntKind)(a b:Int)(YY:Bool)(K:Lf->Prop)(raw:Prop):Prop:=
 match o with
 | .add=>K (.i k (k.wrap (a+b)))
 | .sub=>K (.i k (k.wrap (a-b)))
 | .mul=>K (.i k (k.wrap (a*b)))
 | .quo=>match YY with
   |true=>K (.i k (k.wrap (a.tdiv b)))
   |false=>b≠0/\K (.i k (k.wrap (a.tdiv b)))
 | .rem=>match YY with
   |true=>K (.i k (a.tmod b))
   |false=>b≠0/\K (.i k (a.tmod b))
 | .lss=>K (.b (decide (a<b)) none)
 | .leq=>K (.b (decide (a<=b)) none)
 | .gtr=>K (.b (decide (b<a)) none)
 | .geq=>K (.b (decide (b<=a)) none)
 | .eql=>K (.b (decide (a=b)) none)
 | .neq=>K (.b (!decide (a=b)) none)
 |_=>raw
def YZ(P:Program)(s:St)(o:BinOp)(t:TypeId)(y:Operand)(A B:Option Lf)(K:Lf->Prop)(raw:Prop):Prop:=
 match A,B with
 |some (.i k a),some (.i k' b)=>match decide (k=k')with
  |true=>YX P s o k a b (Qj y) K raw
  |false=>raw
 |some (.b a _),some (.b b _)=>match P.underlying t with
  |some .bool=>match o with
   | .eql=>K (.b (a==b) none)
   | .neq=>K (.b (!(a==b)) none)
   |_=>raw
  |_=>raw
 |some (.s a),some (.s b)=>match o with
  | .add=>a.size+b.size<=9223372036854775807/\K (.s (a++b))
  | .eql=>K (.b (a.toList==b.toList) none)
  | .neq=>K (.b (!(a.toList==b.toList)) none)
  |_=>raw
 |_,_=>raw
def US:Option (Bool×Bool)->Option (Bool×Bool)
 |some (v,true)=>some (!v,true)
 |_=>none
def Y0(s:St)(cs:List Lf)(k:St->Tv->Prop):Prop:=
 k {s with L:=(s.m,cs)::s.L,m:=s.m+1,nw:=s.nw+1,d:=true} (.v (.l (.p s.m 0)))
def loadT(P:Program)(s:St)(t:TypeId)(x:Option Lf)(k:St->Tv->Prop)(raw:Prop):Prop:=
 match x with
 |some (.p id off)=>match dM s.L id with
  |some cs=>match jv P t with
   |true=>match nE cs off 1 with
    |some [y]=>k s (.v (.l y))
    |_=>False
   |false=>match uw P t with
    |some n=>match nE cs off n with
     |some ys=>k s (.v (.a ys))
     |none=>False
    |none=>False
  |none=>False
 |some (.e x i sz off)=>sync s fun s=>match jv P t with
  |true=>match UQ P t with
   | .l sh=>exS sh fun y=>bG s.h (TV x i sz off)=some (y.v s.ρ)/\k s (.v (.l y))
   | .a _=>False
  |false=>match uw P t,UQ P t with
   |some n,.a ss=>exL ss fun ys=>match Nat.beq (AP ys) n with
    |true=>pM s.h (TV x i sz off) (eW s.ρ ys)/\k s (.v (.a ys))
    |false=>False
   |_,_=>False
 |_=>raw
where
 TV (x:Sl) (i:Int) (sz:Nat):Option Nat->Addr
  |none=>x.at i sz
  |some o=>(x.at i sz).add o
def storeT(P:Program)(s:St)(t:TypeId)(x:Option Lf)(w:Option Tv)(k:St->Tv->Prop)(raw:Prop):Prop:=
 match x with
 |some (.p id off)=>match dM s.L id,w with
  |some cs,some w=>match AO w,nN P t with
   |some vs,some n=>match Nat.beq (AP vs) n with
    |true=>match lr cs off vs with
     |some nB=>k {s with L:=za s.L id nB,so:=(match Nat.blt id (jW s.ρ)with|true=>id::s.so|false=>s.so),md:=id::s.md,d:=true} (.v (.l .u))
     |none=>False
    |false=>False
   |_,_=>False
  |_,_=>False
 |some (.e x i sz off)=>match w with
  |some (.v (.l y))=>match zC y,nN P t with
   |true,some 1=>sync s fun s=>match y.ok (jW s.ρ)with
    |true=>(fC s.h (loadT.TV x i sz off)/\Vars (dS s.h (loadT.TV x i sz off) (y.v s.ρ)) (mn s.ρ s.L)/\
     ∀h2:Heap,h2=dS s.h (loadT.TV x i sz off) (y.v s.ρ)->Vars h2 (mn s.ρ s.L)->k {s with h:=h2} (.v (.l .u)))
    |false=>False
   |_,_=>raw
  |_=>raw
 |_=>raw
def Mt(P:Program)(t:TypeId):Option (List Lf):=
 match qW P t with
 |some z=>some (AM z.cells.toList)
 |none=>none
def aeO:Option Tv->Option Cp
 |some (.v (.l (.p id off)))=>some (.p id off)
 |some (.v (.l (.i k x)))=>some (.v (.int k x))
 |some (.v (.l (.b x _)))=>some (.v (.bool x))
 |some (.v (.l (.s x)))=>some (.v (.string x))
 |some (.v (.l (.sl x)))=>some (.v x.v)
 |some (.v (.l (.r x)))=>some (.v x)
 |some (.v (.l (.q x _)))=>some (.v (.pointer x))
 |some (.v (.l (.m x)))=>some (.v (.map x))
 |_=>none
def DO(E:List (Nat×Option Tv)):List Operand->Option (List Cp)
 |[]=>some []
 |x::xs=>match aeO (AN E x),DO E xs with
  |some c,some cs=>some (c::cs)
  |_,_=>none
def Oj:List Av->Nat->Option Av
 |[],_=>none
 |x::_,0=>some x
 |_::xs,n+1=>Oj xs n
def Ic(P:Program)(fs:Array Field)(E:List (Nat×Option Tv))(cs:List Lf):List (Nat×Operand)->Option (List Lf)
 |[]=>some cs
 |(i,x)::ps=>match fs[i]?,AN E x with
  |some f,some w=>match AO w,nN P f.type with
   |some vs,some n=>match Nat.beq (AP vs) n with
    |true=>match lr cs f.offset vs with
     |some nB=>Ic P fs E nB ps
     |none=>none
    |false=>none
   |_,_=>none
  |_,_=>none
def vo(P:Program):List Field->Bool
 |[]=>true
 |f::fs=>(match nN P f.type with|some _=>true|none=>false)&&vo P fs
def Ie(P:Program)(s:St)(x:Operand)(v:Option Addr)(e:TypeId)(k:St->Tv->Prop):Prop:=
 sync s fun s=>∃b:Nat,exL (AL P 20 e) fun ys=>v=some ⟨b,0,none⟩/\Vars s.h ((b,eW s.ρ ys)::mn s.ρ s.L)/\
  k {s with E:=Y1 s.E x s.m,L:=(s.m,ys)::s.L,ρ:=s.ρ++[b],m:=s.m+1} (.v (.l (.p s.m 0)))
where
 Y1 (E:List (Nat×Option Tv)) (x:Operand) (m:Nat):List (Nat×Option Tv):=
  match x with
  | .tmp t=>(t,some (.v (.l (.p m 0))))::E
  |_=>E
def Ig(P:Program)(s:St)(op:Op)(ty:TypeId)(k:St->Tv->Prop):Prop:=
 match op with
 | .move x=>match AN s.E x with
   |some y=>k s y
   |none=>False
 | .assign x=>match AN s.E x with
   |some y=>k s y
   |none=>False
 | .call ⟨.value f,args,ats⟩=>Qm P s f args.toList ty k
 | .call ⟨.builtin .len,args,ats⟩=>match args.toList,ats.toList with
   |[x],[t]=>match lf s.E x,P.underlying t with
    |some (.sl x),some (.slice _)=>k s (.v (.l (.i .i64 (x.n:Int))))
    |some (.s x),some .string=>k s (.v (.l (.i .i64 (x.size:Int))))
    |_,_=>ou P s op ty (ij P ty) k
   |_,_=>ou P s op ty (ij P ty) k
 | .binOp o t x y _=>YZ P s o t y (lf s.E x) (lf s.E y) (Qk s k) (ou P s op ty (match Nat.beq ty 0 with|true=>some (.v (.l .b))|false=>ij P ty) k)
 | .unOp o _ x=>match o,lf s.E x with
   | .not,some (.b x kn)=>k s (.v (.l (.b (!x) (US kn))))
   | .neg,some (.i kd x)=>k s (.v (.l (.i kd (kd.wrap (0-x)))))
   |_,_=>ou P s op ty (ij P ty) k
 | .pick c a b=>match lf s.E c with
   |some (.b x kn)=>brB x kn s c (fun s'=>match AN s.E a with|some y=>k s' y|none=>False) (fun s'=>match AN s.E b with|some y=>k s' y|none=>False)
   |_=>ou P s op ty (ij P ty) k
 | .nilCheck x=>match lf s.E x with
   |some (.p id off)=>k s (.v (.l (.p id off)))
   |some (.e x i sz off)=>k s (.v (.l (.e x i sz off)))
   |some (.q v e)=>Ie P s x v e k
   |_=>ou P s op ty (ij P ty) k
 | .makeFunc fn first cap=>match DO s.E first.toList,DO s.E cap.toList with
   |some fs,some cs=>k s (.v (.l (.f fn fs cs)))
   |_,_=>False
 | .fieldAddr t x i=>match lf s.E x,AG P t i with
   |some (.p id off),some o=>k s (.v (.l (.p id (off+o))))
   |some (.e x j sz none),some o=>k s (.v (.l (.e x j sz (some o))))
   |_,_=>ou P s op ty (ij P ty) k
 | .indexAddr t x ix=>match lf s.E x,lf s.E ix,P.underlying t with
   |some (.sl x),some (.i _ j),some (.slice e)=>match nN P e with
    |some sz=>fq x j/\k s (.v (.l (.e x j sz none)))
    |none=>False
   |_,_,_=>ou P s op ty (ij P ty) k
 | .extract t ix=>match AN s.E t with
   |some (.t xs)=>match Oj xs ix with
    |some y=>k s (.v y)
    |none=>False
   |_=>ou P s op ty (ij P ty) k
 | .field t x i=>match AN s.E x,P.underlying t with
   |some (.v (.a xs)),some (.struct fs)=>match fs[i]? with
    |some f=>match jv P f.type with
     |true=>match nE xs f.offset 1 with
      |some [y]=>k s (.v (.l y))
      |_=>False
     |false=>match uw P f.type with
      |some n=>match nE xs f.offset n with
       |some ys=>k s (.v (.a ys))
       |none=>False
      |none=>False
    |none=>False
   |_,_=>ou P s op ty (ij P ty) k
 | .build t parts=>match P.underlying t,Mt P t with
   |some (.struct fs),some zs=>match vo P fs.toList,Ic P fs s.E zs parts.toList with
    |true,some cs=>k s (.v (.a cs))
    |_,_=>False
   |_,_=>ou P s op ty (ij P ty) k
 | .load t x=>loadT P s t (lf s.E x) k (ou P s op ty (ij P ty) k)
 | .store t x v=>storeT P s t (lf s.E x) (AN s.E v) k (ou P s op ty none k)
 | .box t v=>match AN s.E v with
   |some y=>match AO y with
    |some cs=>Y0 s cs k
    |none=>False
   |none=>False
 | .alloc t=>match Mt P t with
   |some cs=>Y0 s cs k
   |none=>False
 | .buildSlice t _ _=>ou P s op ty (ij P t) k
 | .makeSlice t _ _=>ou P s op ty (ij P t) k
 | .convert _ dst _=>ou P s op ty (ij P dst) k
 | .slice t _ _ _ _=>ou P s op ty (match Nat.beq ty 0 with|true=>ij P t|false=>ij P ty) k
 |_=>ou P s op ty (ij P ty) k
def zc(n:Nat)(s:St)(dst:Option Tmp)(x:Tv):St:=
 match dst with
 |some d=>match Nat.blt d n with
  |true=>{s with E:=(d,some x)::s.E}
  |false=>s
 |none=>s
def Ih(P:Program)(ops:List Oper)(s:St)(o:Oper)(k:St->Tv->Prop):Prop:=
 match o.guard with
 |none=>Ig P s o.op o.type k
 |some (j,want)=>match Al ops j with
  |none=>k s (.v (.l .u))
  |some t=>match tL s.E t with
   |some (.v (.l (.b x kn)))=>brB x kn s (.tmp t)
    (fun s'=>match want with|true=>Ig P s' o.op o.type k|false=>k s' (.v (.l .u)))
    (fun s'=>match want with|true=>k s' (.v (.l .u))|false=>Ig P s' o.op o.type k)
   |some (.v (.l .u))=>k s (.v (.l .u))
   |_=>False
def tIn(P:Program)(n:Nat)(ops:List Oper):List Oper->St->(St->Prop)->Prop
 |[],s,K=>K s
 |o::os,s,K=>Ih P ops s o fun s' x=>tIn P n ops os (zc n s' o.dst x) K
inductive Ht where
 |X8
 |bad
 |au (id off:Nat) (t:TypeId) (ys:List Lf)
 |ce (a:Addr) (v:Value)
 |cs (a:Addr) (vs:List Value)
 |se (q:Sem Value) (v:Value)
def vp(P:Program)(s:St)(op:Op)(x:Tv):Ht:=
 match op with
 | .load t a=>match lf s.E a with
   |some (.p id off)=>match dM s.L id with
    |some cs=>match jv P t with
     |true=>match nE cs off 1 with
      |some [y]=> .au id off t [y]
      |_=> .bad
     |false=>match uw P t with
      |some n=>match nE cs off n with
       |some ys=> .au id off t ys
       |none=> .bad
      |none=> .bad
    |none=> .bad
   |some (.e y i sz off)=>match x.ok (jW s.ρ),x with
    |true,.v (.l z)=>match jv P t with
     |true=> .ce (loadT.TV y i sz off) (z.v s.ρ)
     |false=> .bad
    |true,.v (.a zs)=>match uw P t with
     |some n=>match Nat.beq (AP zs) n with
      |true=> .cs (loadT.TV y i sz off) (eW s.ρ zs)
      |false=> .bad
     |none=> .bad
    |_,_=> .bad
   |_=>Mu P s op x
 |_=>Mu P s op x
where
 Mu (P:Program) (s:St) (op:Op) (x:Tv):Ht:=
  match KC (jW s.ρ) s.E op.operands.toList,x.ok (jW s.ρ),qE (Hs s.ρ s.E) op with
  |true,true,some q=> .se q (x.val s.ρ)
  |_,_,_=> .bad
def KD(P:Program)(ops:List Oper)(s:St)(o:Oper)(x:Tv):Ht:=
 match o.guard with
 |none=>vp P s o.op x
 |some (j,want)=>match Al ops j with
  |none=> .X8
  |some t=>match tL s.E t with
   |some (.v (.l (.b _ (some (v,_)))))=>match v,want with
    |true,true=>vp P s o.op x
    |false,false=>vp P s o.op x
    |_,_=> .X8
   |some (.v (.l .u))=> .X8
   |_=> .bad
def DP(bf:List Nat):List (Nat×Ht)->List (Nat×Ht)
 |[]=>[]
 |(i,p)::S=>match ga bf i with
  |true=>DP bf S
  |false=>(i,p)::DP bf S
def DQ(P:Program)(h:Heap)(K:Prop):List (Nat×Ht)->Prop
 |[]=>K
 |(_,.ce a v)::S=>bG h a=some v/\DQ P h K S
 |(_,.cs a vs)::S=>pM h a vs/\DQ P h K S
 |(_,.bad)::S=>False
 |(_,.se q v)::S=>(∀w:World,w.heap=h->q.run P w= .ok v w)/\DQ P h K S
 |(_,_)::S=>DQ P h K S
def vq(a b:List Nat):List Nat:=takeN (jW b-jW a) b
where
 takeN:Nat->List Nat->List Nat
  |0,_=>[]
  |n+1,x::xs=>x::takeN n xs
  |_+1,[]=>[]
def rf(ids:List Nat):List (Nat×Ht)->Bool
 |[]=>true
 |(_,.au id _ _ _)::S=> ! ga ids id&&rf ids S
 |_::S=>rf ids S
def yH(P:Program)(n:Nat)(ops:List Oper)(K:St->Prop):Nat->List Bool->St->List (Nat×Ht)->Prop
 |0,l,s,_=>match bW ops 0 l with
  |[]=>K s
  |_::_=>False
 |m+1,l,s,S=>match eC (bW ops 0 l)with
  |some (i,o)=>Ih P ops s o fun s' x=>match rf (vq s.md s'.md) S with
   |true=>match yv o.op with
    |true=>yH P n ops K m (jV l i) (zc n s' o.dst x) S
    |false=>yH P n ops K m (jV l i) (zc n s' o.dst x) ((i,KD P ops s' o x)::S)
   |false=>False
  |none=>match bW ops 0 l with
   |[]=>K s
   |r::rs=>Kr (fun i o=>Ih P ops s o fun s' x=>match DP (yw ops o) S with
    |[]=>yH P n ops K m (jV l i) (zc n s' o.dst x) []
    |e::S'=>match rf (vq s.md s'.md) (e::S')with
     |true=>sync s' fun s'=>DQ P s'.h (yH P n ops K m (jV l i) (zc n s' o.dst x) (e::S')) (e::S')
     |false=>False) (r::rs)
def Y2(P:Program)(n:Nat)(ops:List Oper)(draw:Bool)(s:St)(K:St->Prop):Prop:=
 match draw with
 |false=>tIn P n ops ops s K
 |true=>match gP ops ops 0 with
  |true=>yH P n ops K (len ops) (pH ops) s []
  |false=>False
structure It where
 t:Nat
 sh:As
structure An where
 rh:List It
 ch:List Nat
 nv:List (Nat×List Sh)
def ov:List (Nat×List Sh)->List Nat
 |[]=>[]
 |(t,_)::r=>t::ov r
def aeQ:List (Nat×List Sh)->List Sh
 |[]=>[]
 |(_,ss)::r=> .n::(ss++aeQ r)
def KE:Lf->Option Nat
 | .q (some ⟨b,0,none⟩) _=>some b
 |_=>none
def oN:List It->List Nat
 |[]=>[]
 |x::xs=>x.t::oN xs
def X9:As->List Sh
 | .l x=>[x]
 | .a xs=>xs
def tM:List It->List Sh
 |[]=>[]
 |x::r=>X9 x.sh++tM r
def Df(ch:List Nat):List (Nat×List Lf)->List Sh
 |[]=>[]
 |(i,xs)::L=>match ga ch i with
  |true=>rc xs++Df ch L
  |false=>Df ch L
def Hv:List Sh->Type
 |[]=>Heap->Prop
 | .i _::r=>Int->Hv r
 | .b::r=>Bool->Hv r
 | .s::r=>ByteArray->Hv r
 | .sl::r=>Sl->Hv r
 | .r::r=>Value->Hv r
 | .q _::r=>Option Addr->Hv r
 | .m::r=>Option Nat->Hv r
 | .n::r=>Nat->Hv r
def uA(ρ:List Nat):(sig:List Sh)->Hv sig->List Lf->Heap->Prop
 |[],J,[],h=>J h
 | .i k::r,J,.i k' x::vs,h=>match decide (k=k')with
   |true=>uA ρ r (J x) vs h
   |false=>False
 | .b::r,J,.b x _::vs,h=>uA ρ r (J x) vs h
 | .s::r,J,.s x::vs,h=>uA ρ r (J x) vs h
 | .sl::r,J,.sl x::vs,h=>uA ρ r (J x) vs h
 | .r::r,J,x::vs,h=>uA ρ r (J (x.v ρ)) vs h
 | .q _::r,J,.q x _::vs,h=>uA ρ r (J x) vs h
 | .m::r,J,.m x::vs,h=>uA ρ r (J x) vs h
 | .n::r,J,x::vs,h=>match KE x with
   |some b=>uA ρ r (J b) vs h
   |none=>False
 |_,_,_,_=>False
def zd:(sig:List Sh)->Hv sig->(List Lf->(Heap->Prop)->Prop)->Prop
 |[],J,Q=>Q [] J
 | .i k::r,J,Q=>∀x:Int,zd r (J x) fun vs J'=>Q (.i k x::vs) J'
 | .b::r,J,Q=>∀x:Bool,zd r (J x) fun vs J'=>Q (.b x none::vs) J'
 | .s::r,J,Q=>∀x:ByteArray,zd r (J x) fun vs J'=>Q (.s x::vs) J'
 | .sl::r,J,Q=>∀x:Sl,zd r (J x) fun vs J'=>Q (.sl x::vs) J'
 | .r::r,J,Q=>∀x:Value,zd r (J x) fun vs J'=>Q (.r x::vs) J'
 | .q e::r,J,Q=>∀x:Option Addr,zd r (J x) fun vs J'=>Q (.q x e::vs) J'
 | .m::r,J,Q=>∀x:Option Nat,zd r (J x) fun vs J'=>Q (.m x::vs) J'
 | .n::r,J,Q=>∀b:Nat,zd r (J b) fun vs J'=>Q (.q (some ⟨b,0,none⟩) 0::vs) J'
def yI:List Sh->List Lf->(List Lf->List Lf->Prop)->Prop
 |[],vs,K=>K [] vs
 |_::ss,x::vs,K=>yI ss vs fun xs r=>K (x::xs) r
 |_::_,[],_=>False
def Ya:As->List Lf->(Av->List Lf->Prop)->Prop
 | .l _,x::vs,K=>K (.l x) vs
 | .l _,[],_=>False
 | .a ss,vs,K=>yI ss vs fun xs r=>K (.a xs) r
def KG(n:Nat)(E:List (Nat×Option Tv))(t:Nat)(x:Option Tv):List (Nat×Option Tv):=
 match Nat.blt t n with
 |true=>(t,x)::E
 |false=>E
def Ii(n:Nat):List Nat->List (Nat×Option Tv)->List (Nat×Option Tv)
 |[],E=>E
 |t::ts,E=>Ii n ts (KG n E t none)
def Y3(n:Nat):List It->List Lf->List (Nat×Option Tv)->(List Lf->List (Nat×Option Tv)->Prop)->Prop
 |[],vs,E,K=>K vs E
 |x::r,vs,E,K=>Ya x.sh vs fun y sP=>Y3 n r sP (KG n E x.t (some (.v y))) K
def Qn(ch:List Nat):List (Nat×List Lf)->List Lf->(List (Nat×List Lf)->List Lf->Prop)->Prop
 |[],vs,K=>K [] vs
 |(i,xs)::L,vs,K=>match ga ch i with
  |true=>yI (rc xs) vs fun ys sP=>Qn ch L sP fun L' r=>K ((i,ys)::L') r
  |false=>Qn ch L vs fun L' r=>K ((i,xs)::L') r
def UT(n:Nat):List (Nat×List Sh)->List Lf->St->(St->Prop)->Prop
 |[],_,s,K=>K s
 |(t,ss)::r,x::vs,s,K=>match KE x with
  |some b=>yI ss vs fun ys sP=>UT n r sP {s with E:=KG n s.E t (some (.v (.l (.p s.m 0)))),L:=(s.m,ys)::s.L,ρ:=s.ρ++[b],m:=s.m+1} K
  |none=>False
 |_::_,[],_,_=>False
def bld(n:Nat)(a:An)(ws:List Nat)(vs:List Lf)(s:St)(K:St->Prop):Prop:=
 Y3 n a.rh vs (Ii n ws s.E) fun sP E=>Qn a.ch s.L sP fun L Y4=>UT n a.nv Y4 {s with E:=E,L:=L,md:=a.ch++s.md} K
def Ij(E:List (Nat×Option Tv)):List It->(List Lf->Prop)->Prop
 |[],K=>K []
 |x::r,K=>match tL E x.t,x.sh with
  |some (.v (.l y)),.l _=>Ij E r fun vs=>K (y::vs)
  |some (.v (.a ys)),.a ss=>match Nat.beq (AP ys) (De ss)with
   |true=>Ij E r fun vs=>K (ys++vs)
   |false=>False
  |_,_=>False
where
 De:List Sh->Nat
  |[]=>0
  |_::xs=>De xs+1
def Qo(L:List (Nat×List Lf))(ch:List Nat):List (Nat×List Lf)->(List Lf->Prop)->Prop
 |[],K=>K []
 |(i,xs)::L0,K=>match ga ch i with
  |true=>match dM L i with
   |some cs=>match Nat.beq (AP cs) (AP xs)with
    |true=>Qo L ch L0 fun vs=>K (cs++vs)
    |false=>False
   |none=>False
  |false=>Qo L ch L0 K
def Mv(m:Nat)(ch:List Nat):List Nat->Bool
 |[]=>true
 |i::l=>(ga ch i|| !Nat.blt i m)&&Mv m ch l
def UU(m0:Nat)(s:St):List Nat->List (Nat×List Sh)->(List Lf->Prop)->Prop
 |_,[],K=>K []
 |ids,(t,ss)::r,K=>match tL s.E t with
  |some (.v (.l (.p id 0)))=>match Nat.blt id m0,ga ids id with
   |false,false=>match dM s.L id with
    |some cs=>match Nat.beq (AP cs) (Ij.De ss)with
     |true=>UU m0 s (id::ids) r fun vs=>K (.q (some ⟨gf s.ρ id,0,none⟩) 0::(cs++vs))
     |false=>False
    |none=>False
   |_,_=>False
  |_=>False
def act(a:An)(s0 s:St)(K:List Lf->Prop):Prop:=
 match Mv s0.m a.ch (vq s0.md s.md)with
 |true=>Ij s.E a.rh fun vs=>Qo s.L a.ch s0.L fun sP=>UU s0.m s [] a.nv fun Y4=>K (vs++(sP++Y4))
 |false=>False
def Qq(a:An)(L:List (Nat×List Lf)):List Sh:=tM a.rh++(Df a.ch L++aeQ a.nv)
def anT:List (Nat×An)->Nat->Option An
 |[],_=>none
 |(p,a)::r,n=>match Nat.beq p n with
  |true=>some a
  |false=>anT r n
def KH(P:Program)(n:Nat)(an:Nat->Option An):Code->Nat->(St->Prop)->(Nat->St->Prop)->(St->Prop)->St->Prop
 | .skip,_,kn,_,_,s=>kn s
 | .region _ ops draw,_,kn,_,_,s=>Y2 P n ops.toList draw s kn
 | .seq a b,p,kn,kx,kr,s=>match an p with
   |none=>KH P n an a (2*p) (fun s'=>KH P n an b (2*p+1) kn kx kr s') kx kr s
   |some x=>sync s fun s=>∃J:Hv (Qq x s.L),KH P n an a (2*p) (fun s'=>sync s' fun s'=>act x s s' fun vs=>uA s'.ρ _ J vs s'.h) kx kr s/\
    zd _ J fun vs J'=>∀h':Heap,J' h'->bld n x (writes a) vs {s with h:=h'} fun s2=>Vars h' (mn s2.ρ s2.L)->KH P n an b (2*p+1) kn kx kr s2
 | .cond c a b,p,kn,kx,kr,s=>match lf s.E c with
   |some (.b x k)=>brB x k s c (fun s=>KH P n an a (2*p) kn kx kr s) (fun s=>KH P n an b (2*p+1) kn kx kr s)
   |_=>False
 | .block id c,p,kn,kx,kr,s=>KH P n an c (2*p) kn (fun i s'=>match Nat.beq i id with
   |true=>kn s'
   |false=>kx i s') kr s
 | .loop c,p,_,kx,kr,s=>match an p with
   |some x=>sync s fun s=>∃J:Nat->Hv (Qq x s.L),(∃n0:Nat,act x s s fun vs=>uA s.ρ _ (J n0) vs s.h)/\
    ∀m0:Nat,zd _ (J m0) fun vs J'=>∀h':Heap,J' h'->bld n x (writes c) vs {s with h:=h'} fun s2=>Vars h' (mn s2.ρ s2.L)->
     KH P n an c (2*p) (fun s'=>sync s' fun s'=>∃m:Nat,m<m0/\act x s s' fun vs=>uA s'.ρ _ (J m) vs s'.h) kx kr s2
   |none=>False
 | .exit id,_,_,kx,_,s=>kx id s
 | .ret,_,_,_,kr,s=>kr s
 | .label _,_,kn,_,_,s=>kn s
 |_,_,_,_,_,_=>False
def wK(ρ:List Nat):List Tv->List Value
 |[]=>[]
 |x::xs=>x.val ρ::wK ρ xs
def Ik(m:Nat):List Tv->Bool
 |[]=>true
 |x::xs=>x.ok m&&Ik m xs
def ze(P:Program)(K:aL):List ResultVar->List Tv->St->Prop
 |[],acc,s=>sync s fun s=>match Ik (jW s.ρ) acc with
  |true=>K (oneOf (wK s.ρ acc).reverse) s.h
  |false=>False
 | .tmp t::rs,acc,s=>match tL s.E t with
   |some x=>ze P K rs (x::acc) s
   |none=>False
 | .cell a t::rs,acc,s=>match lf s.E (.tmp a)with
   |some (.p id off)=>match dM s.L id with
    |some cs=>match jv P t with
     |true=>match nE cs off 1 with
      |some [y]=>ze P K rs (.v (.l y)::acc) s
      |_=>False
     |false=>match uw P t with
      |some n=>match nE cs off n with
       |some ys=>ze P K rs (.v (.a ys)::acc) s
       |none=>False
      |none=>False
    |none=>False
   |_=>False
def UW(args:List Tv)(L:List (Nat×List Lf))(ρ:List Nat)(h:Heap):St:=⟨Qs args 0,L,ρ,jW ρ,0,[],[],false,h⟩
where
 Qs:List Tv->Nat->List (Nat×Option Tv)
  |[],_=>[]
  |x::xs,i=>(i,some x)::Qs xs (i+1)
end Go.Mx
