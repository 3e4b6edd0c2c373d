import Derived.Test.YtcnfcnoooecchaaGreatDoorM2
set_option linter.unusedVariables false
set_option linter.unusedSimpArgs false
set_option linter.constructorNameAsVariable false
namespace Go.Mx
inductive Cp where
 |p (id off:Nat)
 |v (x:Value)
inductive Lf where
 |i (k:IntKind) (x:Int)
 |b (x:Bool) (kn:Option (Bool×Bool))
 |s (x:ByteArray)
 |sl (x:Sl)
 |p (id off:Nat)
 |e (x:Sl) (i:Int) (sz:Nat) (off:Option Nat)
 |f (fn:Fn) (fs cs:List Cp)
 |r (v:Value)
 |q (a:Option Addr) (e:TypeId)
 |m (r:Option Nat)
 |u
inductive Av where
 |l (x:Lf)
 |a (xs:List Lf)
inductive Tv where
 |v (x:Av)
 |t (xs:List Av)
def eM:List Nat->Nat->Nat
 |[],_=>0
 |b::_,0=>b
 |_::ρ,n+1=>eM ρ n
def Cp.v'(ρ:List Nat):Cp->Value
 | .p id off=>VP (eM ρ id) off
 | .v x=>x
def Ez(ρ:List Nat):List Cp->List Value
 |[]=>[]
 |c::cs=>c.v' ρ::Ez ρ cs
def Lf.v(ρ:List Nat):Lf->Value
 | .i k x=> .int k x
 | .b x _=> .bool x
 | .s x=> .string x
 | .sl x=>x.v
 | .p id off=>VP (eM ρ id) off
 | .e x j sz none=> .pointer (some (x.at j sz))
 | .e x j sz (some o)=> .pointer (some ((x.at j sz).add o))
 | .f fn fs cs=> .func fn (Ez ρ fs).toArray (Ez ρ cs).toArray
 | .r v=>v
 | .q a _=> .pointer a
 | .m z=> .map z
 | .u=>undef
def dB(ρ:List Nat):List Lf->List Value
 |[]=>[]
 |x::xs=>x.v ρ::dB ρ xs
def Av.v(ρ:List Nat):Av->Value
 | .l x=>x.v ρ
 | .a xs=> .agg (dB ρ xs).toArray
def Ua(ρ:List Nat):List Av->List Value
 |[]=>[]
 |x::xs=>x.v ρ::Ua ρ xs
def Tv.val(ρ:List Nat):Tv->Value
 | .v x=>x.v ρ
 | .t xs=> .tuple (Ua ρ xs).toArray
def kb(ρ:List Nat):List (Nat×List Lf)->List (Nat×List Value)
 |[]=>[]
 |(id,xs)::L=>(eM ρ id,dB ρ xs)::kb ρ L
def MH(m:Nat):Cp->Bool
 | .p id _=>Nat.blt id m
 | .v _=>true
def nI(m:Nat):List Cp->Bool
 |[]=>true
 |c::cs=>MH m c&&nI m cs
def Lf.ok(m:Nat):Lf->Bool
 | .p id _=>Nat.blt id m
 | .f _ fs cs=>nI m fs&&nI m cs
 |_=>true
def bP(m:Nat):List Lf->Bool
 |[]=>true
 |x::xs=>x.ok m&&bP m xs
def Av.ok(m:Nat):Av->Bool
 | .l x=>x.ok m
 | .a xs=>bP m xs
def nJ(m:Nat):List Av->Bool
 |[]=>true
 |x::xs=>x.ok m&&nJ m xs
def Tv.ok(m:Nat):Tv->Bool
 | .v x=>x.ok m
 | .t xs=>nJ m xs
def rB(m:Nat):List (Nat×List Lf)->Bool
 |[]=>true
 |(id,xs)::L=>Nat.blt id m&&bP m xs&&rB m L
def Lf.fact:Lf->Prop
 | .b x (some (v,_))=>x=v
 |_=>True
def cD:List Lf->Prop
 |[]=>True
 |x::xs=>x.fact/\cD xs
def Av.fact:Av->Prop
 | .l x=>x.fact
 | .a xs=>cD xs
def vX:List Av->Prop
 |[]=>True
 |x::xs=>x.fact/\vX xs
def Tv.fact:Tv->Prop
 | .v x=>x.fact
 | .t xs=>vX xs
def oD:List (Nat×List Lf)->Prop
 |[]=>True
 |(_,xs)::L=>cD xs/\oD L
inductive Sh where
 |i (k:IntKind)|b|s|sl|r|q (e:TypeId)|m|n
inductive As where
 |l (x:Sh)
 |a (xs:List Sh)
inductive Ts where
 |v (x:As)
 |t (xs:List As)
def exS:Sh->(Lf->Prop)->Prop
 | .i k,Q=>∃x:Int,Q (.i k x)
 | .b,Q=>∃x:Bool,Q (.b x none)
 | .s,Q=>∃x:ByteArray,Q (.s x)
 | .sl,Q=>∃x:Sl,Q (.sl x)
 | .r,Q=>∃x:Value,Q (.r x)
 | .q e,Q=>∃x:Option Addr,Q (.q x e)
 | .m,Q=>∃x:Option Nat,Q (.m x)
 | .n,Q=>∃b:Nat,Q (.q (some ⟨b,0,none⟩) 0)
def exL:List Sh->(List Lf->Prop)->Prop
 |[],Q=>Q []
 |s::ss,Q=>exS s fun x=>exL ss fun xs=>Q (x::xs)
def exA:As->(Av->Prop)->Prop
 | .l s,Q=>exS s fun x=>Q (.l x)
 | .a ss,Q=>exL ss fun xs=>Q (.a xs)
def UZ:List As->(List Av->Prop)->Prop
 |[],Q=>Q []
 |s::ss,Q=>exA s fun x=>UZ ss fun xs=>Q (x::xs)
def zK:Ts->(Tv->Prop)->Prop
 | .v s,Q=>exA s fun x=>Q (.v x)
 | .t ss,Q=>UZ ss fun xs=>Q (.t xs)
def xj(P:Program):Nat->TypeId->List Sh
 |0,_=>[]
 |n+1,t=>match P.underlying t with
  |some (.int k)=>[.i k]
  |some .bool=>[.b]
  |some .string=>[.s]
  |some (.slice _)=>[.sl]
  |some (.pointer e)=>[.q e]
  |some (.map _ _)=>[.m]
  |some (.struct fs)=>Ub (fs.toList.map fun f=>xj P n f.type)
  |some (.array k e)=>Uc k (xj P n e)
  |_=>[.r]
where
 Ub:List (List Sh)->List Sh
  |[]=>[]
  |x::xs=>x++Ub xs
 Uc:Nat->List Sh->List Sh
  |0,_=>[]
  |k+1,x=>x++Uc k x
def QQ(P:Program)(t:TypeId):As:=
 match P.underlying t with
 |some (.int k)=> .l (.i k)
 |some .bool=> .l .b
 |some .string=> .l .s
 |some (.slice _)=> .l .sl
 |some (.pointer e)=> .l (.q e)
 |some (.map _ _)=> .l .m
 |some (.struct _)=> .a (xj P 20 t)
 |some (.array _ _)=> .a (xj P 20 t)
 |_=> .l .r
def Ud(P:Program):List TypeId->List As
 |[]=>[]
 |t::ts=>QQ P t::Ud P ts
def fG(P:Program)(t:TypeId):Option Ts:=
 match P.underlying t with
 |some (.tuple ts)=>match ts.toList with
  |[]=>none
  |ts=>some (.t (Ud P ts))
 |_=>some (.v (QQ P t))
structure St where
 E:List (Nat×Option Tv)
 L:List (Nat×List Lf)
 ρ:List Nat
 m:Nat
 nw:Nat
 so:List Nat
 md:List Nat
 d:Bool
 h:Heap
def p9:List (Nat×Option Tv)->Nat->Option Tv
 |[],_=>none
 |(d,x)::E,t=>match Nat.beq d t with
  |true=>x
  |false=>p9 E t
def qB:Nat->List Nat->(List Nat->Prop)->Prop
 |0,ρ,k=>k ρ
 |n+1,ρ,k=>∀b:Nat,qB n (ρ++[b]) k
def U0(h:Heap):List Nat->Prop->Prop
 |[],Q=>Q
 |b::bs,Q=>h.size<=b->U0 h bs Q
def QR:List Nat->List Nat->List Nat
 |[],ρ=>ρ
 |_::xs,_::ρ=>QR xs ρ
 |_::_,[]=>[]
def vg(ρ:List Nat):List Nat->List Nat
 |[]=>[]
 |i::is=>eM ρ i::vg ρ is
def sync(s:St)(k:St->Prop):Prop:=
 match s.d with
 |false=>k s
 |true=>qB s.nw s.ρ fun ρ=>∀h':Heap,U0 s.h (QR s.ρ ρ) (Fr (In (vg ρ s.so)) s.h h'->Vars h' (kb ρ s.L)->k {s with ρ:=ρ,nw:=0,so:=[],d:=false,h:=h'})
def MI:Value->Lf
 | .int k n=> .i k n
 | .bool b=> .b b (some (b,true))
 | .string x=> .s x
 | .slice a n c=> .sl ⟨a,n,c⟩
 | .pointer a=> .q a 0
 | .map r=> .m r
 |v=> .r v
def xk:List Value->List Lf
 |[]=>[]
 |v::vs=>MI v::xk vs
def xl(E:List (Nat×Option Tv)):Operand->Option Tv
 | .tmp t=>p9 E t
 | .const v=>some (.v (.l (MI v)))
 | .global g=>some (.v (.l (.r (.pointer (some ⟨g,0,none⟩)))))
 | .func f=>some (.v (.l (.f (.func f) [] [])))
def Ea(ρ:List Nat)(E:List (Nat×Option Tv))(x:Operand):Value:=
 match xl E x with
 |some y=>y.val ρ
 |none=>undef
def Hc(m:Nat)(E:List (Nat×Option Tv)):List Operand->Bool
 |[]=>true
 |x::xs=>(match xl E x with
  |some y=>y.ok m
  |none=>false)&&Hc m E xs
def lf(E:List (Nat×Option Tv))(x:Operand):Option Lf:=
 match xl E x with
 |some (.v (.l y))=>some y
 |_=>none
def MJ:Operand->Bool
 | .const (.int _ (.ofNat (_+1)))=>true
 | .const (.int _ (.negSucc _))=>true
 |_=>false
def flag(E:List (Nat×Option Tv))(c:Operand)(v:Bool):List (Nat×Option Tv):=
 match c with
 | .tmp t=>match p9 E t with
   |some (.v (.l (.b x _)))=>(t,some (.v (.l (.b x (some (v,false))))))::E
   |_=>E
 |_=>E
def vY:Lf->Bool
 | .r v=>fp v
 | .u=>false
 |_=>true
def rO:List Lf->Bool
 |[]=>true
 |x::xs=>vY x&&rO xs
def xm:Tv->Option (List Lf)
 | .v (.l x)=>match vY x with
   |true=>some [x]
   |false=>none
 | .v (.a xs)=>match rO xs with
   |true=>some xs
   |false=>none
 | .t _=>none
def xq:List Lf->Nat
 |[]=>0
 |_::xs=>xq xs+1
def kZ:List Lf->Nat->Nat->Option (List Lf)
 |_,0,0=>some []
 |x::xs,0,n+1=>match kZ xs 0 n with
  |some r=>some (x::r)
  |none=>none
 |_::xs,o+1,n=>kZ xs o n
 |[],_,_=>none
def ju:List Lf->Nat->List Lf->Option (List Lf)
 |cs,0,[]=>some cs
 |_::cs,0,v::vs=>match ju cs 0 vs with
  |some r=>some (v::r)
  |none=>none
 |c::cs,n+1,vs=>match ju cs n vs with
  |some r=>some (c::r)
  |none=>none
 |[],_,_=>none
def cE:List (Nat×List Lf)->Nat->Option (List Lf)
 |[],_=>none
 |(i,xs)::L,id=>match Nat.beq i id with
  |true=>some xs
  |false=>cE L id
def vD:List (Nat×List Lf)->Nat->List Lf->List (Nat×List Lf)
 |[],_,_=>[]
 |(i,xs)::L,id,ys=>match Nat.beq i id with
  |true=>(i,ys)::L
  |false=>(i,xs)::vD L id ys
def vZ:List Cp->List Nat
 |[]=>[]
 | .p id _::cs=>id::vZ cs
 | .v _::cs=>vZ cs
def Lf.reach:Lf->List Nat
 | .p id _=>[id]
 | .f _ fs cs=>vZ cs++vZ fs
 |_=>[]
def EA:List Lf->List Nat
 |[]=>[]
 |x::xs=>x.reach++EA xs
def Av.reach:Av->List Nat
 | .l x=>x.reach
 | .a xs=>EA xs
def EB:List Av->List Nat
 |[]=>[]
 |x::xs=>x.reach++EB xs
def Tv.reach:Tv->List Nat
 | .v x=>x.reach
 | .t xs=>EB xs
def gy(E:List (Nat×Option Tv)):List Operand->List Nat
 |[]=>[]
 |x::xs=>(match xl E x with
  |some y=>y.reach
  |none=>[])++gy E xs
def aeq:Lf->Sh
 | .i k _=> .i k
 | .b _ _=> .b
 | .s _=> .s
 | .sl _=> .sl
 | .q _ e=> .q e
 | .m _=> .m
 |_=> .r
def oE:List Lf->List Sh
 |[]=>[]
 |x::xs=>aeq x::oE xs
def pM(ids:List Nat):List (Nat×List Lf)->(List (Nat×List Lf)->Prop)->Prop
 |[],Q=>Q []
 |(i,xs)::L,Q=>match eH ids i with
  |true=>exL (oE xs) fun ys=>pM ids L fun L'=>Q ((i,ys)::L')
  |false=>pM ids L fun L'=>Q ((i,xs)::L')
def MK(s:St)(k:St->Tv->Prop)(x:Lf):Prop:=k s (.v (.l x))
def brB(x:Bool)(kn:Option (Bool×Bool))(s:St)(c:Operand)(yes no:St->Prop):Prop:=
 match kn with
 |some (true,_)=>yes s
 |some (false,_)=>no s
 |none=>(x=true->yes {s with E:=flag s.E c true})/\(x=false->no {s with E:=flag s.E c false})
def exR(P:Program)(ρ:List Nat)(rv:Value)(t:Option Ts)(k:Tv->Prop):Prop:=
 match t with
 |some t=>zK t fun x=>rv=x.val ρ/\k x
 |none=>k (.v (.l (.r rv)))
def lI(P:Program)(s:St)(op:Op)(ty:TypeId)(rt:Option Ts)(k:St->Tv->Prop):Prop:=
 match gu op,kz op with
 |none,none=>match jA fk 0 op with
  |some _=>match Hc (ik s.ρ) s.E op.operands.toList with
   |true=>match jA (Ea s.ρ s.E) ty op with
    |some q=>pop P q fun rv=>exR P s.ρ rv rt fun x=>k s x
    |none=>False
   |false=>False
  |none=>sync s fun s=>match Hc (ik s.ρ) s.E op.operands.toList with
   |true=>match nR (Ea s.ρ s.E) op with
    |some q=>zN P q s.h fun rv=>exR P s.ρ rv rt fun x=>k s x
    |none=>match Ed (Ea s.ρ s.E) ty op with
     |some q=>jQ P q s.h fun rv h'=>aa2 P s rv h' rt fun x=>k {s with h:=h'} x
     |none=>match Ee (Ea s.ρ s.E) op with
      |some q=>Aj P q s.h fun rv h'=>Vars h' (kb s.ρ s.L)/\k {s with h:=h'} (.v (.l .u))
      |none=>False
   |false=>False
 |_,_=>False
where
 aa2 (P:Program) (s:St) (rv:Value) (h':Heap) (t:Option Ts) (k:Tv->Prop):Prop:=
  match t with
  |some t=>zK t fun x=>rv=x.val s.ρ/\Vars h' (kb s.ρ s.L)/\k x
  |none=>Vars h' (kb s.ρ s.L)/\k (.v (.l (.r rv)))
def ML(P:Program)(s:St)(f:Operand)(args:List Operand)(ty:TypeId)(k:St->Tv->Prop):Prop:=
 sync s fun s=>match Hc (ik s.ρ) s.E (f::args)with
  |false=>False
  |true=>aa3 P (Ea s.ρ s.E f) f (mN (Ea s.ρ s.E) args) s.h fun rv h'=>
   pM (gy s.E (args++[f])) s.L fun L'=>match fG P ty with
    |some t=>zK t fun x=>rv=x.val s.ρ/\Vars h' (kb s.ρ L')/\k {s with L:=L',md:=gy s.E (args++[f])++s.md,h:=h'} x
    |none=>Vars h' (kb s.ρ L')/\k {s with L:=L',md:=gy s.E (args++[f])++s.md,h:=h'} (.v (.l (.r rv)))
where
 aa3 (P:Program) (fv:Value) (f:Operand) (xs:List Value) (h:Heap) (K:Value->Heap->Prop):Prop:=
  match f with
  | .func n=>aE P n xs.toArray h K
  |_=>fA P fv xs h K
def U1(P:Program)(s:St)(o:BinOp)(k:IntKind)(a b:Int)(U2:Bool)(K:Lf->Prop)(raw:Prop):Prop:=
 match o with
 | .add=>K (.i k (k.wrap (a+b)))
 | .sub=>K (.i k (k.wrap (a-b)))
 | .mul=>K (.i k (k.wrap (a*b)))
 | .quo=>match U2 with
   |true=>K (.i k (k.wrap (a.tdiv b)))
   |false=>b≠0/\K (.i k (k.wrap (a.tdiv b)))
 | .rem=>match U2 with
   |true=>K (.i k (a.tmod b))
   |false=>b≠0/\K (.i k (a.tmod b))
 | .lss=>K (.b (decide (a<b)) none)
 | .leq=>K (.b (decide (a<=b)) none)
 | .gtr=>K (.b (decide (b<a)) none)
 | .geq=>K (.b (decide (b<=a)) none)
 | .eql=>K (.b (decide (a=b)) none)
 | .neq=>K (.b (!decide (a=b)) none)
 |_=>raw
def U3(P:Program)(s:St)(o:BinOp)(t:TypeId)(y:Operand)(A B:Option Lf)(K:Lf->Prop)(raw:Prop):Prop:=
 match A,B with
 |some (.i k a),some (.i k' b)=>match decide (k=k')with
  |true=>U1 P s o k a b (MJ y) K raw
  |false=>raw
 |some (.b a _),some (.b b _)=>match P.underlying t with
  |some .bool=>match o with
   | .eql=>K (.b (a==b) none)
   | .neq=>K (.b (!(a==b)) none)
   |_=>raw
  |_=>raw
 |some (.s a),some (.s b)=>match o with
  | .add=>a.size+b.size<=9223372036854775807/\K (.s (a++b))
  | .eql=>K (.b (a.toList==b.toList) none)
  | .neq=>K (.b (!(a.toList==b.toList)) none)
  |_=>raw
 |_,_=>raw
def QS:Option (Bool×Bool)->Option (Bool×Bool)
 |some (v,true)=>some (!v,true)
 |_=>none
def U4(s:St)(cs:List Lf)(k:St->Tv->Prop):Prop:=
 k {s with L:=(s.m,cs)::s.L,m:=s.m+1,nw:=s.nw+1,d:=true} (.v (.l (.p s.m 0)))
def loadT(P:Program)(s:St)(t:TypeId)(x:Option Lf)(k:St->Tv->Prop)(raw:Prop):Prop:=
 match x with
 |some (.p id off)=>match cE s.L id with
  |some cs=>match gN P t with
   |true=>match kZ cs off 1 with
    |some [y]=>k s (.v (.l y))
    |_=>False
   |false=>match qK P t with
    |some n=>match kZ cs off n with
     |some ys=>k s (.v (.a ys))
     |none=>False
    |none=>False
  |none=>False
 |some (.e x i sz off)=>sync s fun s=>match gN P t with
  |true=>match QQ P t with
   | .l sh=>exS sh fun y=>aR s.h (P5 x i sz off)=some (y.v s.ρ)/\k s (.v (.l y))
   | .a _=>False
  |false=>match qK P t,QQ P t with
   |some n,.a ss=>exL ss fun ys=>match Nat.beq (xq ys) n with
    |true=>lk s.h (P5 x i sz off) (dB s.ρ ys)/\k s (.v (.a ys))
    |false=>False
   |_,_=>False
 |_=>raw
where
 P5 (x:Sl) (i:Int) (sz:Nat):Option Nat->Addr
  |none=>x.at i sz
  |some o=>(x.at i sz).add o
def storeT(P:Program)(s:St)(t:TypeId)(x:Option Lf)(w:Option Tv)(k:St->Tv->Prop)(raw:Prop):Prop:=
 match x with
 |some (.p id off)=>match cE s.L id,w with
  |some cs,some w=>match xm w,li P t with
   |some vs,some n=>match Nat.beq (xq vs) n with
    |true=>match ju cs off vs with
     |some lH=>k {s with L:=vD s.L id lH,so:=(match Nat.blt id (ik s.ρ)with|true=>id::s.so|false=>s.so),md:=id::s.md,d:=true} (.v (.l .u))
     |none=>False
    |false=>False
   |_,_=>False
  |_,_=>False
 |some (.e x i sz off)=>match w with
  |some (.v (.l y))=>match vY y,li P t with
   |true,some 1=>sync s fun s=>match y.ok (ik s.ρ)with
    |true=>(dT s.h (loadT.P5 x i sz off)/\Vars (cK s.h (loadT.P5 x i sz off) (y.v s.ρ)) (kb s.ρ s.L)/\
     ∀h2:Heap,h2=cK s.h (loadT.P5 x i sz off) (y.v s.ρ)->Vars h2 (kb s.ρ s.L)->k {s with h:=h2} (.v (.l .u)))
    |false=>False
   |_,_=>raw
  |_=>raw
 |_=>raw
def Jp(P:Program)(t:TypeId):Option (List Lf):=
 match oy P t with
 |some z=>some (xk z.cells.toList)
 |none=>none
def aa4:Option Tv->Option Cp
 |some (.v (.l (.p id off)))=>some (.p id off)
 |some (.v (.l (.i k x)))=>some (.v (.int k x))
 |some (.v (.l (.b x _)))=>some (.v (.bool x))
 |some (.v (.l (.s x)))=>some (.v (.string x))
 |some (.v (.l (.sl x)))=>some (.v x.v)
 |some (.v (.l (.r x)))=>some (.v x)
 |some (.v (.l (.q x _)))=>some (.v (.pointer x))
 |some (.v (.l (.m x)))=>some (.v (.map x))
 |_=>none
def AF(E:List (Nat×Option Tv)):List Operand->Option (List Cp)
 |[]=>some []
 |x::xs=>match aa4 (xl E x),AF E xs with
  |some c,some cs=>some (c::cs)
  |_,_=>none
def KW:List Av->Nat->Option Av
 |[],_=>none
 |x::_,0=>some x
 |_::xs,n+1=>KW xs n
def EC(P:Program)(fs:Array Field)(E:List (Nat×Option Tv))(cs:List Lf):List (Nat×Operand)->Option (List Lf)
 |[]=>some cs
 |(i,x)::ps=>match fs[i]?,xl E x with
  |some f,some w=>match xm w,li P f.type with
   |some vs,some n=>match Nat.beq (xq vs) n with
    |true=>match ju cs f.offset vs with
     |some lH=>EC P fs E lH ps
     |none=>none
    |false=>none
   |_,_=>none
  |_,_=>none
def rP(P:Program):List Field->Bool
 |[]=>true
 |f::fs=>(match li P f.type with|some _=>true|none=>false)&&rP P fs
def ED(P:Program)(s:St)(x:Operand)(v:Option Addr)(e:TypeId)(k:St->Tv->Prop):Prop:=
 sync s fun s=>∃b:Nat,exL (xj P 20 e) fun ys=>v=some ⟨b,0,none⟩/\Vars s.h ((b,dB s.ρ ys)::kb s.ρ s.L)/\
  k {s with E:=U5 s.E x s.m,L:=(s.m,ys)::s.L,ρ:=s.ρ++[b],m:=s.m+1} (.v (.l (.p s.m 0)))
where
 U5 (E:List (Nat×Option Tv)) (x:Operand) (m:Nat):List (Nat×Option Tv):=
  match x with
  | .tmp t=>(t,some (.v (.l (.p m 0))))::E
  |_=>E
def EE(P:Program)(s:St)(op:Op)(ty:TypeId)(k:St->Tv->Prop):Prop:=
 match op with
 | .move x=>match xl s.E x with
   |some y=>k s y
   |none=>False
 | .assign x=>match xl s.E x with
   |some y=>k s y
   |none=>False
 | .call ⟨.value f,args,ats⟩=>ML P s f args.toList ty k
 | .call ⟨.builtin .len,args,ats⟩=>match args.toList,ats.toList with
   |[x],[t]=>match lf s.E x,P.underlying t with
    |some (.sl x),some (.slice _)=>k s (.v (.l (.i .i64 (x.n:Int))))
    |some (.s x),some .string=>k s (.v (.l (.i .i64 (x.size:Int))))
    |_,_=>lI P s op ty (fG P ty) k
   |_,_=>lI P s op ty (fG P ty) k
 | .binOp o t x y _=>U3 P s o t y (lf s.E x) (lf s.E y) (MK s k) (lI P s op ty (match Nat.beq ty 0 with|true=>some (.v (.l .b))|false=>fG P ty) k)
 | .unOp o _ x=>match o,lf s.E x with
   | .not,some (.b x kn)=>k s (.v (.l (.b (!x) (QS kn))))
   | .neg,some (.i kd x)=>k s (.v (.l (.i kd (kd.wrap (0-x)))))
   |_,_=>lI P s op ty (fG P ty) k
 | .pick c a b=>match lf s.E c with
   |some (.b x kn)=>brB x kn s c (fun s'=>match xl s.E a with|some y=>k s' y|none=>False) (fun s'=>match xl s.E b with|some y=>k s' y|none=>False)
   |_=>lI P s op ty (fG P ty) k
 | .nilCheck x=>match lf s.E x with
   |some (.p id off)=>k s (.v (.l (.p id off)))
   |some (.e x i sz off)=>k s (.v (.l (.e x i sz off)))
   |some (.q v e)=>ED P s x v e k
   |_=>lI P s op ty (fG P ty) k
 | .makeFunc fn first cap=>match AF s.E first.toList,AF s.E cap.toList with
   |some fs,some cs=>k s (.v (.l (.f fn fs cs)))
   |_,_=>False
 | .fieldAddr t x i=>match lf s.E x,wX P t i with
   |some (.p id off),some o=>k s (.v (.l (.p id (off+o))))
   |some (.e x j sz none),some o=>k s (.v (.l (.e x j sz (some o))))
   |_,_=>lI P s op ty (fG P ty) k
 | .indexAddr t x ix=>match lf s.E x,lf s.E ix,P.underlying t with
   |some (.sl x),some (.i _ j),some (.slice e)=>match li P e with
    |some sz=>dQ x j/\k s (.v (.l (.e x j sz none)))
    |none=>False
   |_,_,_=>lI P s op ty (fG P ty) k
 | .extract t ix=>match xl s.E t with
   |some (.t xs)=>match KW xs ix with
    |some y=>k s (.v y)
    |none=>False
   |_=>lI P s op ty (fG P ty) k
 | .field t x i=>match xl s.E x,P.underlying t with
   |some (.v (.a xs)),some (.struct fs)=>match fs[i]? with
    |some f=>match gN P f.type with
     |true=>match kZ xs f.offset 1 with
      |some [y]=>k s (.v (.l y))
      |_=>False
     |false=>match qK P f.type with
      |some n=>match kZ xs f.offset n with
       |some ys=>k s (.v (.a ys))
       |none=>False
      |none=>False
    |none=>False
   |_,_=>lI P s op ty (fG P ty) k
 | .build t parts=>match P.underlying t,Jp P t with
   |some (.struct fs),some zs=>match rP P fs.toList,EC P fs s.E zs parts.toList with
    |true,some cs=>k s (.v (.a cs))
    |_,_=>False
   |_,_=>lI P s op ty (fG P ty) k
 | .load t x=>loadT P s t (lf s.E x) k (lI P s op ty (fG P ty) k)
 | .store t x v=>storeT P s t (lf s.E x) (xl s.E v) k (lI P s op ty none k)
 | .box t v=>match xl s.E v with
   |some y=>match xm y with
    |some cs=>U4 s cs k
    |none=>False
   |none=>False
 | .alloc t=>match Jp P t with
   |some cs=>U4 s cs k
   |none=>False
 | .buildSlice t _ _=>lI P s op ty (fG P t) k
 | .makeSlice t _ _=>lI P s op ty (fG P t) k
 | .convert _ dst _=>lI P s op ty (fG P dst) k
 | .slice t _ _ _ _=>lI P s op ty (match Nat.beq ty 0 with|true=>fG P t|false=>fG P ty) k
 |_=>lI P s op ty (fG P ty) k
def vE(n:Nat)(s:St)(dst:Option Tmp)(x:Tv):St:=
 match dst with
 |some d=>match Nat.blt d n with
  |true=>{s with E:=(d,some x)::s.E}
  |false=>s
 |none=>s
def EF(P:Program)(ops:List Oper)(s:St)(o:Oper)(k:St->Tv->Prop):Prop:=
 match o.guard with
 |none=>EE P s o.op o.type k
 |some (j,want)=>match wJ ops j with
  |none=>k s (.v (.l .u))
  |some t=>match p9 s.E t with
   |some (.v (.l (.b x kn)))=>brB x kn s (.tmp t)
    (fun s'=>match want with|true=>EE P s' o.op o.type k|false=>k s' (.v (.l .u)))
    (fun s'=>match want with|true=>k s' (.v (.l .u))|false=>EE P s' o.op o.type k)
   |some (.v (.l .u))=>k s (.v (.l .u))
   |_=>False
def tIn(P:Program)(n:Nat)(ops:List Oper):List Oper->St->(St->Prop)->Prop
 |[],s,K=>K s
 |o::os,s,K=>EF P ops s o fun s' x=>tIn P n ops os (vE n s' o.dst x) K
inductive Ht where
 |Ue
 |bad
 |au (id off:Nat) (t:TypeId) (ys:List Lf)
 |ce (a:Addr) (v:Value)
 |cs (a:Addr) (vs:List Value)
 |se (q:Sem Value) (v:Value)
def rQ(P:Program)(s:St)(op:Op)(x:Tv):Ht:=
 match op with
 | .load t a=>match lf s.E a with
   |some (.p id off)=>match cE s.L id with
    |some cs=>match gN P t with
     |true=>match kZ cs off 1 with
      |some [y]=> .au id off t [y]
      |_=> .bad
     |false=>match qK P t with
      |some n=>match kZ cs off n with
       |some ys=> .au id off t ys
       |none=> .bad
      |none=> .bad
    |none=> .bad
   |some (.e y i sz off)=>match x.ok (ik s.ρ),x with
    |true,.v (.l z)=>match gN P t with
     |true=> .ce (loadT.P5 y i sz off) (z.v s.ρ)
     |false=> .bad
    |true,.v (.a zs)=>match qK P t with
     |some n=>match Nat.beq (xq zs) n with
      |true=> .cs (loadT.P5 y i sz off) (dB s.ρ zs)
      |false=> .bad
     |none=> .bad
    |_,_=> .bad
   |_=>Jq P s op x
 |_=>Jq P s op x
where
 Jq (P:Program) (s:St) (op:Op) (x:Tv):Ht:=
  match Hc (ik s.ρ) s.E op.operands.toList,x.ok (ik s.ρ),nR (Ea s.ρ s.E) op with
  |true,true,some q=> .se q (x.val s.ρ)
  |_,_,_=> .bad
def Hd(P:Program)(ops:List Oper)(s:St)(o:Oper)(x:Tv):Ht:=
 match o.guard with
 |none=>rQ P s o.op x
 |some (j,want)=>match wJ ops j with
  |none=> .Ue
  |some t=>match p9 s.E t with
   |some (.v (.l (.b _ (some (v,_)))))=>match v,want with
    |true,true=>rQ P s o.op x
    |false,false=>rQ P s o.op x
    |_,_=> .Ue
   |some (.v (.l .u))=> .Ue
   |_=> .bad
def AG(bf:List Nat):List (Nat×Ht)->List (Nat×Ht)
 |[]=>[]
 |(i,p)::S=>match eH bf i with
  |true=>AG bf S
  |false=>(i,p)::AG bf S
def AH(P:Program)(h:Heap)(K:Prop):List (Nat×Ht)->Prop
 |[]=>K
 |(_,.ce a v)::S=>aR h a=some v/\AH P h K S
 |(_,.cs a vs)::S=>lk h a vs/\AH P h K S
 |(_,.bad)::S=>False
 |(_,.se q v)::S=>(∀w:World,w.heap=h->q.run P w= .ok v w)/\AH P h K S
 |(_,_)::S=>AH P h K S
def rS(a b:List Nat):List Nat:=takeN (ik b-ik a) b
where
 takeN:Nat->List Nat->List Nat
  |0,_=>[]
  |n+1,x::xs=>x::takeN n xs
  |_+1,[]=>[]
def oF(ids:List Nat):List (Nat×Ht)->Bool
 |[]=>true
 |(_,.au id _ _ _)::S=> ! eH ids id&&oF ids S
 |_::S=>oF ids S
def vh(P:Program)(n:Nat)(ops:List Oper)(K:St->Prop):Nat->List Bool->St->List (Nat×Ht)->Prop
 |0,l,s,_=>match aY ops 0 l with
  |[]=>K s
  |_::_=>False
 |m+1,l,s,S=>match cU (aY ops 0 l)with
  |some (i,o)=>EF P ops s o fun s' x=>match oF (rS s.md s'.md) S with
   |true=>match uZ o.op with
    |true=>vh P n ops K m (ij l i) (vE n s' o.dst x) S
    |false=>vh P n ops K m (ij l i) (vE n s' o.dst x) ((i,Hd P ops s' o x)::S)
   |false=>False
  |none=>match aY ops 0 l with
   |[]=>K s
   |r::rs=>GO (fun i o=>EF P ops s o fun s' x=>match AG (u1 ops o) S with
    |[]=>vh P n ops K m (ij l i) (vE n s' o.dst x) []
    |e::S'=>match oF (rS s.md s'.md) (e::S')with
     |true=>sync s' fun s'=>AH P s'.h (vh P n ops K m (ij l i) (vE n s' o.dst x) (e::S')) (e::S')
     |false=>False) (r::rs)
def U6(P:Program)(n:Nat)(ops:List Oper)(draw:Bool)(s:St)(K:St->Prop):Prop:=
 match draw with
 |false=>tIn P n ops ops s K
 |true=>match fo ops ops 0 with
  |true=>vh P n ops K (len ops) (mT ops) s []
  |false=>False
structure It where
 t:Nat
 sh:As
structure An where
 oG:List It
 ch:List Nat
 nv:List (Nat×List Sh)
def lJ:List (Nat×List Sh)->List Nat
 |[]=>[]
 |(t,_)::r=>t::lJ r
def aa6:List (Nat×List Sh)->List Sh
 |[]=>[]
 |(_,ss)::r=> .n::(ss++aa6 r)
def He:Lf->Option Nat
 | .q (some ⟨b,0,none⟩) _=>some b
 |_=>none
def l9:List It->List Nat
 |[]=>[]
 |x::xs=>x.t::l9 xs
def Uf:As->List Sh
 | .l x=>[x]
 | .a xs=>xs
def qa:List It->List Sh
 |[]=>[]
 |x::r=>Uf x.sh++qa r
def zS(ch:List Nat):List (Nat×List Lf)->List Sh
 |[]=>[]
 |(i,xs)::L=>match eH ch i with
  |true=>oE xs++zS ch L
  |false=>zS ch L
def Eb:List Sh->Type
 |[]=>Heap->Prop
 | .i _::r=>Int->Eb r
 | .b::r=>Bool->Eb r
 | .s::r=>ByteArray->Eb r
 | .sl::r=>Sl->Eb r
 | .r::r=>Value->Eb r
 | .q _::r=>Option Addr->Eb r
 | .m::r=>Option Nat->Eb r
 | .n::r=>Nat->Eb r
def qN(ρ:List Nat):(sig:List Sh)->Eb sig->List Lf->Heap->Prop
 |[],J,[],h=>J h
 | .i k::r,J,.i k' x::vs,h=>match decide (k=k')with
   |true=>qN ρ r (J x) vs h
   |false=>False
 | .b::r,J,.b x _::vs,h=>qN ρ r (J x) vs h
 | .s::r,J,.s x::vs,h=>qN ρ r (J x) vs h
 | .sl::r,J,.sl x::vs,h=>qN ρ r (J x) vs h
 | .r::r,J,x::vs,h=>qN ρ r (J (x.v ρ)) vs h
 | .q _::r,J,.q x _::vs,h=>qN ρ r (J x) vs h
 | .m::r,J,.m x::vs,h=>qN ρ r (J x) vs h
 | .n::r,J,x::vs,h=>match He x with
   |some b=>qN ρ r (J b) vs h
   |none=>False
 |_,_,_,_=>False
def vF:(sig:List Sh)->Eb sig->(List Lf->(Heap->Prop)->Prop)->Prop
 |[],J,Q=>Q [] J
 | .i k::r,J,Q=>∀x:Int,vF r (J x) fun vs J'=>Q (.i k x::vs) J'
 | .b::r,J,Q=>∀x:Bool,vF r (J x) fun vs J'=>Q (.b x none::vs) J'
 | .s::r,J,Q=>∀x:ByteArray,vF r (J x) fun vs J'=>Q (.s x::vs) J'
 | .sl::r,J,Q=>∀x:Sl,vF r (J x) fun vs J'=>Q (.sl x::vs) J'
 | .r::r,J,Q=>∀x:Value,vF r (J x) fun vs J'=>Q (.r x::vs) J'
 | .q e::r,J,Q=>∀x:Option Addr,vF r (J x) fun vs J'=>Q (.q x e::vs) J'
 | .m::r,J,Q=>∀x:Option Nat,vF r (J x) fun vs J'=>Q (.m x::vs) J'
 | .n::r,J,Q=>∀b:Nat,vF r (J b) fun vs J'=>Q (.q (some ⟨b,0,none⟩) 0::vs) J'
def vi:List Sh->List Lf->(List Lf->List Lf->Prop)->Prop
 |[],vs,K=>K [] vs
 |_::ss,x::vs,K=>vi ss vs fun xs r=>K (x::xs) r
 |_::_,[],_=>False
def Ug:As->List Lf->(Av->List Lf->Prop)->Prop
 | .l _,x::vs,K=>K (.l x) vs
 | .l _,[],_=>False
 | .a ss,vs,K=>vi ss vs fun xs r=>K (.a xs) r
def Hf(n:Nat)(E:List (Nat×Option Tv))(t:Nat)(x:Option Tv):List (Nat×Option Tv):=
 match Nat.blt t n with
 |true=>(t,x)::E
 |false=>E
def EG(n:Nat):List Nat->List (Nat×Option Tv)->List (Nat×Option Tv)
 |[],E=>E
 |t::ts,E=>EG n ts (Hf n E t none)
def U7(n:Nat):List It->List Lf->List (Nat×Option Tv)->(List Lf->List (Nat×Option Tv)->Prop)->Prop
 |[],vs,E,K=>K vs E
 |x::r,vs,E,K=>Ug x.sh vs fun y pI=>U7 n r pI (Hf n E x.t (some (.v y))) K
def MM(ch:List Nat):List (Nat×List Lf)->List Lf->(List (Nat×List Lf)->List Lf->Prop)->Prop
 |[],vs,K=>K [] vs
 |(i,xs)::L,vs,K=>match eH ch i with
  |true=>vi (oE xs) vs fun ys pI=>MM ch L pI fun L' r=>K ((i,ys)::L') r
  |false=>MM ch L vs fun L' r=>K ((i,xs)::L') r
def QT(n:Nat):List (Nat×List Sh)->List Lf->St->(St->Prop)->Prop
 |[],_,s,K=>K s
 |(t,ss)::r,x::vs,s,K=>match He x with
  |some b=>vi ss vs fun ys pI=>QT n r pI {s with E:=Hf n s.E t (some (.v (.l (.p s.m 0)))),L:=(s.m,ys)::s.L,ρ:=s.ρ++[b],m:=s.m+1} K
  |none=>False
 |_::_,[],_,_=>False
def bld(n:Nat)(a:An)(ws:List Nat)(vs:List Lf)(s:St)(K:St->Prop):Prop:=
 U7 n a.oG vs (EG n ws s.E) fun pI E=>MM a.ch s.L pI fun L U8=>QT n a.nv U8 {s with E:=E,L:=L,md:=a.ch++s.md} K
def EH(E:List (Nat×Option Tv)):List It->(List Lf->Prop)->Prop
 |[],K=>K []
 |x::r,K=>match p9 E x.t,x.sh with
  |some (.v (.l y)),.l _=>EH E r fun vs=>K (y::vs)
  |some (.v (.a ys)),.a ss=>match Nat.beq (xq ys) (zR ss)with
   |true=>EH E r fun vs=>K (ys++vs)
   |false=>False
  |_,_=>False
where
 zR:List Sh->Nat
  |[]=>0
  |_::xs=>zR xs+1
def MN(L:List (Nat×List Lf))(ch:List Nat):List (Nat×List Lf)->(List Lf->Prop)->Prop
 |[],K=>K []
 |(i,xs)::L0,K=>match eH ch i with
  |true=>match cE L i with
   |some cs=>match Nat.beq (xq cs) (xq xs)with
    |true=>MN L ch L0 fun vs=>K (cs++vs)
    |false=>False
   |none=>False
  |false=>MN L ch L0 K
def Jr(m:Nat)(ch:List Nat):List Nat->Bool
 |[]=>true
 |i::l=>(eH ch i|| !Nat.blt i m)&&Jr m ch l
def QU(m0:Nat)(s:St):List Nat->List (Nat×List Sh)->(List Lf->Prop)->Prop
 |_,[],K=>K []
 |ids,(t,ss)::r,K=>match p9 s.E t with
  |some (.v (.l (.p id 0)))=>match Nat.blt id m0,eH ids id with
   |false,false=>match cE s.L id with
    |some cs=>match Nat.beq (xq cs) (EH.zR ss)with
     |true=>QU m0 s (id::ids) r fun vs=>K (.q (some ⟨eM s.ρ id,0,none⟩) 0::(cs++vs))
     |false=>False
    |none=>False
   |_,_=>False
  |_=>False
def act(a:An)(s0 s:St)(K:List Lf->Prop):Prop:=
 match Jr s0.m a.ch (rS s0.md s.md)with
 |true=>EH s.E a.oG fun vs=>MN s.L a.ch s0.L fun pI=>QU s0.m s [] a.nv fun U8=>K (vs++(pI++U8))
 |false=>False
def MO(a:An)(L:List (Nat×List Lf)):List Sh:=qa a.oG++(zS a.ch L++aa6 a.nv)
def anT:List (Nat×An)->Nat->Option An
 |[],_=>none
 |(p,a)::r,n=>match Nat.beq p n with
  |true=>some a
  |false=>anT r n
def Hg(P:Program)(n:Nat)(an:Nat->Option An):Code->Nat->(St->Prop)->(Nat->St->Prop)->(St->Prop)->St->Prop
 | .skip,_,kn,_,_,s=>kn s
 | .region _ ops draw,_,kn,_,_,s=>U6 P n ops.toList draw s kn
 | .seq a b,p,kn,kx,kr,s=>match an p with
   |none=>Hg P n an a (2*p) (fun s'=>Hg P n an b (2*p+1) kn kx kr s') kx kr s
   |some x=>sync s fun s=>∃J:Eb (MO x s.L),Hg P n an a (2*p) (fun s'=>sync s' fun s'=>act x s s' fun vs=>qN s'.ρ _ J vs s'.h) kx kr s/\
    vF _ J fun vs J'=>∀h':Heap,J' h'->bld n x (writes a) vs {s with h:=h'} fun s2=>Vars h' (kb s2.ρ s2.L)->Hg P n an b (2*p+1) kn kx kr s2
 | .cond c a b,p,kn,kx,kr,s=>match lf s.E c with
   |some (.b x k)=>brB x k s c (fun s=>Hg P n an a (2*p) kn kx kr s) (fun s=>Hg P n an b (2*p+1) kn kx kr s)
   |_=>False
 | .block id c,p,kn,kx,kr,s=>Hg P n an c (2*p) kn (fun i s'=>match Nat.beq i id with
   |true=>kn s'
   |false=>kx i s') kr s
 | .loop c,p,_,kx,kr,s=>match an p with
   |some x=>sync s fun s=>∃J:Nat->Eb (MO x s.L),(∃n0:Nat,act x s s fun vs=>qN s.ρ _ (J n0) vs s.h)/\
    ∀m0:Nat,vF _ (J m0) fun vs J'=>∀h':Heap,J' h'->bld n x (writes c) vs {s with h:=h'} fun s2=>Vars h' (kb s2.ρ s2.L)->
     Hg P n an c (2*p) (fun s'=>sync s' fun s'=>∃m:Nat,m<m0/\act x s s' fun vs=>qN s'.ρ _ (J m) vs s'.h) kx kr s2
   |none=>False
 | .exit id,_,_,kx,_,s=>kx id s
 | .ret,_,_,_,kr,s=>kr s
 | .label _,_,kn,_,_,s=>kn s
 |_,_,_,_,_,_=>False
def tt(ρ:List Nat):List Tv->List Value
 |[]=>[]
 |x::xs=>x.val ρ::tt ρ xs
def EI(m:Nat):List Tv->Bool
 |[]=>true
 |x::xs=>x.ok m&&EI m xs
def vG(P:Program)(K:Value->Heap->Prop):List ResultVar->List Tv->St->Prop
 |[],acc,s=>sync s fun s=>match EI (ik s.ρ) acc with
  |true=>K (oneOf (tt s.ρ acc).reverse) s.h
  |false=>False
 | .tmp t::rs,acc,s=>match p9 s.E t with
   |some x=>vG P K rs (x::acc) s
   |none=>False
 | .cell a t::rs,acc,s=>match lf s.E (.tmp a)with
   |some (.p id off)=>match cE s.L id with
    |some cs=>match gN P t with
     |true=>match kZ cs off 1 with
      |some [y]=>vG P K rs (.v (.l y)::acc) s
      |_=>False
     |false=>match qK P t with
      |some n=>match kZ cs off n with
       |some ys=>vG P K rs (.v (.a ys)::acc) s
       |none=>False
      |none=>False
    |none=>False
   |_=>False
def QV(args:List Tv)(L:List (Nat×List Lf))(ρ:List Nat)(h:Heap):St:=⟨MP args 0,L,ρ,ik ρ,0,[],[],false,h⟩
where
 MP:List Tv->Nat->List (Nat×Option Tv)
  |[],_=>[]
  |x::xs,i=>(i,some x)::MP xs (i+1)
end Go.Mx
