import Derived.Test.YtcnfcnoooecchaaGreatDoorM2
set_option linter.unusedVariables false
set_option linter.unusedSimpArgs false
set_option linter.constructorNameAsVariable false
namespace Go.Mx
inductive Cp where
 |p (id off:Nat)
 |v (x:Value)
inductive Lf where
 |i (k:IntKind) (x:Int)
 |b (x:Bool) (kn:Option (Bool×Bool))
 |s (x:ByteArray)
 |sl (x:Sl)
 |p (id off:Nat)
 |e (x:Sl) (i:Int) (sz:Nat) (off:Option Nat)
 |f (fn:Fn) (fs cs:List Cp)
 |r (v:Value)
 |q (a:Option Addr) (e:TypeId)
 |m (r:Option Nat)
 |u
inductive Av where
 |l (x:Lf)
 |a (xs:List Lf)
inductive Tv where
 |v (x:Av)
 |t (xs:List Av)
def gh:List Nat->Nat->Nat
 |[],_=>0
 |b::_,0=>b
 |_::ρ,n+1=>gh ρ n
def Cp.v'(ρ:List Nat):Cp->Value
 | .p id off=>VP (gh ρ id) off
 | .v x=>x
def HB(ρ:List Nat):List Cp->List Value
 |[]=>[]
 |c::cs=>c.v' ρ::HB ρ cs
def Lf.v(ρ:List Nat):Lf->Value
 | .i k x=> .int k x
 | .b x _=> .bool x
 | .s x=> .string x
 | .sl x=>x.v
 | .p id off=>VP (gh ρ id) off
 | .e x j sz none=> .pointer (some (x.at j sz))
 | .e x j sz (some o)=> .pointer (some ((x.at j sz).add o))
 | .f fn fs cs=> .func fn (HB ρ fs).toArray (HB ρ cs).toArray
 | .r v=>v
 | .q a _=> .pointer a
 | .m z=> .map z
 | .u=>undef
def eQ(ρ:List Nat):List Lf->List Value
 |[]=>[]
 |x::xs=>x.v ρ::eQ ρ xs
def Av.v(ρ:List Nat):Av->Value
 | .l x=>x.v ρ
 | .a xs=> .agg (eQ ρ xs).toArray
def X1(ρ:List Nat):List Av->List Value
 |[]=>[]
 |x::xs=>x.v ρ::X1 ρ xs
def Tv.val(ρ:List Nat):Tv->Value
 | .v x=>x.v ρ
 | .t xs=> .tuple (X1 ρ xs).toArray
def mn(ρ:List Nat):List (Nat×List Lf)->List (Nat×List Value)
 |[]=>[]
 |(id,xs)::L=>(gh ρ id,eQ ρ xs)::mn ρ L
def P5(m:Nat):Cp->Bool
 | .p id _=>Nat.blt id m
 | .v _=>true
def qi(m:Nat):List Cp->Bool
 |[]=>true
 |c::cs=>P5 m c&&qi m cs
def Lf.ok(m:Nat):Lf->Bool
 | .p id _=>Nat.blt id m
 | .f _ fs cs=>qi m fs&&qi m cs
 |_=>true
def cZ(m:Nat):List Lf->Bool
 |[]=>true
 |x::xs=>x.ok m&&cZ m xs
def Av.ok(m:Nat):Av->Bool
 | .l x=>x.ok m
 | .a xs=>cZ m xs
def qj(m:Nat):List Av->Bool
 |[]=>true
 |x::xs=>x.ok m&&qj m xs
def Tv.ok(m:Nat):Tv->Bool
 | .v x=>x.ok m
 | .t xs=>qj m xs
def uK(m:Nat):List (Nat×List Lf)->Bool
 |[]=>true
 |(id,xs)::L=>Nat.blt id m&&cZ m xs&&uK m L
def Lf.fact:Lf->Prop
 | .b x (some (v,_))=>x=v
 |_=>True
def dP:List Lf->Prop
 |[]=>True
 |x::xs=>x.fact/\dP xs
def Av.fact:Av->Prop
 | .l x=>x.fact
 | .a xs=>dP xs
def ze:List Av->Prop
 |[]=>True
 |x::xs=>x.fact/\ze xs
def Tv.fact:Tv->Prop
 | .v x=>x.fact
 | .t xs=>ze xs
def qS:List (Nat×List Lf)->Prop
 |[]=>True
 |(_,xs)::L=>dP xs/\qS L
inductive Sh where
 |i (k:IntKind)|b|s|sl|r|q (e:TypeId)|m|n
inductive As where
 |l (x:Sh)
 |a (xs:List Sh)
inductive Ts where
 |v (x:As)
 |t (xs:List As)
def exS:Sh->(Lf->Prop)->Prop
 | .i k,Q=>∃x:Int,Q (.i k x)
 | .b,Q=>∃x:Bool,Q (.b x none)
 | .s,Q=>∃x:ByteArray,Q (.s x)
 | .sl,Q=>∃x:Sl,Q (.sl x)
 | .r,Q=>∃x:Value,Q (.r x)
 | .q e,Q=>∃x:Option Addr,Q (.q x e)
 | .m,Q=>∃x:Option Nat,Q (.m x)
 | .n,Q=>∃b:Nat,Q (.q (some ⟨b,0,none⟩) 0)
def exL:List Sh->(List Lf->Prop)->Prop
 |[],Q=>Q []
 |s::ss,Q=>exS s fun x=>exL ss fun xs=>Q (x::xs)
def exA:As->(Av->Prop)->Prop
 | .l s,Q=>exS s fun x=>Q (.l x)
 | .a ss,Q=>exL ss fun xs=>Q (.a xs)
def YT:List As->(List Av->Prop)->Prop
 |[],Q=>Q []
 |s::ss,Q=>exA s fun x=>YT ss fun xs=>Q (x::xs)
def CE:Ts->(Tv->Prop)->Prop
 | .v s,Q=>exA s fun x=>Q (.v x)
 | .t ss,Q=>YT ss fun xs=>Q (.t xs)
def Ai(P:Program):Nat->TypeId->List Sh
 |0,_=>[]
 |n+1,t=>match P.underlying t with
  |some (.int k)=>[.i k]
  |some .bool=>[.b]
  |some .string=>[.s]
  |some (.slice _)=>[.sl]
  |some (.pointer e)=>[.q e]
  |some (.map _ _)=>[.m]
  |some (.struct fs)=>X2 (fs.toList.map fun f=>Ai P n f.type)
  |some (.array k e)=>X3 k (Ai P n e)
  |_=>[.r]
where
 X2:List (List Sh)->List Sh
  |[]=>[]
  |x::xs=>x++X2 xs
 X3:Nat->List Sh->List Sh
  |0,_=>[]
  |k+1,x=>x++X3 k x
def UN(P:Program)(t:TypeId):As:=
 match P.underlying t with
 |some (.int k)=> .l (.i k)
 |some .bool=> .l .b
 |some .string=> .l .s
 |some (.slice _)=> .l .sl
 |some (.pointer e)=> .l (.q e)
 |some (.map _ _)=> .l .m
 |some (.struct _)=> .a (Ai P 20 t)
 |some (.array _ _)=> .a (Ai P 20 t)
 |_=> .l .r
def X4(P:Program):List TypeId->List As
 |[]=>[]
 |t::ts=>UN P t::X4 P ts
def iy(P:Program)(t:TypeId):Option Ts:=
 match P.underlying t with
 |some (.tuple ts)=>match ts.toList with
  |[]=>none
  |ts=>some (.t (X4 P ts))
 |_=>some (.v (UN P t))
structure St where
 E:List (Nat×Option Tv)
 L:List (Nat×List Lf)
 ρ:List Nat
 m:Nat
 nw:Nat
 so:List Nat
 md:List Nat
 d:Bool
 h:Heap
def sY:List (Nat×Option Tv)->Nat->Option Tv
 |[],_=>none
 |(d,x)::E,t=>match Nat.beq d t with
  |true=>x
  |false=>sY E t
def qB:Nat->List Nat->(List Nat->Prop)->Prop
 |0,ρ,k=>k ρ
 |n+1,ρ,k=>∀b:Nat,qB n (ρ++[b]) k
def YU(h:Heap):List Nat->Prop->Prop
 |[],Q=>Q
 |b::bs,Q=>h.size<=b->YU h bs Q
def UO:List Nat->List Nat->List Nat
 |[],ρ=>ρ
 |_::xs,_::ρ=>UO xs ρ
 |_::_,[]=>[]
def yk(ρ:List Nat):List Nat->List Nat
 |[]=>[]
 |i::is=>gh ρ i::yk ρ is
def sync(s:St)(k:St->Prop):Prop:=
 match s.d with
 |false=>k s
 |true=>qB s.nw s.ρ fun ρ=>∀h':Heap,YU s.h (UO s.ρ ρ) (Fr (In (yk ρ s.so)) s.h h'->Vars h' (mn ρ s.L)->k {s with ρ:=ρ,nw:=0,so:=[],d:=false,h:=h'})
def P6:Value->Lf
 | .int k n=> .i k n
 | .bool b=> .b b (some (b,true))
 | .string x=> .s x
 | .slice a n c=> .sl ⟨a,n,c⟩
 | .pointer a=> .q a 0
 | .map r=> .m r
 |v=> .r v
def Aj:List Value->List Lf
 |[]=>[]
 |v::vs=>P6 v::Aj vs
def Ak(E:List (Nat×Option Tv)):Operand->Option Tv
 | .tmp t=>sY E t
 | .const v=>some (.v (.l (P6 v)))
 | .global g=>some (.v (.l (.r (.pointer (some ⟨g,0,none⟩)))))
 | .func f=>some (.v (.l (.f (.func f) [] [])))
def GZ(ρ:List Nat)(E:List (Nat×Option Tv))(x:Operand):Value:=
 match Ak E x with
 |some y=>y.val ρ
 |none=>undef
def Kh(m:Nat)(E:List (Nat×Option Tv)):List Operand->Bool
 |[]=>true
 |x::xs=>(match Ak E x with
  |some y=>y.ok m
  |none=>false)&&Kh m E xs
def lf(E:List (Nat×Option Tv))(x:Operand):Option Lf:=
 match Ak E x with
 |some (.v (.l y))=>some y
 |_=>none
def P7:Operand->Bool
 | .const (.int _ (.ofNat (_+1)))=>true
 | .const (.int _ (.negSucc _))=>true
 |_=>false
def flag(E:List (Nat×Option Tv))(c:Operand)(v:Bool):List (Nat×Option Tv):=
 match c with
 | .tmp t=>match sY E t with
   |some (.v (.l (.b x _)))=>(t,some (.v (.l (.b x (some (v,false))))))::E
   |_=>E
 |_=>E
def zf:Lf->Bool
 | .r v=>gW v
 | .u=>false
 |_=>true
def uY:List Lf->Bool
 |[]=>true
 |x::xs=>zf x&&uY xs
def Al:Tv->Option (List Lf)
 | .v (.l x)=>match zf x with
   |true=>some [x]
   |false=>none
 | .v (.a xs)=>match uY xs with
   |true=>some xs
   |false=>none
 | .t _=>none
def Am:List Lf->Nat
 |[]=>0
 |_::xs=>Am xs+1
def nC:List Lf->Nat->Nat->Option (List Lf)
 |_,0,0=>some []
 |x::xs,0,n+1=>match nC xs 0 n with
  |some r=>some (x::r)
  |none=>none
 |_::xs,o+1,n=>nC xs o n
 |[],_,_=>none
def lm:List Lf->Nat->List Lf->Option (List Lf)
 |cs,0,[]=>some cs
 |_::cs,0,v::vs=>match lm cs 0 vs with
  |some r=>some (v::r)
  |none=>none
 |c::cs,n+1,vs=>match lm cs n vs with
  |some r=>some (c::r)
  |none=>none
 |[],_,_=>none
def dQ:List (Nat×List Lf)->Nat->Option (List Lf)
 |[],_=>none
 |(i,xs)::L,id=>match Nat.beq i id with
  |true=>some xs
  |false=>dQ L id
def yH:List (Nat×List Lf)->Nat->List Lf->List (Nat×List Lf)
 |[],_,_=>[]
 |(i,xs)::L,id,ys=>match Nat.beq i id with
  |true=>(i,ys)::L
  |false=>(i,xs)::yH L id ys
def zg:List Cp->List Nat
 |[]=>[]
 | .p id _::cs=>id::zg cs
 | .v _::cs=>zg cs
def Lf.reach:Lf->List Nat
 | .p id _=>[id]
 | .f _ fs cs=>zg cs++zg fs
 |_=>[]
def HD:List Lf->List Nat
 |[]=>[]
 |x::xs=>x.reach++HD xs
def Av.reach:Av->List Nat
 | .l x=>x.reach
 | .a xs=>HD xs
def HF:List Av->List Nat
 |[]=>[]
 |x::xs=>x.reach++HF xs
def Tv.reach:Tv->List Nat
 | .v x=>x.reach
 | .t xs=>HF xs
def iX(E:List (Nat×Option Tv)):List Operand->List Nat
 |[]=>[]
 |x::xs=>(match Ak E x with
  |some y=>y.reach
  |none=>[])++iX E xs
def ah2:Lf->Sh
 | .i k _=> .i k
 | .b _ _=> .b
 | .s _=> .s
 | .sl _=> .sl
 | .q _ e=> .q e
 | .m _=> .m
 |_=> .r
def qT:List Lf->List Sh
 |[]=>[]
 |x::xs=>ah2 x::qT xs
def sC(ids:List Nat):List (Nat×List Lf)->(List (Nat×List Lf)->Prop)->Prop
 |[],Q=>Q []
 |(i,xs)::L,Q=>match gf ids i with
  |true=>exL (qT xs) fun ys=>sC ids L fun L'=>Q ((i,ys)::L')
  |false=>sC ids L fun L'=>Q ((i,xs)::L')
def P8(s:St)(k:St->Tv->Prop)(x:Lf):Prop:=k s (.v (.l x))
def brB(x:Bool)(kn:Option (Bool×Bool))(s:St)(c:Operand)(yes no:St->Prop):Prop:=
 match kn with
 |some (true,_)=>yes s
 |some (false,_)=>no s
 |none=>(x=true->yes {s with E:=flag s.E c true})/\(x=false->no {s with E:=flag s.E c false})
def exR(P:Program)(ρ:List Nat)(rv:Value)(t:Option Ts)(k:Tv->Prop):Prop:=
 match t with
 |some t=>CE t fun x=>rv=x.val ρ/\k x
 |none=>k (.v (.l (.r rv)))
def oq(P:Program)(s:St)(op:Op)(ty:TypeId)(rt:Option Ts)(k:St->Tv->Prop):Prop:=
 match iU op,mO op with
 |none,none=>match lA gO 0 op with
  |some _=>match Kh (j5 s.ρ) s.E op.operands.toList with
   |true=>match lA (GZ s.ρ s.E) ty op with
    |some q=>pop P q fun rv=>exR P s.ρ rv rt fun x=>k s x
    |none=>False
   |false=>False
  |none=>sync s fun s=>match Kh (j5 s.ρ) s.E op.operands.toList with
   |true=>match qv (GZ s.ρ s.E) op with
    |some q=>CI P q s.h fun rv=>exR P s.ρ rv rt fun x=>k s x
    |none=>match Hd (GZ s.ρ s.E) ty op with
     |some q=>lQ P q s.h fun rv h'=>aeM P s rv h' rt fun x=>k {s with h:=h'} x
     |none=>match He (GZ s.ρ s.E) op with
      |some q=>Hc P q s.h fun rv h'=>Vars h' (mn s.ρ s.L)/\k {s with h:=h'} (.v (.l .u))
      |none=>False
   |false=>False
 |_,_=>False
where
 aeM (P:Program) (s:St) (rv:Value) (h':Heap) (t:Option Ts) (k:Tv->Prop):Prop:=
  match t with
  |some t=>CE t fun x=>rv=x.val s.ρ/\Vars h' (mn s.ρ s.L)/\k x
  |none=>Vars h' (mn s.ρ s.L)/\k (.v (.l (.r rv)))
def P9(P:Program)(s:St)(f:Operand)(args:List Operand)(ty:TypeId)(k:St->Tv->Prop):Prop:=
 sync s fun s=>match Kh (j5 s.ρ) s.E (f::args)with
  |false=>False
  |true=>aeN P (GZ s.ρ s.E f) f (pw (GZ s.ρ s.E) args) s.h fun rv h'=>
   sC (iX s.E (args++[f])) s.L fun L'=>match iy P ty with
    |some t=>CE t fun x=>rv=x.val s.ρ/\Vars h' (mn s.ρ L')/\k {s with L:=L',md:=iX s.E (args++[f])++s.md,h:=h'} x
    |none=>Vars h' (mn s.ρ L')/\k {s with L:=L',md:=iX s.E (args++[f])++s.md,h:=h'} (.v (.l (.r rv)))
where
 aeN (P:Program) (fv:Value) (f:Operand) (xs:List Value) (h:Heap) (K:aL):Prop:=
  match f with
  | .func n=>aG P n xs.toArray h K
  |_=>iQ P fv xs h K
def YV(P:Program)(s:St)(o:BinOp)(k:IntKind)(a b:Int)(YW:Bool)(K:Lf->Prop)(raw:Prop):Prop:=
 match o with
 | .add=>K (.i k (k.wrap (a+b)))
 | .sub=>K (.i k (k.wrap (a-b)))
 | .mul=>K (.i k (k.wrap (a*b)))
 | .quo=>match YW with
   |true=>K (.i k (k.wrap (a.tdiv b)))
   |false=>b≠0/\K (.i k (k.wrap (a.tdiv b)))
 | .rem=>match YW with
   |true=>K (.i k (a.tmod b))
   |false=>b≠0/\K (.i k (a.tmod b))
 | .lss=>K (.b (decide (a<b)) none)
 | .leq=>K (.b (decide (a<=b)) none)
 | .gtr=>K (.b (decide (b<a)) none)
 | .geq=>K (.b (decide (b<=a)) none)
 | .eql=>K (.b (decide (a=b)) none)
 | .neq=>K (.b (!decide (a=b)) none)
 |_=>raw
def YX(P:Program)(s:St)(o:BinOp)(t:TypeId)(y:Operand)(A B:Option Lf)(K:Lf->Prop)(raw:Prop):Prop:=
 match A,B with
 |some (.i k a),some (.i k' b)=>match decide (k=k')with
  |true=>YV P s o k a b (P7 y) K raw
  |false=>raw
 |some (.b a _),some (.b b _)=>match P.underlying t with
  |some .bool=>match o with
   | .eql=>K (.b (a==b) none)
   | .neq=>K (.b (!(a==b)) none)
   |_=>raw
  |_=>raw
 |some (.s a),some (.s b)=>match o with
  | .add=>a.size+b.size<=9223372036854775807/\K (.s (a++b))
  | .eql=>K (.b (a.toList==b.toList) none)
  | .neq=>K (.b (!(a.toList==b.toList)) none)
  |_=>raw
 |_,_=>raw
def UP:Option (Bool×Bool)->Option (Bool×Bool)
 |some (v,true)=>some (!v,true)
 |_=>none
def YY(s:St)(cs:List Lf)(k:St->Tv->Prop):Prop:=
 k {s with L:=(s.m,cs)::s.L,m:=s.m+1,nw:=s.nw+1,d:=true} (.v (.l (.p s.m 0)))
def loadT(P:Program)(s:St)(t:TypeId)(x:Option Lf)(k:St->Tv->Prop)(raw:Prop):Prop:=
 match x with
 |some (.p id off)=>match dQ s.L id with
  |some cs=>match jt P t with
   |true=>match nC cs off 1 with
    |some [y]=>k s (.v (.l y))
    |_=>False
   |false=>match tX P t with
    |some n=>match nC cs off n with
     |some ys=>k s (.v (.a ys))
     |none=>False
    |none=>False
  |none=>False
 |some (.e x i sz off)=>sync s fun s=>match jt P t with
  |true=>match UN P t with
   | .l sh=>exS sh fun y=>bF s.h (TQ x i sz off)=some (y.v s.ρ)/\k s (.v (.l y))
   | .a _=>False
  |false=>match tX P t,UN P t with
   |some n,.a ss=>exL ss fun ys=>match Nat.beq (Am ys) n with
    |true=>pJ s.h (TQ x i sz off) (eQ s.ρ ys)/\k s (.v (.a ys))
    |false=>False
   |_,_=>False
 |_=>raw
where
 TQ (x:Sl) (i:Int) (sz:Nat):Option Nat->Addr
  |none=>x.at i sz
  |some o=>(x.at i sz).add o
def storeT(P:Program)(s:St)(t:TypeId)(x:Option Lf)(w:Option Tv)(k:St->Tv->Prop)(raw:Prop):Prop:=
 match x with
 |some (.p id off)=>match dQ s.L id,w with
  |some cs,some w=>match Al w,nL P t with
   |some vs,some n=>match Nat.beq (Am vs) n with
    |true=>match lm cs off vs with
     |some nA=>k {s with L:=yH s.L id nA,so:=(match Nat.blt id (j5 s.ρ)with|true=>id::s.so|false=>s.so),md:=id::s.md,d:=true} (.v (.l .u))
     |none=>False
    |false=>False
   |_,_=>False
  |_,_=>False
 |some (.e x i sz off)=>match w with
  |some (.v (.l y))=>match zf y,nL P t with
   |true,some 1=>sync s fun s=>match y.ok (j5 s.ρ)with
    |true=>(eX s.h (loadT.TQ x i sz off)/\Vars (dR s.h (loadT.TQ x i sz off) (y.v s.ρ)) (mn s.ρ s.L)/\
     ∀h2:Heap,h2=dR s.h (loadT.TQ x i sz off) (y.v s.ρ)->Vars h2 (mn s.ρ s.L)->k {s with h:=h2} (.v (.l .u)))
    |false=>False
   |_,_=>raw
  |_=>raw
 |_=>raw
def L9(P:Program)(t:TypeId):Option (List Lf):=
 match qN P t with
 |some z=>some (Aj z.cells.toList)
 |none=>none
def aeO:Option Tv->Option Cp
 |some (.v (.l (.p id off)))=>some (.p id off)
 |some (.v (.l (.i k x)))=>some (.v (.int k x))
 |some (.v (.l (.b x _)))=>some (.v (.bool x))
 |some (.v (.l (.s x)))=>some (.v (.string x))
 |some (.v (.l (.sl x)))=>some (.v x.v)
 |some (.v (.l (.r x)))=>some (.v x)
 |some (.v (.l (.q x _)))=>some (.v (.pointer x))
 |some (.v (.l (.m x)))=>some (.v (.map x))
 |_=>none
def Dy(E:List (Nat×Option Tv)):List Operand->Option (List Cp)
 |[]=>some []
 |x::xs=>match aeO (Ak E x),Dy E xs with
  |some c,some cs=>some (c::cs)
  |_,_=>none
def NW:List Av->Nat->Option Av
 |[],_=>none
 |x::_,0=>some x
 |_::xs,n+1=>NW xs n
def HG(P:Program)(fs:Array Field)(E:List (Nat×Option Tv))(cs:List Lf):List (Nat×Operand)->Option (List Lf)
 |[]=>some cs
 |(i,x)::ps=>match fs[i]?,Ak E x with
  |some f,some w=>match Al w,nL P f.type with
   |some vs,some n=>match Nat.beq (Am vs) n with
    |true=>match lm cs f.offset vs with
     |some nA=>HG P fs E nA ps
     |none=>none
    |false=>none
   |_,_=>none
  |_,_=>none
def uZ(P:Program):List Field->Bool
 |[]=>true
 |f::fs=>(match nL P f.type with|some _=>true|none=>false)&&uZ P fs
def HH(P:Program)(s:St)(x:Operand)(v:Option Addr)(e:TypeId)(k:St->Tv->Prop):Prop:=
 sync s fun s=>∃b:Nat,exL (Ai P 20 e) fun ys=>v=some ⟨b,0,none⟩/\Vars s.h ((b,eQ s.ρ ys)::mn s.ρ s.L)/\
  k {s with E:=YZ s.E x s.m,L:=(s.m,ys)::s.L,ρ:=s.ρ++[b],m:=s.m+1} (.v (.l (.p s.m 0)))
where
 YZ (E:List (Nat×Option Tv)) (x:Operand) (m:Nat):List (Nat×Option Tv):=
  match x with
  | .tmp t=>(t,some (.v (.l (.p m 0))))::E
  |_=>E
def HI(P:Program)(s:St)(op:Op)(ty:TypeId)(k:St->Tv->Prop):Prop:=
 match op with
 | .move x=>match Ak s.E x with
   |some y=>k s y
   |none=>False
 | .assign x=>match Ak s.E x with
   |some y=>k s y
   |none=>False
 | .call ⟨.value f,args,ats⟩=>P9 P s f args.toList ty k
 | .call ⟨.builtin .len,args,ats⟩=>match args.toList,ats.toList with
   |[x],[t]=>match lf s.E x,P.underlying t with
    |some (.sl x),some (.slice _)=>k s (.v (.l (.i .i64 (x.n:Int))))
    |some (.s x),some .string=>k s (.v (.l (.i .i64 (x.size:Int))))
    |_,_=>oq P s op ty (iy P ty) k
   |_,_=>oq P s op ty (iy P ty) k
 | .binOp o t x y _=>YX P s o t y (lf s.E x) (lf s.E y) (P8 s k) (oq P s op ty (match Nat.beq ty 0 with|true=>some (.v (.l .b))|false=>iy P ty) k)
 | .unOp o _ x=>match o,lf s.E x with
   | .not,some (.b x kn)=>k s (.v (.l (.b (!x) (UP kn))))
   | .neg,some (.i kd x)=>k s (.v (.l (.i kd (kd.wrap (0-x)))))
   |_,_=>oq P s op ty (iy P ty) k
 | .pick c a b=>match lf s.E c with
   |some (.b x kn)=>brB x kn s c (fun s'=>match Ak s.E a with|some y=>k s' y|none=>False) (fun s'=>match Ak s.E b with|some y=>k s' y|none=>False)
   |_=>oq P s op ty (iy P ty) k
 | .nilCheck x=>match lf s.E x with
   |some (.p id off)=>k s (.v (.l (.p id off)))
   |some (.e x i sz off)=>k s (.v (.l (.e x i sz off)))
   |some (.q v e)=>HH P s x v e k
   |_=>oq P s op ty (iy P ty) k
 | .makeFunc fn first cap=>match Dy s.E first.toList,Dy s.E cap.toList with
   |some fs,some cs=>k s (.v (.l (.f fn fs cs)))
   |_,_=>False
 | .fieldAddr t x i=>match lf s.E x,Ad P t i with
   |some (.p id off),some o=>k s (.v (.l (.p id (off+o))))
   |some (.e x j sz none),some o=>k s (.v (.l (.e x j sz (some o))))
   |_,_=>oq P s op ty (iy P ty) k
 | .indexAddr t x ix=>match lf s.E x,lf s.E ix,P.underlying t with
   |some (.sl x),some (.i _ j),some (.slice e)=>match nL P e with
    |some sz=>fp x j/\k s (.v (.l (.e x j sz none)))
    |none=>False
   |_,_,_=>oq P s op ty (iy P ty) k
 | .extract t ix=>match Ak s.E t with
   |some (.t xs)=>match NW xs ix with
    |some y=>k s (.v y)
    |none=>False
   |_=>oq P s op ty (iy P ty) k
 | .field t x i=>match Ak s.E x,P.underlying t with
   |some (.v (.a xs)),some (.struct fs)=>match fs[i]? with
    |some f=>match jt P f.type with
     |true=>match nC xs f.offset 1 with
      |some [y]=>k s (.v (.l y))
      |_=>False
     |false=>match tX P f.type with
      |some n=>match nC xs f.offset n with
       |some ys=>k s (.v (.a ys))
       |none=>False
      |none=>False
    |none=>False
   |_,_=>oq P s op ty (iy P ty) k
 | .build t parts=>match P.underlying t,L9 P t with
   |some (.struct fs),some zs=>match uZ P fs.toList,HG P fs s.E zs parts.toList with
    |true,some cs=>k s (.v (.a cs))
    |_,_=>False
   |_,_=>oq P s op ty (iy P ty) k
 | .load t x=>loadT P s t (lf s.E x) k (oq P s op ty (iy P ty) k)
 | .store t x v=>storeT P s t (lf s.E x) (Ak s.E v) k (oq P s op ty none k)
 | .box t v=>match Ak s.E v with
   |some y=>match Al y with
    |some cs=>YY s cs k
    |none=>False
   |none=>False
 | .alloc t=>match L9 P t with
   |some cs=>YY s cs k
   |none=>False
 | .buildSlice t _ _=>oq P s op ty (iy P t) k
 | .makeSlice t _ _=>oq P s op ty (iy P t) k
 | .convert _ dst _=>oq P s op ty (iy P dst) k
 | .slice t _ _ _ _=>oq P s op ty (match Nat.beq ty 0 with|true=>iy P t|false=>iy P ty) k
 |_=>oq P s op ty (iy P ty) k
def yI(n:Nat)(s:St)(dst:Option Tmp)(x:Tv):St:=
 match dst with
 |some d=>match Nat.blt d n with
  |true=>{s with E:=(d,some x)::s.E}
  |false=>s
 |none=>s
def HJ(P:Program)(ops:List Oper)(s:St)(o:Oper)(k:St->Tv->Prop):Prop:=
 match o.guard with
 |none=>HI P s o.op o.type k
 |some (j,want)=>match zK ops j with
  |none=>k s (.v (.l .u))
  |some t=>match sY s.E t with
   |some (.v (.l (.b x kn)))=>brB x kn s (.tmp t)
    (fun s'=>match want with|true=>HI P s' o.op o.type k|false=>k s' (.v (.l .u)))
    (fun s'=>match want with|true=>k s' (.v (.l .u))|false=>HI P s' o.op o.type k)
   |some (.v (.l .u))=>k s (.v (.l .u))
   |_=>False
def tIn(P:Program)(n:Nat)(ops:List Oper):List Oper->St->(St->Prop)->Prop
 |[],s,K=>K s
 |o::os,s,K=>HJ P ops s o fun s' x=>tIn P n ops os (yI n s' o.dst x) K
inductive Ht where
 |X5
 |bad
 |au (id off:Nat) (t:TypeId) (ys:List Lf)
 |ce (a:Addr) (v:Value)
 |cs (a:Addr) (vs:List Value)
 |se (q:Sem Value) (v:Value)
def u4(P:Program)(s:St)(op:Op)(x:Tv):Ht:=
 match op with
 | .load t a=>match lf s.E a with
   |some (.p id off)=>match dQ s.L id with
    |some cs=>match jt P t with
     |true=>match nC cs off 1 with
      |some [y]=> .au id off t [y]
      |_=> .bad
     |false=>match tX P t with
      |some n=>match nC cs off n with
       |some ys=> .au id off t ys
       |none=> .bad
      |none=> .bad
    |none=> .bad
   |some (.e y i sz off)=>match x.ok (j5 s.ρ),x with
    |true,.v (.l z)=>match jt P t with
     |true=> .ce (loadT.TQ y i sz off) (z.v s.ρ)
     |false=> .bad
    |true,.v (.a zs)=>match tX P t with
     |some n=>match Nat.beq (Am zs) n with
      |true=> .cs (loadT.TQ y i sz off) (eQ s.ρ zs)
      |false=> .bad
     |none=> .bad
    |_,_=> .bad
   |_=>Ma P s op x
 |_=>Ma P s op x
where
 Ma (P:Program) (s:St) (op:Op) (x:Tv):Ht:=
  match Kh (j5 s.ρ) s.E op.operands.toList,x.ok (j5 s.ρ),qv (GZ s.ρ s.E) op with
  |true,true,some q=> .se q (x.val s.ρ)
  |_,_,_=> .bad
def Ki(P:Program)(ops:List Oper)(s:St)(o:Oper)(x:Tv):Ht:=
 match o.guard with
 |none=>u4 P s o.op x
 |some (j,want)=>match zK ops j with
  |none=> .X5
  |some t=>match sY s.E t with
   |some (.v (.l (.b _ (some (v,_)))))=>match v,want with
    |true,true=>u4 P s o.op x
    |false,false=>u4 P s o.op x
    |_,_=> .X5
   |some (.v (.l .u))=> .X5
   |_=> .bad
def Dz(bf:List Nat):List (Nat×Ht)->List (Nat×Ht)
 |[]=>[]
 |(i,p)::S=>match gf bf i with
  |true=>Dz bf S
  |false=>(i,p)::Dz bf S
def DA(P:Program)(h:Heap)(K:Prop):List (Nat×Ht)->Prop
 |[]=>K
 |(_,.ce a v)::S=>bF h a=some v/\DA P h K S
 |(_,.cs a vs)::S=>pJ h a vs/\DA P h K S
 |(_,.bad)::S=>False
 |(_,.se q v)::S=>(∀w:World,w.heap=h->q.run P w= .ok v w)/\DA P h K S
 |(_,_)::S=>DA P h K S
def u5(a b:List Nat):List Nat:=takeN (j5 b-j5 a) b
where
 takeN:Nat->List Nat->List Nat
  |0,_=>[]
  |n+1,x::xs=>x::takeN n xs
  |_+1,[]=>[]
def qU(ids:List Nat):List (Nat×Ht)->Bool
 |[]=>true
 |(_,.au id _ _ _)::S=> ! gf ids id&&qU ids S
 |_::S=>qU ids S
def yl(P:Program)(n:Nat)(ops:List Oper)(K:St->Prop):Nat->List Bool->St->List (Nat×Ht)->Prop
 |0,l,s,_=>match bW ops 0 l with
  |[]=>K s
  |_::_=>False
 |m+1,l,s,S=>match eD (bW ops 0 l)with
  |some (i,o)=>HJ P ops s o fun s' x=>match qU (u5 s.md s'.md) S with
   |true=>match xZ o.op with
    |true=>yl P n ops K m (j3 l i) (yI n s' o.dst x) S
    |false=>yl P n ops K m (j3 l i) (yI n s' o.dst x) ((i,Ki P ops s' o x)::S)
   |false=>False
  |none=>match bW ops 0 l with
   |[]=>K s
   |r::rs=>J7 (fun i o=>HJ P ops s o fun s' x=>match Dz (ya ops o) S with
    |[]=>yl P n ops K m (j3 l i) (yI n s' o.dst x) []
    |e::S'=>match qU (u5 s.md s'.md) (e::S')with
     |true=>sync s' fun s'=>DA P s'.h (yl P n ops K m (j3 l i) (yI n s' o.dst x) (e::S')) (e::S')
     |false=>False) (r::rs)
def Y0(P:Program)(n:Nat)(ops:List Oper)(draw:Bool)(s:St)(K:St->Prop):Prop:=
 match draw with
 |false=>tIn P n ops ops s K
 |true=>match gU ops ops 0 with
  |true=>yl P n ops K (len ops) (pE ops) s []
  |false=>False
structure It where
 t:Nat
 sh:As
structure An where
 qV:List It
 ch:List Nat
 nv:List (Nat×List Sh)
def ou:List (Nat×List Sh)->List Nat
 |[]=>[]
 |(t,_)::r=>t::ou r
def aeQ:List (Nat×List Sh)->List Sh
 |[]=>[]
 |(_,ss)::r=> .n::(ss++aeQ r)
def Kj:Lf->Option Nat
 | .q (some ⟨b,0,none⟩) _=>some b
 |_=>none
def oM:List It->List Nat
 |[]=>[]
 |x::xs=>x.t::oM xs
def X6:As->List Sh
 | .l x=>[x]
 | .a xs=>xs
def sZ:List It->List Sh
 |[]=>[]
 |x::r=>X6 x.sh++sZ r
def CN(ch:List Nat):List (Nat×List Lf)->List Sh
 |[]=>[]
 |(i,xs)::L=>match gf ch i with
  |true=>qT xs++CN ch L
  |false=>CN ch L
def Ha:List Sh->Type
 |[]=>Heap->Prop
 | .i _::r=>Int->Ha r
 | .b::r=>Bool->Ha r
 | .s::r=>ByteArray->Ha r
 | .sl::r=>Sl->Ha r
 | .r::r=>Value->Ha r
 | .q _::r=>Option Addr->Ha r
 | .m::r=>Option Nat->Ha r
 | .n::r=>Nat->Ha r
def ud(ρ:List Nat):(sig:List Sh)->Ha sig->List Lf->Heap->Prop
 |[],J,[],h=>J h
 | .i k::r,J,.i k' x::vs,h=>match decide (k=k')with
   |true=>ud ρ r (J x) vs h
   |false=>False
 | .b::r,J,.b x _::vs,h=>ud ρ r (J x) vs h
 | .s::r,J,.s x::vs,h=>ud ρ r (J x) vs h
 | .sl::r,J,.sl x::vs,h=>ud ρ r (J x) vs h
 | .r::r,J,x::vs,h=>ud ρ r (J (x.v ρ)) vs h
 | .q _::r,J,.q x _::vs,h=>ud ρ r (J x) vs h
 | .m::r,J,.m x::vs,h=>ud ρ r (J x) vs h
 | .n::r,J,x::vs,h=>match Kj x with
   |some b=>ud ρ r (J b) vs h
   |none=>False
 |_,_,_,_=>False
def yJ:(sig:List Sh)->Ha sig->(List Lf->(Heap->Prop)->Prop)->Prop
 |[],J,Q=>Q [] J
 | .i k::r,J,Q=>∀x:Int,yJ r (J x) fun vs J'=>Q (.i k x::vs) J'
 | .b::r,J,Q=>∀x:Bool,yJ r (J x) fun vs J'=>Q (.b x none::vs) J'
 | .s::r,J,Q=>∀x:ByteArray,yJ r (J x) fun vs J'=>Q (.s x::vs) J'
 | .sl::r,J,Q=>∀x:Sl,yJ r (J x) fun vs J'=>Q (.sl x::vs) J'
 | .r::r,J,Q=>∀x:Value,yJ r (J x) fun vs J'=>Q (.r x::vs) J'
 | .q e::r,J,Q=>∀x:Option Addr,yJ r (J x) fun vs J'=>Q (.q x e::vs) J'
 | .m::r,J,Q=>∀x:Option Nat,yJ r (J x) fun vs J'=>Q (.m x::vs) J'
 | .n::r,J,Q=>∀b:Nat,yJ r (J b) fun vs J'=>Q (.q (some ⟨b,0,none⟩) 0::vs) J'
def ym:List Sh->List Lf->(List Lf->List Lf->Prop)->Prop
 |[],vs,K=>K [] vs
 |_::ss,x::vs,K=>ym ss vs fun xs r=>K (x::xs) r
 |_::_,[],_=>False
def X7:As->List Lf->(Av->List Lf->Prop)->Prop
 | .l _,x::vs,K=>K (.l x) vs
 | .l _,[],_=>False
 | .a ss,vs,K=>ym ss vs fun xs r=>K (.a xs) r
def Kk(n:Nat)(E:List (Nat×Option Tv))(t:Nat)(x:Option Tv):List (Nat×Option Tv):=
 match Nat.blt t n with
 |true=>(t,x)::E
 |false=>E
def HL(n:Nat):List Nat->List (Nat×Option Tv)->List (Nat×Option Tv)
 |[],E=>E
 |t::ts,E=>HL n ts (Kk n E t none)
def Y1(n:Nat):List It->List Lf->List (Nat×Option Tv)->(List Lf->List (Nat×Option Tv)->Prop)->Prop
 |[],vs,E,K=>K vs E
 |x::r,vs,E,K=>X7 x.sh vs fun y sA=>Y1 n r sA (Kk n E x.t (some (.v y))) K
def Qa(ch:List Nat):List (Nat×List Lf)->List Lf->(List (Nat×List Lf)->List Lf->Prop)->Prop
 |[],vs,K=>K [] vs
 |(i,xs)::L,vs,K=>match gf ch i with
  |true=>ym (qT xs) vs fun ys sA=>Qa ch L sA fun L' r=>K ((i,ys)::L') r
  |false=>Qa ch L vs fun L' r=>K ((i,xs)::L') r
def UQ(n:Nat):List (Nat×List Sh)->List Lf->St->(St->Prop)->Prop
 |[],_,s,K=>K s
 |(t,ss)::r,x::vs,s,K=>match Kj x with
  |some b=>ym ss vs fun ys sA=>UQ n r sA {s with E:=Kk n s.E t (some (.v (.l (.p s.m 0)))),L:=(s.m,ys)::s.L,ρ:=s.ρ++[b],m:=s.m+1} K
  |none=>False
 |_::_,[],_,_=>False
def bld(n:Nat)(a:An)(ws:List Nat)(vs:List Lf)(s:St)(K:St->Prop):Prop:=
 Y1 n a.qV vs (HL n ws s.E) fun sA E=>Qa a.ch s.L sA fun L Y2=>UQ n a.nv Y2 {s with E:=E,L:=L,md:=a.ch++s.md} K
def HM(E:List (Nat×Option Tv)):List It->(List Lf->Prop)->Prop
 |[],K=>K []
 |x::r,K=>match sY E x.t,x.sh with
  |some (.v (.l y)),.l _=>HM E r fun vs=>K (y::vs)
  |some (.v (.a ys)),.a ss=>match Nat.beq (Am ys) (CM ss)with
   |true=>HM E r fun vs=>K (ys++vs)
   |false=>False
  |_,_=>False
where
 CM:List Sh->Nat
  |[]=>0
  |_::xs=>CM xs+1
def Qb(L:List (Nat×List Lf))(ch:List Nat):List (Nat×List Lf)->(List Lf->Prop)->Prop
 |[],K=>K []
 |(i,xs)::L0,K=>match gf ch i with
  |true=>match dQ L i with
   |some cs=>match Nat.beq (Am cs) (Am xs)with
    |true=>Qb L ch L0 fun vs=>K (cs++vs)
    |false=>False
   |none=>False
  |false=>Qb L ch L0 K
def Mb(m:Nat)(ch:List Nat):List Nat->Bool
 |[]=>true
 |i::l=>(gf ch i|| !Nat.blt i m)&&Mb m ch l
def UR(m0:Nat)(s:St):List Nat->List (Nat×List Sh)->(List Lf->Prop)->Prop
 |_,[],K=>K []
 |ids,(t,ss)::r,K=>match sY s.E t with
  |some (.v (.l (.p id 0)))=>match Nat.blt id m0,gf ids id with
   |false,false=>match dQ s.L id with
    |some cs=>match Nat.beq (Am cs) (HM.CM ss)with
     |true=>UR m0 s (id::ids) r fun vs=>K (.q (some ⟨gh s.ρ id,0,none⟩) 0::(cs++vs))
     |false=>False
    |none=>False
   |_,_=>False
  |_=>False
def act(a:An)(s0 s:St)(K:List Lf->Prop):Prop:=
 match Mb s0.m a.ch (u5 s0.md s.md)with
 |true=>HM s.E a.qV fun vs=>Qb s.L a.ch s0.L fun sA=>UR s0.m s [] a.nv fun Y2=>K (vs++(sA++Y2))
 |false=>False
def Qc(a:An)(L:List (Nat×List Lf)):List Sh:=sZ a.qV++(CN a.ch L++aeQ a.nv)
def anT:List (Nat×An)->Nat->Option An
 |[],_=>none
 |(p,a)::r,n=>match Nat.beq p n with
  |true=>some a
  |false=>anT r n
def Kl(P:Program)(n:Nat)(an:Nat->Option An):Code->Nat->(St->Prop)->(Nat->St->Prop)->(St->Prop)->St->Prop
 | .skip,_,kn,_,_,s=>kn s
 | .region _ ops draw,_,kn,_,_,s=>Y0 P n ops.toList draw s kn
 | .seq a b,p,kn,kx,kr,s=>match an p with
   |none=>Kl P n an a (2*p) (fun s'=>Kl P n an b (2*p+1) kn kx kr s') kx kr s
   |some x=>sync s fun s=>∃J:Ha (Qc x s.L),Kl P n an a (2*p) (fun s'=>sync s' fun s'=>act x s s' fun vs=>ud s'.ρ _ J vs s'.h) kx kr s/\
    yJ _ J fun vs J'=>∀h':Heap,J' h'->bld n x (writes a) vs {s with h:=h'} fun s2=>Vars h' (mn s2.ρ s2.L)->Kl P n an b (2*p+1) kn kx kr s2
 | .cond c a b,p,kn,kx,kr,s=>match lf s.E c with
   |some (.b x k)=>brB x k s c (fun s=>Kl P n an a (2*p) kn kx kr s) (fun s=>Kl P n an b (2*p+1) kn kx kr s)
   |_=>False
 | .block id c,p,kn,kx,kr,s=>Kl P n an c (2*p) kn (fun i s'=>match Nat.beq i id with
   |true=>kn s'
   |false=>kx i s') kr s
 | .loop c,p,_,kx,kr,s=>match an p with
   |some x=>sync s fun s=>∃J:Nat->Ha (Qc x s.L),(∃n0:Nat,act x s s fun vs=>ud s.ρ _ (J n0) vs s.h)/\
    ∀m0:Nat,yJ _ (J m0) fun vs J'=>∀h':Heap,J' h'->bld n x (writes c) vs {s with h:=h'} fun s2=>Vars h' (mn s2.ρ s2.L)->
     Kl P n an c (2*p) (fun s'=>sync s' fun s'=>∃m:Nat,m<m0/\act x s s' fun vs=>ud s'.ρ _ (J m) vs s'.h) kx kr s2
   |none=>False
 | .exit id,_,_,kx,_,s=>kx id s
 | .ret,_,_,_,kr,s=>kr s
 | .label _,_,kn,_,_,s=>kn s
 |_,_,_,_,_,_=>False
def wj(ρ:List Nat):List Tv->List Value
 |[]=>[]
 |x::xs=>x.val ρ::wj ρ xs
def HO(m:Nat):List Tv->Bool
 |[]=>true
 |x::xs=>x.ok m&&HO m xs
def yK(P:Program)(K:aL):List ResultVar->List Tv->St->Prop
 |[],acc,s=>sync s fun s=>match HO (j5 s.ρ) acc with
  |true=>K (oneOf (wj s.ρ acc).reverse) s.h
  |false=>False
 | .tmp t::rs,acc,s=>match sY s.E t with
   |some x=>yK P K rs (x::acc) s
   |none=>False
 | .cell a t::rs,acc,s=>match lf s.E (.tmp a)with
   |some (.p id off)=>match dQ s.L id with
    |some cs=>match jt P t with
     |true=>match nC cs off 1 with
      |some [y]=>yK P K rs (.v (.l y)::acc) s
      |_=>False
     |false=>match tX P t with
      |some n=>match nC cs off n with
       |some ys=>yK P K rs (.v (.a ys)::acc) s
       |none=>False
      |none=>False
    |none=>False
   |_=>False
def US(args:List Tv)(L:List (Nat×List Lf))(ρ:List Nat)(h:Heap):St:=⟨Qd args 0,L,ρ,j5 ρ,0,[],[],false,h⟩
where
 Qd:List Tv->Nat->List (Nat×Option Tv)
  |[],_=>[]
  |x::xs,i=>(i,some x)::Qd xs (i+1)
end Go.Mx
