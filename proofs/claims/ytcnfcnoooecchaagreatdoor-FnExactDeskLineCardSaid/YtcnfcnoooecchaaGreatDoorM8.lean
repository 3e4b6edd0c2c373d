import Derived.Test.YtcnfcnoooecchaaGreatDoorM7
set_option linter.unusedVariables false
set_option linter.unusedSimpArgs false
namespace Go.Mx
abbrev KQ:=Value->Heap->Prop
abbrev LL:=List (Nat×List Value)
def Br(c:Bool)(A B:Prop):Prop:=(c=true->A)/\(c=false->B)
def Lt(L:LL)(k:LL->Prop):Prop:=k L
def Vi(h:Heap)(L:LL)(k:LL->Prop):Prop:=Vars h L->k L
def Va(h:Heap)(L:LL)(k:LL->Prop):Prop:=Vars h L/\k L
def A0(h:Heap)(I:List Nat)(L:LL)(k:Heap->LL->Prop):Prop:=∀h2:Heap,Fr (In I) h h2->Vars h2 L->k h2 L
def A1(h:Heap)(I:List Nat)(f:Nat->LL)(k:Nat->Heap->LL->Prop):Prop:=∀(b:Nat)(h2:Heap),h.size<=b->Fr (In I) h h2->Vars h2 (f b)->k b h2 (f b)
def A2(h:Heap)(I:List Nat)(f:Nat->Nat->LL)(k:Nat->Nat->Heap->LL->Prop):Prop:=∀(b c:Nat)(h2:Heap),h.size<=b->h.size<=c->Fr (In I) h h2->Vars h2 (f b c)->k b c h2 (f b c)
def A3(h:Heap)(I:List Nat)(f:Nat->Nat->Nat->LL)(k:Nat->Nat->Nat->Heap->LL->Prop):Prop:=∀(b c d:Nat)(h2:Heap),h.size<=b->h.size<=c->h.size<=d->Fr (In I) h h2->Vars h2 (f b c d)->k b c d h2 (f b c d)
def E1{α:Type}(f:α->Value)(P:Program)(o:Sem Value)(h:Heap)(L:LL)(k:α->Heap->Prop):Prop:=kE P o h fun rv h2=>∃t:α,rv=f t/\Vars h2 L/\k t h2
def Q1{α:Type}(f:α->Value)(P:Program)(o:Sem Value)(k:α->Prop):Prop:=pop P o fun rv=>∃t:α,rv=f t/\k t
def R1{α:Type}(f:α->Value)(P:Program)(o:Sem Value)(h:Heap)(k:α->Prop):Prop:=zS P o h fun rv=>∃t:α,rv=f t/\k t
def H1{α:Type}(f:α->Value)(h:Heap)(a:Addr)(k:α->Prop):Prop:=∃t:α,aQ h a=some (f t)/\k t
def G1{α:Type}(f:α->Value)(h:Heap)(s:Sl)(i:Int)(n:Nat)(k:α->Prop):Prop:=dW s i/\∃t:α,aQ h (Sl.at s i n)=some (f t)/\k t
def S1(h:Heap)(a:Addr)(v:Value)(L:LL)(k:Heap->Prop):Prop:=dI h a/\Vars (cK h a v) L/\∀h2:Heap,h2=cK h a v->Vars h2 L->k h2
def Nj(n:Nat)(f:Nat->Prop):Prop:=∃m:Nat,m<n/\f m
def Z0(cs:List Value):LL->LL|(b,_)::L=>(b,cs)::L|L=>L
def Z1(cs:List Value):LL->LL|x0::(b,_)::L=>x0::(b,cs)::L|L=>L
def Z2(cs:List Value):LL->LL|x0::x1::(b,_)::L=>x0::x1::(b,cs)::L|L=>L
def Z3(cs:List Value):LL->LL|x0::x1::x2::(b,_)::L=>x0::x1::x2::(b,cs)::L|L=>L
def Z4(cs:List Value):LL->LL|x0::x1::x2::x3::(b,_)::L=>x0::x1::x2::x3::(b,cs)::L|L=>L
def Z5(cs:List Value):LL->LL|x0::x1::x2::x3::x4::(b,_)::L=>x0::x1::x2::x3::x4::(b,cs)::L|L=>L
def Z6(cs:List Value):LL->LL|x0::x1::x2::x3::x4::x5::(b,_)::L=>x0::x1::x2::x3::x4::x5::(b,cs)::L|L=>L
def Z7(cs:List Value):LL->LL|x0::x1::x2::x3::x4::x5::x6::(b,_)::L=>x0::x1::x2::x3::x4::x5::x6::(b,cs)::L|L=>L
def C1{iM:Type}(f:iM->Value)(P:Program)(n:Nat)(a:Array Value)(h:Heap)(L:LL)(k:iM->Heap->Prop):Prop:=aE P n a h fun rv h2=>∃t1:iM,rv=f t1/\Vars h2 L/\k t1 h2
def C2{iM kq:Type}(f:iM->kq->Value)(P:Program)(n:Nat)(a:Array Value)(h:Heap)(L:LL)(k:iM->kq->Heap->Prop):Prop:=aE P n a h fun rv h2=>∃t1:iM,∃t2:kq,rv=f t1 t2/\Vars h2 L/\k t1 t2 h2
def C3{iM kq nu:Type}(f:iM->kq->nu->Value)(P:Program)(n:Nat)(a:Array Value)(h:Heap)(L:LL)(k:iM->kq->nu->Heap->Prop):Prop:=aE P n a h fun rv h2=>∃t1:iM,∃t2:kq,∃t3:nu,rv=f t1 t2 t3/\Vars h2 L/\k t1 t2 t3 h2
def C4{iM kq nu su:Type}(f:iM->kq->nu->su->Value)(P:Program)(n:Nat)(a:Array Value)(h:Heap)(L:LL)(k:iM->kq->nu->su->Heap->Prop):Prop:=aE P n a h fun rv h2=>∃t1:iM,∃t2:kq,∃t3:nu,∃t4:su,rv=f t1 t2 t3 t4/\Vars h2 L/\k t1 t2 t3 t4 h2
def C5{iM kq nu su Cs:Type}(f:iM->kq->nu->su->Cs->Value)(P:Program)(n:Nat)(a:Array Value)(h:Heap)(L:LL)(k:iM->kq->nu->su->Cs->Heap->Prop):Prop:=aE P n a h fun rv h2=>∃t1:iM,∃t2:kq,∃t3:nu,∃t4:su,∃t5:Cs,rv=f t1 t2 t3 t4 t5/\Vars h2 L/\k t1 t2 t3 t4 t5 h2
def C6{iM kq nu su Cs RW:Type}(f:iM->kq->nu->su->Cs->RW->Value)(P:Program)(n:Nat)(a:Array Value)(h:Heap)(L:LL)(k:iM->kq->nu->su->Cs->RW->Heap->Prop):Prop:=aE P n a h fun rv h2=>∃t1:iM,∃t2:kq,∃t3:nu,∃t4:su,∃t5:Cs,∃t6:RW,rv=f t1 t2 t3 t4 t5 t6/\Vars h2 L/\k t1 t2 t3 t4 t5 t6 h2
def O1{iM:Type}(i1:iM)(h:Heap)(k:(Nat->iM->Heap->Prop)->Nat->iM->Heap->Prop):Prop:=∃J:Nat->iM->Heap->Prop,(∃n0:Nat,J n0 i1 h)/\∀(n:Nat)(t1:iM)(h2:Heap),J n t1 h2->k J n t1 h2
def O2{iM kq:Type}(i1:iM)(i2:kq)(h:Heap)(k:(Nat->iM->kq->Heap->Prop)->Nat->iM->kq->Heap->Prop):Prop:=∃J:Nat->iM->kq->Heap->Prop,(∃n0:Nat,J n0 i1 i2 h)/\∀(n:Nat)(t1:iM)(t2:kq)(h2:Heap),J n t1 t2 h2->k J n t1 t2 h2
def O3{iM kq nu:Type}(i1:iM)(i2:kq)(i3:nu)(h:Heap)(k:(Nat->iM->kq->nu->Heap->Prop)->Nat->iM->kq->nu->Heap->Prop):Prop:=∃J:Nat->iM->kq->nu->Heap->Prop,(∃n0:Nat,J n0 i1 i2 i3 h)/\∀(n:Nat)(t1:iM)(t2:kq)(t3:nu)(h2:Heap),J n t1 t2 t3 h2->k J n t1 t2 t3 h2
def O4{iM kq nu su:Type}(i1:iM)(i2:kq)(i3:nu)(i4:su)(h:Heap)(k:(Nat->iM->kq->nu->su->Heap->Prop)->Nat->iM->kq->nu->su->Heap->Prop):Prop:=∃J:Nat->iM->kq->nu->su->Heap->Prop,(∃n0:Nat,J n0 i1 i2 i3 i4 h)/\∀(n:Nat)(t1:iM)(t2:kq)(t3:nu)(t4:su)(h2:Heap),J n t1 t2 t3 t4 h2->k J n t1 t2 t3 t4 h2
def O5{iM kq nu su Cs:Type}(i1:iM)(i2:kq)(i3:nu)(i4:su)(i5:Cs)(h:Heap)(k:(Nat->iM->kq->nu->su->Cs->Heap->Prop)->Nat->iM->kq->nu->su->Cs->Heap->Prop):Prop:=∃J:Nat->iM->kq->nu->su->Cs->Heap->Prop,(∃n0:Nat,J n0 i1 i2 i3 i4 i5 h)/\∀(n:Nat)(t1:iM)(t2:kq)(t3:nu)(t4:su)(t5:Cs)(h2:Heap),J n t1 t2 t3 t4 t5 h2->k J n t1 t2 t3 t4 t5 h2
def O6{iM kq nu su Cs RW:Type}(i1:iM)(i2:kq)(i3:nu)(i4:su)(i5:Cs)(i6:RW)(h:Heap)(k:(Nat->iM->kq->nu->su->Cs->RW->Heap->Prop)->Nat->iM->kq->nu->su->Cs->RW->Heap->Prop):Prop:=∃J:Nat->iM->kq->nu->su->Cs->RW->Heap->Prop,(∃n0:Nat,J n0 i1 i2 i3 i4 i5 i6 h)/\∀(n:Nat)(t1:iM)(t2:kq)(t3:nu)(t4:su)(t5:Cs)(t6:RW)(h2:Heap),J n t1 t2 t3 t4 t5 t6 h2->k J n t1 t2 t3 t4 t5 t6 h2
def pk(p:Prop){q:Prop}(_:p=q:=by conv=>{lhs;dsimp only[Br,Lt,Vi,Va,A0,A1,A2,A3,E1,Q1,R1,H1,G1,S1,Nj,C1,C2,C3,C4,C5,C6,O1,O2,O3,O4,O5,O6,Z0,Z1,Z2,Z3,Z4,Z5,Z6,Z7]}):Prop:=q
def abZ(fn:Func)(args:List Tv)(L:List (Nat×List Lf))(ρ:List Nat)(n:Nat):Bool:=fn.body.isSome&& !(fn.name== "runtime.NumGoroutine")&&NU args L ρ&&Nat.beq ((tM ρ args).length+(fn.ntmps-(tM ρ args).length)) n
theorem cw{P:Program}(hm:P.follows .mixedOrders=true){f:FuncId}{fn:Func}(hf:P.funcs[f]?=some fn)(A:List (Nat×An))(args:List Tv)(L:List (Nat×List Lf))(ρ:List Nat){h:Heap}{K:KQ}(V:Vars h (kg ρ L))(n:Nat){U:Prop}
 (e:(HI P n (anT A) (Hq fn) 1 (fun s=>vO P K fn.results.toList [] s) (fun _ _=>False) (fun s=>vO P K fn.results.toList [] s) (RG args L ρ h),abZ fn args L ρ n)=(U,true)) (H:U):aE P f (tM ρ args).toArray h K:=by
 obtain⟨e1,e2⟩:=Prod.mk.inj e
 unfold abZ at e2
 simp only[Bool.and_eq_true,Bool.not_eq_true']at e2
 obtain⟨⟨⟨c1,c2⟩,c3⟩,c4⟩:=e2
 obtain⟨c,hc⟩:=Option.isSome_iff_exists.1 c1
 refine Cr hm hf (c:=Hq fn) (by unfold Hq;rw[hc]) c2 (anT A) _ n rfl (Nat.eq_of_beq_eq_true c4) _ rfl c3 V ?_
 rw[e1]
 exact H
end Go.Mx
