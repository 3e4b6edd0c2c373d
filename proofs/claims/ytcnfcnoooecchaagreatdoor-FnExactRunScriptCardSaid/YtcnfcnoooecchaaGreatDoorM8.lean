import Derived.Test.YtcnfcnoooecchaaGreatDoorM7
set_option linter.unusedVariables false
set_option linter.unusedSimpArgs false
namespace Go.Mx
abbrev KQ:=Value->Heap->Prop
abbrev LL:=List (Nat×List Value)
def Br(c:Bool)(A B:Prop):Prop:=(c=true->A)/\(c=false->B)
def Lt(L:LL)(k:LL->Prop):Prop:=k L
def Vi(h:Heap)(L:LL)(k:LL->Prop):Prop:=Vars h L->k L
def Va(h:Heap)(L:LL)(k:LL->Prop):Prop:=Vars h L/\k L
def A0(h:Heap)(I:List Nat)(L:LL)(k:Heap->LL->Prop):Prop:=∀h2:Heap,Fr (In I) h h2->Vars h2 L->k h2 L
def A1(h:Heap)(I:List Nat)(f:Nat->LL)(k:Nat->Heap->LL->Prop):Prop:=∀(b:Nat)(h2:Heap),h.size<=b->Fr (In I) h h2->Vars h2 (f b)->k b h2 (f b)
def A2(h:Heap)(I:List Nat)(f:Nat->Nat->LL)(k:Nat->Nat->Heap->LL->Prop):Prop:=∀(b c:Nat)(h2:Heap),h.size<=b->h.size<=c->Fr (In I) h h2->Vars h2 (f b c)->k b c h2 (f b c)
def A3(h:Heap)(I:List Nat)(f:Nat->Nat->Nat->LL)(k:Nat->Nat->Nat->Heap->LL->Prop):Prop:=∀(b c d:Nat)(h2:Heap),h.size<=b->h.size<=c->h.size<=d->Fr (In I) h h2->Vars h2 (f b c d)->k b c d h2 (f b c d)
def E1{α:Type}(f:α->Value)(P:Program)(o:Sem Value)(h:Heap)(L:LL)(k:α->Heap->Prop):Prop:=jQ P o h fun rv h2=>∃t:α,rv=f t/\Vars h2 L/\k t h2
def Q1{α:Type}(f:α->Value)(P:Program)(o:Sem Value)(k:α->Prop):Prop:=pop P o fun rv=>∃t:α,rv=f t/\k t
def R1{α:Type}(f:α->Value)(P:Program)(o:Sem Value)(h:Heap)(k:α->Prop):Prop:=zN P o h fun rv=>∃t:α,rv=f t/\k t
def H1{α:Type}(f:α->Value)(h:Heap)(a:Addr)(k:α->Prop):Prop:=∃t:α,aR h a=some (f t)/\k t
def G1{α:Type}(f:α->Value)(h:Heap)(s:Sl)(i:Int)(n:Nat)(k:α->Prop):Prop:=dQ s i/\∃t:α,aR h (Sl.at s i n)=some (f t)/\k t
def S1(h:Heap)(a:Addr)(v:Value)(L:LL)(k:Heap->Prop):Prop:=dT h a/\Vars (cK h a v) L/\∀h2:Heap,h2=cK h a v->Vars h2 L->k h2
def Nj(n:Nat)(f:Nat->Prop):Prop:=∃m:Nat,m<n/\f m
def Z0(cs:List Value):LL->LL|(b,_)::L=>(b,cs)::L|L=>L
def Z1(cs:List Value):LL->LL|x0::(b,_)::L=>x0::(b,cs)::L|L=>L
def Z2(cs:List Value):LL->LL|x0::x1::(b,_)::L=>x0::x1::(b,cs)::L|L=>L
def Z3(cs:List Value):LL->LL|x0::x1::x2::(b,_)::L=>x0::x1::x2::(b,cs)::L|L=>L
def Z4(cs:List Value):LL->LL|x0::x1::x2::x3::(b,_)::L=>x0::x1::x2::x3::(b,cs)::L|L=>L
def Z5(cs:List Value):LL->LL|x0::x1::x2::x3::x4::(b,_)::L=>x0::x1::x2::x3::x4::(b,cs)::L|L=>L
def Z6(cs:List Value):LL->LL|x0::x1::x2::x3::x4::x5::(b,_)::L=>x0::x1::x2::x3::x4::x5::(b,cs)::L|L=>L
def Z7(cs:List Value):LL->LL|x0::x1::x2::x3::x4::x5::x6::(b,_)::L=>x0::x1::x2::x3::x4::x5::x6::(b,cs)::L|L=>L
def C1{iF:Type}(f:iF->Value)(P:Program)(n:Nat)(a:Array Value)(h:Heap)(L:LL)(k:iF->Heap->Prop):Prop:=aE P n a h fun rv h2=>∃t1:iF,rv=f t1/\Vars h2 L/\k t1 h2
def C2{iF km:Type}(f:iF->km->Value)(P:Program)(n:Nat)(a:Array Value)(h:Heap)(L:LL)(k:iF->km->Heap->Prop):Prop:=aE P n a h fun rv h2=>∃t1:iF,∃t2:km,rv=f t1 t2/\Vars h2 L/\k t1 t2 h2
def C3{iF km nf:Type}(f:iF->km->nf->Value)(P:Program)(n:Nat)(a:Array Value)(h:Heap)(L:LL)(k:iF->km->nf->Heap->Prop):Prop:=aE P n a h fun rv h2=>∃t1:iF,∃t2:km,∃t3:nf,rv=f t1 t2 t3/\Vars h2 L/\k t1 t2 t3 h2
def C4{iF km nf rY:Type}(f:iF->km->nf->rY->Value)(P:Program)(n:Nat)(a:Array Value)(h:Heap)(L:LL)(k:iF->km->nf->rY->Heap->Prop):Prop:=aE P n a h fun rv h2=>∃t1:iF,∃t2:km,∃t3:nf,∃t4:rY,rv=f t1 t2 t3 t4/\Vars h2 L/\k t1 t2 t3 t4 h2
def C5{iF km nf rY Cn:Type}(f:iF->km->nf->rY->Cn->Value)(P:Program)(n:Nat)(a:Array Value)(h:Heap)(L:LL)(k:iF->km->nf->rY->Cn->Heap->Prop):Prop:=aE P n a h fun rv h2=>∃t1:iF,∃t2:km,∃t3:nf,∃t4:rY,∃t5:Cn,rv=f t1 t2 t3 t4 t5/\Vars h2 L/\k t1 t2 t3 t4 t5 h2
def C6{iF km nf rY Cn Q9:Type}(f:iF->km->nf->rY->Cn->Q9->Value)(P:Program)(n:Nat)(a:Array Value)(h:Heap)(L:LL)(k:iF->km->nf->rY->Cn->Q9->Heap->Prop):Prop:=aE P n a h fun rv h2=>∃t1:iF,∃t2:km,∃t3:nf,∃t4:rY,∃t5:Cn,∃t6:Q9,rv=f t1 t2 t3 t4 t5 t6/\Vars h2 L/\k t1 t2 t3 t4 t5 t6 h2
def O1{iF:Type}(i1:iF)(h:Heap)(k:(Nat->iF->Heap->Prop)->Nat->iF->Heap->Prop):Prop:=∃J:Nat->iF->Heap->Prop,(∃n0:Nat,J n0 i1 h)/\∀(n:Nat)(t1:iF)(h2:Heap),J n t1 h2->k J n t1 h2
def O2{iF km:Type}(i1:iF)(i2:km)(h:Heap)(k:(Nat->iF->km->Heap->Prop)->Nat->iF->km->Heap->Prop):Prop:=∃J:Nat->iF->km->Heap->Prop,(∃n0:Nat,J n0 i1 i2 h)/\∀(n:Nat)(t1:iF)(t2:km)(h2:Heap),J n t1 t2 h2->k J n t1 t2 h2
def O3{iF km nf:Type}(i1:iF)(i2:km)(i3:nf)(h:Heap)(k:(Nat->iF->km->nf->Heap->Prop)->Nat->iF->km->nf->Heap->Prop):Prop:=∃J:Nat->iF->km->nf->Heap->Prop,(∃n0:Nat,J n0 i1 i2 i3 h)/\∀(n:Nat)(t1:iF)(t2:km)(t3:nf)(h2:Heap),J n t1 t2 t3 h2->k J n t1 t2 t3 h2
def O4{iF km nf rY:Type}(i1:iF)(i2:km)(i3:nf)(i4:rY)(h:Heap)(k:(Nat->iF->km->nf->rY->Heap->Prop)->Nat->iF->km->nf->rY->Heap->Prop):Prop:=∃J:Nat->iF->km->nf->rY->Heap->Prop,(∃n0:Nat,J n0 i1 i2 i3 i4 h)/\∀(n:Nat)(t1:iF)(t2:km)(t3:nf)(t4:rY)(h2:Heap),J n t1 t2 t3 t4 h2->k J n t1 t2 t3 t4 h2
def O5{iF km nf rY Cn:Type}(i1:iF)(i2:km)(i3:nf)(i4:rY)(i5:Cn)(h:Heap)(k:(Nat->iF->km->nf->rY->Cn->Heap->Prop)->Nat->iF->km->nf->rY->Cn->Heap->Prop):Prop:=∃J:Nat->iF->km->nf->rY->Cn->Heap->Prop,(∃n0:Nat,J n0 i1 i2 i3 i4 i5 h)/\∀(n:Nat)(t1:iF)(t2:km)(t3:nf)(t4:rY)(t5:Cn)(h2:Heap),J n t1 t2 t3 t4 t5 h2->k J n t1 t2 t3 t4 t5 h2
def O6{iF km nf rY Cn Q9:Type}(i1:iF)(i2:km)(i3:nf)(i4:rY)(i5:Cn)(i6:Q9)(h:Heap)(k:(Nat->iF->km->nf->rY->Cn->Q9->Heap->Prop)->Nat->iF->km->nf->rY->Cn->Q9->Heap->Prop):Prop:=∃J:Nat->iF->km->nf->rY->Cn->Q9->Heap->Prop,(∃n0:Nat,J n0 i1 i2 i3 i4 i5 i6 h)/\∀(n:Nat)(t1:iF)(t2:km)(t3:nf)(t4:rY)(t5:Cn)(t6:Q9)(h2:Heap),J n t1 t2 t3 t4 t5 t6 h2->k J n t1 t2 t3 t4 t5 t6 h2
def pk(p:Prop){q:Prop}(_:p=q:=by conv=>{lhs;dsimp only[Br,Lt,Vi,Va,A0,A1,A2,A3,E1,Q1,R1,H1,G1,S1,Nj,C1,C2,C3,C4,C5,C6,O1,O2,O3,O4,O5,O6,Z0,Z1,Z2,Z3,Z4,Z5,Z6,Z7]}):Prop:=q
def abh(fn:Func)(args:List Tv)(L:List (Nat×List Lf))(ρ:List Nat)(n:Nat):Bool:=fn.body.isSome&& !(fn.name== "runtime.NumGoroutine")&&Ni args L ρ&&Nat.beq ((tt ρ args).length+(fn.ntmps-(tt ρ args).length)) n
theorem cw{P:Program}(hm:P.follows .mixedOrders=true){f:FuncId}{fn:Func}(hf:P.funcs[f]?=some fn)(A:List (Nat×An))(args:List Tv)(L:List (Nat×List Lf))(ρ:List Nat){h:Heap}{K:KQ}(V:Vars h (kb ρ L))(n:Nat){U:Prop}
 (e:(Hg P n (anT A) (GS fn) 1 (fun s=>vG P K fn.results.toList [] s) (fun _ _=>False) (fun s=>vG P K fn.results.toList [] s) (QV args L ρ h),abh fn args L ρ n)=(U,true)) (H:U):aE P f (tt ρ args).toArray h K:=by
 obtain⟨e1,e2⟩:=Prod.mk.inj e
 unfold abh at e2
 simp only[Bool.and_eq_true,Bool.not_eq_true']at e2
 obtain⟨⟨⟨c1,c2⟩,c3⟩,c4⟩:=e2
 obtain⟨c,hc⟩:=Option.isSome_iff_exists.1 c1
 refine Cm hm hf (c:=GS fn) (by unfold GS;rw[hc]) c2 (anT A) _ n rfl (Nat.eq_of_beq_eq_true c4) _ rfl c3 V ?_
 rw[e1]
 exact H
end Go.Mx
