import Derived.Test.YtcnfcnoooecchaaGreatDoorM7
set_option linter.unusedVariables false
set_option linter.unusedSimpArgs false
namespace Go.Mx
abbrev KQ:=Value->Heap->Prop
abbrev LL:=List (Nat×List Value)
def Br(c:Bool)(A B:Prop):Prop:=(c=true->A)/\(c=false->B)
def Lt(L:LL)(k:LL->Prop):Prop:=k L
def Vi(h:Heap)(L:LL)(k:LL->Prop):Prop:=Vars h L->k L
def Va(h:Heap)(L:LL)(k:LL->Prop):Prop:=Vars h L/\k L
def A0(h:Heap)(I:List Nat)(L:LL)(k:Heap->LL->Prop):Prop:=∀h2:Heap,Fr (In I) h h2->Vars h2 L->k h2 L
def A1(h:Heap)(I:List Nat)(f:Nat->LL)(k:Nat->Heap->LL->Prop):Prop:=∀(b:Nat)(h2:Heap),h.size<=b->Fr (In I) h h2->Vars h2 (f b)->k b h2 (f b)
def A2(h:Heap)(I:List Nat)(f:Nat->Nat->LL)(k:Nat->Nat->Heap->LL->Prop):Prop:=∀(b c:Nat)(h2:Heap),h.size<=b->h.size<=c->Fr (In I) h h2->Vars h2 (f b c)->k b c h2 (f b c)
def A3(h:Heap)(I:List Nat)(f:Nat->Nat->Nat->LL)(k:Nat->Nat->Nat->Heap->LL->Prop):Prop:=∀(b c d:Nat)(h2:Heap),h.size<=b->h.size<=c->h.size<=d->Fr (In I) h h2->Vars h2 (f b c d)->k b c d h2 (f b c d)
def E1{α:Type}(f:α->Value)(P:Program)(o:Sem Value)(h:Heap)(L:LL)(k:α->Heap->Prop):Prop:=j5 P o h fun rv h2=>∃t:α,rv=f t/\Vars h2 L/\k t h2
def Q1{α:Type}(f:α->Value)(P:Program)(o:Sem Value)(k:α->Prop):Prop:=pop P o fun rv=>∃t:α,rv=f t/\k t
def R1{α:Type}(f:α->Value)(P:Program)(o:Sem Value)(h:Heap)(k:α->Prop):Prop:=Da P o h fun rv=>∃t:α,rv=f t/\k t
def H1{α:Type}(f:α->Value)(h:Heap)(a:Addr)(k:α->Prop):Prop:=∃t:α,bG h a=some (f t)/\k t
def G1{α:Type}(f:α->Value)(h:Heap)(s:Sl)(i:Int)(n:Nat)(k:α->Prop):Prop:=fq s i/\∃t:α,bG h (Sl.at s i n)=some (f t)/\k t
def S1(h:Heap)(a:Addr)(v:Value)(L:LL)(k:Heap->Prop):Prop:=fC h a/\Vars (dS h a v) L/\∀h2:Heap,h2=dS h a v->Vars h2 L->k h2
def Nj(n:Nat)(f:aK):Prop:=∃m:Nat,m<n/\f m
def Z0(cs:List Value):LL->LL|(b,_)::L=>(b,cs)::L|L=>L
def Z1(cs:List Value):LL->LL|x0::(b,_)::L=>x0::(b,cs)::L|L=>L
def Z2(cs:List Value):LL->LL|x0::x1::(b,_)::L=>x0::x1::(b,cs)::L|L=>L
def Z3(cs:List Value):LL->LL|x0::x1::x2::(b,_)::L=>x0::x1::x2::(b,cs)::L|L=>L
def Z4(cs:List Value):LL->LL|x0::x1::x2::x3::(b,_)::L=>x0::x1::x2::x3::(b,cs)::L|L=>L
def Z5(cs:List Value):LL->LL|x0::x1::x2::x3::x4::(b,_)::L=>x0::x1::x2::x3::x4::(b,cs)::L|L=>L
def Z6(cs:List Value):LL->LL|x0::x1::x2::x3::x4::x5::(b,_)::L=>x0::x1::x2::x3::x4::x5::(b,cs)::L|L=>L
def Z7(cs:List Value):LL->LL|x0::x1::x2::x3::x4::x5::x6::(b,_)::L=>x0::x1::x2::x3::x4::x5::x6::(b,cs)::L|L=>L
def C1{kh:Type}(f:kh->Value)(P:Program)(n:Nat)(a:Array Value)(h:Heap)(L:LL)(k:kh->Heap->Prop):Prop:=aG P n a h fun rv h2=>∃t1:kh,rv=f t1/\Vars h2 L/\k t1 h2
def C2{kh my:Type}(f:kh->my->Value)(P:Program)(n:Nat)(a:Array Value)(h:Heap)(L:LL)(k:kh->my->Heap->Prop):Prop:=aG P n a h fun rv h2=>∃t1:kh,∃t2:my,rv=f t1 t2/\Vars h2 L/\k t1 t2 h2
def C3{kh my pS:Type}(f:kh->my->pS->Value)(P:Program)(n:Nat)(a:Array Value)(h:Heap)(L:LL)(k:kh->my->pS->Heap->Prop):Prop:=aG P n a h fun rv h2=>∃t1:kh,∃t2:my,∃t3:pS,rv=f t1 t2 t3/\Vars h2 L/\k t1 t2 t3 h2
def C4{kh my pS vz:Type}(f:kh->my->pS->vz->Value)(P:Program)(n:Nat)(a:Array Value)(h:Heap)(L:LL)(k:kh->my->pS->vz->Heap->Prop):Prop:=aG P n a h fun rv h2=>∃t1:kh,∃t2:my,∃t3:pS,∃t4:vz,rv=f t1 t2 t3 t4/\Vars h2 L/\k t1 t2 t3 t4 h2
def C5{kh my pS vz Fs:Type}(f:kh->my->pS->vz->Fs->Value)(P:Program)(n:Nat)(a:Array Value)(h:Heap)(L:LL)(k:kh->my->pS->vz->Fs->Heap->Prop):Prop:=aG P n a h fun rv h2=>∃t1:kh,∃t2:my,∃t3:pS,∃t4:vz,∃t5:Fs,rv=f t1 t2 t3 t4 t5/\Vars h2 L/\k t1 t2 t3 t4 t5 h2
def C6{kh my pS vz Fs U7:Type}(f:kh->my->pS->vz->Fs->U7->Value)(P:Program)(n:Nat)(a:Array Value)(h:Heap)(L:LL)(k:kh->my->pS->vz->Fs->U7->Heap->Prop):Prop:=aG P n a h fun rv h2=>∃t1:kh,∃t2:my,∃t3:pS,∃t4:vz,∃t5:Fs,∃t6:U7,rv=f t1 t2 t3 t4 t5 t6/\Vars h2 L/\k t1 t2 t3 t4 t5 t6 h2
def O1{kh:Type}(i1:kh)(h:Heap)(k:(Nat->kh->Heap->Prop)->Nat->kh->Heap->Prop):Prop:=∃J:Nat->kh->Heap->Prop,(∃n0:Nat,J n0 i1 h)/\∀(n:Nat)(t1:kh)(h2:Heap),J n t1 h2->k J n t1 h2
def O2{kh my:Type}(i1:kh)(i2:my)(h:Heap)(k:(Nat->kh->my->Heap->Prop)->Nat->kh->my->Heap->Prop):Prop:=∃J:Nat->kh->my->Heap->Prop,(∃n0:Nat,J n0 i1 i2 h)/\∀(n:Nat)(t1:kh)(t2:my)(h2:Heap),J n t1 t2 h2->k J n t1 t2 h2
def O3{kh my pS:Type}(i1:kh)(i2:my)(i3:pS)(h:Heap)(k:(Nat->kh->my->pS->Heap->Prop)->Nat->kh->my->pS->Heap->Prop):Prop:=∃J:Nat->kh->my->pS->Heap->Prop,(∃n0:Nat,J n0 i1 i2 i3 h)/\∀(n:Nat)(t1:kh)(t2:my)(t3:pS)(h2:Heap),J n t1 t2 t3 h2->k J n t1 t2 t3 h2
def O4{kh my pS vz:Type}(i1:kh)(i2:my)(i3:pS)(i4:vz)(h:Heap)(k:(Nat->kh->my->pS->vz->Heap->Prop)->Nat->kh->my->pS->vz->Heap->Prop):Prop:=∃J:Nat->kh->my->pS->vz->Heap->Prop,(∃n0:Nat,J n0 i1 i2 i3 i4 h)/\∀(n:Nat)(t1:kh)(t2:my)(t3:pS)(t4:vz)(h2:Heap),J n t1 t2 t3 t4 h2->k J n t1 t2 t3 t4 h2
def O5{kh my pS vz Fs:Type}(i1:kh)(i2:my)(i3:pS)(i4:vz)(i5:Fs)(h:Heap)(k:(Nat->kh->my->pS->vz->Fs->Heap->Prop)->Nat->kh->my->pS->vz->Fs->Heap->Prop):Prop:=∃J:Nat->kh->my->pS->vz->Fs->Heap->Prop,(∃n0:Nat,J n0 i1 i2 i3 i4 i5 h)/\∀(n:Nat)(t1:kh)(t2:my)(t3:pS)(t4:vz)(t5:Fs)(h2:Heap),J n t1 t2 t3 t4 t5 h2->k J n t1 t2 t3 t4 t5 h2
def O6{kh my pS vz Fs U7:Type}(i1:kh)(i2:my)(i3:pS)(i4:vz)(i5:Fs)(i6:U7)(h:Heap)(k:(Nat->kh->my->pS->vz->Fs->U7->Heap->Prop)->Nat->kh->my->pS->vz->Fs->U7->Heap->Prop):Prop:=∃J:Nat->kh->my->pS->vz->Fs->U7->Heap->Prop,(∃n0:Nat,J n0 i1 i2 i3 i4 i5 i6 h)/\∀(n:Nat)(t1:kh)(t2:my)(t3:pS)(t4:vz)(t5:Fs)(t6:U7)(h2:Heap),J n t1 t2 t3 t4 t5 t6 h2->k J n t1 t2 t3 t4 t5 t6 h2
def pk(p:Prop){q:Prop}(_:p=q:=by conv=>{lhs;dsimp only[Br,Lt,Vi,Va,A0,A1,A2,A3,E1,Q1,R1,H1,G1,S1,Nj,C1,C2,C3,C4,C5,C6,O1,O2,O3,O4,O5,O6,Z0,Z1,Z2,Z3,Z4,Z5,Z6,Z7]}):Prop:=q
def ae1(fn:Func)(args:List Tv)(L:List (Nat×List Lf))(ρ:List Nat)(n:Nat):Bool:=fn.body.isSome&& !(fn.name== "runtime.NumGoroutine")&&QM args L ρ&&Nat.beq ((wK ρ args).length+(fn.ntmps-(wK ρ args).length)) n
theorem cw{P:Program}(hm:P.follows .mixedOrders=true){f:FuncId}{fn:Func}(hf:P.funcs[f]?=some fn)(A:List (Nat×An))(args:List Tv)(L:List (Nat×List Lf))(ρ:List Nat){h:Heap}{K:KQ}(V:Vars h (mn ρ L))(n:Nat){U:Prop}
 (e:(KH P n (anT A) (Ku fn) 1 (fun s=>ze P K fn.results.toList [] s) (fun _ _=>False) (fun s=>ze P K fn.results.toList [] s) (UW args L ρ h),ae1 fn args L ρ n)=(U,true)) (H:U):aG P f (wK ρ args).toArray h K:=by
 obtain⟨e1,e2⟩:=pT e
 unfold ae1 at e2
 simp only[bK,gE]at e2
 obtain⟨⟨⟨c1,c2⟩,c3⟩,c4⟩:=e2
 obtain⟨c,hc⟩:=E3.1 c1
 refine Fq hm hf (c:=Ku fn) (by unfold Ku;rw[hc]) c2 (anT A) _ n rfl (fo c4) _ rfl c3 V ?_
 rw[e1]
 exact H
end Go.Mx
