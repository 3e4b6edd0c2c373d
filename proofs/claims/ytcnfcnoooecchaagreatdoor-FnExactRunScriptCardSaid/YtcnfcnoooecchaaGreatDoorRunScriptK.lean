import Derived.Test.YtcnfcnoooecchaaGreatDoorRunScriptK3
set_option linter.unusedVariables false
set_option linter.unusedSimpArgs false
namespace Go.Proofs.YtcnfcnoooecchaaGreatDoor
open Go Go.Mx
structure I4(r:List Int×Bool):Prop where
 b:∀x,x∈r.1-> -1000000000000000000<=x/\x<=1000000000000000000
 n:r.1.length<=1000
 ne:r.2=true->1<=r.1.length
theorem I4.none:I4 ([],false):=⟨fun x hx=>by simp at hx,by simp,fun h=>by cases h⟩
def NtB(r:Int×Bool):Prop:=0<=r.1/\r.1<=1000000000000000000
structure Mf(g:List (List Int))(r:St×Bool):Prop where
 ok:r.2=true->gj g r.1
 b:∀x,x∈r.1.1-> -9223372036854775808<=x/\x<=9223372036854775807
 n:r.1.1.length<=1000
 p: -9223372036854775808<=r.1.2/\r.1.2<=9223372036854775807
theorem Mf.of{g:List (List Int)}{s:St}(W:gj g s)(b:Bool):Mf g (s,b):=by
 have sm:=fQ W
 exact⟨fun _=>W,fun x hx=>by have:=sm.1 x hx;omega,by have:=sm.2.2.2;show s.1.length<=1000;omega,by have:=sm.2;show _<=s.2/\s.2<=_;omega⟩
theorem Mf.none(g:List (List Int)):Mf g (([],0),false):=⟨fun h=>(by cases h),fun x hx=>by simp at hx,by simp,by show(-9223372036854775808:Int)<=0/\(0:Int)<=9223372036854775807;omega⟩
theorem p5(g:List (List Int))(rs:List Int)(p n:Int):Mf g (dH g rs p n):=by
 unfold dH
 split
 ·rename_i h
  have W:=cV (Bool.and_eq_true_iff.1 h).1
  split
  ·exact Mf.none g
  ·rename_i s hs
   exact Mf.of (JI _ _ _ W _ _ hs) true
 ·exact Mf.none g
theorem UH(g:List (List Int))(rs:List Int)(p:Int):(0<=(dU g rs p).1/\(dU g rs p).1<=10000)/\(0<=(dU g rs p).2.1/\(dU g rs p).2.1<=10000):=by
 unfold dU
 split
 ·by_cases h:∃m k,sE g (rs,p) m k/\k<=2000
  ·obtain⟨m,k,R,hk⟩:=h
   have:=R.lt
   rw[Fv R hk]
   exact⟨⟨by show(0:Int)<=m;omega,by show(m:Int)<=10000;omega⟩,⟨by show(0:Int)<=(k:Int)-m;omega,by show(k:Int)-m<=10000;omega⟩⟩
  ·rw[Ka fun m k R=>Nat.lt_of_not_le fun hk=>h ⟨m,k,R,hk⟩]
   exact⟨⟨Int.le_refl _,by decide⟩,⟨Int.le_refl _,by decide⟩⟩
 ·exact⟨⟨Int.le_refl _,by decide⟩,⟨Int.le_refl _,by decide⟩⟩
theorem ac4(g:List (List Int))(rs:List Int)(p:Int):I4 (rm g rs p):=by
 unfold rm
 split
 ·rename_i h
  have W:=cV h
  have gl:=aO W.bE
  by_cases h0:cR g rs p g.length<0
  ·rw[zu h0];exact I4.none
  ·have hn:0<=cR g rs p g.length:=by omega
   by_cases hL:∃t:Nat×Nat,vn g rs p t.1 t.2
   ·obtain⟨⟨i,d⟩,L⟩:=hL
    rw[zw hn L]
    obtain⟨i',d',e1,e2,e3⟩:=sf W W.lo W.hi hn
    have hd:i+d<=g.length:=by
     rcases Nat.lt_or_ge (i'+d') (i+d)with tf|hge
     ·exact absurd e3 (L.inj i' (i'+d') (by omega) tf)
     ·omega
    have d1:=L.d1
    refine⟨fun x hx=> ?_,by simp;omega,fun _=>by simp;omega⟩
    obtain⟨r,_,hr⟩:=List.mem_map.1 hx
    have hr:cR g rs p (i+r)=x:=hr
    have: -1<=cR g rs p (i+r)/\cR g rs p (i+r)<(g.length:Int):=kI W W.lo W.hi (i+r)
    omega
   ·unfold Qg
    rw[dif_neg (fun h=>hL h.2)]
    exact I4.none
 ·exact I4.none
theorem ac5(g:List (List Int))(rs:List Int)(p n:Int):I4 (iH g rs p n):=by
 have hl:=K9 g rs p n
 refine⟨?_,by omega,?_⟩
 ·unfold iH
  split
  ·rename_i h
   have W:=cV (Bool.and_eq_true_iff.1 h).1
   have gl:=aO W.bE
   have key:∀(m:Nat)(t:List Int)(s:St)(t':List Int)(s':St),gj g s->(∀x,x∈t->0<=x/\x<=8)->runT g nL m t s=some (t',s')->∀x,x∈t'->0<=x/\x<=8:=by
    intro m
    induction m with
    |zero=>
     intro t s t' s' _ ht h
     simp only[runT,Option.some.injEq,Prod.mk.injEq]at h
     rw[<-h.1];exact ht
    |succ m ih=>
     intro t s t' s' W ht h
     rw[runT]at h
     split at h
     ·cases h
     ·rename_i s2 hs
      have W2:=W.step hs
      refine ih _ _ _ _ W2 (fun x hx=> ?_) h
      simp only[nL,List.mem_append,List.mem_singleton]at hx
      rcases hx with hx|rfl
      ·exact ht x hx
      ·have:=W2.lo;have:=W2.hi;have:=(aO W2.bE).2;omega
   split
   ·simp
   ·rename_i t s hs
    intro x hx
    have:=key _ _ _ _ _ W (fun x hx=>by simp only[List.mem_singleton]at hx;subst hx;have:=W.lo;have:=W.hi;exact⟨W.lo,by have h2:x<(g.length:Int):=W.hi;omega⟩) hs x hx
    omega
  ·simp
 ·unfold iH
  split
  ·split
   ·intro h;cases h
   ·rename_i t s hs
    intro _
    have:=yn _ _ _ _ _ hs
    simp at this
    show 1<=t.length
    omega
  ·intro h;cases h
theorem ac6(g:List (List Int))(rs:List Int)(p n:Int):I4 (nT g rs p n):=by
 have hl:=Pa g rs p n
 refine⟨?_,by omega,?_⟩
 ·unfold nT
  split
  ·rename_i h
   have hn:=aX.1 (Bool.and_eq_true_iff.1 h).2
   split
   ·simp
   ·rename_i t s hs
    intro x hx
    have:=(zo n.toNat 0 _ _ _ _ (fun x hx=>by simp only[List.mem_replicate]at hx;omega) hs).2 x hx
    omega
  ·simp
 ·unfold nT
  split
  ·rename_i h
   have W:=cV (Bool.and_eq_true_iff.1 h).1
   have gl:=aO W.bE
   split
   ·intro h;cases h
   ·rename_i t s hs
    intro _
    have:=(zo n.toNat 0 _ _ _ _ (fun x hx=>by simp only[List.mem_replicate]at hx;omega) hs).1
    simp at this
    show 1<=t.length
    omega
  ·intro h;cases h
theorem uT{τ:Type}{g:List (List Int)}{test:τ->St->Bool×τ}{A7:Int}:∀(f:Nat)(n:Int)(t:τ)(s:St),0<=n->0<=(bF g test A7 f n t s).1/\(bF g test A7 f n t s).1<=n+f
 |0,n,t,s,h=>by rw[bF];exact⟨Int.le_refl _,by show(0:Int)<=n+(0:Nat);omega⟩
 |f+1,n,t,s,h=>by
  have z:(0:Int)<=n+((f+1:Nat):Int):=by omega
  rw[bF]
  split
  ·split
   ·exact⟨h,by show n<=n+((f+1:Nat):Int);omega⟩
   ·split
    ·exact⟨Int.le_refl _,z⟩
    ·have:=uT (g:=g) (test:=test) (A7:=A7) f (n+1) (test t s).2 (by assumption) (by omega)
     exact⟨this.1,by omega⟩
  ·split
   ·exact⟨Int.le_refl _,z⟩
   ·have:=uT (g:=g) (test:=test) (A7:=A7) f (n+1) t (by assumption) (by omega)
    exact⟨this.1,by omega⟩
theorem ac7(g:List (List Int))(rs:List Int)(p q:Int):NtB (nj g rs p q):=by
 unfold nj
 split
 ·have:=uT (g:=g) (test:=fun(_:Unit) s=>(decide (s.2=q),())) (A7:=0) 2001 0 () (rs,p) (Int.le_refl _)
  exact⟨this.1,by omega⟩
 ·exact⟨Int.le_refl _,by decide⟩
theorem BH{α:Type}{M:Nat}:∀{cs:List (List α)},(∀c,c∈cs->c.length<=M)->(dA cs).length<=M^cs.length
 |[],_=>by simp[dA]
 |c::cs,h=>by
  have ih:=BH (cs:=cs) fun d hd=>h d (List.mem_cons_of_mem _ hd)
  have hc:=h c List.mem_cons_self
  have e:(dA (c::cs)).length=c.length*(dA cs).length:=by
   rw[dA,List.length_flatMap]
   have:∀l:List α,(l.map fun x=>((dA cs).map (x:: ·)).length).sum=l.length*(dA cs).length:=by
    intro l
    induction l with
    |nil=>simp
    |cons x l ih=>rw[List.map_cons,List.sum_cons,ih,List.length_map,List.length_cons,Nat.add_mul];omega
   exact this c
  rw[e,List.length_cons,Nat.pow_succ,Nat.mul_comm]
  exact Nat.mul_le_mul ih hc
theorem ac8(g:List (List Int))(s:Int):NtB (ra g s):=by
 unfold ra
 split
 ·rename_i h
  unfold Wy at h
  rw[Bool.and_eq_true,aX]at h
  have gl:=aO h.1
  have e:=Lw h.1 h.2.1 (by omega)
  have h1:(CG g s).length<=(qV g s).length:=List.length_filter_le _ _
  have h2:(qV g s).length<=5^8:=by
   unfold qV
   have:=BH (M:=5) (cs:=(List.range g.length).map (tM g s)) fun c hc=>by
    obtain⟨q,hq,rfl⟩:=List.mem_map.1 hc
    have hq:=List.mem_range.1 hq
    unfold tM
    split
    ·simp
    ·have:=(aT h.1 (List.getElem_mem hq)).1
     rw[aS hq]
     simp[Ff]
     omega
   rw[List.length_map,List.length_range]at this
   exact Nat.le_trans this (Nat.pow_le_pow_right (by omega) gl.2)
  have h3:(5:Nat)^8=390625:=by decide
  exact⟨by show 0<=tY g s;omega,by show tY g s<=_;omega⟩
 ·exact⟨Int.le_refl _,by decide⟩
theorem ac9(g:List (List Int))(s:Int):I4 (px g s):=by
 unfold px
 split
 ·rename_i h
  have gl:=aO (Bool.and_eq_true_iff.1 (Bool.and_eq_true_iff.1 h).1).1
  have e:=mF g s
  exact⟨fun x hx=>by have:=FZ h x hx;omega,by show(ly g s).length<=_;omega,fun _=>by show 1<=(ly g s).length;omega⟩
 ·exact I4.none
theorem ada(g:List (List Int))(p a b:Int):(0<=(rC g p a b).1.1/\(rC g p a b).1.1<=100000)/\(0<=(rC g p a b).1.2/\(rC g p a b).1.2<=100000):=by
 unfold rC
 split
 ·rename_i h
  rw[Bool.and_eq_true,aX]at h
  have C:=Of h.1
  have d:=C.den
  have hp:p.toNat<g.length:=by omega
  have r:=C.Wj hp
  rw[show((p.toNat:Nat):Int)=p by omega]at r
  have gp:=wH (x:=zM g a b p) (d:=jP g a b) (by omega)
  show(0<=(jW (zM g a b p) (jP g a b)).1/\(jW (zM g a b p) (jP g a b)).1<=100000)/\(0<=(jW (zM g a b p) (jP g a b)).2/\(jW (zM g a b p) (jP g a b)).2<=100000)
  unfold jW
  have k:∀x:Int,0<=x->x<=15625->0<=x/(Int.gcd (zM g a b p) (jP g a b):Int)/\x/(Int.gcd (zM g a b p) (jP g a b):Int)<=100000:=fun x h0 h1=>⟨Int.ediv_nonneg h0 (by omega),by have:=Int.ediv_le_self (Int.gcd (zM g a b p) (jP g a b):Int) h0;omega⟩
  exact⟨k _ r.1 (by omega),k _ (by omega) (by omega)⟩
 ·exact⟨⟨Int.le_refl _,by decide⟩,⟨Int.le_refl _,by decide⟩⟩
theorem adb(n k:Int):I4 (pz n k):=by
 unfold pz
 split
 ·rename_i h
  obtain⟨A,B,C,l,hc⟩:=lz (k:=k.toNat) (n:=n.toNat) (by omega) (by omega)
  rw[hc]
  have hl:=hJ hc
  have hm:∀{m A B C:Nat}{l:List Nat},m<=250->eO k.toNat m=some (A,B,C,l)->∀i,i∈l->i<=1000000:=by
   intro m
   induction m with
   |zero=>
    intro A B C l _ hc i hi
    rw[eO]at hc
    simp only[Option.some.injEq,Prod.mk.injEq]at hc
    rw[<-hc.2.2.2]at hi
    simp at hi
   |succ m ih=>
    intro A B C l hm hc i hi
    obtain⟨A0,B0,C0,l0,h0⟩:=lz (k:=k.toNat) (n:=m) (by omega) (by omega)
    obtain⟨j,hw,_,rfl⟩:=lA h0 hc
    rcases List.mem_append.1 hi with hi|hi
    ·exact ih (by omega) h0 i hi
    ·simp only[List.mem_singleton]at hi
     subst hi
     have key:∀(n A B C i:Nat){j B' C':Nat},i<=1000000->nN n A B C i=some (j,B',C')->j<=1000000:=by
      intro n
      induction n with
      |zero=>intro A B C i j B' C' _ h;cases h
      |succ n ih=>
       intro A B C i j B' C' hi h
       cases ht:A.testBit i with
       |false=>
        have:=uP h ht
        simp only[Prod.mk.injEq]at this
        omega
       |true=>
        obtain⟨h1,m,hm,h2⟩:=ry h ht
        obtain rfl:n=m:=by omega
        refine ih _ _ _ _ ?_ h2
        have:=Px h1
        unfold nxG
        split
        ·omega
        ·split
         ·omega
         ·split<;>omega
     exact key _ _ _ _ _ (by omega) hw
  refine⟨fun x hx=> ?_,by simp,fun _=>by simp⟩
  have:l.getLastD 0<=1000000:=by
   cases pd:l.getLast? with
   |none=>rw[List.getLastD_eq_getLast?,pd];simp
   |some i=>rw[List.getLastD_eq_getLast?,pd];exact hm (by omega) hc i (List.mem_of_getLast? pd)
  simp only[List.mem_cons,List.not_mem_nil,or_false]at hx
  rcases hx with rfl|rfl<;>omega
 ·exact I4.none
theorem ade(b d k n:Int):NtB (zx b d k n):=by
 unfold zx
 split
 ·rename_i e
  obtain⟨B,D,N,rfl,rfl,rfl,q1,q2,q3,q4,q5⟩:=wI e
  simp only[Int.toNat_natCast]
  obtain⟨c1,c2,c3,c4⟩:=pW (b:=B) (d:=D) (by omega) (by omega) N (rs:=List.replicate (bA B (D-1)) k) (by simp) (mH q4)
  have key:∀l:List Int,(∀x,x∈l->0<=x/\x<=1)->0<=l.sum/\l.sum<=l.length:=by
   intro l
   induction l with
   |nil=>intro _;simp
   |cons x l ih=>
    intro h
    have:=ih fun y hy=>h y (List.mem_cons_of_mem _ hy)
    have:=h x List.mem_cons_self
    simp only[List.sum_cons,List.length_cons]
    omega
  have:=key _ c4
  exact⟨this.1,by show List.sum _<=_;omega⟩
 ·exact⟨Int.le_refl _,by decide⟩
theorem dF{s:ByteArray}{l:List UInt8}(h:(s.toList==(⟨l.toArray⟩:ByteArray).toList)=true):s.data.toList=l:=by
 rw[ny]at h
 exact of_decide_eq_true h
theorem aV{s:ByteArray}{l:List UInt8}(h:(s.toList==(⟨l.toArray⟩:ByteArray).toList)=false):s.data.toList≠l:=by
 rw[ny]at h
 exact of_decide_eq_false h
theorem p7{h h':Heap}{b1:Nat}{p:Nat×List Value}{cs lH:List Value}(f:Fr (fun k=>k=b1) h h')(N:dC h' b1 lH):∀{L:List (Nat×List Value)},Vars h (L++[p,(b1,cs)])->Vars h' (L++[p,(b1,lH)])
 |[],V=>V.set (i:=1) rfl f N
 |(b,c)::L,V=>by
  have dZ:b≠b1:=fun e=>V.ne (b1,cs) (by simp) e.symm
  refine .cons (V.head.fr f fun hk=>dZ hk) (fun q hq=> ?_) (p7 f N V.tail)
  have:∀q:Nat×List Value,q∈L++[p,(b1,cs)]->q.1≠b:=V.ne
  rcases List.mem_append.1 hq with hq|hq
  ·exact this q (List.mem_append.2 (.inl hq))
  ·simp only[List.mem_cons,List.not_mem_nil,or_false]at hq
   rcases hq with rfl|rfl
   ·exact this q (by simp)
   ·exact fun e=>dZ e.symm
theorem gG{h:Heap}{p q:Nat×List Value}:∀{L:List (Nat×List Value)},Vars h (L++[p,q])->Vars h [q]
 |[],V=>V.tail
 |_::_,V=>gG V.tail
theorem iV.same{lo:Nat}{h:Heap}(sV:lo<=h.size){b1:Nat}{g w:Sl}{d:Dk}{F F' Z:Nat->Prop}(D:nX lo h b1 g w d false F F' Z){Y:Heap}{t:ByteArray}{ok:Bool}{a:pY}{tx:List UInt8}(f:Fr (fun k=>h.size<=k) h Y)(V:Vars Y [(b1,[g.v,w.v,VI d.2.2,VB false])])(h1:ok=true->a=some (d,tx)/\t=⟨tx.toArray⟩)(h2:ok=false->a=none):iV lo h b1 Z (some a) (.agg #[VS t,VB ok]) Y:=by
 refine⟨t,ok,g,w,d.2.2,false,rfl,V,f.mono fun k _ hk=> .inr hk,?_⟩
 cases ok with
 |false=>rw[h2 rfl];exact⟨rfl,rfl⟩
 |true=>
  obtain⟨e1,e2⟩:=h1 rfl
  rw[e1]
  exact⟨rfl,rfl,e2,rfl,F,F',D.fr f fun k hk=>hk⟩
theorem iV.Gu{lo:Nat}{h:Heap}{b1 b2:Nat}{Z:Nat->Prop}{g w:Sl}{p:Int}{Y:Heap}{t:ByteArray}{ok:Bool}(f:Fr (fun k=>k=b1\/h.size<=k) h Y)(V:Vars Y [(b1,[g.v,w.v,VI p,VB true])]):iV lo h b1 Z none (.agg #[VS t,VB ok]) Y:=⟨t,ok,g,w,p,true,rfl,V,f,rfl⟩
theorem ky{lo:Nat}{h:Heap}(GL:fE lo h)(sV:lo<=h.size){b1 b2:Nat}{g w:Sl}{d:Dk}{F F' Z:Nat->Prop}(D:nX lo h b1 g w d false F F' Z){L0:List (Nat×List Value)}{dV:Heap}(nV:Fr (fun k=>h.size<=k) h dV)(dK:h.size<=b2)(hL:Vars dV (L0++[(b2,[VS (⟨#[]⟩:ByteArray),VB false]),(b1,[g.v,w.v,VI d.2.2,VB false])])){X:Heap}{t:Sl}{S:Nat->Prop}{r:List Int×Bool}(B:I4 r)(H:aQ S X t r.1)(fX:Fr No dV X){K:Value->Heap->Prop}(HK:∀v Y,iV lo h b1 Z (some (PD d r)) v Y->K v Y):
 aE Tryz.prog 158 #[t.v,VB r.2] X fun rv h'=>∃t':ByteArray,∃I5:Bool,rv= .agg #[VS t',VB I5]/\Vars h' (L0++[(b2,[VS (⟨#[]⟩:ByteArray),VB false]),(b1,[g.v,w.v,VI d.2.2,VB false])])/\∀kY:Heap,Fr (In [b2]) h' kY->Vars kY (L0++[(b2,[VS t',VB I5]),(b1,[g.v,w.v,VI d.2.2,VB false])])->K (.agg #[VS t',VB I5]) kY:=by
 have FX:=nV.trans fX.aB
 refine TF (GL.next (FX.mono fun k _ hk=>by omega)).here r.2 H (fun x hx=>by have:=B.b x hx;omega) B.n _ fun h' f'=>⟨_,_,rfl,(hL.aB fX).aB f',fun kY f'' V=>HK _ _ (iV.same sV D (tx:=zL r.1) ((FX.trans f'.aB).trans (f''.mono fun k _ hk=>by simp only[In,List.mem_singleton]at hk;omega)) (gG V) (fun e=> ?_) fun e=> ?_)⟩
 ·unfold PD
  rw[if_pos e,UG (B.ne e)]
  exact⟨rfl,rfl⟩
 ·unfold PD
  rw[if_neg (by rw[e];exact Bool.false_ne_true)]
theorem rA{lo:Nat}{h:Heap}(GL:fE lo h)(sV:lo<=h.size){b1 b2:Nat}{g w:Sl}{d:Dk}{F F' Z:Nat->Prop}(D:nX lo h b1 g w d false F F' Z){L0:List (Nat×List Value)}{dV:Heap}(nV:Fr (fun k=>h.size<=k) h dV)(dK:h.size<=b2)(hL:Vars dV (L0++[(b2,[VS (⟨#[]⟩:ByteArray),VB false]),(b1,[g.v,w.v,VI d.2.2,VB false])])){X:Heap}{r:Int×Bool}(B:NtB r)(fX:Fr No dV X){K:Value->Heap->Prop}(HK:∀v Y,iV lo h b1 Z (some (UE d r)) v Y->K v Y):
 aE Tryz.prog 116 #[VI r.1,VB r.2] X fun rv h'=>∃t':ByteArray,∃I5:Bool,rv= .agg #[VS t',VB I5]/\Vars h' (L0++[(b2,[VS (⟨#[]⟩:ByteArray),VB false]),(b1,[g.v,w.v,VI d.2.2,VB false])])/\∀kY:Heap,Fr (In [b2]) h' kY->Vars kY (L0++[(b2,[VS t',VB I5]),(b1,[g.v,w.v,VI d.2.2,VB false])])->K (.agg #[VS t',VB I5]) kY:=by
 have FX:=nV.trans fX.aB
 unfold NtB at B
 refine PG (GL.next (FX.mono fun k _ hk=>by omega)).here r.2 (by omega) _ fun h' f'=>⟨_,_,rfl,(hL.aB fX).aB f',fun kY f'' V=>HK _ _ (iV.same sV D (tx:=Lib.itoa r.1) ((FX.trans f'.aB).trans (f''.mono fun k _ hk=>by simp only[In,List.mem_singleton]at hk;omega)) (gG V) (fun e=> ?_) fun e=> ?_)⟩
 ·unfold UE
  rw[if_pos e]
  exact⟨rfl,rfl⟩
 ·unfold UE
  rw[if_neg (by rw[e];exact Bool.false_ne_true)]
theorem zD{lo:Nat}{h:Heap}(GL:fE lo h)(sV:lo<=h.size){b1 b2:Nat}{g w:Sl}{d:Dk}{F F' Z:Nat->Prop}(D:nX lo h b1 g w d false F F' Z){L0:List (Nat×List Value)}{dV:Heap}(nV:Fr (fun k=>h.size<=k) h dV)(dK:h.size<=b2)(hL:Vars dV (L0++[(b2,[VS (⟨#[]⟩:ByteArray),VB false]),(b1,[g.v,w.v,VI d.2.2,VB false])]))(Ag:b2<dV.size){X:Heap}{t:Sl}{r:St×Bool}(B:Mf d.1 r)(H:bR X (Iv dV.size X.size) t r.1.1)(fX:Fr No dV X){K:Value->Heap->Prop}(HK:∀v Y,iV lo h b1 Z (some (BG d r)) v Y->K v Y):
 aE Tryz.prog 155 #[VP b1 0,.agg #[t.v,VI r.1.2],VB r.2] X fun rv h'=>∃x4:Sl,∃x5:Sl,∃x6:Int,∃x7:Bool,∃t':ByteArray,∃I5:Bool,rv= .agg #[VS t',VB I5]/\Vars h' (L0++[(b2,[VS (⟨#[]⟩:ByteArray),VB false]),(b1,[x4.v,x5.v,VI x6,VB x7])])/\∀kY:Heap,Fr (In [b2]) h' kY->Vars kY (L0++[(b2,[VS t',VB I5]),(b1,[x4.v,x5.v,VI x6,VB x7])])->K (.agg #[VS t',VB I5]) kY:=by
 have FX:=nV.trans fX.aB
 have lb:=D.V.head.lt
 have zX:=FX.size
 have zV:=fX.size
 have Ul:=nV.size
 have V:=hL.aB fX
 refine DY (GL.next (FX.mono fun k _ hk=>by omega)) D.lb (by omega) (gG V) H.eQ (fun k hk=>by have:=hk.1;omega) B.b B.n B.p _ fun h' f' V'=> ?_
 refine⟨g,(if r.2=true then t else w),(if r.2=true then r.1.2 else d.2.2),false,_,_,rfl,p7 f' V'.head V,fun kY f'' V2=>HK _ _ ?_⟩
 have n2:∀{k:Nat},In [b2] k->k=b2:=fun hk=>by simpa[In]using hk
 have fB:Fr (fun k=>k=b1\/h.size<=k) h kY:=((FX.mono fun k _ hk=> .inr hk).trans (f'.mono fun k _ hk=> .inl hk)).trans (f''.mono fun k _ hk=> .inr (by have:=n2 hk;omega))
 refine⟨_,r.2,_,_,_,false,rfl,gG V2,fB,?_⟩
 have V3:=gG V2
 unfold BG
 cases hr:r.2 with
 |false=>rw[if_neg Bool.false_ne_true];exact⟨rfl,rfl⟩
 |true=>
  rw[hr]at V3
  have W:=B.ok hr
  have wl:1<=r.1.1.length:=by have:=aO W.bE;have h2:r.1.1.length=d.1.length:=W.len;omega
  rw[if_pos rfl]
  have W2:=Ow.fr (Ow.fr H f' fun k hk aI=>by have:=(H.aH hk).1.1;omega) f'' fun k hk aI=>by have h1:=(H.aH hk).1.1;have:=n2 aI;omega
  exact⟨rfl,rfl,by rw[p4 wl],rfl,D.Z9 (n:=h.size) (Nat.le_refl _) V3 fB (W2.mono fun k _ hk=>by have:=hk.1;omega)⟩
set_option maxHeartbeats 4000000 in
theorem PI{lo:Nat}{h:Heap}(GL:fE lo h)(sV:lo<=h.size){b1:Nat}{g w:Sl}{d:Dk}{F F' Z:Nat->Prop}(D:nX lo h b1 g w d false F F' Z)(ok:nW d)(s:ByteArray)(K:Value->Heap->Prop)(HK:∀v h',iV lo h b1 Z (iP d s.data.toList) v h'->K v h'):aE Tryz.prog 113 #[VP b1 0,VS s] h K:=by
 have lb:=D.V.head.lt
 have ll:=D.lb
 have dl:=pZ ok
 have WK:=cV ok
 refine aeL b1 g w d.2.2 false s h K D.V fun b2 h1 dK f1 bY=> ?_
 have f1:=f1.aF
 have z1:=f1.size
 refine⟨fun b3 x1 b4 x2 x3 h'=>x1=g/\x2=w/\x3=d.2.2/\Fr (fun k=>h.size<=k) h h',⟨fun b5 h2 P9 f2 _ b6 h3 Vy f3 _ h4 f4 _ h5 f5 _=>⟨rfl,rfl,rfl,?_⟩,fun b5 h2 P9 f2 _ b6 h3 Vy f3 _ h4 f4 _ h5 f5 _=>⟨rfl,rfl,rfl,?_⟩⟩,?_⟩
 ·have:=f2.size
  exact(((f1.aB.trans f2.aF.aB).trans f3.aF.aB).trans (f4.mono fun k _ hk=>by simp only[In,List.mem_singleton]at hk;omega)).trans (f5.mono fun k _ hk=>by simp only[In,List.mem_singleton]at hk;omega)
 ·have:=f2.size
  exact(((f1.aB.trans f2.aF.aB).trans f3.aF.aB).trans (f4.mono fun k _ hk=>by simp only[In,List.mem_singleton]at hk;omega)).trans (f5.mono fun k _ hk=>by simp only[In,List.mem_singleton]at hk;omega)
 rintro b3 _ b4 _ _ dV ⟨rfl,rfl,rfl,nV⟩ dL
 have BI:=D.fr nV fun k hk=>hk
 have zV:=nV.size
 have Ag:=dL.tail.tail.head.lt
 have aab:=GL.next (nV.mono fun k _ hk=>by omega:Fr (fun k=>lo<=k) h dV)
 have GJ:=BI.G.rd
 have Mg:aQ _ dV _ d.2.1:=BI.W.rd
 have n2:∀{k:Nat},In [b2] k->k=b2:=fun hk=>by simpa[In]using hk
 unfold iP at HK
 refine⟨fun e=> ?_,fun e1=>⟨fun e=> ?_,fun e2=>⟨fun e=> ?_,fun e3=>⟨fun e=> ?_,fun e4=>⟨fun e=> ?_,fun e5 vm f26 tJ=> ?_⟩⟩⟩⟩⟩
 ·rw[if_pos (dF e)]at HK
  refine Nv GJ Mg d.2.2 _ fun t hH lL f11=>⟨t,_,_,rfl,dL.aB f11,zD GL sV D (L0:=[_,_]) nV dK dL Ag (p5 d.1 d.2.1 d.2.2 1) lL f11 HK⟩
 ·rw[if_neg (aV e1),if_pos (dF e)]at HK
  have gg:=WK.bE
  refine oX GJ (jg gg) (aO gg).1 _ fun LG f14=>⟨_,rfl,dL.aB f14,fun UI f15 L3=>HK _ _ (iV.same sV D (tx:=tT d.1) ((nV.trans f14.aB).trans (f15.mono fun k _ hk=>by have:=n2 hk;omega)) (aW (L:=[_,_,_]) L3) (fun _=>⟨rfl,rfl⟩) fun e=>by cases e)⟩
 ·rw[if_neg (aV e1),if_neg (aV e2),if_pos (dF e)]at HK
  have sm:=(fQ WK).2
  refine vz aab.here Mg (by omega) (uS ok) (by omega) _ fun LG f14=>⟨_,rfl,dL.aB f14,fun UI f15 L3=>HK _ _ (iV.same sV D (tx:=nQ d.2) ((nV.trans f14.aB).trans (f15.mono fun k _ hk=>by have:=n2 hk;omega)) (aW (L:=[_,_,_]) L3) (fun _=>⟨rfl,by rw[p4 (s:=(d.2.1,d.2.2)) dl.1]⟩) fun e=>by cases e)⟩
 ·rw[if_neg (aV e1),if_neg (aV e2),if_neg (aV e3),if_pos (dF e)]at HK
  have pb:=UH d.1 d.2.1 d.2.2
  refine IM GJ Mg d.2.2 _ fun h18 f18=>⟨_,_,_,rfl,dL.aB f18,?_⟩
  refine aP fx (fun k=>h18.size<=k) (fun _ h=>h) 2 (by omega) [VI (dU d.1 d.2.1 d.2.2).1,VI (dU d.1 d.2.1 d.2.2).2.1] rfl rfl fun x LI n19 c19 o19 f19 m19 _=>⟨x,rfl,(dL.aB f18).aB f19,?_⟩
  have B:I4 ([(dU d.1 d.2.1 d.2.2).1,(dU d.1 d.2.1 d.2.2).2.1],(dU d.1 d.2.1 d.2.2).2.2):=⟨fun x hx=>by
   simp only[List.mem_cons,List.not_mem_nil,or_false]at hx
   rcases hx with rfl|rfl<;>omega,by simp,fun _=>by simp⟩
  exact ky GL sV D (L0:=[_,_]) nV dK dL B (show aQ _ LI x [_,_]from o19.rd) (f18.aA f19) HK
 ·rw[if_neg (aV e1),if_neg (aV e2),if_neg (aV e3),if_neg (aV e4),if_pos (dF e)]at HK
  refine uI GJ Mg d.2.2 _ fun t GH o22 f22=>⟨t,_,rfl,dL.aB f22,ky GL sV D (L0:=[_,_]) nV dK dL (ac4 d.1 d.2.1 d.2.2) o22 f22 HK⟩
 ·rw[if_neg (aV e1),if_neg (aV e2),if_neg (aV e3),if_neg (aV e4),if_neg (aV e5)]at HK
  exact HK _ _ (iV.Gu (b2:=b2) ((nV.mono fun k _ hk=> .inr hk).trans (f26.mono fun k _ hk=>by simp only[In,List.mem_cons,List.not_mem_nil,or_false]at hk;omega)) (aW (L:=[_,_,_]) tJ))
theorem nX.block{lo:Nat}{h dV:Heap}{b1 b2:Nat}{g w:Sl}{d:Dk}{cw:Bool}{F F' Z:Nat->Prop}(D:nX lo h b1 g w d cw F F' Z)(nV:Fr (fun k=>h.size<=k) h dV)(dK:h.size<=b2)(Ag:b2<dV.size):nX lo dV b1 g w d cw (fun k=>F k/\k<h.size) (fun k=>F' k/\k<h.size) (fun k=>Z k\/k=b2):=by
 have D1:=D.low.fr nV fun k hk=>hk
 refine⟨D1.V,D1.G,D1.W,fun k hk=>⟨(D.fl k hk.1).1,fun hx=> ?_⟩,fun k hk=>⟨(D.wl k hk.1).1,fun hx=> ?_⟩,D1.dj,D1.lb,.inl D.xb,fun k hk=> ?_⟩
 ·rcases hx with hx|hx
  ·exact(D.fl k hk.1).2 hx
  ·have:=hk.2;omega
 ·rcases hx with hx|hx
  ·exact(D.wl k hk.1).2 hx
  ·have:=hk.2;omega
 ·rcases hk with hk|hk
  ·exact D1.xh k hk
  ·omega
theorem kW{lo:Nat}{h dV hH:Heap}{b1 b2:Nat}{Z:Nat->Prop}{o:Option pY}{v:Value}(nV:Fr (fun k=>h.size<=k) h dV)(dK:h.size<=b2){cs:List Value}{L0:List (Nat×List Value)}(hL:Vars dV (L0++[(b2,[VS (⟨#[]⟩:ByteArray),VB false]),(b1,cs)]))(tf:∀p,p∈L0->p.1<dV.size)(Ag:b2<dV.size)(O:iV lo dV b1 (fun k=>Z k\/k=b2) o v hH){K:Value->Heap->Prop}(HK:∀v Y,iV lo h b1 Z o v Y->K v Y):
 ∃x4:Sl,∃x5:Sl,∃x6:Int,∃x7:Bool,∃t':ByteArray,∃I5:Bool,v= .agg #[VS t',VB I5]/\Vars hH (L0++[(b2,[VS (⟨#[]⟩:ByteArray),VB false]),(b1,[x4.v,x5.v,VI x6,VB x7])])/\∀kY:Heap,Fr (In [b2]) hH kY->Vars kY (L0++[(b2,[VS t',VB I5]),(b1,[x4.v,x5.v,VI x6,VB x7])])->K (.agg #[VS t',VB I5]) kY:=by
 obtain⟨t,ok,g,w,p,cw,rfl,V,f,M⟩:=O
 refine⟨g,w,p,cw,t,ok,rfl,?_,fun gK f12 V12=>HK _ _ ?_⟩
 ·have f':Fr (fun k=>k=b1) dV hH:=f.mono fun k hk h2=>by rcases h2 with h2|h2;exact h2;omega
  exact p7 f' V.head hL
 ·have n2:∀{k:Nat},In [b2] k->k=b2:=fun hk=>by simpa[In]using hk
  have fB:Fr (fun k=>k=b1\/h.size<=k) h gK:=((nV.mono fun k _ hk=> .inr hk).trans (f.mono fun k _ hk=>by have:=nV.size;omega)).trans (f12.mono fun k _ hk=> .inr (by have:=n2 hk;omega))
  refine⟨t,ok,g,w,p,cw,rfl,gG V12,fB,?_⟩
  cases o with
  |none=>exact M
  |some a=>
   cases a with
   |none=>exact M
   |some r=>
    obtain⟨m1,m2,m3,m4,F,F',D⟩:=M
    have V13:=gG V12
    rw[m1,m4]at V13
    refine⟨m1,m2,m3,m4,F,F',V13,D.G.fr f12 fun k _ hk aI=>(D.fl k hk).2 (.inr (n2 aI)),Ow.fr D.W f12 fun k hk aI=>(D.wl k (D.W.aH hk).1).2 (.inr (n2 aI)),fun k hk=>⟨(D.fl k hk).1,fun hx=>(D.fl k hk).2 (.inl hx)⟩,fun k hk=>⟨(D.wl k hk).1,fun hx=>(D.wl k hk).2 (.inl hx)⟩,D.dj,D.lb,?_,fun k hk=>Nat.lt_of_lt_of_le (D.xh k (.inl hk)) f12.size⟩
    rcases D.xb with hx|hx
    ·exact hx
    ·exact absurd hx (fun e=>by
      have:=gG (L:=L0) hL
      have dZ:∀{L:List (Nat×List Value)},Vars dV (L++[(b2,[VS (⟨#[]⟩:ByteArray),VB false]),(b1,cs)])->b1≠b2:=by
       intro L
       induction L with
       |nil=>intro V;exact V.ne (b1,cs) (by simp)
       |cons q L ih=>intro V;exact ih V.tail
      exact dZ hL e)
set_option maxHeartbeats 4000000 in
theorem aac{lo:Nat}{h:Heap}(GL:fE lo h)(sV:lo<=h.size){b1:Nat}{g w:Sl}{d:Dk}{F F' Z:Nat->Prop}(D:nX lo h b1 g w d false F F' Z)(ok:nW d)(s:ByteArray){n:Int}(hn:0<=n/\n<=999999)(K:Value->Heap->Prop)(HK:∀v h',iV lo h b1 Z (gN d s.data.toList n) v h'->K v h'):aE Tryz.prog 114 #[VP b1 0,VS s,VI n] h K:=by
 have lb:=D.V.head.lt
 have ll:=D.lb
 refine aeN b1 g w d.2.2 false s n h K D.V fun b2 h1 dK f1 bY=> ?_
 have f1:=f1.aF
 have z1:=f1.size
 refine⟨fun b3 x1 b4 x2 x3 h'=>x1=g/\x2=w/\x3=d.2.2/\Fr (fun k=>h.size<=k) h h',⟨fun b5 h2 P9 f2 _ b6 h3 Vy f3 _ h4 f4 _ h5 f5 _=>⟨rfl,rfl,rfl,?_⟩,fun b5 h2 P9 f2 _ b6 h3 Vy f3 _ h4 f4 _ h5 f5 _=>⟨rfl,rfl,rfl,?_⟩⟩,?_⟩
 ·have:=f2.size
  exact(((f1.aB.trans f2.aF.aB).trans f3.aF.aB).trans (f4.mono fun k _ hk=>by simp only[In,List.mem_singleton]at hk;omega)).trans (f5.mono fun k _ hk=>by simp only[In,List.mem_singleton]at hk;omega)
 ·have:=f2.size
  exact(((f1.aB.trans f2.aF.aB).trans f3.aF.aB).trans (f4.mono fun k _ hk=>by simp only[In,List.mem_singleton]at hk;omega)).trans (f5.mono fun k _ hk=>by simp only[In,List.mem_singleton]at hk;omega)
 rintro b3 _ b4 _ _ dV ⟨rfl,rfl,rfl,nV⟩ dL
 have BI:=D.fr nV fun k hk=>hk
 have zV:=nV.size
 have Ag:=dL.tail.tail.head.lt
 have aab:=GL.next (nV.mono fun k _ hk=>by omega:Fr (fun k=>lo<=k) h dV)
 have GJ:=BI.G.rd
 have Mg:aQ _ dV _ d.2.1:=BI.W.rd
 unfold gN at HK
 refine⟨fun e=> ?_,fun e1=>⟨fun e=> ?_,fun e2=>⟨fun e=> ?_,fun e3=>⟨fun e=> ?_,fun e4=>⟨fun e=> ?_,fun e5=>⟨fun e=> ?_,fun e6=>⟨fun e=> ?_,fun e7 vm f26 tJ=> ?_⟩⟩⟩⟩⟩⟩⟩
 ·rw[if_pos (dF e)]at HK
  have PJ:=D.block nV dK Ag
  exact ac3 aab (by omega) PJ ok hn _ fun v hH O=>kW nV dK (L0:=[_,_]) dL (fun p hp=>by
   simp only[List.mem_cons,List.not_mem_nil,or_false]at hp
   rcases hp with rfl|rfl
   ·exact dL.head.lt
   ·exact dL.tail.head.lt) Ag O HK
 ·rw[if_neg (aV e1),if_pos (dF e)]at HK
  exact JJ GJ Mg d.2.2 n _ fun t hH lL f11=>⟨t,_,_,rfl,dL.aB f11,zD GL sV D (L0:=[_,_]) nV dK dL Ag (p5 d.1 d.2.1 d.2.2 n) lL f11 HK⟩
 ·rw[if_neg (aV e1),if_neg (aV e2),if_pos (dF e)]at HK
  exact yp GJ Mg d.2.2 n _ fun t hH lL f11=>⟨t,_,rfl,dL.aB f11,ky GL sV D (L0:=[_,_]) nV dK dL (ac5 d.1 d.2.1 d.2.2 n) lL.rd f11 HK⟩
 ·rw[if_neg (aV e1),if_neg (aV e2),if_neg (aV e3),if_pos (dF e)]at HK
  exact IG GJ Mg d.2.2 n _ fun t hH lL f11=>⟨t,_,rfl,dL.aB f11,ky GL sV D (L0:=[_,_]) nV dK dL (ac6 d.1 d.2.1 d.2.2 n) lL.rd f11 HK⟩
 ·rw[if_neg (aV e1),if_neg (aV e2),if_neg (aV e3),if_neg (aV e4),if_pos (dF e)]at HK
  exact K3 GJ Mg d.2.2 n _ fun hH f11=>⟨_,_,rfl,dL.aB f11,rA GL sV D (L0:=[_,_]) nV dK dL (ac7 d.1 d.2.1 d.2.2 n) f11 HK⟩
 ·rw[if_neg (aV e1),if_neg (aV e2),if_neg (aV e3),if_neg (aV e4),if_neg (aV e5),if_pos (dF e)]at HK
  exact C7 GJ n _ fun hH f11=>⟨_,_,rfl,dL.aB f11,rA GL sV D (L0:=[_,_]) nV dK dL (ac8 d.1 n) f11 HK⟩
 ·rw[if_neg (aV e1),if_neg (aV e2),if_neg (aV e3),if_neg (aV e4),if_neg (aV e5),if_neg (aV e6),if_pos (dF e)]at HK
  exact IR GJ n _ fun t hH lL f11=>⟨t,_,rfl,dL.aB f11,ky GL sV D (L0:=[_,_]) nV dK dL (ac9 d.1 n) lL.rd f11 HK⟩
 ·rw[if_neg (aV e1),if_neg (aV e2),if_neg (aV e3),if_neg (aV e4),if_neg (aV e5),if_neg (aV e6),if_neg (aV e7)]at HK
  exact HK _ _ (iV.Gu (b2:=b2) ((nV.mono fun k _ hk=> .inr hk).trans (f26.mono fun k _ hk=>by simp only[In,List.mem_cons,List.not_mem_nil,or_false]at hk;omega)) (aW (L:=[_,_,_]) tJ))
set_option maxHeartbeats 4000000 in
theorem aad{lo:Nat}{h:Heap}(GL:fE lo h)(sV:lo<=h.size){b1:Nat}{g w:Sl}{d:Dk}{F F' Z:Nat->Prop}(D:nX lo h b1 g w d false F F' Z)(ok:nW d)(s:ByteArray){m n:Int}(hm:0<=m/\m<=999999)(hn:0<=n/\n<=999999)(K:Value->Heap->Prop)(HK:∀v h',iV lo h b1 Z (uR d s.data.toList m n) v h'->K v h'):aE Tryz.prog 115 #[VP b1 0,VS s,VI m,VI n] h K:=by
 have lb:=D.V.head.lt
 have ll:=D.lb
 unfold uR at HK
 have n1:∀{b2 k:Nat},In [b2] k->k=b2:=fun hk=>by simpa[In]using hk
 refine aeP b1 g w d.2.2 false s m n h K D.V ⟨fun e b2 h1 dK f1 bY=> ?_,fun e1=>⟨fun e b2 h1 dK f1 bY=> ?_,fun e2=>⟨fun e b2 h1 dK f1 bY=> ?_,fun e3=>⟨fun e b2 h1 dK f1 bY=> ?_,fun e4 b2 h20 dK f20 TJ=> ?_⟩⟩⟩⟩
 ·have f1:=f1.aF
  have z1:=f1.size
  rw[if_pos (dF e)]at HK
  exact aaa (by omega) (D.block f1.aB dK bY.head.lt) m n _ fun v hH O=>kW f1.aB dK (L0:=[]) bY (fun p hp=>by simp at hp) bY.head.lt O HK
 ·have f1:=f1.aF
  have z1:=f1.size
  rw[if_neg (aV e1),if_pos (dF e)]at HK
  exact TG (GL.no f1) (by omega) (D.block f1.aB dK bY.head.lt) ok hm hn _ fun v hH O=>kW f1.aB dK (L0:=[]) bY (fun p hp=>by simp at hp) bY.head.lt O HK
 ·have f1:=f1.aF
  have z1:=f1.size
  rw[if_neg (aV e1),if_neg (aV e2),if_pos (dF e)]at HK
  have Ag:=bY.head.lt
  have bd:=ada d.1 d.2.2 m n
  have G1:=D.G.rd.no f1
  refine⟨fun NA b3 x9 Ny h'=>NA=(rC d.1 d.2.2 m n).2/\x9=(rC d.1 d.2.2 m n).1.1/\Ny=(rC d.1 d.2.2 m n).1.2/\Fr No h h',⟨?_,fun b5 h9 P9 f9 fP=> ?_⟩,?_⟩
  ·exact vv G1 d.2.2 m n _ fun h6 f6=>⟨_,_,_,rfl,bY.aB f6,fun b4 h8 GF f8 fO=>⟨rfl,rfl,rfl,(f1.aA f6).aA f8.aF⟩⟩
  ·have f9:=f9.aF
   have z9:=f9.size
   exact vv (G1.no f9) d.2.2 m n _ fun dV f10=>⟨_,_,_,rfl,fP.aB f10,fun hH f11 iu=>⟨rfl,rfl,rfl,((f1.aA f9).aA f10).fresh f11 fun k hk=>by have:=n1 hk;omega⟩⟩
  rintro _ b3 _ _ gK ⟨rfl,rfl,rfl,F12⟩ tX
  have i1:=pA (n:=(rC d.1 d.2.2 m n).1.1) (by omega) (by omega)
  have i2:=pA (n:=(rC d.1 d.2.2 m n).1.2) (by omega) (by omega)
  refine jf (GL.no F12).here (by omega) (by omega) _ fun qR f13=>⟨_,rfl,tX.aB f13,by rw[bZ];show _+1<=_;omega,jf ((GL.no F12).no f13).here (by omega) (by omega) _ fun LG f14=>⟨_,rfl,(tX.aB f13).aB f14,?_,fun UI f15 L3=>HK _ _ ?_⟩⟩
  ·rw[show(⟨#[47]⟩:ByteArray)=⟨[47].toArray⟩from rfl,eN,bZ,bZ,List.length_append];show _+1+_<=_;omega
  ·have fY:=((F12.aA f13).aA f14).fresh f15 fun k hk=>by have:=n1 hk;omega
   refine iV.same sV D (tx:=Lib.itoa (rC d.1 d.2.2 m n).1.1++47::Lib.itoa (rC d.1 d.2.2 m n).1.2) fY.aB (aW (L:=[_,_]) L3) (fun e=> ?_) fun e=> ?_
   ·unfold ZW
    rw[if_pos e]
    exact⟨rfl,by rw[show(⟨#[47]⟩:ByteArray)=⟨[47].toArray⟩from rfl,eN,eN];simp⟩
   ·unfold ZW
    rw[if_neg (by rw[e];exact Bool.false_ne_true)]
 ·have f1:=f1.aF
  have z1:=f1.size
  rw[if_neg (aV e1),if_neg (aV e2),if_neg (aV e3),if_pos (dF e)]at HK
  exact DV m n _ fun t hH lL f11=>⟨t,_,rfl,bY.aB f11,ky GL sV D (L0:=[]) f1.aB dK bY (adb m n) lL.rd f11 HK⟩
 ·rw[if_neg (aV e1),if_neg (aV e2),if_neg (aV e3),if_neg (aV e4)]at HK
  exact HK _ _ (iV.Gu (b2:=b2) (f20.mono fun k _ hk=> .inl (n1 hk)) (aW (L:=[_]) TJ))
set_option maxHeartbeats 4000000 in
theorem TK{lo:Nat}{h:Heap}(GL:fE lo h)(sV:lo<=h.size){b1:Nat}(wj:lo<=b1){g w:Sl}{p:Int}(hL:Vars h [(b1,[g.v,w.v,VI p,VB false])]){S:Nat->Prop}{t:Sl}{ps:List ByteArray}(T:cM S h 1 t (ps.map VS))(hS:∀k,S k->k≠b1)(qv:∀q,q∈ps->q.size<=1000000)(hn:ps.length<=100000)(K:Value->Heap->Prop)
 (HN:gF jN (ps.map (·.data.toList))=none->∀(o:Sl) h',Vars h' [(b1,[g.v,w.v,VI p,VB true])]->Fr (fun k=>k=b1\/h.size<=k) h h'->K o.v h')
 (HY:∀ns,gF jN (ps.map (·.data.toList))=some ns->∀(o:Sl) h',bR h' (fun k=>h.size<=k) o ns->Fr No h h'->K o.v h'):aE Tryz.prog 112 #[VP b1 0,t.v] h K:=by
 have lb:=hL.head.lt
 have T0:=cM.lt T
 have n1:∀{k:Nat},In [b1] k->k=b1:=fun hk=>by simpa[In]using hk
 refine aeJ b1 g w p false t h K hL ?_
 refine aP fx (fun k=>h.size<=k) (fun _ h=>h) 0 (by omega) [] rfl rfl fun o h1 m1 c1 o1 f1 q1 _=>⟨o,rfl,hL.aB f1,?_⟩
 refine⟨fun n x i x1 x2 x3 x4 h'=>0<=i/\i+n=(ps.length:Int)/\x1=g/\x2=w/\x3=p/\∃r:List Int,r.length=i.toNat/\bR h' (fun k=>h.size<=k) x r/\Fr (fun k=>k=b1\/h.size<=k) h h'/\(x4=false->Bp jN (ps.map (·.data.toList)) r i.toNat/\Fr (fun k=>h.size<=k) h h')/\(x4=true->∃(j:Nat)(hj:j<ps.length),jN (ps[j]).data.toList=none),
  ⟨ps.length,by omega,by omega,rfl,rfl,rfl,[],rfl,by show Ow _ _ _ _ _ _;simpa using o1,f1.aB,fun _=>⟨⟨rfl,fun j _ h'=>by simp at h'⟩,f1.aB⟩,fun h=>by cases h⟩,?_⟩
 rintro n x i x1 x2 x3 x4 h2 ⟨i0,i1,rfl,rfl,rfl,r,rl,o2,f2,hF,hT⟩ bW
 have z2:=f2.size
 have T2:=cM.fr T0 f2 fun k hk aI=>by have:=hS k hk.1;have:=hk.2;rcases aI with h|h<;>omega
 have tn:=cM.len T2
 rw[List.length_map,Nat.mul_one]at tn
 have GL2:∀{X:Heap},Fr (fun k=>k=b1\/h.size<=k) h X->gS X:=fun f=>(GL.next (f.mono fun k _ hk=>by rcases hk with h|h<;>omega)).here
 refine⟨fun e=> ?_,fun e=> ?_⟩
 ·simp only[decide_eq_true_eq]at e
  have hi:i.toNat<ps.length:=by omega
  have cc:=T2.get (i:=i) i0 (by rw[List.length_map];omega)
  rw[show(ps.map VS)[i.toNat]'(by rw[List.length_map];exact hi)=VS ps[i.toNat]from List.getElem_map _]at cc
  have hq:=qv _ (List.getElem_mem hi)
  refine⟨cM.bB T2 i0 (by rw[List.length_map];omega),_,cc,?_⟩
  obtain⟨ms,hm⟩:=wB
  refine NW (GL2 f2) (by omega) _ (fun v h3 ha f3=>⟨v,_,rfl,bW.aB f3,fun x5 x6 x7 x8 h'=>x5=x1/\x6=x2/\x7=x3/\Fr (fun k=>k=b1\/h2.size<=k) h2 h'/\((x8=x4/\Fr No h2 h'/\jN (ps[i.toNat]).data.toList=some v)\/(x8=true/\jN (ps[i.toNat]).data.toList=none)),?_,?_⟩) fun v ty q h3 hn f3=>⟨v,_,rfl,bW.aB f3,fun x5 x6 x7 x8 h'=>x5=x1/\x6=x2/\x7=x3/\Fr (fun k=>k=b1\/h2.size<=k) h2 h'/\((x8=x4/\Fr No h2 h'/\jN (ps[i.toNat]).data.toList=some v)\/(x8=true/\jN (ps[i.toNat]).data.toList=none)),?_,?_⟩
  ·have vr:=Fm ha
   have st:jN (ps[i.toNat]).data.toList=if 0<=v/\v<=999999/\Lib.itoa v=(ps[i.toNat]).data.toList then some v else none:=by unfold jN;rw[ha]
   refine Bm hm _ ⟨_,rfl,fun e=>by simp at e,fun _=> ?_⟩
   refine eJ _ _ _ h3 _ ⟨_,rfl,bW.aB f3,fun e2 h7 f7 jv=> ?_,fun e2=> ?_⟩
   ·exact⟨rfl,rfl,rfl,f3.aB.trans (f7.mono fun k _ hk=> .inl (n1 hk)),.inr ⟨rfl,by rw[st,if_neg (fun hh=>by simp at e2;omega)]⟩⟩
   ·have e2:0<=v/\v<=999999:=by simpa using e2
    refine jf (GL2 (f2.trans f3.aB)) vr.1 vr.2 _ fun h5 f5=>⟨_,rfl,(bW.aB f3).aB f5,?_⟩
    rw[ny]
    have e5:(⟨(Lib.itoa v).toArray⟩:ByteArray).data.toList=Lib.itoa v:=rfl
    rw[e5]
    refine⟨fun e3 h6 f6 jG=> ?_,fun e3=> ?_⟩
    ·have e3:=of_decide_eq_false (bD e3)
     exact⟨rfl,rfl,rfl,(f3.aA f5).aB.trans (f6.mono fun k _ hk=> .inl (n1 hk)),.inr ⟨rfl,by rw[st,if_neg (fun hh=>e3 hh.2.2)]⟩⟩
    ·have e3:=of_decide_eq_true (aZ e3)
     exact⟨rfl,rfl,rfl,(f3.aA f5).aB,.inl ⟨rfl,f3.aA f5,by rw[st,if_pos ⟨e2.1,e2.2,e3⟩]⟩⟩
  rotate_left
  ·refine vq hm _ _ _ _ ⟨_,rfl,fun _ h8 f8 fO=> ?_,fun e=>by simp at e⟩
   refine⟨rfl,rfl,rfl,f3.aB.trans (f8.mono fun k _ hk=> .inl (n1 hk)),.inr ⟨rfl,?_⟩⟩
   unfold jN
   split
   ·rename_i m JC
    exact absurd JC (hn m)
   ·rfl
  all_goals
   rintro _ _ _ x8 h9 ⟨rfl,rfl,rfl,f9,hc⟩ fP
   have z9:=f9.size
   have F9:Fr (fun k=>k=b1\/h.size<=k) h h9:=f2.trans (f9.mono fun k _ hk=>by omega)
   have o9:=Ow.fr o2 f9 fun k hk aI=>by have:=o2.aH hk;omega
   refine mb (F:=fun k=>h.size<=k) o9 (fun k hk=>by omega) fP (fun q hq=>by simp only[List.mem_singleton]at hq;subst hq;show¬h.size<=b1;omega) (by omega) _ fun t7 hH lL f11 iu=> ?_
   rw[aG (i+1) (by omega) (by omega)]
   refine⟨n-1,by omega,by omega,by omega,rfl,rfl,rfl,r++[v],by rw[List.length_append,rl];simp;omega,lL,F9.trans (f11.mono fun k _ hk=> .inr hk),fun e8=> ?_,fun e8=> ?_⟩
   ·rcases hc with⟨rfl,fN,hv⟩|⟨rfl,_⟩
    ·obtain⟨SF,fF⟩:=hF e8
     refine⟨?_,(fF.trans fN.aB).trans f11⟩
     rw[show(i+1).toNat=i.toNat+1 by omega]
     exact SF.next (by rw[List.length_map];exact hi) (by rw[List.getElem_map];exact hv)
    ·cases e8
   ·rcases hc with⟨rfl,_,_⟩|⟨_,hv⟩
    ·exact hT e8
    ·exact⟨i.toNat,hi,hv⟩
 ·simp only[decide_eq_false_iff_not]at e
  cases x4 with
  |true=>
   obtain⟨j,hj,hv⟩:=hT rfl
   exact HN (mv j (by rw[List.length_map];exact hj) (by rw[List.getElem_map];exact hv)) x h2 bW f2
  |false=>
   obtain⟨SF,fF⟩:=hF rfl
   have hr:=wC (f:=jN) (l:=ps.map (·.data.toList)) (r:=r) (by rw[SF.1,List.length_map];omega) SF.2
   exact HY r hr x h2 o2 (fF.mono fun k hk aI=>absurd aI (by omega))
theorem TL{w:List UInt8}{n:Int}(h:jN w=some n):0<=n/\n<=999999:=by
 unfold jN at h
 split at h
 ·split at h
  ·rename_i hh
   have h:=Option.some.inj h
   subst h
   exact⟨hh.1,hh.2.1⟩
  ·cases h
 ·cases h
theorem Gv{ws:List (List UInt8)}{ns:List Int}(h:gF jN ws=some ns):∀n,n∈ns->0<=n/\n<=999999:=fun n hn=>by
 obtain⟨hl,hg⟩:=mr h
 obtain⟨i,hi,rfl⟩:=List.getElem_of_mem hn
 exact TL (hg i (by omega) hi)
set_option maxHeartbeats 8000000 in
theorem TM{lo:Nat}{h:Heap}(GL:fE lo h)(sV:lo<=h.size){b1:Nat}{g w:Sl}{d:Dk}{F F' Z:Nat->Prop}(D:nX lo h b1 g w d false F F' Z)(ok:nW d){S:Nat->Prop}{t:Sl}{q0:ByteArray}{qs:List ByteArray}(T:cM S h 1 t ((q0::qs).map VS))(hS:∀k,S k->k≠b1)(qv:∀q,q∈q0::qs->q.size<=100000)(hn:(q0::qs).length<=10000)(K:Value->Heap->Prop)
 (HK:∀v h',iV lo h b1 Z (gV d (q0.data.toList::qs.map (·.data.toList))) v h'->K v h'):aE Tryz.prog 80 #[VP b1 0,t.v] h K:=by
 have lb:=D.V.head.lt
 have ll:=D.lb
 have tn:=cM.len T
 rw[List.length_map,List.length_cons,Nat.mul_one]at tn
 rw[List.length_cons]at hn
 have n1:∀{b2 k:Nat},In [b2] k->k=b2:=fun hk=>by simpa[In]using hk
 have c0:∀{X:Heap},Fr No h X->aR X (t.at 0 1)=some (VS q0):=fun f=>(T.no f).get (i:=0) (by omega) (by simp)
 have tlt:t.n<=t.c:=T.cap
 have T1:∀{X:Heap},Fr No h X->cM S X 1 (t.cut 1 1 t.n t.c) (qs.map VS):=fun f=>by
  have:=cM.cut (T.no f) (l:=1) (m:=t.n) (by omega) (Nat.le_refl _)
  have e:(((q0::qs).map VS).drop (1*1)).take ((t.n-1)*1)=qs.map VS:=by
   simp only[List.map_cons,Nat.mul_one,List.drop_succ_cons,List.drop_zero]
   exact List.take_of_length_le (by rw[List.length_map];omega)
  rw[e]at this
  exact this
 refine v80 b1 g w d.2.2 false t h K D.V ⟨fun e=>⟨cM.bB T (by omega) (by simp),fun b2 h1 dK f1 bY=>⟨q0,c0 f1.aF,fun e2=> ?_,fun e2=>ia Mc .i64 (l:=1) (by omega) (by omega) ⟨_,rfl,?_⟩⟩⟩,fun e=>ia Mc .i64 (l:=1) (by omega) (by omega) ⟨_,rfl,fun b2 h1 dK f1 bY=> ?_⟩⟩
 ·have f1:=f1.aF
  have z1:=f1.size
  simp only[decide_eq_true_eq]at e
  obtain⟨q1,rfl⟩:∃q1,qs=[q1]:=by
   cases qs with
   |nil=>simp at tn;omega
   |cons a l=>cases l with
    |nil=>exact⟨a,rfl⟩
    |cons b l=>simp at tn;omega
  have cc:aR h1 (t.at 1 1)=some (VS q1):=(T.no f1).get (i:=1) (by omega) (by simp)
  unfold gV at HK
  rw[if_pos ⟨rfl,dF e2⟩]at HK
  exact⟨cM.bB T (by omega) (by simp),q1,cc,PH (GL.no f1) (by omega) (D.block f1.aB dK bY.head.lt) (qv q1 (by simp)) _ fun v hH O=>kW f1.aB dK (L0:=[]) bY (fun p hp=>by simp at hp) bY.head.lt O HK⟩
 all_goals
  have f1:=f1.aF
  have z1:=f1.size
  have Ag:=bY.head.lt
  have ee:gV d (q0.data.toList::qs.map (·.data.toList))=match gF jN (qs.map (·.data.toList))with
   |none=>none
   |some ns=>bT d q0.data.toList ns:=by
   unfold gV
   rw[if_neg]
   ·rfl
   ·rintro⟨h1,h2⟩
    first
    |exact aV e2 h2
    |(simp only[List.length_cons,List.length_map]at h1;simp only[decide_eq_false_iff_not]at e;omega)
  rw[ee]at HK
  refine TK (GL.no f1) (by omega) D.lb (aW (L:=[_]) bY) (T1 f1) hS (fun q hq=>by have:=qv q (List.mem_cons_of_mem _ hq);omega) (by omega) _ (fun hno o h4 V4 f4=> ?_) fun ns hns o h4 o4 f4=> ?_
  ·rw[hno]at HK
   have ZO:Fr (fun k=>k=b1) h1 h4:=f4.mono fun k hk h2=>by rcases h2 with h2|h2;exact h2;omega
   refine⟨g,w,d.2.2,true,o,rfl,p7 (L:=[]) ZO V4.head bY,fun _ h5 f5 gh=> ?_,fun e=>by cases e⟩
   exact HK _ _ (iV.Gu (b2:=b2) ((f1.aB.trans (f4.mono fun k _ hk=>by omega)).trans (f5.mono fun k _ hk=> .inr (by have:=n1 hk;omega))) (aW (L:=[_]) gh))
  ·rw[hns]at HK
   have jx:=f1.aA f4
   have z4:=f4.size
   have dS:=bY.aB f4
   have D4:=D.block jx.aB dK (by omega:b2<h4.size)
   have GL4:=GL.no jx
   have nr:=Gv hns
   have on:o.n=ns.length:=by have:=o4.rd.len;simpa using this.symm
   have Kx:aQ o.own h4 o ns:=o4.rd
   have cq:=c0 jx
   have i0:dQ t 0:=cM.bB T (by omega) (by simp)
   refine⟨g,w,d.2.2,false,o,rfl,dS,fun e=>(by cases e),fun _=>⟨fun h'=>h'=h4/\bT d q0.data.toList ns=none,⟨fun k0=> ?_,fun k0=>⟨fun k1=> ?_,fun k1=>⟨fun k2=> ?_,fun k2=>⟨fun k4=> ?_,fun k4=> ?_⟩⟩⟩⟩,?_⟩⟩
   ·simp only[decide_eq_true_eq]at k0
    obtain rfl:ns=[]:=List.eq_nil_of_length_eq_zero (by omega)
    exact⟨i0,q0,cq,PI GL4 (by omega) D4 ok q0 _ fun v hH O=>kW jx.aB dK (L0:=[]) dS (fun p hp=>by simp at hp) (by omega) O HK⟩
   ·simp only[decide_eq_true_eq]at k1
    obtain⟨x,rfl⟩:∃x,ns=[x]:=List.length_eq_one_iff.1 (by omega)
    have hx:=nr x (by simp)
    exact⟨i0,q0,cq,Kx.bB (by omega) (by simp),x,Kx.get (i:=0) (by omega) (by simp),aac GL4 (by omega) D4 ok q0 hx _ fun v hH O=>kW jx.aB dK (L0:=[]) dS (fun p hp=>by simp at hp) (by omega) O HK⟩
   ·simp only[decide_eq_true_eq]at k2
    obtain⟨x,y,rfl⟩:∃x y,ns=[x,y]:=by
     match ns,(show ns.length=2 by omega)with
     |[x,y],_=>exact⟨x,y,rfl⟩
    have hx:=nr x (by simp)
    have hy:=nr y (by simp)
    exact⟨i0,q0,cq,Kx.bB (by omega) (by simp),x,Kx.get (i:=0) (by omega) (by simp),Kx.bB (by omega) (by simp),y,Kx.get (i:=1) (by omega) (by simp),aad GL4 (by omega) D4 ok q0 hx hy _ fun v hH O=>kW jx.aB dK (L0:=[]) dS (fun p hp=>by simp at hp) (by omega) O HK⟩
   ·simp only[decide_eq_true_eq]at k4
    obtain⟨x,y,z,u,rfl⟩:∃x y z u,ns=[x,y,z,u]:=by
     match ns,(show ns.length=4 by omega)with
     |[x,y,z,u],_=>exact⟨x,y,z,u,rfl⟩
    refine⟨i0,q0,cq,fun e5=> ?_,fun e5=> ?_⟩
    ·have hw:=dF e5
     unfold bT at HK
     (try simp only at HK)
     rw[if_pos (show q0.data.toList=zB from hw)]at HK
     exact⟨Kx.bB (by omega) (by simp),x,Kx.get (i:=0) (by omega) (by simp),Kx.bB (by omega) (by simp),y,Kx.get (i:=1) (by omega) (by simp),Kx.bB (by omega) (by simp),z,Kx.get (i:=2) (by omega) (by simp),Kx.bB (by omega) (by simp),u,Kx.get (i:=3) (by omega) (by simp),Ge x y z u _ fun gK f12=>⟨_,_,rfl,dS.aB f12,rA GL sV D (L0:=[]) jx.aB dK dS (ade x y z u) f12 HK⟩⟩
    ·refine⟨rfl,?_⟩
     show(if q0.data.toList=zB then _ else none)=none
     rw[if_neg (show¬q0.data.toList=zB from aV e5)]
   ·simp only[decide_eq_false_iff_not]at k0 k1 k2 k4
    refine⟨rfl,?_⟩
    match ns,on with
    |[],on=>simp at on;omega
    |[_],on=>simp at on;omega
    |[_,_],on=>simp at on;omega
    |[_,_,_],_=>rfl
    |[_,_,_,_],on=>simp at on;omega
    |_::_::_::_::_::_,_=>rfl
   ·rintro UI ⟨rfl,adf⟩ L3 h17 f17 akq
    have HK:∀v h',iV lo h b1 Z (bT d q0.data.toList ns) v h'->K v h':=HK
    rw[adf]at HK
    exact HK _ _ (iV.Gu (b2:=b2) (jx.aB.trans (f17.mono fun k _ hk=>by simp only[In,List.mem_cons,List.not_mem_nil,or_false]at hk;omega)) (aW (L:=[_]) akq))
theorem kX{g:List (List Int)}{rs:List Int}{p:Int}(W:gj g (rs,p)):eW g rs p=true:=by
 have l:=aO W.bE
 have wl:=W.len
 have w0:=W.lo
 have w1:=W.hi
 simp only at wl w0 w1
 unfold eW
 rw[W.bE,show iq 0 ((g.length:Int)-1) p=true by unfold iq;simp;omega,decide_eq_true wl]
 simp only[Bool.true_and]
 rw[List.all_eq_true]
 rintro⟨l,r⟩ hm
 obtain⟨i,hi,e⟩:=List.getElem_of_mem hm
 have iG:=hi
 rw[List.length_zip]at iG
 rw[List.getElem_zip]at e
 have:=W.P7 i (by show i<rs.length;omega) (by omega)
 simp only[Prod.mk.injEq]at e
 obtain⟨rfl,rfl⟩:=e
 unfold zU iq
 simp only[Bool.and_eq_true,decide_eq_true_eq]
 exact this
theorem PK{g:List (List Int)}(hg:aM g=true):eW g (List.replicate g.length 0) 0=true:=by
 have gl:=aO hg
 refine kX ⟨hg,by simp,by simp,by show(0:Int)<g.length;omega,fun i h1 h2=> ?_⟩
 simp only[List.getElem_replicate]
 omega
theorem Ky{g:List (List Int)}{rs:List Int}{a b:Int}(W:gj g (rs,a))(h0:0<=b)(h1:b<(g.length:Int)):gj g (rs,b):=⟨W.bE,W.len,h0,h1,W.P7⟩
theorem Gw{g:List (List Int)}{rs:List Int}{a c:Int}(W:gj g (rs,a)){p:Nat}(h:p<g.length)(c0:0<=c)(c1:c<=max ((g[p].length:Int)-1) 0):gj g (rs.set p c,a):=⟨W.bE,by simpa using W.len,W.lo,W.hi,fun i x y=>by
 have:=W.P7 i (by simpa using x) y
 simp only[List.getElem_set]
 split
 ·subst_vars;exact⟨c0,c1⟩
 ·exact this⟩
theorem PL{g:List (List Int)}{rs:List Int}{a p q:Int}(W:gj g (rs,a))(h:(gP g p q).2=true):gj (gP g p q).1 (rs,a):=by
 have hg:=D5 h
 unfold gP at h hg⊢
 split at h
 ·rename_i hc
  rw[if_pos hc]at hg⊢
  have h:aM (g.set p.toNat (g.getD p.toNat []++[q]))=true:=h
  have e:j5 (g.set p.toNat (g.getD p.toNat []++[q]))=g.set p.toNat (g.getD p.toNat []++[q]):=by unfold j5;rw[if_pos h]
  simp only at hg⊢
  rw[e]at hg⊢
  have wl:=W.len
  have w1:=W.hi
  simp only at wl w1
  refine⟨hg,by simpa using wl,W.lo,by simpa using w1,fun i x y=> ?_⟩
  have:=W.P7 i x (by simpa using y)
  simp only[List.getElem_set]
  by_cases e1:p.toNat=i
  ·subst e1
   have hi:p.toNat<g.length:=by simpa using y
   rw[if_pos rfl,aS hi,List.length_append,List.length_singleton]
   simp only at this
   omega
  ·rw[if_neg e1];exact this
 ·cases h
theorem PN{d:Dk}{r:St×Bool}(hr:Mf d.1 r){a:Dk×List UInt8}(h:BG d r=some a):nW a.1:=by
 unfold BG at h
 split at h
 ·rename_i e
  have h:=Option.some.inj h
  subst h
  exact kX (hr.ok e)
 ·cases h
theorem aae{d:Dk}(ok:nW d){a:Dk×List UInt8}{p:Int}(h:TD d p=some a):nW a.1:=by
 have W:=cV ok
 unfold TD BG at h
 split at h
 ·rename_i e
  have h:=Option.some.inj h
  subst h
  have:=aX.1 (Bool.and_eq_true_iff.1 e).2
  exact kX (Ky W this.1 (show p<(d.1.length:Int) by omega))
 ·cases h
theorem PO{d:Dk}(ok:nW d){a:Dk×List UInt8}{p k:Int}(h:PE d p k=some a):nW a.1:=by
 have W:=cV ok
 unfold PE BG at h
 split at h
 ·rename_i e
  have h:=Option.some.inj h
  subst h
  simp only[Bool.and_eq_true]at e
  have h1:=aX.1 e.1.2
  have h2:=aX.1 e.2
  have hp:p.toNat<d.1.length:=by omega
  rw[aS hp]at h2
  exact kX (Gw W hp h2.1 (by omega))
 ·cases h
theorem jy{d:Dk}(ok:nW d){c:Bool}{t:List UInt8}{a:Dk×List UInt8}(h:(if c=true then some (d,t)else none)=some a):nW a.1:=by
 split at h
 ·have h:=Option.some.inj h
  subst h
  exact ok
 ·cases h
theorem PP{d:Dk}(ok:nW d){w:List UInt8}{a:Dk×List UInt8}(h:iP d w=some (some a)):nW a.1:=by
 unfold iP at h
 split at h
 ·exact PN (p5 _ _ _ _) (Option.some.inj h)
 split at h
 ·have h:=Option.some.inj (Option.some.inj h);subst h;exact ok
 split at h
 ·have h:=Option.some.inj (Option.some.inj h);subst h;exact ok
 split at h
 ·exact jy ok (Option.some.inj h)
 split at h
 ·exact jy ok (Option.some.inj h)
 ·cases h
theorem aaf{d:Dk}(ok:nW d){w:List UInt8}{n:Int}{a:Dk×List UInt8}(h:gN d w n=some (some a)):nW a.1:=by
 unfold gN at h
 split at h
 ·exact aae ok (Option.some.inj h)
 split at h
 ·exact PN (p5 _ _ _ _) (Option.some.inj h)
 split at h
 ·exact jy ok (Option.some.inj h)
 split at h
 ·exact jy ok (Option.some.inj h)
 split at h
 ·exact jy ok (Option.some.inj h)
 split at h
 ·exact jy ok (Option.some.inj h)
 split at h
 ·exact jy ok (Option.some.inj h)
 ·cases h
theorem aag{d:Dk}(ok:nW d){w:List UInt8}{p q:Int}{a:Dk×List UInt8}(h:uR d w p q=some (some a)):nW a.1:=by
 unfold uR at h
 split at h
 ·have h:=Option.some.inj h
  unfold UF at h
  split at h
  ·rename_i e
   have h:=Option.some.inj h
   subst h
   exact kX (PL (cV ok) e)
  ·cases h
 split at h
 ·exact PO ok (Option.some.inj h)
 split at h
 ·exact jy ok (Option.some.inj h)
 split at h
 ·exact jy ok (Option.some.inj h)
 ·cases h
theorem rV{d:Dk}(ok:nW d){ws:List (List UInt8)}{a:Dk×List UInt8}(h:gV d ws=some (some a)):nW a.1:=by
 unfold gV at h
 split at h
 ·unfold ZX at h
  split at h
  ·rename_i g e
   have h:=Option.some.inj (Option.some.inj h)
   subst h
   exact PK (wy e).1
  ·cases h
 split at h
 ·cases h
 ·unfold bT at h
  split at h
  ·exact PP ok h
  ·exact aaf ok h
  ·exact aag ok h
  ·split at h
   ·exact jy ok (Option.some.inj h)
   ·cases h
  ·cases h
theorem zE{d:Dk}(ok:nW d)(s:List UInt8):nW (fZ d s).1:=by
 unfold fZ ZY
 split
 ·exact ok
 ·exact ok
 ·rename_i e
  exact rV ok e
theorem uU{S S':Nat->Prop}{h:Heap}{g w:Sl}{d:Dk}(G:bU S h g d.1)(W:aQ S' h w d.2.1)(ok:nW d)(K:Value->Heap->Prop)(HK:∀g' w' m h',h.size<=m/\m<=h'.size->gO h' (Iv h.size m) g' d.1->bR h' (Iv m h'.size) w' d.2.1->Fr No h h'->K (.agg #[g'.v,w'.v,VI d.2.2]) h'):aE Tryz.prog 79 #[.agg #[g.v,w.v,VI d.2.2]] h K:=by
 have dl:=pZ ok
 have gt:d.1.length+tH d.1<=1000000000:=by have:=pQ (cV ok).bE;have:=aO (cV ok).bE;omega
 refine v79 g w d.2.2 h K fun b1 b2 h1 eD dK f1 bY=> ?_
 have f1:=f1.aF
 have z1:=f1.size
 have Ag:=bY.head.lt
 refine EZ (G.no f1) gt _ fun t h2 o2 f2=>⟨t,rfl,bY.aB f2,?_⟩
 have z2:=f2.size
 refine ic (cM.no W (f1.aA f2)) d.2.2 (by omega) _ fun u h3 o3 f3=>⟨u,_,rfl,(bY.aB f2).aB f3,fun h4 f4 _=> ?_⟩
 have z3:=f3.size
 have n2:∀{k:Nat},In [b2] k->k=b2:=fun hk=>by simpa[In]using hk
 refine HK t u h2.size h4 (by have:=f4.size;omega) ((dR.fr (dR.no o2 f3) f4 fun k _ hk aI=>by have:=hk.1;have:=n2 aI;omega).mono fun k _ hk=>⟨by have:=hk.1;omega,hk.2⟩) ((Ow.fr o3 f4 fun k hk aI=>by have:=(o3.aH hk).1.1;have:=n2 aI;omega).mono fun k hk hF=>⟨hF.1,by have:=hF.2;have:=f4.size;omega⟩) ?_
 exact((f1.aA f2).aA f3).fresh f4 fun k hk=>by have:=n2 hk;omega
structure I6(n:Nat)(h:Heap)(g w:Sl)(d:Dk)(F F':Nat->Prop):Prop where
 G:gO h F g d.1
 W:bR h F' w d.2.1
 fl:∀k,F k->n<=k
 wl:∀k,F' k->n<=k
 dj:∀k,F k->¬F' k
theorem I6.no{n:Nat}{h h':Heap}{g w:Sl}{d:Dk}{F F':Nat->Prop}(D:I6 n h g w d F F')(f:Fr No h h'):I6 n h' g w d F F':=⟨D.G.no f,Ow.no D.W f,D.fl,D.wl,D.dj⟩
theorem I6.up{n m:Nat}{h:Heap}{g w:Sl}{d:Dk}{F F':Nat->Prop}(D:I6 n h g w d F F')(hm:m<=n):I6 m h g w d F F':=⟨D.G,D.W,fun k hk=>Nat.le_trans hm (D.fl k hk),fun k hk=>Nat.le_trans hm (D.wl k hk),D.dj⟩
set_option maxHeartbeats 2000000 in
theorem I7{h:Heap}(GL:gS h){S S':Nat->Prop}{g w:Sl}{d:Dk}(G:bU S h g d.1)(W:aQ S' h w d.2.1)(ok:nW d){s:ByteArray}(hs:s.size<=3000)(K:Value->Heap->Prop)(HK:∀g' w' F F' h',I6 h.size h' g' w' (fZ d s.data.toList).1 F F'->Fr No h h'->K (.tuple #[.agg #[g'.v,w'.v,VI (fZ d s.data.toList).1.2.2],VS ⟨(fZ d s.data.toList).2.toArray⟩]) h'):aE Tryz.prog 44 #[.agg #[g.v,w.v,VI d.2.2],VS s] h K:=by
 refine v44 g w d.2.2 s h K fun b1 b2 h2 eD dK f2 bW=> ?_
 have f2:=f2.aF
 have z2:=f2.size
 have Ag:b2<h2.size:=bW.head.lt
 refine uU (G.no f2) (cM.no W f2) ok _ fun g3 w3 m h3 hm G3 W3 f3=>⟨g3,w3,_,rfl,bW.aB f3,fun b3 h4 iR f4 dS=> ?_⟩
 have f4:=f4.aF
 have z3:=f3.size
 have z4:=f4.size
 have Vw:b3<h4.size:=dS.head.lt
 have jx:=(f2.aA f3).aA f4
 refine wz (GL.no jx) (by omega) _ fun t ps h5 mn T5 f5=>⟨t,rfl,dS.aB f5,?_⟩
 have z5:=f5.size
 have pR:=jx.aA f5
 have hpl:ps.length=(gr 32 s.data.toList).length:=by rw[<-mn,List.length_map]
 have qv:s.data.toList.length=s.size:=Array.length_toList
 have hp1:∀q,q∈ps->q.size<=100000:=fun q hq=>by
  have h1:q.data.toList∈gr 32 s.data.toList:=by rw[<-mn];exact List.mem_map_of_mem hq
  have h2:=wD h1
  have h3:q.data.toList.length=q.size:=Array.length_toList
  omega
 have hp2:ps.length<=10000:=by have:=oT 32 s.data.toList;omega
 obtain⟨q0,qs,rfl⟩:∃q0 qs,ps=q0::qs:=by
  cases ps with
  |nil=>exact absurd mn.symm (xY 32 _)
  |cons a l=>exact⟨a,l,rfl⟩
 have gh:=dS.aB f5
 have D:nX h.size h5 b3 g3 w3 d false (Iv h2.size m) (Iv m h3.size) (fun k=>k=b3\/k=b2):=by
  exact⟨.cons gh.head (by simp) .nil,(G3.no f4).no f5,Ow.no (Ow.no W3 f4) f5,fun k hk=>⟨by have:=hk.1;omega,fun hx=>by have h1:=hk.1;have h2:=hk.2;rcases hx with rfl|rfl<;>omega⟩,fun k hk=>⟨by have:=hk.1;omega,fun hx=>by have h1:=hk.1;have h2:=hk.2;rcases hx with rfl|rfl<;>omega⟩,fun k h1 h2=>by have:=h1.2;have:=h2.1;omega,by omega,.inl rfl,fun k hk=>by rcases hk with rfl|rfl<;>omega⟩
 refine TM (fE.of GL|>.no pR) (by omega) D ok T5 (fun k hk e=>by have:=hk.1;omega) hp1 hp2 _ fun v h6 O=> ?_
 rw[<-List.map_cons (f:=fun q:ByteArray=>q.data.toList),mn]at O
 obtain⟨tx,oo,g6,w6,p6,cw,rfl,V6,f6,M⟩:=O
 have f6b:Fr (fun k=>k=b3) h5 h6:=f6.mono fun k hk h2=>by rcases h2 with h2|h2;exact h2;omega
 have z6:=f6.size
 have jG:=gh.set (i:=0) rfl f6b V6.head
 have xF:Fr No h h6:=pR.fresh f6 fun k hk=>by rcases hk with rfl|hk<;>omega
 have n2:∀{k:Nat},In [b2] k->k=b2:=fun hk=>by simpa[In]using hk
 refine⟨g6,w6,p6,cw,tx,oo,rfl,jG,fun e1=>fun b4 h8 GF f8 fO=> ?_,fun e1=>⟨fun e2=>fun b4 h8 GF f8 fO=> ?_,fun e2=>fun b4 qR GF f13 _=> ?_⟩⟩
 ·have f8:=f8.aF
  have z8:=f8.size
  have E3:=xF.aA f8
  have e:fZ d s.data.toList=(d,[119,104,97,116]):=by
   unfold fZ
   generalize gV d (gr 32 s.data.toList)=o at M
   match o,M with
   |none,_=>rfl
   |some none,M=>rw[M.1]at e1;cases e1
   |some (some r),M=>rw[M.1]at e1;cases e1
  rw[e]at HK
  refine uU (G.no E3) (cM.no W E3) ok _ fun g9 w9 m9 h9 hm9 G9 W9 f9=>⟨g9,w9,_,rfl,fO.aB f9,fun dV f10 _=>HK _ _ (Iv h8.size m9) (Iv m9 h9.size) _ ⟨G9.fr f10 fun k _ hk aI=>by have:=hk.1;have:=n2 aI;omega,Ow.fr W9 f10 fun k hk aI=>by have:=(W9.aH hk).1.1;have:=n2 aI;omega,fun k hk=>by have:=hk.1;omega,fun k hk=>by have:=hk.1;omega,fun k h1 h2=>by have:=h1.2;have:=h2.1;omega⟩ ((E3.aA f9).fresh f10 fun k hk=>by have:=n2 hk;omega)⟩
 ·have f8:=f8.aF
  have z8:=f8.size
  have E3:=xF.aA f8
  have e:fZ d s.data.toList=(d,[110,111]):=by
   unfold fZ
   generalize gV d (gr 32 s.data.toList)=o at M
   match o,M with
   |none,M=>rw[show cw=true from M]at e1;cases e1
   |some none,_=>rfl
   |some (some r),M=>rw[M.2.1]at e2;cases e2
  rw[e]at HK
  refine uU (G.no E3) (cM.no W E3) ok _ fun g9 w9 m9 h9 hm9 G9 W9 f9=>⟨g9,w9,_,rfl,fO.aB f9,fun dV f10 _=>HK _ _ (Iv h8.size m9) (Iv m9 h9.size) _ ⟨G9.fr f10 fun k _ hk aI=>by have:=hk.1;have:=n2 aI;omega,Ow.fr W9 f10 fun k hk aI=>by have:=(W9.aH hk).1.1;have:=n2 aI;omega,fun k hk=>by have:=hk.1;omega,fun k hk=>by have:=hk.1;omega,fun k h1 h2=>by have:=h1.2;have:=h2.1;omega⟩ ((E3.aA f9).fresh f10 fun k hk=>by have:=n2 hk;omega)⟩
 ·obtain⟨r,e,F,F',rfl,rfl,D6⟩:∃r,fZ d s.data.toList=r/\∃F F',tx=⟨r.2.toArray⟩/\p6=r.1.2.2/\nX h.size h6 b3 g6 w6 r.1 false F F' (fun k=>k=b3\/k=b2):=by
   unfold fZ
   generalize gV d (gr 32 s.data.toList)=o at M
   match o,M with
   |none,M=>rw[show cw=true from M]at e1;cases e1
   |some none,M=>rw[M.2]at e2;cases e2
   |some (some r),M=>
    obtain⟨_,_,m3,m4,F,F',D⟩:=M
    exact⟨r,rfl,F,F',m3,m4,D⟩
  subst e
  exact HK _ _ F F' _ ⟨D6.G.fr f13 fun k _ hk aI=>(D6.fl k hk).2 (.inr (n2 aI)),Ow.fr D6.W f13 fun k hk aI=>(D6.wl k (D6.W.aH hk).1).2 (.inr (n2 aI)),fun k hk=>(D6.fl k hk).1,fun k hk=>(D6.wl k hk).1,D6.dj⟩ (xF.fresh f13 fun k hk=>by have:=n2 hk;omega)
theorem BJ:∀{d:Dk}(_:nW d)(ss:List (List UInt8)),nW (gJ d ss).1
 |_,ok,[]=>ok
 |_,ok,s::ss=>BJ (zE ok s) ss
theorem uV:nW jZ:=by unfold nW jZ;decide
theorem zF:∀(d:Dk)(ss:List (List UInt8)),(gJ d ss).2.length=ss.length
 |_,[]=>rfl
 |d,s::ss=>by simp only[gJ,List.length_cons,zF]
def nY(l:List UInt8):ByteArray:=⟨l.toArray⟩
structure uW(n:Nat)(B:Nat->Prop)(h:Heap)(g w:Sl)(d:Dk)(t:Sl)(rs:List (List UInt8)):Prop where
 ex:∃F F' R,I6 n h g w d F F'/\vK h R t (rs.map nY)/\(∀k,R k->n<=k/\¬F k/\¬F' k)/\(∀k,F k\/F' k\/R k->k<h.size/\¬B k)
theorem uW.of{n:Nat}{B:Nat->Prop}{h:Heap}{g w:Sl}{d:Dk}{t:Sl}{rs:List (List UInt8)}{F F' R:Nat->Prop}(D:I6 n h g w d F F')(O:vK h R t (rs.map nY))(hR:∀k,R k->k<h.size->n<=k/\¬(F k/\k<h.size)/\¬(F' k/\k<h.size))(hB:∀k,F k\/F' k\/R k->k<h.size->¬B k):uW n B h g w d t rs:=
 ⟨fun k=>F k/\k<h.size,fun k=>F' k/\k<h.size,fun k=>R k/\k<h.size,⟨D.G.mono fun k hk hF=>⟨hF,hk⟩,Ow.mono D.W fun k hk hF=>⟨hF,(D.W.aH hk).2⟩,fun k hk=>D.fl k hk.1,fun k hk=>D.wl k hk.1,fun k h1 h2=>D.dj k h1.1 h2.1⟩,Ow.mono O fun k hk hF=>⟨hF,(O.aH hk).2⟩,fun k hk=>hR k hk.1 hk.2,fun k hk=>by
  rcases hk with hk|hk|hk
  ·exact⟨hk.2,hB k (.inl hk.1) hk.2⟩
  ·exact⟨hk.2,hB k (.inr (.inl hk.1)) hk.2⟩
  ·exact⟨hk.2,hB k (.inr (.inr hk.1)) hk.2⟩⟩
theorem uW.fr{n:Nat}{B:Nat->Prop}{h h':Heap}{g w:Sl}{d:Dk}{t:Sl}{rs:List (List UInt8)}{T:Nat->Prop}(R:uW n B h g w d t rs)(f:Fr T h h')(hT:∀k,T k->k<n\/h.size<=k\/B k):uW n B h' g w d t rs:=by
 obtain⟨F,F',Q,D,O,q1,q2⟩:=R
 have key:∀k,F k\/F' k\/Q k->n<=k->¬T k:=fun k hk hn hT2=>by
  have:=q2 k hk
  rcases hT k hT2 with h|h|h
  ·omega
  ·omega
  ·exact this.2 h
 exact⟨F,F',Q,⟨D.G.fr f fun k _ hk aI=>key k (.inl hk) (D.fl k hk) aI,Ow.fr D.W f fun k hk aI=>key k (.inr (.inl (D.W.aH hk).1)) (D.wl k (D.W.aH hk).1) aI,D.fl,D.wl,D.dj⟩,Ow.fr O f fun k hk aI=>key k (.inr (.inr (O.aH hk).1)) (q1 k (O.aH hk).1).1 aI,q1,fun k hk=>⟨Nat.lt_of_lt_of_le (q2 k hk).1 f.size,(q2 k hk).2⟩⟩
theorem uW.to{n m:Nat}{B B':Nat->Prop}{h:Heap}{g w:Sl}{d:Dk}{t:Sl}{rs:List (List UInt8)}(R:uW n B h g w d t rs)(hm:m<=n)(hB:∀k,B' k->B k\/h.size<=k):uW m B' h g w d t rs:=by
 obtain⟨F,F',Q,D,O,q1,q2⟩:=R
 exact⟨F,F',Q,D.up hm,O,fun k hk=>⟨Nat.le_trans hm (q1 k hk).1,(q1 k hk).2⟩,fun k hk=>⟨(q2 k hk).1,fun hb=>by
  rcases hB k hb with h|h
  ·exact(q2 k hk).2 h
  ·have:=(q2 k hk).1;omega⟩⟩
set_option maxHeartbeats 2000000 in
theorem aah{h:Heap}(GL:gS h){s:ByteArray}(hs:s.size<=1000000000)(K:Value->Heap->Prop)
 (HN:cZ s.data.toList=none->∀h',Fr No h h'->K (.tuple #[.agg #[aC.v,aC.v,VI 0],aC.v,VB false]) h')
 (HS:∀r,cZ s.data.toList=some r->∀g w t h',uW h.size No h' g w r.1 t r.2->Fr No h h'->K (.tuple #[.agg #[g.v,w.v,VI r.1.2.2],t.v,VB true]) h'):aE Tryz.prog 67 #[VS s] h K:=by
 refine v67 s h K fun b1 h1 eD f1 bY=> ?_
 have f1:=f1.aF
 have z1:=f1.size
 have lb1:b1<h1.size:=bY.head.lt
 refine vI _ _ fun v h2 D=> ?_
 obtain⟨g,w,m,rfl,G2,W2,f2⟩:=D
 refine⟨g,w,0,rfl,bY.aB f2,?_⟩
 have z2:=f2.size
 have E7:=f1.aA f2
 refine aP Mc (fun k=>h2.size<=k) (fun _ h=>h) 0 (by omega) [] rfl rfl fun o h3 n3 c3 o3 f3 m3 _=>⟨o,rfl,(bY.aB f2).aB f3,?_⟩
 have z3:=f3.size
 have gq:=E7.aA f3
 have n1:∀{k:Nat},In [b1] k->k=b1:=fun hk=>by simpa[In]using hk
 have qv:s.data.toList.length=s.size:=Array.length_toList
 have D2:I6 h1.size h2 g w jZ (fun k=>(h1.size<=k/\k<m)/\k<h2.size) (fun k=>(h1.size<=k/\m<=k)/\k<h2.size):=⟨G2.mono fun k hk hF=>⟨hF,hk⟩,Ow.mono W2 fun k hk hF=>⟨hF,(W2.aH hk).2⟩,fun k hk=>hk.1.1,fun k hk=>hk.1.1,fun k a b=>by omega⟩
 have o3':vK h3 (fun k=>h2.size<=k) o (([]:List (List UInt8)).map nY):=o3
 have R3:uW h1.size No h3 g w jZ o []:=uW.of (D2.no f3) o3' (fun k hk _=>⟨by omega,by omega,by omega⟩) fun k _ _ hk=>hk
 refine⟨fun e=>fun b2 h6 dK f6 _=> ?_,fun e=>fun b2 h5 dK f5 gh=> ?_⟩
 ·have e1:=dF (l:=[]) e
  have:cZ s.data.toList=some (jZ,[]):=by rw[e1];rfl
  refine HS _ this g w o h6 ?_ ((gq.fresh f6 fun k hk=>by have:=n1 hk;omega))
  exact(R3.fr f6 fun k hk=> .inl (by have:=n1 hk;omega)).to (by omega) fun k hk=> .inl hk
 have f5:=f5.aF
 have z5:=f5.size
 have pR:=gq.aA f5
 have Ag:b2<h5.size:=gh.head.lt
 refine wz (GL.no pR) hs _ fun t ps h7 mn T7 f7=>⟨t,rfl,gh.aB f7,fun e2=>fun Wp f16 _=> ?_,fun e2=> ?_⟩
 ·refine HN ?_ _ ((pR.aA f7).fresh f16 fun k hk=>by have:=n1 hk;omega)
  simp only[decide_eq_true_eq]at e2
  unfold cZ
  rw[if_neg (fun h=>by have:=h.1;omega)]
 simp only[decide_eq_false_iff_not]at e2
 have L8:=pR.aA f7
 have z7:=f7.size
 have hpl:ps.length=(gr 10 s.data.toList).length:=by rw[<-mn,List.length_map]
 have hp2:ps.length<=10000:=by have:=oT 10 s.data.toList;omega
 have Np:1<=ps.length:=by
  have:=List.length_pos_iff.2 (xY 10 s.data.toList)
  omega
 have tn:=T7.len
 rw[List.length_map,Nat.mul_one]at tn
 have e3:aL ((t.n:Int)-1)=((ps.length-1:Nat):Int):=by rw[aG]<;>omega
 rw[e3]
 have pd:(gr 10 s.data.toList).getLast?=some (ps[ps.length-1]'(by omega)).data.toList:=by
  rw[<-mn,List.getLast?_eq_getElem?,List.length_map,List.getElem?_map,List.getElem?_eq_getElem (by omega)]
  rfl
 refine⟨cM.bB T7 (by omega) (by simp;omega),ps[ps.length-1]'(by omega),?_,fun e4=>fun UI f15 _=> ?_,fun e4=>⟨fun e5=>fun h8 f8 _=> ?_,fun e5=> ?_⟩⟩
 ·have:=T7.get (i:=((ps.length-1:Nat):Int)) (by omega) (by simp;omega)
  simpa using this
 ·refine HN ?_ _ (L8.fresh f15 fun k hk=>by have:=n1 hk;omega)
  have e4:=aV (l:=[]) (bD e4)
  unfold cZ
  rw[pd,if_neg (fun h=>e4 (Option.some.inj h.2.1))]
 ·refine HN ?_ _ (L8.fresh f8 fun k hk=>by have:=n1 hk;omega)
  simp only[decide_eq_true_eq]at e5
  unfold cZ
  rw[if_neg (fun h=>by have:=h.2.2;omega)]
 have e4:=dF (l:=[]) (aZ e4)
 simp only[decide_eq_false_iff_not]at e5
 have hP:cZ s.data.toList=some (gJ jZ ((ps.take (ps.length-1)).map (·.data.toList))):=by
  unfold cZ
  rw[if_pos ⟨by omega,by rw[pd,e4],by omega⟩,List.dropLast_eq_take,<-mn,List.length_map,List.map_take]
 obtain⟨ls,TN⟩:∃ls,ls=ps.take (ps.length-1):=⟨_,rfl⟩
 rw[<-TN]at hP
 have ll:ls.length=ps.length-1:=by rw[TN,List.length_take];omega
 have tc:t.n<=t.c:=T7.cap
 refine pK Mc .i64 (m:=((ps.length-1:Nat):Int)) (by omega) (by omega) ⟨_,rfl,?_⟩
 have T8:cM (fun k=>h5.size<=k/\k<h7.size) h7 1 (t.cut 1 0 (ps.length-1) t.c) (ls.map VS):=by
  have:=cM.cut T7 (l:=0) (m:=ps.length-1) (by omega) (by omega)
  rw[TN,List.map_take]
  simpa using this
 rw[show((ps.length-1:Nat):Int).toNat=ps.length-1 by omega]
 generalize t.cut 1 0 (ps.length-1) t.c=t8 at T8
 have tn8:=T8.len
 rw[List.length_map,Nat.mul_one]at tn8
 have hq:∀q,q∈ls->q.size<=3000:=fun q hq=>by
  have h1:q∈ps:=by rw[TN]at hq;exact List.mem_of_mem_take hq
  have h1:q.data.toList∈gr 10 s.data.toList:=by rw[<-mn];exact List.mem_map_of_mem h1
  have h2:=wD h1
  have h3:q.data.toList.length=q.size:=Array.length_toList
  omega
 obtain⟨R,hR⟩:∃R,R=gJ jZ (ls.map (·.data.toList)):=⟨_,rfl⟩
 rw[<-hR]at hP
 refine⟨fun n o i x1 x2 x3 h'=>∃d rs,0<=i/\i+n=(ls.length:Int)/\nW d/\x3=d.2.2/\uW h1.size (fun k=>k=b2\/h5.size<=k/\k<h7.size) h' x1 x2 d o rs/\rs.length=i.toNat/\R.1=(gJ d ((ls.drop i.toNat).map (·.data.toList))).1/\R.2=rs++(gJ d ((ls.drop i.toNat).map (·.data.toList))).2/\Fr No h h'/\Fr (fun k=>h1.size<=k/\¬(h5.size<=k/\k<h7.size)) h7 h',⟨ls.length,jZ,[],by omega,by omega,uV,rfl,(R3.to (Nat.le_refl _) (fun k hk=> .inr (by omega))).fr (f5.aA f7) (fun k hk=>hk.elim),rfl,by rw[hR];rfl,by rw[hR];rfl,L8,Fr.refl _ _⟩,?_⟩
 rintro n o9 i x1 x2 _ h9 ⟨d,rs,i0,i1,okd,rfl,RO,rl,q1,q2,f9,f79⟩ fP
 have z9:=f79.size
 have T9:=T8.fr f79 fun k hk aI=>aI.2 hk
 refine⟨fun e6=> ?_,fun e6=>fun LG f14 _=> ?_⟩
 ·simp only[decide_eq_true_eq]at e6
  have il:i.toNat<ls.length:=by omega
  have hc:=T9.get (i:=i) i0 (by simp;omega)
  rw[List.getElem_map]at hc
  obtain⟨F,F',Q,D,O,w1,w2⟩:=RO
  have n2:∀{k:Nat},In [b2] k->k=b2:=fun hk=>by simpa[In]using hk
  refine⟨cM.bB T9 i0 (by simp;omega),_,hc,?_⟩
  have PQ:(ls.drop i.toNat).map (·.data.toList)=ls[i.toNat].data.toList::(ls.drop (i.toNat+1)).map (·.data.toList):=by
   rw[List.drop_eq_getElem_cons il];rfl
  rw[PQ,gJ]at q1 q2
  simp only at q1 q2
  refine I7 (GL.no f9) D.G.rd (Ow.rd D.W) okd (hq _ (List.getElem_mem il)) _ fun g10 w10 F2 F2' dV BI f10=>⟨g10,w10,_,_,rfl,fP.aB f10,fun hH f11 iu=> ?_⟩
  have PR:=zE okd ls[i.toNat].data.toList
  generalize fZ d ls[i.toNat].data.toList=r at BI q1 q2 iu PR⊢
  have zV:=f10.size
  have Rj:=f11.size
  have PJ:I6 h9.size hH g10 w10 r.1 (fun k=>F2 k/\k<dV.size) (fun k=>F2' k/\k<dV.size):=⟨(BI.G.mono fun k hk hF=>⟨hF,hk⟩).fr f11 fun k _ hk aI=>by have:=BI.fl k hk.1;have:=n2 aI;omega,Ow.fr (Ow.mono BI.W fun k hk hF=>⟨hF,(BI.W.aH hk).2⟩) f11 fun k hk aI=>by have:=BI.wl k (BI.W.aH hk).1;have:=n2 aI;omega,fun k hk=>BI.fl k hk.1,fun k hk=>BI.wl k hk.1,fun k h1 h2=>BI.dj k h1.1 h2.1⟩
  have O11:vK hH (fun k=>Q k\/hH.size<=k) o9 (rs.map nY):=Ow.mono (Ow.fr (Ow.no O f10) f11 fun k hk aI=>(w2 k (.inr (.inr (O.aH hk).1))).2 (.inl (n2 aI))) fun k _ hF=> .inl hF
  refine mq (x:=nY r.2) O11 (fun k hk=> .inr hk) iu (fun p hp hk=> ?_) (by rw[List.length_map];omega) _ fun t13 qR O13 f13 K1=> ?_
  ·rcases List.mem_cons.1 hp with rfl|hp
   ·rcases hk with hk|hk
    ·exact(w2 _ (.inr (.inr hk))).2 (.inl rfl)
    ·simp only at hk;omega
   ·obtain rfl:p=(b1,[aC.v,aC.v,VI 0]):=by simpa using hp
    rcases hk with hk|hk
    ·have:=(w1 _ hk).1;simp only at this;omega
    ·simp only at hk;omega
  have z13:=f13.size
  have eI:aL (i+1)=i+1:=by rw[aG]<;>omega
  rw[eI]
  have eT:(i+1).toNat=i.toNat+1:=by omega
  have adj:Fr No h qR:=by
   refine((f9.aA f10).fresh f11 fun k hk=>by have:=n2 hk;omega).fresh f13 fun k hk=> ?_
   rcases hk with hk|hk
   ·have:=(w1 _ hk).1;omega
   ·omega
  refine⟨n-1,by omega,r.1,rs++[r.2],by omega,by omega,PR,rfl,?_,by rw[eT,List.length_append,rl];rfl,by rw[eT];exact q1,by rw[eT,List.append_assoc];exact q2,adj,?_⟩
  ·have D13:I6 h1.size qR g10 w10 r.1 (fun k=>F2 k/\k<dV.size) (fun k=>F2' k/\k<dV.size):=by
    have key:∀k,h9.size<=k->k<dV.size->¬(Q k\/hH.size<=k):=fun k h1 h2 h3=>by
     rcases h3 with h3|h3
     ·have:=(w2 _ (.inr (.inr h3))).1;omega
     ·omega
    exact I6.up ⟨PJ.G.fr f13 fun k _ hk=>key k (PJ.fl k hk) hk.2,Ow.fr PJ.W f13 fun k hk=>key k (PJ.wl k (PJ.W.aH hk).1) (PJ.W.aH hk).1.2,PJ.fl,PJ.wl,PJ.dj⟩ (by omega)
   refine uW.of D13 (by rw[List.map_append];exact O13) (fun k hk aI=> ?_) fun k hk aI=> ?_
   ·rcases hk with hk|hk
    ·have h1:=(w1 _ hk).1
     have h2:=(w2 _ (.inr (.inr hk))).1
     exact⟨h1,fun hx=>by have:=BI.fl _ hx.1.1;omega,fun hx=>by have:=BI.wl _ hx.1.1;omega⟩
    ·exact⟨by omega,fun hx=>by have:=hx.1.2;omega,fun hx=>by have:=hx.1.2;omega⟩
   ·rcases hk with hk|hk|hk
    ·have:=BI.fl _ hk.1;omega
    ·have:=BI.wl _ hk.1;omega
    ·rcases hk with hk|hk
     ·exact(w2 _ (.inr (.inr hk))).2
     ·omega
  ·refine((f79.trans f10.aB).trans (f11.mono fun k _ hk=>by have:=n2 hk;omega)).trans (f13.mono fun k _ hk=> ?_)
   rcases hk with hk|hk
   ·exact⟨(w1 _ hk).1,fun hx=>(w2 _ (.inr (.inr hk))).2 (.inr hx)⟩
   ·omega
 ·simp only[decide_eq_false_iff_not]at e6
  have e7:ls.length<=i.toNat:=by omega
  rw[List.drop_eq_nil_of_le e7]at q1 q2
  have q1:R.1=d:=q1
  have q2:R.2=rs:=by rw[q2];exact List.append_nil rs
  have:=HS _ hP x1 x2 o9 LG (by
   rw[q1,q2]
   exact(RO.fr f14 fun k hk=> .inl (by have:=n1 hk;omega)).to (by omega) fun k hk=>hk.elim) (f9.fresh f14 fun k hk=>by have:=n1 hk;omega)
  rw[q1]at this
  exact this
theorem Gx{s:List UInt8}{r:Dk×List (List UInt8)}(h:cZ s=some r):r.2.length<=50/\nW r.1:=by
 unfold cZ at h
 split at h
 ·rename_i hh
  have h:=Option.some.inj h
  subst h
  rw[zF,List.length_dropLast]
  exact⟨by omega,BJ uV _⟩
 ·cases h
theorem vA{h:Heap}(GL:gS h){s:ByteArray}(hs:s.size<=1000000000)(K:Value->Heap->Prop)
 (HK:∀t h',vK h' (fun k=>h.size<=k) t (((cZ s.data.toList).elim [] fun r=>r.2).map nY)->Fr No h h'->K (.tuple #[t.v,VB (cZ s.data.toList).isSome]) h'):aE Tryz.prog 25 #[VS s] h K:=by
 refine v25 s h K (aah GL hs _ (fun e h1 f1=> ?_) fun r e g w t h1 R f1=> ?_)
 ·refine⟨aC,aC,0,aC,false,rfl,.nil,fun b1 h3 eD f3 _=> ?_⟩
  rw[e]at HK
  exact HK _ _ (Ow.nil ..) (f1.aA f3.aF)
 ·refine⟨g,w,r.1.2.2,t,true,rfl,.nil,fun b1 h3 eD f3 cF=> ?_⟩
  have f3:=f3.aF
  obtain⟨F,F',Q,D,O,w1,w2⟩:=R
  rw[e]at HK
  exact HK _ _ (Ow.mono (Ow.no O f3) fun k _ hk=>(w1 k hk).1) (f1.aA f3)
theorem PS{P:Program}{t:TypeId}(ht:P.underlying t=some .string){K:Value->Prop}(k k':IntKind)(s:ByteArray)(i j:Int)(h0:0<=i)(h1:i<=j)(h2:j<=s.size)(H:K (VS (s.extract i.toNat j.toNat))):pop P (Instr.sliceAt t (VS s) (some (.int k i)) (some (.int k' j)) none) K:=
 .mk' (fun w=>by rw[run_sliceAt_string w t _ _ _ _ ht,run_slice_string w t s k k' i j ht h0 h1 h2]) H
theorem TO{P:Program}{t:TypeId}(ht:P.underlying t=some .string){K:Value->Prop}(k:IntKind)(s:ByteArray)(m:Int)(h0:0<=m)(h1:m<=s.size)(H:K (VS (s.extract m.toNat s.size))):pop P (Instr.sliceAt t (VS s) (some (.int k m)) none none) K:=
 .mk' (fun w=>by rw[run_sliceAt_string w t _ _ _ _ ht,run_slice_string_l w t s ht k m h0 h1]) H
theorem PT(s:ByteArray)(i j:Nat):(s.extract i j).data.toList=(s.data.toList.drop i).take (j-i):=by
 rw[ByteArray.data_extract,Array.toList_extract,List.extract_eq_take_drop]
theorem uX{s:ByteArray}{i:Nat}(h:i<s.size)(h':i<s.data.toList.length):s[i]'h=s.data.toList[i]'h':=by
 rw[Array.getElem_toList];rfl
theorem BK{h:Heap}{s:ByteArray}(c:UInt8)(hs:s.size<=100000)(K:Value->Heap->Prop)(HK:∀(t:Sl)(ps:List ByteArray) h',ps.map (·.data.toList)=gr c s.data.toList->vK h' (fun k=>h.size<=k) t ps->Fr No h h'->K t.v h'):aE Tryz.prog 46 #[VS s,.int .u8 c.toNat] h K:=by
 have sl:=jU s
 refine v46 s c.toNat h K ?_
 refine⟨fun n out f i h'=>0<=f/\f<=i/\i+n=(s.size:Int)/\(∃ps:List ByteArray,vK h' (fun k=>h.size<=k) out ps/\ps.map (·.data.toList)++gr c (s.data.toList.drop f.toNat)=gr c s.data.toList/\(ps.length:Int)<=f)/\c∉(s.data.toList.drop f.toNat).take (i.toNat-f.toNat)/\Fr (fun k=>h.size<=k) h h',⟨s.size,by omega,by omega,by omega,⟨[],Ow.nil _ _ _ _,rfl,by simp⟩,by simp,Fr.refl _ _⟩,?_⟩
 rintro n out f i h1 ⟨f0,f1,i1,⟨ps,O,hp,pl⟩,hc,F1⟩ _
 have z1:=F1.size
 have put:∀{x:ByteArray}(R:Sl->Heap->Prop),(∀t h',vK h' (fun k=>h.size<=k) t (ps++[x])->Fr (fun k=>h.size<=k) h h'->R t h')->jQ Tryz.prog (Instr.buildSlice Ry 1 #[(0,VS x)]) h1 fun rv h2=>∃t:Sl,rv=t.v/\Vars h2 []/\jQ Tryz.prog (bK Ry Ry Ry out.v t.v) h2 fun Hy h3=>∃t2:Sl,Hy=t2.v/\Vars h3 []/\R t2 h3:=fun{x} R HR=>mq O (fun k hk=>by omega) .nil (fun q hq=>by cases hq) (by omega) R fun t h' o f _=>HR t h' o (F1.trans f)
 refine⟨fun e=> ?_,fun e=> ?_⟩
 ·simp only[decide_eq_true_eq]at e
  have il:i.toNat<s.data.toList.length:=by omega
  have e1:aL (i+1)=i+1:=by rw[aG]<;>omega
  have hd:s.data.toList.drop f.toNat=(s.data.toList.drop f.toNat).take (i.toNat-f.toNat)++s.data.toList[i.toNat]::s.data.toList.drop (i.toNat+1):=by
   have:=List.take_append_drop (i.toNat-f.toNat) (s.data.toList.drop f.toNat)
   rw[List.drop_drop,show f.toNat+(i.toNat-f.toNat)=i.toNat by omega,List.drop_eq_getElem_cons il]at this
   exact this.symm
  rw[e1]
  refine⟨fun adk f' h'=>0<=f'/\f'<=i+1/\(∃ps:List ByteArray,vK h' (fun k=>h.size<=k) adk ps/\ps.map (·.data.toList)++gr c (s.data.toList.drop f'.toNat)=gr c s.data.toList/\(ps.length:Int)<=f')/\c∉(s.data.toList.drop f'.toNat).take ((i+1).toNat-f'.toNat)/\Fr (fun k=>h.size<=k) h h',nz (by kernel_rfl) _ _ i (by omega) (by omega) ⟨_,rfl,fun e2=> ?_,fun e2=> ?_⟩,?_⟩
  ·simp only[decide_eq_true_eq]at e2
   rw[uX _ il]at e2
   have e2:s.data.toList[i.toNat]=c:=UInt8.toNat_inj.1 (by omega)
   refine PS (by kernel_rfl) _ _ s f i f0 f1 (by omega) ⟨_,rfl,put _ fun t h' o F=> ?_⟩
   refine⟨by omega,by omega,⟨_,o,?_,by rw[List.length_append,List.length_singleton];omega⟩,?_,F⟩
   ·rw[hd,e2,HJ _ hc]at hp
    rw[List.map_append,List.map_cons,List.map_nil,PT,List.append_assoc,show(i+1).toNat=i.toNat+1 by omega]
    exact hp
   ·rw[Nat.sub_self];simp
  ·simp only[decide_eq_false_iff_not]at e2
   rw[uX _ il]at e2
   have e2:c≠s.data.toList[i.toNat]:=fun h=>e2 (by rw[<-h])
   refine⟨f0,by omega,⟨ps,O,hp,pl⟩,?_,F1⟩
   rw[show(i+1).toNat-f.toNat=(i.toNat-f.toNat)+1 by omega,List.take_add_one,List.mem_append]
   rintro(hx|hx)
   ·exact hc hx
   ·rw[List.getElem?_drop,show f.toNat+(i.toNat-f.toNat)=i.toNat by omega,List.getElem?_eq_getElem il]at hx
    simp only[Option.toList_some,List.mem_singleton]at hx
    exact e2 hx
  ·rintro adk f' h4 ⟨a,b,q,c',F⟩ _
   exact⟨n-1,by omega,a,b,by omega,q,c',F⟩
 ·simp only[decide_eq_false_iff_not]at e
  refine TO (by kernel_rfl) _ s f f0 (by omega) ⟨_,rfl,put _ fun t h' o F=> ?_⟩
  refine HK t _ h' ?_ o (F.mono fun k hk h2=>by omega)
  have hx:(s.data.toList.drop f.toNat).take (i.toNat-f.toNat)=s.data.toList.drop f.toNat:=List.take_of_length_le (by rw[List.length_drop];omega)
  rw[hx]at hc
  rw[CH hc]at hp
  rw[List.map_append,List.map_cons,List.map_nil,PT,List.take_of_length_le (by rw[List.length_drop];omega)]
  exact hp
theorem PU{h:Heap}(s:ByteArray)(K:Value->Heap->Prop)(HK:∀h',Fr No h h'->K (VI (match mK s.data.toList with|some n=>(n:Int)|none=> -1)) h'):aE Tryz.prog 124 #[VS s] h K:=by
 have sl:=jU s
 refine v124 s h K ?_
 refine cY _ _ _ _ _ ⟨_,rfl,.nil,fun e=> ?_,fun e=> ?_⟩
 ·have e:iq 1 6 (s.size:Int)=false:=bD e
  have:=HK h (Fr.refl _ _)
  unfold mK at this
  rw[if_neg (fun hh=>by rw[aX.2 (show(1:Int)<=(s.size:Int)/\(s.size:Int)<=6 by omega)]at e;cases e)]at this
  exact this
 have e:=aX.1 (aZ e)
 have l0:0<s.data.toList.length:=by omega
 have hh:s.data.toList.head?=some s.data.toList[0]:=by
  rw[List.head?_eq_getElem?,List.getElem?_eq_getElem l0]
 refine nz (by kernel_rfl) _ _ 0 (by omega) (by show 0<s.size;omega) ⟨_,rfl,fun e2=>⟨fun e3=> ?_,fun e3=> ?_⟩,fun e2=> ?_⟩
 ·simp only[decide_eq_true_eq]at e2 e3
  have:=HK h (Fr.refl _ _)
  unfold mK at this
  have e4:s[(0:Int).toNat]'(by show 0<s.size;omega)=s.data.toList[0]:=uX (i:=0) (by omega) l0
  rw[e4]at e2
  have h48:s.data.toList.head?=some 48:=by rw[hh];exact congrArg some (UInt8.toNat_inj.1 (by show _=48;omega))
  rw[if_neg (fun h=>h.2.2 ⟨h48,by omega⟩)]at this
  exact this
 all_goals
  have hr:mK s.data.toList=Lib.decFrom 0 s.data.toList:=by
   unfold mK
   rw[if_pos]
   refine⟨by omega,by omega,?_⟩
   rintro⟨h1,h2⟩
   rw[hh]at h1
   have h1:=Option.some.inj h1
   have e4:s[(0:Int).toNat]'(by show 0<s.size;omega)=s.data.toList[0]:=uX (i:=0) (by omega) l0
   first
   |(simp only[decide_eq_false_iff_not]at e3;omega)
   |(simp only[decide_eq_false_iff_not]at e2;rw[e4,h1]at e2;exact e2 rfl)
  rw[hr]at HK
  refine⟨fun n x i h'=>0<=i/\i+n=(s.size:Int)/\0<=x/\x<10^i.toNat/\Lib.decFrom 0 s.data.toList=Lib.decFrom x.toNat (s.data.toList.drop i.toNat)/\h=h',⟨s.size,by omega,by omega,by omega,by show(0:Int)<1;omega,rfl,rfl⟩,?_⟩
  rintro n x i _ ⟨i0,i1,x0,x1,hx,rfl⟩ _
  refine⟨fun e5=> ?_,fun e5=> ?_⟩
  ·simp only[decide_eq_true_eq]at e5
   have il:i.toNat<s.data.toList.length:=by omega
   have ei:=uX (s:=s) (i:=i.toNat) (by omega) il
   rw[List.drop_eq_getElem_cons il,Lib.decFrom]at hx
   have bad:(s.data.toList[i.toNat].toNat<48\/57<s.data.toList[i.toNat].toNat)->K (VI (-1)) h:=fun hb=>by
    have:Lib.digitVal s.data.toList[i.toNat]=none:=by unfold Lib.digitVal;rw[if_neg (by omega)]
    rw[this]at hx
    simp only at hx
    have:=HK h (Fr.refl _ _)
    rw[hx]at this
    exact this
   refine nz (by kernel_rfl) _ _ i i0 (by omega) ⟨_,rfl,?_⟩
   rw[ei]
   refine⟨fun e6=>bad (.inl (by simp only[decide_eq_true_eq]at e6;omega)),fun e6=> ?_⟩
   refine nz (by kernel_rfl) _ _ i i0 (by omega) ⟨_,rfl,?_⟩
   rw[ei]
   refine⟨fun e7=>bad (.inr (by simp only[decide_eq_true_eq]at e7;omega)),fun e7=> ?_⟩
   refine nz (by kernel_rfl) _ _ i i0 (by omega) ⟨_,rfl,?_⟩
   rw[ei]
   simp only[decide_eq_false_iff_not]at e6 e7
   have hd:Lib.digitVal s.data.toList[i.toNat]=some (s.data.toList[i.toNat].toNat-48):=by unfold Lib.digitVal;rw[if_pos (by omega)]
   rw[hd]at hx
   simp only at hx
   generalize hc:s.data.toList[i.toNat].toNat=c at*
   have w1:IntKind.u8.wrap ((c:Int)-48)=(c:Int)-48:=by show((c:Int)-48)%256=_;omega
   have w2:IntKind.i64.wrap ((c:Int)-48)=(c:Int)-48:=aG _ (by omega) (by omega)
   rw[w1]
   refine jI (show Tryz.prog.underlying _=some (.int .u8)from by kernel_rfl) (show Tryz.prog.underlying _=some (.int .i64)from by kernel_rfl) _ ⟨(c:Int)-48,by rw[w2],n-1,by omega,?_⟩
   have p10:(10:Int)^(i.toNat+1)=10^i.toNat*10:=Int.pow_succ ..
   have pb:(10:Int)^i.toNat<=1000000:=by
    have:=Nat.pow_le_pow_right (show 10>0 by omega) (show i.toNat<=6 by omega)
    have h2:((10^i.toNat:Nat):Int)<=((10^6:Nat):Int):=by omega
    simpa using h2
   rw[aG (i+1) (by omega) (by omega),aG (10*x) (by omega) (by omega),aG _ (by omega) (by omega)]
   refine⟨by omega,by omega,by omega,?_,?_,rfl⟩
   ·rw[show(i+1).toNat=i.toNat+1 by omega,p10];omega
   ·rw[show(i+1).toNat=i.toNat+1 by omega,hx]
    congr 1
    omega
  ·simp only[decide_eq_false_iff_not]at e5
   rw[List.drop_eq_nil_of_le (by omega)]at hx
   rw[show Lib.decFrom x.toNat []=some x.toNat from rfl]at hx
   have:=HK h (Fr.refl _ _)
   rw[hx]at this
   simp only at this
   rw[show((x.toNat:Nat):Int)=x by omega]at this
   exact this
def TP:List (List UInt8):=[[115,116,101,112],[115,104,111,119],[119,97,108,107],[112,101,114,105,111,100],[99,121,99,108,101]]
def TQ:List (List UInt8):=[[97,116],[114,117,110],[112,97,115,115],[118,105,115,105,116,115],[104,105,116],[116,114,101,101,115],[102,117,108,108]]
def TR:List (List UInt8):=[[97,100,100],[116,117,114,110],[99,104,97,110,99,101],[103,114,111,119]]
def dM(w:List UInt8):List UInt8:=if w∈TP then[]else if w∈TQ then[110]else if w∈TR then[110,110]else if w=zB then[110,110,110,110]else if w=Me then[103]else[63]
def eQ:List UInt8->List (List UInt8)->List (List Int)->List Int->Option (List (List Int)×List Int)
 |[],[],g,ns=>some (g,ns)
 |c::cs,w::ws,g,ns=>if c=110 then(match mK w with|none=>none|some n=>eQ cs ws g (ns++[(n:Int)]))else if c=103 then(match oW w with|none=>none|some g'=>eQ cs ws g' ns)else none
 |_,_,_,_=>none
def GK(ws:List (List UInt8)):Option (List (List Int)×List Int):=if(dM (ws.headD [])).length+1=ws.length then eQ (dM (ws.headD [])) ws.tail [] []else none
theorem L4(w:List UInt8):(dM w).length<=4:=by
 unfold dM
 repeat' split
 all_goals simp
theorem Kz{s:ByteArray}{l:List UInt8}:(s.toList==(⟨l.toArray⟩:ByteArray).toList)=decide (s.data.toList=l):=by
 rw[ny]
set_option maxHeartbeats 2000000 in
theorem L5{h:Heap}(w:ByteArray):vf Tryz.prog 123 #[VS w] h (VS (nY (dM w.data.toList))):=by
 intro K HK
 have HK:=HK h (Fr.refl _ _)
 refine ae1 w h K ?_
 have mA:w.data.toList∈TP↔w.data.toList=[115,116,101,112]\/w.data.toList=[115,104,111,119]\/w.data.toList=[119,97,108,107]\/w.data.toList=[112,101,114,105,111,100]\/w.data.toList=[99,121,99,108,101]:=by simp only[TP,List.mem_cons,List.not_mem_nil,or_false]
 have mB:w.data.toList∈TQ↔w.data.toList=[97,116]\/w.data.toList=[114,117,110]\/w.data.toList=[112,97,115,115]\/w.data.toList=[118,105,115,105,116,115]\/w.data.toList=[104,105,116]\/w.data.toList=[116,114,101,101,115]\/w.data.toList=[102,117,108,108]:=by simp only[TQ,List.mem_cons,List.not_mem_nil,or_false]
 have mC:w.data.toList∈TR↔w.data.toList=[97,100,100]\/w.data.toList=[116,117,114,110]\/w.data.toList=[99,104,97,110,99,101]\/w.data.toList=[103,114,111,119]:=by simp only[TR,List.mem_cons,List.not_mem_nil,or_false]
 refine⟨fun x h'=>h=h'/\(x=true↔w.data.toList∈TP),?_,?_⟩
 ·rw[mA]
  simp only[Kz]
  refine⟨fun e=>⟨by trivial,?_⟩,fun e=>⟨fun e2=>⟨by trivial,?_⟩,fun e2=>⟨fun e3=>⟨by trivial,?_⟩,fun e3=>⟨fun e4=>⟨by trivial,?_⟩,fun e4=>⟨by trivial,?_⟩⟩⟩⟩⟩
  all_goals (simp only[decide_eq_true_eq,decide_eq_false_iff_not]at*;simp[*])
 rintro x _ ⟨rfl,hx⟩ _
 unfold dM at HK
 refine⟨fun e=> ?_,fun e=> ?_⟩
 ·rw[if_pos (hx.1 e)]at HK;exact HK
 rw[if_neg (fun h=>by rw[hx.2 h]at e;cases e)]at HK
 refine⟨fun x h'=>h=h'/\(x=true↔w.data.toList∈TQ),?_,?_⟩
 ·rw[mB]
  simp only[Kz]
  refine⟨fun e=>⟨by trivial,?_⟩,fun e=>⟨fun e2=>⟨by trivial,?_⟩,fun e2=>⟨fun e3=>⟨by trivial,?_⟩,fun e3=>⟨fun e4=>⟨by trivial,?_⟩,fun e4=>⟨fun e5=>⟨by trivial,?_⟩,fun e5=>⟨fun e6=>⟨by trivial,?_⟩,fun e6=>⟨by trivial,?_⟩⟩⟩⟩⟩⟩⟩
  all_goals (simp only[decide_eq_true_eq,decide_eq_false_iff_not]at*;simp[*])
 rintro x2 _ ⟨rfl,hx2⟩ _
 refine⟨fun e=> ?_,fun e=> ?_⟩
 ·rw[if_pos (hx2.1 e)]at HK;exact HK
 rw[if_neg (fun h=>by rw[hx2.2 h]at e;cases e)]at HK
 refine⟨fun x h'=>h=h'/\(x=true↔w.data.toList∈TR),?_,?_⟩
 ·rw[mC]
  simp only[Kz]
  refine⟨fun e=>⟨by trivial,?_⟩,fun e=>⟨fun e2=>⟨by trivial,?_⟩,fun e2=>⟨fun e3=>⟨by trivial,?_⟩,fun e3=>⟨by trivial,?_⟩⟩⟩⟩
  all_goals (simp only[decide_eq_true_eq,decide_eq_false_iff_not]at*;simp[*])
 rintro x3 _ ⟨rfl,hx3⟩ _
 refine⟨fun e=> ?_,fun e=>⟨fun e2=> ?_,fun e2=>⟨fun e3=> ?_,fun e3=> ?_⟩⟩⟩
 ·rw[if_pos (hx3.1 e)]at HK;exact HK
 all_goals rw[if_neg (fun h=>by rw[hx3.2 h]at e;cases e)]at HK
 ·rw[if_pos (show w.data.toList=zB from dF e2)]at HK;exact HK
 ·rw[if_neg (show¬w.data.toList=zB from aV e2),if_pos (show w.data.toList=Me from dF e3)]at HK;exact HK
 ·rw[if_neg (show¬w.data.toList=zB from aV e2),if_neg (show¬w.data.toList=Me from aV e3)]at HK;exact HK
set_option maxHeartbeats 2000000 in
theorem PV{h:Heap}(d1 d2:Sl)(d3:Int){s:ByteArray}(hs:s.size<=3000)(K:Value->Heap->Prop)
 (HN:GK (gr 32 s.data.toList)=none->∀(w:ByteArray)(x1 x2:Sl)(x3:Int)(x4 x5:Sl) h',Fr No h h'->K (.tuple #[VS w,.agg #[x1.v,x2.v,VI x3,x4.v,x5.v],VB false]) h')
 (HS:∀r,GK (gr 32 s.data.toList)=some r->∀(w:ByteArray)(x4 x5:Sl)(S4 S5:Nat->Prop) h',w.data.toList=(gr 32 s.data.toList).headD []->bU S4 h' x4 r.1->aQ S5 h' x5 r.2->(∀k,S4 k\/S5 k->h.size<=k)->Fr No h h'->K (.tuple #[VS w,.agg #[d1.v,d2.v,VI d3,x4.v,x5.v],VB true]) h'):
 aE Tryz.prog 84 #[.agg #[d1.v,d2.v,VI d3],VS s] h K:=by
 refine v84 d1 d2 d3 s h K fun b1 b2 b3 h4 eD dK iR f4 dS=> ?_
 have f4:=f4.aF
 have z4:=f4.size
 have Vw:b3<h4.size:=dS.head.lt
 have Ag:b2<h4.size:=dS.tail.head.lt
 have n2:∀{k:Nat},In [b2] k->k=b2:=fun hk=>by simpa[In]using hk
 have n3:∀{k:Nat},In [b3] k->k=b3:=fun hk=>by simpa[In]using hk
 refine BK 32 (by omega) _ fun t ps h5 mn T5 f5=>⟨t,rfl,dS.aB f5,?_⟩
 have z5:=f5.size
 have pR:=f4.aA f5
 have T5:=T5.eQ.lt
 have hpl:ps.length=(gr 32 s.data.toList).length:=by rw[<-mn,List.length_map]
 obtain⟨q0,qs,rfl⟩:∃q0 qs,ps=q0::qs:=by
  cases ps with
  |nil=>exact absurd mn.symm (xY 32 _)
  |cons a l=>exact⟨a,l,rfl⟩
 have tn:=T5.len
 rw[List.length_map,List.length_cons,Nat.mul_one]at tn
 have KA:=T5.get (i:=0) (by omega) (by simp)
 refine⟨cM.bB T5 (by omega) (by simp),q0,KA,L5 q0 _ fun h6 f6=>⟨_,rfl,(dS.aB f5).aB f6,?_⟩⟩
 have z6:=f6.size
 have xF:=pR.aA f6
 have jG:=(dS.aB f5).aB f6
 have hb:=L4 q0.data.toList
 have hR:GK (gr 32 s.data.toList)=if(dM q0.data.toList).length=qs.length then eQ (dM q0.data.toList) (qs.map (·.data.toList)) [] []else none:=by
  rw[<-mn]
  unfold GK
  simp only[List.map_cons,List.headD_cons,List.length_cons,List.length_map,List.tail_cons,Nat.add_right_cancel_iff]
 have hhd:(gr 32 s.data.toList).headD []=q0.data.toList:=by rw[<-mn];rfl
 have ql:qs.length<=3001:=by have:=oT 32 s.data.toList;have:=jU s;rw[List.length_cons]at hpl;omega
 have e0:aL ((t.n:Int)-1)=(qs.length:Int):=by rw[aG]<;>omega
 have qv:(nY (dM q0.data.toList)).size=(dM q0.data.toList).length:=bZ _
 rw[e0,qv]
 refine⟨fun e=>fun h7 f7 _=> ?_,fun e=> ?_⟩
 ·refine HN ?_ _ _ _ _ _ _ _ (xF.fresh f7 fun k hk=>by have:=n2 hk;omega)
  simp only[Bool.not_eq_true',decide_eq_false_iff_not]at e
  rw[hR,if_neg (by omega)]
 have e:=aZ e
 simp only[decide_eq_true_eq]at e
 have e:(dM q0.data.toList).length=qs.length:=by omega
 rw[if_pos e]at hR
 have tc:t.n<=t.c:=T5.cap
 refine ia Mc .i64 (l:=1) (by omega) (by omega) ⟨_,rfl,?_⟩
 have T6:cM (fun k=>h4.size<=k/\k<h5.size) h6 1 (t.cut 1 1 t.n t.c) (qs.map VS):=by
  have:=cM.cut (T5.no f6) (l:=1) (m:=t.n) (by omega) (Nat.le_refl _)
  have e:(((q0::qs).map VS).drop (1*1)).take ((t.n-1)*1)=qs.map VS:=by
   simp only[List.map_cons,Nat.mul_one,List.drop_succ_cons,List.drop_zero]
   exact List.take_of_length_le (by rw[List.length_map];omega)
  rw[e]at this
  exact this
 rw[show(1:Int).toNat=1 from rfl]
 have T5b:=T5.no f6
 generalize t.cut 1 1 t.n t.c=t8 at T6
 have tn8:=T6.len
 rw[List.length_map,Nat.mul_one]at tn8
 obtain⟨R,hRe⟩:∃R,R=GK (gr 32 s.data.toList):=⟨_,rfl⟩
 rw[<-hRe]at hR HN HS
 refine⟨fun n i x1 x2 x3 x4 x5 h'=>0<=i/\i+n=(qs.length:Int)/\x1=d1/\x2=d2/\x3=d3/\(∃g ns S4 F5,bU S4 h' x4 g/\bR h' F5 x5 ns/\(∀k,F5 k->h6.size<=k/\¬S4 k)/\(∀k,S4 k\/F5 k->h6.size<=k/\k<h'.size)/\ns.length<=i.toNat/\R=eQ ((dM q0.data.toList).drop i.toNat) ((qs.map (·.data.toList)).drop i.toNat) g ns)/\Fr (fun k=>k=b3\/h6.size<=k) h6 h',⟨qs.length,by omega,by omega,rfl,rfl,rfl,⟨[],[],No,No,((dR.nil h6 No qQ tI).rd.mono fun k hk=>hk.1),Ow.nil _ _ _ _,fun k hk=>hk.elim,fun k hk=>by rcases hk with hk|hk<;>exact hk.elim,by simp,hR⟩,Fr.refl _ _⟩,?_⟩
 rintro n i x1 x2 x3 x4 x5 h8 ⟨i0,i1,rfl,rfl,rfl,⟨g,ns,S4,F5,G,N,w1,w2,nl,hr⟩,F8⟩ fO
 have z8:=F8.size
 have F08:Fr No h h8:=xF.fresh F8 fun k hk=>by rcases hk with rfl|hk<;>omega
 refine⟨fun e6=> ?_,fun e6=> ?_⟩
 ·simp only[decide_eq_true_eq]at e6
  have il:i.toNat<qs.length:=by omega
  have il2:i.toNat<(dM q0.data.toList).length:=by omega
  have T8:=T6.fr F8 fun k hk aI=>by rcases aI with rfl|aI<;>omega
  have hc:=T8.get (i:=i) i0 (by simp;omega)
  rw[List.getElem_map]at hc
  have eI:aL (i+1)=i+1:=by rw[aG]<;>omega
  have eT:(i+1).toNat=i.toNat+1:=by omega
  have VY:=uX (s:=nY (dM q0.data.toList)) (i:=i.toNat) (by omega) (by rw[show(nY (dM q0.data.toList)).data.toList=dM q0.data.toList from rfl];omega)
  have VY:(nY (dM q0.data.toList))[i.toNat]'(by omega)=(dM q0.data.toList)[i.toNat]:=VY
  rw[List.drop_eq_getElem_cons il2,List.drop_eq_getElem_cons (show i.toNat<(qs.map (·.data.toList)).length by simp;omega),List.getElem_map,eQ]at hr
  generalize hcv:(dM q0.data.toList)[i.toNat]=c at hr VY
  generalize hqv:qs[i.toNat]=q at hr hc
  refine⟨cM.bB T8 i0 (by simp;omega),q,hc,?_⟩
  refine⟨fun ok y1 y2 y3 y4 y5 h'=>y1=x1/\y2=x2/\y3=x3/\Fr (fun k=>k=b3\/h6.size<=k) h6 h'/\(ok=false->R=none)/\(ok=true->∃g ns S4 F5,bU S4 h' y4 g/\bR h' F5 y5 ns/\(∀k,F5 k->h6.size<=k/\¬S4 k)/\(∀k,S4 k\/F5 k->h6.size<=k/\k<h'.size)/\ns.length<=i.toNat+1/\R=eQ ((dM q0.data.toList).drop (i.toNat+1)) ((qs.map (·.data.toList)).drop (i.toNat+1)) g ns),nz (by kernel_rfl) _ _ i i0 (by omega) ⟨_,rfl,?_⟩,?_⟩
  ·rw[VY]
   refine⟨fun e7=> ?_,fun e7=>⟨fun e8=> ?_,fun e8=> ?_⟩⟩
   ·simp only[decide_eq_true_eq]at e7
    have e7:c=110:=UInt8.toNat_inj.1 (by show c.toNat=110;omega)
    rw[if_pos e7]at hr
    refine PU q _ fun h9 f9=>⟨_,rfl,fO.aB f9,?_⟩
    have z9:=f9.size
    refine mb (F:=fun k=>F5 k\/h9.size<=k) (Ow.mono (Ow.no N f9) fun k _ hk=> .inl hk) (fun k hk=> .inr hk) (fO.aB f9) (fun p hp hk=> ?_) (by omega) _ fun t5 hH lL f11 iu gK f12 _=> ?_
    ·have:p.1<h4.size:=by
      simp only[List.mem_cons,List.not_mem_nil,or_false]at hp
      rcases hp with rfl|rfl|rfl
      ·exact Vw
      ·exact Ag
      ·exact dS.tail.tail.head.lt
     rcases hk with hk|hk
     ·have:=(w1 _ hk).1;omega
     ·omega
    have Rj:=f11.size
    have z12:=f12.size
    refine⟨rfl,rfl,rfl,((F8.trans f9.aB).trans (f11.mono fun k _ hk=>by rcases hk with hk|hk;exact .inr (w1 _ hk).1;exact .inr (by omega))).trans (f12.mono fun k _ hk=> .inl (n3 hk)),fun e8=> ?_,fun e8=> ?_⟩
    ·simp only[decide_eq_false_iff_not]at e8
     cases UQ:mK q.data.toList with
     |none=>rw[UQ]at hr;exact hr
     |some m=>rw[UQ]at e8;exact absurd (Int.natCast_nonneg m) e8
    ·simp only[decide_eq_true_eq]at e8
     cases UQ:mK q.data.toList with
     |none=>rw[UQ]at e8;exact absurd e8 (by decide)
     |some m=>
      rw[UQ]at hr lL
      refine⟨g,ns++[(m:Int)],S4,fun k=>(F5 k\/h9.size<=k)/\k<gK.size,?_,?_,fun k hk=> ?_,fun k hk=> ?_,by rw[List.length_append,List.length_singleton];omega,hr⟩
      ·refine((G.no f9).fr f11 fun k hk aI=> ?_).fr f12 fun k hk aI=> ?_
       ·rcases aI with aI|aI
        ·exact(w1 _ aI).2 hk
        ·have:=(w2 _ (.inl hk)).2;omega
       ·have:=(w2 _ (.inl hk)).1;have:=n3 aI;omega
      ·exact Ow.mono (Ow.fr lL f12 fun k hk aI=>by
        have h1:=(lL.aH hk).1
        have:=n3 aI
        rcases h1 with h1|h1
        ·have:=(w1 _ h1).1;omega
        ·omega) fun k hk hF=>⟨hF,Nat.lt_of_lt_of_le (lL.aH hk).2 z12⟩
      ·rcases hk.1 with hk|hk
       ·exact w1 _ hk
       ·exact⟨by omega,fun hx=>by have:=(w2 _ (.inl hx)).2;omega⟩
      ·rcases hk with hk|⟨hk,Hs⟩
       ·have:=w2 _ (.inl hk);omega
       ·rcases hk with hk|hk
        ·have:=w2 _ (.inr hk);omega
        ·omega
   ·simp only[decide_eq_true_eq,decide_eq_false_iff_not]at e7 e8
    have e7:¬c=110:=fun h=>e7 (by rw[h];rfl)
    have e8:c=103:=UInt8.toNat_inj.1 (by show c.toNat=103;omega)
    rw[if_neg e7,if_pos e8]at hr
    refine Lu _ fun t4 qR Lv f13=>⟨_,_,rfl,fO.aB f13,fun LG f14 _=> ?_⟩
    have z13:=f13.size
    have z14:=f14.size
    refine⟨rfl,rfl,rfl,(F8.trans f13.aB).trans (f14.mono fun k _ hk=> .inl (n3 hk)),fun e9=> ?_,fun e9=> ?_⟩
    ·unfold qf at e9
     split at e9
     ·cases e9
     ·rename_i hp
      rw[hp]at hr
      exact hr
    ·unfold qf at e9 Lv
     split at e9
     ·rename_i g' hp
      rw[hp]at hr Lv
      refine⟨g',ns,Iv h8.size qR.size,F5,(Lv.fr f14 fun k _ hk aI=>by have:=hk.1;have:=n3 aI;omega).rd.mono fun k hk=>hk.1,Ow.fr (Ow.no N f13) f14 fun k hk aI=> ?_,fun k hk=>⟨(w1 _ hk).1,fun hx=> ?_⟩,fun k hk=> ?_,by omega,hr⟩
      ·have:=(w1 _ (N.aH hk).1).1;have:=n3 aI;omega
      ·have:=(w2 _ (.inr hk)).2;have:=hx.1;omega
      ·rcases hk with hk|hk
       ·have:=hk.1;have:=hk.2;omega
       ·have:=w2 _ (.inr hk);omega
     ·cases e9
   ·simp only[decide_eq_false_iff_not]at e7 e8
    have e7:¬c=110:=fun h=>e7 (by rw[h];rfl)
    have e8:¬c=103:=fun h=>e8 (by rw[h];rfl)
    rw[if_neg e7,if_neg e8]at hr
    exact⟨rfl,rfl,rfl,F8,fun _=>hr,fun e=>by cases e⟩
  ·rintro ok y1 y2 y3 y4 y5 UI ⟨rfl,rfl,rfl,F15,k1,k2⟩ _
   refine⟨fun e9=>fun Wp f16 _=> ?_,fun e9=> ?_⟩
   ·exact HN (k1 (bD e9)) _ _ _ _ _ _ _ ((xF.fresh F15 fun k hk=>by rcases hk with rfl|hk<;>omega).fresh f16 fun k hk=>by have:=n2 hk;omega)
   ·rw[eI]
    refine⟨n-1,by omega,by omega,by omega,rfl,rfl,rfl,?_,F15⟩
    rw[eT]
    exact k2 (aZ e9)
 ·simp only[decide_eq_false_iff_not]at e6
  have T8:=(T5b.fr F8 fun k hk aI=>by rcases aI with rfl|aI<;>omega)
  have hc:=T8.get (i:=0) (by omega) (by simp)
  rw[List.drop_eq_nil_of_le (by omega),List.drop_eq_nil_of_le (by simp;omega)]at hr
  refine⟨cM.bB T8 (by omega) (by simp),q0,hc,fun h17 f17 _=> ?_⟩
  have z17:=f17.size
  refine HS _ hr q0 x4 x5 S4 (fun k=>F5 k/\k<h8.size) h17 hhd.symm (G.fr f17 fun k hk aI=> ?_) ((Ow.fr N f17 fun k hk aI=> ?_).eQ.mono fun k hk=>⟨hk,(w2 _ (.inr hk)).2⟩) (fun k hk=> ?_) (F08.fresh f17 fun k hk=>by have:=n2 hk;omega)
  ·have:=(w2 _ (.inl hk)).1;have:=n2 aI;omega
  ·have:=(w1 _ (N.aH hk).1).1;have:=n2 aI;omega
  ·rcases hk with hk|hk
   ·have:=(w2 _ (.inl hk)).1;omega
   ·have:=(w2 _ (.inr hk.1)).1;omega
def Gy(Z:Nat->Prop)(h:Heap)(g w:Sl)(d:Dk):Prop:=∃S S',bU S h g d.1/\aQ S' h w d.2.1/\(∀k,S k\/S' k->¬Z k/\k<h.size)
theorem Gy.of{Z S S':Nat->Prop}{h:Heap}{g w:Sl}{d:Dk}(G:bU S h g d.1)(W:aQ S' h w d.2.1)(hS:∀k,S k\/S' k->k<h.size->¬Z k):Gy Z h g w d:=⟨fun k=>S k/\k<h.size,fun k=>S' k/\k<h.size,G.xd,cM.lt W,fun k hk=>by
 rcases hk with hk|hk
 ·exact⟨hS k (.inl hk.1) hk.2,hk.2⟩
 ·exact⟨hS k (.inr hk.1) hk.2,hk.2⟩⟩
theorem Gy.fr{Z T:Nat->Prop}{h h':Heap}{g w:Sl}{d:Dk}(D:Gy Z h g w d)(f:Fr T h h')(hT:∀k,T k->Z k\/h.size<=k):Gy Z h' g w d:=by
 obtain⟨S,S',G,W,q⟩:=D
 have key:∀k,S k\/S' k->¬T k:=fun k hk h2=>by
  have:=q k hk
  rcases hT k h2 with h3|h3
  ·exact this.1 h3
  ·omega
 exact⟨S,S',G.fr f fun k hk=>key k (.inl hk),aQ.fr W f fun k hk=>key k (.inr hk),fun k hk=>⟨(q k hk).1,Nat.lt_of_lt_of_le (q k hk).2 f.size⟩⟩
theorem Gy.to{Z Z':Nat->Prop}{h:Heap}{g w:Sl}{d:Dk}(D:Gy Z h g w d)(hZ:∀k,Z' k->Z k\/h.size<=k):Gy Z' h g w d:=by
 obtain⟨S,S',G,W,q⟩:=D
 exact⟨S,S',G,W,fun k hk=>⟨fun hz=>by
  rcases hZ k hz with h|h
  ·exact(q k hk).1 h
  ·have:=(q k hk).2;omega,(q k hk).2⟩⟩
def noR:List UInt8:=[110,111]
def qm(d:Dk)(a:pY):Dk×List UInt8:=ZY d (some a)
theorem zG{h:Heap}{b1:Nat}{g w x4 x5 w1:Sl}{p0 p1:Int}{aD:List (List Int)}{rs:List Int}{S S':Nat->Prop}{ok:Bool}(V:Vars h [(b1,[g.v,w.v,VI p0,x4.v,x5.v])])(G:bU S h g aD)(W:aQ S' h w1 rs)(hS:∀k,S k\/S' k->k≠b1)(K:Value->Heap->Prop)
 (HN:(ok&&eW aD rs p1)=false->∀h',Fr No h h'->K (VS ⟨noR.toArray⟩) h')
 (HS:ok=true->eW aD rs p1=true->∀h',Vars h' [(b1,[g.v,w1.v,VI p1,x4.v,x5.v])]->Fr (fun k=>k=b1) h h'->K (VS ⟨(nQ (rs,p1)).toArray⟩) h'):aE Tryz.prog 127 #[VP b1 0,.agg #[w1.v,VI p1],VB ok] h K:=by
 have lb:=V.head.lt
 refine v127 b1 g w p0 x4 x5 w1 p1 ok h K V ⟨fun e=>fun b2 h1 dK f1 _=> ?_,fun e=>fun b2 h1 dK f1 bY=> ?_⟩
 ·exact HN (by rw[bD e];rfl) _ f1.aF
 have f1:=f1.aF
 have e:=aZ e
 refine fh (G.no f1) (aQ.no W f1) p1 _ fun h2 f2=>⟨_,rfl,bY.aB f2,fun e2=> ?_,fun e2=>fun h3 f3 cF=> ?_⟩
 ·exact HN (by rw[bD e2,Bool.and_false]) _ (f1.aA f2)
 have e2:=aZ e2
 have n1:∀{k:Nat},In [b1] k->k=b1:=fun hk=>by simpa[In]using hk
 have ws:=fQ (cV e2)
 have E7:=f1.aA f2
 have W3:=aQ.fr (aQ.no W E7) f3 fun k hk aI=>hS k (.inr hk) (n1 aI)
 refine Gt W3 (by have:=ws.2;simp only at this;omega) (fun x hx=>by have:=ws.1 x hx;omega) (by have:=ws.2.2.2;simp only at this;omega) _ fun h4 f4=>⟨_,rfl,cF.aB f4,?_⟩
 exact HS e e2 _ (aW (L:=[_]) (cF.aB f4)) ((E7.aB.trans (f3.mono fun k _ hk=>n1 hk)).trans f4.aB)
def vT(d:Dk)(w:List UInt8)(g4:List (List Int))(ns:List Int)(a:pY):Prop:=
 (w=Me/\aM g4=true/\a=some ((g4,(List.replicate g4.length 0,0)),tT g4))\/(w=[97,100,100]/\∃p q:Int,ns=[p,q]/\a=UF d p q)\/(w=[97,116]/\∃n:Int,0<=n/\ns=[n]/\a=TD d n)\/(w=[116,117,114,110]/\∃p k:Int,0<=p/\0<=k/\ns=[p,k]/\a=PE d p k)\/(w=[115,116,101,112]/\a=stC d)\/(w=[114,117,110]/\∃n:Int,ns=[n]/\a=rnC d n)
set_option maxHeartbeats 4000000 in
theorem TS{h:Heap}{Z:Nat->Prop}(hZ:∀k,Z k->k<h.size){b1:Nat}(zb:Z b1){g w x4 x5:Sl}{d:Dk}(V:Vars h [(b1,[g.v,w.v,VI d.2.2,x4.v,x5.v])])(D:Gy Z h g w d)(ok:nW d){g4:List (List Int)}{ns:List Int}{S4 S5:Nat->Prop}(G4:bU S4 h x4 g4)(N5:aQ S5 h x5 ns)(h45:∀k,S4 k\/S5 k->¬Z k){s:ByteArray}{a:pY}(M:vT d s.data.toList g4 ns a)(K:Value->Heap->Prop)
 (HK:∀(y1 y2 y4 y5:Sl) h',Gy Z h' y1 y2 (qm d a).1->Vars h' [(b1,[y1.v,y2.v,VI (qm d a).1.2.2,y4.v,y5.v])]->Fr (fun k=>k=b1\/h.size<=k) h h'->K (VS ⟨(qm d a).2.toArray⟩) h'):aE Tryz.prog 85 #[VP b1 0,VS s] h K:=by
 have lb:=V.head.lt
 have dl:=pZ ok
 have WK:=cV ok
 have wl:d.2.1.length=d.1.length:=WK.len
 have n1:∀{b k:Nat},In [b] k->k=b:=fun hk=>by simpa[In]using hk
 refine v85 b1 g w d.2.2 x4 x5 s h K V ?_
 refine⟨fun c2 y1 c3 y2 y3 h'=>g=y1/\w=y2/\d.2.2=y3/\Fr (fun k=>h.size<=k) h h',⟨fun c4 h1 hc4 f1 _ c5 h2 hc5 f2 _ h3 f3 _ h4 f4 _=>⟨rfl,rfl,rfl,?_⟩,fun c6 h1 hc6 f1 _ c7 h2 hc7 f2 _ h3 f3 _ h4 f4 _=>⟨rfl,rfl,rfl,?_⟩⟩,?_⟩
 ·have:=f1.size
  exact(((f1.aF.aB).trans f2.aF.aB).trans (f3.mono fun k _ hk=>by have:=n1 hk;omega)).trans (f4.mono fun k _ hk=>by have:=n1 hk;omega)
 ·have:=f1.size
  exact(((f1.aF.aB).trans f2.aF.aB).trans (f3.mono fun k _ hk=>by have:=n1 hk;omega)).trans (f4.mono fun k _ hk=>by have:=n1 hk;omega)
 rintro c2 _ c3 _ _ h9 ⟨rfl,rfl,rfl,F9⟩ fP
 have z9:=F9.size
 have D9:=D.fr F9 fun k hk=> .inr hk
 have G9:=G4.xd.fr F9 fun k hk aI=>by have:=hk.2;omega
 have N9:=aQ.fr (cM.lt N5) F9 fun k hk aI=>by have:=hk.2;omega
 have keep:∀{h':Heap},Fr No h9 h'->(qm d a)=(d,noR)->K (VS ⟨noR.toArray⟩) h':=fun f e=>by
  have:=HK _ _ x4 x5 _ (by rw[e];exact D9.fr f fun k hk=>hk.elim) (by rw[e];exact aW (L:=[_,_]) (fP.aB f)) ((F9.mono fun k _ hk=> .inr hk).trans f.aB)
  rw[e]at this
  exact this
 have wd:∀{X:Heap}{t:Sl}{r:St×Bool}{S:Nat->Prop},Mf d.1 r->aQ S X t r.1.1->(∀k,S k->k≠b1/\¬Z k)->Fr No h9 X->a=BG d r->aE Tryz.prog 127 #[VP b1 0,.agg #[t.v,VI r.1.2],VB r.2] X fun rv GH=>∃x6:Sl,∃x7:Sl,∃x8:Int,∃x9:Sl,∃Ny:Sl,∃t84:ByteArray,rv=VS t84/\Vars GH [(c3,[w.v,VI d.2.2]),(c2,[g.v]),(b1,[x6.v,x7.v,VI x8,x9.v,Ny.v])]/\K (VS t84) GH:=fun{X t r S} B T hS fX ea=>by
  obtain⟨Sg,Sw,G,W,q⟩:=D9.fr fX fun k hk=>hk.elim
  refine zG (aW (L:=[_,_]) (fP.aB fX)) G T (fun k hk=>by
   rcases hk with hk|hk
   ·exact fun e=>(q k (.inl hk)).1 (e▸zb)
   ·exact(hS k hk).1) _ (fun e h' f'=> ?_) fun e1 e2 h' V' f'=> ?_
  ·refine⟨g,w,d.2.2,x4,x5,_,rfl,(fP.aB fX).aB f',keep (fX.aA f') ?_⟩
   have:r.2=false:=by
    cases hr:r.2 with
    |false=>rfl
    |true=>rw[hr,Bool.true_and]at e;rw[kX (B.ok hr)]at e;cases e
   rw[ea,BG,if_neg (by rw[this];exact Bool.false_ne_true)]
   rfl
  ·have e:qm d a=((d.1,r.1),nQ r.1):=by rw[ea,BG,if_pos e1];rfl
   refine⟨g,t,r.1.2,x4,x5,_,rfl,(fP.aB fX).set (i:=2) rfl f' V'.head,?_⟩
   have:=HK g t x4 x5 h' (by
    rw[e]
    exact Gy.of (G.fr f' fun k hk aI=>(q k (.inl hk)).1 (aI▸zb)) (aQ.fr T f' fun k hk aI=>(hS k hk).1 aI) fun k hk _=>by
     rcases hk with hk|hk
     ·exact(q k (.inl hk)).1
     ·exact(hS k hk).2) (by rw[e];exact V') ((F9.mono fun k _ hk=> .inr hk).trans (fX.aB.trans (f'.mono fun k _ hk=> .inl hk)))
   rw[e]at this
   exact this
 have frs:∀{X:Heap}{S:Nat->Prop},(∀k,S k->h9.size<=k)->∀k,S k->k≠b1/\¬Z k:=fun hS k hk=>by
  have:=hS k hk
  exact⟨by omega,fun hz=>by have:=hZ k hz;omega⟩
 refine⟨fun e=> ?_,fun e=>⟨fun e2=> ?_,fun e2=>⟨fun e3=> ?_,fun e3=>⟨fun e4=> ?_,fun e4=>⟨fun e5=> ?_,fun e5=> ?_⟩⟩⟩⟩⟩
 ·rcases M with⟨hw,M⟩|⟨hw,M⟩|⟨hw,M⟩|⟨hw,M⟩|⟨hw,M⟩|⟨hw,M⟩
  all_goals first|exact absurd (hw.symm.trans (dF e)) (by decide)|skip
  obtain⟨hg,ea⟩:=M
  have e0:qm d a=((g4,(List.replicate g4.length 0,0)),tT g4):=by rw[ea];rfl
  have gl:=aO hg
  have gn:=G9.len
  refine eA fx (fun k=>h9.size<=k) (fun _ h=>h) .i64 .i64 x4.n x4.n (Nat.le_refl _) (by omega) fun t dV Ul c10 mM f10 m10 _=>⟨t,rfl,fP.aB f10,fun hH f11 iu=> ?_⟩
  have zV:=f10.size
  have adm:bR dV (fun k=>h9.size<=k) t (List.replicate g4.length 0):=by show Ow _ _ _ _ _ _;rw[gn]at mM;simpa using mM
  have hz:∀k,(S4 k/\k<h.size)->k≠b1:=fun k hk e=>h45 k (.inl hk.1) (e▸zb)
  have TB:=(G9.no f10).fr f11 fun k hk aI=>hz k hk (n1 aI)
  have T11:=Ow.fr adm f11 fun k hk aI=>by have:=(adm.aH hk).1;have:=n1 aI;omega
  refine sD TB (jg hg) _ fun gK f12=>⟨_,rfl,iu.aB f12,?_⟩
  have:=HK x4 t x4 x5 gK (by
   rw[e0]
   exact Gy.of (TB.no f12) (aQ.no T11.eQ f12) fun k hk _=>by
    rcases hk with hk|hk
    ·exact h45 k (.inl hk.1)
    ·exact fun hz=>by have:=hZ k hz;omega) (by rw[e0];exact aW (L:=[_,_]) (iu.aB f12)) ((((F9.mono fun k _ hk=> .inr hk).trans f10.aB).trans (f11.mono fun k _ hk=> .inl (n1 hk))).trans f12.aB)
  rw[e0]at this
  exact this
 ·rcases M with⟨hw,M⟩|⟨hw,M⟩|⟨hw,M⟩|⟨hw,M⟩|⟨hw,M⟩|⟨hw,M⟩
  all_goals first|exact absurd (hw.symm.trans (dF e2)) (by decide)|skip
  obtain⟨p,q,rfl,ea⟩:=M
  have KA:aR h9 (x5.at 0 1)=some (VI p):=N9.get (i:=0) (by omega) (by simp)
  have hc1:aR h9 (x5.at 1 1)=some (VI q):=N9.get (i:=1) (by omega) (by simp)
  obtain⟨Sg,Sw,G,W,qq⟩:=D9
  refine⟨fun bb c8 t h'=>bb=(gP d.1 p q).2/\gO h' (fun k=>h9.size<=k) t (gP d.1 p q).1/\Fr (fun k=>h9.size<=k) h9 h',⟨N9.bB (by omega) (by simp),p,KA,N9.bB (by omega) (by simp),q,hc1,?_,?_⟩,?_⟩
  ·refine oK G p q _ fun t qR Lv f13=>⟨t,_,rfl,fP.aB f13,fun c9 UI _ f15 _=>⟨rfl,(Lv.no f15.aF).mono fun k _ hk=>hk.1,(f13.aA f15.aF).aB⟩⟩
  ·intro c10 Wp aks f16 IL
   have f16:=f16.aF
   have z16:=f16.size
   refine⟨dD hc1 f16 fun h=>h,dD KA f16 fun h=>h,oK (G.no f16) p q _ fun t h17 o17 f17=>⟨t,_,rfl,IL.aB f17,fun h18 f18 _=>⟨rfl,?_,?_⟩⟩⟩
   ·have l10:=IL.head.lt
    exact(o17.fr f18 fun k _ hk aI=>by have:=hk.1;have:=n1 aI;omega).mono fun k _ hk=>by have:=hk.1;omega
   ·exact(f16.aA f17).aB.trans (f18.mono fun k _ hk=>by have:=n1 hk;omega)
  ·rintro _ c8 t LI ⟨rfl,T19,UJ⟩ zt
   have z19:=UJ.size
   refine⟨fun e9=> ?_,fun e9 h20 f20 TJ=> ?_⟩
   ·have e0:qm d a=(d,noR):=by rw[ea,UF,if_neg (by rw[bD e9];exact Bool.false_ne_true)];rfl
    have:=HK g w x4 x5 LI (by rw[e0];exact Gy.fr ⟨Sg,Sw,G,W,qq⟩ UJ fun k hk=> .inr hk) (by rw[e0];exact aW (L:=[_,_,_]) zt) ((F9.mono fun k _ hk=> .inr hk).trans (UJ.mono fun k _ hk=> .inr (by omega)))
    rw[e0]at this
    exact this
   ·have hb:=aZ e9
    have e0:qm d a=(((gP d.1 p q).1,d.2),tT (gP d.1 p q).1):=by rw[ea,UF,if_pos hb];rfl
    have T20:=T19.fr f20 fun k _ hk aI=>by have:=n1 aI;omega
    have W20:=aQ.fr (aQ.fr W UJ fun k hk aI=>by have:=(qq k (.inr hk)).2;omega) f20 fun k hk aI=>(qq k (.inr hk)).1 (n1 aI▸zb)
    refine sD T20.rd (jg (D5 hb)) _ fun h21 f21=>⟨_,rfl,TJ.aB f21,?_⟩
    have:=HK t w x4 x5 h21 (by
     rw[e0]
     exact Gy.of (T20.rd.no f21) (aQ.no W20 f21) fun k hk _=>by
      rcases hk with hk|hk
      ·exact fun hz=>by have:=hZ k hz;have:=hk.1;omega
      ·exact(qq k (.inr hk)).1) (by rw[e0];exact aW (L:=[_,_,_]) (TJ.aB f21)) ((((F9.mono fun k _ hk=> .inr hk).trans (UJ.mono fun k _ hk=> .inr (by omega))).trans (f20.mono fun k _ hk=> .inl (n1 hk))).trans f21.aB)
    rw[e0]at this
    exact this
 ·rcases M with⟨hw,M⟩|⟨hw,M⟩|⟨hw,M⟩|⟨hw,M⟩|⟨hw,M⟩|⟨hw,M⟩
  all_goals first|exact absurd (hw.symm.trans (dF e3)) (by decide)|skip
  obtain⟨n,n0,rfl,ea⟩:=M
  have KA:aR h9 (x5.at 0 1)=some (VI n):=N9.get (i:=0) (by omega) (by simp)
  obtain⟨Sg,Sw,G,W,qq⟩:=D9
  refine⟨N9.bB (by omega) (by simp),n,KA,?_⟩
  by_cases hb:(aM d.1&&iq 0 ((d.1.length:Int)-1) n)=true
  ·have hn:=aX.1 (Bool.and_eq_true_iff.1 hb).2
   have B:=Mf.of (Ky WK n0 (show n<(d.1.length:Int) by omega)) true
   exact wd (t:=w) (r:=((d.2.1,n),true)) B W (fun k hk=>⟨fun e=>(qq k (.inr hk)).1 (e▸zb),(qq k (.inr hk)).1⟩) (Fr.refl _ _) (by rw[ea,TD,hb])
  ·refine zG (aW (L:=[_,_]) fP) G W (fun k hk e=>(qq k hk).1 (e▸zb)) _ (fun _ h' f'=>⟨g,w,d.2.2,x4,x5,_,rfl,fP.aB f',keep f' (by rw[ea,TD,BG,if_neg hb];rfl)⟩) fun _ e2=>absurd ?_ hb
   have W2:=cV e2
   have h1:=W2.lo
   have h2:=W2.hi
   simp only at h1 h2
   rw[W2.bE,Bool.true_and]
   exact aX.2 ⟨h1,by omega⟩
 ·rcases M with⟨hw,M⟩|⟨hw,M⟩|⟨hw,M⟩|⟨hw,M⟩|⟨hw,M⟩|⟨hw,M⟩
  all_goals first|exact absurd (hw.symm.trans (dF e4)) (by decide)|skip
  obtain⟨p,k,p0,k0,rfl,ea⟩:=M
  have KA:aR h9 (x5.at 0 1)=some (VI p):=N9.get (i:=0) (by omega) (by simp)
  have hc1:aR h9 (x5.at 1 1)=some (VI k):=N9.get (i:=1) (by omega) (by simp)
  obtain⟨Sg,Sw,G,W,qq⟩:=D9
  refine⟨N9.bB (by omega) (by simp),p,KA,cQ G p _ fun Qe f23=>⟨_,rfl,fP.aB f23,fun e9=>keep f23 ?_,fun e9=> ?_⟩⟩
  ·rw[ea,PE,BG,if_neg (by rw[bD e9,Bool.false_and];exact Bool.false_ne_true)];rfl
  have e9:=aZ e9
  have hp:=aX.1 (Bool.and_eq_true_iff.1 e9).2
  have N23:=N9.no f23
  obtain⟨si,c1,r1⟩:=(G.no f23).get (i:=p) p0 (by omega)
  have rn:=r1.len
  have eg:d.1.getD p.toNat []=d.1[p.toNat]'(by omega):=aS (by omega)
  refine⟨N23.bB (by omega) (by simp),k,dD hc1 f23 fun h=>h,N23.bB (by omega) (by simp),p,dD KA f23 fun h=>h,(G.no f23).bB p0 (by omega),si,c1,fun TT=>keep f23 ?_,fun TT=> ?_⟩
  ·simp only[decide_eq_true_eq]at TT
   rw[ea,PE,BG,if_neg (fun hh=>by have:=aX.1 (Bool.and_eq_true_iff.1 hh).2;rw[eg]at this;omega)];rfl
  simp only[decide_eq_false_iff_not]at TT
  refine pP (aQ.no W f23) (by omega) _ fun t h24 o24 f24=>⟨t,rfl,(fP.aB f23).aB f24,?_⟩
  have f0:=f23.aA f24
  have N24:=N23.no f24
  have z23:=f23.size
  have z24:=f24.size
  refine⟨N24.bB (by omega) (by simp),p,N24.get (i:=0) (by omega) (by simp),N24.bB (by omega) (by simp),k,N24.get (i:=1) (by omega) (by simp),?_⟩
  refine fW o24 p0 (by omega) (fP.aB f0) (fun q hq hk=> ?_) _ fun K7 O25 F25 Rc=> ?_
  ·have h1:=hk.1
   have:q.1<h9.size:=by
    simp only[List.mem_cons,List.not_mem_nil,or_false]at hq
    rcases hq with rfl|rfl|rfl
    ·exact fP.head.lt
    ·exact fP.tail.head.lt
    ·exact fP.tail.tail.head.lt
   omega
  have z25:=F25.size
  have adn:Fr (fun k=>h9.size<=k) h9 K7:=f0.aB.trans (F25.mono fun k _ hk=>by have:=hk.1;omega)
  have MZ:(aM d.1&&iq 0 ((d.1.length:Int)-1) p&&iq 0 (((d.1.getD p.toNat []).length:Int)-1) k)=true:=by
   rw[e9,Bool.true_and,eg]
   exact aX.2 ⟨k0,by omega⟩
  have WO:gj d.1 (d.2.1.set p.toNat k,d.2.2):=Gw WK (by omega) k0 (by omega)
  have e0:qm d a=((d.1,(d.2.1.set p.toNat k,d.2.2)),nQ (d.2.1.set p.toNat k,d.2.2)):=by rw[ea,PE,BG,if_pos MZ];rfl
  have G25:=G.fr adn fun k hk aI=>by have:=(qq k (.inl hk)).2;omega
  refine zG (aW (L:=[_,_]) Rc) G25 O25.eQ (fun k hk e=> ?_) _ (fun e h' f'=> ?_) fun _ _ h' V' f'=> ?_
  ·rcases hk with hk|hk
   ·exact(qq k (.inl hk)).1 (e▸zb)
   ·have:=hk.1;omega
  ·rw[kX WO]at e
   cases e
  ·refine⟨g,t,d.2.2,x4,x5,_,rfl,Rc.set (i:=2) rfl f' V'.head,?_⟩
   have:=HK g t x4 x5 h' (by
    rw[e0]
    refine Gy.of (G25.fr f' fun k hk aI=>(qq k (.inl hk)).1 (aI▸zb)) (Ow.eQ (Ow.fr O25 f' fun k hk aI=>by have:=(O25.aH hk).1.1;omega)) fun k hk _=> ?_
    rcases hk with hk|hk
    ·exact(qq k (.inl hk)).1
    ·exact fun hz=>by have:=hZ k hz;have:=hk.1;omega) (by rw[e0];exact V') (((F9.mono fun k _ hk=> .inr hk).trans (adn.mono fun k _ hk=> .inr (by omega))).trans (f'.mono fun k _ hk=> .inl hk))
   rw[e0]at this
   exact this
 ·rcases M with⟨hw,M⟩|⟨hw,M⟩|⟨hw,M⟩|⟨hw,M⟩|⟨hw,M⟩|⟨hw,M⟩
  all_goals first|exact absurd (hw.symm.trans (dF e5)) (by decide)|skip
  obtain⟨Sg,Sw,G,W,qq⟩:=D9
  exact zW G W d.2.2 _ fun t Re Nz f27=>⟨t,_,_,rfl,fP.aB f27,wd (p5 _ _ _ _) Nz.eQ (frs (X:=Re) fun k hk=>hk.1) f27 M⟩
 ·rcases M with⟨hw,M⟩|⟨hw,M⟩|⟨hw,M⟩|⟨hw,M⟩|⟨hw,M⟩|⟨hw,M⟩
  all_goals first|exact absurd hw (aV e)|exact absurd hw (aV e2)|exact absurd hw (aV e3)|exact absurd hw (aV e4)|exact absurd hw (aV e5)|skip
  obtain⟨n,rfl,ea⟩:=M
  have KA:aR h9 (x5.at 0 1)=some (VI n):=N9.get (i:=0) (by omega) (by simp)
  obtain⟨Sg,Sw,G,W,qq⟩:=D9
  exact⟨N9.bB (by omega) (by simp),n,KA,Cv G W d.2.2 n _ fun t Re Nz f27=>⟨t,_,_,rfl,fP.aB f27,wd (p5 _ _ _ _) Nz.eQ (frs (X:=Re) fun k hk=>hk.1) f27 ea⟩⟩
def mL(d:Dk)(w:List UInt8)(ns:List Int)(a:pY):Prop:=
 (w=[115,104,111,119]/\a=some (d,tT d.1))\/(w=[119,97,108,107]/\a=some (d,nQ d.2))\/(w=[112,97,115,115]/\∃n:Int,ns=[n]/\a=psC d n)\/(w=[118,105,115,105,116,115]/\∃n:Int,ns=[n]/\a=vsC d n)\/(w=[104,105,116]/\∃n:Int,ns=[n]/\a=htC d n)\/(w=[112,101,114,105,111,100]/\a=prC d)\/(w=[116,114,101,101,115]/\∃n:Int,ns=[n]/\a=tsC d n)\/(w=[99,121,99,108,101]/\a=cyC d)\/(w=[99,104,97,110,99,101]/\∃p q:Int,ns=[p,q]/\a=ZW d p q)\/(w=[102,117,108,108]/\∃n:Int,ns=[n]/\a=flC d n)\/(w=zB/\∃p q r s:Int,ns=[p,q,r,s]/\a=esC d p q r s)\/(w=[103,114,111,119]/\∃p q:Int,ns=[p,q]/\a=gwC d p q)
theorem iQ(d:Dk){c:Prop} [Decidable c](t:List UInt8):qm d (if c then some (d,t)else none)=(d,if c then t else noR):=by
 by_cases h:c
 ·rw[if_pos h,if_pos h];rfl
 ·rw[if_neg h,if_neg h];rfl
theorem TU{d:Dk}{w:List UInt8}{ns:List Int}{a:pY}(M:mL d w ns a):(qm d a).1=d:=by
 rcases M with⟨_,rfl⟩|⟨_,rfl⟩|⟨_,n,_,rfl⟩|⟨_,n,_,rfl⟩|⟨_,n,_,rfl⟩|⟨_,rfl⟩|⟨_,n,_,rfl⟩|⟨_,rfl⟩|⟨_,p,q,_,rfl⟩|⟨_,n,_,rfl⟩|⟨_,p,q,r,s,_,rfl⟩|⟨_,p,q,_,rfl⟩
 ·rfl
 ·rfl
 ·exact congrArg Prod.fst (iQ d _)
 ·exact congrArg Prod.fst (iQ d _)
 ·exact congrArg Prod.fst (iQ d _)
 ·exact congrArg Prod.fst (iQ d _)
 ·exact congrArg Prod.fst (iQ d _)
 ·exact congrArg Prod.fst (iQ d _)
 ·exact congrArg Prod.fst (iQ d _)
 ·exact congrArg Prod.fst (iQ d _)
 ·exact congrArg Prod.fst (iQ d _)
 ·exact congrArg Prod.fst (iQ d _)
theorem p8{d:Dk}{X h9:Heap}{L:List (Nat×List Value)}(hL:Vars X L){t:Sl}{S:Nat->Prop}{r:List Int×Bool}(B:I4 r)(H:aQ S X t r.1)(fX:Fr No h9 X){K:Value->Heap->Prop}(HK:∀h',Fr No h9 h'->K (VS ⟨(qm d (PD d r)).2.toArray⟩) h'):aE Tryz.prog 131 #[t.v,VB r.2] X fun rv h'=>∃t':ByteArray,rv=VS t'/\Vars h' L/\K (VS t') h':=by
 refine PF (fun _=>H) (fun _=>B.b) (fun _=>B.n) _ fun h' f'=>⟨_,rfl,hL.aB f',?_⟩
 have:=HK h' (fX.aA f')
 rw[PD,iQ]at this
 exact this
theorem I9{d:Dk}{X h9:Heap}{L:List (Nat×List Value)}(hL:Vars X L){r:Int×Bool}(B:NtB r)(fX:Fr No h9 X){K:Value->Heap->Prop}(HK:∀h',Fr No h9 h'->K (VS ⟨(qm d (UE d r)).2.toArray⟩) h'):aE Tryz.prog 134 #[VI r.1,VB r.2] X fun rv h'=>∃t':ByteArray,rv=VS t'/\Vars h' L/\K (VS t') h':=by
 refine I3 (fun _=>B) _ fun h' f'=>⟨_,rfl,hL.aB f',?_⟩
 have:=HK h' (fX.aA f')
 rw[UE,iQ]at this
 exact this
set_option maxHeartbeats 4000000 in
theorem TV{h:Heap}{b1:Nat}{g w x4 x5:Sl}{d:Dk}{S S' S5:Nat->Prop}(V:Vars h [(b1,[g.v,w.v,VI d.2.2,x4.v,x5.v])])(G:bU S h g d.1)(W:aQ S' h w d.2.1)(ok:nW d){ns:List Int}(N5:aQ S5 h x5 ns){s:ByteArray}{a:pY}(M:mL d s.data.toList ns a)(K:Value->Heap->Prop)
 (HK:∀h',Fr No h h'->K (VS ⟨(qm d a).2.toArray⟩) h'):aE Tryz.prog 86 #[VP b1 0,VS s] h K:=by
 have dl:=pZ ok
 have WK:=cV ok
 have ws:=fQ WK
 simp only at ws
 have n1:∀{b k:Nat},In [b] k->k=b:=fun hk=>by simpa[In]using hk
 refine v86 b1 g w d.2.2 x4 x5 s h K V ?_
 refine⟨fun c2 y1 c3 y2 y3 h'=>g=y1/\w=y2/\d.2.2=y3/\Fr (fun k=>h.size<=k) h h',⟨fun c4 h1 hc4 f1 _ c5 h2 hc5 f2 _ h3 f3 _ h4 f4 _=>⟨rfl,rfl,rfl,?_⟩,fun c6 h1 hc6 f1 _ c7 h2 hc7 f2 _ h3 f3 _ h4 f4 _=>⟨rfl,rfl,rfl,?_⟩⟩,?_⟩
 ·have:=f1.size
  exact(((f1.aF.aB).trans f2.aF.aB).trans (f3.mono fun k _ hk=>by have:=n1 hk;omega)).trans (f4.mono fun k _ hk=>by have:=n1 hk;omega)
 ·have:=f1.size
  exact(((f1.aF.aB).trans f2.aF.aB).trans (f3.mono fun k _ hk=>by have:=n1 hk;omega)).trans (f4.mono fun k _ hk=>by have:=n1 hk;omega)
 rintro c2 _ c3 _ _ h9 ⟨rfl,rfl,rfl,F9⟩ hL
 have F9:Fr No h h9:=F9.mono fun k hk aI=>by omega
 have G:=G.no F9
 have W:=aQ.no W F9
 have N:=aQ.no N5 F9
 have HK:∀h',Fr No h9 h'->K (VS ⟨(qm d a).2.toArray⟩) h':=fun h' f=>HK h' (F9.aA f)
 clear F9 N5 V
 refine⟨fun e=> ?_,fun e=>⟨fun e2=> ?_,fun e2=>⟨fun e3=> ?_,fun e3=>⟨fun e4=> ?_,fun e4=>⟨fun e5=> ?_,fun e5=>⟨fun e6=> ?_,fun e6=>⟨fun e7=> ?_,fun e7=>⟨fun e8=> ?_,fun e8=>⟨fun e9=> ?_,fun e9=>⟨fun TT=> ?_,fun TT=>⟨fun Vr=> ?_,fun Vr=> ?_⟩⟩⟩⟩⟩⟩⟩⟩⟩⟩⟩
 ·rcases M with⟨hw,M⟩|⟨hw,M⟩|⟨hw,M⟩|⟨hw,M⟩|⟨hw,M⟩|⟨hw,M⟩|⟨hw,M⟩|⟨hw,M⟩|⟨hw,M⟩|⟨hw,M⟩|⟨hw,M⟩|⟨hw,M⟩
  all_goals first|exact absurd (hw.symm.trans (dF e)) (by decide)|skip
  subst M
  exact sD G (jg WK.bE) _ fun h' f=>⟨_,rfl,hL.aB f,HK h' f⟩
 ·rcases M with⟨hw,M⟩|⟨hw,M⟩|⟨hw,M⟩|⟨hw,M⟩|⟨hw,M⟩|⟨hw,M⟩|⟨hw,M⟩|⟨hw,M⟩|⟨hw,M⟩|⟨hw,M⟩|⟨hw,M⟩|⟨hw,M⟩
  all_goals first|exact absurd (hw.symm.trans (dF e2)) (by decide)|skip
  subst M
  exact Gt W (by omega) (fun x hx=>by have:=ws.1 x hx;omega) (by omega) _ fun h' f=>⟨_,rfl,hL.aB f,HK h' f⟩
 ·rcases M with⟨hw,M⟩|⟨hw,M⟩|⟨hw,M⟩|⟨hw,M⟩|⟨hw,M⟩|⟨hw,M⟩|⟨hw,M⟩|⟨hw,M⟩|⟨hw,M⟩|⟨hw,M⟩|⟨hw,M⟩|⟨hw,M⟩
  all_goals first|exact absurd (hw.symm.trans (dF e3)) (by decide)|skip
  obtain⟨n,rfl,rfl⟩:=M
  exact⟨N.bB (by omega) (by simp),n,N.get (i:=0) (by omega) (by simp),qe G W d.2.2 n _ fun t X T f=>⟨t,_,rfl,hL.aB f,p8 (hL.aB f) (ac5 _ _ _ _) T f HK⟩⟩
 ·rcases M with⟨hw,M⟩|⟨hw,M⟩|⟨hw,M⟩|⟨hw,M⟩|⟨hw,M⟩|⟨hw,M⟩|⟨hw,M⟩|⟨hw,M⟩|⟨hw,M⟩|⟨hw,M⟩|⟨hw,M⟩|⟨hw,M⟩
  all_goals first|exact absurd (hw.symm.trans (dF e4)) (by decide)|skip
  obtain⟨n,rfl,rfl⟩:=M
  exact⟨N.bB (by omega) (by simp),n,N.get (i:=0) (by omega) (by simp),vJ G W d.2.2 n _ fun t X T f=>⟨t,_,rfl,hL.aB f,p8 (hL.aB f) (ac6 _ _ _ _) T f HK⟩⟩
 ·rcases M with⟨hw,M⟩|⟨hw,M⟩|⟨hw,M⟩|⟨hw,M⟩|⟨hw,M⟩|⟨hw,M⟩|⟨hw,M⟩|⟨hw,M⟩|⟨hw,M⟩|⟨hw,M⟩|⟨hw,M⟩|⟨hw,M⟩
  all_goals first|exact absurd (hw.symm.trans (dF e5)) (by decide)|skip
  obtain⟨n,rfl,rfl⟩:=M
  exact⟨N.bB (by omega) (by simp),n,N.get (i:=0) (by omega) (by simp),xG G W d.2.2 n _ fun X f=>⟨_,_,rfl,hL.aB f,I9 (hL.aB f) (ac7 _ _ _ _) f HK⟩⟩
 ·rcases M with⟨hw,M⟩|⟨hw,M⟩|⟨hw,M⟩|⟨hw,M⟩|⟨hw,M⟩|⟨hw,M⟩|⟨hw,M⟩|⟨hw,M⟩|⟨hw,M⟩|⟨hw,M⟩|⟨hw,M⟩|⟨hw,M⟩
  all_goals first|exact absurd (hw.symm.trans (dF e6)) (by decide)|skip
  subst M
  refine vQ G W d.2.2 _ fun X f=>⟨_,_,_,rfl,hL.aB f,?_⟩
  refine aP fx (fun k=>X.size<=k) (fun _ h=>h) 2 (by omega) [VI _,VI _] rfl rfl fun t Y n2 c2 o2 f2 m2 _=>⟨t,rfl,(hL.aB f).aB f2,?_⟩
  have pb:=UH d.1 d.2.1 d.2.2
  have Vz:bR Y (fun k=>X.size<=k) t [(dU d.1 d.2.1 d.2.2).1,(dU d.1 d.2.1 d.2.2).2.1]:=o2
  refine p8 (r:=([(dU d.1 d.2.1 d.2.2).1,(dU d.1 d.2.1 d.2.2).2.1],(dU d.1 d.2.1 d.2.2).2.2)) ((hL.aB f).aB f2) ⟨fun x hx=> ?_,by simp,fun _=>by simp⟩ Vz.rd (f.aA f2) HK
  simp only[List.mem_cons,List.not_mem_nil,or_false]at hx
  rcases hx with rfl|rfl<;>omega
 ·rcases M with⟨hw,M⟩|⟨hw,M⟩|⟨hw,M⟩|⟨hw,M⟩|⟨hw,M⟩|⟨hw,M⟩|⟨hw,M⟩|⟨hw,M⟩|⟨hw,M⟩|⟨hw,M⟩|⟨hw,M⟩|⟨hw,M⟩
  all_goals first|exact absurd (hw.symm.trans (dF e7)) (by decide)|skip
  obtain⟨n,rfl,rfl⟩:=M
  exact⟨N.bB (by omega) (by simp),n,N.get (i:=0) (by omega) (by simp),sO G n _ fun X f=>⟨_,_,rfl,hL.aB f,I9 (hL.aB f) (ac8 _ _) f HK⟩⟩
 ·rcases M with⟨hw,M⟩|⟨hw,M⟩|⟨hw,M⟩|⟨hw,M⟩|⟨hw,M⟩|⟨hw,M⟩|⟨hw,M⟩|⟨hw,M⟩|⟨hw,M⟩|⟨hw,M⟩|⟨hw,M⟩|⟨hw,M⟩
  all_goals first|exact absurd (hw.symm.trans (dF e8)) (by decide)|skip
  subst M
  exact uJ G W d.2.2 _ fun t X T f=>⟨t,_,rfl,hL.aB f,p8 (hL.aB f) (ac4 _ _ _) T f HK⟩
 ·rcases M with⟨hw,M⟩|⟨hw,M⟩|⟨hw,M⟩|⟨hw,M⟩|⟨hw,M⟩|⟨hw,M⟩|⟨hw,M⟩|⟨hw,M⟩|⟨hw,M⟩|⟨hw,M⟩|⟨hw,M⟩|⟨hw,M⟩
  all_goals first|exact absurd (hw.symm.trans (dF e9)) (by decide)|skip
  obtain⟨p,q,rfl,rfl⟩:=M
  have KA:aR h9 (x5.at 0 1)=some (VI p):=N.get (i:=0) (by omega) (by simp)
  have hc1:aR h9 (x5.at 1 1)=some (VI q):=N.get (i:=1) (by omega) (by simp)
  refine⟨fun bb c8 u v h'=>bb=(rC d.1 d.2.2 p q).2/\u=(rC d.1 d.2.2 p q).1.1/\v=(rC d.1 d.2.2 p q).1.2/\Fr No h9 h',⟨N.bB (by omega) (by simp),p,KA,N.bB (by omega) (by simp),q,hc1,?_,?_⟩,?_⟩
  ·exact mE G d.2.2 p q _ fun X f=>⟨_,_,_,rfl,hL.aB f,fun c9 UI _ f15 _=>⟨rfl,rfl,rfl,f.aA f15.aF⟩⟩
  ·intro c10 Wp aks f16 IL
   have f16:=f16.aF
   have z16:=f16.size
   exact⟨dD hc1 f16 fun h=>h,dD KA f16 fun h=>h,mE (G.no f16) d.2.2 p q _ fun X f=>⟨_,_,_,rfl,IL.aB f,fun h18 f18 _=>⟨rfl,rfl,rfl,(f16.aA f).fresh f18 fun k hk=>by have:=n1 hk;omega⟩⟩⟩
  ·rintro _ c8 _ _ LI ⟨rfl,rfl,rfl,UJ⟩ zt
   have cb:=ada d.1 d.2.2 p q
   refine⟨fun e9=> ?_,fun e9=> ?_⟩
   ·have:=HK LI UJ
    rw[ZW,iQ,if_neg (by rw[bD e9];exact Bool.false_ne_true)]at this
    exact this
   ·have HK:∀h',Fr No h9 h'->K (VS ⟨(Lib.itoa (rC d.1 d.2.2 p q).1.1++47::Lib.itoa (rC d.1 d.2.2 p q).1.2).toArray⟩) h':=fun h' f=>by
     have:=HK h' f
     rw[ZW,iQ,if_pos (aZ e9)]at this
     exact this
    generalize (rC d.1 d.2.2 p q).1.1=u at HK cb zt⊢
    generalize (rC d.1 d.2.2 p q).1.2=v at HK cb zt⊢
    obtain⟨u,rfl⟩:∃m:Nat,u=(m:Int):=⟨u.toNat,by omega⟩
    obtain⟨v,rfl⟩:∃m:Nat,v=(m:Int):=⟨v.toNat,by omega⟩
    have dl1:=(gD 18 u (by omega)).2
    have dl2:=(gD 18 v (by omega)).2
    refine jq u (by omega) _ fun h20 f20=>⟨_,rfl,zt.aB f20,by rw[bZ];show _+1<=_;omega,jq v (by omega) _ fun h21 f21=>⟨_,rfl,(zt.aB f20).aB f21,?_,?_⟩⟩
    ·rw[show(⟨#[47]⟩:ByteArray)=⟨[47].toArray⟩from rfl,eN,bZ,bZ,List.length_append];show _+1+_<=_;omega
    ·rw[show(⟨#[47]⟩:ByteArray)=⟨[47].toArray⟩from rfl,eN,eN]
     have:=HK h21 ((UJ.aA f20).aA f21)
     rw[Lib.itoa_nonneg,Lib.itoa_nonneg]at this
     simpa using this
 ·rcases M with⟨hw,M⟩|⟨hw,M⟩|⟨hw,M⟩|⟨hw,M⟩|⟨hw,M⟩|⟨hw,M⟩|⟨hw,M⟩|⟨hw,M⟩|⟨hw,M⟩|⟨hw,M⟩|⟨hw,M⟩|⟨hw,M⟩
  all_goals first|exact absurd (hw.symm.trans (dF TT)) (by decide)|skip
  obtain⟨n,rfl,rfl⟩:=M
  exact⟨N.bB (by omega) (by simp),n,N.get (i:=0) (by omega) (by simp),vR G n _ fun t X T f=>⟨t,_,rfl,hL.aB f,p8 (hL.aB f) (ac9 _ _) T.rd f HK⟩⟩
 ·rcases M with⟨hw,M⟩|⟨hw,M⟩|⟨hw,M⟩|⟨hw,M⟩|⟨hw,M⟩|⟨hw,M⟩|⟨hw,M⟩|⟨hw,M⟩|⟨hw,M⟩|⟨hw,M⟩|⟨hw,M⟩|⟨hw,M⟩
  all_goals first|exact absurd (hw.symm.trans (dF Vr)) (by decide)|skip
  obtain⟨p,q,r,u,rfl,rfl⟩:=M
  exact⟨N.bB (by omega) (by simp),p,N.get (i:=0) (by omega) (by simp),N.bB (by omega) (by simp),q,N.get (i:=1) (by omega) (by simp),N.bB (by omega) (by simp),r,N.get (i:=2) (by omega) (by simp),N.bB (by omega) (by simp),u,N.get (i:=3) (by omega) (by simp),uN p q r u _ fun X f=>⟨_,_,rfl,hL.aB f,I9 (hL.aB f) (ade _ _ _ _) f HK⟩⟩
 ·rcases M with⟨hw,M⟩|⟨hw,M⟩|⟨hw,M⟩|⟨hw,M⟩|⟨hw,M⟩|⟨hw,M⟩|⟨hw,M⟩|⟨hw,M⟩|⟨hw,M⟩|⟨hw,M⟩|⟨hw,M⟩|⟨hw,M⟩
  all_goals first|exact absurd hw (aV e)|exact absurd hw (aV e2)|exact absurd hw (aV e3)|exact absurd hw (aV e4)|exact absurd hw (aV e5)|exact absurd hw (aV e6)|exact absurd hw (aV e7)|exact absurd hw (aV e8)|exact absurd hw (aV e9)|exact absurd hw (aV TT)|exact absurd hw (aV Vr)|skip
  obtain⟨p,q,rfl,rfl⟩:=M
  exact⟨N.bB (by omega) (by simp),p,N.get (i:=0) (by omega) (by simp),N.bB (by omega) (by simp),q,N.get (i:=1) (by omega) (by simp),sU p q _ fun t X T f=>⟨t,_,rfl,hL.aB f,p8 (hL.aB f) (adb _ _) T f HK⟩⟩
theorem Gz:∀(n:Nat)(ws:List (List UInt8))(acc:List Int),ws.length=n->eQ (List.replicate n 110) ws [] acc=(gF jN ws).map fun ns=>([],acc++ns)
 |0,[],acc,_=>by simp[eQ,gF]
 |n+1,w::ws,acc,h=>by
  rw[List.replicate_succ,eQ,if_pos rfl,gF,PC]
  cases hr:mK w with
  |none=>rfl
  |some m=>
   simp only[Option.map_some]
   rw[Gz n ws _ (by simpa using h)]
   cases gF jN ws with
   |none=>rfl
   |some ns=>simp
 |0,_::_,_,h=>by cases h
 |_+1,[],_,h=>by cases h
theorem PW{α β:Type}{f:α->Option β}{l:List α}{r:List β}(h:gF f l=some r):r.length=l.length:=(mr h).1
theorem aaj{d:Dk}{w:List UInt8}(h:w∈TP)(ns:List Int):(ns.length≠0->bT d w ns=none)/\(ns.length=0->∃a,bT d w ns=some a/\(vT d w [] ns a\/mL d w ns a)):=by
 simp only[TP,List.mem_cons,List.not_mem_nil,or_false]at h
 constructor
 ·intro hn
  match ns,hn with
  |[],hn=>exact absurd rfl hn
  |[n],_=>rcases h with rfl|rfl|rfl|rfl|rfl<;>simp[bT,gN]
  |[p,q],_=>rcases h with rfl|rfl|rfl|rfl|rfl<;>simp[bT,uR]
  |[_,_,_],_=>rfl
  |[p,q,r,s],_=>rcases h with rfl|rfl|rfl|rfl|rfl<;>simp[bT,zB]
  |_::_::_::_::_::_,_=>rfl
 ·intro hn
  obtain rfl:=List.length_eq_zero_iff.1 hn
  rcases h with rfl|rfl|rfl|rfl|rfl
  ·exact⟨stC d,by simp[bT,iP],.inl (.inr (.inr (.inr (.inr (.inl ⟨rfl,rfl⟩)))))⟩
  ·exact⟨some (d,tT d.1),by simp[bT,iP],.inr (.inl ⟨rfl,rfl⟩)⟩
  ·exact⟨some (d,nQ d.2),by simp[bT,iP],.inr (.inr (.inl ⟨rfl,rfl⟩))⟩
  ·exact⟨prC d,by simp[bT,iP],.inr (.inr (.inr (.inr (.inr (.inr (.inl ⟨rfl,rfl⟩))))))⟩
  ·exact⟨cyC d,by simp[bT,iP],.inr (.inr (.inr (.inr (.inr (.inr (.inr (.inr (.inl ⟨rfl,rfl⟩))))))))⟩
theorem aak{d:Dk}{w:List UInt8}(h:w∈TQ)(ns:List Int)(h0:∀n,n∈ns->0<=n):(ns.length≠1->bT d w ns=none)/\(ns.length=1->∃a,bT d w ns=some a/\(vT d w [] ns a\/mL d w ns a)):=by
 simp only[TQ,List.mem_cons,List.not_mem_nil,or_false]at h
 constructor
 ·intro hn
  match ns,hn with
  |[],_=>rcases h with rfl|rfl|rfl|rfl|rfl|rfl|rfl<;>simp[bT,iP]
  |[n],hn=>exact absurd rfl hn
  |[p,q],_=>rcases h with rfl|rfl|rfl|rfl|rfl|rfl|rfl<;>simp[bT,uR]
  |[_,_,_],_=>rfl
  |[p,q,r,s],_=>rcases h with rfl|rfl|rfl|rfl|rfl|rfl|rfl<;>simp[bT,zB]
  |_::_::_::_::_::_,_=>rfl
 ·intro hn
  obtain⟨n,rfl⟩:=List.length_eq_one_iff.1 hn
  have n0:=h0 n (by simp)
  rcases h with rfl|rfl|rfl|rfl|rfl|rfl|rfl
  ·exact⟨TD d n,by simp[bT,gN],.inl (.inr (.inr (.inl ⟨rfl,n,n0,rfl,rfl⟩)))⟩
  ·exact⟨rnC d n,by simp[bT,gN],.inl (.inr (.inr (.inr (.inr (.inr ⟨rfl,n,rfl,rfl⟩)))))⟩
  ·exact⟨psC d n,by simp[bT,gN],.inr (.inr (.inr (.inl ⟨rfl,n,rfl,rfl⟩)))⟩
  ·exact⟨vsC d n,by simp[bT,gN],.inr (.inr (.inr (.inr (.inl ⟨rfl,n,rfl,rfl⟩))))⟩
  ·exact⟨htC d n,by simp[bT,gN],.inr (.inr (.inr (.inr (.inr (.inl ⟨rfl,n,rfl,rfl⟩)))))⟩
  ·exact⟨tsC d n,by simp[bT,gN],.inr (.inr (.inr (.inr (.inr (.inr (.inr (.inl ⟨rfl,n,rfl,rfl⟩)))))))⟩
  ·exact⟨flC d n,by simp[bT,gN],.inr (.inr (.inr (.inr (.inr (.inr (.inr (.inr (.inr (.inr (.inl ⟨rfl,n,rfl,rfl⟩))))))))))⟩
theorem aal{d:Dk}{w:List UInt8}(h:w∈TR)(ns:List Int)(h0:∀n,n∈ns->0<=n):(ns.length≠2->bT d w ns=none)/\(ns.length=2->∃a,bT d w ns=some a/\(vT d w [] ns a\/mL d w ns a)):=by
 simp only[TR,List.mem_cons,List.not_mem_nil,or_false]at h
 constructor
 ·intro hn
  match ns,hn with
  |[],_=>rcases h with rfl|rfl|rfl|rfl<;>simp[bT,iP]
  |[n],hn=>rcases h with rfl|rfl|rfl|rfl<;>simp[bT,gN]
  |[p,q],hn=>exact absurd rfl hn
  |[_,_,_],_=>rfl
  |[p,q,r,s],_=>rcases h with rfl|rfl|rfl|rfl<;>simp[bT,zB]
  |_::_::_::_::_::_,_=>rfl
 ·intro hn
  obtain⟨p,q,rfl⟩:∃p q,ns=[p,q]:=by
   match ns,hn with
   |[p,q],_=>exact⟨p,q,rfl⟩
  have p0:=h0 p (by simp)
  have q0:=h0 q (by simp)
  rcases h with rfl|rfl|rfl|rfl
  ·exact⟨UF d p q,by simp[bT,uR],.inl (.inr (.inl ⟨rfl,p,q,rfl,rfl⟩))⟩
  ·exact⟨PE d p q,by simp[bT,uR],.inl (.inr (.inr (.inr (.inl ⟨rfl,p,q,p0,q0,rfl,rfl⟩))))⟩
  ·exact⟨ZW d p q,by simp[bT,uR],.inr (.inr (.inr (.inr (.inr (.inr (.inr (.inr (.inr (.inl ⟨rfl,p,q,rfl,rfl⟩)))))))))⟩
  ·exact⟨gwC d p q,by simp[bT,uR],.inr (.inr (.inr (.inr (.inr (.inr (.inr (.inr (.inr (.inr (.inr (.inr ⟨rfl,p,q,rfl,rfl⟩)))))))))))⟩
theorem aam{d:Dk}(ns:List Int):(ns.length≠4->bT d zB ns=none)/\(ns.length=4->∃a,bT d zB ns=some a/\(vT d zB [] ns a\/mL d zB ns a)):=by
 constructor
 ·intro hn
  match ns,hn with
  |[],_=>simp[bT,iP,zB]
  |[n],hn=>simp[bT,gN,zB]
  |[p,q],hn=>simp[bT,uR,zB]
  |[_,_,_],_=>rfl
  |[p,q,r,s],hn=>exact absurd rfl hn
  |_::_::_::_::_::_,_=>rfl
 ·intro hn
  obtain⟨p,q,r,s,rfl⟩:∃p q r s,ns=[p,q,r,s]:=by
   match ns,hn with
   |[p,q,r,s],_=>exact⟨p,q,r,s,rfl⟩
  exact⟨esC d p q r s,by simp[bT,zB],.inr (.inr (.inr (.inr (.inr (.inr (.inr (.inr (.inr (.inr (.inr (.inl ⟨rfl,p,q,r,s,rfl,rfl⟩)))))))))))⟩
theorem aan{d:Dk}{w:List UInt8}(hA:w∉TP)(hB:w∉TQ)(hC:w∉TR)(hE:w≠zB)(ns:List Int):bT d w ns=none:=by
 simp only[TP,TQ,TR,List.mem_cons,List.not_mem_nil,or_false,not_or]at hA hB hC
 match ns with
 |[]=>simp[bT,iP,hA]
 |[n]=>simp[bT,gN,hB]
 |[p,q]=>simp[bT,uR,hC]
 |[_,_,_]=>rfl
 |[p,q,r,s]=>simp[bT,hE]
 |_::_::_::_::_::_=>rfl
theorem sW{d:Dk}{w:List UInt8}{vs:List (List UInt8)}{m:Nat}(hs:dM w=List.replicate m 110)(hg:w≠Me)(H:∀ns:List Int,(∀n,n∈ns->0<=n)->(ns.length≠m->bT d w ns=none)/\(ns.length=m->∃a,bT d w ns=some a/\(vT d w [] ns a\/mL d w ns a))):(GK (w::vs)=none->gV d (w::vs)=none)/\∀r,GK (w::vs)=some r->∃a,gV d (w::vs)=some a/\(vT d w r.1 r.2 a\/mL d w r.2 a):=by
 have he:gV d (w::vs)=match gF jN vs with|none=>none|some ns=>bT d w ns:=by
  unfold gV
  rw[if_neg (fun h=>hg h.2)]
  rfl
 have hr:GK (w::vs)=if vs.length=m then(gF jN vs).map fun ns=>([],ns)else none:=by
  unfold GK
  simp only[List.headD_cons,List.length_cons,List.tail_cons,hs,List.length_replicate,Nat.add_right_cancel_iff]
  by_cases hm:vs.length=m
  ·rw[if_pos hm.symm,if_pos hm,Gz m vs [] hm]
   simp
  ·rw[if_neg (fun h=>hm h.symm),if_neg hm]
 rw[he,hr]
 cases ha:gF jN vs with
 |none=>
  refine⟨fun _=>rfl,fun r h=> ?_⟩
  split at h<;>cases h
 |some ns=>
  have hl:=PW ha
  have hn:=H ns fun n hn=>(Gv ha n hn).1
  by_cases hm:vs.length=m
  ·rw[if_pos hm]
   refine⟨fun h=>(by cases h),fun r h=> ?_⟩
   obtain rfl:=(Option.some.inj h).symm
   exact hn.2 (by omega)
  ·rw[if_neg hm]
   exact⟨fun _=>hn.1 (by omega),fun r h=>by cases h⟩
theorem L6(d:Dk){ws:List (List UInt8)}(hw:ws≠[]):(GK ws=none->gV d ws=none)/\∀r,GK ws=some r->∃a,gV d ws=some a/\(vT d (ws.headD []) r.1 r.2 a\/mL d (ws.headD []) r.2 a):=by
 obtain⟨w,vs,rfl⟩:∃w vs,ws=w::vs:=by
  cases ws with
  |nil=>exact absurd rfl hw
  |cons a l=>exact⟨a,l,rfl⟩
 rw[List.headD_cons]
 by_cases hA:w∈TP
 ·exact sW (m:=0) (by unfold dM;rw[if_pos hA];rfl) (fun h=>by rw[h]at hA;revert hA;decide) fun ns _=>aaj hA ns
 by_cases hB:w∈TQ
 ·exact sW (m:=1) (by unfold dM;rw[if_neg hA,if_pos hB];rfl) (fun h=>by rw[h]at hB;revert hB;decide) fun ns h=>aak hB ns h
 by_cases hC:w∈TR
 ·exact sW (m:=2) (by unfold dM;rw[if_neg hA,if_neg hB,if_pos hC];rfl) (fun h=>by rw[h]at hC;revert hC;decide) fun ns h=>aal hC ns h
 by_cases hE:w=zB
 ·subst hE
  exact sW (m:=4) (by decide) (by decide) fun ns _=>aam ns
 have hN:=aan (d:=d) hA hB hC hE
 by_cases hG:w=Me
 ·subst hG
  have hs:dM Me=[103]:=by decide
  match vs with
  |[]=>
   refine⟨fun _=> ?_,fun r h=> ?_⟩
   ·unfold gV
    rw[if_neg (fun h=>by simp at h)]
    exact hN []
   ·unfold GK at h;rw[List.headD_cons,hs]at h;cases h
  |[v]=>
   have he:gV d [Me,v]=ZX v:=by unfold gV;rw[if_pos ⟨rfl,rfl⟩];rfl
   have hr:GK [Me,v]=match oW v with|none=>none|some g'=>some (g',[]):=by
    unfold GK
    rw[List.headD_cons,hs,if_pos (show([103]:List UInt8).length+1=[Me,v].length from rfl)]
    show eQ [103] [v] [] []=_
    rw[eQ,if_neg (by decide),if_pos rfl]
    cases oW v<;>rfl
   rw[he,hr]
   unfold ZX
   cases hp:oW v with
   |none=>exact⟨fun _=>rfl,fun r h=>by cases h⟩
   |some g=>
    refine⟨fun h=>(by cases h),fun r h=> ?_⟩
    obtain rfl:=(Option.some.inj h).symm
    exact⟨_,rfl,.inl (.inl ⟨rfl,(wy hp).1,rfl⟩)⟩
  |a::b::vs=>
   refine⟨fun _=> ?_,fun r h=> ?_⟩
   ·unfold gV
    rw[if_neg (fun h=>by simp at h)]
    show(match gF jN (a::b::vs)with|none=>none|some ns=>bT d Me ns)=none
    split
    ·rfl
    ·exact hN _
   ·unfold GK at h;rw[List.headD_cons,hs,if_neg (by simp)]at h;cases h
 have hs:dM w=[63]:=by unfold dM;rw[if_neg hA,if_neg hB,if_neg hC,if_neg hE,if_neg hG]
 refine⟨fun _=> ?_,fun r h=> ?_⟩
 ·unfold gV
  rw[if_neg (fun h=>hG h.2)]
  show(match gF jN vs with|none=>none|some ns=>bT d w ns)=none
  split
  ·rfl
  ·exact hN _
 ·unfold GK at h
  rw[List.headD_cons,hs]at h
  split at h
  ·rename_i hl
   match vs,hl with
   |[v],_=>rw[List.tail_cons,eQ,if_neg (by decide),if_neg (by decide)]at h;cases h
  ·cases h
set_option maxHeartbeats 2000000 in
theorem PX{h:Heap}{g w:Sl}{d:Dk}{S S':Nat->Prop}(G:bU S h g d.1)(W:aQ S' h w d.2.1)(ok:nW d){s:ByteArray}(hs:s.size<=3000)(K:Value->Heap->Prop)(HK:∀(g' w':Sl)(T T':Nat->Prop) h',bU T h' g' (fZ d s.data.toList).1.1->aQ T' h' w' (fZ d s.data.toList).1.2.1->(∀k,T k\/T' k->(S k\/S' k\/h.size<=k)/\k<h'.size)->Fr No h h'->K (.tuple #[.agg #[g'.v,w'.v,VI (fZ d s.data.toList).1.2.2],VS ⟨(fZ d s.data.toList).2.toArray⟩]) h'):aE Tryz.prog 47 #[.agg #[g.v,w.v,VI d.2.2],VS s] h K:=by
 refine v47 g w d.2.2 s h K fun b1 b2 h2 eD dK f2 bW=> ?_
 have f2:=f2.aF
 have z2:=f2.size
 have Ag:b2<h2.size:=bW.head.lt
 have n1:∀{b k:Nat},In [b] k->k=b:=fun hk=>by simpa[In]using hk
 have rN:∀{X:Heap},h.size<=X.size->∀k,(S k/\k<h.size)\/(S' k/\k<h.size)->(S k\/S' k\/h.size<=k)/\k<X.size:=fun hz k hk=>by
  rcases hk with hk|hk
  ·exact⟨.inl hk.1,by omega⟩
  ·exact⟨.inr (.inl hk.1),by omega⟩
 obtain⟨x0,hx⟩:=L6 d (xY 32 s.data.toList)
 refine PV g w d.2.2 hs _ (fun e w1 x1 x2 x3 x4 x5 h3 f3=> ?_) fun r e w1 x4 x5 S4 S5 h3 hw G4 N5 h45 f3=> ?_
 ·refine⟨w1,x1,x2,x3,x4,x5,false,rfl,bW.aB f3,fun _=>fun b3 h6 iR f6 _=> ?_,fun e=>by cases e⟩
  have el:fZ d s.data.toList=(d,[119,104,97,116]):=by unfold fZ;rw[x0 e];rfl
  rw[el]at HK
  have f:=(f2.aA f3).aB.trans f6
  exact HK g w _ _ h6 (G.xd.fr f fun k hk aI=>by have:=n1 aI;have:=hk.2;omega) (aQ.fr (cM.lt W) f fun k hk aI=>by have:=n1 aI;have:=hk.2;omega) (rN f.size) ((f2.aA f3).fresh f6 fun k hk=>by have:=n1 hk;omega)
 ·obtain⟨a,ea,hM⟩:=hx r e
  have el:fZ d s.data.toList=qm d a:=by unfold fZ;rw[ea];rfl
  rw[el]at HK
  rw[<-hw]at hM
  refine⟨w1,g,w,d.2.2,x4,x5,true,rfl,bW.aB f3,fun e=>(by cases e),fun _=>fun b3 h5 iR f5 gh=> ?_⟩
  have f5:=f5.aF
  have pR:=(f2.aA f3).aA f5
  have z3:=f3.size
  have z5:=f5.size
  have wMA:(∃x,x=true/\vT d w1.data.toList r.1 r.2 a)\/(∃x,x=false/\mL d w1.data.toList r.2 a):=hM.elim (fun h=> .inl ⟨_,rfl,h⟩) fun h=> .inr ⟨_,rfl,h⟩
  refine⟨fun x h'=>h5=h'/\(x=true->vT d w1.data.toList r.1 r.2 a)/\(x=false->mL d w1.data.toList r.2 a),?_,?_⟩
  ·simp only[Kz]
   have pos:∀{l:List UInt8},l∈[[103,114,97,112,104],[97,100,100],[97,116],[116,117,114,110],[115,116,101,112],[114,117,110]]->w1.data.toList=l->vT d w1.data.toList r.1 r.2 a:=fun{l} hl e=>hM.elim id fun A=>by
    exfalso
    unfold mL at A
    rw[e]at A
    simp only[List.mem_cons,List.not_mem_nil,or_false]at hl
    rcases hl with rfl|rfl|rfl|rfl|rfl|rfl<;>revert A<;>simp[zB]
   have bt:∀{l:List UInt8},l∈[[103,114,97,112,104],[97,100,100],[97,116],[116,117,114,110],[115,116,101,112],[114,117,110]]->decide (w1.data.toList=l)=true->True/\(decide (w1.data.toList=l)=true->vT d w1.data.toList r.1 r.2 a)/\(decide (w1.data.toList=l)=false->mL d w1.data.toList r.2 a):=fun{l} hl e=>⟨trivial,fun _=>pos hl (of_decide_eq_true e),fun e2=>by rw[e]at e2;cases e2⟩
   refine⟨fun e=>bt (by simp) e,fun e=>⟨fun e2=>bt (by simp) e2,fun e2=>⟨fun e3=>bt (by simp) e3,fun e3=>⟨fun e4=>bt (by simp) e4,fun e4=>⟨fun e5=>bt (by simp) e5,fun e5=>⟨trivial,fun e6=>pos (by simp) (of_decide_eq_true e6),fun e6=>hM.elim (fun M=> ?_) id⟩⟩⟩⟩⟩⟩
   exfalso
   simp only[decide_eq_false_iff_not]at e e2 e3 e4 e5 e6
   rcases M with⟨hw,_⟩|⟨hw,_⟩|⟨hw,_⟩|⟨hw,_⟩|⟨hw,_⟩|⟨hw,_⟩
   ·exact e hw
   ·exact e2 hw
   ·exact e3 hw
   ·exact e4 hw
   ·exact e5 hw
   ·exact e6 hw
  rintro x _ ⟨rfl,q1,q2⟩ jv
  have Vw:b3<h5.size:=jv.head.lt
  have V7:Vars h5 [(b3,[g.v,w.v,VI d.2.2,x4.v,x5.v])]:= .cons jv.head (by simp) .nil
  refine⟨fun e1=> ?_,fun e1=> ?_⟩
  ·have D:Gy (fun k=>k=b3\/k=b2\/(k<h.size/\¬S k/\¬S' k)) h5 g w d:=Gy.of (G.xd.no pR) (aQ.no (cM.lt W) pR) fun k hk _ hz=>by
    rcases hz with rfl|rfl|hz
    ·rcases hk with hk|hk<;>(have:=hk.2;omega)
    ·rcases hk with hk|hk<;>(have:=hk.2;omega)
    ·rcases hk with hk|hk
     ·exact hz.2.1 hk.1
     ·exact hz.2.2 hk.1
   refine TS (Z:=fun k=>k=b3\/k=b2\/(k<h.size/\¬S k/\¬S' k)) (fun k hk=>by rcases hk with rfl|rfl|hk<;>omega) (.inl rfl) V7 D ok (G4.xd.no f5) (aQ.no (cM.lt N5) f5) (fun k hk hz=> ?_) (q1 e1) _ fun y1 y2 y4 y5 h8 D8 V8 f8=> ?_
   ·have hk:h2.size<=k/\k<h3.size:=by
     rcases hk with hk|hk
     ·exact⟨h45 k (.inl hk.1),hk.2⟩
     ·exact⟨h45 k (.inr hk.1),hk.2⟩
    rcases hz with rfl|rfl|hz<;>omega
   have f8b:Fr (fun k=>k=b3) h5 h8:=f8.mono fun k hk h2=>by rcases h2 with h2|h2;exact h2;omega
   refine⟨y1,y2,_,y4,y5,_,rfl,jv.set (i:=0) rfl f8b V8.head,fun h9 f9 _=> ?_⟩
   obtain⟨T,T',A,B,q⟩:=D8.fr f9 fun k hk=> .inl (.inr (.inl (n1 hk)))
   exact HK y1 y2 _ _ h9 A B (fun k hk=>⟨by
    have:=(q k hk).1
    by_cases h1:S k
    ·exact .inl h1
    by_cases h2:S' k
    ·exact .inr (.inl h2)
    ·exact .inr (.inr (by
      rcases Nat.lt_or_ge k h.size with h3|h3
      ·exact absurd (.inr (.inr ⟨h3,h1,h2⟩)) this
      ·exact h3)),(q k hk).2⟩) ((pR.fresh f8 fun k hk=>by rcases hk with rfl|hk<;>omega).fresh f9 fun k hk=>by have:=n1 hk;omega)
  ·have A:=q2 e1
   have er:=TU A
   refine TV V7 (G.no pR) (aQ.no W pR) ok (aQ.no N5 f5) A _ fun dV f10=>⟨g,w,d.2.2,x4,x5,_,rfl,jv.aB f10,fun hH f11 _=> ?_⟩
   have f:=(pR.aA f10).aB.trans f11
   have:=HK g w _ _ hH (by rw[er];exact G.xd.fr f fun k hk aI=>by have:=n1 aI;have:=hk.2;omega) (by rw[er];exact aQ.fr (cM.lt W) f fun k hk aI=>by have:=n1 aI;have:=hk.2;omega) (rN f.size) ((pR.aA f10).fresh f11 fun k hk=>by have:=n1 hk;omega)
   rw[er]at this
   exact this
set_option maxHeartbeats 2000000 in
theorem TW{h:Heap}(s:ByteArray)(K:Value->Heap->Prop)
 (HN:cZ s.data.toList=none->∀h',Fr No h h'->K (.tuple #[.agg #[aC.v,aC.v,VI 0],aC.v,VB false]) h')
 (HS:∀r,cZ s.data.toList=some r->∀(g w t:Sl)(T T' T2:Nat->Prop) h',bU T h' g r.1.1->aQ T' h' w r.1.2.1->cM T2 h' 1 t ((r.2.map nY).map VS)->(∀k,T k\/T' k\/T2 k->k<h'.size)->Fr No h h'->K (.tuple #[.agg #[g.v,w.v,VI r.1.2.2],t.v,VB true]) h'):aE Tryz.prog 68 #[VS s] h K:=by
 have qv:=jU s
 have n1:∀{b k:Nat},In [b] k->k=b:=fun hk=>by simpa[In]using hk
 refine v68 s h K ⟨fun e=>fun b1 h2 eD f2 _=> ?_,fun e=>fun b1 h1 eD f1 bY=> ?_⟩
 ·refine HN ?_ _ f2.aF
  simp only[decide_eq_true_eq]at e
  unfold cZ
  rw[if_neg (fun h=>by have:=h.1;omega)]
 simp only[decide_eq_false_iff_not]at e
 have f1:=f1.aF
 have z1:=f1.size
 have lb1:b1<h1.size:=bY.head.lt
 refine BK 10 (by omega) _ fun t ps h3 mn T3 f3=>⟨t,rfl,bY.aB f3,?_⟩
 have z3:=f3.size
 have gq:=f1.aA f3
 have T3:=T3.eQ.lt
 have hpl:ps.length=(gr 10 s.data.toList).length:=by rw[<-mn,List.length_map]
 have hp2:ps.length<=10000:=by have:=oT 10 s.data.toList;omega
 have Np:1<=ps.length:=by
  have:=List.length_pos_iff.2 (xY 10 s.data.toList)
  omega
 have tn:=T3.len
 rw[List.length_map,Nat.mul_one]at tn
 have e3:aL ((t.n:Int)-1)=((ps.length-1:Nat):Int):=by rw[aG]<;>omega
 rw[e3]
 have pd:(gr 10 s.data.toList).getLast?=some (ps[ps.length-1]'(by omega)).data.toList:=by
  rw[<-mn,List.getLast?_eq_getElem?,List.length_map,List.getElem?_map,List.getElem?_eq_getElem (by omega)]
  rfl
 refine⟨cM.bB T3 (by omega) (by simp;omega),ps[ps.length-1]'(by omega),?_,fun e4=>fun UI f15 _=> ?_,fun e4=>⟨fun e5=>fun h8 f8 _=> ?_,fun e5=> ?_⟩⟩
 ·have:=T3.get (i:=((ps.length-1:Nat):Int)) (by omega) (by simp;omega)
  simpa using this
 ·refine HN ?_ _ (gq.fresh f15 fun k hk=>by have:=n1 hk;omega)
  have e4:=aV (l:=[]) (bD e4)
  unfold cZ
  rw[pd,if_neg (fun h=>e4 (Option.some.inj h.2.1))]
 ·refine HN ?_ _ (gq.fresh f8 fun k hk=>by have:=n1 hk;omega)
  simp only[decide_eq_true_eq]at e5
  unfold cZ
  rw[if_neg (fun h=>by have:=h.2.2;omega)]
 have e4:=dF (l:=[]) (aZ e4)
 simp only[decide_eq_false_iff_not]at e5
 have hP:cZ s.data.toList=some (gJ jZ ((ps.take (ps.length-1)).map (·.data.toList))):=by
  unfold cZ
  rw[if_pos ⟨by omega,by rw[pd,e4],by omega⟩,List.dropLast_eq_take,<-mn,List.length_map,List.map_take]
 obtain⟨ls,TN⟩:∃ls,ls=ps.take (ps.length-1):=⟨_,rfl⟩
 rw[<-TN]at hP
 have ll:ls.length=ps.length-1:=by rw[TN,List.length_take];omega
 have tc:t.n<=t.c:=T3.cap
 refine vH _ _ fun v h5 D=> ?_
 obtain⟨g,w,m,rfl,G5,W5,f5⟩:=D
 refine⟨g,w,0,rfl,(bY.aB f3).aB f5,?_⟩
 have z5:=f5.size
 refine pK Mc .i64 (m:=((ps.length-1:Nat):Int)) (by omega) (by omega) ⟨_,rfl,fun b2 h7 dK f7 jv=> ?_⟩
 have f7:=f7.aF
 have z7:=f7.size
 have Ag:b2<h7.size:=jv.head.lt
 have L8:=(gq.aA f5).aA f7
 have T8:cM (fun k=>h1.size<=k/\k<h3.size) h7 1 (t.cut 1 0 (ps.length-1) t.c) (ls.map VS):=by
  have:=cM.cut ((T3.no f5).no f7) (l:=0) (m:=ps.length-1) (by omega) (by omega)
  rw[TN,List.map_take]
  simpa using this
 rw[show((ps.length-1:Nat):Int).toNat=ps.length-1 by omega]
 generalize t.cut 1 0 (ps.length-1) t.c=t8 at T8
 have tn8:=T8.len
 rw[List.length_map,Nat.mul_one]at tn8
 have hq:∀q,q∈ls->q.size<=3000:=fun q hq=>by
  have h1:q∈ps:=by rw[TN]at hq;exact List.mem_of_mem_take hq
  have h1:q.data.toList∈gr 10 s.data.toList:=by rw[<-mn];exact List.mem_map_of_mem h1
  have h2:=wD h1
  have h3:q.data.toList.length=q.size:=Array.length_toList
  omega
 obtain⟨R,hR⟩:∃R,R=gJ jZ (ls.map (·.data.toList)):=⟨_,rfl⟩
 rw[<-hR]at hP
 have fin:∀{h':Heap},Fr (fun k=>k=b2\/h7.size<=k) h7 h'->Fr No h h':=fun f=>L8.fresh f fun k hk=>by rcases hk with rfl|hk<;>omega
 refine⟨fun n o i x1 x2 x3 h'=>∃d rs,0<=i/\i+n=(ls.length:Int)/\nW d/\d.2.2=x3/\(∃T T' Q,bU T h' x1 d.1/\aQ T' h' x2 d.2.1/\vK h' Q o (rs.map nY)/\(∀k,Q k->h7.size<=k/\k<h'.size/\¬T k/\¬T' k)/\(∀k,T k\/T' k->k<h'.size/\k≠b2/\k≠b1))/\rs.length=i.toNat/\R.1=(gJ d ((ls.drop i.toNat).map (·.data.toList))).1/\R.2=rs++(gJ d ((ls.drop i.toNat).map (·.data.toList))).2/\Fr (fun k=>k=b2\/h7.size<=k) h7 h',⟨ls.length,jZ,[],by omega,by omega,uV,rfl,⟨_,_,No,(G5.rd.no f7),aQ.no (Ow.eQ W5).lt f7,Ow.nil _ _ _ _,fun k hk=>hk.elim,fun k hk=> ?_⟩,rfl,by rw[hR];rfl,by rw[hR];rfl,Fr.refl _ _⟩,?_⟩
 ·rcases hk with hk|hk
  ·have:=hk.1;have:=hk.2;omega
  ·have:=hk.1;have:=hk.2;omega
 rintro n o9 i x1 x2 _ h9 ⟨d,rs,i0,i1,okd,rfl,⟨T,T',Q,G,W,O,w1,w2⟩,rl,q1,q2,f79⟩ fP
 have z9:=f79.size
 have T9:=T8.fr f79 fun k hk aI=>by rcases aI with rfl|aI<;>omega
 refine⟨fun e6=> ?_,fun e6=>fun LG f14 _=> ?_⟩
 ·simp only[decide_eq_true_eq]at e6
  have il:i.toNat<ls.length:=by omega
  have hc:=T9.get (i:=i) i0 (by simp;omega)
  rw[List.getElem_map]at hc
  refine⟨cM.bB T9 i0 (by simp;omega),_,hc,?_⟩
  have PQ:(ls.drop i.toNat).map (·.data.toList)=ls[i.toNat].data.toList::(ls.drop (i.toNat+1)).map (·.data.toList):=by
   rw[List.drop_eq_getElem_cons il];rfl
  rw[PQ,gJ]at q1 q2
  simp only at q1 q2
  have G0:=G.xd
  have W0:=cM.lt W
  refine PX G W okd (hq _ (List.getElem_mem il)) _ fun g10 w10 A A' dV GJ Mg wA f10=>⟨g10,w10,_,_,rfl,fP.aB f10,fun b3 gK iR f12 tX=> ?_⟩
  have PR:=zE okd ls[i.toNat].data.toList
  generalize fZ d ls[i.toNat].data.toList=r at GJ Mg q1 q2 tX PR⊢
  have zV:=f10.size
  have z12:=f12.size
  have q3:∀k,A k\/A' k->k<dV.size/\¬Q k/\k≠b2/\k≠b1:=fun k hk=>by
   obtain⟨h1,h2⟩:=wA k hk
   refine⟨h2,fun hQ=> ?_,?_⟩
   ·rcases h1 with h1|h1|h1
    ·exact(w1 k hQ).2.2.1 h1
    ·exact(w1 k hQ).2.2.2 h1
    ·have:=(w1 k hQ).2.1;omega
   ·rcases h1 with h1|h1|h1
    ·exact(w2 k (.inl h1)).2
    ·exact(w2 k (.inr h1)).2
    ·omega
  have G12:=GJ.fr f12 fun k hk aI=>(q3 k (.inl hk)).2.2.1 (n1 aI)
  have W12:=aQ.fr Mg f12 fun k hk aI=>(q3 k (.inr hk)).2.2.1 (n1 aI)
  have O12:vK gK (fun k=>Q k\/(gK.size<=k)) o9 (rs.map nY):=Ow.mono (Ow.fr (Ow.no O f10) f12 fun k hk aI=>by have:=(w1 k (O.aH hk).1).1;have:=n1 aI;omega) fun k _ hk=> .inl hk
  have Vw:b3<gK.size:=tX.head.lt
  refine mq (x:=nY r.2) O12 (fun k hk=> .inr hk) tX (fun p hp hk=> ?_) (by rw[List.length_map];omega) _ fun t14 LG O14 f14 LH=> ?_
  ·simp only[List.mem_cons,List.not_mem_nil,or_false]at hp
   rcases hk with hk|hk
   ·have:=(w1 _ hk)
    rcases hp with rfl|rfl|rfl<;>(simp only at this;omega)
   ·rcases hp with rfl|rfl|rfl<;>(simp only at hk;omega)
  have z14:=f14.size
  have eI:aL (i+1)=i+1:=by rw[aG]<;>omega
  rw[eI]
  have eT:(i+1).toNat=i.toNat+1:=by omega
  refine⟨n-1,by omega,r.1,rs++[r.2],by omega,by omega,PR,rfl,⟨A,A',fun k=>(Q k\/gK.size<=k)/\k<LG.size,G12.fr f14 fun k hk aI=> ?_,aQ.fr W12 f14 fun k hk aI=> ?_,Ow.mono (show vK LG (fun k=>Q k\/(gK.size<=k)) t14 ((rs++[r.2]).map nY) by rw[List.map_append];exact O14) fun k hk hF=>⟨hF,(O14.aH hk).2⟩,fun k hk=> ?_,fun k hk=> ?_⟩,by rw[eT,List.length_append,rl];rfl,by rw[eT];exact q1,by rw[eT,List.append_assoc];exact q2,?_⟩
  ·have:=q3 k (.inl hk)
   rcases aI with h|h
   ·exact this.2.1 h
   ·omega
  ·have:=q3 k (.inr hk)
   rcases aI with h|h
   ·exact this.2.1 h
   ·omega
  ·obtain⟨h1,h2⟩:=hk
   refine⟨?_,h2,fun ha=> ?_,fun ha=> ?_⟩
   ·rcases h1 with h1|h1
    ·exact(w1 k h1).1
    ·omega
   ·have:=q3 k (.inl ha)
    rcases h1 with h|h
    ·exact this.2.1 h
    ·omega
   ·have:=q3 k (.inr ha)
    rcases h1 with h|h
    ·exact this.2.1 h
    ·omega
  ·have:=q3 k hk
   exact⟨by omega,this.2.2⟩
  ·refine((f79.trans f10.aB).trans (f12.mono fun k _ hk=> .inl (n1 hk))).trans (f14.mono fun k _ hk=> ?_)
   rcases hk with hk|hk
   ·exact .inr (w1 k hk).1
   ·exact .inr (by omega)
 ·simp only[decide_eq_false_iff_not]at e6
  have e7:ls.length<=i.toNat:=by omega
  rw[List.drop_eq_nil_of_le e7]at q1 q2
  have q1:R.1=d:=q1
  have q2:R.2=rs:=by rw[q2];exact List.append_nil rs
  have:=HS _ hP x1 x2 o9 T T' Q LG (by rw[q1];exact G.fr f14 fun k hk aI=>(w2 k (.inl hk)).2.2 (n1 aI)) (by rw[q1];exact aQ.fr W f14 fun k hk aI=>(w2 k (.inr hk)).2.2 (n1 aI)) (by rw[q2];exact(Ow.eQ O).fr f14 fun k hk aI=>by have:=(w1 k hk).1;have:=n1 aI;omega) (fun k hk=>by
   have:=f14.size
   rcases hk with hk|hk|hk
   ·have:=(w2 k (.inl hk)).1;omega
   ·have:=(w2 k (.inr hk)).1;omega
   ·have:=(w1 k hk).2.1;omega) ((fin f79).fresh f14 fun k hk=>by have:=n1 hk;omega)
  rw[q1]at this
  exact this
theorem uY{h:Heap}(s:ByteArray)(K:Value->Heap->Prop)
 (HK:∀(t:Sl)(T:Nat->Prop) h',cM T h' 1 t ((((cZ s.data.toList).elim [] fun r=>r.2).map nY).map VS)->(∀k,T k->k<h'.size)->Fr No h h'->K (.tuple #[t.v,VB (cZ s.data.toList).isSome]) h'):aE Tryz.prog 26 #[VS s] h K:=by
 refine v26 s h K (TW s _ (fun e h1 f1=> ?_) fun r e g w t T T' T2 h1 G W O q f1=> ?_)
 ·refine⟨aC,aC,0,aC,false,rfl,.nil,fun b1 h3 eD f3 _=> ?_⟩
  rw[e]at HK
  exact HK aC No _ (cM.nil _ _ _) (fun k hk=>hk.elim) (f1.aA f3.aF)
 ·refine⟨g,w,r.1.2.2,t,true,rfl,.nil,fun b1 h3 eD f3 cF=> ?_⟩
  have f3:=f3.aF
  rw[e]at HK
  exact HK t T2 _ (O.no f3) (fun k hk=>Nat.lt_of_lt_of_le (q k (.inr (.inr hk))) f3.size) (f1.aA f3)
def UK:Nat->Int->ByteArray->ByteArray
 |0,_,out=>out
 |n+1,k,out=>if 0<k then UK n (k.tdiv 10) (strOfNums [IntKind.u8.wrap (aL (48+k.tmod 10))]++out)else out
def mkt(k:Int):ByteArray:=if k<=0 then⟨#[109,48]⟩else⟨#[109]⟩++UK k.toNat k ⟨#[]⟩
def PY(k:Int)(n:Nat):List ByteArray:=(List.range n).map fun i:Nat=>mkt (k+i)
theorem zH{h:Heap}(k:Int)(hk:k<=1000000)(K:Value->Heap->Prop)(HK:∀h',Fr No h h'->K (VS (mkt k)) h'):aE Tryz.prog 70 #[VI k] h K:=by
 refine v70 k h K ⟨fun e=> ?_,fun e=> ?_⟩
 ·simp only[decide_eq_true_eq]at e
  have:=HK h (Fr.refl _ _)
  unfold mkt at this
  rw[if_pos e]at this
  exact this
 simp only[decide_eq_false_iff_not]at e
 have HK:∀h',Fr No h h'->K (VS (⟨#[109]⟩++UK k.toNat k ⟨#[]⟩)) h':=fun h' f=>by
  have:=HK h' f
  unfold mkt at this
  rw[if_neg e]at this
  exact this
 refine⟨fun n x out h'=>0<=x/\x<=(n:Int)/\(out.size:Int)+x<=k/\UK k.toNat k ⟨#[]⟩=UK n x out/\Fr No h h',⟨k.toNat,by omega,by omega,by show(0:Int)+k<=k;omega,rfl,Fr.refl _ _⟩,?_⟩
 rintro n x out h1 ⟨x0,x1,so,hx,f1⟩ _
 refine⟨fun e2=> ?_,fun e2=> ?_⟩
 ·simp only[decide_eq_true_eq]at e2
  obtain⟨m,rfl⟩:∃m,n=m+1:=⟨n-1,by omega⟩
  rw[UK,if_pos e2]at hx
  refine jI (show Tryz.prog.underlying _=some (.int .i64)from by kernel_rfl) (show Tryz.prog.underlying _=some (.int .u8)from by kernel_rfl) _ ⟨_,rfl,?_⟩
  refine aP RA (fun k=>h1.size<=k) (fun _ h=>h) 1 (by omega) [.int .u8 _] rfl rfl fun w h2 n2 c2 o2 f2 m2 _=>⟨w,rfl,.nil,?_⟩
  refine oS (bs:=(strOfNums [IntKind.u8.wrap (aL (48+x.tmod 10))]).data.toList) o2.eQ rfl ⟨_,rfl,?_⟩
  have s1:(⟨((strOfNums [IntKind.u8.wrap (aL (48+x.tmod 10))]).data.toList).toArray⟩:ByteArray)=strOfNums [IntKind.u8.wrap (aL (48+x.tmod 10))]:=rfl
  rw[s1]
  have s2:=strOfNums_size [IntKind.u8.wrap (aL (48+x.tmod 10))]
  rw[List.length_singleton]at s2
  have d1:x.tdiv 10=x/10:=Int.tdiv_eq_ediv_of_nonneg x0
  refine⟨by rw[s2];omega,m,by omega,?_⟩
  have TT:aL (x.tdiv 10)=x.tdiv 10:=by rw[aG]<;>omega
  rw[TT]
  refine⟨by omega,by omega,?_,hx,f1.aA f2⟩
  rw[ByteArray.size_append,s2]
  omega
 ·simp only[decide_eq_false_iff_not]at e2
  have:UK n x out=out:=by
   cases n with
   |zero=>rfl
   |succ n=>rw[UK,if_neg e2]
  rw[this]at hx
  have:=HK h1 f1
  rw[hx]at this
  refine⟨by show(1:Nat)+_<=_;omega,this⟩
theorem vB{S S':Nat->Prop}{h:Heap}{a b:Sl}{xs:List ByteArray}(H:cM S h 1 a (xs.map VS))(H':cM S' h 1 b (xs.map VS)):vf Tryz.prog 31 #[a.v,b.v] h (VB true):=by
 intro K HK
 have an:=H.len
 have bn:=H'.len
 rw[List.length_map,Nat.mul_one]at an bn
 have ab:=H.Jk
 refine v31 a b h K ⟨fun e=> ?_,fun e=> ?_⟩
 ·simp only[Bool.not_eq_true',decide_eq_false_iff_not]at e;omega
 refine⟨fun n i h'=>h=h'/\0<=i/\i+n=(xs.length:Int),⟨xs.length,rfl,by omega,by omega⟩,?_⟩
 rintro n i _ ⟨rfl,i0,i1⟩ _
 refine⟨fun e=> ?_,fun e=>HK h (Fr.refl _ _)⟩
 simp only[decide_eq_true_eq]at e
 have c1:=H.get (i:=i) i0 (by simp;omega)
 have c2:=H'.get (i:=i) i0 (by simp;omega)
 rw[List.getElem_map]at c1 c2
 have eI:aL (i+1)=i+1:=by have:=l8 ab;rw[aG]<;>omega
 refine⟨cM.bB H i0 (by simp;omega),_,c1,cM.bB H' i0 (by simp;omega),_,c2,fun e2=> ?_,fun e2=> ?_⟩
 ·rw[ny,decide_eq_true rfl]at e2;cases e2
 ·rw[eI]
  exact⟨n-1,by omega,rfl,by omega,by omega⟩
theorem Ah{F:Nat->Prop}{h:Heap}{s:Sl}{xs:List ByteArray}(H:vK h F s xs)(hn:xs.length<=1000)(K:Value->Heap->Prop)(HK:∀h',vK h' F s (PY 1 xs.length)->Fr s.own h h'->K (VI (1+xs.length)) h'):aE Tryz.prog 32 #[s.v,VI 1] h K:=by
 have hl:s.n=xs.length:=by have:=H.len;simp at this;omega
 refine v32 s 1 h K ⟨fun n k i h'=>0<=i/\i+n=(xs.length:Int)/\k=1+i/\vK h' F s ((PY 1 xs.length).take i.toNat++xs.drop i.toNat)/\Fr s.own h h',⟨xs.length,by omega,by omega,by omega,by simpa using H,Fr.refl _ _⟩,?_⟩
 rintro n k i h1 ⟨i0,i1,rfl,H',f⟩ _
 have ml:(PY 1 xs.length).length=xs.length:=by simp[PY]
 refine⟨fun e=> ?_,fun e=> ?_⟩
 ·simp only[decide_eq_true_eq]at e
  have il:i.toNat<xs.length:=by omega
  refine zH _ (by omega) _ fun h2 f2=>⟨_,rfl,.nil,?_⟩
  have H2:=Ow.no H' f2
  obtain⟨w1,w2,w3⟩:=H2.eX i0 e (VS (mkt (1+i)))
  refine⟨H2.bB i0 e,w1,.nil,fun h3 e3 _=> ?_⟩
  rw[aG (i+1) (by omega) (by omega),aG (1+i+1) (by omega) (by omega)]
  refine⟨n-1,by omega,by omega,by omega,by omega,?_,?_⟩
  ·subst e3
   have e4:mkt (1+i)=(PY 1 xs.length)[i.toNat]'(by omega):=by simp[PY];congr 1;omega
   rw[e4]at w2⊢
   rw[<-List.map_set,Jl _ _ _ _ (by omega)]at w2
   rw[show(i+1).toNat=i.toNat+1 by omega]
   exact w2
  ·subst e3;exact(f.trans f2.aB).trans w3
 ·simp only[decide_eq_false_iff_not]at e
  have e4:i=xs.length:=by omega
  subst e4
  have:=HK h1 (by
   rw[Int.toNat_natCast,List.take_of_length_le (by omega),List.drop_length,List.append_nil]at H'
   exact H') f
  exact this
theorem qA{S:Nat->Prop}{h:Heap}{s:Sl}{m:Nat}(H:cM S h 1 s ((PY 1 m).map VS))(hn:m<=1000)(K:Value->Heap->Prop)(HK:∀h',Fr No h h'->K (VI (1+m)) h'):aE Tryz.prog 33 #[s.v,VI 1] h K:=by
 have ml:(PY 1 m).length=m:=by simp[PY]
 have hl:s.n=m:=by have:=H.len;rw[List.length_map,ml,Nat.mul_one]at this;omega
 refine v33 s 1 h K ⟨fun n k i h'=>0<=i/\i+n=(m:Int)/\k=1+i/\Fr No h h',⟨m,by omega,by omega,by omega,Fr.refl _ _⟩,?_⟩
 rintro n k i h1 ⟨i0,i1,rfl,f⟩ _
 refine⟨fun e=> ?_,fun e=> ?_⟩
 ·simp only[decide_eq_true_eq]at e
  have H1:=cM.no H f
  have hc:=H1.get (i:=i) i0 (by rw[List.length_map,ml];omega)
  rw[List.getElem_map]at hc
  have e4:(PY 1 m)[i.toNat]'(by omega)=mkt (1+i):=by simp[PY];congr 1;omega
  rw[e4]at hc
  refine⟨cM.bB H1 i0 (by rw[List.length_map,ml];omega),_,hc,zH _ (by omega) _ fun h2 f2=>⟨_,rfl,.nil,dD hc f2 fun h=>h,fun e5=> ?_,fun _=> ?_⟩⟩
  ·rw[ny,decide_eq_true rfl]at e5;cases e5
  ·rw[aG (i+1) (by omega) (by omega),aG (1+i+1) (by omega) (by omega)]
   exact⟨n-1,by omega,by omega,by omega,by omega,f.aA f2⟩
 ·simp only[decide_eq_false_iff_not]at e
  have e4:i=m:=by omega
  subst e4
  exact HK h1 f
def akv:Dk:=([],([],0))
theorem I6.nil(n:Nat)(h:Heap):I6 n h aC aC akv No No:=⟨dR.nil _ _ _ _,Ow.nil _ _ _ _,fun k hk=>hk.elim,fun k hk=>hk.elim,fun k hk=>hk.elim⟩
theorem zI{h:Heap}(GL:gS h)(s:ByteArray)(_:s.size<=maxLen)(K:Value->Heap->Prop)(HK:∀h',Fr No h h'->K (VB true) h'):aE Tryz.prog 6 #[VS s] h K:=by
 refine v6 s h K ⟨fun _=>HK h (Fr.refl _ _),fun e=> ?_⟩
 simp only[decide_eq_false_iff_not]at e
 obtain⟨rs,JY⟩:∃rs,rs=((cZ s.data.toList).elim [] fun r=>r.2):=⟨_,rfl⟩
 have rn:rs.length<=50:=by
  rw[JY]
  cases hp:cZ s.data.toList with
  |none=>show 0<=50;omega
  |some r=>exact(Gx hp).1
 obtain⟨ok,hok⟩:∃ok,ok=(cZ s.data.toList).isSome:=⟨_,rfl⟩
 refine uY s _ fun t1 T1 h1 O1 q1 f1=>⟨t1,_,rfl,.nil,?_⟩
 rw[<-JY]at O1
 refine vA (GL.no f1) (by omega) _ fun t2 h2 O2 f2=>⟨t2,_,rfl,.nil,?_⟩
 rw[<-JY]at O2
 have z1:=f1.size
 have z2:=f2.size
 have ml:(rs.map nY).length=rs.length:=List.length_map ..
 refine vB O2.rd (O1.no f2) _ fun h3 f3=>⟨_,rfl,.nil,fun e=>(by cases e),fun _=>⟨fun e=>(by rw[beq_self_eq_true]at e;cases e),fun _=> ?_⟩⟩
 have gq:=(f1.aA f2).aA f3
 refine Ah (Ow.no O2 f3) (by omega) _ fun h4 O4 f4=>⟨_,rfl,.nil,?_⟩
 have F4:Fr (fun k=>h1.size<=k) h3 h4:=f4.mono fun k _ hk=>(O2.aH hk).1
 have jx:Fr No h h4:=gq.fresh F4 fun k hk=>by omega
 have O14:=((O1.no f2).no f3).fr F4 fun k hk aI=>by have:=q1 k hk;omega
 refine qA O4.rd (by omega) _ fun h5 f5=>⟨_,rfl,.nil,fun e=> ?_,fun _=>⟨fun e=> ?_,fun _=> ?_⟩⟩
 ·simp only[decide_eq_true_eq]at e;omega
 ·simp at e
 have pR:=jx.aA f5
 refine vA (GL.no pR) (by omega) _ fun t6 h6 O6 f6=>⟨t6,_,rfl,.nil,?_⟩
 rw[<-JY]at O6
 refine vB O6.rd ((O14.no f5).no f6) _ fun h7 f7=>⟨_,rfl,.nil,fun e=>(by cases e),fun _=>⟨fun e=>(by rw[beq_self_eq_true]at e;cases e),fun _=> ?_⟩⟩
 refine qA (((O4.rd.no f5).no f6).no f7) (by omega) _ fun h8 f8=>⟨_,rfl,.nil,fun e=> ?_,fun _=>⟨fun e=> ?_,fun _=> ?_⟩⟩
 ·simp only[decide_eq_true_eq]at e;omega
 ·simp at e
 exact HK _ (((pR.aA f6).aA f7).aA f8)
end Go.Proofs.YtcnfcnoooecchaaGreatDoor
