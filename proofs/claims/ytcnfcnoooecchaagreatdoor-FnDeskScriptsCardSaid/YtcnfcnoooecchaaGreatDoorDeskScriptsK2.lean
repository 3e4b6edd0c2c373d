import Derived.Test.YtcnfcnoooecchaaGreatDoorDeskScriptsK1
set_option linter.unusedVariables false
set_option linter.unusedSimpArgs false
namespace Go.Proofs.YtcnfcnoooecchaaGreatDoor
open Go Go.Mx
theorem nf(x:Int):∀a b:aH,gB x (a++b)=gB x a+gB x b
 |[],b=>by simp[gB]
 |y::a,b=>by rw[List.cons_append,gB,gB,nf x a b];omega
def lV(n:Nat)(p:Nat)(len:Int)(l:aH):aH:=(List.range n).map fun q:Nat=>(if q=p then len else 0)-gB q l
theorem kq(n p:Nat)(len:Int)(l:aH):(lV n p len l).length=n:=by simp[lV]
theorem pi{n p:Nat}{len:Int}{l:aH}{q:Nat}(h:q<(lV n p len l).length):(lV n p len l)[q]=(if q=p then len else 0)-gB q l:=by simp[lV]
theorem Bx{n p:Nat}(hp:p<n)(len:Int):lV n p len []=(List.replicate n (0:Int)).set p len:=by
 apply j8 (by simp[kq])
 intro q h1 h2
 rw[pi h1,fQ,Af,gB]
 by_cases e:q=p
 ·rw[aJ e,aJ e.symm];omega
 ·rw[aF e,aF fun x=>e x.symm];omega
theorem EB{n p:Nat}{len x:Int}{l:aH}(h0:0<=x)(h1:x<(n:Int)):lV n p len (l++[x])=(lV n p len l).set x.toNat ((lV n p len l).getD x.toNat 0-1):=by
 have hx:x.toNat<(lV n p len l).length:=by rw[kq];omega
 apply j8 (by simp[kq])
 intro q h2 h3
 have h4:q<(lV n p len l).length:=by rw[kq]at h2⊢;exact h2
 rw[pi h2,fQ,nf]
 simp only[gB]
 by_cases e:x.toNat=q
 ·rw[aJ e,aJ (show x=(q:Int) by omega),bA hx,pi hx,e];omega
 ·rw[aF e,aF (show¬x=(q:Int) by omega),pi h4];omega
theorem kZ(x:Int):∀l:aH,0<=gB x l/\gB x l<=l.length
 |[]=>by simp[gB]
 |y::l=>by
  have:=kZ x l
  rw[gB,List.length_cons]
  split<;>omega
def ng(g:aE)(s:Int)(p:Nat):aH:=(lV g.length p (g.getD p []).length (g.getD p [])).eraseIdx s.toNat
def zk(g:aE)(s:Int):aE:=((List.range g.length).filter (jA s)).map (ng g s)
theorem erase_filter:∀(l:List Nat)(i:Nat)(h:i<l.length),l.Nodup->l.eraseIdx i=l.filter fun x=> !decide (x=l[i])
 |x::l,0,_,hd=>by
  rw[List.nodup_cons]at hd
  rw[List.eraseIdx_zero,List.tail_cons,List.getElem_cons_zero,qb (by simp)]
  refine(List.filter_eq_self.2 fun a ha=> ?_).symm
  have:a≠x:=fun e=>hd.1 (e▸ha)
  simpa using this
 |x::l,i+1,h,hd=>by
  rw[List.nodup_cons]at hd
  have hi:i<l.length:=by simpa using h
  have hx:x≠l[i]:=fun e=>hd.1 (e▸bI hi)
  rw[List.eraseIdx_cons_succ,List.getElem_cons_succ,rO (by simpa using hx),erase_filter l i hi hd.2]
theorem erase_range{n:Nat}{s:Int}(h0:0<=s)(h1:s<(n:Int)):(List.range n).eraseIdx s.toNat=(List.range n).filter (jA s):=by
 rw[erase_filter _ _ (by rw[gh];omega) List.nodup_range]
 refine List.filter_congr fun x _=> ?_
 rw[kO]
 unfold jA
 congr 1
 by_cases e:x=s.toNat
 ·rw[kk e,kk (by omega)]
 ·rw[gU e,gU (by omega)]
theorem EC{α β:Type}(f:α->β):∀(l:List α)(i:Nat),(l.map f).eraseIdx i=(l.eraseIdx i).map f
 |[],_=>by simp
 |x::l,0=>by simp
 |x::l,i+1=>by rw[bJ,List.eraseIdx_cons_succ,List.eraseIdx_cons_succ,bJ,EC f l i]
theorem ED{g:aE}{s:Int}(h0:0<=s)(h1:s<(g.length:Int))(p:Nat):ng g s p=((List.range g.length).filter (jA s)).map fun q:Nat=>(if q=p then((g.getD p []).length:Int)else 0)-gB q (g.getD p []):=by
 unfold ng lV
 rw[EC,erase_range h0 h1]
theorem tj{n:Nat}{s:Int}(h0:0<=s)(h1:s<(n:Int)):((List.range n).filter (jA s)).length=n-1:=by
 rw[<-erase_range h0 h1,List.length_eraseIdx,gh,aJ (by omega)]
theorem Li{g:aE}{s:Int}(h0:0<=s)(h1:s<(g.length:Int)):(zk g s).length=g.length-1/\Sq (g.length-1) (zk g s):=by
 have e:(zk g s).length=g.length-1:=by unfold zk;rw[bB,tj h0 h1]
 refine⟨e,e,fun i hi=> ?_⟩
 unfold zk at hi⊢
 rw[bV,ED h0 h1,bB,tj h0 h1]
theorem Ny{g:aE}{s:Int}(h0:0<=s)(h1:s<(g.length:Int)){i j:Nat}(hi:i<g.length-1)(hj:j<g.length-1):dB (zk g s) i j=j3 (ij g s) i j:=by
 have hl:=tj (n:=g.length) h0 h1
 have jH:i<((List.range g.length).filter (jA s)).length:=by omega
 have IU:j<((List.range g.length).filter (jA s)).length:=by omega
 have e1:∀k(hk:k<((List.range g.length).filter (jA s)).length),p9 (ij g s) k=((((List.range g.length).filter (jA s))[k]:Nat):Int)/\C7 (ij g s) k=g.getD ((List.range g.length).filter (jA s))[k] []:=fun k hk=>by
  unfold p9 C7 ij
  rw[eG,dT (by rw[bB];exact hk),bV]
  exact⟨rfl,rfl⟩
 have hr:i<(zk g s).length:=by rw[(Li h0 h1).1];exact hi
 have er:(zk g s)[i]=ng g s ((List.range g.length).filter (jA s))[i]:=by
  show(((List.range g.length).filter (jA s)).map (ng g s))[i]'_=_
  exact bV _
 unfold dB j3
 rw[bH hr,er,ED h0 h1,bA (by rw[bB];exact IU),bV,(e1 i jH).2,(e1 j IU).1]
 congr 1
 by_cases e:i=j
 ·subst e;rw[aJ rfl,aJ rfl]
 ·rw[aF e,aF fun x=>e ?_]
  have nd:((List.range g.length).filter (jA s)).Nodup:=List.Pairwise.filter _ List.nodup_range
  have hp:=E9.1 nd
  rcases tg i j with a|a|a
  ·exact absurd x.symm (hp i j jH IU a)
  ·exact a
  ·exact absurd x (hp j i IU jH a)
theorem EE{g:aE}{s:Int}(hg:aZ g=true)(h0:0<=s)(h1:s<(g.length:Int)):Small (g.length-1) (dB (zk g s)):=fun i j hi hj=>by
 rw[Ny h0 h1 hi hj]
 unfold j3
 have hb:(C7 (ij g s) i).length<=5:=by
  have hl:=tj (n:=g.length) h0 h1
  unfold C7 ij
  rw[eG,dT (by rw[bB];omega),bV]
  have hm:=bI (show i<((List.range g.length).filter (jA s)).length by omega)
  rw[td,ko]at hm
  show(g.getD _ []).length<=5
  rw[bH hm.1]
  exact(bL hg (bI hm.1)).1
 have:=kZ (p9 (ij g s) j) (C7 (ij g s) i)
 split<;>omega
def xu(g:aE)(s:Int):Int:=dR (g.length-1) (dB (zk g s))
theorem OZ{g:aE}{s:Int}(hg:aZ g=true)(h0:0<=s)(h1:s<(g.length:Int)):xu g s=((FK g s).length:Int):=by
 rw[IZ hg h0 h1]
 exact eZ fun i j hi hj=>Ny h0 h1 hi hj
theorem O0{S:aK}{h:Heap}{g:Sl}{aI:aE}(G:dE S h g aI)(hg:aZ aI=true){s:Int}(s0:0<=s)(s1:s<(aI.length:Int))(K:aL)(HK:∀t h',ia h' (Iv h.size h'.size) t (zk aI s)->Fr No h h'->K t.v h'):aG aB 213 #[.agg #[g.v],VI s] h K:=by
 refine akM g s h K fun b1 h1 fw f1 cU=> ?_
 have f1:=f1.aM
 have z1:=f1.size
 have l1:b1<h1.size:=cU.head.lt
 have gl:=bD hg
 have gn:=G.len
 have yP:∀{x:Heap},Fr (fun k=>h.size<=k) h x->Fr No h x:=fun f=>f.mono fun k hk aQ=>absurd aQ (by omega)
 refine bC tN (fun k=>h1.size<=k) (fun _ h=>h) 0 (by omega) [] rfl rfl fun o h2 n2 c2 o2 f2 m2 _=>⟨o,rfl,cU.aC f2,?_⟩
 have z2:=f2.size
 have Zt:ia h2 (fun k=>h1.size<=k) o []:=⟨[],rfl,o2,fun i h1=>by simp at h1,fun i j h1=>by simp at h1,fun i h1=>by simp at h1⟩
 refine⟨fun m x p h'=>0<=p/\p+m=(aI.length:Int)/\ia h' (fun k=>h1.size<=k) x (((List.range p.toNat).filter (jA s)).map (ng aI s))/\Fr (fun k=>h.size<=k) h h'/\h1.size<=h'.size,⟨aI.length,cL _,by omega,Zt,f1.aC.trans f2.aC,by omega⟩,?_⟩
 rintro m x p h3 ⟨p0,p1,o3,f3,z3⟩ dA
 have g3:=yP f3
 refine⟨fun e=> ?_,fun e=> ?_⟩
 ·have hp:=G.lt e
  have G3:=G.no g3
  obtain⟨sp,cp,rp⟩:=G3.get p0 hp
  have pl:=rp.len
  have eg:aI.getD p.toNat []=aI[p.toNat]'(by omega):=bH (by omega)
  have gm:=bL hg (bI (show p.toNat<aI.length by omega))
  rw[G.succ p0 hp]
  refine⟨G3.bQ p0 hp,sp,cp,fun e2=> ?_,fun e2=> ?_⟩
  ·simp only[aT]at e2
   refine⟨m-1,by omega,by omega,by omega,?_,f3,z3⟩
   rw[show(p+1).toNat=p.toNat+1 by omega,pY,xg,qb (xd (by omega)),List.filter_nil,gK]
   exact o3
  simp only[aW]at e2
  refine fO gH (fun k=>h3.size<=k) (fun _ h=>h) .i64 .i64 g.n g.n (aY _) (by omega) fun t h4 n4 c4 o4 f4 m4 _=>⟨t,rfl,dA.aC f4,?_⟩
  have z4:=f4.size
  have o4:cM h4 (fun k=>h3.size<=k) t (List.replicate aI.length 0):=by
   have e:(List.replicate g.n [VI 0]).flatten=(List.replicate aI.length (0:Int)).map VI:=by rw[gn];simp[kT]
   rw[e]at o4;exact o4
  refine iQ (L:=[(b1,[g.v])]) (F:=fun k=>h3.size<=k) o4 p0 (by rw[jd];omega) (dA.aC f4) (fun q hq=>by
   simp only[aO,aS,aN]at hq
   subst hq;show¬h3.size<=b1;omega) _ fun h5 o5 f5 V5=> ?_
  rw[pl,<-Bx (by omega)]at o5
  have f35:=(f4.aC (T:=fun k=>h3.size<=k)).trans f5
  refine⟨fun m2 j h'=>0<=j/\j+m2=((aI[p.toNat]'(by omega)).length:Int)/\cM h' (fun k=>h3.size<=k) t (lV aI.length p.toNat (aI[p.toNat]'(by omega)).length ((aI[p.toNat]'(by omega)).take j.toNat))/\Fr (fun k=>h3.size<=k) h3 h',⟨(aI[p.toNat]'(by omega)).length,cL _,by omega,by simpa using o5,f35⟩,?_⟩
  rintro m2 j h6 ⟨j0,j1,o6,f6⟩ kU
  have r6:=(rp.low.fr f6 fun k hk aQ=>by omega)
  refine⟨fun e3=> ?_,fun e3=> ?_⟩
  ·have hj:=r6.lt e3
   have hv:=gm.2 _ (bI (show j.toNat<(aI[p.toNat]'(by omega)).length by omega))
   have R6:=o6.fW
   have rl:=kq aI.length p.toNat (aI[p.toNat]'(by omega)).length ((aI[p.toNat]'(by omega)).take j.toNat)
   have Ub:(aI[p.toNat]'(by omega))[j.toNat]'(by omega)<((lV aI.length p.toNat (aI[p.toNat]'(by omega)).length ((aI[p.toNat]'(by omega)).take j.toNat)).length:Int):=by rw[rl];omega
   refine⟨r6.bQ j0 hj,_,r6.get j0 hj,bE.bQ R6 hv.1 Ub,_,bE.get R6 hv.1 Ub,iQ (L:=[(b1,[g.v])]) (F:=fun k=>h3.size<=k) o6 hv.1 Ub kU (fun q hq=>by
    simp only[aO,aS,aN]at hq
    subst hq;show¬h3.size<=b1;omega) _ fun h7 o7 f7 V7=> ?_⟩
   rw[bE.succ r6 j0 hj]
   refine⟨m2-1,by omega,by omega,by omega,?_,f6.trans f7⟩
   rw[fJ _ j0 hj,EB hv.1 hv.2,bA (show((aI[p.toNat]'(by omega))[j.toNat]'(by omega)).toNat<(lV aI.length p.toNat (aI[p.toNat]'(by omega)).length ((aI[p.toNat]'(by omega)).take j.toNat)).length by omega)]
   have hb:aX ((lV aI.length p.toNat (aI[p.toNat]'(by omega)).length ((aI[p.toNat]'(by omega)).take j.toNat))[((aI[p.toNat]'(by omega))[j.toNat]'(by omega)).toNat]'(by omega)-1)=(lV aI.length p.toNat (aI[p.toNat]'(by omega)).length ((aI[p.toNat]'(by omega)).take j.toNat))[((aI[p.toNat]'(by omega))[j.toNat]'(by omega)).toNat]'(by omega)-1:=by
    rw[pi]
    have ob:=kZ ((((aI[p.toNat]'(by omega))[j.toNat]'(by omega)).toNat:Nat):Int) ((aI[p.toNat]'(by omega)).take j.toNat)
    rw[fD]at ob
    have:=gm.1
    exact aP _ (by split<;>omega) (by split<;>omega)
   rw[hb]at o7
   exact o7
  ·have hj:=r6.ge e3
   rw[cW (by omega)]at o6
   have sw:aX (s+1)=((s.toNat+1:Nat):Int):=by rw[aP _ (by omega) (by omega)];omega
   have ss:s=((s.toNat:Nat):Int):=by omega
   rw[sw]
   refine cast (congrArg (fun z:Int=>aG aB 258 #[t.v,VI z,VI (s.toNat+1:Nat)] h6 _) ss.symm) ?_
   refine Rz o6 (i:=s.toNat) (by rw[kq];omega) _ fun t8 h8 o8 f8 m8=>⟨t8,rfl,?_,?_⟩
   ·exact kU.fr f8 fun q hq hk=>by
     simp only[aO,aS,aN]at hq
     subst hq
     have:=(Ow.aR o6 hk).1
     (try simp only at this)
     omega
   have f8':Fr (fun k=>h3.size<=k) h6 h8:=f8.mono fun k _ hk=>(Ow.aR o6 hk).1
   have f38:=f6.trans f8'
   have z8:=f38.size
   have gZ:Vars h8 [(b1,[g.v])]:=kU.fr f8' fun q hq hk=>by
    simp only[aO,aS,aN]at hq
    subst hq
    (try simp only at hk)
    omega
   refine jz (lo:=h1.size) (m:=h3.size) (dO.fr (dO.gS o3) f38 fun k hk aQ mX=>by have:=aQ.2;omega) o8 z3 z8 gZ (fun q hq=>by
    simp only[aO,aS,aN]at hq
    subst hq;exact l1) (by
     rw[bB]
     have:=Bz (jA s) (List.range p.toNat)
     rw[gh]at this
     omega) _ fun t2 fa nC f10 Kl=> ?_
   refine⟨m-1,by omega,by omega,by omega,?_,(f3.trans (f38.mono fun k _ hk=>by omega)).trans (f10.mono fun k _ hk=>by omega),by have:=f10.size;omega⟩
   rw[show(p+1).toNat=p.toNat+1 by omega,pY,xg,rO (lU.2 (by omega)),List.filter_nil,cQ,bJ,jb]
   have el:ng aI s p.toNat=(lV aI.length p.toNat (aI[p.toNat]'(by omega)).length (aI[p.toNat]'(by omega))).eraseIdx s.toNat:=by unfold ng;rw[eg]
   rw[el]
   exact nC
 ·have hp:=G.ge e
  have ep:p.toNat=aI.length:=by omega
  rw[ep]at o3
  exact HK x h3 (o3.mono fun k hk aQ=>⟨by omega,hk⟩) g3
theorem dE.tl2{S:aK}{h:Heap}{s:Sl}{aI:aE}(H:dE S h s aI)(h1:1<=aI.length):dE S h (s.cut 1 1 s.n s.c) aI.tail:=by
 obtain⟨ss,e,h2,h3⟩:=H.out
 have sn:=H.len
 have c:=dK.cut h2 (l:=1) (m:=s.n) (by omega) (aY _)
 have ec:((ss.map Sl.v).drop (1*1)).take ((s.n-1)*1)=ss.tail.map Sl.v:=by
  rw[cW (by simp;omega)]
  cases ss<;>rfl
 rw[ec]at c
 refine⟨ss.tail,by simp[e],c,fun i a b=> ?_⟩
 have:=h3 (i+1) (by simp at a;omega) (by simp at b;omega)
 simpa using this
theorem EF{L:List (Nat×List Value)}{S:aK}{h:Heap}{s:Sl}{xs:aH}(R:bE S h s xs){k:Int}(k0:0<=k)(k1:k<(xs.length:Int))(hb:xs.length<=1000000)(hL:Vars h L)(C:Sl->Heap->Prop)(HC:∀t h',cM h' (fun q=>h.size<=q) t (xs.eraseIdx k.toNat)->Fr No h h'->Vars h' L->C t h'):
 pop aB (Instr.sliceAt mW s.v none (some (VI k)) none) fun rv=>∃a:Sl,rv=a.v/\pop aB (Instr.sliceAt mW s.v (some (VI (aX (k+1)))) none none) fun rv=>∃b:Sl,rv=b.v/\aG aB 87 #[a.v] h fun rv h1=>∃c:Sl,rv=c.v/\Vars h1 L/\j5 aB (cD mW mW mW c.v b.v) h1 fun Bb h2=>∃d:Sl,Bb=d.v/\Vars h2 L/\C d h2:=by
 have sn:=bE.len R
 have sc:=dK.cap R
 have kw:aX (k+1)=k+1:=aP _ (by omega) (by omega)
 rw[kw]
 refine sQ gH .i64 k0 (by omega) ⟨_,rfl,jP gH .i64 (by omega) (by omega) ⟨_,rfl,?_⟩⟩
 have r1:=bE.cut R (l:=0) (m:=k.toNat) (Nat.zero_le _) (by omega)
 have r2:=bE.cut R (l:=(k+1).toNat) (m:=s.n) (by omega) (by omega)
 rw[oq,Nat.sub_zero]at r1
 rw[cW (by rw[q6];omega)]at r2
 refine sW r1 (by rw[fD];omega) _ fun c h1 o1 f1=>⟨c,rfl,hL.aC f1,?_⟩
 have cn:c.n=(xs.take k.toNat).length:=by have:=o1.len;simp at this;simp;omega
 have dn:(s.cut 1 (k+1).toNat s.n s.c).n=s.n-(k+1).toNat:=rfl
 have z1:=f1.size
 have pv:((xs.drop (k+1).toNat).map VI).all gQ=true:=by rw[List.all_map,j6];intro x _;rfl
 refine cV gH (o1.mono (F':=fun q=>h.size<=q) fun q _ hq=>hq.1) (fun q hq=>by omega) (dK.no r2 f1) pv (by rw[cn,dn,fD];omega) fun d h2 hd o2 f2 m2=>⟨d,rfl,?_,?_⟩
 ·exact(hL.aC f1).fr f2 fun p hp ho=>by
   have:=(hL.mem p hp).lt
   have:=(Ow.aR o1 ho).1.1
   omega
 ·rw[<-cQ]at o2
  refine HC d h2 ?_ ((f1.aC.trans (f2.mono fun q _ hq=>(Ow.aR o1 hq).1)).mono fun q hq js=>absurd js.1 (by omega)) ?_
  ·rw[List.eraseIdx_eq_take_drop_succ,show k.toNat+1=(k+1).toNat by omega]
   exact o2
  ·exact(hL.aC f1).fr f2 fun p hp ho=>by
    have:=(hL.mem p hp).lt
    have:=(Ow.aR o1 ho).1.1
    omega
theorem RE{aI:aE}{n k:Nat}(Q:Sq (n+1) aI)(hk:k<n+1):Sq n (aI.tail.map fun r=>r.eraseIdx k)/\∀i j,i<n->j<n->dB (aI.tail.map fun r=>r.eraseIdx k) i j=dB aI (i+1) (gO k j):=by
 have ln:=Q.len
 have hr:∀i(h:i<aI.tail.length),aI.tail[i]=aI[i+1]'(by rw[List.length_tail]at h;omega):=fun i h=>by rw[List.getElem_tail]
 refine⟨⟨by simp;omega,fun i hi=> ?_⟩,fun i j hi hj=> ?_⟩
 ·rw[bB]at hi
  rw[bV,hr i hi,List.length_eraseIdx,Q.row]
  rw[aJ hk]
  omega
 ·have jH:i<aI.tail.length:=by rw[List.length_tail];omega
  have h1:i+1<aI.length:=by omega
  have e2:=Q.row (i+1) h1
  have hs:gO k j<(aI[i+1]'h1).length:=by unfold gO;split<;>omega
  rw[jf h1 hs,jf (by rw[bB];exact jH) (by rw[bV,hr i jH,List.length_eraseIdx,e2,aJ hk];omega)]
  have:((aI.tail.map fun r=>r.eraseIdx k)[i]'(by rw[bB];exact jH))=(aI[i+1]'h1).eraseIdx k:=by rw[bV,hr i jH]
  have e3:((aI.tail.map fun r=>r.eraseIdx k)[i]'(by rw[bB];exact jH))[j]?=(aI[i+1]'h1)[gO k j]?:=by
   rw[this,List.getElem?_eraseIdx]
   unfold gO
   split<;>rfl
  rw[dT (by rw[bV,hr i jH,List.length_eraseIdx,e2,aJ hk];omega),dT hs]at e3
  exact bF e3
theorem afG(k:Nat):aX (0-lT k)=lT (k+1):=by
 rw[nb]
 unfold lT
 split<;>rfl
theorem RF{n:Nat}{A:lQ}(h:∀i j,i<n+1->j<n+1->(A i j).natAbs<=10){t:Nat}(ht:t<=n+1):(cG (fun k=>lT k*A 0 k*dR n (fun i j=>A (i+1) (gO k j))) t).natAbs<=Km (n+1):=by
 have:=uH (f:=fun k=>lT k*A 0 k*dR n (fun i j=>A (i+1) (gO k j))) (b:=10*Km n) (n:=t) fun k hk=>by
  (try simp only)
  rw[sZ,sZ,MY,Nat.one_mul]
  exact vm (h 0 k (by omega) (by omega)) (oY fun i j hi hj=>h (i+1) (gO k j) (by omega) (by unfold gO;split<;>omega))
 rw[Km,Nat.mul_assoc]
 exact cB this (oh _ ht)
theorem Ag:∀(n:Nat){S:aK}{h:Heap}{s:Sl}{aI:aE}(M:dE S h s aI)(Q:Sq n aI)(hn:n<=7)(hb:Small n (dB aI)),u4 aB 182 #[s.v] h (VI (dR n (dB aI)))
 |0,S,h,s,aI,M,Q,_,_=>by
  intro K HK
  have sn:=M.len
  have ln:=Q.len
  refine v182 s h K ⟨fun _=>HK h (Fr.refl _ _),fun e=> ?_⟩
  simp only[aW]at e
  omega
 |n+1,S,h,s,aI,M,Q,hn,hb=>by
  intro K HK
  have sn:=M.len
  have ln:=Q.len
  refine v182 s h K ⟨fun e=> ?_,fun _=> ?_⟩
  ·simp only[aT]at e
   omega
  obtain⟨s0,c0,r0⟩:=M.get (i:=0) (cL _) (by omega)
  have l0:=Q.row 0 (by omega)
  have r0:bE S h s0 (aI[0]'(by omega)):=r0
  have s0n:=bE.len r0
  refine⟨M.bQ (cL _) (by omega),s0,c0,?_⟩
  have pb:∀t,t<=n+1->(cG (fun k=>lT k*dB aI 0 k*dR n (fun i j=>dB aI (i+1) (gO k j))) t).natAbs<=50400000000:=fun t ht=>cB (RF hb ht) (cB (Bk (show n+1<=7 by omega)) (by rw[ZX];exact aY _))
  refine⟨fun m sm sg t h'=>0<=t/\t+m=((n+1:Nat):Int)/\sm=cG (fun k=>lT k*dB aI 0 k*dR n (fun i j=>dB aI (i+1) (gO k j))) t.toNat/\sg=lT t.toNat/\Fr No h h',⟨n+1,cL _,by omega,rfl,rfl,Fr.refl _ _⟩,?_⟩
  rintro m sm sg t h1 ⟨t0,t1,rfl,rfl,f1⟩ cU
  have M1:=M.no f1
  have r1:=bE.no r0 f1
  refine⟨fun e=> ?_,fun e=> ?_⟩
  ·have ht:=r1.lt e
   have ZB:t.toNat<n+1:=by omega
   have e00:(aI[0]'(by omega))[t.toNat]'(by omega)=dB aI 0 t.toNat:=(jf (by omega) (by omega)).symm
   have hx:=xt (hb 0 t.toNat (by omega) ZB)
   have tw:aX (t+1)=t+1:=aP _ (by omega) (by omega)
   have Z8:∀(x:Int) h',x=cG (fun k=>lT k*dB aI 0 k*dR n (fun i j=>dB aI (i+1) (gO k j))) (t.toNat+1)->Fr No h h'->∃m':Nat,m'<m/\0<=aX (t+1)/\aX (t+1)+m'=((n+1:Nat):Int)/\x=cG (fun k=>lT k*dB aI 0 k*dR n (fun i j=>dB aI (i+1) (gO k j))) (aX (t+1)).toNat/\aX (0-lT t.toNat)=lT (aX (t+1)).toNat/\Fr No h h':=fun x h' hx f=>by
    rw[tw,show(t+1).toNat=t.toNat+1 by omega]
    exact⟨m-1,by omega,by omega,by omega,hx,afG _,f⟩
   refine⟨r1.bQ t0 ht,_,r1.get t0 ht,fun x h'=>x=cG (fun k=>lT k*dB aI 0 k*dR n (fun i j=>dB aI (i+1) (gO k j))) (t.toNat+1)/\Fr No h h',⟨fun e2=> ?_,fun e2=> ?_⟩,fun x h' hx hL'=>Z8 x h' hx.1 hx.2⟩
   ·rw[e00]
    refine jP tN .i64 (show(0:Int)<=1 by omega) (by omega) ⟨_,rfl,?_⟩
    have T1:=dE.tl2 M1 (by omega)
    have tln:aI.tail.length=n:=by rw[List.length_tail];omega
    have T1n:(s.cut 1 1 s.n s.c).n=n:=by rw[T1.len,tln]
    have yP:∀{x:Heap},Fr (fun k=>h1.size<=k) h1 x->Fr No h1 x:=fun f=>f.mono fun k hk aQ=>absurd aQ (by omega)
    refine⟨fun m2 r j h'=>0<=j/\j+m2=(n:Int)/\ia h' (fun q=>h1.size<=q) r ((aI.tail.take j.toNat).map fun l=>l.eraseIdx t.toNat)/\Fr (fun q=>h1.size<=q) h1 h',⟨n,cL _,by omega,dO.nil _ _ _ _,Fr.refl _ _⟩,?_⟩
    rintro m2 r j h2 ⟨j0,j1,o2,f2⟩ cR
    have T2:=T1.no (yP f2)
    refine⟨fun e3=> ?_,fun e3=> ?_⟩
    ·have hj:=T2.lt e3
     obtain⟨sj,cj,rj⟩:=T2.get j0 hj
     have lj:(aI.tail[j.toNat]'(by omega)).length=n+1:=by rw[List.getElem_tail];exact Q.row _ (by omega)
     refine⟨T2.bQ j0 hj,sj,cj,EF rj t0 (by omega) (by omega) .nil _ fun d h4 o4 f4 V4=> ?_⟩
     have z4:=f4.size
     refine jz (lo:=h1.size) (m:=h2.size) (dO.gS o2|>.no f4) o4 f2.size z4 .nil (fun p hp=>by simp at hp) (by rw[bB,fD];omega) _ fun t2 h5 o5 f5 V5=> ?_
     rw[aP (j+1) (by omega) (by omega)]
     refine⟨m2-1,by omega,by omega,by omega,?_,(f2.trans f4.aC).trans f5⟩
     rw[fJ _ j0 hj,cQ,bJ,jb]
     exact o5
    ·have hj:=T2.ge e3
     rw[cW (by omega)]at o2
     obtain⟨Qr,er⟩:=RE Q ZB
     have hbr:Small n (dB (aI.tail.map fun r=>r.eraseIdx t.toNat)):=fun i j hi hj=>by rw[er i j hi hj];exact hb _ _ (by omega) (by unfold gO;split<;>omega)
     refine Ag n (dO.rd o2) Qr (by omega) hbr _ fun h7 f7=>⟨_,rfl,.nil,?_,f1.aA ((yP f2).aA f7)⟩
     rw[eZ er]
     rw[cG]
     have b1:=xt (pb t.toNat (by omega))
     have b2:=xt (pb (t.toNat+1) (by omega))
     rw[cG]at b2
     have b3: -10<=lT t.toNat*dB aI 0 t.toNat/\lT t.toNat*dB aI 0 t.toNat<=10:=by
      unfold lT
      split<;>omega
     rw[aP (lT t.toNat*dB aI 0 t.toNat) (by omega) (by omega)]
     generalize lT t.toNat*dB aI 0 t.toNat*dR n (fun i j=>dB aI (i+1) (gO t.toNat j))=y at b2⊢
     generalize cG (fun k=>lT k*dB aI 0 k*dR n (fun i j=>dB aI (i+1) (gO k j))) t.toNat=z at b1 b2⊢
     rw[aP y (by omega) (by omega),aP (z+y) (by omega) (by omega)]
   ·rw[e00]at e2
    simp only[uM,aT]at e2
    refine⟨?_,f1⟩
    rw[cG,e2]
    simp
  ·have ht:=r1.ge e
   have:t.toNat=n+1:=by omega
   rw[this]
   exact HK h1 f1
theorem Ji{S:aK}{h:Heap}{g:Sl}{aI:aE}(G:dE S h g aI)(hg:aZ aI=true){s:Int}(s0:0<=s)(s1:s<(aI.length:Int))(K:aL)(HK:∀t h',ia h' (Iv h.size h'.size) t (zk aI s)->Fr No h h'->K t.v h'):aG aB 183 #[.agg #[g.v],VI s] h K:=by
 refine v183 g s h K fun b1 h1 fw f1 cU=> ?_
 have f1:=f1.aM
 have z1:=f1.size
 have l1:b1<h1.size:=cU.head.lt
 have gl:=bD hg
 have gn:=G.len
 have yP:∀{x:Heap},Fr (fun k=>h.size<=k) h x->Fr No h x:=fun f=>f.mono fun k hk aQ=>absurd aQ (by omega)
 refine⟨fun m x p h'=>0<=p/\p+m=(aI.length:Int)/\ia h' (fun k=>h1.size<=k) x (((List.range p.toNat).filter (jA s)).map (ng aI s))/\Fr (fun k=>h.size<=k) h h'/\h1.size<=h'.size,⟨aI.length,cL _,by omega,dO.nil _ _ _ _,f1.aC,aY _⟩,?_⟩
 rintro m x p h3 ⟨p0,p1,o3,f3,z3⟩ dA
 have g3:=yP f3
 refine⟨fun e=> ?_,fun e=> ?_⟩
 ·have hp:=G.lt e
  have G3:=G.no g3
  obtain⟨sp,cp,rp⟩:=G3.get p0 hp
  have pl:=rp.len
  have eg:aI.getD p.toNat []=aI[p.toNat]'(by omega):=bH (by omega)
  have gm:=bL hg (bI (show p.toNat<aI.length by omega))
  rw[G.succ p0 hp]
  refine⟨G3.bQ p0 hp,sp,cp,fun e2=> ?_,fun e2=> ?_⟩
  ·simp only[aT]at e2
   refine⟨m-1,by omega,by omega,by omega,?_,f3,z3⟩
   rw[show(p+1).toNat=p.toNat+1 by omega,pY,xg,qb (xd (by omega)),List.filter_nil,gK]
   exact o3
  simp only[aW]at e2
  refine fO gH (fun k=>h3.size<=k) (fun _ h=>h) .i64 .i64 g.n g.n (aY _) (by omega) fun t h4 n4 c4 o4 f4 m4 _=>⟨t,rfl,dA.aC f4,?_⟩
  have z4:=f4.size
  have o4:cM h4 (fun k=>h3.size<=k) t (List.replicate aI.length 0):=by
   have e:(List.replicate g.n [VI 0]).flatten=(List.replicate aI.length (0:Int)).map VI:=by rw[gn];simp[kT]
   rw[e]at o4;exact o4
  refine iQ (L:=[(b1,[g.v])]) (F:=fun k=>h3.size<=k) o4 p0 (by rw[jd];omega) (dA.aC f4) (fun q hq=>by
   simp only[aO,aS,aN]at hq
   subst hq;show¬h3.size<=b1;omega) _ fun h5 o5 f5 V5=> ?_
  rw[pl,<-Bx (by omega)]at o5
  have f35:=(f4.aC (T:=fun k=>h3.size<=k)).trans f5
  refine⟨fun m2 j h'=>0<=j/\j+m2=((aI[p.toNat]'(by omega)).length:Int)/\cM h' (fun k=>h3.size<=k) t (lV aI.length p.toNat (aI[p.toNat]'(by omega)).length ((aI[p.toNat]'(by omega)).take j.toNat))/\Fr (fun k=>h3.size<=k) h3 h',⟨(aI[p.toNat]'(by omega)).length,cL _,by omega,by simpa using o5,f35⟩,?_⟩
  rintro m2 j h6 ⟨j0,j1,o6,f6⟩ kU
  have r6:=(rp.low.fr f6 fun k hk aQ=>by omega)
  refine⟨fun e3=> ?_,fun e3=> ?_⟩
  ·have hj:=r6.lt e3
   have hv:=gm.2 _ (bI (show j.toNat<(aI[p.toNat]'(by omega)).length by omega))
   have R6:=o6.fW
   have rl:=kq aI.length p.toNat (aI[p.toNat]'(by omega)).length ((aI[p.toNat]'(by omega)).take j.toNat)
   have Ub:(aI[p.toNat]'(by omega))[j.toNat]'(by omega)<((lV aI.length p.toNat (aI[p.toNat]'(by omega)).length ((aI[p.toNat]'(by omega)).take j.toNat)).length:Int):=by rw[rl];omega
   refine⟨r6.bQ j0 hj,_,r6.get j0 hj,bE.bQ R6 hv.1 Ub,_,bE.get R6 hv.1 Ub,iQ (L:=[(b1,[g.v])]) (F:=fun k=>h3.size<=k) o6 hv.1 Ub kU (fun q hq=>by
    simp only[aO,aS,aN]at hq
    subst hq;show¬h3.size<=b1;omega) _ fun h7 o7 f7 V7=> ?_⟩
   rw[bE.succ r6 j0 hj]
   refine⟨m2-1,by omega,by omega,by omega,?_,f6.trans f7⟩
   rw[fJ _ j0 hj,EB hv.1 hv.2,bA (show((aI[p.toNat]'(by omega))[j.toNat]'(by omega)).toNat<(lV aI.length p.toNat (aI[p.toNat]'(by omega)).length ((aI[p.toNat]'(by omega)).take j.toNat)).length by omega)]
   have hb:aX ((lV aI.length p.toNat (aI[p.toNat]'(by omega)).length ((aI[p.toNat]'(by omega)).take j.toNat))[((aI[p.toNat]'(by omega))[j.toNat]'(by omega)).toNat]'(by omega)-1)=(lV aI.length p.toNat (aI[p.toNat]'(by omega)).length ((aI[p.toNat]'(by omega)).take j.toNat))[((aI[p.toNat]'(by omega))[j.toNat]'(by omega)).toNat]'(by omega)-1:=by
    rw[pi]
    have ob:=kZ ((((aI[p.toNat]'(by omega))[j.toNat]'(by omega)).toNat:Nat):Int) ((aI[p.toNat]'(by omega)).take j.toNat)
    rw[fD]at ob
    have:=gm.1
    exact aP _ (by split<;>omega) (by split<;>omega)
   rw[hb]at o7
   exact o7
  ·have hj:=r6.ge e3
   rw[cW (by omega)]at o6
   refine EF o6.fW s0 (by rw[kq];omega) (by rw[kq];omega) kU _ fun t8 h8 o8 f8 V8=> ?_
   have f8':Fr (fun k=>h3.size<=k) h6 h8:=f8.aC
   have z6:=f6.size
   have o8:=o8.mono (F':=fun k=>h3.size<=k) fun k _ hk=>by omega
   have f38:=f6.trans f8'
   have z8:=f38.size
   have gZ:Vars h8 [(b1,[g.v])]:=V8
   refine jz (lo:=h1.size) (m:=h3.size) (dO.fr (dO.gS o3) f38 fun k hk aQ mX=>by have:=aQ.2;omega) o8 z3 z8 gZ (fun q hq=>by
    simp only[aO,aS,aN]at hq
    subst hq;exact l1) (by
     rw[bB]
     have:=Bz (jA s) (List.range p.toNat)
     rw[gh]at this
     omega) _ fun t2 fa nC f10 Kl=> ?_
   refine⟨m-1,by omega,by omega,by omega,?_,(f3.trans (f38.mono fun k _ hk=>by omega)).trans (f10.mono fun k _ hk=>by omega),by have:=f10.size;omega⟩
   rw[show(p+1).toNat=p.toNat+1 by omega,pY,xg,rO (lU.2 (by omega)),List.filter_nil,cQ,bJ,jb]
   have el:ng aI s p.toNat=(lV aI.length p.toNat (aI[p.toNat]'(by omega)).length (aI[p.toNat]'(by omega))).eraseIdx s.toNat:=by unfold ng;rw[eg]
   rw[el]
   exact nC
 ·have hp:=G.ge e
  have ep:p.toNat=aI.length:=by omega
  rw[ep]at o3
  exact HK x h3 (o3.mono fun k hk aQ=>⟨by omega,hk⟩) g3
theorem BA(f:Nat->Int):∀n,cG f (n+1)=f 0+cG (fun k=>f (k+1)) n
 |0=>by simp[cG]
 |n+1=>by rw[cG,BA f n,cG];omega
theorem Nz(f:Nat->Int){a:Nat}:∀{n:Nat},a+1<n->cG (fun k=>f (hH a (a+1) k)) n=cG f n
 |n+2,h=>by
  by_cases e:a=n
  ·subst e
   have h1:cG (fun k=>f (hH a (a+1) k)) a=cG f a:=dJ fun k hk=>by
    (try simp only)
    unfold hH
    rw[aF (by omega),aF (by omega)]
   have h2:hH a (a+1) a=a+1:=by unfold hH;rw[aJ rfl]
   have h3:hH a (a+1) (a+1)=a:=by unfold hH;rw[aF (by omega),aJ rfl]
   rw[cG,cG,cG,cG,h1,h2,h3]
   omega
  ·have ih:=Nz f (show a+1<n+1 by omega)
   show cG (fun k=>f (hH a (a+1) k)) (n+1)+f (hH a (a+1) (n+1))=cG f (n+1)+f (n+1)
   rw[ih]
   have h2:hH a (a+1) (n+1)=n+1:=by unfold hH;rw[aF (by omega),aF (by omega)]
   rw[h2]
theorem xv:∀{n a:Nat}(C:lQ),a+1<n->dR n (fun i c=>C i (hH a (a+1) c))= -dR n C
 |n+1,a,C,h=>by
  rw[dR,dR]
  have key:∀k,k<n+1->(lT k*C 0 (hH a (a+1) k)*dR n (fun i j=>C (i+1) (hH a (a+1) (gO k j))))= -(fun k=>lT k*C 0 k*dR n (fun i j=>C (i+1) (gO k j))) (hH a (a+1) k):=fun k hk=>by
   simp only
   by_cases e1:k=a
   ·subst e1
    have s1:hH k (k+1) k=k+1:=by unfold hH;rw[aJ rfl]
    rw[s1,nb]
    have:(fun i j=>C (i+1) (hH k (k+1) (gO k j)))=fun i j=>C (i+1) (gO (k+1) j):=by
     funext i j
     congr 1
     unfold hH gO
     by_cases x:j<k
     ·rw[aJ x,aF (by omega),aF (by omega),aJ (by omega)]
     ·rw[aF x,aF (by omega)]
      by_cases y:j=k
      ·rw[aJ (by omega),aJ (by omega)];exact y.symm
      ·rw[aF (by omega),aF (by omega)]
    rw[this,kp,kp,Int.neg_neg]
   by_cases e2:k=a+1
   ·subst e2
    have s1:hH a (a+1) (a+1)=a:=by unfold hH;rw[aF (by omega),aJ rfl]
    rw[s1,nb]
    have:(fun i j=>C (i+1) (hH a (a+1) (gO (a+1) j)))=fun i j=>C (i+1) (gO a j):=by
     funext i j
     congr 1
     unfold hH gO
     by_cases x:j<a
     ·rw[aJ (show j<a+1 by omega),aJ x,aF (by omega),aF (by omega)]
     ·rw[aF x]
      by_cases y:j=a
      ·rw[aJ (show j<a+1 by omega),aJ y];omega
      ·rw[aF (show¬j<a+1 by omega),aF (by omega),aF (by omega)]
    rw[this,kp,kp]
   have s1:hH a (a+1) k=k:=by unfold hH;rw[aF e1,aF e2]
   rw[s1,<-Int.mul_neg]
   congr 1
   by_cases l:k<a
   ·obtain⟨b,rfl⟩:∃b,a=b+1:=⟨a-1,by omega⟩
    rw[<-xv (n:=n) (a:=b) (fun i j=>C (i+1) (gO k j)) (by omega)]
    congr 1
    funext i j
    congr 1
    unfold hH gO
    (repeat' split)<;>omega
   ·rw[<-xv (n:=n) (a:=a) (fun i j=>C (i+1) (gO k j)) (by omega)]
    congr 1
    funext i j
    congr 1
    unfold hH gO
    (repeat' split)<;>omega
  have e:=dJ key
  rw[e,oX,Nz (fun k=>lT k*C 0 k*dR n (fun i j=>C (i+1) (gO k j))) h]
def PN(j c:Nat):Nat:=if c=0 then j else if c<=j then c-1 else c
theorem EG:∀{n j:Nat}(C:lQ),j<n->dR n (fun i c=>C i (PN j c))=lT j*dR n C
 |n,0,C,h=>by
  have:(fun i c=>C i (PN 0 c))=C:=by
   funext i c
   congr 1
   unfold PN
   by_cases e:c=0
   ·rw[aJ e];exact e.symm
   ·rw[aF e,aF (by omega)]
  rw[this]
  show dR n C=1*dR n C
  rw[jc]
 |n,j+1,C,h=>by
  have:(fun i c=>C i (PN (j+1) c))=fun i c=>(fun i c=>C i (hH j (j+1) c)) i (PN j c):=by
   funext i c
   (try simp only)
   congr 1
   unfold PN hH
   by_cases e:c=0
   ·rw[aJ e,aJ e,aJ rfl]
   ·rw[aF e,aF e]
    by_cases l:c<=j
    ·rw[aJ (by omega),aJ l,aF (by omega),aF (by omega)]
    ·rw[aF l]
     by_cases z:c=j+1
     ·rw[aJ (by omega),aF (by omega),aJ z];omega
     ·rw[aF (by omega),aF (by omega),aF z]
  rw[this,EG (fun i c=>C i (hH j (j+1) c)) (by omega),xv C h,nb,Int.mul_neg,kp]
def qf(A:lQ)(j:Nat)(r:Nat->Int):lQ:=fun i k=>if k=j then r i else A i k
theorem Z9(j:Nat):lT j*lT j=1:=by unfold lT;split<;>rfl
theorem aaa{n:Nat}(A:lQ)(r:Nat->Int){i:Nat}(hi:i<n):cG (fun j=>A i j*dR n (qf A j r)) n=dR n A*r i:=by
 have hz:dR (n+1) (fun a b=>(fun(x:Nat)(y:Nat)=>match y with|0=>r x|y+1=>A x y) (match a with|0=>i|a+1=>a) b)=0:=
  IQ (i:=0) (j:=i+1) _ (by omega) (by omega) (by omega) rfl
 rw[dR,BA]at hz
 have h0:lT 0*(fun(x:Nat)(y:Nat)=>match y with|0=>r x|y+1=>A x y) i 0*dR n (fun a b=>(fun(x:Nat)(y:Nat)=>match y with|0=>r x|y+1=>A x y) a (gO 0 b))=r i*dR n A:=by
  show 1*r i*dR n _=_
  rw[jc]
  rfl
 have hs:∀j,j<n->lT (j+1)*A i j*dR n (fun a b=>(fun(x:Nat)(y:Nat)=>match y with|0=>r x|y+1=>A x y) a (gO (j+1) b))= -(A i j*dR n (qf A j r)):=fun j hj=>by
  have e:(fun a b=>(fun(x:Nat)(y:Nat)=>match y with|0=>r x|y+1=>A x y) a (gO (j+1) b))=fun a b=>qf A j r a (PN j b):=by
   funext a b
   cases b with
   |zero=>simp[gO,PN,qf]
   |succ b=>
    (try simp only)
    by_cases l:b+1<=j
    ·have s1:gO (j+1) (b+1)=b+1:=by unfold gO;rw[aJ (by omega)]
     have s2:PN j (b+1)=b:=by unfold PN;rw[aF (by omega),aJ l];rfl
     rw[s1,s2]
     unfold qf
     rw[aF (by omega)]
    ·have s1:gO (j+1) (b+1)=b+2:=by unfold gO;rw[aF (by omega)]
     have s2:PN j (b+1)=b+1:=by unfold PN;rw[aF (by omega),aF l]
     rw[s1,s2]
     unfold qf
     rw[aF (by omega)]
  rw[e,EG (qf A j r) hj,nb,kp,kp]
  congr 1
  rw[gV,p4 (A i j),<-gV,Z9,jc]
 have e2:cG (fun j=>lT (j+1)*A i j*dR n (fun a b=>(fun(x:Nat)(y:Nat)=>match y with|0=>r x|y+1=>A x y) a (gO (j+1) b))) n= -cG (fun j=>A i j*dR n (qf A j r)) n:=by
  rw[<-oX]
  exact dJ hs
 have e3:r i*dR n A+ -cG (fun j=>A i j*dR n (qf A j r)) n=0:=by
  rw[<-h0,<-e2]
  exact hz
 rw[jL (dR n A)]
 omega
def tT(a b:Int)(p:Nat):Bool:= !decide ((p:Int)=a)&& !decide ((p:Int)=b)
theorem nh{a b:Int}{p:Nat}:tT a b p=true↔(p:Int)≠a/\(p:Int)≠b:=by unfold tT;simp
def cX(n:Nat)(a b:Int):List Nat:=(List.range n).filter (tT a b)
theorem fK{n:Nat}{a b:Int}{p:Nat}:p∈cX n a b↔p<n/\(p:Int)≠a/\(p:Int)≠b:=by
 unfold cX
 rw[td,ko,nh]
theorem FT(n:Nat)(a b:Int):(cX n a b).Nodup:=List.Pairwise.filter _ List.nodup_range
def iT(g:aE)(a b:Int):Tn:=(cX g.length a b).map fun p:Nat=>((p:Int),g.getD p [])
def RG(g:aE)(a b:Int):Bool:=(List.range g.length).all fun p:Nat=> !(decide ((iS g p).getD a.toNat 0<0)&&decide ((iS g p).getD b.toNat 0<0))&& !(tT a b p&&decide ((g.getD p []).length=0))
def nU(g:aE)(a b:Int):Bool:=aZ g&&jX 0 ((g.length:Int)-1) a&&jX 0 ((g.length:Int)-1) b&& !decide (a=b)
def Lj(g:aE)(a b:Int):Bool:=nU g a b&&RG g a b
structure Can(g:aE)(a b:Int):Prop where
 cN:aZ g=true
 a0:0<=a
 a1:a<(g.length:Int)
 b0:0<=b
 b1:b<(g.length:Int)
 ne:a≠b
 eB:∀p:Nat,p<g.length->0<=(iS g p).getD a.toNat 0\/0<=(iS g p).getD b.toNat 0
 out:∀p:Nat,p<g.length->(p:Int)≠a->(p:Int)≠b->(g.getD p []).length≠0
theorem Lk{g:aE}{a b:Int}(h:nU g a b=true):aZ g=true/\(0<=a/\a<(g.length:Int))/\(0<=b/\b<(g.length:Int))/\a≠b:=by
 unfold nU at h
 simp only[bK,gE,aW,cA]at h
 exact⟨h.1.1.1,by omega,by omega,h.2⟩
theorem RH{g:aE}{a b:Int}(h:Lj g a b=true):Can g a b:=by
 unfold Lj at h
 rw[bK]at h
 obtain⟨hg,⟨a0,a1⟩,⟨b0,b1⟩,fH⟩:=Lk h.1
 have he:=h.2
 unfold RG at he
 rw[j6]at he
 refine⟨hg,a0,a1,b0,b1,fH,fun p hp=> ?_,fun p hp pa pb hz=> ?_⟩
 ·have:=he p (ko.2 hp)
  simp only[bK,gE,Bool.and_eq_false_iff,aW]at this
  omega
 ·have:=he p (ko.2 hp)
  rw[nh.2 ⟨pa,pb⟩,kk hz]at this
  simp at this
def tU(f:Int->Int)(l:aH):Int:=(l.map f).sum
theorem sa(f:Int->Int):tU f []=0:=rfl
theorem jS(f:Int->Int)(x:Int)(l:aH):tU f (x::l)=f x+tU f l:=by unfold tU;rw[bJ,List.sum_cons]
theorem Jj(f f':Int->Int):∀l,tU (fun x=>f x+f' x) l=tU f l+tU f' l
 |[]=>rfl
 |x::l=>by rw[jS,jS,jS,Jj f f' l];omega
theorem Jk(c:Int)(f:Int->Int):∀l,tU (fun x=>c*f x) l=c*tU f l
 |[]=>by rw[sa,sa,Int.mul_zero]
 |x::l=>by rw[jS,jS,Jk c f l,lx]
theorem BB(c:Int):∀l:aH,tU (fun _=>c) l=l.length*c
 |[]=>by rw[sa];simp
 |x::l=>by rw[jS,BB c l,List.length_cons];rw[show((l.length+1:Nat):Int)=(l.length:Int)+1 by omega,Int.add_mul];omega
theorem RI{f:Int->Int}{u:Int}:∀l:aH,(∀x,x∈l->u<=f x)->(l.length:Int)*u<=tU f l/\(tU f l<=l.length*u->∀x,x∈l->f x=u)
 |[],_=>⟨by rw[sa];simp,fun _ x hx=>by simp at hx⟩
 |x::l,h=>by
  obtain⟨h1,h2⟩:=RI l fun y hy=>h y (cK _ hy)
  have h0:=h x cE
  rw[jS,List.length_cons,show((l.length+1:Nat):Int)=(l.length:Int)+1 by omega,Int.add_mul,jc]
  refine⟨by omega,fun hle y hy=> ?_⟩
  rcases aO.1 hy with rfl|hy
  ·omega
  ·exact h2 (by omega) y hy
theorem RJ(f:Int->Int):∀n:Nat,0<n->∃p:Nat,p<n/\∀q:Nat,q<n->f p<=f q
 |1,_=>⟨0,by omega,fun q hq=>by rw[show q=0 by omega];exact cL _⟩
 |n+2,_=>by
  obtain⟨p,hp,hq⟩:=RJ f (n+1) (by omega)
  by_cases h:f p<=f ((n+1:Nat):Int)
  ·refine⟨p,by omega,fun q h2=> ?_⟩
   by_cases e:q=n+1
   ·rw[e];exact h
   ·exact hq q (by omega)
  ·refine⟨n+1,by omega,fun q h2=> ?_⟩
   by_cases e:q=n+1
   ·rw[e];exact cL _
   ·have:=hq q (by omega);omega
theorem Can.low{g:aE}{a b:Int}(C:Can g a b)(f:Int->Int)(ha:0<=f a)(hb:0<=f b)(H:∀p:Nat,p<g.length->(p:Int)≠a->(p:Int)≠b->tU f (g.getD p [])<=(g.getD p []).length*f p):∀p:Nat,p<g.length->0<=f p:=fun p0 QR=>by
 obtain⟨p,hp,hm⟩:=RJ f g.length (by omega)
 refine Classical.byContradiction fun hn=> ?_
 have hu:f p<0:=by have:=hm p0 QR;omega
 have key:∀(k:Nat)(q:Int),Way g p k q->f q=f p:=by
  intro k
  induction k with
  |zero=>intro q hq;rw[<-show(p:Int)=q from hq]
  |succ k ih=>
   rintro q ⟨x,hx,hq⟩
   have xr:=Way.rng C.cN (show(0:Int)<=p by omega) (by omega) hx
   have ex:=ih x hx
   have xe:((x.toNat:Nat):Int)=x:=by omega
   have hle:=H x.toNat (by omega) (by rw[xe];intro e;rw[e]at ex;omega) (by rw[xe];intro e;rw[e]at ex;omega)
   rw[xe,ex]at hle
   refine(RI (u:=f p) _ fun y hy=> ?_).2 hle q hq
   have hy':=hy
   rw[bH (by omega)]at hy'
   have yr:=(bL C.cN (bI (show x.toNat<g.length by omega))).2 y hy'
   have:=hm y.toNat (by omega)
   rw[show((y.toNat:Nat):Int)=y by omega]at this
   exact this
 rcases C.eB p hp with h|h
 ·have:=key _ _ (zU (p:=(p:Int)) C.cN (by omega) (by omega) C.a0 C.a1 h)
  omega
 ·have:=key _ _ (zU (p:=(p:Int)) C.cN (by omega) (by omega) C.b0 C.b1 h)
  omega
theorem Way.fst{g:aE}{p:Int}:∀{k:Nat}{s:Int},Way g p (k+1) s->∃e,e∈g.getD p.toNat []/\Way g e k s
 |0,s,h=>by
  obtain⟨x,hx,hs⟩:=h
  rw[<-show p=x from hx]at hs
  exact⟨s,hs,rfl⟩
 |k+1,s,h=>by
  obtain⟨x,hx,hs⟩:=h
  obtain⟨e,he,hw⟩:=Way.fst hx
  exact⟨e,he,x,hw,hs⟩
def uN(g:aE)(a b p:Int):Nat:=(if(iS g p).getD a.toNat 0<0 then(iS g p).getD b.toNat 0 else if(iS g p).getD b.toNat 0<0 then(iS g p).getD a.toNat 0 else min ((iS g p).getD a.toNat 0) ((iS g p).getD b.toNat 0)).toNat
theorem Can.dst{g:aE}{a b:Int}(C:Can g a b){p:Nat}(hp:p<g.length):(Way g p (uN g a b p) a\/Way g p (uN g a b p) b)/\∀k,Way g p k a\/Way g p k b->uN g a b p<=k:=by
 have p0:(0:Int)<=p:=by omega
 have p1:(p:Int)<(g.length:Int):=by omega
 have wa:=zU (p:=(p:Int)) (q:=a) C.cN p0 p1 C.a0 C.a1
 have wb:=zU (p:=(p:Int)) (q:=b) C.cN p0 p1 C.b0 C.b1
 have hf:=C.eB p hp
 have la:∀k,Way g p k a->_:=fun k h=>K7 C.cN p0 p1 h
 have lb:∀k,Way g p k b->_:=fun k h=>K7 C.cN p0 p1 h
 unfold uN
 generalize (iS g (p:Int)).getD a.toNat 0=x at*
 generalize (iS g (p:Int)).getD b.toNat 0=y at*
 refine⟨?_,fun k hk=> ?_⟩
 ·split
  ·exact .inr (wb (by omega))
  ·split
   ·exact .inl (wa (by omega))
   ·by_cases h:x<=y
    ·rw[Int.min_eq_left h];exact .inl (wa (by omega))
    ·rw[Int.min_eq_right (by omega)];exact .inr (wb (by omega))
 ·rcases hk with h|h
  ·have:=la k h
   rw[aF (by omega)]
   split<;>omega
  ·have:=lb k h
   split
   ·omega
   ·rw[aF (by omega)];omega
theorem Can.aab{g:aE}{a b:Int}(C:Can g a b){p:Nat}(hp:p<g.length)(pa:(p:Int)≠a)(pb:(p:Int)≠b):∃e,e∈g.getD p []/\uN g a b e<uN g a b p:=by
 obtain⟨hw,_⟩:=C.dst hp
 have hz:uN g a b p≠0:=fun h=>by
  rw[h]at hw
  rcases hw with h|h
  ·exact pa h
  ·exact pb h
 obtain⟨m,hm⟩:∃m,uN g a b p=m+1:=⟨uN g a b p-1,by omega⟩
 rw[hm]at hw⊢
 have key:∀s,Way g p (m+1) s->s=a\/s=b->∃e,e∈g.getD p []/\uN g a b e<m+1:=fun s h hs=>by
  obtain⟨e,he,hv⟩:=Way.fst h
  rw[show((p:Int)).toNat=p from rfl]at he
  refine⟨e,he,?_⟩
  rw[bH hp]at he
  have er:=(bL C.cN (bI hp)).2 e he
  have:=(C.dst (p:=e.toNat) (by omega)).2 m
  rw[show((e.toNat:Nat):Int)=e by omega]at this
  have:=this (by rcases hs with rfl|rfl;exact .inl hv;exact .inr hv)
  omega
 rcases hw with h|h
 ·exact key a h (.inl rfl)
 ·exact key b h (.inr rfl)
theorem yS{α β:Type}(f:α->List β)(c:α->β):∀l:List α,(∀x,x∈l->c x∈f x)->l.map c∈eQ (l.map f)
 |[],_=>eO.2 rfl
 |x::l,h=>by
  rw[bJ,bJ,eQ,List.mem_flatMap]
  exact⟨c x,h x cE,dN.2 ⟨_,yS f c l fun y hy=>h y (cK _ hy),rfl⟩⟩
theorem Jl{α:Type}:∀(l:List (List α))(m:Nat),(∀x,x∈l->x.length<=m)->(eQ l).length<=m^l.length
 |[],m,_=>by simp[eQ]
 |x::l,m,h=>by
  have ih:=Jl l m fun y hy=>h y (cK _ hy)
  have hx:=h x cE
  rw[eQ,List.length_flatMap,List.length_cons,Nat.pow_succ]
  have:(x.map fun a=>((eQ l).map (a:: ·)).length)=x.map fun _=>(eQ l).length:=qM fun a _=>by rw[bB]
  rw[this,List.map_const',List.sum_replicate_nat]
  rw[qe (m^l.length)]
  exact vm hx ih
theorem Jm{α β γ:Type}(f:α->β)(c:α->γ):∀l:List α,(l.map f).zip (l.map c)=l.map fun x=>(f x,c x)
 |[]=>rfl
 |x::l=>by rw[bJ,bJ,bJ,List.zip_cons_cons,Jm f c l]
def lW(g:aE)(a b:Int):Int:=dR (cX g.length a b).length (j3 (iT g a b))
theorem BC(g:aE)(a b:Int):(iT g a b).length=(cX g.length a b).length:=by unfold iT;rw[bB]
theorem NA(g:aE)(a b:Int):((iT g a b).map (·.1)).Nodup:=by
 unfold iT
 rw[iP]
 refine List.Pairwise.map _ (fun x y h e=>h ?_) (FT g.length a b)
 simp only[Function.comp]at e
 omega
theorem NB(g:aE)(a b:Int):lW g a b=(((eQ ((iT g a b).map (·.2))).countP fun c=>PK (cX g.length a b).length (((iT g a b).map (·.1)).zip c):Nat):Int):=by
 unfold lW
 rw[FI _ _ (BC g a b) (NA g a b),Bm _ _ (BC g a b)]
theorem Can.pos{g:aE}{a b:Int}(C:Can g a b):0<lW g a b:=by
 rw[NB]
 have step:∀p:Nat,∃e:Int,p∈cX g.length a b->e∈g.getD p []/\uN g a b e<uN g a b p:=fun p=>by
  by_cases hp:p∈cX g.length a b
  ·obtain⟨h1,h2,h3⟩:=fK.1 hp
   obtain⟨e,he⟩:=C.aab h1 h2 h3
   exact⟨e,fun _=>he⟩
  ·exact⟨0,fun h=>absurd h hp⟩
 let f:Nat->Int:=fun p=>Classical.choose (step p)
 have hf:∀p:Nat,p∈cX g.length a b->f p∈g.getD p []/\uN g a b (f p)<uN g a b p:=fun p=>zA (step p)
 have hc:(cX g.length a b).map f∈eQ ((iT g a b).map (·.2)):=by
  unfold iT
  rw[iP]
  exact yS _ _ _ fun p hp=>(hf p hp).1
 have hk:PK (cX g.length a b).length (((iT g a b).map (·.1)).zip ((cX g.length a b).map f))=true:=by
  unfold iT
  rw[iP,Jm]
  refine(FJ _ _ (by rw[bB]) ?_).2 ⟨fun x=>uN g a b x,fun t ht _=> ?_⟩
  ·have:=NA g a b
   unfold iT at this
   rw[iP]at this⊢
   exact this
  ·obtain⟨p,hp,rfl⟩:=dN.1 ht
   exact(hf p hp).2
 have:0<(eQ ((iT g a b).map (·.2))).countP fun c=>PK (cX g.length a b).length (((iT g a b).map (·.1)).zip c):=List.countP_pos_iff.2 ⟨_,hc,hk⟩
 omega
theorem vP{n:Nat}{a b:Int}(h0:0<=a)(h1:a<(n:Int))(k0:0<=b)(k1:b<(n:Int))(fH:a≠b):(cX n a b).length+2=n:=by
 have key:∀m:Nat,(cX m a b).length+((if a<(m:Int)then 1 else 0)+(if b<(m:Int)then 1 else 0))=m:=by
  intro m
  induction m with
  |zero=>rw[aF (by omega),aF (by omega)];rfl
  |succ m ih=>
   unfold cX at ih⊢
   rw[pY,xg,bT]
   by_cases e1:(m:Int)=a
   ·rw[qb (by rw[nh];exact fun h=>h.1 e1),List.filter_nil,List.length_nil]
    by_cases e2:b<(m:Int)
    ·rw[aF (by omega),aJ e2]at ih
     rw[aJ (by omega),aJ (by omega)];omega
    ·rw[aF (by omega),aF e2]at ih
     rw[aJ (by omega),aF (by omega)];omega
   ·by_cases e2:(m:Int)=b
    ·rw[qb (by rw[nh];exact fun h=>h.2 e2),List.filter_nil,List.length_nil]
     by_cases e3:a<(m:Int)
     ·rw[aJ e3,aF (by omega)]at ih
      rw[aJ (by omega),aJ (by omega)];omega
     ·rw[aF e3,aF (by omega)]at ih
      rw[aF (by omega),aJ (by omega)];omega
    ·rw[rO (nh.2 ⟨e1,e2⟩),List.filter_nil,List.length_cons,List.length_nil]
     rw[show(if a<((m+1:Nat):Int)then 1 else 0)=(if a<(m:Int)then 1 else 0) by split<;>split<;>omega,show(if b<((m+1:Nat):Int)then 1 else 0)=(if b<(m:Int)then 1 else 0) by split<;>split<;>omega]
     omega
 have:=key n
 rw[aJ h1,aJ k1]at this
 omega
theorem Can.den{g:aE}{a b:Int}(C:Can g a b):1<=lW g a b/\lW g a b<=15625:=by
 refine⟨C.pos,?_⟩
 rw[NB]
 have hl:=vP C.a0 C.a1 C.b0 C.b1 C.ne
 have gl:=bD C.cN
 have h1:=List.countP_le_length (p:=fun c=>PK (cX g.length a b).length (((iT g a b).map (·.1)).zip c)) (l:=eQ ((iT g a b).map (·.2)))
 have h2:=Jl ((iT g a b).map (·.2)) 5 fun x hx=>by
  unfold iT at hx
  rw[iP]at hx
  obtain⟨p,hp,rfl⟩:=dN.1 hx
  have hp:=(fK.1 hp).1
  show(g.getD p []).length<=5
  rw[bH hp]
  exact(bL C.cN (bI hp)).1
 rw[bB,BC]at h2
 have h3:5^(cX g.length a b).length<=5^6:=Ah (by omega) (by omega)
 have h4:(5:Nat)^6=15625:=rfl
 omega
def Ll(g:aE)(a b:Int)(own:Int->Int)(A B:Int)(i:Nat):Int:=own ((cX g.length a b).getD i 0:Nat)+A*gB a (g.getD ((cX g.length a b).getD i 0) [])+B*gB b (g.getD ((cX g.length a b).getD i 0) [])
def yT(g:aE)(a b:Int)(own:Int->Int)(A B:Int)(j:Nat):Int:=dR (cX g.length a b).length (qf (j3 (iT g a b)) j (Ll g a b own A B))
def Jn(g:aE)(a b:Int)(own:Int->Int)(A B:Int)(q:Int):Int:=if q=a then A*lW g a b else if q=b then B*lW g a b else yT g a b own A B ((cX g.length a b).idxOf q.toNat)
theorem xx(x:Nat->Int)(L:Int):∀{i m:Nat},i<m->cG (fun j=>(if i=j then L else 0)*x j) m=L*x i
 |i,m+1,h=>by
  rw[cG]
  by_cases e:i=m
  ·subst e
   rw[kV fun j hj=>by rw[aF (show¬i=j by omega),na]]
   rw[aJ rfl,mE]
  ·rw[xx x L (show i<m by omega),aF e,na,lS]
theorem ni{g:aE}{a b:Int}{j:Nat}(hj:j<(cX g.length a b).length):p9 (iT g a b) j=((cX g.length a b)[j]:Nat)/\C7 (iT g a b) j=g.getD (cX g.length a b)[j] []:=by
 unfold p9 C7 iT
 rw[eG,dT (by rw[bB];exact hj),bV]
 exact⟨rfl,rfl⟩
theorem FU{n:Nat}{a b:Int}{j:Nat}(hj:j<(cX n a b).length):(cX n a b).idxOf (cX n a b)[j]=j:=(FT n a b).idxOf_getElem j hj
theorem RL{g:aE}{a b:Int}(own:Int->Int)(A B:Int)(fH:a≠b):∀l:aH,(∀x,x∈l->0<=x/\x<(g.length:Int))->tU (Jn g a b own A B) l=A*lW g a b*gB a l+B*lW g a b*gB b l+cG (fun j=>gB (p9 (iT g a b) j) l*yT g a b own A B j) (cX g.length a b).length
 |[],_=>by
  rw[sa,kV fun j _=>by rw[gB,na]]
  simp[gB]
 |y::l,h=>by
  have ih:=RL own A B fH l fun x hx=>h x (cK _ hx)
  have hy:=h y cE
  rw[jS,ih,gB,gB]
  have e1:cG (fun j=>gB (p9 (iT g a b) j) (y::l)*yT g a b own A B j) (cX g.length a b).length=cG (fun j=>(if y=p9 (iT g a b) j then 1 else 0)*yT g a b own A B j) (cX g.length a b).length+cG (fun j=>gB (p9 (iT g a b) j) l*yT g a b own A B j) (cX g.length a b).length:=by
   rw[<-oT]
   exact dJ fun j _=>by(try simp only);rw[gB,Int.add_mul]
  rw[e1]
  by_cases ea:y=a
  ·have e2:cG (fun j=>(if y=p9 (iT g a b) j then 1 else 0)*yT g a b own A B j) (cX g.length a b).length=0:=kV fun j hj=>by
    (try simp only)
    rw[aF,na]
    rw[(ni hj).1]
    have:=(fK.1 (bI hj)).2.1
    omega
   rw[e2]
   unfold Jn
   rw[aJ ea,aJ ea,aF (by omega),mE (gB b l),lx,Int.mul_one]
   omega
  ·by_cases eb:y=b
   ·have e2:cG (fun j=>(if y=p9 (iT g a b) j then 1 else 0)*yT g a b own A B j) (cX g.length a b).length=0:=kV fun j hj=>by
     (try simp only)
     rw[aF,na]
     rw[(ni hj).1]
     have:=(fK.1 (bI hj)).2.2
     omega
    rw[e2]
    unfold Jn
    rw[aF ea,aJ eb,aF ea,aJ eb,mE (gB a l),lx (B*lW g a b),Int.mul_one]
    omega
   ·have hm:y.toNat∈cX g.length a b:=fK.2 ⟨by omega,by omega,by omega⟩
    have hi:=BD.2 hm
    have e2:cG (fun j=>(if y=p9 (iT g a b) j then 1 else 0)*yT g a b own A B j) (cX g.length a b).length=yT g a b own A B ((cX g.length a b).idxOf y.toNat):=by
     have e3:=xx (yT g a b own A B) 1 hi
     rw[jc]at e3
     rw[<-e3]
     refine dJ fun j hj=> ?_
     (try simp only)
     congr 1
     rw[(ni hj).1]
     by_cases e4:(cX g.length a b).idxOf y.toNat=j
     ·rw[aJ e4,aJ]
      subst e4
      rw[List.getElem_idxOf]
      omega
     ·rw[aF e4,aF]
      intro e5
      apply e4
      rw[show y.toNat=(cX g.length a b)[j] by omega]
      exact FU hj
    rw[e2]
    unfold Jn
    rw[aF ea,aF eb,aF ea,aF eb,mE (gB a l),mE (gB b l)]
    omega
theorem Can.bal{g:aE}{a b:Int}(C:Can g a b)(own:Int->Int)(A B:Int){p:Nat}(hp:p<g.length)(pa:(p:Int)≠a)(pb:(p:Int)≠b):((g.getD p []).length:Int)*Jn g a b own A B p=tU (Jn g a b own A B) (g.getD p [])+own p*lW g a b:=by
 have hm:p∈cX g.length a b:=fK.2 ⟨hp,pa,pb⟩
 have hi:=BD.2 hm
 have hr:∀x,x∈g.getD p []->0<=x/\x<(g.length:Int):=fun x hx=>by
  rw[bH hp]at hx
  exact(bL C.cN (bI hp)).2 x hx
 have hc:=aaa (j3 (iT g a b)) (Ll g a b own A B) hi
 have hg:(cX g.length a b)[(cX g.length a b).idxOf p]=p:=List.getElem_idxOf hi
 have e1:cG (fun j=>j3 (iT g a b) ((cX g.length a b).idxOf p) j*dR (cX g.length a b).length (qf (j3 (iT g a b)) j (Ll g a b own A B))) (cX g.length a b).length=((g.getD p []).length:Int)*yT g a b own A B ((cX g.length a b).idxOf p)+ -cG (fun j=>gB (p9 (iT g a b) j) (g.getD p [])*yT g a b own A B j) (cX g.length a b).length:=by
  rw[<-oX,<-xx (yT g a b own A B) _ hi,<-oT]
  refine dJ fun j hj=> ?_
  (try simp only)
  unfold j3
  rw[(ni hi).2,hg,Int.sub_mul,Int.sub_eq_add_neg]
  rfl
 have e2:Ll g a b own A B ((cX g.length a b).idxOf p)=own p+A*gB a (g.getD p [])+B*gB b (g.getD p []):=by
  unfold Ll
  rw[show(cX g.length a b).getD ((cX g.length a b).idxOf p) 0=p by rw[eG,dT hi,Option.getD_some,hg]]
 rw[e1,e2]at hc
 rw[RL own A B C.ne _ hr]
 have e3:Jn g a b own A B p=yT g a b own A B ((cX g.length a b).idxOf p):=by
  unfold Jn
  rw[aF pa,aF pb]
  rfl
 rw[e3]
 have e4:dR (cX g.length a b).length (j3 (iT g a b))=lW g a b:=rfl
 rw[e4,lx,lx]at hc
 have e5:lW g a b*own p=own p*lW g a b:=jL _ _
 have e6:lW g a b*(A*gB a (g.getD p []))=A*lW g a b*gB a (g.getD p []):=by rw[<-gV,jL (lW g a b)]
 have e7:lW g a b*(B*gB b (g.getD p []))=B*lW g a b*gB b (g.getD p []):=by rw[<-gV,jL (lW g a b)]
 rw[e5,e6,e7]at hc
 omega
def C9(g:aE)(a b q:Int):Int:=Jn g a b (fun _=>0) 1 0 q
theorem Yl(g:aE)(a b:Int):C9 g a b a=lW g a b:=by unfold C9 Jn;rw[aJ rfl,jc]
theorem Ym(g:aE){a b:Int}(h:a≠b):C9 g a b b=0:=by unfold C9 Jn;rw[aF fun e=>h e.symm,aJ rfl,na]
theorem Can.ch{g:aE}{a b:Int}(C:Can g a b){p:Nat}(hp:p<g.length)(pa:(p:Int)≠a)(pb:(p:Int)≠b):((g.getD p []).length:Int)*C9 g a b p=tU (C9 g a b) (g.getD p []):=by
 have:=C.bal (fun _=>0) 1 0 hp pa pb
 simp only[na,lS]at this
 exact this
theorem Can.aac{g:aE}{a b:Int}(C:Can g a b){p:Nat}(hp:p<g.length):0<=C9 g a b p/\C9 g a b p<=lW g a b:=by
 have hd:=C.pos
 refine⟨C.low (C9 g a b) (by rw[Yl];omega) (by rw[Ym g C.ne];omega) (fun p hp pa pb=>by rw[C.ch hp pa pb];exact cL _) p hp,?_⟩
 have:=C.low (fun q=>lW g a b+ -1*C9 g a b q) (by(try simp only);rw[Yl];omega) (by(try simp only);rw[Ym g C.ne];omega) (fun p hp pa pb=>by
  (try simp only)
  rw[Jj,BB,Jk,<-C.ch hp pa pb,lx]
  rw[p4]
  exact cL _) p hp
 (try simp only at this)
 omega
@[reducible] def tR:TypeId:=153
@[reducible] def tRs:TypeId:=186
theorem rRs:qF aB tRs=some (tR,2,16,[VI 0,VI 0]):=by kernel_rfl
theorem uO{x:Int}(h: -9223372036854775808<x)(h':x<9223372036854775808):max x (aX (0-x))=(x.natAbs:Int):=by
 rw[aP _ (by omega) (by omega)]
 by_cases e:0<=x
 ·rw[Int.max_eq_left (by omega)];omega
 ·rw[Int.max_eq_right (by omega)];omega
theorem NC(m k:Nat):Int.tmod (m:Int) (k:Int)=((m%k:Nat):Int):=by rw[Int.ofNat_tmod]
def lX(x d:Int):Int×Int:=(x/(Int.gcd x d:Int),d/(Int.gcd x d:Int))
theorem Ai{x d:Int}(h:0<d):0<Int.gcd x d:=Int.gcd_pos_of_ne_zero_right _ (by omega)
theorem RN{x d:Int}:(Int.gcd x d:Int)*(lX x d).1=x/\(Int.gcd x d:Int)*(lX x d).2=d:=⟨Int.mul_ediv_cancel' (Int.gcd_dvd_left ..),Int.mul_ediv_cancel' (Int.gcd_dvd_right ..)⟩
theorem ND{x d:Int}:Int.tdiv x (Int.gcd x d:Int)=(lX x d).1/\Int.tdiv d (Int.gcd x d:Int)=(lX x d).2:=⟨Int.tdiv_eq_ediv_of_dvd (Int.gcd_dvd_left ..),Int.tdiv_eq_ediv_of_dvd (Int.gcd_dvd_right ..)⟩
theorem BE{g x y:Int}(hg:0<g)(h:g*x=y):x.natAbs<=y.natAbs:=by
 rw[<-h,sZ]
 exact Nat.le_mul_of_pos_left _ (by omega)
theorem Jo{x d:Int}(h:0<d):(lX x d).1.natAbs<=x.natAbs/\(lX x d).2.natAbs<=d.natAbs:=by
 have hg:=Ai (x:=x) h
 have hm:=RN (x:=x) (d:=d)
 exact⟨BE (by omega) hm.1,BE (by omega) hm.2⟩
theorem afH(a b:Int)(ha: -9223372036854775808<a/\a<9223372036854775808)(hb: -9223372036854775808<b/\b<9223372036854775808)(h:Heap):u4 aB 263 #[VI a,VI b] h (VI (Int.gcd a b)):=by
 intro K HK
 refine alK a b h K (Fa _ _ _ _ ⟨_,rfl,Fa _ _ _ _ ⟨_,rfl,?_⟩⟩)
 rw[uO ha.1 ha.2,uO hb.1 hb.2]
 refine⟨fun n x y h'=>∃m:Nat,x=m/\y=n/\Nat.gcd m n=Int.gcd a b/\Fr No h h',⟨b.natAbs,a.natAbs,rfl,rfl,rfl,Fr.refl _ _⟩,?_⟩
 rintro n x y h1 ⟨m,rfl,rfl,hg,f1⟩ cU
 refine⟨fun e=> ?_,fun e=> ?_⟩
 ·have e:=bU e
  simp only[aW]at e
  refine⟨e,m%n,j9 _ (by omega),n,rfl,NC m n,?_,f1⟩
  rw[<-hg,Nat.gcd_comm m n,Nat.gcd_rec n m,Nat.gcd_comm]
 ·have e:=bS e
  simp only[aT]at e
  have:n=0:=by omega
  subst this
  rw[Nat.gcd_zero_right]at hg
  rw[hg]
  exact HK h1 f1
theorem VR(x d:Int)(hx: -9223372036854775808<x/\x<9223372036854775808)(hd:0<d)(hd2:d<9223372036854775808)(h:Heap):u4 aB 219 #[VI x,VI d] h (.agg #[VI (lX x d).1,VI (lX x d).2]):=by
 intro K HK
 refine akX x d h K fun b1 h1 fw f1 cU=> ?_
 have f1:=f1.aM
 refine afH x d hx ⟨by omega,hd2⟩ h1 _ fun h2 f2=>⟨_,rfl,cU.aC f2,?_⟩
 refine⟨fun y h'=>y=(Int.gcd x d:Int)/\Fr No h h',⟨fun e=>by simp only[aT]at e;omega,fun _=>⟨rfl,f1.aA f2⟩⟩,?_⟩
 rintro y h3 ⟨rfl,f3⟩ dA
 have hg:=Ai (x:=x) hd
 have ht:=ND (x:=x) (d:=d)
 have hb:=Jo (x:=x) hd
 rw[ht.1,ht.2,aP _ (by omega) (by omega),aP _ (by omega) (by omega)]
 refine⟨by omega,by omega,fun h4 f4 fi=>HK h4 (f3.fresh f4 fun k hk=> ?_)⟩
 simp only[In,aO,aS,aN]at hk
 omega
theorem RP(a b:Int)(h:Heap)(K:aL)(HK:K (VI (max a b)) h):aG aB 122 #[VI a,VI b] h K:=by
 refine ae2 a b h K ⟨fun e=> ?_,fun e=> ?_⟩
 ·simp only[aT]at e
  rw[Int.max_eq_left (by omega)]at HK
  exact HK
 ·simp only[aW]at e
  rw[Int.max_eq_right (by omega)]at HK
  exact HK
theorem VT(a:Int)(ha: -9223372036854775808<a)(Og:a<9223372036854775808)(h:Heap)(K:aL)(HK:K (VI a.natAbs) h):aG aB 272 #[VI a] h K:=
 alZ a h K (RP _ _ _ _ ⟨_,rfl,.nil,by rw[uO ha Og];exact HK⟩)
theorem Pa(x d:Int)(hx: -9223372036854775808<x/\x<9223372036854775808)(hd:0<d)(hd2:d<9223372036854775808)(h:Heap):u4 aB 236 #[VI x,VI d] h (.agg #[VI (lX x d).1,VI (lX x d).2]):=by
 intro K HK
 refine v236 x d h K fun b1 h1 fw f1 cU=> ?_
 have f1:=f1.aM
 refine⟨fun y z h'=>y=x/\z=d/\Fr No h h',⟨fun e=>by simp only[aT]at e;omega,fun _=>⟨rfl,rfl,f1⟩⟩,?_⟩
 rintro y z h2 ⟨rfl,rfl,f2⟩ cR
 refine VT y hx.1 hx.2 h2 _ ⟨_,rfl,cR,?_⟩
 refine⟨fun n p q h'=>∃m:Nat,p=m/\q=n/\Nat.gcd m n=Int.gcd y z/\Fr No h h',⟨z.natAbs,y.natAbs,rfl,by omega,rfl,f2⟩,?_⟩
 rintro n p q h3 ⟨m,rfl,rfl,hg,f3⟩ dA
 refine⟨fun e=> ?_,fun e=> ?_⟩
 ·simp only[aT]at e
  refine⟨by omega,m%n,j9 _ (by omega),n,rfl,NC m n,?_,f3⟩
  rw[<-hg,Nat.gcd_comm m n,Nat.gcd_rec n m,Nat.gcd_comm]
 ·simp only[aW]at e
  have:n=0:=by omega
  subst this
  rw[Nat.gcd_zero_right]at hg
  rw[hg]
  have hg:=Ai (x:=y) hd
  have ht:=ND (x:=y) (d:=z)
  have hb:=Jo (x:=y) hd
  rw[ht.1,ht.2,aP _ (by omega) (by omega),aP _ (by omega) (by omega)]
  refine⟨by omega,by omega,fun h4 f4 fi=>HK h4 (f3.fresh f4 fun k hk=> ?_)⟩
  simp only[In,aO,aS,aN]at hk
  omega
def FV(g:aE)(a b:Int)(p:Nat):Bool:= !(decide ((iS g p).getD a.toNat 0<0)&&decide ((iS g p).getD b.toNat 0<0))&& !(tT a b p&&decide ((g.getD p []).length=0))
theorem NE{g:aE}{a b:Int}{p:Nat}(hp:p<g.length)(h:FV g a b p=false):RG g a b=false:=List.all_eq_false.2 ⟨p,ko.2 hp,by unfold FV at h;rw[h];decide⟩
theorem Jp{g:aE}{a b:Int}(h:∀p,p<g.length->FV g a b p=true):RG g a b=true:=j6.2 fun p hp=>h p (ko.1 hp)
theorem Jq{S:aK}{h:Heap}{t:Sl}{eB:aH}(R:bE S h t eB){b:Int}(b0:0<=b)(b1:b<(eB.length:Int)){x p a l:Int}{KF KN:Prop}(hF:(!(decide (x<0)&&decide (eB.getD b.toNat 0<0))&& !((!decide (p=a)&& !decide (p=b))&&decide (l=0)))=false->KF)(hN:(!(decide (x<0)&&decide (eB.getD b.toNat 0<0))&& !((!decide (p=a)&& !decide (p=b))&&decide (l=0)))=true->KN):
 ((decide (x<0))=true->fq t b/\∃y:Int,bG h (Sl.at t b 1)=some (VI y)/\((decide (y<0))=true->KF)/\((decide (y<0))=false->((!decide (p=a))=true->((!decide (p=b))=true->((decide (l=0))=true->KF)/\((decide (l=0))=false->KN))/\((!decide (p=b))=false->KN))/\((!decide (p=a))=false->KN)))/\
 ((decide (x<0))=false->((!decide (p=a))=true->((!decide (p=b))=true->((decide (l=0))=true->KF)/\((decide (l=0))=false->KN))/\((!decide (p=b))=false->KN))/\((!decide (p=a))=false->KN)):=by
 refine⟨fun e1=>⟨R.bQ b0 b1,_,R.get b0 b1,fun e2=>hF ?_,fun e2=>⟨fun e3=>⟨fun e4=>⟨fun e5=>hF ?_,fun e5=>hN ?_⟩,fun e4=>hN ?_⟩,fun e3=>hN ?_⟩⟩,fun e1=>⟨fun e3=>⟨fun e4=>⟨fun e5=>hF ?_,fun e5=>hN ?_⟩,fun e4=>hN ?_⟩,fun e3=>hN ?_⟩⟩
 all_goals (try rw[<-bA (by omega)]at e2)
 all_goals (rw[e1];(try rw[e2]);(try rw[e3]);(try rw[e4]);(try rw[e5]);first|rfl|simp)
theorem RQ{S:aK}{h:Heap}{g:Sl}{aI:aE}(G:dE S h g aI)(a b:Int):u4 aB 217 #[.agg #[g.v],VI a,VI b] h (VB (Lj aI a b)):=by
 intro K HK
 unfold Lj at HK
 refine akU g a b h K fun b1 h1 fw f1 cU=> ?_
 have f1:=f1.aM
 refine bC gH (fun k=>h1.size<=k) (fun _ h=>h) 2 (by omega) [VI a,VI b] rfl rfl fun t h2 n2 c2 o2 f2 m2 _=>⟨t,rfl,cU.aC f2,?_⟩
 have o2:bE (fun k=>h1.size<=k) h2 t [a,b]:=o2.fW
 have f12:=f1.aA f2
 have cR:=cU.aC f2
 refine vA (G.no f12) o2 _ fun h3 f3=>⟨_,rfl,cR.aC f3,fun e=> ?_,fun e=> ?_⟩
 all_goals simp only[List.all_cons,List.all_nil,sV]at e
 all_goals have f13:=f12.aA f3
 ·have e:=bU e
  have:nU aI a b=false:=by unfold nU;rw[Bool.and_assoc (aZ aI),e];rfl
  rw[this,gI]at HK
  exact HK h3 f13
 have e:=bS e
 refine⟨fun e2=> ?_,fun e2=> ?_⟩
 ·have:nU aI a b=false:=by unfold nU;rw[e2,Bool.not_true,Bool.and_false]
  rw[this,gI]at HK
  exact HK h3 f13
 have hgo:nU aI a b=true:=by unfold nU;rw[Bool.and_assoc (aZ aI),e,e2];rfl
 obtain⟨hg,⟨a0,a1⟩,⟨b0,b1⟩,fH⟩:=Lk hgo
 rw[hgo,fc]at HK
 refine⟨fun n i h'=>0<=i/\i+n=(aI.length:Int)/\(∀q:Nat,(q:Int)<i->FV aI a b q=true)/\Fr No h h',⟨aI.length,by omega,by omega,fun q hq=>by omega,f13⟩,?_⟩
 rintro n i h4 ⟨i0,i1,i2,f4⟩ fi
 have G4:=G.no f4
 refine⟨fun e3=> ?_,fun e3=> ?_⟩
 ·have hi:=G4.lt e3
  have ei:((i.toNat:Nat):Int)=i:=by omega
  obtain⟨si,ci,ri⟩:=G4.get i0 hi
  have eg:aI.getD i.toNat []=aI[i.toNat]'(by omega):=bH (by omega)
  have ln:=ri.len
  refine⟨G4.bQ i0 hi,si,ci,El G4 hg i0 hi _ fun t h5 o5 hl f5=>⟨t,rfl,fi.aC f5,?_⟩⟩
  have r5:bE _ h5 t _:=Ow.fW o5
  have f45:=f4.aA f5
  have key:∀v,(!(decide ((iS aI i)[a.toNat]'(by omega)<0)&&decide ((iS aI i).getD b.toNat 0<0))&& !((!decide (i=a)&& !decide (i=b))&&decide ((si.n:Int)=0)))=v->FV aI a b i.toNat=v:=fun v hv=>by
   rw[<-hv]
   unfold FV tT
   rw[ei,eg,bA (show a.toNat<(iS aI i).length by omega),show decide ((aI[i.toNat]'(by omega)).length=0)=decide ((si.n:Int)=0)from vD.2 ⟨fun _=>by omega,fun _=>by omega⟩]
  refine⟨r5.bQ a0 (by omega),_,r5.get a0 (by omega),Jq r5 b0 (by omega) (fun hq=> ?_) fun hq=> ?_⟩
  ·rw[NE (by omega) (key _ hq)]at HK
   exact HK h5 f45
  ·rw[G4.succ i0 hi]
   refine⟨n-1,by omega,by omega,by omega,fun q h2=> ?_,f45⟩
   by_cases h3:(q:Int)<i
   ·exact i2 q h3
   ·rw[show q=i.toNat by omega];exact key _ hq
 ·have hi:=G4.ge e3
  rw[Jp fun p hp=>i2 p (by omega)]at HK
  exact HK h4 f4
theorem Pb{S:aK}{h:Heap}{g:Sl}{aI:aE}(G:dE S h g aI)(a b:Int):u4 aB 232 #[.agg #[g.v],VI a,VI b] h (VB (nU aI a b)):=by
 intro K HK
 refine v232 g a b h K fun b1 h1 fw f1 cU=> ?_
 have f1:=f1.aM
 refine dY (G.no f1) a _ fun h2 f2=>⟨_,rfl,cU.aC f2,fun e=> ?_,fun e=> ?_⟩
 ·refine dY (G.no (f1.aA f2)) b _ fun h3 f3=>⟨_,rfl,(cU.aC f2).aC f3,fun e2=> ?_,fun e2=> ?_⟩
  ·unfold nU at HK
   rw[e]at HK
   rw[bK]at e2
   rw[e2.2]at HK
   exact HK h3 ((f1.aA f2).aA f3)
  ·unfold nU at HK
   rw[bK]at e
   rw[e.1,fc]at e2
   rw[e2,Bool.and_false,gI]at HK
   exact HK h3 ((f1.aA f2).aA f3)
 ·unfold nU at HK
  rw[e]at HK
  exact HK h2 (f1.aA f2)
theorem VU{S:aK}{h:Heap}{g:Sl}{aI:aE}(G:dE S h g aI){a b:Int}(hgo:nU aI a b=true):u4 aB 233 #[.agg #[g.v],VI a,VI b] h (VB (RG aI a b)):=by
 intro K HK
 obtain⟨hg,⟨a0,a1⟩,⟨b0,b1⟩,fH⟩:=Lk hgo
 refine v233 g a b h K fun b1 h1 fw f1 cU=> ?_
 have f1:=f1.aM
 refine⟨fun n i h'=>0<=i/\i+n=(aI.length:Int)/\(∀q:Nat,(q:Int)<i->FV aI a b q=true)/\Fr No h h',⟨aI.length,by omega,by omega,fun q hq=>by omega,f1⟩,?_⟩
 rintro n i h4 ⟨i0,i1,i2,f4⟩ fi
 have G4:=G.no f4
 refine⟨fun e3=> ?_,fun e3=> ?_⟩
 ·have hi:=G4.lt e3
  have ei:((i.toNat:Nat):Int)=i:=by omega
  obtain⟨si,ci,ri⟩:=G4.get i0 hi
  have eg:aI.getD i.toNat []=aI[i.toNat]'(by omega):=bH (by omega)
  have ln:=ri.len
  refine⟨G4.bQ i0 hi,si,ci,MP G4 hg i0 hi _ fun t h5 o5 hl f5=>⟨t,rfl,fi.aC f5,?_⟩⟩
  have r5:bE _ h5 t _:=Ow.fW o5
  have f45:=f4.aA f5
  have key:∀v,(!(decide ((iS aI i)[a.toNat]'(by omega)<0)&&decide ((iS aI i).getD b.toNat 0<0))&& !((!decide (i=a)&& !decide (i=b))&&decide ((si.n:Int)=0)))=v->FV aI a b i.toNat=v:=fun v hv=>by
   rw[<-hv]
   unfold FV tT
   rw[ei,eg,bA (show a.toNat<(iS aI i).length by omega),show decide ((aI[i.toNat]'(by omega)).length=0)=decide ((si.n:Int)=0)from vD.2 ⟨fun _=>by omega,fun _=>by omega⟩]
  refine⟨r5.bQ a0 (by omega),_,r5.get a0 (by omega),Jq r5 b0 (by omega) (fun hq=> ?_) fun hq=> ?_⟩
  ·rw[NE (by omega) (key _ hq)]at HK
   exact HK h5 f45
  ·rw[G4.succ i0 hi]
   refine⟨n-1,by omega,by omega,by omega,fun q h2=> ?_,f45⟩
   by_cases h3:(q:Int)<i
   ·exact i2 q h3
   ·rw[show q=i.toNat by omega];exact key _ hq
 ·have hi:=G4.ge e3
  rw[Jp fun p hp=>i2 p (by omega)]at HK
  exact HK h4 f4
theorem RR{S:aK}{h:Heap}{g:Sl}{aI:aE}(G:dE S h g aI)(a b:Int):u4 aB 185 #[.agg #[g.v],VI a,VI b] h (VB (Lj aI a b)):=by
 intro K HK
 unfold Lj at HK
 refine akc g a b h K fun b1 h1 fw f1 cU=> ?_
 have f1:=f1.aM
 refine Pb (G.no f1) a b _ fun h2 f2=>⟨_,rfl,cU.aC f2,fun e=> ?_,fun e=> ?_⟩
 ·rw[e,fc]at HK
  exact VU (G.no (f1.aA f2)) e _ fun h3 f3=>⟨_,rfl,(cU.aC f2).aC f3,HK h3 ((f1.aA f2).aA f3)⟩
 ·rw[e,gI]at HK
  exact HK h2 (f1.aA f2)
def fy(ps:List Nat)(p:Nat)(l:aH)(L:Int):aH:=ps.map fun q:Nat=>(if q=p then L else 0)-gB q l
theorem dX(ps:List Nat)(p:Nat)(l:aH)(L:Int):(fy ps p l L).length=ps.length:=by unfold fy;rw[bB]
theorem gW{ps:List Nat}{p:Nat}{l:aH}{L:Int}{j:Nat}(h:j<(fy ps p l L).length):(fy ps p l L)[j]=(if ps[j]'(by rw[dX]at h;exact h)=p then L else 0)-gB (ps[j]'(by rw[dX]at h;exact h):Nat) l:=by simp[fy]
theorem Lm(ps:List Nat)(p:Nat):fy ps p [] 0=List.replicate ps.length 0:=by
 apply j8 (by rw[dX,jd])
 intro j h1 h2
 rw[gW h1,Af,gB]
 split<;>rfl
theorem FW{ps:List Nat}(nd:ps.Nodup){i j:Nat}(hi:i<ps.length)(hj:j<ps.length)(h:ps[i]=ps[j]):i=j:=by
 have hp:=E9.1 nd
 rcases tg i j with a|a|a
 ·exact absurd h (hp i j hi hj a)
 ·exact a
 ·exact absurd h.symm (hp j i hj hi a)
theorem Ln{ps:List Nat}(nd:ps.Nodup){p:Nat}{l:aH}{L x:Int}{i:Nat}(hi:i<ps.length)(e:((ps[i]:Nat):Int)=x):fy ps p (l++[x]) L=(fy ps p l L).set i ((fy ps p l L).getD i 0-1):=by
 have hl:i<(fy ps p l L).length:=by rw[dX];exact hi
 have hd:=bA hl
 rw[gW hl]at hd
 rw[hd]
 apply j8 (by rw[bY,dX,dX])
 intro j h1 h2
 have hj:j<(fy ps p l L).length:=by rw[dX]at h1⊢;exact h1
 have IU:j<ps.length:=by rw[dX]at hj;exact hj
 rw[gW h1,fQ,nf,gW hj]
 simp only[gB]
 by_cases c:i=j
 ·subst c
  rw[aJ (show i=i from rfl),aJ (show x=((ps[i]:Nat):Int)from e.symm)];omega
 ·rw[aF (show¬i=j from c),aF (show¬x=((ps[j]:Nat):Int)from fun h=>c (FW nd hi IU (by omega)))];omega
theorem BF{ps:List Nat}{p:Nat}{l:aH}{L x:Int}(h:∀q,q∈ps->((q:Nat):Int)≠x):fy ps p (l++[x]) L=fy ps p l L:=by
 unfold fy
 refine qM fun q hq=> ?_
 have hz:(if x=(q:Int)then(1:Int)else 0)=0:=aF fun e=>h q hq e.symm
 rw[nf]
 simp only[gB]
 rw[hz];omega
theorem Pc{ps:List Nat}(nd:ps.Nodup){l:aH}{L:Int}{i:Nat}(hi:i<ps.length):fy ps ps[i] l L=(fy ps ps[i] l 0).set i ((fy ps ps[i] l 0).getD i 0+L):=by
 have hl:i<(fy ps ps[i] l 0).length:=by rw[dX];exact hi
 have hd:=bA hl
 rw[gW hl]at hd
 rw[hd]
 apply j8 (by rw[bY,dX,dX])
 intro j h1 h2
 have hj:j<(fy ps ps[i] l 0).length:=by rw[dX]at h1⊢;exact h1
 have IU:j<ps.length:=by rw[dX]at hj;exact hj
 rw[gW h1,fQ,gW hj]
 by_cases c:i=j
 ·subst c
  rw[aJ rfl,aJ rfl,aJ rfl];omega
 ·rw[aF c,aF fun h=>c (FW nd hi IU h.symm),aF fun h=>c (FW nd hi IU h.symm)]
def ui(g:aE)(a b:Int):aE:=(cX g.length a b).map fun p=>fy (cX g.length a b) p (g.getD p []) (g.getD p []).length
def Jr(g:aE)(a b:Int)(own:Int->Int)(A B:Int)(p:Nat):Int:=own p+A*gB a (g.getD p [])+B*gB b (g.getD p [])
def pj(g:aE)(a b:Int)(own:Int->Int)(A B:Int):aH:=(cX g.length a b).map (Jr g a b own A B)
theorem lY(g:aE)(a b:Int):(ui g a b).length=(cX g.length a b).length/\Sq (cX g.length a b).length (ui g a b):=by
 have e:(ui g a b).length=(cX g.length a b).length:=by unfold ui;rw[bB]
 refine⟨e,e,fun i hi=> ?_⟩
 rw[show(ui g a b)[i]=_ from bV _,dX]
theorem FY(g:aE)(a b:Int){i j:Nat}(hi:i<(cX g.length a b).length)(hj:j<(cX g.length a b).length):dB (ui g a b) i j=j3 (iT g a b) i j:=by
 have hr:i<(ui g a b).length:=by rw[(lY g a b).1];exact hi
 have er:(ui g a b)[i]=fy (cX g.length a b) (cX g.length a b)[i] (g.getD (cX g.length a b)[i] []) (g.getD (cX g.length a b)[i] []).length:=bV _
 unfold dB j3
 rw[bH hr,er,bA (by rw[dX];exact hj),gW (by rw[dX];exact hj),(ni hi).2,(ni hj).1]
 congr 1
 by_cases e:i=j
 ·subst e;rw[aJ rfl,aJ rfl]
 ·rw[aF e,aF fun h=>e (FW (FT _ _ _) hi hj h.symm)]
theorem xy{g:aE}(hg:aZ g=true)(a b:Int):Small (cX g.length a b).length (dB (ui g a b)):=fun i j hi hj=>by
 rw[FY g a b hi hj]
 unfold j3
 rw[(ni hi).2]
 have hp:=(fK.1 (bI hi)).1
 have hb:(g.getD (cX g.length a b)[i] []).length<=5:=by rw[bH hp];exact(bL hg (bI hp)).1
 have:=kZ (p9 (iT g a b) j) (g.getD (cX g.length a b)[i] [])
 split<;>omega
theorem NF(g:aE)(a b:Int):dR (cX g.length a b).length (dB (ui g a b))=lW g a b:=eZ fun i j hi hj=>FY g a b hi hj
theorem po(g:aE)(a b:Int)(own:Int->Int)(A B:Int):(pj g a b own A B).length=(cX g.length a b).length:=by unfold pj;rw[bB]
theorem vQ(g:aE)(a b:Int)(own:Int->Int)(A B:Int){i:Nat}(hi:i<(cX g.length a b).length):(pj g a b own A B).getD i 0=Ll g a b own A B i:=by
 rw[bA (by rw[po];exact hi)]
 refine(show(pj g a b own A B)[i]'(by rw[po];exact hi)=Jr g a b own A B (cX g.length a b)[i]from bV _).trans ?_
 have e1:(cX g.length a b).getD i 0=(cX g.length a b)[i]:=by rw[eG,dT hi,Option.getD_some]
 unfold Ll Jr
 rw[e1]
theorem Lo(g:aE)(a b:Int)(own:Int->Int)(A B:Int)(k:Nat):dR (cX g.length a b).length (qf (dB (ui g a b)) k fun i=>(pj g a b own A B).getD i 0)=yT g a b own A B k:=by
 refine eZ fun i j hi hj=> ?_
 unfold qf
 split
 ·exact vQ g a b own A B hi
 ·exact FY g a b hi hj
def vR(rows:aE)(k:Nat)(r:aH):aE:=rows.zipIdx.map fun t=>t.1.set k (r.getD t.2 0)
theorem nj(rows:aE)(k:Nat)(r:aH):(vR rows k r).length=rows.length:=by unfold vR;rw[bB,List.length_zipIdx]
theorem vS{rows:aE}{k:Nat}{r:aH}{i:Nat}(hi:i<rows.length):(vR rows k r)[i]'(by rw[nj];exact hi)=rows[i].set k (r.getD i 0):=by
 refine(bV (l:=rows.zipIdx) _ (h:=by rw[bB,List.length_zipIdx];exact hi)).trans ?_
 rw[List.getElem_zipIdx]
 (try simp only[iM])
theorem NG{n:Nat}{rows:aE}(Q:Sq n rows)(k:Nat)(r:aH):Sq n (vR rows k r):=⟨by rw[nj];exact Q.len,fun i hi=>by
 rw[nj]at hi
 rw[vS hi,bY]
 exact Q.row i hi⟩
theorem Js{n:Nat}{rows:aE}(Q:Sq n rows){k:Nat}{r:aH}{i j:Nat}(hi:i<n)(hj:j<n):dB (vR rows k r) i j=qf (dB rows) k (fun i=>r.getD i 0) i j:=by
 have hl:=Q.len
 have jH:i<rows.length:=by omega
 have hr:=Q.row i jH
 have h1:i<(vR rows k r).length:=by rw[nj];exact jH
 have h2:j<((vR rows k r)[i]'h1).length:=by rw[vS jH,bY,hr];exact hj
 rw[jf h1 h2]
 have:((vR rows k r)[i]'h1)[j]'h2=(rows[i].set k (r.getD i 0))[j]'(by rw[bY,hr];exact hj):=by congr 1;exact vS jH
 rw[this,fQ]
 unfold qf
 by_cases e:k=j
 ·rw[aJ e,aJ e.symm]
 ·rw[aF e,aF fun h=>e h.symm,jf jH (by rw[hr];exact hj)]
theorem uP{n:Nat}{rows:aE}(Q:Sq n rows)(S:Small n (dB rows)){k:Nat}{r:aH}(hr:∀i,i<n->(r.getD i 0).natAbs<=10):Small n (dB (vR rows k r)):=fun i j hi hj=>by
 rw[Js Q hi hj]
 unfold qf
 split
 ·exact hr i hi
 ·exact S i j hi hj
theorem BG{n:Nat}{rows:aE}(Q:Sq n rows)(k:Nat)(r:aH):dR n (dB (vR rows k r))=dR n (qf (dB rows) k fun i=>r.getD i 0):=eZ fun i j hi hj=>Js Q hi hj
theorem EH{rows:aE}{k:Nat}{r:aH}{i:Nat}(hi:i<rows.length):(vR rows k r).take (i+1)=(vR rows k r).take i++[rows[i].set k (r.getD i 0)]:=by
 rw[og (by rw[nj];exact hi),vS hi]
def BH(g:aE)(a b:Int)(own:Int->Int)(A B:Int)(k:Nat):aH:=(List.range g.length).map fun q:Nat=>if(q:Int)=a then A*lW g a b else if(q:Int)=b then B*lW g a b else if(cX g.length a b).idxOf q<k then yT g a b own A B ((cX g.length a b).idxOf q)else 0
theorem nk(g:aE)(a b:Int)(own:Int->Int)(A B:Int)(k:Nat):(BH g a b own A B k).length=g.length:=by unfold BH;rw[bB,gh]
theorem vT{g:aE}{a b:Int}{own:Int->Int}{A B:Int}{k q:Nat}(h:q<(BH g a b own A B k).length):(BH g a b own A B k)[q]=if(q:Int)=a then A*lW g a b else if(q:Int)=b then B*lW g a b else if(cX g.length a b).idxOf q<k then yT g a b own A B ((cX g.length a b).idxOf q)else 0:=by
 refine(bV (l:=List.range g.length) _ (h:=h)).trans ?_
 rw[kO]
theorem Pd{g:aE}{a b:Int}(own:Int->Int)(A B:Int)(a0:0<=a)(b0:0<=b)(fH:a≠b):BH g a b own A B 0=((List.replicate g.length 0).set a.toNat (A*lW g a b)).set b.toNat (B*lW g a b):=by
 apply j8 (by rw[nk,bY,bY,jd])
 intro q h1 h2
 rw[vT h1,fQ,fQ,Af]
 by_cases ea:(q:Int)=a
 ·rw[aJ ea,aF (by omega),aJ (by omega)]
 ·rw[aF ea]
  by_cases eb:(q:Int)=b
  ·rw[aJ eb,aJ (by omega)]
  ·rw[aF eb,aF (by omega),aF (by omega),aF (by omega)]
theorem Pe{g:aE}{a b:Int}(own:Int->Int)(A B:Int){k:Nat}(hk:k<(cX g.length a b).length):BH g a b own A B (k+1)=(BH g a b own A B k).set ((cX g.length a b)[k]) (yT g a b own A B k):=by
 apply j8 (by rw[nk,bY,nk])
 intro q h1 h2
 have h3:q<(BH g a b own A B k).length:=by rw[bY]at h2;exact h2
 have hm:=fK.1 (bI hk)
 rw[vT h1,fQ,vT h3]
 by_cases e:(cX g.length a b)[k]=q
 ·rw[aJ e,aF (by omega),aF (by omega)]
  subst e
  rw[FU hk,aJ (by omega)]
 ·rw[aF e]
  by_cases ea:(q:Int)=a
  ·rw[aJ ea,aJ ea]
  ·rw[aF ea,aF ea]
   by_cases eb:(q:Int)=b
   ·rw[aJ eb,aJ eb]
   ·rw[aF eb,aF eb]
    have hq:q∈cX g.length a b:=fK.2 ⟨by rw[nk]at h3;exact h3,ea,eb⟩
    have hi:=BD.2 hq
    by_cases l:(cX g.length a b).idxOf q<k
    ·rw[aJ l,aJ (by omega)]
    ·rw[aF l,aF]
     intro h
     apply e
     have:(cX g.length a b).idxOf q=k:=by omega
     subst this
     exact List.getElem_idxOf hi
def FZ(g:aE)(a b:Int)(own:Int->Int)(A B:Int):aH:=(List.range g.length).map fun q:Nat=>Jn g a b own A B q
theorem Jt(g:aE)(a b:Int)(own:Int->Int)(A B:Int):(FZ g a b own A B).length=g.length:=by unfold FZ;rw[bB,gh]
theorem Ju{g:aE}{a b:Int}{own:Int->Int}{A B:Int}{q:Nat}(h:q<(FZ g a b own A B).length):(FZ g a b own A B)[q]=Jn g a b own A B q:=by
 refine(bV (l:=List.range g.length) _ (h:=h)).trans ?_
 rw[kO]
theorem RS(g:aE)(a b:Int)(own:Int->Int)(A B:Int):BH g a b own A B (cX g.length a b).length=FZ g a b own A B:=by
 apply j8 (by rw[nk,Jt])
 intro q h1 h2
 rw[vT h1,Ju h2]
 unfold Jn
 by_cases ea:(q:Int)=a
 ·rw[aJ ea,aJ ea]
 ·rw[aF ea,aF ea]
  by_cases eb:(q:Int)=b
  ·rw[aJ eb,aJ eb]
  ·rw[aF eb,aF eb,aJ]
   ·rfl
   ·exact BD.2 (fK.2 ⟨by rw[nk]at h1;exact h1,ea,eb⟩)
theorem EI{g:aE}(hg:aZ g=true){a b:Int}{own:Int->Int}{A B:Int}(hn:(cX g.length a b).length<=7)(hr:∀i,i<(cX g.length a b).length->(Ll g a b own A B i).natAbs<=10)(k:Nat):(yT g a b own A B k).natAbs<=50400000000:=by
 rw[<-Lo,<-BG (lY g a b).2]
 refine cB (oY (uP (lY g a b).2 (xy hg a b) fun i hi=>by rw[vQ g a b own A B hi];exact hr i hi)) ?_
 exact cB (Bk hn) (by rw[ZX];exact aY _)
theorem Jv{n:Nat}{a b:Int}{i:Nat}(hi:(i:Nat)<n):cX (i+1) a b=if tT a b i then cX i a b++[i]else cX i a b:=by
 unfold cX
 rw[pY,xg]
 cases h:tT a b i with
 |true=>rw[aJ rfl,rO h,List.filter_nil]
 |false=>rw[aF (by decide),qb (by rw[h];decide),List.filter_nil,gK]
theorem qg{ps:List Nat}{i:Nat}(h:i<(ps.map fun p:Nat=>(p:Int)).length):(ps.map fun p:Nat=>(p:Int))[i]=((ps[i]'(by rw[bB]at h;exact h):Nat):Int):=bV _
theorem jB(x y:Int)(l:aH):gB x (l++[y])=gB x l+(if y=x then 1 else 0):=by rw[nf];simp only[gB];omega
theorem sf{l:aH}{a:Int}(h:l.length<=5)(j:Nat):0<=gB a (l.take j)/\gB a (l.take j)<=5:=by
 have:=kZ a (l.take j)
 rw[fD]at this
 omega
theorem RW{A o:Int}(hA:A=0\/A=1)(h0:0<=o)(h5:o<=5):0<=A*o/\A*o<=5:=by
 rcases hA with rfl|rfl<;>omega
set_option maxHeartbeats 4000000 in
theorem aad{h h8:Heap}{g Pf rt inner:Sl}{aI:aE}{a b:Int}(C:Can aI a b){own:Int->Int}{A B:Int}(hA:A=0\/A=1)(hB:B=0\/B=1)(hr:∀i,i<(cX aI.length a b).length->(Ll aI a b own A B i).natAbs<=10)(gn:g.n=aI.length){b1:Nat}(g8:Fr No h h8)(gZ:Vars h8 [(b1,[g.v])])
 (M8:dE (fun k=>k<h8.size) h8 Pf (ui aI a b)) (R8:bE (fun k=>k<h8.size) h8 rt (pj aI a b own A B)) (I8:bE (fun k=>k<h8.size) h8 inner ((cX aI.length a b).map fun p:Nat=>(p:Int))) (K:aL) (HK:∀t h',cM h' (Iv h.size h'.size) t (FZ aI a b own A B)->Fr No h h'->K (.tuple #[t.v,VI (lW aI a b)]) h'):
 aG aB 212 #[(Sl.v Pf)] h8 fun afI VV=>∃xz:Int,afI=(VI xz)/\Vars VV [(b1,[(Sl.v g)])]/\
 j5 aB (Instr.makeSlice mW (VI (g.n:Int)) (VI (g.n:Int))) VV fun afJ Jw=>∃ks:Sl,afJ=(Sl.v ks)/\Vars Jw [(b1,[(Sl.v g)])]/\
 fq ks a/\
 fC Jw (Sl.at ks a 1)/\Vars (dS Jw (Sl.at ks a 1) (VI (aX (A*xz)))) [(b1,[(Sl.v g)])]/\
 ∀xA:Heap,xA=dS Jw (Sl.at ks a 1) (VI (aX (A*xz)))->Vars xA [(b1,[(Sl.v g)])]->
 fq ks b/\
 fC xA (Sl.at ks b 1)/\Vars (dS xA (Sl.at ks b 1) (VI (aX (B*xz)))) [(b1,[(Sl.v g)])]/\
 ∀RX:Heap,RX=dS xA (Sl.at ks b 1) (VI (aX (B*xz)))->Vars RX [(b1,[(Sl.v g)])]->
 ∃RC:Nat->Int->Heap->Prop,(∃n0:Nat,RC n0 0 RX)/\
 ∀(n_5:Nat)(oC:Int)(oD:Heap),RC n_5 oC oD->Vars oD [(b1,[(Sl.v g)])]->
 ((decide (oC<(inner.n:Int)))=true->
 fq inner oC/\
 ∃BI:Int,bG oD (Sl.at inner oC 1)=some (VI BI)/\
 j5 aB (Instr.buildSlice pU 0 #[]) oD fun afK F0=>∃RY:Sl,afK=(Sl.v RY)/\Vars F0 [(b1,[(Sl.v g)])]/\
 ∃ZZ:Nat->Sl->Int->Heap->Prop,(∃n0:Nat,ZZ n0 RY 0 F0)/\
 ∀(n_6:Nat)(xB:Sl)(sr:Int)(Ga:Heap),ZZ n_6 xB sr Ga->Vars Ga [(b1,[(Sl.v g)])]->
 ((decide (sr<(Pf.n:Int)))=true->
 fq Pf sr/\
 ∃RZ:Sl,bG Ga (Sl.at Pf sr 1)=some (Sl.v RZ)/\
 aG aB 152 #[(Sl.v RZ)] Ga fun afL Gb=>∃xC:Sl,afL=(Sl.v xC)/\Vars Gb [(b1,[(Sl.v g)])]/\
 fq rt sr/\
 ∃Lp:Int,bG Gb (Sl.at rt sr 1)=some (VI Lp)/\
 fq xC oC/\
 fC Gb (Sl.at xC oC 1)/\Vars (dS Gb (Sl.at xC oC 1) (VI Lp)) [(b1,[(Sl.v g)])]/\
 ∀vU:Heap,vU=dS Gb (Sl.at xC oC 1) (VI Lp)->Vars vU [(b1,[(Sl.v g)])]->
 j5 aB (Instr.buildSlice pU 1 #[(0,(Sl.v xC))]) vU fun afM vV=>∃R5:Sl,afM=(Sl.v R5)/\Vars vV [(b1,[(Sl.v g)])]/\
 j5 aB (cD pU pU pU (Sl.v xB) (Sl.v R5)) vV fun afN BJ=>∃Sa:Sl,afN=(Sl.v Sa)/\Vars BJ [(b1,[(Sl.v g)])]/\
 ∃m:Nat,m<n_6/\ZZ m Sa (aX (sr+1)) BJ)/\
 ((decide (sr<(Pf.n:Int)))=false->
 aG aB 212 #[(Sl.v xB)] Ga fun afO Jx=>∃Lq:Int,afO=(VI Lq)/\Vars Jx [(b1,[(Sl.v g)])]/\
 fq ks BI/\
 fC Jx (Sl.at ks BI 1)/\Vars (dS Jx (Sl.at ks BI 1) (VI Lq)) [(b1,[(Sl.v g)])]/\
 ∀Gc:Heap,Gc=dS Jx (Sl.at ks BI 1) (VI Lq)->Vars Gc [(b1,[(Sl.v g)])]->
 ∃m:Nat,m<n_5/\RC m (aX (oC+1)) Gc))/\
 ((decide (oC<(inner.n:Int)))=false->
 K (Value.tuple #[(Sl.v ks),(VI xz)]) oD):=by
 have hg:=C.cN
 have gl:=bD hg
 have il:=vP C.a0 C.a1 C.b0 C.b1 C.ne
 have l1:b1<h8.size:=gZ.head.lt
 have wJ:∀{F:aK},(∀k,F k->h8.size<=k)->∀p,p∈[(b1,[g.v])]->¬F p.1:=fun hF p hp hk=>by
  simp only[aO,aS,aN]at hp
  subst hp
  have:=hF _ hk
  (try simp only at this)
  omega
 have Q2:∀q,q∈cX aI.length a b->q<aI.length:=fun q hq=>(fK.1 hq).1
 have hQ:=(lY aI a b).2
 have hS:=xy hg a b
 have hDe:=NF aI a b
 have hCe:=Lo aI a b own A B
 have hz0:=Pd (g:=aI) own A B C.a0 C.b0 C.ne
 have Qd:=fun k hk=>Pe (g:=aI) (a:=a) (b:=b) own A B (k:=k) hk
 have Zy:=RS aI a b own A B
 have hRb:∀i,i<(cX aI.length a b).length->((pj aI a b own A B).getD i 0).natAbs<=10:=fun i hi=>by rw[vQ aI a b own A B hi];exact hr i hi
 have dn:=C.den
 have ml:=(lY aI a b).1
 have rl:=po aI a b own A B
 generalize cX aI.length a b=ps at*
 have Yn:(ps.map fun p:Nat=>(p:Int)).length=ps.length:=bB _
 have hQ':Sq (ui aI a b).length (ui aI a b):=by rw[ml];exact hQ
 have hS':Small (ui aI a b).length (dB (ui aI a b)):=by rw[ml];exact hS
 refine oB M8 hQ' (by omega) hS' _ fun Kn f22=>⟨_,rfl,gZ.aC f22,?_⟩
 rw[ml,hDe]
 have z22:=f22.size
 refine fO gH (fun k=>Kn.size<=k) (fun _ h=>h) .i64 .i64 g.n g.n (aY _) (by omega) fun t Ug n23 c23 o23 f23 m23 _=>⟨t,rfl,(gZ.aC f22).aC f23,?_⟩
 have z23:=f23.size
 have amT:=(gZ.aC f22).aC f23
 have o23:cM Ug (Iv Kn.size Ug.size) t (List.replicate aI.length 0):=by
  have e:(List.replicate g.n [VI 0]).flatten=(List.replicate aI.length (0:Int)).map VI:=by rw[gn];simp[kT]
  rw[e]at o23;exact Ow.gS o23
 have aae:∀p,p∈[(b1,[g.v])]->¬Iv Kn.size Ug.size p.1:=wJ fun k hk=>by have:=hk.1;omega
 refine iQ o23 C.a0 (by rw[jd];exact C.a1) amT aae _ fun h24 o24 f24 V24=> ?_
 refine iQ o24 C.b0 (by rw[bY,jd];exact C.b1) V24 aae _ fun Kk o25 f25 V25=> ?_
 have wd:∀X:Int,X=0\/X=1->aX (X*lW aI a b)=X*lW aI a b:=fun X hX=>aP _ (by rcases hX with rfl|rfl<;>omega) (by rcases hX with rfl|rfl<;>omega)
 rw[wd A hA,wd B hB,<-hz0]at o25
 have afP:=f24.trans f25
 have M23:dE (fun k=>k<Kn.size) Ug Pf (ui aI a b):=((M8.no f22).no f23).mono fun k hk=>by omega
 have R23:bE (fun k=>k<Kn.size) Ug rt (pj aI a b own A B):=((R8.no f22).no f23).mono fun k hk=>by omega
 have I23:bE (fun k=>k<Kn.size) Ug inner (ps.map fun p:Nat=>(p:Int)):=((I8.no f22).no f23).mono fun k hk=>by omega
 refine⟨fun m k h'=>0<=k/\k+m=(ps.length:Int)/\cM h' (Iv Kn.size Ug.size) t (BH aI a b own A B k.toNat)/\Fr (fun q=>Kn.size<=q) Ug h',⟨ps.length,cL _,by omega,o25,afP.mono fun q _ hq=>hq.1⟩,?_⟩
 rintro m3 k vC ⟨k0,k1,o26,f26⟩ uG
 have z26:=f26.size
 have g26:Fr No h vC:=(((g8.aA f22).aA f23)).fresh f26 fun q hq=>by have:=g8.size;omega
 have Sb:∀{T:aK}{x y:Heap},Fr T x y->(∀q,T q->Kn.size<=q)->∀q,q<Kn.size->¬T q:=fun _ hT q hq hk=>by have:=hT q hk;omega
 have M26:=M23.fr f26 (Sb f26 fun q hq=>hq)
 have R26:=R23.fr f26 (Sb f26 fun q hq=>hq)
 have I26:=I23.fr f26 (Sb f26 fun q hq=>hq)
 refine⟨fun e3=> ?_,fun e3=> ?_⟩
 ·have hk:=I26.lt e3
  have Ue:k.toNat<ps.length:=by omega
  have cI:=I26.get k0 hk
  rw[qg]at cI
  have hpm:=bI Ue
  have Lr:=Q2 _ hpm
  have aaf:=Qd k.toNat Ue
  refine⟨I26.bQ k0 hk,_,cI,?_⟩
  refine bC tN (fun q=>vC.size<=q) (fun _ h=>h) 0 (by omega) [] rfl rfl fun ot Vc n27 c27 QY f27 m27 _=>⟨ot,rfl,uG.aC f27,?_⟩
  have amU:ia Vc (fun q=>vC.size<=q) ot []:=⟨[],rfl,QY,fun i h1=>by simp at h1,fun i j h1=>by simp at h1,fun i h1=>by simp at h1⟩
  refine⟨fun m x i h'=>0<=i/\i+m=(ps.length:Int)/\ia h' (fun q=>vC.size<=q) x ((vR (ui aI a b) k.toNat (pj aI a b own A B)).take i.toNat)/\Fr (fun q=>vC.size<=q) vC h',⟨ps.length,cL _,by omega,amU,f27.aC⟩,?_⟩
  rintro m4 x i h28 ⟨i0,i1,o28,f28⟩ Pg
  have z28:=f28.size
  have M28:=M26.fr f28 (Sb f28 fun q hq=>by omega)
  have R28:=R26.fr f28 (Sb f28 fun q hq=>by omega)
  refine⟨fun e4=> ?_,fun e4=> ?_⟩
  ·have hi:=M28.lt e4
   obtain⟨si,ci,ri⟩:=M28.get i0 hi
   have amV:=hQ'.row i.toNat (by omega)
   refine⟨M28.bQ i0 hi,si,ci,zJ ri (by omega) _ fun t2 h29 o29 f29=>⟨t2,rfl,Pg.aC f29,?_⟩⟩
   have R29:=R28.no f29
   have z29:=f29.size
   refine⟨R29.bQ i0 (by omega),_,R29.get i0 (by omega),iQ (o29.mono (F':=fun q=>h28.size<=q) fun q _ hq=>hq.1) k0 (by omega) (Pg.aC f29) (wJ fun q hq=>by omega) _ fun h30 o30 f30 V30=> ?_⟩
   have z30:=f30.size
   refine jz (lo:=vC.size) (m:=h28.size) (dO.fr (dO.gS o28) (f29.aC.trans f30) fun q _ hq js=>by have:=hq.2;omega) o30 z28 (by omega) V30 (fun p hp=>by simp only[aO,aS,aN]at hp;subst hp;show b1<vC.size;omega) (by rw[fD];omega) _ fun t3 Zu o32 f32 V32=> ?_
   rw[M28.succ i0 hi]
   refine⟨m4-1,by omega,by omega,by omega,?_,((f28.trans f29.aC).trans (f30.mono fun q _ hq=>by omega)).trans f32⟩
   rw[show(i+1).toNat=i.toNat+1 by omega,EH (by omega),bA (by omega)]
   exact o32
  ·have hi:=M28.ge e4
   have pl:=nj (ui aI a b) k.toNat (pj aI a b own A B)
   rw[cW (by omega)]at o28
   have Qp:=NG hQ k.toNat (pj aI a b own A B)
   have Sp:=uP hQ hS (k:=k.toNat) hRb
   have dp:=BG hQ k.toNat (pj aI a b own A B)
   rw[hCe]at dp
   refine oB (dO.rd o28) (by rw[pl,ml];exact Qp) (by omega) (by rw[pl,ml];exact Sp) _ fun h33 f33=>⟨_,rfl,Pg.aC f33,?_⟩
   rw[pl,ml,dp]
   have Yo:=f28.trans f33.aC
   have o33:cM h33 (Iv Kn.size Ug.size) t (BH aI a b own A B k.toNat):=o26.fr Yo fun q hq js=>by have:=(o26.aR hq).1.2;omega
   refine iQ o33 (i:=((ps[k.toNat]' Ue:Nat):Int)) (by omega) (by rw[nk];omega) (Pg.aC f33) aae _ fun h34 o34 f34 V34=> ?_
   rw[I26.succ k0 hk]
   refine⟨m3-1,by omega,by omega,by omega,?_,(f26.trans (Yo.mono fun q _ hq=>by omega)).trans (f34.mono fun q _ hq=>hq.1)⟩
   rw[show(k+1).toNat=k.toNat+1 by omega,aaf]
   simp only[Int.toNat_natCast]at o34
   exact o34
 ·have hk:=I26.ge e3
  rw[show k.toNat=ps.length by omega,Zy]at o26
  exact HK t vC (o26.mono fun q _ hq=>⟨by have:=hq.1;have:=g8.size;omega,by have:=hq.2;omega⟩) g26
set_option maxHeartbeats 4000000 in
theorem Sc{S:aK}{h:Heap}{g:Sl}{aI:aE}(G:dE S h g aI){a b:Int}(C:Can aI a b)(ow:Value)(own:Int->Int){A B:Int}(hA:A=0\/A=1)(hB:B=0\/B=1)(hw:∀p:Nat,0<=own p/\own p<=5)(hr:∀i,i<(cX aI.length a b).length->(Ll aI a b own A B i).natAbs<=10)
 (hO:∀(p:Nat)(h':Heap)(K':aL),p<aI.length->Fr No h h'->K' (VI (own p)) h'->iW aB ow [VI p] h' K') (K:aL) (HK:∀t h',cM h' (Iv h.size h'.size) t (FZ aI a b own A B)->Fr No h h'->K (.tuple #[t.v,VI (lW aI a b)]) h'):aG aB 261 #[.agg #[g.v],VI a,VI b,ow,VI A,VI B] h K:=by
 have hg:=C.cN
 have gl:=bD hg
 have fH:=C.ne
 have il:=vP C.a0 C.a1 C.b0 C.b1 C.ne
 refine alG g a b ow A B h K fun b1 h1 fw f1 cU=> ?_
 have f1:=f1.aM
 have z1:=f1.size
 have l1:b1<h1.size:=cU.head.lt
 have wJ:∀{F:aK},(∀k,F k->h1.size<=k)->∀p,p∈[(b1,[g.v])]->¬F p.1:=fun hF p hp hk=>by
  simp only[aO,aS,aN]at hp
  subst hp
  have:=hF _ hk
  (try simp only at this)
  omega
 refine bC gH (fun k=>h1.size<=k) (fun _ h=>h) 0 (by omega) [] rfl rfl fun u h2 n2 c2 o2 f2 m2 _=>⟨u,rfl,cU.aC f2,?_⟩
 refine⟨fun m x p h'=>0<=p/\p+m=(aI.length:Int)/\cM h' (fun k=>h1.size<=k) x ((cX p.toNat a b).map fun p:Nat=>(p:Int))/\Fr (fun k=>h1.size<=k) h1 h',⟨aI.length,cL _,by omega,o2,f2.aC⟩,?_⟩
 rintro m inner p h3 ⟨p0,p1,o3,f3⟩ dA
 have g3:=f1.fresh f3 fun k hk=>by omega
 have gn:=G.len
 refine⟨fun e=> ?_,fun e=> ?_⟩
 ·have hp:=G.lt e
  have eit:=Jv (a:=a) (b:=b) (show p.toNat<p.toNat+1 by omega)
  rw[G.succ p0 hp]
  have next:tT a b p.toNat=false->∃m':Nat,m'<m/\0<=p+1/\p+1+m'=(aI.length:Int)/\cM h3 (fun k=>h1.size<=k) inner ((cX (p+1).toNat a b).map fun p:Nat=>(p:Int))/\Fr (fun k=>h1.size<=k) h1 h3:=fun hi=>by
   rw[show(p+1).toNat=p.toNat+1 by omega,eit,hi]
   exact⟨m-1,by omega,by omega,by omega,o3,f3⟩
  refine⟨fun e2=>⟨fun e3=> ?_,fun e3=>next ?_⟩,fun e2=>next ?_⟩
  ·have e2:=bU e2
   have e3:=bU e3
   simp only[aW]at e2 e3
   have hi:tT a b p.toNat=true:=nh.2 ⟨by omega,by omega⟩
   refine nT (lo:=h1.size) o3 f3.size dA (fun p hp=>by simp only[aO,aS,aN]at hp;subst hp;exact l1) (by rw[bB];unfold cX;have:=Bz (tT a b) (List.range p.toNat);rw[gh]at this;omega) _ fun t h4 o4 f4 V4=> ?_
   refine⟨m-1,by omega,by omega,by omega,?_,f3.trans f4⟩
   rw[show(p+1).toNat=p.toNat+1 by omega,eit,hi,aJ rfl,cQ,bJ,jb,Int.toNat_of_nonneg p0]
   exact o4
  ·have e3:=bS e3
   simp only[aT]at e3
   exact Bool.eq_false_iff.2 fun h=>(nh.1 h).2 (by omega)
  ·have e2:=bS e2
   simp only[aT]at e2
   exact Bool.eq_false_iff.2 fun h=>(nh.1 h).1 (by omega)
 have hp:=G.ge e
 rw[show p.toNat=aI.length by omega]at o3
 have rI:bE (fun k=>k<h3.size) h3 inner ((cX aI.length a b).map fun p:Nat=>(p:Int)):=bE.low o3.fW
 have oZ:∀q,q∈cX aI.length a b->(q:Int)≠a/\(q:Int)≠b:=fun q hq=>(fK.1 hq).2
 have Q2:∀q,q∈cX aI.length a b->q<aI.length:=fun q hq=>(fK.1 hq).1
 have hMg:∀(i:Nat)(h:i<(cX aI.length a b).length),(ui aI a b).getD i []=fy (cX aI.length a b) (cX aI.length a b)[i] (aI.getD (cX aI.length a b)[i] []) (aI.getD (cX aI.length a b)[i] []).length:=fun i h=>(bH (by rw[(lY aI a b).1];exact h)).trans (bV _)
 have hRg:∀(i:Nat)(h:i<(cX aI.length a b).length),(pj aI a b own A B).getD i 0=Jr aI a b own A B (cX aI.length a b)[i]:=fun i h=>(bA (by rw[po];exact h)).trans (bV _)
 have dn:=C.den
 have ml:=(lY aI a b).1
 have rl:=po aI a b own A B
 have hr':∀i,i<(cX aI.length a b).length->(Ll aI a b own A B i).natAbs<=10:=hr
 clear hr
 generalize Sd:cX aI.length a b=ps at oZ Q2 hMg hRg il ml rl o3 rI
 have nd:ps.Nodup:=by rw[<-Sd];exact FT _ _ _
 have z3:=f3.size
 refine bC tN (fun k=>h3.size<=k) (fun _ h=>h) 0 (by omega) [] rfl rfl fun m0 h6 n6 c6 o6 f6 m6 _=>⟨m0,rfl,dA.aC f6,?_⟩
 refine bC gH (fun k=>h6.size<=k) (fun _ h=>h) 0 (by omega) [] rfl rfl fun r0 h7 n7 c7 o7 f7 m7 _=>⟨r0,rfl,(dA.aC f6).aC f7,?_⟩
 have z6:=f6.size
 have z7:=f7.size
 refine⟨fun m Pf rt i h'=>0<=i/\i+m=(ps.length:Int)/\ia h' (fun k=>h3.size<=k/\¬rt.own k) Pf ((ui aI a b).take i.toNat)/\cM h' (fun k=>h3.size<=k) rt ((pj aI a b own A B).take i.toNat)/\Fr (fun k=>h3.size<=k) h3 h',⟨ps.length,cL _,by omega,⟨[],rfl,(o6.no f7).mono fun k hk hF=>⟨hF,fun hr=> ?_⟩,fun i h1=>by simp at h1,fun i j h1=>by simp at h1,fun i h1=>by simp at h1⟩,o7.mono fun k _ hk=>by omega,f6.aC.trans f7.aC⟩,?_⟩
 ·have h1:=(o6.aR hk).2
  have h2:=(o7.aR hr).1
  (try simp only at h2)
  omega
 rintro m Pf rt i h8 ⟨i0,i1,om,or',f8⟩ gZ
 have g8:=(g3.fresh f8 fun k hk=>by have:=g3.size;omega)
 have z8:=f8.size
 have rI8:=rI.fr f8 fun k hk aQ=>by omega
 have Yn:(ps.map fun p:Nat=>(p:Int)).length=ps.length:=bB _
 refine⟨fun e2=> ?_,fun e2=> ?_⟩
 ·have hi:=rI8.lt e2
  have jH:i.toNat<ps.length:=by omega
  have cI:=rI8.get i0 hi
  rw[qg]at cI
  have hpm:=bI jH
  have Lr:=Q2 _ hpm
  have js:=oZ _ hpm
  generalize hP:ps[i.toNat]' jH=P at cI hpm Lr js
  have mi:Pf.n=i.toNat:=by have:=om.len;rw[fD]at this;omega
  refine⟨rI8.bQ i0 hi,_,cI,?_⟩
  have Yp:inner.n=ps.length:=by have:=rI.len;rw[Yn]at this;exact this
  have gm:=bL hg (bI Lr)
  have eg:aI.getD P []=aI[P]:=bH Lr
  refine⟨fun x s h'=>cM h' (fun k=>h8.size<=k) x (List.replicate ps.length 0)/\s=own P/\Fr No h8 h',⟨?_,?_⟩,?_⟩
  ·refine fO gH (fun k=>h8.size<=k) (fun _ h=>h) .i64 .i64 inner.n inner.n (aY _) (by omega) fun t h9 n9 c9 o9 f9 m9 _=>⟨t,rfl,gZ.aC f9,?_⟩
   refine hO P h9 _ Lr (g8.aA f9) ⟨_,rfl,gZ.aC f9,?_,rfl,f9⟩
   have e:(List.replicate inner.n [VI 0]).flatten=(List.replicate ps.length (0:Int)).map VI:=by rw[Yp];simp[kT]
   rw[e]at o9;exact o9
  ·refine hO P h8 _ Lr g8 ⟨_,rfl,gZ,?_⟩
   refine fO gH (fun k=>h8.size<=k) (fun _ h=>h) .i64 .i64 inner.n inner.n (aY _) (by omega) fun t h9 n9 c9 o9 f9 m9 _=>⟨t,rfl,gZ.aC f9,?_,rfl,f9⟩
   have e:(List.replicate inner.n [VI 0]).flatten=(List.replicate ps.length (0:Int)).map VI:=by rw[Yp];simp[kT]
   rw[e]at o9;exact o9
  rintro x s tO ⟨OY,rfl,f13⟩ Fv
  have G8:=G.no g8
  obtain⟨sp,cp8,rp8⟩:=G8.get (i:=(P:Int)) (by omega) (by omega)
  simp only[Int.toNat_natCast]at rp8
  have ln:=rp8.len
  have cpk:∀{h':Heap},Fr (fun k=>h8.size<=k) h8 h'->bG h' (g.at (P:Int) 1)=some sp.v:=fun f=>eJ cp8 f (by have:=oK cp8;omega)
  have bQ:=G8.bQ (i:=(P:Int)) (by omega) (by omega)
  refine⟨bQ,sp,cpk f13.aC,?_⟩
  rw[<-Lm ps P]at OY
  refine⟨fun m2 s j h'=>0<=j/\j+m2=(aI[P].length:Int)/\s=own P+A*gB a (aI[P].take j.toNat)+B*gB b (aI[P].take j.toNat)/\cM h' (fun k=>h8.size<=k) x (fy ps P (aI[P].take j.toNat) 0)/\Fr (fun k=>h8.size<=k) h8 h',⟨aI[P].length,cL _,by omega,by simp[gB],by simpa using OY,f13.aC⟩,?_⟩
  rintro m2 s j K1 ⟨j0,j1,rfl,Vq,f14⟩ Ph
  have Se:=rp8.low.fr f14 fun k hk aQ=>by omega
  have wP:=hw P
  have oa:=RW hA (sf gm.1 j.toNat).1 (sf (a:=a) gm.1 j.toNat).2
  have ob:=RW hB (sf gm.1 j.toNat).1 (sf (a:=b) gm.1 j.toNat).2
  have PI:=dX ps P (aI[P].take j.toNat) 0
  refine⟨fun e3=> ?_,fun e3=> ?_⟩
  ·have hj:=Se.lt e3
   have hv:=gm.2 _ (bI (show j.toNat<aI[P].length by omega))
   have hc:=Se.get j0 hj
   have tk:aI[P].take (j+1).toNat=_:=fJ _ j0 hj
   generalize aI[P][j.toNat]'(by omega)=v at hv hc tk
   rw[Se.succ j0 hj]
   have Z8:∀(s':Int)(h':Heap),s'=own P+A*gB a (aI[P].take (j+1).toNat)+B*gB b (aI[P].take (j+1).toNat)->cM h' (fun k=>h8.size<=k) x (fy ps P (aI[P].take (j+1).toNat) 0)->Fr (fun k=>h8.size<=k) h8 h'->∃m':Nat,m'<m2/\0<=j+1/\j+1+m'=(aI[P].length:Int)/\s'=own P+A*gB a (aI[P].take (j+1).toNat)+B*gB b (aI[P].take (j+1).toNat)/\cM h' (fun k=>h8.size<=k) x (fy ps P (aI[P].take (j+1).toNat) 0)/\Fr (fun k=>h8.size<=k) h8 h':=fun s' h' a1 a2 a3=>⟨m2-1,by omega,by omega,by omega,a1,a2,a3⟩
   refine⟨Se.bQ j0 hj,_,hc,fun e4=> ?_,fun e4=>⟨fun e5=> ?_,fun e5=> ?_⟩⟩
   ·simp only[aT]at e4
    refine Z8 _ _ ?_ ?_ f14
    ·rw[tk,jB,jB,aJ e4,aF (by omega),aP _ (by omega) (by omega),lx,Int.mul_one,lS]
     omega
    ·rw[tk,BF fun q hq=>by rw[e4];exact(oZ q hq).1]
     exact Vq
   ·simp only[aT,aW]at e4 e5
    refine Z8 _ _ ?_ ?_ f14
    ·rw[tk,jB,jB,aF e4,aJ e5,aP _ (by omega) (by omega),lx B,Int.mul_one,lS]
     omega
    ·rw[tk,BF fun q hq=>by rw[e5];exact(oZ q hq).2]
     exact Vq
   ·simp only[aW]at e4 e5
    have amY:=rI8.fr f14 fun k hk aQ=>by omega
    refine Bc amY v _ (fun hn=>absurd ?_ hn) fun q hq ev _=>⟨_,rfl,Ph,?_⟩
    ·rw[dN]
     exact⟨v.toNat,by rw[<-Sd];exact fK.2 ⟨by omega,by omega,by omega⟩,by omega⟩
    rw[Yn]at hq
    rw[bA (by rw[Yn];exact hq),qg]at ev
    have Yq:=Vq.fW
    have hql:q<(fy ps P (aI[P].take j.toNat) 0).length:=by rw[PI];exact hq
    refine⟨bE.bQ Yq (by omega) (by omega),_,bE.get Yq (i:=(q:Int)) (by omega) (by omega),iQ (F:=fun k=>h8.size<=k) Vq (i:=(q:Int)) (by omega) (by omega) Ph (wJ fun k hk=>by omega) _ fun Ud o16 f16 V16=> ?_⟩
    refine Z8 _ _ ?_ ?_ (f14.trans f16)
    ·rw[tk,jB,jB,aF e4,aF e5,lS,lS]
    ·rw[tk,Ln nd hq ev,bA hql]
     simp only[Int.toNat_natCast]at o16
     have hb:aX ((fy ps P (aI[P].take j.toNat) 0)[q]-1)=(fy ps P (aI[P].take j.toNat) 0)[q]-1:=by
      rw[gW]
      have:=sf (a:=((ps[q]:Nat):Int)) gm.1 j.toNat
      exact aP _ (by split<;>omega) (by split<;>omega)
     rw[hb]at o16
     exact o16
  ·have hj:=Se.ge e3
   rw[cW (by omega)]at Vq oa ob PI
   have Yq:=Vq.fW
   have Yi:i.toNat<(fy ps P aI[P] 0).length:=by rw[PI];exact jH
   have mI:(Pf.n:Int)=i:=by omega
   rw[mI,cW (by omega)]
   refine⟨bE.bQ Yq i0 (by omega),_,bE.get Yq i0 (by omega),bQ,sp,cpk f14,iQ (F:=fun k=>h8.size<=k) Vq i0 (by omega) Ph (wJ fun k hk=>by omega) _ fun h17 o17 f17 V17=> ?_⟩
   have afm:(fy ps P aI[P] 0).set i.toNat (aX ((fy ps P aI[P] 0)[i.toNat]' Yi+(sp.n:Int)))=fy ps P (aI.getD P []) (aI.getD P []).length:=by
    have h1:=Pc (l:=aI[P]) (L:=(aI[P].length:Int)) nd jH
    rw[hP]at h1
    rw[eg,h1,bA Yi]
    congr 1
    rw[gW]
    have:=sf (a:=((ps[i.toNat]:Nat):Int)) gm.1 aI[P].length
    rw[List.take_length]at this
    have:=gm.1
    exact(aP _ (by split<;>omega) (by split<;>omega)).trans (by omega)
   rw[afm]at o17
   have Sf:=f14.trans f17
   have z17:=Sf.size
   have atf:=dO.fr om Sf fun k hk _ aQ=>by omega
   have aah:(ui aI a b).take (i+1).toNat=(ui aI a b).take i.toNat++[fy ps P (aI.getD P []) (aI.getD P []).length]:=by
    rw[show(i+1).toNat=i.toNat+1 by omega,og (by omega)]
    rw[<-bH (by omega),hMg i.toNat jH,hP]
   have aai:(pj aI a b own A B).take (i+1).toNat=(pj aI a b own A B).take i.toNat++[own P+A*gB a aI[P]+B*gB b aI[P]]:=by
    rw[show(i+1).toNat=i.toNat+1 by omega,og (by omega),<-bA (by omega),hRg i.toNat jH,hP]
    unfold Jr
    rw[eg]
   have rtl:∀{k},rt.own k->k<h8.size:=fun hk=>(or'.aR hk).2
   refine Bh (F:=fun k=>h3.size<=k/\¬rt.own k) (m:=h8.size) (dO.fr (om.mono fun k hk hF=>(⟨hF,hk⟩:(h3.size<=k/\¬rt.own k)/\k<h8.size)) Sf fun k _ hk aQ=>by have:=hk.2;omega) o17 (fun k hk=>⟨by omega,fun aQ=>by have:=rtl aQ;omega⟩) z17 V17 (wJ (F:=fun k=>h3.size<=k/\¬rt.own k) fun k hk=>by have:=hk.1;omega) (by rw[fD];omega) _ fun t K3 o19 f19 V19=> ?_
   have z19:=f19.size
   have am0:=or'.fr Sf fun k hk aQ=>by have:=rtl hk;omega
   have afY:=am0.fr f19 fun k hk aQ=>aQ.2 hk
   refine bC gH (fun k=>K3.size<=k) (fun _ h=>h) 1 (by omega) [VI (own P+A*gB a aI[P]+B*gB b aI[P])] rfl rfl fun u2 ZK n20 c20 o20 f20 m20 _=>⟨u2,rfl,V19.aC f20,?_⟩
   have z20:=f20.size
   have ru:bE (fun k=>K3.size<=k) ZK u2 [own P+A*gB a aI[P]+B*gB b aI[P]]:=o20.fW
   refine cV gH (afY.no f20) (fun k hk=>by omega) ru (gr _) (by have h1:=bE.len afY.fW;have h2:=ru.len;simp at h1 h2;omega) fun y ZL n21 o21 f21 d21=>⟨y,rfl,(V19.aC f20).fr f21 (fun q hq hk=>wJ (F:=fun k=>h1.size<=k) (fun k hk=>hk) q hq (by have:=(or'.aR hk).1;omega)),?_⟩
   rw[rI8.succ i0 hi]
   (try simp only)
   rw[aah,aai]
   refine⟨m-1,by omega,by omega,by omega,?_,by show Ow _ _ _ _ _ _;rw[cQ];exact o21,((f8.trans (Sf.mono fun k _ hk=>by omega)).trans (f19.mono fun k _ hk=>hk.1)).trans (f20.aC.trans (f21.mono fun k _ hk=>(or'.aR hk).1))⟩
   refine(dO.fr (dO.no (o19.mono fun k hk hF=>(⟨hF,hk⟩:(h3.size<=k/\¬rt.own k)/\k<K3.size)) f20) f21 fun k _ hk aQ=>hk.1.2 aQ).mono fun k _ hF=>⟨hF.1.1,fun aQ=> ?_⟩
   rcases d21 k aQ with hd|hd
   ·exact hF.1.2 hd
   ·have:=hF.2
    omega
 ·have hi:=rI8.ge e2
  have jH:i.toNat=ps.length:=by omega
  rw[cW (by omega)]at om or'
  have M8:dE (fun k=>k<h8.size) h8 Pf (ui aI a b):=(dO.rd om).mono fun k hk=>hk.2
  have R8:bE (fun k=>k<h8.size) h8 rt (pj aI a b own A B):=bE.low or'.fW
  have I8:bE (fun k=>k<h8.size) h8 inner (ps.map fun p:Nat=>(p:Int)):=rI8.mono fun k hk=>by omega
  rw[<-Sd]at I8
  exact aad C hA hB hr' gn g8 gZ M8 R8 I8 K HK
theorem VW{full:aH}{m j:Nat}(h:j<m)(hl:full.length=m):(full.take j++(List.replicate m (0:Int)).drop j).set j 0=full.take j++(List.replicate m (0:Int)).drop j:=by
 rw[List.set_append_right _ _ (by rw[fD];omega),fD,show j-min j full.length=0 by omega,List.drop_replicate]
 obtain⟨d,hd⟩:∃d,m-j=d+1:=⟨m-j-1,by omega⟩
 rw[hd,List.replicate_succ]
 rfl
set_option maxHeartbeats 4000000 in
theorem Ls{S:aK}{h:Heap}{g:Sl}{aI:aE}(G:dE S h g aI)(hg:aZ aI=true)(a b:Int)(K:aL)(HK:∀t u h',bE (fun k=>k<h'.size) h' t ((cX aI.length a b).map fun p:Nat=>(p:Int))->dE (fun k=>k<h'.size) h' u (ui aI a b)->Fr No h h'->K (.tuple #[t.v,u.v]) h'):aG aB 234 #[.agg #[g.v],VI a,VI b] h K:=by
 have gl:=bD hg
 refine v234 g a b h K fun b1 h1 fw f1 cU=> ?_
 have f1:=f1.aM
 have z1:=f1.size
 have l1:b1<h1.size:=cU.head.lt
 have gn:=G.len
 refine⟨fun m x p h'=>0<=p/\p+m=(aI.length:Int)/\cM h' (fun k=>h1.size<=k) x ((cX p.toNat a b).map fun p:Nat=>(p:Int))/\Fr (fun k=>h1.size<=k) h1 h',⟨aI.length,cL _,by omega,Ow.nil _ _ _ _,Fr.refl _ _⟩,?_⟩
 rintro m pl p h3 ⟨p0,p1,o3,f3⟩ dA
 have g3:=f1.fresh f3 fun k hk=>by omega
 refine⟨fun e=> ?_,fun e=> ?_⟩
 ·have hp:=G.lt e
  have eit:=Jv (a:=a) (b:=b) (show p.toNat<p.toNat+1 by omega)
  rw[G.succ p0 hp]
  have next:tT a b p.toNat=false->∃m':Nat,m'<m/\0<=p+1/\p+1+m'=(aI.length:Int)/\cM h3 (fun k=>h1.size<=k) pl ((cX (p+1).toNat a b).map fun p:Nat=>(p:Int))/\Fr (fun k=>h1.size<=k) h1 h3:=fun hi=>by
   rw[show(p+1).toNat=p.toNat+1 by omega,eit,hi]
   exact⟨m-1,by omega,by omega,by omega,o3,f3⟩
  refine⟨fun e2=>⟨fun e3=> ?_,fun e3=>next ?_⟩,fun e2=>next ?_⟩
  ·have e2:=bU e2
   have e3:=bU e3
   simp only[aW]at e2 e3
   have hi:tT a b p.toNat=true:=nh.2 ⟨by omega,by omega⟩
   refine nT (lo:=h1.size) o3 f3.size dA (fun p hp=>by simp only[aO,aS,aN]at hp;subst hp;exact l1) (by rw[bB];unfold cX;have:=Bz (tT a b) (List.range p.toNat);rw[gh]at this;omega) _ fun t h4 o4 f4 V4=> ?_
   refine⟨m-1,by omega,by omega,by omega,?_,f3.trans f4⟩
   rw[show(p+1).toNat=p.toNat+1 by omega,eit,hi,aJ rfl,cQ,bJ,jb,Int.toNat_of_nonneg p0]
   exact o4
  ·have e3:=bS e3
   simp only[aT]at e3
   exact Bool.eq_false_iff.2 fun h=>(nh.1 h).2 (by omega)
  ·have e2:=bS e2
   simp only[aT]at e2
   exact Bool.eq_false_iff.2 fun h=>(nh.1 h).1 (by omega)
 have hp:=G.ge e
 rw[show p.toNat=aI.length by omega]at o3
 have z3:=f3.size
 have rI:bE (fun k=>k<h3.size) h3 pl ((cX aI.length a b).map fun p:Nat=>(p:Int)):=bE.low o3.fW
 have Q2:∀q,q∈cX aI.length a b->q<aI.length:=fun q hq=>(fK.1 hq).1
 have hMg:∀(i:Nat)(h:i<(cX aI.length a b).length),(ui aI a b).getD i []=fy (cX aI.length a b) (cX aI.length a b)[i] (aI.getD (cX aI.length a b)[i] []) (aI.getD (cX aI.length a b)[i] []).length:=fun i h=>(bH (by rw[(lY aI a b).1];exact h)).trans (bV _)
 have ml:=(lY aI a b).1
 have am1:(cX aI.length a b).length<=8:=by unfold cX;have:=Bz (tT a b) (List.range aI.length);rw[gh]at this;omega
 generalize Sd:cX aI.length a b=ps at Q2 hMg ml o3 rI am1
 have Yn:(ps.map fun p:Nat=>(p:Int)).length=ps.length:=bB _
 have pn:pl.n=ps.length:=by have:=rI.len;rw[Yn]at this;exact this
 refine⟨fun m x i h'=>0<=i/\i+m=(ps.length:Int)/\ia h' (fun k=>h3.size<=k) x ((ui aI a b).take i.toNat)/\Fr (fun k=>h3.size<=k) h3 h',⟨ps.length,cL _,by omega,dO.nil _ _ _ _,Fr.refl _ _⟩,?_⟩
 rintro m2 x i h5 ⟨i0,i1,o5,f5⟩ iU
 have z5:=f5.size
 have g5:=g3.fresh f5 fun k hk=>by have:=g3.size;omega
 have rI5:=rI.fr f5 fun k hk aQ=>by omega
 refine⟨fun e2=> ?_,fun e2=> ?_⟩
 ·have hi:=rI5.lt e2
  have jH:i.toNat<ps.length:=by omega
  have cI:=rI5.get i0 hi
  rw[qg]at cI
  have Lr:=Q2 _ (bI jH)
  have hMi:=hMg i.toNat jH
  generalize ps[i.toNat]' jH=P at cI Lr hMi
  have gm:=bL hg (bI Lr)
  have eg:aI.getD P []=aI[P]:=bH Lr
  rw[eg]at hMi
  have G5:=G.no g5
  obtain⟨sp,cp5,rp5⟩:=G5.get (i:=(P:Int)) (by omega) (by omega)
  simp only[Int.toNat_natCast]at rp5
  have ln:=rp5.len
  have cpk:∀{h':Heap},Fr (fun k=>h5.size<=k) h5 h'->bG h' (g.at (P:Int) 1)=some sp.v:=fun f=>eJ cp5 f (by have:=oK cp5;omega)
  have bQ:=G5.bQ (i:=(P:Int)) (by omega) (by omega)
  have fl:=dX ps P aI[P] (aI[P].length:Int)
  have fg:∀j(h:j<ps.length),(fy ps P aI[P] (aI[P].length:Int))[j]'(by rw[fl];exact h)=(if ps[j]=P then(aI[P].length:Int)else 0)-gB (ps[j]:Nat) aI[P]:=fun j h=>gW _
  generalize hF:fy ps P aI[P] (aI[P].length:Int)=F at hMi fl fg
  refine⟨rI5.bQ i0 hi,_,cI,?_⟩
  refine fO gH (fun k=>h5.size<=k) (fun _ h=>h) .i64 .i64 pl.n pl.n (aY _) (by omega) fun t h6 n6 c6 o6 f6 m6 _=>⟨t,rfl,iU.aC f6,?_⟩
  have o6:cM h6 (fun k=>h5.size<=k) t (List.replicate ps.length 0):=by
   have e:(List.replicate pl.n [VI 0]).flatten=(List.replicate ps.length (0:Int)).map VI:=by rw[pn];simp[kT]
   rw[e]at o6;exact o6
  have off:∀p,p∈[(b1,[g.v])]->¬h5.size<=p.1:=fun p hp=>by
   simp only[aO,aS,aN]at hp
   subst hp
   show¬h5.size<=b1
   omega
  refine⟨fun m j h'=>0<=j/\j+m=(ps.length:Int)/\cM h' (fun k=>h5.size<=k) t (F.take j.toNat++(List.replicate ps.length (0:Int)).drop j.toNat)/\Fr (fun k=>h5.size<=k) h5 h',⟨ps.length,cL _,by omega,by simpa using o6,f6.aC⟩,?_⟩
  rintro m3 j h7 ⟨j0,j1,o7,f7⟩ jQ
  have rI7:=rI5.fr f7 fun k hk aQ=>by omega
  have tl:(F.take j.toNat++(List.replicate ps.length (0:Int)).drop j.toNat).length=ps.length:=by rw[bT,fD,q6,jd];omega
  refine⟨fun e3=> ?_,fun e3=> ?_⟩
  ·have hj:=rI7.lt e3
   have IU:j.toNat<ps.length:=by omega
   have cJ:=rI7.get j0 hj
   rw[qg]at cJ
   have hFj:=fg j.toNat IU
   generalize ps[j.toNat]' IU=Q at cJ hFj
   have mz:=VW IU fl
   generalize hT:F.take j.toNat++(List.replicate ps.length (0:Int)).drop j.toNat=T at o7 tl mz
   have jl:j<(T.length:Int):=by omega
   have Yr:∀{v:Int}(h:j.toNat<(T.set j.toNat v).length),(T.set j.toNat v)[j.toNat]'h=v:=fun h=>by rw[fQ];exact aJ rfl
   refine⟨rI7.bQ j0 hj,_,cJ,?_⟩
   refine⟨fun h'=>cM h' (fun k=>h5.size<=k) t (T.set j.toNat (if Q=P then(aI[P].length:Int)else 0))/\Fr (fun k=>h5.size<=k) h5 h',⟨fun e4=> ?_,fun e4=> ?_⟩,?_⟩
   ·simp only[aT]at e4
    have R7:=o7.fW
    have hz:T[j.toNat]'(by omega)=0:=by
     have:=Yr (v:=0) (by rw[bY];omega)
     rw[<-this]
     congr 1
     exact mz.symm
    refine⟨bE.bQ R7 j0 jl,_,bE.get R7 j0 jl,bQ,sp,cpk f7,iQ (F:=fun k=>h5.size<=k) o7 j0 jl jQ off _ fun h8 o8 f8 V8=>⟨?_,f7.trans f8⟩⟩
    rw[aJ (by omega)]
    rw[hz,aP _ (by omega) (by omega),mE,ln]at o8
    exact o8
   ·simp only[aW]at e4
    refine⟨?_,f7⟩
    rw[aF (by omega),mz]
    exact o7
   rintro h9 ⟨o9,f9⟩ gM
   refine⟨bQ,sp,cpk f9,?_⟩
   refine⟨fun m q h'=>0<=q/\q+m=(aI[P].length:Int)/\cM h' (fun k=>h5.size<=k) t (T.set j.toNat ((if Q=P then(aI[P].length:Int)else 0)-gB (Q:Int) (aI[P].take q.toNat)))/\Fr (fun k=>h5.size<=k) h5 h',⟨aI[P].length,cL _,by omega,by simpa[gB]using o9,f9⟩,?_⟩
   rintro m4 q fa ⟨q0,q1,nC,f10⟩ ft
   have Si:=rp5.low.fr f10 fun k hk aQ=>by omega
   refine⟨fun e5=> ?_,fun e5=> ?_⟩
   ·have hq:=Si.lt e5
    have hc:=Si.get q0 hq
    have tk:aI[P].take (q+1).toNat=_:=fJ _ q0 hq
    have so:=sf (a:=(Q:Int)) gm.1 q.toNat
    generalize aI[P][q.toNat]'(by omega)=v at hc tk
    rw[Si.succ q0 hq]
    refine⟨Si.bQ q0 hq,_,hc,fun e6=> ?_,fun e6=> ?_⟩
    ·simp only[aT]at e6
     have R10:=nC.fW
     have sl:(T.set j.toNat ((if Q=P then(aI[P].length:Int)else 0)-gB (Q:Int) (aI[P].take q.toNat))).length=T.length:=bY
     refine⟨bE.bQ R10 j0 (by omega),_,bE.get R10 j0 (by omega),iQ (F:=fun k=>h5.size<=k) nC j0 (by omega) ft off _ fun jq mD f11 V11=> ?_⟩
     refine⟨m4-1,by omega,by omega,by omega,?_,f10.trans f11⟩
     rw[tk,jB,aJ e6]
     rw[List.set_set,Yr,aP _ (by split<;>omega) (by split<;>omega)]at mD
     rw[show∀x y:Int,x-(y+1)=x-y-1 by omega]
     exact mD
    ·simp only[aW]at e6
     refine⟨m4-1,by omega,by omega,by omega,?_,f10⟩
     rw[tk,jB,aF e6,lS]
     exact nC
   ·have hq:=Si.ge e5
    rw[cW (by omega),<-hFj,<-hT]at nC
    have sm:=UN F (List.replicate ps.length (0:Int)) j.toNat (by omega) (by rw[jd];omega)
    rw[sm]at nC
    rw[rI7.succ j0 hj]
    refine⟨m3-1,by omega,by omega,by omega,?_,f10⟩
    rw[show(j+1).toNat=j.toNat+1 by omega]
    exact nC
  ·have hj:=rI7.ge e3
   rw[cW (by omega),rT (by rw[jd];omega),gK]at o7
   have z7:=f7.size
   refine jz (lo:=h3.size) (m:=h5.size) (dO.fr (dO.gS o5) f7 fun k _ hk aQ=>by have:=hk.2;omega) o7 z5 z7 jQ (fun p hp=>by simp only[aO,aS,aN]at hp;subst hp;show b1<h3.size;omega) (by rw[fD];omega) _ fun t2 iC Oq f12 Yh=> ?_
   rw[rI5.succ i0 hi]
   refine⟨m2-1,by omega,by omega,by omega,?_,(f5.trans (f7.mono fun k _ hk=>by omega)).trans f12⟩
   rw[show(i+1).toNat=i.toNat+1 by omega,og (by omega),<-bH (by omega),hMi]
   exact Oq
 ·have hi:=rI5.ge e2
  rw[cW (by omega)]at o5
  rw[Sd]at HK
  exact HK pl x h5 (rI5.mono fun k hk=>by omega) ((dO.rd o5).mono fun k hk=>hk.2) g5
def Lu(rows:aE)(r:aH):aH:=(List.range rows.length).map fun j=>dR rows.length (qf (dB rows) j fun i=>r.getD i 0)
set_option maxHeartbeats 2000000 in
theorem Pj{S S2:aK}{h:Heap}{m r:Sl}{rows:aE}{rs:aH}(M:dE S h m rows)(R:bE S2 h r rs)(hl:rs.length=rows.length)(Q:Sq rows.length rows)(hn:rows.length<=7)(hb:Small rows.length (dB rows))(hr:∀i,i<rows.length->(rs.getD i 0).natAbs<=10)(K:aL)(HK:∀t h',bE (fun k=>k<h'.size) h' t (Lu rows rs)->Fr No h h'->K (.tuple #[t.v,VI (dR rows.length (dB rows))]) h'):aG aB 235 #[m.v,r.v] h K:=by
 refine alg m r h K ?_
 refine Ag rows.length M Q hn hb _ fun h1 f1=>⟨_,rfl,.nil,?_⟩
 have M1:=M.low.no f1
 have R1:=bE.low R|>.no f1
 have z1:=f1.size
 have sl:(Lu rows rs).length=rows.length:=by unfold Lu;rw[bB,gh]
 refine⟨fun n x k h'=>0<=k/\k+n=(rows.length:Int)/\cM h' (fun q=>h1.size<=q) x ((Lu rows rs).take k.toNat)/\Fr (fun q=>h1.size<=q) h1 h',⟨rows.length,cL _,by omega,Ow.nil _ _ _ _,Fr.refl _ _⟩,?_⟩
 rintro n x k h2 ⟨k0,k1,o2,f2⟩ cR
 have M2:=M1.fr f2 fun q hq js=>by omega
 have R2:=R1.fr f2 fun q hq js=>by omega
 have z2:=f2.size
 refine⟨fun e=> ?_,fun e=> ?_⟩
 ·have hk:=M2.lt e
  refine⟨fun n x i h'=>0<=i/\i+n=(rows.length:Int)/\ia h' (fun q=>h2.size<=q) x ((vR rows k.toNat rs).take i.toNat)/\Fr (fun q=>h2.size<=q) h2 h',⟨rows.length,cL _,by omega,dO.nil _ _ _ _,Fr.refl _ _⟩,?_⟩
  rintro n2 y i h3 ⟨i0,i1,o3,f3⟩ dA
  have M3:=M2.fr f3 fun q hq js=>by omega
  have R3:=R2.fr f3 fun q hq js=>by omega
  have z3:=f3.size
  refine⟨fun e2=> ?_,fun e2=> ?_⟩
  ·have hi:=M3.lt e2
   obtain⟨si,ci,ri⟩:=M3.get i0 hi
   have amV:=Q.row i.toNat (by omega)
   refine⟨M3.bQ i0 hi,si,ci,sW ri (by omega) _ fun t2 h4 o4 f4=>⟨t2,rfl,.nil,?_⟩⟩
   have R4:=R3.no f4
   have z4:=f4.size
   refine⟨R4.bQ i0 (by omega),_,R4.get i0 (by omega),iQ (o4.mono (F':=fun q=>h3.size<=q) fun q _ hq=>hq.1) k0 (by omega) .nil (fun p hp=>by simp at hp) _ fun h5 o5 f5 V5=> ?_⟩
   have z5:=f5.size
   refine jz (lo:=h2.size) (m:=h3.size) (dO.fr (dO.gS o3) (f4.aC.trans f5) fun q _ hq js=>by have:=hq.2;omega) o5 z3 (by omega) .nil (fun p hp=>by simp at hp) (by rw[fD];omega) _ fun t3 h6 o6 f6 V6=> ?_
   rw[M3.succ i0 hi]
   refine⟨n2-1,by omega,by omega,by omega,?_,((f3.trans f4.aC).trans (f5.mono fun q _ hq=>by omega)).trans f6⟩
   rw[show(i+1).toNat=i.toNat+1 by omega,EH (by omega),bA (by omega)]
   exact o6
  ·have hi:=M3.ge e2
   have pl:=nj rows k.toNat rs
   rw[cW (by omega)]at o3
   refine Ag rows.length (dO.rd o3) (NG Q k.toNat rs) hn (uP Q hb hr) _ fun h4 f4=>⟨_,rfl,.nil,?_⟩
   rw[BG Q]
   have f24:=f3.trans f4.aC
   have z4:=f24.size
   refine nT (lo:=h1.size) ((Ow.gS o2).fr f24 (fun q hq js=>by have:=(o2.aR hq).2;omega)|>.mono fun q _ hq=>hq.1) (by omega) .nil (fun p hp=>by simp at hp) (by rw[fD];omega) _ fun t5 h5 o5 f5 V5=> ?_
   rw[M2.succ k0 hk]
   refine⟨n-1,by omega,by omega,by omega,?_,(f2.trans (f24.mono fun q _ hq=>by omega)).trans f5⟩
   rw[show(k+1).toNat=k.toNat+1 by omega,og (by omega)]
   have:(Lu rows rs)[k.toNat]'(by omega)=dR rows.length (qf (dB rows) k.toNat fun i=>rs.getD i 0):=by
    refine(bV (l:=List.range rows.length) _ (h:=by rw[bB,gh];omega)).trans ?_
    rw[kO]
   rw[this]
   exact o5
 ·have hk:=M2.ge e
  rw[cW (by omega)]at o2
  exact HK x h2 (bE.low o2.fW) (f1.fresh f2 fun q hq=>by omega)
abbrev vW:=Int×Int
def tV:List vW->List Value
 |[]=>[]
 |r::l=>VI r.1::VI r.2::tV l
theorem vX:∀l:List vW,(tV l).length=l.length*2
 |[]=>rfl
 |r::l=>by rw[tV,List.length_cons,List.length_cons,vX l,List.length_cons];omega
theorem Jy:∀(l:List vW)(i:Nat)(h:i<l.length),(tV l)[i*2]?=some (VI l[i].1)/\(tV l)[i*2+1]?=some (VI l[i].2)
 |r::l,0,_=>⟨rfl,rfl⟩
 |r::l,i+1,h=>by
  have:=Jy l i (by simpa using h)
  rw[tV,show(i+1)*2=i*2+1+1 by omega]
  simpa using this
theorem Jz:∀(l:List vW)(i:Nat)(x y:Int),((tV l).set (i*2) (VI x)).set (i*2+1) (VI y)=tV (l.set i (x,y))
 |[],i,x,y=>by simp[tV]
 |r::l,0,x,y=>by simp[tV]
 |r::l,i+1,x,y=>by
  rw[tV,show(i+1)*2=i*2+1+1 by omega,List.set_cons_succ,List.set_cons_succ,List.set_cons_succ,List.set_cons_succ,Jz l i x y,List.set_cons_succ,tV]
@[reducible] def OwQ(h:Heap)(F:aK)(s:Sl)(l:List vW):Prop:=Ow h F tR 2 s (tV l)
def Uh(S:aK)(h:Heap)(s:Sl)(l:List vW):Prop:=dK S h 2 s (tV l)
theorem Uh.len{S:aK}{h:Heap}{s:Sl}{l:List vW}(H:Uh S h s l):s.n=l.length:=by
 have:=dK.len H
 rw[vX]at this
 omega
theorem Uh.get{S:aK}{h:Heap}{s:Sl}{l:List vW}(H:Uh S h s l){i:Int}(h0:0<=i)(h1:i<(l.length:Int)):fq s i/\pM h (s.at i 2) [VI (l[i.toNat]'(by omega)).1,VI (l[i.toNat]'(by omega)).2]:=by
 have hl:=Uh.len H
 have hn:=vX l
 obtain⟨g1,g2⟩:=Jy l i.toNat (by omega)
 obtain⟨a,ha,_,c1⟩:=dK.cell H (i.toNat*2) (by omega)
 obtain⟨a',Og,_,c2⟩:=dK.cell H (i.toNat*2+1) (by omega)
 rw[ha]at Og
 obtain rfl:a=a':=by simpa using Og
 rw[dT (by omega)]at g1 g2
 rw[bF g1]at c1
 rw[bF g2]at c2
 refine⟨⟨by simp[ha],h0,by omega⟩,fun j hj=> ?_⟩
 have hat:s.at i 2=a.add (i.toNat*2):=by simp[Sl.at,ha]
 rw[hat,H8]
 match j,hj with
 |0,_=>exact c1
 |1,_=>simpa using c2
theorem Uh.low{S:aK}{h:Heap}{s:Sl}{l:List vW}(H:Uh S h s l):Uh (fun k=>k<h.size) h s l:=(dK.lt H).mono fun _ h=>h.2
theorem Sj:nN aB tR=some 2:=by kernel_rfl
theorem Ge{L:List (Nat×List Value)}{F:aK}{h:Heap}{s:Sl}{l:List vW}{i:Int}{x y:Int}(O:OwQ h F s l)(h0:0<=i)(h1:i<(l.length:Int))(hL:Vars h L)(nF:∀p,p∈L->¬F p.1)(R:Heap->Prop)(HR:∀h',OwQ h' F s (l.set i.toNat (x,y))->Fr F h h'->Vars h' L->R h'):fq s i/\Hz aB (Instr.storeAt tR (Value.pointer (some (Sl.at s i 2))) (Value.agg #[VI x,VI y])) h fun rv h'=>Vars h' L/\R h':=by
 have hn:=O.len
 rw[vX]at hn
 have hi:i<(s.n:Int):=by omega
 refine⟨O.bQ h0 hi,⟨fun w hw=> ?_⟩⟩
 subst hw
 obtain⟨w1,o1,f1⟩:=O.store h0 hi 0 (by omega) (VI x)
 obtain⟨w2,_,_⟩:=O.store h0 hi 1 (by omega) (VI y)
 obtain⟨_,o2,f2⟩:=o1.store h0 hi 1 (by omega) (VI y)
 obtain⟨w',r1,r2,r3⟩:=qZ (P:=aB) (mU Sj w) (a:=s.at i 2) (v:= .agg #[VI x,VI y]) (vs:=[VI x,VI y]) rfl rfl (fun v hv=>by simp only[aO,aS,aN]at hv;rcases hv with rfl|rfl<;>rfl) (fun j hj=>by
  match j,hj with
  |0,_=>exact⟨w1.cell,w1.free⟩
  |1,_=>exact⟨w2.cell,w2.free⟩)
 refine⟨w',r1,r2,?_⟩
 rw[r3]
 simp only[List.zipIdx_cons,List.zipIdx_nil,List.foldl_cons,List.foldl_nil,iM]
 rw[Nat.add_zero,Jz]at o2
 have f:Fr F w.heap _:=(f1.trans f2).mono fun k _ hk=>(O.aR hk).1
 have V:=hL.fr f nF
 exact⟨V,HR _ o2 f V⟩
def o0:Int->Int:=fun _=>0
theorem Sk{d:Int}(h:0<d):lX d d=(1,1):=by
 unfold lX
 rw[Int.gcd_self,show((d.natAbs:Nat):Int)=d by omega,Int.ediv_self (by omega)]
theorem Pk{d:Int}(h:0<d):lX 0 d=(0,1):=by
 unfold lX
 rw[Int.gcd_zero_left,show((d.natAbs:Nat):Int)=d by omega,Int.ediv_self (by omega),Int.zero_ediv]
def chR(g:aE)(a b:Int):List vW:=(List.range g.length).map fun q:Nat=>lX (C9 g a b q) (lW g a b)
theorem NH(g:aE)(a b:Int):(chR g a b).length=g.length:=by unfold chR;rw[bB,gh]
theorem NI{g:aE}{a b:Int}{q:Nat}(h:q<(chR g a b).length):(chR g a b)[q]=lX (C9 g a b q) (lW g a b):=by
 refine(bV (l:=List.range g.length) _ (h:=h)).trans ?_
 rw[kO]
theorem Can.Fy{g:aE}{a b:Int}(C:Can g a b):∀i,i<(cX g.length a b).length->(Ll g a b o0 1 0 i).natAbs<=10:=fun i hi=>by
 have e:Ll g a b o0 1 0 i=gB a (g.getD ((cX g.length a b).getD i 0) []):=by
  unfold Ll o0
  omega
 have hp:=(fK.1 (bI hi)).1
 have e1:(cX g.length a b).getD i 0=(cX g.length a b)[i]:=by rw[eG,dT hi,Option.getD_some]
 rw[e,e1,bH hp]
 have h1:=kZ a g[(cX g.length a b)[i]]
 have h2:=(bL C.cN (bI hp)).1
 omega
theorem Can.VX{g:aE}{a b:Int}(C:Can g a b){own:Int->Int}{A B:Int}(hA:A=0\/A=1)(hB:B=0\/B=1)(hr:∀i,i<(cX g.length a b).length->(Ll g a b own A B i).natAbs<=10)(q:Int):(Jn g a b own A B q).natAbs<=50400000000:=by
 have hd:=C.den
 have gl:=bD C.cN
 have il:=vP C.a0 C.a1 C.b0 C.b1 C.ne
 unfold Jn
 split
 ·rcases hA with rfl|rfl<;>omega
 ·split
  ·rcases hB with rfl|rfl<;>omega
  ·exact EI C.cN (by omega) hr _
theorem Pl{S:aK}{h:Heap}{g:Sl}{aI:aE}(G:dE S h g aI){a b:Int}(C:Can aI a b)(K:aL)(HK:∀t h',cM h' (Iv h.size h'.size) t (FZ aI a b o0 1 0)->Fr No h h'->K (.tuple #[t.v,VI (lW aI a b)]) h'):aG aB 218 #[.agg #[g.v],VI a,VI b] h K:=by
 refine v218 g a b h K fun b1 h1 fw f1 cU=> ?_
 have f1:=f1.aM
 refine Sc (G.no f1) C (.func (.func 262) #[] #[]) o0 (.inr rfl) (.inl rfl) (fun p=>⟨cL _,by unfold o0;omega⟩) C.Fy (fun p h' K' _ _ hk=>alI _ _ _ hk) _ fun t h2 o2 f2=>⟨t,_,rfl,cU.aC f2,HK t h2 ?_ (f1.aA f2)⟩
 exact o2.mono fun k _ hk=>⟨cB f1.size hk.1,hk.2⟩
def u7(g:aE)(p a b:Int):vW×Bool:=if(Lj g a b&&jX 0 ((g.length:Int)-1) p)=true then(lX (C9 g a b p) (lW g a b),true)else((0,0),false)
theorem yU{S:aK}{h:Heap}{g:Sl}{aI:aE}(G:dE S h g aI)(p a b:Int)(K:aL)(HK:∀h',Fr No h h'->K (.tuple #[.agg #[VI (u7 aI p a b).1.1,VI (u7 aI p a b).1.2],VB (u7 aI p a b).2]) h'):aG aB 169 #[.agg #[g.v],VI p,VI a,VI b] h K:=by
 refine ajO g p a b h K fun b1 b2 h2 fw eY f2 cR=> ?_
 have f2:=f2.aM
 have box:∀{x y:Heap},Fr No h x->Fr (In [b2]) x y->Fr No h y:=fun f f'=>f.fresh f' fun k hk=>by
  simp only[In,aO,aS,aN]at hk
  omega
 unfold u7 at HK
 refine RQ (G.no f2) a b _ fun h3 f3=>⟨_,rfl,cR.aC f3,fun e=>fun fa f10 _=> ?_,fun e=> ?_⟩
 ·rw[bU e,gI]at HK
  exact HK fa (box (f2.aA f3) f10)
 have e:=bS e
 rw[e,fc]at HK
 have C:=RH e
 have hd:=C.den
 have f13:=f2.aA f3
 have dA:=cR.aC f3
 refine bC gH (fun k=>h3.size<=k) (fun _ h=>h) 1 (by omega) [VI p] rfl rfl fun t h4 n4 c4 o4 f4 m4 _=>⟨t,rfl,dA.aC f4,?_⟩
 have o4:bE (fun k=>h3.size<=k) h4 t [p]:=o4.fW
 refine vA (G.no (f13.aA f4)) o4 _ fun h5 f5=>⟨_,rfl,(dA.aC f4).aC f5,fun e2=>fun h6 f6 _=> ?_,fun e2=> ?_⟩
 all_goals simp only[List.all_cons,List.all_nil,sV,C.cN,fc]at e2
 all_goals have f15:=f13.aA (f4.aA f5)
 ·rw[bU e2]at HK
  exact HK h6 (box f15 f6)
 have e2:=bS e2
 rw[e2,aJ rfl]at HK
 have pr:=cA.1 e2
 refine Pl (G.no f15) C _ fun t h7 o7 f7=>⟨t,_,rfl,((dA.aC f4).aC f5).aC f7,?_⟩
 have r7:bE _ h7 t (FZ aI a b o0 1 0):=Ow.fW o7
 have ol:=Jt aI a b o0 1 0
 have hv:=C.VX (own:=o0) (.inr rfl) (.inl rfl) C.Fy p
 refine⟨r7.bQ pr.1 (by omega),_,r7.get pr.1 (by omega),?_⟩
 rw[Ju,show(((p.toNat:Nat):Int))=p by omega]
 exact VR _ _ (by omega) (by omega) (by omega) h7 _ fun h8 f8=>⟨_,_,rfl,(((dA.aC f4).aC f5).aC f7).aC f8,fun h9 f9 _=>HK h9 (box (f15.aA (f7.aA f8)) f9)⟩
def uj(n:Nat)(a b:Int)(d:Int)(ps:List Nat)(f:Nat->Int)(k:Nat):List vW:=(List.range n).map fun q:Nat=>if(q:Int)=a then(1,1)else if(q:Int)=b then(0,1)else if ps.idxOf q<k then lX (f (ps.idxOf q)) d else(0,0)
theorem k7(n:Nat)(a b:Int)(d:Int)(ps:List Nat)(f:Nat->Int)(k:Nat):(uj n a b d ps f k).length=n:=by unfold uj;rw[bB,gh]
theorem tm{n:Nat}{a b d:Int}{ps:List Nat}{f:Nat->Int}{k q:Nat}(h:q<(uj n a b d ps f k).length):(uj n a b d ps f k)[q]=if(q:Int)=a then(1,1)else if(q:Int)=b then(0,1)else if ps.idxOf q<k then lX (f (ps.idxOf q)) d else(0,0):=by
 refine(bV (l:=List.range n) _ (h:=h)).trans ?_
 rw[kO]
theorem Lv{n:Nat}{a b:Int}(d:Int)(ps:List Nat)(f:Nat->Int)(a0:0<=a)(b0:0<=b)(fH:a≠b):uj n a b d ps f 0=((List.replicate n ((0,0):vW)).set a.toNat (1,1)).set b.toNat (0,1):=by
 apply j8 (by rw[k7,bY,bY,jd])
 intro q h1 h2
 rw[tm h1,fQ,fQ,Af]
 by_cases ea:(q:Int)=a
 ·rw[aJ ea,aF (by omega),aJ (by omega)]
 ·rw[aF ea]
  by_cases eb:(q:Int)=b
  ·rw[aJ eb,aJ (by omega)]
  ·rw[aF eb,aF (by omega),aF (by omega),aF (by omega)]
theorem Lw{n:Nat}{a b:Int}(d:Int)(f:Nat->Int){k:Nat}(hk:k<(cX n a b).length):uj n a b d (cX n a b) f (k+1)=(uj n a b d (cX n a b) f k).set ((cX n a b)[k]) (lX (f k) d):=by
 apply j8 (by rw[k7,bY,k7])
 intro q h1 h2
 have h3:q<(uj n a b d (cX n a b) f k).length:=by rw[bY]at h2;exact h2
 have hm:=fK.1 (bI hk)
 rw[tm h1,fQ,tm h3]
 by_cases e:(cX n a b)[k]=q
 ·rw[aJ e,aF (by omega),aF (by omega)]
  subst e
  rw[FU hk,aJ (by omega)]
 ·rw[aF e]
  by_cases ea:(q:Int)=a
  ·rw[aJ ea,aJ ea]
  ·rw[aF ea,aF ea]
   by_cases eb:(q:Int)=b
   ·rw[aJ eb,aJ eb]
   ·rw[aF eb,aF eb]
    have hq:q∈cX n a b:=fK.2 ⟨by rw[k7]at h3;exact h3,ea,eb⟩
    have hi:=BD.2 hq
    by_cases l:(cX n a b).idxOf q<k
    ·rw[aJ l,aJ (by omega)]
    ·rw[aF l,aF]
     intro h
     apply e
     have:(cX n a b).idxOf q=k:=by omega
     subst this
     exact List.getElem_idxOf hi
theorem Pm{g:aE}{a b:Int}(hd:0<lW g a b):uj g.length a b (lW g a b) (cX g.length a b) (yT g a b o0 1 0) (cX g.length a b).length=chR g a b:=by
 apply j8 (by rw[k7,NH])
 intro q h1 h2
 rw[tm h1,NI h2]
 unfold C9 Jn
 by_cases ea:(q:Int)=a
 ·rw[aJ ea,aJ ea,jc,Sk hd]
 ·rw[aF ea,aF ea]
  by_cases eb:(q:Int)=b
  ·rw[aJ eb,aJ eb,na,Pk hd]
  ·rw[aF eb,aF eb,aJ]
   ·rfl
   ·exact BD.2 (fK.2 ⟨by rw[k7]at h1;exact h1,ea,eb⟩)
theorem VY(g:aE)(a b:Int)(own:Int->Int)(A B:Int):Lu (ui g a b) (pj g a b own A B)=(List.range (cX g.length a b).length).map (yT g a b own A B):=by
 unfold Lu
 rw[(lY g a b).1]
 exact qM fun k _=>Lo g a b own A B k
set_option maxHeartbeats 4000000 in
theorem JA{S:aK}{h:Heap}{g:Sl}{aI:aE}(G:dE S h g aI){a b:Int}(C:Can aI a b)(K:aL)(HK:∀t h',Uh (fun k=>k<h'.size) h' t (chR aI a b)->Fr No h h'->K t.v h'):aG aB 186 #[.agg #[g.v],VI a,VI b] h K:=by
 have hg:=C.cN
 have gl:=bD hg
 have dn:=C.den
 have gn:=G.len
 have il:=vP C.a0 C.a1 C.b0 C.b1 C.ne
 refine ake g a b h K fun b1 h1 fw f1 cU=> ?_
 have f1:=f1.aM
 refine Ls (G.no f1) hg a b _ fun pl m h2 P2 M2 f2=>⟨pl,m,rfl,cU.aC f2,?_⟩
 have l1:b1<h1.size:=cU.head.lt
 have z2:=f2.size
 have IK:=f1.aA f2
 have Q2:∀q,q∈cX aI.length a b->q<aI.length:=fun q hq=>(fK.1 hq).1
 have Yn:((cX aI.length a b).map fun p:Nat=>(p:Int)).length=(cX aI.length a b).length:=bB _
 have pn:pl.n=(cX aI.length a b).length:=by have:=P2.len;rw[Yn]at this;exact this
 have rl:=po aI a b o0 1 0
 have ml:=(lY aI a b).1
 have wJ:∀{F:aK},(∀k,F k->h2.size<=k)->∀p,p∈[(b1,[g.v])]->¬F p.1:=fun hF p hp hk=>by
  simp only[aO,aS,aN]at hp
  subst hp
  have:=hF _ hk
  (try simp only at this)
  omega
 refine⟨fun m x i h'=>0<=i/\i+m=((cX aI.length a b).length:Int)/\cM h' (fun k=>h2.size<=k) x ((pj aI a b o0 1 0).take i.toNat)/\Fr (fun k=>h2.size<=k) h2 h',⟨(cX aI.length a b).length,by omega,by omega,Ow.nil _ _ _ _,Fr.refl _ _⟩,?_⟩
 rintro m1 x i h3 ⟨i0,i1,o3,f3⟩ dA
 have P3:=P2.fr f3 fun k hk aQ=>by omega
 have M3:=M2.fr f3 fun k hk aQ=>by omega
 have z3:=f3.size
 have iR:=IK.fresh f3 fun k hk=>by have:=IK.size;omega
 refine⟨fun e=> ?_,fun e=> ?_⟩
 ·have hi:=P3.lt e
  have jH:i.toNat<(cX aI.length a b).length:=by omega
  have cI:=P3.get i0 hi
  rw[qg]at cI
  have Lr:=Q2 _ (bI jH)
  have hRi:(pj aI a b o0 1 0)[i.toNat]'(by omega)=Jr aI a b o0 1 0 (cX aI.length a b)[i.toNat]:=bV _
  generalize (cX aI.length a b)[i.toNat]' jH=Q at cI Lr hRi
  have G3:=G.no iR
  obtain⟨sp,cp,rp⟩:=G3.get (i:=(Q:Int)) (by omega) (by omega)
  simp only[Int.toNat_natCast]at rp
  have gm:=bL hg (bI Lr)
  refine⟨P3.bQ i0 hi,_,cI,G3.bQ (by omega) (by omega),sp,cp,?_⟩
  refine⟨fun m s j h'=>0<=j/\j+m=(aI[Q].length:Int)/\s=gB a (aI[Q].take j.toNat)/\h'=h3,⟨aI[Q].length,by omega,by omega,rfl,rfl⟩,?_⟩
  rintro m2 s j h4 ⟨j0,j1,rfl,rfl⟩ fi
  refine⟨fun e2=> ?_,fun e2=> ?_⟩
  ·have hj:=rp.lt e2
   have hc:=rp.get j0 hj
   have tk:aI[Q].take (j+1).toNat=_:=fJ _ j0 hj
   have so:=sf (a:=a) gm.1 j.toNat
   generalize aI[Q][j.toNat]'(by omega)=v at hc tk
   rw[rp.succ j0 hj]
   refine⟨rp.bQ j0 hj,_,hc,fun e3=> ?_,fun e3=> ?_⟩
   ·simp only[aT]at e3
    refine⟨m2-1,by omega,by omega,by omega,?_,rfl⟩
    rw[tk,jB,aJ e3,aP _ (by omega) (by omega)]
   ·simp only[aW]at e3
    refine⟨m2-1,by omega,by omega,by omega,?_,rfl⟩
    rw[tk,jB,aF e3,lS]
  ·have hj:=rp.ge e2
   rw[cW (by omega)]
   refine nT (lo:=h2.size) o3 z3 dA (fun p hp=>by simp only[aO,aS,aN]at hp;subst hp;show b1<h2.size;omega) (by rw[fD];omega) _ fun t h5 o5 f5 V5=> ?_
   rw[P3.succ i0 hi]
   refine⟨m1-1,by omega,by omega,by omega,?_,f3.trans f5⟩
   rw[show(i+1).toNat=i.toNat+1 by omega,og (by omega),hRi]
   have:Jr aI a b o0 1 0 Q=gB a aI[Q]:=by
    unfold Jr o0
    rw[bH Lr]
    omega
   rw[this]
   exact o5
 ·have hi:=P3.ge e
  rw[cW (by omega)]at o3
  have hQ':Sq (ui aI a b).length (ui aI a b):=by rw[ml];exact(lY aI a b).2
  have hS':Small (ui aI a b).length (dB (ui aI a b)):=by rw[ml];exact xy hg a b
  refine Pj M3 (Ow.fW o3:bE _ h3 x _) (by omega) hQ' (by omega) hS' (fun i hi=>by rw[vQ aI a b o0 1 0 (by omega)];exact C.Fy i (by omega)) _ fun t h7 S7 f7=>⟨t,_,rfl,dA.aC f7,?_⟩
  rw[VY]at S7
  rw[ml,NF]
  have z7:=f7.size
  have jQ:=dA.aC f7
  refine fO rRs (fun k=>h7.size<=k) (fun _ h=>h) .i64 .i64 g.n g.n (aY _) (by omega) fun u h8 n8 c8 o8 f8 m8 _=>⟨u,rfl,jQ.aC f8,?_⟩
  have z8:=f8.size
  have Zl:OwQ h8 (fun k=>h7.size<=k) u (List.replicate aI.length (0,0)):=by
   have e:(List.replicate g.n [VI 0,VI 0]).flatten=tV (List.replicate aI.length (0,0)):=by
    rw[gn]
    generalize aI.length=n
    induction n with
    |zero=>rfl
    |succ n ih=>rw[List.replicate_succ,List.flatten_cons,ih,List.replicate_succ,tV];rfl
   rw[e]at o8
   exact o8
  have aak:=wJ (F:=fun k=>h7.size<=k) fun k hk=>by omega
  refine Ge (L:=[(b1,[g.v])]) (F:=fun k=>h7.size<=k) (x:=1) (y:=1) Zl C.a0 (by rw[jd];exact C.a1) (jQ.aC f8) aak _ fun h9 o9 f9 V9=> ?_
  refine Ge (L:=[(b1,[g.v])]) (F:=fun k=>h7.size<=k) (x:=0) (y:=1) o9 C.b0 (by rw[bY,jd];exact C.b1) V9 aak _ fun fa nC f10 Kl=> ?_
  rw[<-Lv (lW aI a b) (cX aI.length a b) (yT aI a b o0 1 0) C.a0 C.b0 C.ne]at nC
  refine⟨fun m k h'=>0<=k/\k+m=((cX aI.length a b).length:Int)/\OwQ h' (fun q=>h7.size<=q) u (uj aI.length a b (lW aI a b) (cX aI.length a b) (yT aI a b o0 1 0) k.toNat)/\Fr (fun q=>h7.size<=q) h8 h',⟨(cX aI.length a b).length,by omega,by omega,nC,f9.trans f10⟩,?_⟩
  rintro m3 k jq ⟨k0,k1,mD,f11⟩ iN
  have P11:=((P3.no f7).no f8).fr f11 fun q hq js=>by omega
  have S11:=(S7.no f8).fr f11 fun q hq js=>by omega
  refine⟨fun e3=> ?_,fun e3=> ?_⟩
  ·have hk:=P11.lt e3
   have Ue:k.toNat<(cX aI.length a b).length:=by omega
   have cI:=P11.get k0 hk
   rw[qg]at cI
   have Lr:=Q2 _ (bI Ue)
   have aaf:=Lw (lW aI a b) (yT aI a b o0 1 0) Ue
   have cS:=S11.get (i:=k) k0 (by rw[bB,gh];omega)
   have eS:((List.range (cX aI.length a b).length).map (yT aI a b o0 1 0))[k.toNat]'(by rw[bB,gh];omega)=yT aI a b o0 1 0 k.toNat:=by rw[bV,kO]
   rw[eS]at cS
   have hcb:=EI hg (a:=a) (b:=b) (by omega) C.Fy k.toNat
   refine⟨P11.bQ k0 hk,_,cI,S11.bQ k0 (by rw[bB,gh];omega),_,cS,Pa _ _ (by omega) (by omega) (by omega) jq _ fun iC f12=>⟨_,_,rfl,iN.aC f12,?_⟩⟩
   refine Ge (L:=[(b1,[g.v])]) (F:=fun q=>h7.size<=q) (mD.no f12) (i:=(((cX aI.length a b)[k.toNat]' Ue:Nat):Int)) (by omega) (by rw[k7];omega) (iN.aC f12) aak _ fun tO OY f13 V13=> ?_
   rw[P11.succ k0 hk]
   refine⟨m3-1,by omega,by omega,by omega,?_,f11.trans (f12.aC.trans f13)⟩
   rw[show(k+1).toNat=k.toNat+1 by omega,aaf]
   simp only[Int.toNat_natCast]at OY
   exact OY
  ·have hk:=P11.ge e3
   rw[show k.toNat=(cX aI.length a b).length by omega,Pm (by omega)]at mD
   exact HK u jq (Uh.low mD.fW) ((iR.aA (f7.aA f8)).fresh f11 fun q hq=>by have:=iR.size;omega)
theorem pp{S:aK}{h:Heap}{g:Sl}{aI:aE}(G:dE S h g aI)(p a b:Int)(K:aL)(HK:∀h',Fr No h h'->K (.tuple #[.agg #[VI (u7 aI p a b).1.1,VI (u7 aI p a b).1.2],VB (u7 aI p a b).2]) h'):aG aB 139 #[.agg #[g.v],VI p,VI a,VI b] h K:=by
 refine v139 g p a b h K fun b1 b2 h2 fw eY f2 cR=> ?_
 have f2:=f2.aM
 have box:∀{x y:Heap},Fr No h x->Fr (In [b2]) x y->Fr No h y:=fun f f'=>f.fresh f' fun k hk=>by
  simp only[In,aO,aS,aN]at hk
  omega
 unfold u7 at HK
 refine RR (G.no f2) a b _ fun h3 f3=>⟨_,rfl,cR.aC f3,fun e=>fun fa f10 _=> ?_,fun e=> ?_⟩
 ·rw[bU e,gI]at HK
  exact HK fa (box (f2.aA f3) f10)
 have e:=bS e
 rw[e,fc]at HK
 have C:=RH e
 have hd:=C.den
 have f13:=f2.aA f3
 have dA:=cR.aC f3
 refine dY (G.no f13) p _ fun h5 f5=>⟨_,rfl,dA.aC f5,fun e2=>fun h6 f6 _=> ?_,fun e2=> ?_⟩
 all_goals simp only[C.cN,fc]at e2
 all_goals have f15:=f13.aA f5
 ·rw[bU e2]at HK
  exact HK h6 (box f15 f6)
 have e2:=bS e2
 rw[e2,aJ rfl]at HK
 have pr:=cA.1 e2
 refine JA (G.no f15) C _ fun t h7 Q7 f7=>⟨t,rfl,(dA.aC f5).aC f7,?_⟩
 obtain⟨ib,cc⟩:=Q7.get (i:=p) pr.1 (by rw[NH];omega)
 rw[NI,show(((p.toNat:Nat):Int))=p by omega]at cc
 exact⟨ib,_,_,cc,fun h9 f9 _=>HK h9 (box (f15.aA f7) f9)⟩
def plB(g:aE)(s:Int):Bool:=aZ g&&jX 0 ((g.length:Int)-1) s
theorem Ys{g:aE}{s:Int}(h:plB g s=true):aZ g=true/\0<=s/\s<(g.length:Int):=by
 obtain⟨a,b⟩:=l8.1 h
 have:=cA.1 b
 exact⟨a,this.1,by omega⟩
def uQ(g:aE)(s:Int):Int×Bool:=if plB g s then(xu g s,true)else(0,false)
theorem Gg{S:aK}{h:Heap}{g:Sl}{aI:aE}(G:dE S h g aI)(s:Int)(K:aL)(HK:∀h',Fr No h h'->K (.tuple #[VI (uQ aI s).1,VB (uQ aI s).2]) h'):aG aB 165 #[.agg #[g.v],VI s] h K:=by
 refine ajI g s h K fun b1 h2 fw f2 cR=> ?_
 have f2:=f2.aM
 refine bC gH (fun k=>h2.size<=k) (fun _ h=>h) 1 (by omega) [VI s] rfl rfl fun t h3 n3 c3 o3 f3 m3 _=>⟨t,rfl,cR.aC f3,?_⟩
 have r3:bE (fun k=>h2.size<=k) h3 t [s]:=o3.fW
 have iR:=f2.aA f3
 refine vA (G.no iR) r3 _ fun h4 f4=>⟨_,rfl,(cR.aC f3).aC f4,fun e=> ?_,fun e=> ?_⟩
 all_goals simp only[List.all_cons,List.all_nil,sV]at e
 all_goals have jZ:=iR.aA f4
 ·have er:uQ aI s=(0,false):=by unfold uQ plB;rw[bU e];rfl
  rw[er]at HK
  exact HK h4 jZ
 have e:plB aI s=true:=bS e
 obtain⟨hg,s0,s1⟩:=Ys e
 have gl:=bD hg
 have er:uQ aI s=(xu aI s,true):=by unfold uQ;rw[aJ e]
 rw[er]at HK
 obtain⟨ll,Q⟩:=Li s0 s1
 refine O0 (G.no jZ) hg s0 s1 _ fun t5 h5 o5 f5=>⟨t5,rfl,((cR.aC f3).aC f4).aC f5,?_⟩
 refine oB (dO.rd o5) (by rw[ll];exact Q) (by omega) (by rw[ll];exact EE hg s0 s1) _ fun h6 f6=>⟨_,rfl,(((cR.aC f3).aC f4).aC f5).aC f6,?_⟩
 rw[ll]
 exact HK h6 (jZ.aA (f5.aA f6))
theorem vY{S:aK}{h:Heap}{g:Sl}{aI:aE}(G:dE S h g aI)(s:Int)(K:aL)(HK:∀h',Fr No h h'->K (.tuple #[VI (uQ aI s).1,VB (uQ aI s).2]) h'):aG aB 137 #[.agg #[g.v],VI s] h K:=by
 refine ajf g s h K fun b1 h2 fw f2 cR=> ?_
 have f2:=f2.aM
 refine dY (G.no f2) s _ fun h4 f4=>⟨_,rfl,cR.aC f4,fun e=> ?_,fun e=> ?_⟩
 all_goals have jZ:=f2.aA f4
 ·have er:uQ aI s=(0,false):=by unfold uQ plB;rw[bU e];rfl
  rw[er]at HK
  exact HK h4 jZ
 have e:plB aI s=true:=bS e
 obtain⟨hg,s0,s1⟩:=Ys e
 have gl:=bD hg
 have er:uQ aI s=(xu aI s,true):=by unfold uQ;rw[aJ e]
 rw[er]at HK
 obtain⟨ll,Q⟩:=Li s0 s1
 refine Ji (G.no jZ) hg s0 s1 _ fun t5 h5 o5 f5=>⟨t5,rfl,(cR.aC f4).aC f5,?_⟩
 refine Ag (aI.length-1) (dO.rd o5) Q (by omega) (EE hg s0 s1) _ fun h6 f6=>⟨_,rfl,((cR.aC f4).aC f5).aC f6,?_⟩
 exact HK h6 (jZ.aA (f5.aA f6))
theorem BK{g:aE}:∀(m:Nat)(t:aH)(s:St)(t':aH)(s':St),runT g qx m t s=some (t',s')->t'.length=t.length+m
 |0,t,s,t',s',h=>by
  simp only[runT,dD,fL]at h
  rw[h.1]
  rfl
 |m+1,t,s,t',s',h=>by
  rw[runT]at h
  split at h
  ·cases h
  ·have:=BK m _ _ _ _ h
   simp[qx]at this
   omega
theorem VZ{F:aK}{b b':Nat}{h:Heap}{o w:Sl}{ps:aH}{q:Int}(V:cC h b [o.v])(V':cC h b' [w.v,VI q])(Wa:b'≠b)(O:cM h F o ps)(hFF:∀k,h.size<=k->F k)(hb:¬o.own b)(hb':¬o.own b')(hn:ps.length<=1000000)(x:Int)(K:aL)
 (HK:∀h' o' v,cC h' b [o'.v]->cM h' F o' (ps++[q])->(∀k,o'.own k->o.own k\/h.size<=k)->Fr (fun k=>k=b\/o.own k) h h'->K v h'):iW aB (.func (.func 208) #[] #[VP b 0,VP b' 0]) [VI x] h K:=by
 refine v208 x b o b' w q h K (.cons V (by simpa using Wa) (.cons V' (by simp) .nil)) ?_
 refine bC gH (fun k=>h.size<=k) (fun _ h=>h) 1 (by omega) [VI q] rfl rfl fun v h1 n1 c1 o1 f1 m1 _=>⟨v,rfl,.cons (V.fr f1 fun h=>h) (by simpa using Wa) (.cons (V'.fr f1 fun h=>h) (by simp) .nil),?_⟩
 have z1:=f1.size
 have o1:bE v.own h1 v [q]:=o1.rd
 have O1:=Ow.no O f1
 refine cV gH O1 (fun k hk=>hFF k (by omega)) o1 (gr _) (by have h1:=bE.len O1.fW;have h2:=o1.len;simp at h2;omega) fun y h2 n2 o2 f2 d2=>⟨y,rfl,.cons ((V.fr f1 fun h=>h).fr f2 hb) (by simpa using Wa) (.cons ((V'.fr f1 fun h=>h).fr f2 hb') (by simp) .nil),fun h3 f3 dA=> ?_⟩
 rw[<-cQ]at o2
 have hbl:=V.lt
 have Y6:∀k,In [b] k->k=b:=fun k hk=>by simpa[In]using hk
 have hyb:¬y.own b:=fun hk=>by
  rcases d2 b hk with h1|h1
  ·exact hb h1
  ·omega
 refine HK h3 y _ dA.head (Ow.fr o2 f3 fun k hk aQ=>hyb (by have:=Y6 k aQ;subst this;exact hk)) (fun k hk=>(d2 k hk).imp id fun h=>by omega) ?_
 exact(f1.aC.trans (f2.mono fun k _ hk=> .inr hk)).trans (f3.mono fun k _ hk=> .inl (Y6 k hk))
theorem BL{S S':aK}{h:Heap}{g w:Sl}{aI:aE}{rs:aH}(G:dE S h g aI)(H:bE S' h w rs)(p n:Int)(K:aL)(HK:∀t h',cM h' (Iv h.size h'.size) t (km aI rs p n).1->Fr No h h'->K (.tuple #[t.v,VB (km aI rs p n).2]) h'):aG aB 162 #[.agg #[g.v],.agg #[w.v,VI p],VI n] h K:=by
 refine v162 g w p n h K fun b1 b2 h2 fw eY f2 cR=> ?_
 have f2:=f2.aM
 have no:km aI rs p n=([],false)->∀h',Fr No h h'->K (.tuple #[aD.v,VB false]) h':=fun e h' f=>by
  have:=HK aD h' (by rw[e];exact Ow.nil _ _ _ _) f
  rw[e]at this
  exact this
 refine Fx (G.no f2) (H.no f2) p n 200 _ fun h3 f3=>⟨_,rfl,cR.aC f3,fun e=> ?_,fun e=> ?_⟩
 ·exact no (by unfold km;rw[aF (by rw[bU e];simp)]) _ (f2.aA f3)
 have e:=bS e
 have e2:km aI rs p n=match runT aI qx n.toNat [p] (rs,p)with
  |none=>([],false)
  |some (t,_)=>(t,true):=by unfold km;exact aJ e
 rw[bK,cA]at e
 have W:=eD e.1
 have Vb:=bD W.cN
 have iR:=f2.aA f3
 have z03:=iR.size
 have hL:=cR.aC f3
 have l2:b2<h3.size:=hL.head.lt
 have l1:b1<h3.size:=hL.tail.head.lt
 have fj:Fr No h3 h3:=Fr.refl _ _
 have cp:∀{h1:Heap}{K:aL},Fr No h3 h1->(∀t h2,cM h2 (Iv h1.size h2.size) t rs->Fr No h1 h2->K (.agg #[t.v,VI p]) h2)->aG aB 110 #[.agg #[w.v,VI p]] h1 K:=fun f HK=>jR ((H.no iR).no f) p (by have:=W.len;simp only at this;omega) _ HK
 have lit:∀{h1:Heap}{K:aL},Fr No h3 h1->(∀t h2,cM h2 (Iv h1.size h2.size) t [p]->Fr No h1 h2->K t.v h2)->j5 aB (Instr.buildSlice mW 1 #[(0,VI p)]) h1 K:=fun _ HK=>bC gH (fun k=>_<=k) (fun _ h=>h) 1 (by omega) [VI p] rfl rfl fun t h2 n2 c2 o2 f2 m2 _=>HK t h2 (Ow.gS o2) f2
 refine⟨fun bN xw xp bO xo h'=>xp=p/\∃i1 j1 i2 j2,cM h' (Iv i1 j1) xw rs/\cM h' (Iv i2 j2) xo [p]/\(j1<=i2\/j2<=i1)/\(bN<i1\/j1<=bN)/\(bN<i2\/j2<=bN)/\(bO<i1\/j1<=bO)/\(bO<i2\/j2<=bO)/\h3.size<=i1/\h3.size<=i2/\h3.size<=bN/\h3.size<=bO/\j1<=h'.size/\j2<=h'.size/\bN≠bO/\Fr No h3 h',?_,?_⟩
 ·refine⟨?_,?_,?_,?_⟩
  ·refine cp fj fun u_1 qG fI Wb=>⟨u_1,_,rfl,hL.aC Wb,?_⟩
   replace hL:=hL.aC Wb
   have af1:=Wb.size
   replace fj:=fj.aA Wb
   refine⟨?_,?_,?_⟩
   ·refine lit fj fun u_2 Wc Pn Sm=>⟨u_2,rfl,hL.aC Sm,?_⟩
    replace hL:=hL.aC Sm
    have af2:=Sm.size
    replace fI:=fI.no Sm
    replace fj:=fj.aA Sm
    refine⟨?_,?_⟩
    ·intro lK Po We aam aan Pp hL
     have aao:lK<We.size:=(hL.tail).head.lt
     have aap:Po<We.size:=(hL).head.lt
     have aaq:lK≠Po:=hL.ne (lK,_) cE
     replace Pp:=Pp.aM
     have af3:=Pp.size
     replace fI:=fI.no Pp
     replace Pn:=Pn.no Pp
     replace fj:=fj.aA Pp
     exact⟨rfl,h3.size,qG.size,qG.size,Wc.size,fI,Pn,by omega,by omega,by omega,by omega,by omega,by omega,by omega,by omega,by omega,by omega,by omega,by omega,fj⟩
    ·intro NJ Pq vZ aar aas Pr hL
     have aat:NJ<vZ.size:=(hL.tail).head.lt
     have aau:Pq<vZ.size:=(hL).head.lt
     have aav:NJ≠Pq:=hL.ne (NJ,_) cE
     replace Pr:=Pr.aM
     have af4:=Pr.size
     replace fI:=fI.no Pr
     replace Pn:=Pn.no Pr
     replace fj:=fj.aA Pr
     exact⟨rfl,h3.size,qG.size,qG.size,Wc.size,fI,Pn,by omega,by omega,by omega,by omega,by omega,by omega,by omega,by omega,by omega,by omega,by omega,by omega,fj⟩
   ·intro Ui uR aaw Sn hL
    have aax:Ui<uR.size:=(hL).head.lt
    replace Sn:=Sn.aM
    have af5:=Sn.size
    replace fI:=fI.no Sn
    replace fj:=fj.aA Sn
    refine⟨?_,?_⟩
    ·refine lit fj fun u_6 aay o_6 Sr=>⟨u_6,rfl,hL.aC Sr,?_⟩
     replace hL:=hL.aC Sr
     have af6:=Sr.size
     replace fI:=fI.no Sr
     replace fj:=fj.aA Sr
     intro tW aaA Wg Ps hL
     have Wi:tW<aaA.size:=(hL).head.lt
     replace Ps:=Ps.dI (lo:=qG.size) (hi:=uR.size) ⟨⟨by omega,by omega⟩,trivial⟩
     have af7:=Ps.size
     replace fI:=fI.iv Ps (by omega)
     replace o_6:=o_6.iv Ps (by omega)
     replace fj:=fj.aU Ps (by omega)
     exact⟨rfl,h3.size,qG.size,uR.size,aay.size,fI,o_6,by omega,by omega,by omega,by omega,by omega,by omega,by omega,by omega,by omega,by omega,by omega,by omega,fj⟩
    ·intro xD BM Wj Ss hL
     have Wk:xD<BM.size:=(hL).head.lt
     replace Ss:=Ss.aM
     have af8:=Ss.size
     replace fI:=fI.no Ss
     replace fj:=fj.aA Ss
     refine⟨?_,?_⟩
     ·refine lit fj fun u_9 aaB Wm Su=>⟨u_9,rfl,hL.aC Su,?_⟩
      replace hL:=hL.aC Su
      have af9:=Su.size
      replace fI:=fI.no Su
      replace fj:=fj.aA Su
      intro VV Gh hL
      have aaC:=Gh.size
      replace fI:=fI.fr Gh fun k hk aQ=>by have h1:=(fI.aR hk).1;have h2:=h1.1;have h3:=h1.2;simp only[In,aO,aS,aN]at aQ;omega
      replace Wm:=Wm.fr Gh fun k hk aQ=>by have h1:=(Wm.aR hk).1;have h2:=h1.1;have h3:=h1.2;simp only[In,aO,aS,aN]at aQ;omega
      replace fj:=fj.fresh Gh fun k hk=>by simp only[In,aO,aS,aN]at hk;omega
      exact⟨rfl,h3.size,qG.size,BM.size,aaB.size,fI,Wm,by omega,by omega,by omega,by omega,by omega,by omega,by omega,by omega,by omega,by omega,by omega,by omega,fj⟩
     ·intro Jw BN hL
      replace BN:=BN.dI (lo:=qG.size) (hi:=uR.size) ⟨⟨by omega,by omega⟩,trivial⟩
      have aaD:=BN.size
      replace fI:=fI.iv BN (by omega)
      replace fj:=fj.aU BN (by omega)
      refine lit fj fun aaE xA Lx BO=>⟨aaE,rfl,hL.aC BO,?_⟩
      replace hL:=hL.aC BO
      have aaF:=BO.size
      replace fI:=fI.no BO
      replace fj:=fj.aA BO
      intro RX xE hL
      replace xE:=xE.dI (lo:=uR.size) (hi:=BM.size) ⟨⟨by omega,by omega⟩,trivial⟩
      have aaG:=xE.size
      replace fI:=fI.iv xE (by omega)
      replace Lx:=Lx.iv xE (by omega)
      replace fj:=fj.aU xE (by omega)
      exact⟨rfl,h3.size,qG.size,Jw.size,xA.size,fI,Lx,by omega,by omega,by omega,by omega,by omega,by omega,by omega,by omega,by omega,by omega,by omega,by omega,fj⟩
   ·intro Dq oD Wn BP hL
    have Wo:Dq<oD.size:=(hL).head.lt
    replace BP:=BP.aM
    have aaH:=BP.size
    replace fI:=fI.no BP
    replace fj:=fj.aA BP
    refine⟨?_,?_⟩
    ·refine lit fj fun aaI F0 Ly BR=>⟨aaI,rfl,hL.aC BR,?_⟩
     replace hL:=hL.aC BR
     have aaJ:=BR.size
     replace fI:=fI.no BR
     replace fj:=fj.aA BR
     intro oE vU Wp xF hL
     have Wq:oE<vU.size:=(hL).head.lt
     replace xF:=xF.dI (lo:=qG.size) (hi:=oD.size) ⟨⟨by omega,by omega⟩,trivial⟩
     have aaK:=xF.size
     replace fI:=fI.iv xF (by omega)
     replace Ly:=Ly.iv xF (by omega)
     replace fj:=fj.aU xF (by omega)
     exact⟨rfl,h3.size,qG.size,oD.size,F0.size,fI,Ly,by omega,by omega,by omega,by omega,by omega,by omega,by omega,by omega,by omega,by omega,by omega,by omega,fj⟩
    ·intro nG vV Wr BS hL
     have Ww:nG<vV.size:=(hL).head.lt
     replace BS:=BS.aM
     have aaL:=BS.size
     replace fI:=fI.no BS
     replace fj:=fj.aA BS
     refine⟨?_,?_⟩
     ·refine lit fj fun aaM BJ Gi BT=>⟨aaM,rfl,hL.aC BT,?_⟩
      replace hL:=hL.aC BT
      have aaN:=BT.size
      replace fI:=fI.no BT
      replace fj:=fj.aA BT
      intro Gc Gj hL
      have aaO:=Gj.size
      replace fI:=fI.fr Gj fun k hk aQ=>by have h1:=(fI.aR hk).1;have h2:=h1.1;have h3:=h1.2;simp only[In,aO,aS,aN]at aQ;omega
      replace Gi:=Gi.fr Gj fun k hk aQ=>by have h1:=(Gi.aR hk).1;have h2:=h1.1;have h3:=h1.2;simp only[In,aO,aS,aN]at aQ;omega
      replace fj:=fj.fresh Gj fun k hk=>by simp only[In,aO,aS,aN]at hk;omega
      exact⟨rfl,h3.size,qG.size,vV.size,BJ.size,fI,Gi,by omega,by omega,by omega,by omega,by omega,by omega,by omega,by omega,by omega,by omega,by omega,by omega,fj⟩
     ·intro Lz BU hL
      replace BU:=BU.dI (lo:=oD.size) (hi:=vV.size) ⟨⟨by omega,by omega⟩,trivial⟩
      have aaP:=BU.size
      replace fI:=fI.iv BU (by omega)
      replace fj:=fj.aU BU (by omega)
      refine lit fj fun aaQ JB LA BV=>⟨aaQ,rfl,hL.aC BV,?_⟩
      replace hL:=hL.aC BV
      have aaR:=BV.size
      replace fI:=fI.no BV
      replace fj:=fj.aA BV
      intro Sv xG hL
      replace xG:=xG.dI (lo:=qG.size) (hi:=oD.size) ⟨⟨by omega,by omega⟩,trivial⟩
      have aaS:=xG.size
      replace fI:=fI.iv xG (by omega)
      replace LA:=LA.iv xG (by omega)
      replace fj:=fj.aU xG (by omega)
      exact⟨rfl,h3.size,qG.size,Lz.size,JB.size,fI,LA,by omega,by omega,by omega,by omega,by omega,by omega,by omega,by omega,by omega,by omega,by omega,by omega,fj⟩
  ·refine lit fj fun aaT l9 dG Gk=>⟨aaT,rfl,hL.aC Gk,?_⟩
   replace hL:=hL.aC Gk
   have aaU:=Gk.size
   replace fj:=fj.aA Gk
   refine⟨?_,?_,?_⟩
   ·refine cp fj fun aaV Gl xH BW=>⟨aaV,_,rfl,hL.aC BW,?_⟩
    replace hL:=hL.aC BW
    have aaW:=BW.size
    replace dG:=dG.no BW
    replace fj:=fj.aA BW
    refine⟨?_,?_⟩
    ·intro uS zm Gm Wx Wy xI hL
     have Wz:uS<Gm.size:=(hL.tail).head.lt
     have WA:zm<Gm.size:=(hL).head.lt
     have WB:uS≠zm:=hL.ne (uS,_) cE
     replace xI:=xI.aM
     have aaX:=xI.size
     replace dG:=dG.no xI
     replace xH:=xH.no xI
     replace fj:=fj.aA xI
     exact⟨rfl,l9.size,Gl.size,h3.size,l9.size,xH,dG,by omega,by omega,by omega,by omega,by omega,by omega,by omega,by omega,by omega,by omega,by omega,by omega,fj⟩
    ·intro uT zn Gn WC WD xJ hL
     have WE:uT<Gn.size:=(hL.tail).head.lt
     have WG:zn<Gn.size:=(hL).head.lt
     have WH:uT≠zn:=hL.ne (uT,_) cE
     replace xJ:=xJ.aM
     have aaY:=xJ.size
     replace dG:=dG.no xJ
     replace xH:=xH.no xJ
     replace fj:=fj.aA xJ
     exact⟨rfl,l9.size,Gl.size,h3.size,l9.size,xH,dG,by omega,by omega,by omega,by omega,by omega,by omega,by omega,by omega,by omega,by omega,by omega,by omega,fj⟩
   ·intro aaZ Dr WI BX hL
    have WJ:aaZ<Dr.size:=(hL).head.lt
    replace BX:=BX.aM
    have aa0:=BX.size
    replace dG:=dG.no BX
    replace fj:=fj.aA BX
    refine⟨?_,?_⟩
    ·refine cp fj fun aa1 LB LC BZ=>⟨aa1,_,rfl,hL.aC BZ,?_⟩
     replace hL:=hL.aC BZ
     have aa2:=BZ.size
     replace dG:=dG.no BZ
     replace fj:=fj.aA BZ
     intro aa3 aa4 WL xK hL
     have WM:aa3<aa4.size:=(hL).head.lt
     replace xK:=xK.dI (lo:=l9.size) (hi:=Dr.size) ⟨⟨by omega,by omega⟩,trivial⟩
     have aa5:=xK.size
     replace dG:=dG.iv xK (by omega)
     replace LC:=LC.iv xK (by omega)
     replace fj:=fj.aU xK (by omega)
     exact⟨rfl,Dr.size,LB.size,h3.size,l9.size,LC,dG,by omega,by omega,by omega,by omega,by omega,by omega,by omega,by omega,by omega,by omega,by omega,by omega,fj⟩
    ·intro aa6 Sx WN B3 hL
     have WQ:aa6<Sx.size:=(hL).head.lt
     replace B3:=B3.aM
     have aa7:=B3.size
     replace dG:=dG.no B3
     replace fj:=fj.aA B3
     refine cp fj fun aa8 aa9 Gp B4=>⟨aa8,_,rfl,hL.aC B4,?_⟩
     replace hL:=hL.aC B4
     have aba:=B4.size
     replace dG:=dG.no B4
     replace fj:=fj.aA B4
     intro am8 Gq hL
     have abb:=Gq.size
     replace dG:=dG.fr Gq fun k hk aQ=>by have h1:=(dG.aR hk).1;have h2:=h1.1;have h3:=h1.2;simp only[In,aO,aS,aN]at aQ;omega
     replace Gp:=Gp.fr Gq fun k hk aQ=>by have h1:=(Gp.aR hk).1;have h2:=h1.1;have h3:=h1.2;simp only[In,aO,aS,aN]at aQ;omega
     replace fj:=fj.fresh Gq fun k hk=>by simp only[In,aO,aS,aN]at hk;omega
     exact⟨rfl,Sx.size,aa9.size,h3.size,l9.size,Gp,dG,by omega,by omega,by omega,by omega,by omega,by omega,by omega,by omega,by omega,by omega,by omega,by omega,fj⟩
   ·intro abc LD WR B5 hL
    have WS:abc<LD.size:=(hL).head.lt
    replace B5:=B5.aM
    have abd:=B5.size
    replace dG:=dG.no B5
    replace fj:=fj.aA B5
    refine⟨?_,?_⟩
    ·refine cp fj fun abe abf LF B7=>⟨abe,_,rfl,hL.aC B7,?_⟩
     replace hL:=hL.aC B7
     have abg:=B7.size
     replace dG:=dG.no B7
     replace fj:=fj.aA B7
     intro abh abj WT xL hL
     have WU:abh<abj.size:=(hL).head.lt
     replace xL:=xL.dI (lo:=l9.size) (hi:=LD.size) ⟨⟨by omega,by omega⟩,trivial⟩
     have abk:=xL.size
     replace dG:=dG.iv xL (by omega)
     replace LF:=LF.iv xL (by omega)
     replace fj:=fj.aU xL (by omega)
     exact⟨rfl,LD.size,abf.size,h3.size,l9.size,LF,dG,by omega,by omega,by omega,by omega,by omega,by omega,by omega,by omega,by omega,by omega,by omega,by omega,fj⟩
    ·intro abl Sy WV B8 hL
     have WW:abl<Sy.size:=(hL).head.lt
     replace B8:=B8.aM
     have abm:=B8.size
     replace dG:=dG.no B8
     replace fj:=fj.aA B8
     refine cp fj fun abn abo Gr B9=>⟨abn,_,rfl,hL.aC B9,?_⟩
     replace hL:=hL.aC B9
     have abp:=B9.size
     replace dG:=dG.no B9
     replace fj:=fj.aA B9
     intro am9 Gs hL
     have abq:=Gs.size
     replace dG:=dG.fr Gs fun k hk aQ=>by have h1:=(dG.aR hk).1;have h2:=h1.1;have h3:=h1.2;simp only[In,aO,aS,aN]at aQ;omega
     replace Gr:=Gr.fr Gs fun k hk aQ=>by have h1:=(Gr.aR hk).1;have h2:=h1.1;have h3:=h1.2;simp only[In,aO,aS,aN]at aQ;omega
     replace fj:=fj.fresh Gs fun k hk=>by simp only[In,aO,aS,aN]at hk;omega
     exact⟨rfl,Sy.size,abo.size,h3.size,l9.size,Gr,dG,by omega,by omega,by omega,by omega,by omega,by omega,by omega,by omega,by omega,by omega,by omega,by omega,fj⟩
  ·intro abr nn WX Gt hL
   have WY:abr<nn.size:=(hL).head.lt
   replace Gt:=Gt.aM
   have abt:=Gt.size
   replace fj:=fj.aA Gt
   refine⟨?_,?_,?_⟩
   ·refine cp fj fun abu Ca gX Gu=>⟨abu,_,rfl,hL.aC Gu,?_⟩
    replace hL:=hL.aC Gu
    have abv:=Gu.size
    replace fj:=fj.aA Gu
    refine⟨?_,?_⟩
    ·refine lit fj fun abw abx LG Cb=>⟨abw,rfl,hL.aC Cb,?_⟩
     replace hL:=hL.aC Cb
     have aby:=Cb.size
     replace gX:=gX.no Cb
     replace fj:=fj.aA Cb
     intro abz abA WZ xM hL
     have W4:abz<abA.size:=(hL).head.lt
     replace xM:=xM.dI (lo:=h3.size) (hi:=nn.size) ⟨⟨by omega,by omega⟩,trivial⟩
     have abB:=xM.size
     replace gX:=gX.iv xM (by omega)
     replace LG:=LG.iv xM (by omega)
     replace fj:=fj.aU xM (by omega)
     exact⟨rfl,nn.size,Ca.size,Ca.size,abx.size,gX,LG,by omega,by omega,by omega,by omega,by omega,by omega,by omega,by omega,by omega,by omega,by omega,by omega,fj⟩
    ·intro abC LH Xa Cc hL
     have Xb:abC<LH.size:=(hL).head.lt
     replace Cc:=Cc.aM
     have abD:=Cc.size
     replace gX:=gX.no Cc
     replace fj:=fj.aA Cc
     refine⟨?_,?_⟩
     ·refine lit fj fun abE abF Gv Cd=>⟨abE,rfl,hL.aC Cd,?_⟩
      replace hL:=hL.aC Cd
      have abG:=Cd.size
      replace gX:=gX.no Cd
      replace fj:=fj.aA Cd
      intro ana Gw hL
      have abH:=Gw.size
      replace gX:=gX.fr Gw fun k hk aQ=>by have h1:=(gX.aR hk).1;have h2:=h1.1;have h3:=h1.2;simp only[In,aO,aS,aN]at aQ;omega
      replace Gv:=Gv.fr Gw fun k hk aQ=>by have h1:=(Gv.aR hk).1;have h2:=h1.1;have h3:=h1.2;simp only[In,aO,aS,aN]at aQ;omega
      replace fj:=fj.fresh Gw fun k hk=>by simp only[In,aO,aS,aN]at hk;omega
      exact⟨rfl,nn.size,Ca.size,LH.size,abF.size,gX,Gv,by omega,by omega,by omega,by omega,by omega,by omega,by omega,by omega,by omega,by omega,by omega,by omega,fj⟩
     ·intro abI Ce hL
      replace Ce:=Ce.dI (lo:=h3.size) (hi:=nn.size) ⟨⟨by omega,by omega⟩,trivial⟩
      have abJ:=Ce.size
      replace gX:=gX.iv Ce (by omega)
      replace fj:=fj.aU Ce (by omega)
      refine lit fj fun abK abL LI Cf=>⟨abK,rfl,hL.aC Cf,?_⟩
      replace hL:=hL.aC Cf
      have abM:=Cf.size
      replace gX:=gX.no Cf
      replace fj:=fj.aA Cf
      intro anb xP hL
      replace xP:=xP.dI (lo:=Ca.size) (hi:=LH.size) ⟨⟨by omega,by omega⟩,trivial⟩
      have abN:=xP.size
      replace gX:=gX.iv xP (by omega)
      replace LI:=LI.iv xP (by omega)
      replace fj:=fj.aU xP (by omega)
      exact⟨rfl,nn.size,Ca.size,abI.size,abL.size,gX,LI,by omega,by omega,by omega,by omega,by omega,by omega,by omega,by omega,by omega,by omega,by omega,by omega,fj⟩
   ·refine lit fj fun abO LJ k8 Gx=>⟨abO,rfl,hL.aC Gx,?_⟩
    replace hL:=hL.aC Gx
    have abP:=Gx.size
    replace fj:=fj.aA Gx
    refine⟨?_,?_⟩
    ·refine cp fj fun abQ abR LK Cg=>⟨abQ,_,rfl,hL.aC Cg,?_⟩
     replace hL:=hL.aC Cg
     have abS:=Cg.size
     replace k8:=k8.no Cg
     replace fj:=fj.aA Cg
     intro abT abU Xc xQ hL
     have Xd:abT<abU.size:=(hL).head.lt
     replace xQ:=xQ.dI (lo:=h3.size) (hi:=nn.size) ⟨⟨by omega,by omega⟩,trivial⟩
     have abV:=xQ.size
     replace k8:=k8.iv xQ (by omega)
     replace LK:=LK.iv xQ (by omega)
     replace fj:=fj.aU xQ (by omega)
     exact⟨rfl,LJ.size,abR.size,nn.size,LJ.size,LK,k8,by omega,by omega,by omega,by omega,by omega,by omega,by omega,by omega,by omega,by omega,by omega,by omega,fj⟩
    ·intro abW Sz Xe Ch hL
     have Xf:abW<Sz.size:=(hL).head.lt
     replace Ch:=Ch.aM
     have abX:=Ch.size
     replace k8:=k8.no Ch
     replace fj:=fj.aA Ch
     refine cp fj fun abY abZ Gy Ci=>⟨abY,_,rfl,hL.aC Ci,?_⟩
     replace hL:=hL.aC Ci
     have ab0:=Ci.size
     replace k8:=k8.no Ci
     replace fj:=fj.aA Ci
     intro ane Gz hL
     have ab1:=Gz.size
     replace k8:=k8.fr Gz fun k hk aQ=>by have h1:=(k8.aR hk).1;have h2:=h1.1;have h3:=h1.2;simp only[In,aO,aS,aN]at aQ;omega
     replace Gy:=Gy.fr Gz fun k hk aQ=>by have h1:=(Gy.aR hk).1;have h2:=h1.1;have h3:=h1.2;simp only[In,aO,aS,aN]at aQ;omega
     replace fj:=fj.fresh Gz fun k hk=>by simp only[In,aO,aS,aN]at hk;omega
     exact⟨rfl,Sz.size,abZ.size,nn.size,LJ.size,Gy,k8,by omega,by omega,by omega,by omega,by omega,by omega,by omega,by omega,by omega,by omega,by omega,by omega,fj⟩
   ·intro ab2 Cj Xg GA hL
    have Xh:ab2<Cj.size:=(hL).head.lt
    replace GA:=GA.aM
    have ab3:=GA.size
    replace fj:=fj.aA GA
    refine⟨?_,?_⟩
    ·refine cp fj fun ab4 LM k9 GB=>⟨ab4,_,rfl,hL.aC GB,?_⟩
     replace hL:=hL.aC GB
     have ab5:=GB.size
     replace fj:=fj.aA GB
     refine⟨?_,?_⟩
     ·refine lit fj fun ab6 ab7 GC Ck=>⟨ab6,rfl,hL.aC Ck,?_⟩
      replace hL:=hL.aC Ck
      have ab8:=Ck.size
      replace k9:=k9.no Ck
      replace fj:=fj.aA Ck
      intro anf GD hL
      have ab9:=GD.size
      replace k9:=k9.fr GD fun k hk aQ=>by have h1:=(k9.aR hk).1;have h2:=h1.1;have h3:=h1.2;simp only[In,aO,aS,aN]at aQ;omega
      replace GC:=GC.fr GD fun k hk aQ=>by have h1:=(GC.aR hk).1;have h2:=h1.1;have h3:=h1.2;simp only[In,aO,aS,aN]at aQ;omega
      replace fj:=fj.fresh GD fun k hk=>by simp only[In,aO,aS,aN]at hk;omega
      exact⟨rfl,Cj.size,LM.size,LM.size,ab7.size,k9,GC,by omega,by omega,by omega,by omega,by omega,by omega,by omega,by omega,by omega,by omega,by omega,by omega,fj⟩
     ·intro aca Cm hL
      replace Cm:=Cm.dI (lo:=h3.size) (hi:=nn.size) ⟨⟨by omega,by omega⟩,trivial⟩
      have acb:=Cm.size
      replace k9:=k9.iv Cm (by omega)
      replace fj:=fj.aU Cm (by omega)
      refine lit fj fun acd ace LN Cn=>⟨acd,rfl,hL.aC Cn,?_⟩
      replace hL:=hL.aC Cn
      have acf:=Cn.size
      replace k9:=k9.no Cn
      replace fj:=fj.aA Cn
      intro ang xR hL
      replace xR:=xR.dI (lo:=nn.size) (hi:=Cj.size) ⟨⟨by omega,by omega⟩,trivial⟩
      have acg:=xR.size
      replace k9:=k9.iv xR (by omega)
      replace LN:=LN.iv xR (by omega)
      replace fj:=fj.aU xR (by omega)
      exact⟨rfl,Cj.size,LM.size,aca.size,ace.size,k9,LN,by omega,by omega,by omega,by omega,by omega,by omega,by omega,by omega,by omega,by omega,by omega,by omega,fj⟩
    ·refine lit fj fun ach SA xS GF=>⟨ach,rfl,hL.aC GF,?_⟩
     replace hL:=hL.aC GF
     have aci:=GF.size
     replace fj:=fj.aA GF
     refine cp fj fun acj ack GG Co=>⟨acj,_,rfl,hL.aC Co,?_⟩
     replace hL:=hL.aC Co
     have acm:=Co.size
     replace xS:=xS.no Co
     replace fj:=fj.aA Co
     intro anh GH hL
     have acn:=GH.size
     replace xS:=xS.fr GH fun k hk aQ=>by have h1:=(xS.aR hk).1;have h2:=h1.1;have h3:=h1.2;simp only[In,aO,aS,aN]at aQ;omega
     replace GG:=GG.fr GH fun k hk aQ=>by have h1:=(GG.aR hk).1;have h2:=h1.1;have h3:=h1.2;simp only[In,aO,aS,aN]at aQ;omega
     replace fj:=fj.fresh GH fun k hk=>by simp only[In,aO,aS,aN]at hk;omega
     exact⟨rfl,SA.size,ack.size,Cj.size,SA.size,GG,xS,by omega,by omega,by omega,by omega,by omega,by omega,by omega,by omega,by omega,by omega,by omega,by omega,fj⟩
  ·intro aco jg Xi GI hL
   have Xj:aco<jg.size:=(hL).head.lt
   replace GI:=GI.aM
   have acp:=GI.size
   replace fj:=fj.aA GI
   refine⟨?_,?_,?_⟩
   ·refine cp fj fun acq su gY GJ=>⟨acq,_,rfl,hL.aC GJ,?_⟩
    replace hL:=hL.aC GJ
    have acr:=GJ.size
    replace fj:=fj.aA GJ
    refine⟨?_,?_⟩
    ·refine lit fj fun acs SB LO Cq=>⟨acs,rfl,hL.aC Cq,?_⟩
     replace hL:=hL.aC Cq
     have acu:=Cq.size
     replace gY:=gY.no Cq
     replace fj:=fj.aA Cq
     intro acv SC Xk xT hL
     have Xl:acv<SC.size:=(hL).head.lt
     replace xT:=xT.dI (lo:=h3.size) (hi:=jg.size) ⟨⟨by omega,by omega⟩,trivial⟩
     have acw:=xT.size
     replace gY:=gY.iv xT (by omega)
     replace LO:=LO.iv xT (by omega)
     replace fj:=fj.aU xT (by omega)
     exact⟨rfl,jg.size,su.size,su.size,SB.size,gY,LO,by omega,by omega,by omega,by omega,by omega,by omega,by omega,by omega,by omega,by omega,by omega,by omega,fj⟩
    ·intro acx Cr Xm Cs hL
     have Xn:acx<Cr.size:=(hL).head.lt
     replace Cs:=Cs.aM
     have acy:=Cs.size
     replace gY:=gY.no Cs
     replace fj:=fj.aA Cs
     refine⟨?_,?_⟩
     ·refine lit fj fun acz SD GK Ct=>⟨acz,rfl,hL.aC Ct,?_⟩
      replace hL:=hL.aC Ct
      have acA:=Ct.size
      replace gY:=gY.no Ct
      replace fj:=fj.aA Ct
      intro aga GM hL
      have acB:=GM.size
      replace gY:=gY.fr GM fun k hk aQ=>by have h1:=(gY.aR hk).1;have h2:=h1.1;have h3:=h1.2;simp only[In,aO,aS,aN]at aQ;omega
      replace GK:=GK.fr GM fun k hk aQ=>by have h1:=(GK.aR hk).1;have h2:=h1.1;have h3:=h1.2;simp only[In,aO,aS,aN]at aQ;omega
      replace fj:=fj.fresh GM fun k hk=>by simp only[In,aO,aS,aN]at hk;omega
      exact⟨rfl,jg.size,su.size,Cr.size,SD.size,gY,GK,by omega,by omega,by omega,by omega,by omega,by omega,by omega,by omega,by omega,by omega,by omega,by omega,fj⟩
     ·intro SE Cu hL
      replace Cu:=Cu.dI (lo:=su.size) (hi:=Cr.size) ⟨⟨by omega,by omega⟩,trivial⟩
      have acC:=Cu.size
      replace gY:=gY.iv Cu (by omega)
      replace fj:=fj.aU Cu (by omega)
      refine lit fj fun acD SG LP Cv=>⟨acD,rfl,hL.aC Cv,?_⟩
      replace hL:=hL.aC Cv
      have acE:=Cv.size
      replace gY:=gY.no Cv
      replace fj:=fj.aA Cv
      intro agb xU hL
      replace xU:=xU.dI (lo:=h3.size) (hi:=jg.size) ⟨⟨by omega,by omega⟩,trivial⟩
      have acF:=xU.size
      replace gY:=gY.iv xU (by omega)
      replace LP:=LP.iv xU (by omega)
      replace fj:=fj.aU xU (by omega)
      exact⟨rfl,jg.size,su.size,SE.size,SG.size,gY,LP,by omega,by omega,by omega,by omega,by omega,by omega,by omega,by omega,by omega,by omega,by omega,by omega,fj⟩
   ·refine lit fj fun acG Cw lc GN=>⟨acG,rfl,hL.aC GN,?_⟩
    replace hL:=hL.aC GN
    have acH:=GN.size
    replace fj:=fj.aA GN
    refine⟨?_,?_⟩
    ·refine cp fj fun acI SH LQ Cx=>⟨acI,_,rfl,hL.aC Cx,?_⟩
     replace hL:=hL.aC Cx
     have acJ:=Cx.size
     replace lc:=lc.no Cx
     replace fj:=fj.aA Cx
     intro acK SI Xo xV hL
     have Xp:acK<SI.size:=(hL).head.lt
     replace xV:=xV.dI (lo:=h3.size) (hi:=jg.size) ⟨⟨by omega,by omega⟩,trivial⟩
     have acL:=xV.size
     replace lc:=lc.iv xV (by omega)
     replace LQ:=LQ.iv xV (by omega)
     replace fj:=fj.aU xV (by omega)
     exact⟨rfl,Cw.size,SH.size,jg.size,Cw.size,LQ,lc,by omega,by omega,by omega,by omega,by omega,by omega,by omega,by omega,by omega,by omega,by omega,by omega,fj⟩
    ·intro acM JC Xq Cy hL
     have Xr:acM<JC.size:=(hL).head.lt
     replace Cy:=Cy.aM
     have acN:=Cy.size
     replace lc:=lc.no Cy
     replace fj:=fj.aA Cy
     refine cp fj fun acO SJ GO Cz=>⟨acO,_,rfl,hL.aC Cz,?_⟩
     replace hL:=hL.aC Cz
     have acP:=Cz.size
     replace lc:=lc.no Cz
     replace fj:=fj.aA Cz
     intro agc GP hL
     have acQ:=GP.size
     replace lc:=lc.fr GP fun k hk aQ=>by have h1:=(lc.aR hk).1;have h2:=h1.1;have h3:=h1.2;simp only[In,aO,aS,aN]at aQ;omega
     replace GO:=GO.fr GP fun k hk aQ=>by have h1:=(GO.aR hk).1;have h2:=h1.1;have h3:=h1.2;simp only[In,aO,aS,aN]at aQ;omega
     replace fj:=fj.fresh GP fun k hk=>by simp only[In,aO,aS,aN]at hk;omega
     exact⟨rfl,JC.size,SJ.size,jg.size,Cw.size,GO,lc,by omega,by omega,by omega,by omega,by omega,by omega,by omega,by omega,by omega,by omega,by omega,by omega,fj⟩
   ·intro acR sv Xs GQ hL
    have Xt:acR<sv.size:=(hL).head.lt
    replace GQ:=GQ.aM
    have acS:=GQ.size
    replace fj:=fj.aA GQ
    refine⟨?_,?_⟩
    ·refine cp fj fun acT CA ld GS=>⟨acT,_,rfl,hL.aC GS,?_⟩
     replace hL:=hL.aC GS
     have acU:=GS.size
     replace fj:=fj.aA GS
     refine⟨?_,?_⟩
     ·refine lit fj fun acV SK GU CB=>⟨acV,rfl,hL.aC CB,?_⟩
      replace hL:=hL.aC CB
      have acW:=CB.size
      replace ld:=ld.no CB
      replace fj:=fj.aA CB
      intro agd GV hL
      have acX:=GV.size
      replace ld:=ld.fr GV fun k hk aQ=>by have h1:=(ld.aR hk).1;have h2:=h1.1;have h3:=h1.2;simp only[In,aO,aS,aN]at aQ;omega
      replace GU:=GU.fr GV fun k hk aQ=>by have h1:=(GU.aR hk).1;have h2:=h1.1;have h3:=h1.2;simp only[In,aO,aS,aN]at aQ;omega
      replace fj:=fj.fresh GV fun k hk=>by simp only[In,aO,aS,aN]at hk;omega
      exact⟨rfl,sv.size,CA.size,CA.size,SK.size,ld,GU,by omega,by omega,by omega,by omega,by omega,by omega,by omega,by omega,by omega,by omega,by omega,by omega,fj⟩
     ·intro SL CC hL
      replace CC:=CC.dI (lo:=jg.size) (hi:=sv.size) ⟨⟨by omega,by omega⟩,trivial⟩
      have acY:=CC.size
      replace ld:=ld.iv CC (by omega)
      replace fj:=fj.aU CC (by omega)
      refine lit fj fun acZ SM LR CD=>⟨acZ,rfl,hL.aC CD,?_⟩
      replace hL:=hL.aC CD
      have ac0:=CD.size
      replace ld:=ld.no CD
      replace fj:=fj.aA CD
      intro age xW hL
      replace xW:=xW.dI (lo:=h3.size) (hi:=jg.size) ⟨⟨by omega,by omega⟩,trivial⟩
      have ac1:=xW.size
      replace ld:=ld.iv xW (by omega)
      replace LR:=LR.iv xW (by omega)
      replace fj:=fj.aU xW (by omega)
      exact⟨rfl,sv.size,CA.size,SL.size,SM.size,ld,LR,by omega,by omega,by omega,by omega,by omega,by omega,by omega,by omega,by omega,by omega,by omega,by omega,fj⟩
    ·refine lit fj fun ac2 JD xX GW=>⟨ac2,rfl,hL.aC GW,?_⟩
     replace hL:=hL.aC GW
     have ac3:=GW.size
     replace fj:=fj.aA GW
     refine cp fj fun ac4 SN GY CE=>⟨ac4,_,rfl,hL.aC CE,?_⟩
     replace hL:=hL.aC CE
     have ac5:=CE.size
     replace xX:=xX.no CE
     replace fj:=fj.aA CE
     intro agf GZ hL
     have ac6:=GZ.size
     replace xX:=xX.fr GZ fun k hk aQ=>by have h1:=(xX.aR hk).1;have h2:=h1.1;have h3:=h1.2;simp only[In,aO,aS,aN]at aQ;omega
     replace GY:=GY.fr GZ fun k hk aQ=>by have h1:=(GY.aR hk).1;have h2:=h1.1;have h3:=h1.2;simp only[In,aO,aS,aN]at aQ;omega
     replace fj:=fj.fresh GZ fun k hk=>by simp only[In,aO,aS,aN]at hk;omega
     exact⟨rfl,JD.size,SN.size,sv.size,JD.size,GY,xX,by omega,by omega,by omega,by omega,by omega,by omega,by omega,by omega,by omega,by omega,by omega,by omega,fj⟩
 rintro bN x1 x2 bO x3 CF ⟨rfl,i1,j1,i2,j2,o1,o2,d12,dN1,dN2,dO1,dO2,e1,e2',e3,e4,e5,e6,fH,f134⟩ np
 have f0:=iR.aA f134
 have anj:=f134.size
 have lO:bO<CF.size:=np.head.lt
 have lN:bN<CF.size:=np.tail.head.lt
 have ac7:dE (fun k=>k<h3.size) CF g aI:=(G.no iR).low.no f134
 have xN:¬x1.own bN:=fun hk=>by have h1:=(o1.aR hk).1.1;have h2:=(o1.aR hk).1.2;omega
 have xO:¬x3.own bO:=fun hk=>by have h1:=(o2.aR hk).1.1;have h2:=(o2.aR hk).1.2;omega
 have x1O:¬x1.own bO:=fun hk=>by have h1:=(o1.aR hk).1.1;have h2:=(o1.aR hk).1.2;omega
 have x3N:¬x3.own bN:=fun hk=>by have h1:=(o2.aR hk).1.1;have h2:=(o2.aR hk).1.2;omega
 have MO:∀k,x1.own k->¬x3.own k:=fun k h1 h3=>by have a1:=(o1.aR h1).1.1;have a2:=(o1.aR h1).1.2;have a3:=(o2.aR h3).1.1;have a4:=(o2.aR h3).1.2;omega
 have x1g:∀k,x1.own k->h3.size<=k/\k<CF.size:=fun k hk=>⟨by have:=(o1.aR hk).1.1;omega,(o1.aR hk).2⟩
 have x3g:∀k,x3.own k->h3.size<=k/\k<CF.size:=fun k hk=>⟨by have:=(o2.aR hk).1.1;omega,(o2.aR hk).2⟩
 --what the ac8 region and the other one are off
 have tP:∀k,(k=bN\/x1.own k)\/(k=bO\/x3.own k)->h3.size<=k:=fun k hk=>by
  rcases hk with(rfl|hk)|(rfl|hk)
  ·omega
  ·exact(x1g k hk).1
  ·omega
  ·exact(x3g k hk).1
 refine QU (s0:=(rs,x2)) (F:=fun k=>k=bN\/x1.own k) (S:=fun k=>k<h3.size) qx
  (fun N t h'=>∃o:Sl,cC h' bO [o.v]/\cM h' (fun k=>h3.size<=k) o t/\∀k,o.own k->x3.own k\/N<=k) (fun k=>k=bO\/x3.own k)
  ac7 np.tail.head (o1.mono fun k hk _=> .inr hk) (fun k hk=>⟨fun h=>by have:=tP k (.inl h);omega,fun h=>by have:=tP k (.inr h);omega⟩) (.inl rfl) xN W n (by omega) (by omega) _ [x2]
  (fun k hk=>by rcases hk with rfl|hk;exact lN;exact(x1g k hk).2)
  (fun k hk=>⟨fun h=>by
   rcases hk with rfl|hk<;>rcases h with rfl|h
   ·exact fH rfl
   ·exact x1O h
   ·exact x3N hk
   ·exact MO k h hk,by rcases hk with rfl|hk;exact lO;exact(x3g k hk).2⟩)
  (fun N hN=>⟨x3,np.head,o2.mono fun k _ hk=>by have:=hk.1;omega,fun k hk=> .inl hk⟩)
  (fun N t h1 h2 U ⟨o,v1,v2,v3⟩ f hU=>⟨o,v1.fr f fun h=>(hU _ h).1 (.inl rfl),v2.fr f fun k hk aQ=>by
   rcases v3 k hk with h|h
   ·exact(hU k aQ).1 (.inr h)
   ·have:=(hU k aQ).2;omega,v3⟩)
  (fun N t s s' h1 K hN hN2 ⟨o,v1,v2,v3⟩ V O W hs hm HK=> ?_) _ (fun hr N t h9 q hN ⟨o,v1,v2,v3⟩ v9 f9=> ?_) fun t' s' hr N h9 hN ⟨o,v1,v2,v3⟩ o9 W9 v9 f9=> ?_
 ·obtain⟨m,hm,hr⟩:=hm
  have hl:=BK m _ _ _ _ hr
  have ob:¬o.own bO:=fun hk=>by
   rcases v3 _ hk with h|h
   ·exact xO h
   ·omega
  have ob':¬o.own bN:=fun hk=>by
   rcases v3 _ hk with h|h
   ·exact x3N h
   ·omega
  refine VZ v1 V fH v2 (fun k hk=>by omega) ob ob' (by simp at hl;omega) s.2 K fun h2 o' v w1 w2 w3 w4=>HK h2 v ⟨o',w1,w2,fun k hk=> ?_⟩ (w4.mono fun k _ hk=> ?_)
  ·rcases w3 k hk with h|h
   ·exact v3 k h
   ·exact .inr (by omega)
  ·rcases hk with rfl|hk
   ·exact .inl (.inl rfl)
   ·exact(v3 k hk).imp .inr id
 ·have gM:Vars h9 [(bO,[o.v]),(bN,[x1.v,VI q]),(b2,[w.v,VI x2]),(b1,[g.v])]:= .cons v1 (fun p hp=>by
   have:=np.ne
   simp only[aO,aS,aN]at hp
   rcases hp with rfl|rfl|rfl<;>simp only<;>omega) (.cons v9 (fun p hp=>by
   simp only[aO,aS,aN]at hp
   rcases hp with rfl|rfl<;>simp only<;>omega) (np.tail.tail.fr f9 fun p hp hk=>by
   have:=tP _ hk
   simp only[aO,aS,aN]at hp
   rcases hp with rfl|rfl<;>simp only at this<;>omega))
  refine⟨o,x1,q,false,rfl,gM,fun _=> ?_,fun e=>by simp at e⟩
  rw[hr]at e2
  exact no e2 h9 (f0.fresh f9 fun k hk=>by have:=tP k hk;omega)
 ·have gM:Vars h9 [(bO,[o.v]),(bN,[x1.v,VI s'.2]),(b2,[w.v,VI x2]),(b1,[g.v])]:= .cons v1 (fun p hp=>by
   simp only[aO,aS,aN]at hp
   rcases hp with rfl|rfl|rfl<;>simp only<;>omega) (.cons v9 (fun p hp=>by
   simp only[aO,aS,aN]at hp
   rcases hp with rfl|rfl<;>simp only<;>omega) (np.tail.tail.fr f9 fun p hp hk=>by
   have:=tP _ hk
   simp only[aO,aS,aN]at hp
   rcases hp with rfl|rfl<;>simp only at this<;>omega))
  refine⟨o,x1,s'.2,true,rfl,gM,fun e=>by simp at e,fun _=> ?_⟩
  rw[hr]at e2
  have:=HK o h9 (by rw[e2];exact v2.mono fun k hk hF=>⟨by omega,(v2.aR hk).2⟩) (f0.fresh f9 fun k hk=>by have:=tP k hk;omega)
  rw[e2]at this
  exact this
end Go.Proofs.YtcnfcnoooecchaaGreatDoor
