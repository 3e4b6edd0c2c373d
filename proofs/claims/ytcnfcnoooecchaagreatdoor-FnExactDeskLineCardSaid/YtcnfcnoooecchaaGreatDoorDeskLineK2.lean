import Derived.Test.YtcnfcnoooecchaaGreatDoorDeskLineK1
set_option linter.unusedVariables false
set_option linter.unusedSimpArgs false
namespace Go.Proofs.YtcnfcnoooecchaaGreatDoor
open Go Go.Mx
theorem kT(x:Int):∀a b:List Int,fh x (a++b)=fh x a+fh x b
 |[],b=>by simp[fh]
 |y::a,b=>by rw[List.cons_append,fh,fh,kT x a b];omega
def jY(n:Nat)(p:Nat)(len:Int)(l:List Int):List Int:=(List.range n).map fun q:Nat=>(if q=p then len else 0)-fh q l
theorem iP(n p:Nat)(len:Int)(l:List Int):(jY n p len l).length=n:=by simp[jY]
theorem mL{n p:Nat}{len:Int}{l:List Int}{q:Nat}(h:q<(jY n p len l).length):(jY n p len l)[q]=(if q=p then len else 0)-fh q l:=by simp[jY]
theorem yk{n p:Nat}(hp:p<n)(len:Int):jY n p len []=(List.replicate n (0:Int)).set p len:=by
 apply List.ext_getElem (by simp[iP])
 intro q h1 h2
 rw[mL h1,List.getElem_set,List.getElem_replicate,fh]
 by_cases e:q=p
 ·rw[if_pos e,if_pos e.symm];omega
 ·rw[if_neg e,if_neg fun x=>e x.symm];omega
theorem BA{n p:Nat}{len x:Int}{l:List Int}(h0:0<=x)(h1:x<(n:Int)):jY n p len (l++[x])=(jY n p len l).set x.toNat ((jY n p len l).getD x.toNat 0-1):=by
 have hx:x.toNat<(jY n p len l).length:=by rw[iP];omega
 apply List.ext_getElem (by simp[iP])
 intro q h2 h3
 have h4:q<(jY n p len l).length:=by rw[iP]at h2⊢;exact h2
 rw[mL h2,List.getElem_set,kT]
 simp only[fh]
 by_cases e:x.toNat=q
 ·rw[if_pos e,if_pos (show x=(q:Int) by omega),aN hx,mL hx,e];omega
 ·rw[if_neg e,if_neg (show¬x=(q:Int) by omega),mL h4];omega
theorem jr(x:Int):∀l:List Int,0<=fh x l/\fh x l<=l.length
 |[]=>by simp[fh]
 |y::l=>by
  have:=jr x l
  rw[fh,List.length_cons]
  split<;>omega
def kU(g:List (List Int))(s:Int)(p:Nat):List Int:=(jY g.length p (g.getD p []).length (g.getD p [])).eraseIdx s.toNat
def vS(g:List (List Int))(s:Int):List (List Int):=((List.range g.length).filter (gT s)).map (kU g s)
theorem erase_filter:∀(l:List Nat)(i:Nat)(h:i<l.length),l.Nodup->l.eraseIdx i=l.filter fun x=> !decide (x=l[i])
 |x::l,0,_,hd=>by
  rw[List.nodup_cons]at hd
  rw[List.eraseIdx_zero,List.tail_cons,List.getElem_cons_zero,List.filter_cons_of_neg (by simp)]
  refine(List.filter_eq_self.2 fun a ha=> ?_).symm
  have:a≠x:=fun e=>hd.1 (e▸ha)
  simpa using this
 |x::l,i+1,h,hd=>by
  rw[List.nodup_cons]at hd
  have hi:i<l.length:=by simpa using h
  have hx:x≠l[i]:=fun e=>hd.1 (e▸List.getElem_mem hi)
  rw[List.eraseIdx_cons_succ,List.getElem_cons_succ,List.filter_cons_of_pos (by simpa using hx),erase_filter l i hi hd.2]
theorem erase_range{n:Nat}{s:Int}(h0:0<=s)(h1:s<(n:Int)):(List.range n).eraseIdx s.toNat=(List.range n).filter (gT s):=by
 rw[erase_filter _ _ (by rw[List.length_range];omega) List.nodup_range]
 refine List.filter_congr fun x _=> ?_
 rw[List.getElem_range]
 unfold gT
 congr 1
 by_cases e:x=s.toNat
 ·rw[decide_eq_true e,decide_eq_true (by omega)]
 ·rw[decide_eq_false e,decide_eq_false (by omega)]
theorem BB{α β:Type}(f:α->β):∀(l:List α)(i:Nat),(l.map f).eraseIdx i=(l.eraseIdx i).map f
 |[],_=>by simp
 |x::l,0=>by simp
 |x::l,i+1=>by rw[List.map_cons,List.eraseIdx_cons_succ,List.eraseIdx_cons_succ,List.map_cons,BB f l i]
theorem BC{g:List (List Int)}{s:Int}(h0:0<=s)(h1:s<(g.length:Int))(p:Nat):kU g s p=((List.range g.length).filter (gT s)).map fun q:Nat=>(if q=p then((g.getD p []).length:Int)else 0)-fh q (g.getD p []):=by
 unfold kU jY
 rw[BB,erase_range h0 h1]
theorem pW{n:Nat}{s:Int}(h0:0<=s)(h1:s<(n:Int)):((List.range n).filter (gT s)).length=n-1:=by
 rw[<-erase_range h0 h1,List.length_eraseIdx,List.length_range,if_pos (by omega)]
theorem Ix{g:List (List Int)}{s:Int}(h0:0<=s)(h1:s<(g.length:Int)):(vS g s).length=g.length-1/\Sq (g.length-1) (vS g s):=by
 have e:(vS g s).length=g.length-1:=by unfold vS;rw[List.length_map,pW h0 h1]
 refine⟨e,e,fun i hi=> ?_⟩
 unfold vS at hi⊢
 rw[List.getElem_map,BC h0 h1,List.length_map,pW h0 h1]
theorem KE{g:List (List Int)}{s:Int}(h0:0<=s)(h1:s<(g.length:Int)){i j:Nat}(hi:i<g.length-1)(hj:j<g.length-1):bV (vS g s) i j=iF (fJ g s) i j:=by
 have hl:=pW (n:=g.length) h0 h1
 have gH:i<((List.range g.length).filter (gT s)).length:=by omega
 have Ft:j<((List.range g.length).filter (gT s)).length:=by omega
 have e1:∀k(hk:k<((List.range g.length).filter (gT s)).length),nF (fJ g s) k=((((List.range g.length).filter (gT s))[k]:Nat):Int)/\zQ (fJ g s) k=g.getD ((List.range g.length).filter (gT s))[k] []:=fun k hk=>by
  unfold nF zQ fJ
  rw[List.getD_eq_getElem?_getD,List.getElem?_eq_getElem (by rw[List.length_map];exact hk),List.getElem_map]
  exact⟨rfl,rfl⟩
 have hr:i<(vS g s).length:=by rw[(Ix h0 h1).1];exact hi
 have er:(vS g s)[i]=kU g s ((List.range g.length).filter (gT s))[i]:=by
  show(((List.range g.length).filter (gT s)).map (kU g s))[i]'_=_
  exact List.getElem_map _
 unfold bV iF
 rw[aR hr,er,BC h0 h1,aN (by rw[List.length_map];exact Ft),List.getElem_map,(e1 i gH).2,(e1 j Ft).1]
 congr 1
 by_cases e:i=j
 ·subst e;rw[if_pos rfl,if_pos rfl]
 ·rw[if_neg e,if_neg fun x=>e ?_]
  have nd:((List.range g.length).filter (gT s)).Nodup:=List.Pairwise.filter _ List.nodup_range
  have hp:=List.pairwise_iff_getElem.1 nd
  rcases Nat.lt_trichotomy i j with a|a|a
  ·exact absurd x.symm (hp i j gH Ft a)
  ·exact a
  ·exact absurd x (hp j i Ft gH a)
theorem BD{g:List (List Int)}{s:Int}(hg:aM g=true)(h0:0<=s)(h1:s<(g.length:Int)):Small (g.length-1) (bV (vS g s)):=fun i j hi hj=>by
 rw[KE h0 h1 hi hj]
 unfold iF
 have hb:(zQ (fJ g s) i).length<=5:=by
  have hl:=pW (n:=g.length) h0 h1
  unfold zQ fJ
  rw[List.getD_eq_getElem?_getD,List.getElem?_eq_getElem (by rw[List.length_map];omega),List.getElem_map]
  have hm:=List.getElem_mem (show i<((List.range g.length).filter (gT s)).length by omega)
  rw[List.mem_filter,List.mem_range]at hm
  show(g.getD _ []).length<=5
  rw[aR hm.1]
  exact(aT hg (List.getElem_mem hm.1)).1
 have:=jr (nF (fJ g s) j) (zQ (fJ g s) i)
 split<;>omega
def uo(g:List (List Int))(s:Int):Int:=cM (g.length-1) (bV (vS g s))
theorem L7{g:List (List Int)}{s:Int}(hg:aM g=true)(h0:0<=s)(h1:s<(g.length:Int)):uo g s=((CL g s).length:Int):=by
 rw[Fy hg h0 h1]
 exact dF fun i j hi hj=>KE h0 h1 hi hj
theorem L8{S:Nat->Prop}{h:Heap}{g:Sl}{aD:List (List Int)}(G:bF S h g aD)(hg:aM aD=true){s:Int}(s0:0<=s)(s1:s<(aD.length:Int))(K:Value->Heap->Prop)(HK:∀t h',fM h' (Iv h.size h'.size) t (vS aD s)->Fr No h h'->K t.v h'):aE Tryz.prog 213 #[.agg #[g.v],VI s] h K:=by
 refine ahD g s h K fun b1 h1 dM f1 bG=> ?_
 have f1:=f1.aF
 have z1:=f1.size
 have l1:b1<h1.size:=bG.head.lt
 have gl:=aO hg
 have gn:=G.len
 have vB:∀{x:Heap},Fr (fun k=>h.size<=k) h x->Fr No h x:=fun f=>f.mono fun k hk aI=>absurd aI (by omega)
 refine aS qg (fun k=>h1.size<=k) (fun _ h=>h) 0 (by omega) [] rfl rfl fun o h2 n2 c2 o2 f2 m2 _=>⟨o,rfl,bG.aB f2,?_⟩
 have z2:=f2.size
 have MF:fM h2 (fun k=>h1.size<=k) o []:=⟨[],rfl,o2,fun i h1=>by simp at h1,fun i j h1=>by simp at h1,fun i h1=>by simp at h1⟩
 refine⟨fun m x p h'=>0<=p/\p+m=(aD.length:Int)/\fM h' (fun k=>h1.size<=k) x (((List.range p.toNat).filter (gT s)).map (kU aD s))/\Fr (fun k=>h.size<=k) h h'/\h1.size<=h'.size,⟨aD.length,Int.le_refl _,by omega,MF,f1.aB.trans f2.aB,by omega⟩,?_⟩
 rintro m x p h3 ⟨p0,p1,o3,f3,z3⟩ cF
 have g3:=vB f3
 refine⟨fun e=> ?_,fun e=> ?_⟩
 ·have hp:=G.lt e
  have G3:=G.no g3
  obtain⟨sp,cp,rp⟩:=G3.get p0 hp
  have pl:=rp.len
  have eg:aD.getD p.toNat []=aD[p.toNat]'(by omega):=aR (by omega)
  have gm:=aT hg (List.getElem_mem (show p.toNat<aD.length by omega))
  rw[G.succ p0 hp]
  refine⟨G3.bB p0 hp,sp,cp,fun e2=> ?_,fun e2=> ?_⟩
  ·simp only[decide_eq_true_eq]at e2
   refine⟨m-1,by omega,by omega,by omega,?_,f3,z3⟩
   rw[show(p+1).toNat=p.toNat+1 by omega,List.range_succ,List.filter_append,List.filter_cons_of_neg (ud (by omega)),List.filter_nil,List.append_nil]
   exact o3
  simp only[decide_eq_false_iff_not]at e2
  refine dK fL (fun k=>h3.size<=k) (fun _ h=>h) .i64 .i64 g.n g.n (Nat.le_refl _) (by omega) fun t h4 n4 c4 o4 f4 m4 _=>⟨t,rfl,cF.aB f4,?_⟩
  have z4:=f4.size
  have o4:bK h4 (fun k=>h3.size<=k) t (List.replicate aD.length 0):=by
   have e:(List.replicate g.n [VI 0]).flatten=(List.replicate aD.length (0:Int)).map VI:=by rw[gn];simp[List.flatten_replicate_singleton]
   rw[e]at o4;exact o4
  refine gq (L:=[(b1,[g.v])]) (F:=fun k=>h3.size<=k) o4 p0 (by rw[List.length_replicate];omega) (cF.aB f4) (fun q hq=>by
   simp only[List.mem_cons,List.not_mem_nil,or_false]at hq
   subst hq;show¬h3.size<=b1;omega) _ fun h5 o5 f5 V5=> ?_
  rw[pl,<-yk (by omega)]at o5
  have f35:=(f4.aB (T:=fun k=>h3.size<=k)).trans f5
  refine⟨fun m2 j h'=>0<=j/\j+m2=((aD[p.toNat]'(by omega)).length:Int)/\bK h' (fun k=>h3.size<=k) t (jY aD.length p.toNat (aD[p.toNat]'(by omega)).length ((aD[p.toNat]'(by omega)).take j.toNat))/\Fr (fun k=>h3.size<=k) h3 h',⟨(aD[p.toNat]'(by omega)).length,Int.le_refl _,by omega,by simpa using o5,f35⟩,?_⟩
  rintro m2 j h6 ⟨j0,j1,o6,f6⟩ iN
  have r6:=(rp.low.fr f6 fun k hk aI=>by omega)
  refine⟨fun e3=> ?_,fun e3=> ?_⟩
  ·have hj:=r6.lt e3
   have hv:=gm.2 _ (List.getElem_mem (show j.toNat<(aD[p.toNat]'(by omega)).length by omega))
   have R6:=o6.fa
   have rl:=iP aD.length p.toNat (aD[p.toNat]'(by omega)).length ((aD[p.toNat]'(by omega)).take j.toNat)
   have QT:(aD[p.toNat]'(by omega))[j.toNat]'(by omega)<((jY aD.length p.toNat (aD[p.toNat]'(by omega)).length ((aD[p.toNat]'(by omega)).take j.toNat)).length:Int):=by rw[rl];omega
   refine⟨r6.bB j0 hj,_,r6.get j0 hj,aP.bB R6 hv.1 QT,_,aP.get R6 hv.1 QT,gq (L:=[(b1,[g.v])]) (F:=fun k=>h3.size<=k) o6 hv.1 QT iN (fun q hq=>by
    simp only[List.mem_cons,List.not_mem_nil,or_false]at hq
    subst hq;show¬h3.size<=b1;omega) _ fun h7 o7 f7 V7=> ?_⟩
   rw[aP.succ r6 j0 hj]
   refine⟨m2-1,by omega,by omega,by omega,?_,f6.trans f7⟩
   rw[eB _ j0 hj,BA hv.1 hv.2,aN (show((aD[p.toNat]'(by omega))[j.toNat]'(by omega)).toNat<(jY aD.length p.toNat (aD[p.toNat]'(by omega)).length ((aD[p.toNat]'(by omega)).take j.toNat)).length by omega)]
   have hb:aL ((jY aD.length p.toNat (aD[p.toNat]'(by omega)).length ((aD[p.toNat]'(by omega)).take j.toNat))[((aD[p.toNat]'(by omega))[j.toNat]'(by omega)).toNat]'(by omega)-1)=(jY aD.length p.toNat (aD[p.toNat]'(by omega)).length ((aD[p.toNat]'(by omega)).take j.toNat))[((aD[p.toNat]'(by omega))[j.toNat]'(by omega)).toNat]'(by omega)-1:=by
    rw[mL]
    have ob:=jr ((((aD[p.toNat]'(by omega))[j.toNat]'(by omega)).toNat:Nat):Int) ((aD[p.toNat]'(by omega)).take j.toNat)
    rw[List.length_take]at ob
    have:=gm.1
    exact aH _ (by split<;>omega) (by split<;>omega)
   rw[hb]at o7
   exact o7
  ·have hj:=r6.ge e3
   rw[List.take_of_length_le (by omega)]at o6
   have sw:aL (s+1)=((s.toNat+1:Nat):Int):=by rw[aH _ (by omega) (by omega)];omega
   have ss:s=((s.toNat:Nat):Int):=by omega
   rw[sw]
   refine cast (congrArg (fun z:Int=>aE Tryz.prog 258 #[t.v,VI z,VI (s.toNat+1:Nat)] h6 _) ss.symm) ?_
   refine OP o6 (i:=s.toNat) (by rw[iP];omega) _ fun t8 h8 o8 f8 m8=>⟨t8,rfl,?_,?_⟩
   ·exact iN.fr f8 fun q hq hk=>by
     simp only[List.mem_cons,List.not_mem_nil,or_false]at hq
     subst hq
     have:=(Ow.aG o6 hk).1
     (try simp only at this)
     omega
   have f8':Fr (fun k=>h3.size<=k) h6 h8:=f8.mono fun k _ hk=>(Ow.aG o6 hk).1
   have f38:=f6.trans f8'
   have z8:=f38.size
   have fO:Vars h8 [(b1,[g.v])]:=iN.fr f8' fun q hq hk=>by
    simp only[List.mem_cons,List.not_mem_nil,or_false]at hq
    subst hq
    (try simp only at hk)
    omega
   refine jN (lo:=h1.size) (m:=h3.size) (dD.fr (dD.gf o3) f38 fun k hk aI HZ=>by have:=aI.2;omega) o8 z3 z8 fO (fun q hq=>by
    simp only[List.mem_cons,List.not_mem_nil,or_false]at hq
    subst hq;exact l1) (by
     rw[List.length_map]
     have:=List.length_filter_le (gT s) (List.range p.toNat)
     rw[List.length_range]at this
     omega) _ fun t2 dY mV f10 V10=> ?_
   refine⟨m-1,by omega,by omega,by omega,?_,(f3.trans (f38.mono fun k _ hk=>by omega)).trans (f10.mono fun k _ hk=>by omega),by have:=f10.size;omega⟩
   rw[show(p+1).toNat=p.toNat+1 by omega,List.range_succ,List.filter_append,List.filter_cons_of_pos (jW.2 (by omega)),List.filter_nil,List.map_append,List.map_cons,List.map_nil]
   have el:kU aD s p.toNat=(jY aD.length p.toNat (aD[p.toNat]'(by omega)).length (aD[p.toNat]'(by omega))).eraseIdx s.toNat:=by unfold kU;rw[eg]
   rw[el]
   exact mV
 ·have hp:=G.ge e
  have ep:p.toNat=aD.length:=by omega
  rw[ep]at o3
  exact HK x h3 (o3.mono fun k hk aI=>⟨by omega,hk⟩) g3
theorem bF.tl2{S:Nat->Prop}{h:Heap}{s:Sl}{aD:List (List Int)}(H:bF S h s aD)(h1:1<=aD.length):bF S h (s.cut 1 1 s.n s.c) aD.tail:=by
 obtain⟨ss,e,h2,h3⟩:=H.out
 have sn:=H.len
 have c:=cY.cut h2 (l:=1) (m:=s.n) (by omega) (Nat.le_refl _)
 have ec:((ss.map Sl.v).drop (1*1)).take ((s.n-1)*1)=ss.tail.map Sl.v:=by
  rw[List.take_of_length_le (by simp;omega)]
  cases ss<;>rfl
 rw[ec]at c
 refine⟨ss.tail,by simp[e],c,fun i a b=> ?_⟩
 have:=h3 (i+1) (by simp at a;omega) (by simp at b;omega)
 simpa using this
theorem BE{L:List (Nat×List Value)}{S:Nat->Prop}{h:Heap}{s:Sl}{xs:List Int}(R:aP S h s xs){k:Int}(k0:0<=k)(k1:k<(xs.length:Int))(hb:xs.length<=1000000)(hL:Vars h L)(C:Sl->Heap->Prop)(HC:∀t h',bK h' (fun q=>h.size<=q) t (xs.eraseIdx k.toNat)->Fr No h h'->Vars h' L->C t h'):
 pop Tryz.prog (Instr.sliceAt sv s.v none (some (VI k)) none) fun rv=>∃a:Sl,rv=a.v/\pop Tryz.prog (Instr.sliceAt sv s.v (some (VI (aL (k+1)))) none none) fun rv=>∃b:Sl,rv=b.v/\aE Tryz.prog 87 #[a.v] h fun rv h1=>∃c:Sl,rv=c.v/\Vars h1 L/\kE Tryz.prog (bR sv sv sv c.v b.v) h1 fun Ia h2=>∃d:Sl,Ia=d.v/\Vars h2 L/\C d h2:=by
 have sn:=aP.len R
 have sc:=cY.cap R
 have kw:aL (k+1)=k+1:=aH _ (by omega) (by omega)
 rw[kw]
 refine AL fL .i64 k0 (by omega) ⟨_,rfl,iq fL .i64 (by omega) (by omega) ⟨_,rfl,?_⟩⟩
 have r1:=aP.cut R (l:=0) (m:=k.toNat) (Nat.zero_le _) (by omega)
 have r2:=aP.cut R (l:=(k+1).toNat) (m:=s.n) (by omega) (by omega)
 rw[List.drop_zero,Nat.sub_zero]at r1
 rw[List.take_of_length_le (by rw[List.length_drop];omega)]at r2
 refine lE r1 (by rw[List.length_take];omega) _ fun c h1 o1 f1=>⟨c,rfl,hL.aB f1,?_⟩
 have cn:c.n=(xs.take k.toNat).length:=by have:=o1.len;simp at this;simp;omega
 have dn:(s.cut 1 (k+1).toNat s.n s.c).n=s.n-(k+1).toNat:=rfl
 have z1:=f1.size
 have pv:((xs.drop (k+1).toNat).map VI).all fu=true:=by rw[List.all_map,List.all_eq_true];intro x _;rfl
 refine bQ fL (o1.mono (F':=fun q=>h.size<=q) fun q _ hq=>hq.1) (fun q hq=>by omega) (cY.no r2 f1) pv (by rw[cn,dn,List.length_take];omega) fun d h2 hd o2 f2 m2=>⟨d,rfl,?_,?_⟩
 ·exact(hL.aB f1).fr f2 fun p hp ho=>by
   have:=(hL.mem p hp).lt
   have:=(Ow.aG o1 ho).1.1
   omega
 ·rw[<-List.map_append]at o2
  refine HC d h2 ?_ ((f1.aB.trans (f2.mono fun q _ hq=>(Ow.aG o1 hq).1)).mono fun q hq gN=>absurd gN.1 (by omega)) ?_
  ·rw[List.eraseIdx_eq_take_drop_succ,show k.toNat+1=(k+1).toNat by omega]
   exact o2
  ·exact(hL.aB f1).fr f2 fun p hp ho=>by
    have:=(hL.mem p hp).lt
    have:=(Ow.aG o1 ho).1.1
    omega
theorem OU{aD:List (List Int)}{n k:Nat}(Q:Sq (n+1) aD)(hk:k<n+1):Sq n (aD.tail.map fun r=>r.eraseIdx k)/\∀i j,i<n->j<n->bV (aD.tail.map fun r=>r.eraseIdx k) i j=bV aD (i+1) (fp k j):=by
 have ln:=Q.len
 have hr:∀i(h:i<aD.tail.length),aD.tail[i]=aD[i+1]'(by rw[List.length_tail]at h;omega):=fun i h=>by rw[List.getElem_tail]
 refine⟨⟨by simp;omega,fun i hi=> ?_⟩,fun i j hi hj=> ?_⟩
 ·rw[List.length_map]at hi
  rw[List.getElem_map,hr i hi,List.length_eraseIdx,Q.row]
  rw[if_pos hk]
  omega
 ·have gH:i<aD.tail.length:=by rw[List.length_tail];omega
  have h1:i+1<aD.length:=by omega
  have e2:=Q.row (i+1) h1
  have hs:fp k j<(aD[i+1]'h1).length:=by unfold fp;split<;>omega
  rw[gD h1 hs,gD (by rw[List.length_map];exact gH) (by rw[List.getElem_map,hr i gH,List.length_eraseIdx,e2,if_pos hk];omega)]
  have:((aD.tail.map fun r=>r.eraseIdx k)[i]'(by rw[List.length_map];exact gH))=(aD[i+1]'h1).eraseIdx k:=by rw[List.getElem_map,hr i gH]
  have e3:((aD.tail.map fun r=>r.eraseIdx k)[i]'(by rw[List.length_map];exact gH))[j]?=(aD[i+1]'h1)[fp k j]?:=by
   rw[this,List.getElem?_eraseIdx]
   unfold fp
   split<;>rfl
  rw[List.getElem?_eq_getElem (by rw[List.getElem_map,hr i gH,List.length_eraseIdx,e2,if_pos hk];omega),List.getElem?_eq_getElem hs]at e3
  exact Option.some.inj e3
theorem acC(k:Nat):aL (0-jV k)=jV (k+1):=by
 rw[kR]
 unfold jV
 split<;>rfl
theorem OV{n:Nat}{A:jS}(h:∀i j,i<n+1->j<n+1->(A i j).natAbs<=10){t:Nat}(ht:t<=n+1):(bI (fun k=>jV k*A 0 k*cM n (fun i j=>A (i+1) (fp k j))) t).natAbs<=Hd (n+1):=by
 have:=qU (f:=fun k=>jV k*A 0 k*cM n (fun i j=>A (i+1) (fp k j))) (b:=10*Hd n) (n:=t) fun k hk=>by
  (try simp only)
  rw[Int.natAbs_mul,Int.natAbs_mul,Kh,Nat.one_mul]
  exact Nat.mul_le_mul (h 0 k (by omega) (by omega)) (mG fun i j hi hj=>h (i+1) (fp k j) (by omega) (by unfold fp;split<;>omega))
 rw[Hd,Nat.mul_assoc]
 exact Nat.le_trans this (Nat.mul_le_mul_right _ ht)
theorem wL:∀(n:Nat){S:Nat->Prop}{h:Heap}{s:Sl}{aD:List (List Int)}(M:bF S h s aD)(Q:Sq n aD)(hn:n<=7)(hb:Small n (bV aD)),pO Tryz.prog 182 #[s.v] h (VI (cM n (bV aD)))
 |0,S,h,s,aD,M,Q,_,_=>by
  intro K HK
  have sn:=M.len
  have ln:=Q.len
  refine v182 s h K ⟨fun _=>HK h (Fr.refl _ _),fun e=> ?_⟩
  simp only[decide_eq_false_iff_not]at e
  omega
 |n+1,S,h,s,aD,M,Q,hn,hb=>by
  intro K HK
  have sn:=M.len
  have ln:=Q.len
  refine v182 s h K ⟨fun e=> ?_,fun _=> ?_⟩
  ·simp only[decide_eq_true_eq]at e
   omega
  obtain⟨s0,c0,r0⟩:=M.get (i:=0) (Int.le_refl _) (by omega)
  have l0:=Q.row 0 (by omega)
  have r0:aP S h s0 (aD[0]'(by omega)):=r0
  have s0n:=aP.len r0
  refine⟨M.bB (Int.le_refl _) (by omega),s0,c0,?_⟩
  have pb:∀t,t<=n+1->(bI (fun k=>jV k*bV aD 0 k*cM n (fun i j=>bV aD (i+1) (fp k j))) t).natAbs<=50400000000:=fun t ht=>Nat.le_trans (OV hb ht) (Nat.le_trans (yb (show n+1<=7 by omega)) (by rw[WV];exact Nat.le_refl _))
  refine⟨fun m sm sg t h'=>0<=t/\t+m=((n+1:Nat):Int)/\sm=bI (fun k=>jV k*bV aD 0 k*cM n (fun i j=>bV aD (i+1) (fp k j))) t.toNat/\sg=jV t.toNat/\Fr No h h',⟨n+1,Int.le_refl _,by omega,rfl,rfl,Fr.refl _ _⟩,?_⟩
  rintro m sm sg t h1 ⟨t0,t1,rfl,rfl,f1⟩ bG
  have M1:=M.no f1
  have r1:=aP.no r0 f1
  refine⟨fun e=> ?_,fun e=> ?_⟩
  ·have ht:=r1.lt e
   have WB:t.toNat<n+1:=by omega
   have e00:(aD[0]'(by omega))[t.toNat]'(by omega)=bV aD 0 t.toNat:=(gD (by omega) (by omega)).symm
   have hx:=um (hb 0 t.toNat (by omega) WB)
   have tw:aL (t+1)=t+1:=aH _ (by omega) (by omega)
   have nxt:∀(x:Int) h',x=bI (fun k=>jV k*bV aD 0 k*cM n (fun i j=>bV aD (i+1) (fp k j))) (t.toNat+1)->Fr No h h'->∃m':Nat,m'<m/\0<=aL (t+1)/\aL (t+1)+m'=((n+1:Nat):Int)/\x=bI (fun k=>jV k*bV aD 0 k*cM n (fun i j=>bV aD (i+1) (fp k j))) (aL (t+1)).toNat/\aL (0-jV t.toNat)=jV (aL (t+1)).toNat/\Fr No h h':=fun x h' hx f=>by
    rw[tw,show(t+1).toNat=t.toNat+1 by omega]
    exact⟨m-1,by omega,by omega,by omega,hx,acC _,f⟩
   refine⟨r1.bB t0 ht,_,r1.get t0 ht,fun x h'=>x=bI (fun k=>jV k*bV aD 0 k*cM n (fun i j=>bV aD (i+1) (fp k j))) (t.toNat+1)/\Fr No h h',⟨fun e2=> ?_,fun e2=> ?_⟩,fun x h' hx hL'=>nxt x h' hx.1 hx.2⟩
   ·rw[e00]
    refine iq qg .i64 (show(0:Int)<=1 by omega) (by omega) ⟨_,rfl,?_⟩
    have T1:=bF.tl2 M1 (by omega)
    have tln:aD.tail.length=n:=by rw[List.length_tail];omega
    have T1n:(s.cut 1 1 s.n s.c).n=n:=by rw[T1.len,tln]
    have vB:∀{x:Heap},Fr (fun k=>h1.size<=k) h1 x->Fr No h1 x:=fun f=>f.mono fun k hk aI=>absurd aI (by omega)
    refine⟨fun m2 r j h'=>0<=j/\j+m2=(n:Int)/\fM h' (fun q=>h1.size<=q) r ((aD.tail.take j.toNat).map fun l=>l.eraseIdx t.toNat)/\Fr (fun q=>h1.size<=q) h1 h',⟨n,Int.le_refl _,by omega,dD.nil _ _ _ _,Fr.refl _ _⟩,?_⟩
    rintro m2 r j h2 ⟨j0,j1,o2,f2⟩ bP
    have T2:=T1.no (vB f2)
    refine⟨fun e3=> ?_,fun e3=> ?_⟩
    ·have hj:=T2.lt e3
     obtain⟨sj,cj,rj⟩:=T2.get j0 hj
     have lj:(aD.tail[j.toNat]'(by omega)).length=n+1:=by rw[List.getElem_tail];exact Q.row _ (by omega)
     refine⟨T2.bB j0 hj,sj,cj,BE rj t0 (by omega) (by omega) .nil _ fun d h4 o4 f4 V4=> ?_⟩
     have z4:=f4.size
     refine jN (lo:=h1.size) (m:=h2.size) (dD.gf o2|>.no f4) o4 f2.size z4 .nil (fun p hp=>by simp at hp) (by rw[List.length_map,List.length_take];omega) _ fun t2 h5 o5 f5 V5=> ?_
     rw[aH (j+1) (by omega) (by omega)]
     refine⟨m2-1,by omega,by omega,by omega,?_,(f2.trans f4.aB).trans f5⟩
     rw[eB _ j0 hj,List.map_append,List.map_cons,List.map_nil]
     exact o5
    ·have hj:=T2.ge e3
     rw[List.take_of_length_le (by omega)]at o2
     obtain⟨Qr,er⟩:=OU Q WB
     have hbr:Small n (bV (aD.tail.map fun r=>r.eraseIdx t.toNat)):=fun i j hi hj=>by rw[er i j hi hj];exact hb _ _ (by omega) (by unfold fp;split<;>omega)
     refine wL n (dD.rd o2) Qr (by omega) hbr _ fun h7 f7=>⟨_,rfl,.nil,?_,f1.aA ((vB f2).aA f7)⟩
     rw[dF er]
     rw[bI]
     have b1:=um (pb t.toNat (by omega))
     have b2:=um (pb (t.toNat+1) (by omega))
     rw[bI]at b2
     have b3: -10<=jV t.toNat*bV aD 0 t.toNat/\jV t.toNat*bV aD 0 t.toNat<=10:=by
      unfold jV
      split<;>omega
     rw[aH (jV t.toNat*bV aD 0 t.toNat) (by omega) (by omega)]
     generalize jV t.toNat*bV aD 0 t.toNat*cM n (fun i j=>bV aD (i+1) (fp t.toNat j))=y at b2⊢
     generalize bI (fun k=>jV k*bV aD 0 k*cM n (fun i j=>bV aD (i+1) (fp k j))) t.toNat=z at b1 b2⊢
     rw[aH y (by omega) (by omega),aH (z+y) (by omega) (by omega)]
   ·rw[e00]at e2
    simp only[Bool.not_eq_false',decide_eq_true_eq]at e2
    refine⟨?_,f1⟩
    rw[bI,e2]
    simp
  ·have ht:=r1.ge e
   have:t.toNat=n+1:=by omega
   rw[this]
   exact HK h1 f1
theorem FO{S:Nat->Prop}{h:Heap}{g:Sl}{aD:List (List Int)}(G:bF S h g aD)(hg:aM aD=true){s:Int}(s0:0<=s)(s1:s<(aD.length:Int))(K:Value->Heap->Prop)(HK:∀t h',fM h' (Iv h.size h'.size) t (vS aD s)->Fr No h h'->K t.v h'):aE Tryz.prog 183 #[.agg #[g.v],VI s] h K:=by
 refine v183 g s h K fun b1 h1 dM f1 bG=> ?_
 have f1:=f1.aF
 have z1:=f1.size
 have l1:b1<h1.size:=bG.head.lt
 have gl:=aO hg
 have gn:=G.len
 have vB:∀{x:Heap},Fr (fun k=>h.size<=k) h x->Fr No h x:=fun f=>f.mono fun k hk aI=>absurd aI (by omega)
 refine⟨fun m x p h'=>0<=p/\p+m=(aD.length:Int)/\fM h' (fun k=>h1.size<=k) x (((List.range p.toNat).filter (gT s)).map (kU aD s))/\Fr (fun k=>h.size<=k) h h'/\h1.size<=h'.size,⟨aD.length,Int.le_refl _,by omega,dD.nil _ _ _ _,f1.aB,Nat.le_refl _⟩,?_⟩
 rintro m x p h3 ⟨p0,p1,o3,f3,z3⟩ cF
 have g3:=vB f3
 refine⟨fun e=> ?_,fun e=> ?_⟩
 ·have hp:=G.lt e
  have G3:=G.no g3
  obtain⟨sp,cp,rp⟩:=G3.get p0 hp
  have pl:=rp.len
  have eg:aD.getD p.toNat []=aD[p.toNat]'(by omega):=aR (by omega)
  have gm:=aT hg (List.getElem_mem (show p.toNat<aD.length by omega))
  rw[G.succ p0 hp]
  refine⟨G3.bB p0 hp,sp,cp,fun e2=> ?_,fun e2=> ?_⟩
  ·simp only[decide_eq_true_eq]at e2
   refine⟨m-1,by omega,by omega,by omega,?_,f3,z3⟩
   rw[show(p+1).toNat=p.toNat+1 by omega,List.range_succ,List.filter_append,List.filter_cons_of_neg (ud (by omega)),List.filter_nil,List.append_nil]
   exact o3
  simp only[decide_eq_false_iff_not]at e2
  refine dK fL (fun k=>h3.size<=k) (fun _ h=>h) .i64 .i64 g.n g.n (Nat.le_refl _) (by omega) fun t h4 n4 c4 o4 f4 m4 _=>⟨t,rfl,cF.aB f4,?_⟩
  have z4:=f4.size
  have o4:bK h4 (fun k=>h3.size<=k) t (List.replicate aD.length 0):=by
   have e:(List.replicate g.n [VI 0]).flatten=(List.replicate aD.length (0:Int)).map VI:=by rw[gn];simp[List.flatten_replicate_singleton]
   rw[e]at o4;exact o4
  refine gq (L:=[(b1,[g.v])]) (F:=fun k=>h3.size<=k) o4 p0 (by rw[List.length_replicate];omega) (cF.aB f4) (fun q hq=>by
   simp only[List.mem_cons,List.not_mem_nil,or_false]at hq
   subst hq;show¬h3.size<=b1;omega) _ fun h5 o5 f5 V5=> ?_
  rw[pl,<-yk (by omega)]at o5
  have f35:=(f4.aB (T:=fun k=>h3.size<=k)).trans f5
  refine⟨fun m2 j h'=>0<=j/\j+m2=((aD[p.toNat]'(by omega)).length:Int)/\bK h' (fun k=>h3.size<=k) t (jY aD.length p.toNat (aD[p.toNat]'(by omega)).length ((aD[p.toNat]'(by omega)).take j.toNat))/\Fr (fun k=>h3.size<=k) h3 h',⟨(aD[p.toNat]'(by omega)).length,Int.le_refl _,by omega,by simpa using o5,f35⟩,?_⟩
  rintro m2 j h6 ⟨j0,j1,o6,f6⟩ iN
  have r6:=(rp.low.fr f6 fun k hk aI=>by omega)
  refine⟨fun e3=> ?_,fun e3=> ?_⟩
  ·have hj:=r6.lt e3
   have hv:=gm.2 _ (List.getElem_mem (show j.toNat<(aD[p.toNat]'(by omega)).length by omega))
   have R6:=o6.fa
   have rl:=iP aD.length p.toNat (aD[p.toNat]'(by omega)).length ((aD[p.toNat]'(by omega)).take j.toNat)
   have QT:(aD[p.toNat]'(by omega))[j.toNat]'(by omega)<((jY aD.length p.toNat (aD[p.toNat]'(by omega)).length ((aD[p.toNat]'(by omega)).take j.toNat)).length:Int):=by rw[rl];omega
   refine⟨r6.bB j0 hj,_,r6.get j0 hj,aP.bB R6 hv.1 QT,_,aP.get R6 hv.1 QT,gq (L:=[(b1,[g.v])]) (F:=fun k=>h3.size<=k) o6 hv.1 QT iN (fun q hq=>by
    simp only[List.mem_cons,List.not_mem_nil,or_false]at hq
    subst hq;show¬h3.size<=b1;omega) _ fun h7 o7 f7 V7=> ?_⟩
   rw[aP.succ r6 j0 hj]
   refine⟨m2-1,by omega,by omega,by omega,?_,f6.trans f7⟩
   rw[eB _ j0 hj,BA hv.1 hv.2,aN (show((aD[p.toNat]'(by omega))[j.toNat]'(by omega)).toNat<(jY aD.length p.toNat (aD[p.toNat]'(by omega)).length ((aD[p.toNat]'(by omega)).take j.toNat)).length by omega)]
   have hb:aL ((jY aD.length p.toNat (aD[p.toNat]'(by omega)).length ((aD[p.toNat]'(by omega)).take j.toNat))[((aD[p.toNat]'(by omega))[j.toNat]'(by omega)).toNat]'(by omega)-1)=(jY aD.length p.toNat (aD[p.toNat]'(by omega)).length ((aD[p.toNat]'(by omega)).take j.toNat))[((aD[p.toNat]'(by omega))[j.toNat]'(by omega)).toNat]'(by omega)-1:=by
    rw[mL]
    have ob:=jr ((((aD[p.toNat]'(by omega))[j.toNat]'(by omega)).toNat:Nat):Int) ((aD[p.toNat]'(by omega)).take j.toNat)
    rw[List.length_take]at ob
    have:=gm.1
    exact aH _ (by split<;>omega) (by split<;>omega)
   rw[hb]at o7
   exact o7
  ·have hj:=r6.ge e3
   rw[List.take_of_length_le (by omega)]at o6
   refine BE o6.fa s0 (by rw[iP];omega) (by rw[iP];omega) iN _ fun t8 h8 o8 f8 V8=> ?_
   have f8':Fr (fun k=>h3.size<=k) h6 h8:=f8.aB
   have z6:=f6.size
   have o8:=o8.mono (F':=fun k=>h3.size<=k) fun k _ hk=>by omega
   have f38:=f6.trans f8'
   have z8:=f38.size
   have fO:Vars h8 [(b1,[g.v])]:=V8
   refine jN (lo:=h1.size) (m:=h3.size) (dD.fr (dD.gf o3) f38 fun k hk aI HZ=>by have:=aI.2;omega) o8 z3 z8 fO (fun q hq=>by
    simp only[List.mem_cons,List.not_mem_nil,or_false]at hq
    subst hq;exact l1) (by
     rw[List.length_map]
     have:=List.length_filter_le (gT s) (List.range p.toNat)
     rw[List.length_range]at this
     omega) _ fun t2 dY mV f10 V10=> ?_
   refine⟨m-1,by omega,by omega,by omega,?_,(f3.trans (f38.mono fun k _ hk=>by omega)).trans (f10.mono fun k _ hk=>by omega),by have:=f10.size;omega⟩
   rw[show(p+1).toNat=p.toNat+1 by omega,List.range_succ,List.filter_append,List.filter_cons_of_pos (jW.2 (by omega)),List.filter_nil,List.map_append,List.map_cons,List.map_nil]
   have el:kU aD s p.toNat=(jY aD.length p.toNat (aD[p.toNat]'(by omega)).length (aD[p.toNat]'(by omega))).eraseIdx s.toNat:=by unfold kU;rw[eg]
   rw[el]
   exact mV
 ·have hp:=G.ge e
  have ep:p.toNat=aD.length:=by omega
  rw[ep]at o3
  exact HK x h3 (o3.mono fun k hk aI=>⟨by omega,hk⟩) g3
theorem yl(f:Nat->Int):∀n,bI f (n+1)=f 0+bI (fun k=>f (k+1)) n
 |0=>by simp[bI]
 |n+1=>by rw[bI,yl f n,bI];omega
theorem KG(f:Nat->Int){a:Nat}:∀{n:Nat},a+1<n->bI (fun k=>f (fC a (a+1) k)) n=bI f n
 |n+2,h=>by
  by_cases e:a=n
  ·subst e
   have h1:bI (fun k=>f (fC a (a+1) k)) a=bI f a:=cC fun k hk=>by
    (try simp only)
    unfold fC
    rw[if_neg (by omega),if_neg (by omega)]
   have h2:fC a (a+1) a=a+1:=by unfold fC;rw[if_pos rfl]
   have h3:fC a (a+1) (a+1)=a:=by unfold fC;rw[if_neg (by omega),if_pos rfl]
   rw[bI,bI,bI,bI,h1,h2,h3]
   omega
  ·have ih:=KG f (show a+1<n+1 by omega)
   show bI (fun k=>f (fC a (a+1) k)) (n+1)+f (fC a (a+1) (n+1))=bI f (n+1)+f (n+1)
   rw[ih]
   have h2:fC a (a+1) (n+1)=n+1:=by unfold fC;rw[if_neg (by omega),if_neg (by omega)]
   rw[h2]
theorem uq:∀{n a:Nat}(C:jS),a+1<n->cM n (fun i c=>C i (fC a (a+1) c))= -cM n C
 |n+1,a,C,h=>by
  rw[cM,cM]
  have key:∀k,k<n+1->(jV k*C 0 (fC a (a+1) k)*cM n (fun i j=>C (i+1) (fC a (a+1) (fp k j))))= -(fun k=>jV k*C 0 k*cM n (fun i j=>C (i+1) (fp k j))) (fC a (a+1) k):=fun k hk=>by
   simp only
   by_cases e1:k=a
   ·subst e1
    have s1:fC k (k+1) k=k+1:=by unfold fC;rw[if_pos rfl]
    rw[s1,kR]
    have:(fun i j=>C (i+1) (fC k (k+1) (fp k j)))=fun i j=>C (i+1) (fp (k+1) j):=by
     funext i j
     congr 1
     unfold fC fp
     by_cases x:j<k
     ·rw[if_pos x,if_neg (by omega),if_neg (by omega),if_pos (by omega)]
     ·rw[if_neg x,if_neg (by omega)]
      by_cases y:j=k
      ·rw[if_pos (by omega),if_pos (by omega)];exact y.symm
      ·rw[if_neg (by omega),if_neg (by omega)]
    rw[this,Int.neg_mul,Int.neg_mul,Int.neg_neg]
   by_cases e2:k=a+1
   ·subst e2
    have s1:fC a (a+1) (a+1)=a:=by unfold fC;rw[if_neg (by omega),if_pos rfl]
    rw[s1,kR]
    have:(fun i j=>C (i+1) (fC a (a+1) (fp (a+1) j)))=fun i j=>C (i+1) (fp a j):=by
     funext i j
     congr 1
     unfold fC fp
     by_cases x:j<a
     ·rw[if_pos (show j<a+1 by omega),if_pos x,if_neg (by omega),if_neg (by omega)]
     ·rw[if_neg x]
      by_cases y:j=a
      ·rw[if_pos (show j<a+1 by omega),if_pos y];omega
      ·rw[if_neg (show¬j<a+1 by omega),if_neg (by omega),if_neg (by omega)]
    rw[this,Int.neg_mul,Int.neg_mul]
   have s1:fC a (a+1) k=k:=by unfold fC;rw[if_neg e1,if_neg e2]
   rw[s1,<-Int.mul_neg]
   congr 1
   by_cases l:k<a
   ·obtain⟨b,rfl⟩:∃b,a=b+1:=⟨a-1,by omega⟩
    rw[<-uq (n:=n) (a:=b) (fun i j=>C (i+1) (fp k j)) (by omega)]
    congr 1
    funext i j
    congr 1
    unfold fC fp
    (repeat' split)<;>omega
   ·rw[<-uq (n:=n) (a:=a) (fun i j=>C (i+1) (fp k j)) (by omega)]
    congr 1
    funext i j
    congr 1
    unfold fC fp
    (repeat' split)<;>omega
  have e:=cC key
  rw[e,mF,KG (fun k=>jV k*C 0 k*cM n (fun i j=>C (i+1) (fp k j))) h]
def MK(j c:Nat):Nat:=if c=0 then j else if c<=j then c-1 else c
theorem BF:∀{n j:Nat}(C:jS),j<n->cM n (fun i c=>C i (MK j c))=jV j*cM n C
 |n,0,C,h=>by
  have:(fun i c=>C i (MK 0 c))=C:=by
   funext i c
   congr 1
   unfold MK
   by_cases e:c=0
   ·rw[if_pos e];exact e.symm
   ·rw[if_neg e,if_neg (by omega)]
  rw[this]
  show cM n C=1*cM n C
  rw[Int.one_mul]
 |n,j+1,C,h=>by
  have:(fun i c=>C i (MK (j+1) c))=fun i c=>(fun i c=>C i (fC j (j+1) c)) i (MK j c):=by
   funext i c
   (try simp only)
   congr 1
   unfold MK fC
   by_cases e:c=0
   ·rw[if_pos e,if_pos e,if_pos rfl]
   ·rw[if_neg e,if_neg e]
    by_cases l:c<=j
    ·rw[if_pos (by omega),if_pos l,if_neg (by omega),if_neg (by omega)]
    ·rw[if_neg l]
     by_cases z:c=j+1
     ·rw[if_pos (by omega),if_neg (by omega),if_pos z];omega
     ·rw[if_neg (by omega),if_neg (by omega),if_neg z]
  rw[this,BF (fun i c=>C i (fC j (j+1) c)) (by omega),uq C h,kR,Int.mul_neg,Int.neg_mul]
def nH(A:jS)(j:Nat)(r:Nat->Int):jS:=fun i k=>if k=j then r i else A i k
theorem WY(j:Nat):jV j*jV j=1:=by unfold jV;split<;>rfl
theorem WZ{n:Nat}(A:jS)(r:Nat->Int){i:Nat}(hi:i<n):bI (fun j=>A i j*cM n (nH A j r)) n=cM n A*r i:=by
 have hz:cM (n+1) (fun a b=>(fun(x:Nat)(y:Nat)=>match y with|0=>r x|y+1=>A x y) (match a with|0=>i|a+1=>a) b)=0:=
  Fq (i:=0) (j:=i+1) _ (by omega) (by omega) (by omega) rfl
 rw[cM,yl]at hz
 have h0:jV 0*(fun(x:Nat)(y:Nat)=>match y with|0=>r x|y+1=>A x y) i 0*cM n (fun a b=>(fun(x:Nat)(y:Nat)=>match y with|0=>r x|y+1=>A x y) a (fp 0 b))=r i*cM n A:=by
  show 1*r i*cM n _=_
  rw[Int.one_mul]
  rfl
 have hs:∀j,j<n->jV (j+1)*A i j*cM n (fun a b=>(fun(x:Nat)(y:Nat)=>match y with|0=>r x|y+1=>A x y) a (fp (j+1) b))= -(A i j*cM n (nH A j r)):=fun j hj=>by
  have e:(fun a b=>(fun(x:Nat)(y:Nat)=>match y with|0=>r x|y+1=>A x y) a (fp (j+1) b))=fun a b=>nH A j r a (MK j b):=by
   funext a b
   cases b with
   |zero=>simp[fp,MK,nH]
   |succ b=>
    (try simp only)
    by_cases l:b+1<=j
    ·have s1:fp (j+1) (b+1)=b+1:=by unfold fp;rw[if_pos (by omega)]
     have s2:MK j (b+1)=b:=by unfold MK;rw[if_neg (by omega),if_pos l];rfl
     rw[s1,s2]
     unfold nH
     rw[if_neg (by omega)]
    ·have s1:fp (j+1) (b+1)=b+2:=by unfold fp;rw[if_neg (by omega)]
     have s2:MK j (b+1)=b+1:=by unfold MK;rw[if_neg (by omega),if_neg l]
     rw[s1,s2]
     unfold nH
     rw[if_neg (by omega)]
  rw[e,BF (nH A j r) hj,kR,Int.neg_mul,Int.neg_mul]
  congr 1
  rw[Int.mul_assoc,Int.mul_left_comm (A i j),<-Int.mul_assoc,WY,Int.one_mul]
 have e2:bI (fun j=>jV (j+1)*A i j*cM n (fun a b=>(fun(x:Nat)(y:Nat)=>match y with|0=>r x|y+1=>A x y) a (fp (j+1) b))) n= -bI (fun j=>A i j*cM n (nH A j r)) n:=by
  rw[<-mF]
  exact cC hs
 have e3:r i*cM n A+ -bI (fun j=>A i j*cM n (nH A j r)) n=0:=by
  rw[<-h0,<-e2]
  exact hz
 rw[Int.mul_comm (cM n A)]
 omega
def qm(a b:Int)(p:Nat):Bool:= !decide ((p:Int)=a)&& !decide ((p:Int)=b)
theorem kV{a b:Int}{p:Nat}:qm a b p=true↔(p:Int)≠a/\(p:Int)≠b:=by unfold qm;simp
def bS(n:Nat)(a b:Int):List Nat:=(List.range n).filter (qm a b)
theorem eD{n:Nat}{a b:Int}{p:Nat}:p∈bS n a b↔p<n/\(p:Int)≠a/\(p:Int)≠b:=by
 unfold bS
 rw[List.mem_filter,List.mem_range,kV]
theorem CW(n:Nat)(a b:Int):(bS n a b).Nodup:=List.Pairwise.filter _ List.nodup_range
def gu(g:List (List Int))(a b:Int):Tn:=(bS g.length a b).map fun p:Nat=>((p:Int),g.getD p [])
def OW(g:List (List Int))(a b:Int):Bool:=(List.range g.length).all fun p:Nat=> !(decide ((gr g p).getD a.toNat 0<0)&&decide ((gr g p).getD b.toNat 0<0))&& !(qm a b p&&decide ((g.getD p []).length=0))
def lG(g:List (List Int))(a b:Int):Bool:=aM g&&iD 0 ((g.length:Int)-1) a&&iD 0 ((g.length:Int)-1) b&& !decide (a=b)
def Iy(g:List (List Int))(a b:Int):Bool:=lG g a b&&OW g a b
structure Can(g:List (List Int))(a b:Int):Prop where
 bE:aM g=true
 a0:0<=a
 a1:a<(g.length:Int)
 b0:0<=b
 b1:b<(g.length:Int)
 ne:a≠b
 cU:∀p:Nat,p<g.length->0<=(gr g p).getD a.toNat 0\/0<=(gr g p).getD b.toNat 0
 out:∀p:Nat,p<g.length->(p:Int)≠a->(p:Int)≠b->(g.getD p []).length≠0
theorem Iz{g:List (List Int)}{a b:Int}(h:lG g a b=true):aM g=true/\(0<=a/\a<(g.length:Int))/\(0<=b/\b<(g.length:Int))/\a≠b:=by
 unfold lG at h
 simp only[Bool.and_eq_true,Bool.not_eq_true',decide_eq_false_iff_not,aZ]at h
 exact⟨h.1.1.1,by omega,by omega,h.2⟩
theorem OX{g:List (List Int)}{a b:Int}(h:Iy g a b=true):Can g a b:=by
 unfold Iy at h
 rw[Bool.and_eq_true]at h
 obtain⟨hg,⟨a0,a1⟩,⟨b0,b1⟩,eA⟩:=Iz h.1
 have he:=h.2
 unfold OW at he
 rw[List.all_eq_true]at he
 refine⟨hg,a0,a1,b0,b1,eA,fun p hp=> ?_,fun p hp pa pb hz=> ?_⟩
 ·have:=he p (List.mem_range.2 hp)
  simp only[Bool.and_eq_true,Bool.not_eq_true',Bool.and_eq_false_iff,decide_eq_false_iff_not]at this
  omega
 ·have:=he p (List.mem_range.2 hp)
  rw[kV.2 ⟨pa,pb⟩,decide_eq_true hz]at this
  simp at this
theorem Can.turn{g:List (List Int)}{a b:Int}(h:Can g a b):Can g b a:=⟨h.bE,h.b0,h.b1,h.a0,h.a1,fun e=>h.ne e.symm,fun p hp=>(h.cU p hp).symm,fun p hp x y=>h.out p hp y x⟩
def pp(f:Int->Int)(l:List Int):Int:=(l.map f).sum
theorem pq(f:Int->Int):pp f []=0:=rfl
theorem iz(f:Int->Int)(x:Int)(l:List Int):pp f (x::l)=f x+pp f l:=by unfold pp;rw[List.map_cons,List.sum_cons]
theorem FP(f f':Int->Int):∀l,pp (fun x=>f x+f' x) l=pp f l+pp f' l
 |[]=>rfl
 |x::l=>by rw[iz,iz,iz,FP f f' l];omega
theorem FQ(c:Int)(f:Int->Int):∀l,pp (fun x=>c*f x) l=c*pp f l
 |[]=>by rw[pq,pq,Int.mul_zero]
 |x::l=>by rw[iz,iz,FQ c f l,Int.mul_add]
theorem ym(c:Int):∀l:List Int,pp (fun _=>c) l=l.length*c
 |[]=>by rw[pq];simp
 |x::l=>by rw[iz,ym c l,List.length_cons];rw[show((l.length+1:Nat):Int)=(l.length:Int)+1 by omega,Int.add_mul];omega
theorem OY{f:Int->Int}{u:Int}:∀l:List Int,(∀x,x∈l->u<=f x)->(l.length:Int)*u<=pp f l/\(pp f l<=l.length*u->∀x,x∈l->f x=u)
 |[],_=>⟨by rw[pq];simp,fun _ x hx=>by simp at hx⟩
 |x::l,h=>by
  obtain⟨h1,h2⟩:=OY l fun y hy=>h y (List.mem_cons_of_mem _ hy)
  have h0:=h x List.mem_cons_self
  rw[iz,List.length_cons,show((l.length+1:Nat):Int)=(l.length:Int)+1 by omega,Int.add_mul,Int.one_mul]
  refine⟨by omega,fun hle y hy=> ?_⟩
  rcases List.mem_cons.1 hy with rfl|hy
  ·omega
  ·exact h2 (by omega) y hy
theorem OZ(f:Int->Int):∀n:Nat,0<n->∃p:Nat,p<n/\∀q:Nat,q<n->f p<=f q
 |1,_=>⟨0,by omega,fun q hq=>by rw[show q=0 by omega];exact Int.le_refl _⟩
 |n+2,_=>by
  obtain⟨p,hp,hq⟩:=OZ f (n+1) (by omega)
  by_cases h:f p<=f ((n+1:Nat):Int)
  ·refine⟨p,by omega,fun q h2=> ?_⟩
   by_cases e:q=n+1
   ·rw[e];exact h
   ·exact hq q (by omega)
  ·refine⟨n+1,by omega,fun q h2=> ?_⟩
   by_cases e:q=n+1
   ·rw[e];exact Int.le_refl _
   ·have:=hq q (by omega);omega
theorem Can.low{g:List (List Int)}{a b:Int}(C:Can g a b)(f:Int->Int)(ha:0<=f a)(hb:0<=f b)(H:∀p:Nat,p<g.length->(p:Int)≠a->(p:Int)≠b->pp f (g.getD p [])<=(g.getD p []).length*f p):∀p:Nat,p<g.length->0<=f p:=fun p0 RY=>by
 obtain⟨p,hp,hm⟩:=OZ f g.length (by omega)
 refine Classical.byContradiction fun hn=> ?_
 have hu:f p<0:=by have:=hm p0 RY;omega
 have key:∀(k:Nat)(q:Int),Way g p k q->f q=f p:=by
  intro k
  induction k with
  |zero=>intro q hq;rw[<-show(p:Int)=q from hq]
  |succ k ih=>
   rintro q ⟨x,hx,hq⟩
   have xr:=Way.rng C.bE (show(0:Int)<=p by omega) (by omega) hx
   have ex:=ih x hx
   have xe:((x.toNat:Nat):Int)=x:=by omega
   have hle:=H x.toNat (by omega) (by rw[xe];intro e;rw[e]at ex;omega) (by rw[xe];intro e;rw[e]at ex;omega)
   rw[xe,ex]at hle
   refine(OY (u:=f p) _ fun y hy=> ?_).2 hle q hq
   have hy':=hy
   rw[aR (by omega)]at hy'
   have yr:=(aT C.bE (List.getElem_mem (show x.toNat<g.length by omega))).2 y hy'
   have:=hm y.toNat (by omega)
   rw[show((y.toNat:Nat):Int)=y by omega]at this
   exact this
 rcases C.cU p hp with h|h
 ·have:=key _ _ (wF (p:=(p:Int)) C.bE (by omega) (by omega) C.a0 C.a1 h)
  omega
 ·have:=key _ _ (wF (p:=(p:Int)) C.bE (by omega) (by omega) C.b0 C.b1 h)
  omega
theorem Way.fst{g:List (List Int)}{p:Int}:∀{k:Nat}{s:Int},Way g p (k+1) s->∃e,e∈g.getD p.toNat []/\Way g e k s
 |0,s,h=>by
  obtain⟨x,hx,hs⟩:=h
  rw[<-show p=x from hx]at hs
  exact⟨s,hs,rfl⟩
 |k+1,s,h=>by
  obtain⟨x,hx,hs⟩:=h
  obtain⟨e,he,hw⟩:=Way.fst hx
  exact⟨e,he,x,hw,hs⟩
def ra(g:List (List Int))(a b p:Int):Nat:=(if(gr g p).getD a.toNat 0<0 then(gr g p).getD b.toNat 0 else if(gr g p).getD b.toNat 0<0 then(gr g p).getD a.toNat 0 else min ((gr g p).getD a.toNat 0) ((gr g p).getD b.toNat 0)).toNat
theorem Can.dst{g:List (List Int)}{a b:Int}(C:Can g a b){p:Nat}(hp:p<g.length):(Way g p (ra g a b p) a\/Way g p (ra g a b p) b)/\∀k,Way g p k a\/Way g p k b->ra g a b p<=k:=by
 have p0:(0:Int)<=p:=by omega
 have p1:(p:Int)<(g.length:Int):=by omega
 have wa:=wF (p:=(p:Int)) (q:=a) C.bE p0 p1 C.a0 C.a1
 have wb:=wF (p:=(p:Int)) (q:=b) C.bE p0 p1 C.b0 C.b1
 have hf:=C.cU p hp
 have la:∀k,Way g p k a->_:=fun k h=>Ii C.bE p0 p1 h
 have lb:∀k,Way g p k b->_:=fun k h=>Ii C.bE p0 p1 h
 unfold ra
 generalize (gr g (p:Int)).getD a.toNat 0=x at*
 generalize (gr g (p:Int)).getD b.toNat 0=y at*
 refine⟨?_,fun k hk=> ?_⟩
 ·split
  ·exact .inr (wb (by omega))
  ·split
   ·exact .inl (wa (by omega))
   ·by_cases h:x<=y
    ·rw[Int.min_eq_left h];exact .inl (wa (by omega))
    ·rw[Int.min_eq_right (by omega)];exact .inr (wb (by omega))
 ·rcases hk with h|h
  ·have:=la k h
   rw[if_neg (by omega)]
   split<;>omega
  ·have:=lb k h
   split
   ·omega
   ·rw[if_neg (by omega)];omega
theorem Can.W0{g:List (List Int)}{a b:Int}(C:Can g a b){p:Nat}(hp:p<g.length)(pa:(p:Int)≠a)(pb:(p:Int)≠b):∃e,e∈g.getD p []/\ra g a b e<ra g a b p:=by
 obtain⟨hw,_⟩:=C.dst hp
 have hz:ra g a b p≠0:=fun h=>by
  rw[h]at hw
  rcases hw with h|h
  ·exact pa h
  ·exact pb h
 obtain⟨m,hm⟩:∃m,ra g a b p=m+1:=⟨ra g a b p-1,by omega⟩
 rw[hm]at hw⊢
 have key:∀s,Way g p (m+1) s->s=a\/s=b->∃e,e∈g.getD p []/\ra g a b e<m+1:=fun s h hs=>by
  obtain⟨e,he,hv⟩:=Way.fst h
  rw[show((p:Int)).toNat=p from rfl]at he
  refine⟨e,he,?_⟩
  rw[aR hp]at he
  have er:=(aT C.bE (List.getElem_mem hp)).2 e he
  have:=(C.dst (p:=e.toNat) (by omega)).2 m
  rw[show((e.toNat:Nat):Int)=e by omega]at this
  have:=this (by rcases hs with rfl|rfl;exact .inl hv;exact .inr hv)
  omega
 rcases hw with h|h
 ·exact key a h (.inl rfl)
 ·exact key b h (.inr rfl)
theorem vD{α β:Type}(f:α->List β)(c:α->β):∀l:List α,(∀x,x∈l->c x∈f x)->l.map c∈cZ (l.map f)
 |[],_=>List.mem_singleton.2 rfl
 |x::l,h=>by
  rw[List.map_cons,List.map_cons,cZ,List.mem_flatMap]
  exact⟨c x,h x List.mem_cons_self,List.mem_map.2 ⟨_,vD f c l fun y hy=>h y (List.mem_cons_of_mem _ hy),rfl⟩⟩
theorem FR{α:Type}:∀(l:List (List α))(m:Nat),(∀x,x∈l->x.length<=m)->(cZ l).length<=m^l.length
 |[],m,_=>by simp[cZ]
 |x::l,m,h=>by
  have ih:=FR l m fun y hy=>h y (List.mem_cons_of_mem _ hy)
  have hx:=h x List.mem_cons_self
  rw[cZ,List.length_flatMap,List.length_cons,Nat.pow_succ]
  have:(x.map fun a=>((cZ l).map (a:: ·)).length)=x.map fun _=>(cZ l).length:=List.map_congr_left fun a _=>by rw[List.length_map]
  rw[this,List.map_const',List.sum_replicate_nat]
  rw[Nat.mul_comm (m^l.length)]
  exact Nat.mul_le_mul hx ih
theorem FT{α β γ:Type}(f:α->β)(c:α->γ):∀l:List α,(l.map f).zip (l.map c)=l.map fun x=>(f x,c x)
 |[]=>rfl
 |x::l=>by rw[List.map_cons,List.map_cons,List.map_cons,List.zip_cons_cons,FT f c l]
def jT(g:List (List Int))(a b:Int):Int:=cM (bS g.length a b).length (iF (gu g a b))
theorem yn(g:List (List Int))(a b:Int):(gu g a b).length=(bS g.length a b).length:=by unfold gu;rw[List.length_map]
theorem KH(g:List (List Int))(a b:Int):((gu g a b).map (·.1)).Nodup:=by
 unfold gu
 rw[List.map_map]
 refine List.Pairwise.map _ (fun x y h e=>h ?_) (CW g.length a b)
 simp only[Function.comp]at e
 omega
theorem KI(g:List (List Int))(a b:Int):jT g a b=(((cZ ((gu g a b).map (·.2))).countP fun c=>MI (bS g.length a b).length (((gu g a b).map (·.1)).zip c):Nat):Int):=by
 unfold jT
 rw[CJ _ _ (yn g a b) (KH g a b),yc _ _ (yn g a b)]
theorem Can.pos{g:List (List Int)}{a b:Int}(C:Can g a b):0<jT g a b:=by
 rw[KI]
 have step:∀p:Nat,∃e:Int,p∈bS g.length a b->e∈g.getD p []/\ra g a b e<ra g a b p:=fun p=>by
  by_cases hp:p∈bS g.length a b
  ·obtain⟨h1,h2,h3⟩:=eD.1 hp
   obtain⟨e,he⟩:=C.W0 h1 h2 h3
   exact⟨e,fun _=>he⟩
  ·exact⟨0,fun h=>absurd h hp⟩
 let f:Nat->Int:=fun p=>Classical.choose (step p)
 have hf:∀p:Nat,p∈bS g.length a b->f p∈g.getD p []/\ra g a b (f p)<ra g a b p:=fun p=>Classical.choose_spec (step p)
 have hc:(bS g.length a b).map f∈cZ ((gu g a b).map (·.2)):=by
  unfold gu
  rw[List.map_map]
  exact vD _ _ _ fun p hp=>(hf p hp).1
 have hk:MI (bS g.length a b).length (((gu g a b).map (·.1)).zip ((bS g.length a b).map f))=true:=by
  unfold gu
  rw[List.map_map,FT]
  refine(CK _ _ (by rw[List.length_map]) ?_).2 ⟨fun x=>ra g a b x,fun t ht _=> ?_⟩
  ·have:=KH g a b
   unfold gu at this
   rw[List.map_map]at this⊢
   exact this
  ·obtain⟨p,hp,rfl⟩:=List.mem_map.1 ht
   exact(hf p hp).2
 have:0<(cZ ((gu g a b).map (·.2))).countP fun c=>MI (bS g.length a b).length (((gu g a b).map (·.1)).zip c):=List.countP_pos_iff.2 ⟨_,hc,hk⟩
 omega
theorem sU{n:Nat}{a b:Int}(h0:0<=a)(h1:a<(n:Int))(k0:0<=b)(k1:b<(n:Int))(eA:a≠b):(bS n a b).length+2=n:=by
 have key:∀m:Nat,(bS m a b).length+((if a<(m:Int)then 1 else 0)+(if b<(m:Int)then 1 else 0))=m:=by
  intro m
  induction m with
  |zero=>rw[if_neg (by omega),if_neg (by omega)];rfl
  |succ m ih=>
   unfold bS at ih⊢
   rw[List.range_succ,List.filter_append,List.length_append]
   by_cases e1:(m:Int)=a
   ·rw[List.filter_cons_of_neg (by rw[kV];exact fun h=>h.1 e1),List.filter_nil,List.length_nil]
    by_cases e2:b<(m:Int)
    ·rw[if_neg (by omega),if_pos e2]at ih
     rw[if_pos (by omega),if_pos (by omega)];omega
    ·rw[if_neg (by omega),if_neg e2]at ih
     rw[if_pos (by omega),if_neg (by omega)];omega
   ·by_cases e2:(m:Int)=b
    ·rw[List.filter_cons_of_neg (by rw[kV];exact fun h=>h.2 e2),List.filter_nil,List.length_nil]
     by_cases e3:a<(m:Int)
     ·rw[if_pos e3,if_neg (by omega)]at ih
      rw[if_pos (by omega),if_pos (by omega)];omega
     ·rw[if_neg e3,if_neg (by omega)]at ih
      rw[if_neg (by omega),if_pos (by omega)];omega
    ·rw[List.filter_cons_of_pos (kV.2 ⟨e1,e2⟩),List.filter_nil,List.length_cons,List.length_nil]
     rw[show(if a<((m+1:Nat):Int)then 1 else 0)=(if a<(m:Int)then 1 else 0) by split<;>split<;>omega,show(if b<((m+1:Nat):Int)then 1 else 0)=(if b<(m:Int)then 1 else 0) by split<;>split<;>omega]
     omega
 have:=key n
 rw[if_pos h1,if_pos k1]at this
 omega
theorem Can.den{g:List (List Int)}{a b:Int}(C:Can g a b):1<=jT g a b/\jT g a b<=15625:=by
 refine⟨C.pos,?_⟩
 rw[KI]
 have hl:=sU C.a0 C.a1 C.b0 C.b1 C.ne
 have gl:=aO C.bE
 have h1:=List.countP_le_length (p:=fun c=>MI (bS g.length a b).length (((gu g a b).map (·.1)).zip c)) (l:=cZ ((gu g a b).map (·.2)))
 have h2:=FR ((gu g a b).map (·.2)) 5 fun x hx=>by
  unfold gu at hx
  rw[List.map_map]at hx
  obtain⟨p,hp,rfl⟩:=List.mem_map.1 hx
  have hp:=(eD.1 hp).1
  show(g.getD p []).length<=5
  rw[aR hp]
  exact(aT C.bE (List.getElem_mem hp)).1
 rw[List.length_map,yn]at h2
 have h3:5^(bS g.length a b).length<=5^6:=Nat.pow_le_pow_right (by omega) (by omega)
 have h4:(5:Nat)^6=15625:=rfl
 omega
def IA(g:List (List Int))(a b:Int)(own:Int->Int)(A B:Int)(i:Nat):Int:=own ((bS g.length a b).getD i 0:Nat)+A*fh a (g.getD ((bS g.length a b).getD i 0) [])+B*fh b (g.getD ((bS g.length a b).getD i 0) [])
def vE(g:List (List Int))(a b:Int)(own:Int->Int)(A B:Int)(j:Nat):Int:=cM (bS g.length a b).length (nH (iF (gu g a b)) j (IA g a b own A B))
def Ej(g:List (List Int))(a b:Int)(own:Int->Int)(A B:Int)(q:Int):Int:=if q=a then A*jT g a b else if q=b then B*jT g a b else vE g a b own A B ((bS g.length a b).idxOf q.toNat)
theorem ur(x:Nat->Int)(L:Int):∀{i m:Nat},i<m->bI (fun j=>(if i=j then L else 0)*x j) m=L*x i
 |i,m+1,h=>by
  rw[bI]
  by_cases e:i=m
  ·subst e
   rw[jn fun j hj=>by rw[if_neg (show¬i=j by omega),Int.zero_mul]]
   rw[if_pos rfl,Int.zero_add]
  ·rw[ur x L (show i<m by omega),if_neg e,Int.zero_mul,Int.add_zero]
theorem kW{g:List (List Int)}{a b:Int}{j:Nat}(hj:j<(bS g.length a b).length):nF (gu g a b) j=((bS g.length a b)[j]:Nat)/\zQ (gu g a b) j=g.getD (bS g.length a b)[j] []:=by
 unfold nF zQ gu
 rw[List.getD_eq_getElem?_getD,List.getElem?_eq_getElem (by rw[List.length_map];exact hj),List.getElem_map]
 exact⟨rfl,rfl⟩
theorem CX{n:Nat}{a b:Int}{j:Nat}(hj:j<(bS n a b).length):(bS n a b).idxOf (bS n a b)[j]=j:=(CW n a b).idxOf_getElem j hj
theorem O0{g:List (List Int)}{a b:Int}(own:Int->Int)(A B:Int)(eA:a≠b):∀l:List Int,(∀x,x∈l->0<=x/\x<(g.length:Int))->pp (Ej g a b own A B) l=A*jT g a b*fh a l+B*jT g a b*fh b l+bI (fun j=>fh (nF (gu g a b) j) l*vE g a b own A B j) (bS g.length a b).length
 |[],_=>by
  rw[pq,jn fun j _=>by rw[fh,Int.zero_mul]]
  simp[fh]
 |y::l,h=>by
  have ih:=O0 own A B eA l fun x hx=>h x (List.mem_cons_of_mem _ hx)
  have hy:=h y List.mem_cons_self
  rw[iz,ih,fh,fh]
  have e1:bI (fun j=>fh (nF (gu g a b) j) (y::l)*vE g a b own A B j) (bS g.length a b).length=bI (fun j=>(if y=nF (gu g a b) j then 1 else 0)*vE g a b own A B j) (bS g.length a b).length+bI (fun j=>fh (nF (gu g a b) j) l*vE g a b own A B j) (bS g.length a b).length:=by
   rw[<-mD]
   exact cC fun j _=>by(try simp only);rw[fh,Int.add_mul]
  rw[e1]
  by_cases ea:y=a
  ·have e2:bI (fun j=>(if y=nF (gu g a b) j then 1 else 0)*vE g a b own A B j) (bS g.length a b).length=0:=jn fun j hj=>by
    (try simp only)
    rw[if_neg,Int.zero_mul]
    rw[(kW hj).1]
    have:=(eD.1 (List.getElem_mem hj)).2.1
    omega
   rw[e2]
   unfold Ej
   rw[if_pos ea,if_pos ea,if_neg (by omega),Int.zero_add (fh b l),Int.mul_add,Int.mul_one]
   omega
  ·by_cases eb:y=b
   ·have e2:bI (fun j=>(if y=nF (gu g a b) j then 1 else 0)*vE g a b own A B j) (bS g.length a b).length=0:=jn fun j hj=>by
     (try simp only)
     rw[if_neg,Int.zero_mul]
     rw[(kW hj).1]
     have:=(eD.1 (List.getElem_mem hj)).2.2
     omega
    rw[e2]
    unfold Ej
    rw[if_neg ea,if_pos eb,if_neg ea,if_pos eb,Int.zero_add (fh a l),Int.mul_add (B*jT g a b),Int.mul_one]
    omega
   ·have hm:y.toNat∈bS g.length a b:=eD.2 ⟨by omega,by omega,by omega⟩
    have hi:=List.idxOf_lt_length_iff.2 hm
    have e2:bI (fun j=>(if y=nF (gu g a b) j then 1 else 0)*vE g a b own A B j) (bS g.length a b).length=vE g a b own A B ((bS g.length a b).idxOf y.toNat):=by
     have e3:=ur (vE g a b own A B) 1 hi
     rw[Int.one_mul]at e3
     rw[<-e3]
     refine cC fun j hj=> ?_
     (try simp only)
     congr 1
     rw[(kW hj).1]
     by_cases e4:(bS g.length a b).idxOf y.toNat=j
     ·rw[if_pos e4,if_pos]
      subst e4
      rw[List.getElem_idxOf]
      omega
     ·rw[if_neg e4,if_neg]
      intro e5
      apply e4
      rw[show y.toNat=(bS g.length a b)[j] by omega]
      exact CX hj
    rw[e2]
    unfold Ej
    rw[if_neg ea,if_neg eb,if_neg ea,if_neg eb,Int.zero_add (fh a l),Int.zero_add (fh b l)]
    omega
theorem Can.bal{g:List (List Int)}{a b:Int}(C:Can g a b)(own:Int->Int)(A B:Int){p:Nat}(hp:p<g.length)(pa:(p:Int)≠a)(pb:(p:Int)≠b):((g.getD p []).length:Int)*Ej g a b own A B p=pp (Ej g a b own A B) (g.getD p [])+own p*jT g a b:=by
 have hm:p∈bS g.length a b:=eD.2 ⟨hp,pa,pb⟩
 have hi:=List.idxOf_lt_length_iff.2 hm
 have hr:∀x,x∈g.getD p []->0<=x/\x<(g.length:Int):=fun x hx=>by
  rw[aR hp]at hx
  exact(aT C.bE (List.getElem_mem hp)).2 x hx
 have hc:=WZ (iF (gu g a b)) (IA g a b own A B) hi
 have hg:(bS g.length a b)[(bS g.length a b).idxOf p]=p:=List.getElem_idxOf hi
 have e1:bI (fun j=>iF (gu g a b) ((bS g.length a b).idxOf p) j*cM (bS g.length a b).length (nH (iF (gu g a b)) j (IA g a b own A B))) (bS g.length a b).length=((g.getD p []).length:Int)*vE g a b own A B ((bS g.length a b).idxOf p)+ -bI (fun j=>fh (nF (gu g a b) j) (g.getD p [])*vE g a b own A B j) (bS g.length a b).length:=by
  rw[<-mF,<-ur (vE g a b own A B) _ hi,<-mD]
  refine cC fun j hj=> ?_
  (try simp only)
  unfold iF
  rw[(kW hi).2,hg,Int.sub_mul,Int.sub_eq_add_neg]
  rfl
 have e2:IA g a b own A B ((bS g.length a b).idxOf p)=own p+A*fh a (g.getD p [])+B*fh b (g.getD p []):=by
  unfold IA
  rw[show(bS g.length a b).getD ((bS g.length a b).idxOf p) 0=p by rw[List.getD_eq_getElem?_getD,List.getElem?_eq_getElem hi,Option.getD_some,hg]]
 rw[e1,e2]at hc
 rw[O0 own A B C.ne _ hr]
 have e3:Ej g a b own A B p=vE g a b own A B ((bS g.length a b).idxOf p):=by
  unfold Ej
  rw[if_neg pa,if_neg pb]
  rfl
 rw[e3]
 have e4:cM (bS g.length a b).length (iF (gu g a b))=jT g a b:=rfl
 rw[e4,Int.mul_add,Int.mul_add]at hc
 have e5:jT g a b*own p=own p*jT g a b:=Int.mul_comm _ _
 have e6:jT g a b*(A*fh a (g.getD p []))=A*jT g a b*fh a (g.getD p []):=by rw[<-Int.mul_assoc,Int.mul_comm (jT g a b)]
 have e7:jT g a b*(B*fh b (g.getD p []))=B*jT g a b*fh b (g.getD p []):=by rw[<-Int.mul_assoc,Int.mul_comm (jT g a b)]
 rw[e5,e6,e7]at hc
 omega
def zR(g:List (List Int))(a b q:Int):Int:=Ej g a b (fun _=>0) 1 0 q
def stN(g:List (List Int))(a b q:Int):Int:=Ej g a b (fun p=>((g.getD p.toNat []).length:Int)) 0 0 q
theorem U5(g:List (List Int))(a b:Int):zR g a b a=jT g a b:=by unfold zR Ej;rw[if_pos rfl,Int.one_mul]
theorem U6(g:List (List Int)){a b:Int}(h:a≠b):zR g a b b=0:=by unfold zR Ej;rw[if_neg fun e=>h e.symm,if_pos rfl,Int.zero_mul]
theorem Can.ch{g:List (List Int)}{a b:Int}(C:Can g a b){p:Nat}(hp:p<g.length)(pa:(p:Int)≠a)(pb:(p:Int)≠b):((g.getD p []).length:Int)*zR g a b p=pp (zR g a b) (g.getD p []):=by
 have:=C.bal (fun _=>0) 1 0 hp pa pb
 simp only[Int.zero_mul,Int.add_zero]at this
 exact this
theorem Can.Xa{g:List (List Int)}{a b:Int}(C:Can g a b){p:Nat}(hp:p<g.length):0<=zR g a b p/\zR g a b p<=jT g a b:=by
 have hd:=C.pos
 refine⟨C.low (zR g a b) (by rw[U5];omega) (by rw[U6 g C.ne];omega) (fun p hp pa pb=>by rw[C.ch hp pa pb];exact Int.le_refl _) p hp,?_⟩
 have:=C.low (fun q=>jT g a b+ -1*zR g a b q) (by(try simp only);rw[U5];omega) (by(try simp only);rw[U6 g C.ne];omega) (fun p hp pa pb=>by
  (try simp only)
  rw[FP,ym,FQ,<-C.ch hp pa pb,Int.mul_add]
  rw[Int.mul_left_comm]
  exact Int.le_refl _) p hp
 (try simp only at this)
 omega
theorem Can.st{g:List (List Int)}{a b:Int}(C:Can g a b){p:Nat}(hp:p<g.length)(pa:(p:Int)≠a)(pb:(p:Int)≠b):((g.getD p []).length:Int)*stN g a b p=pp (stN g a b) (g.getD p [])+((g.getD p []).length:Int)*jT g a b:=C.bal (fun p=>((g.getD p.toNat []).length:Int)) 0 0 hp pa pb
@[reducible] def tR:TypeId:=153
@[reducible] def tRs:TypeId:=186
theorem rRs:ni Tryz.prog tRs=some (tR,2,16,[VI 0,VI 0]):=by kernel_rfl
theorem rc{x:Int}(h: -9223372036854775808<x)(h':x<9223372036854775808):max x (aL (0-x))=(x.natAbs:Int):=by
 rw[aH _ (by omega) (by omega)]
 by_cases e:0<=x
 ·rw[Int.max_eq_left (by omega)];omega
 ·rw[Int.max_eq_right (by omega)];omega
theorem KJ(m k:Nat):Int.tmod (m:Int) (k:Int)=((m%k:Nat):Int):=by rw[Int.ofNat_tmod]
def jZ(x d:Int):Int×Int:=(x/(Int.gcd x d:Int),d/(Int.gcd x d:Int))
theorem wM{x d:Int}(h:0<d):0<Int.gcd x d:=Int.gcd_pos_of_ne_zero_right _ (by omega)
theorem O8{x d:Int}:(Int.gcd x d:Int)*(jZ x d).1=x/\(Int.gcd x d:Int)*(jZ x d).2=d:=⟨Int.mul_ediv_cancel' (Int.gcd_dvd_left ..),Int.mul_ediv_cancel' (Int.gcd_dvd_right ..)⟩
theorem KK{x d:Int}:Int.tdiv x (Int.gcd x d:Int)=(jZ x d).1/\Int.tdiv d (Int.gcd x d:Int)=(jZ x d).2:=⟨Int.tdiv_eq_ediv_of_dvd (Int.gcd_dvd_left ..),Int.tdiv_eq_ediv_of_dvd (Int.gcd_dvd_right ..)⟩
theorem yp{g x y:Int}(hg:0<g)(h:g*x=y):x.natAbs<=y.natAbs:=by
 rw[<-h,Int.natAbs_mul]
 exact Nat.le_mul_of_pos_left _ (by omega)
theorem FU{x d:Int}(h:0<d):(jZ x d).1.natAbs<=x.natAbs/\(jZ x d).2.natAbs<=d.natAbs:=by
 have hg:=wM (x:=x) h
 have hm:=O8 (x:=x) (d:=d)
 exact⟨yp (by omega) hm.1,yp (by omega) hm.2⟩
theorem acE(a b:Int)(ha: -9223372036854775808<a/\a<9223372036854775808)(hb: -9223372036854775808<b/\b<9223372036854775808)(h:Heap):pO Tryz.prog 263 #[VI a,VI b] h (VI (Int.gcd a b)):=by
 intro K HK
 refine aiB a b h K (B9 _ _ _ _ ⟨_,rfl,B9 _ _ _ _ ⟨_,rfl,?_⟩⟩)
 rw[rc ha.1 ha.2,rc hb.1 hb.2]
 refine⟨fun n x y h'=>∃m:Nat,x=m/\y=n/\Nat.gcd m n=Int.gcd a b/\Fr No h h',⟨b.natAbs,a.natAbs,rfl,rfl,rfl,Fr.refl _ _⟩,?_⟩
 rintro n x y h1 ⟨m,rfl,rfl,hg,f1⟩ bG
 refine⟨fun e=> ?_,fun e=> ?_⟩
 ·have e:=aY e
  simp only[decide_eq_false_iff_not]at e
  refine⟨e,m%n,Nat.mod_lt _ (by omega),n,rfl,KJ m n,?_,f1⟩
  rw[<-hg,Nat.gcd_comm m n,Nat.gcd_rec n m,Nat.gcd_comm]
 ·have e:=aV e
  simp only[decide_eq_true_eq]at e
  have:n=0:=by omega
  subst this
  rw[Nat.gcd_zero_right]at hg
  rw[hg]
  exact HK h1 f1
theorem SO(x d:Int)(hx: -9223372036854775808<x/\x<9223372036854775808)(hd:0<d)(hd2:d<9223372036854775808)(h:Heap):pO Tryz.prog 219 #[VI x,VI d] h (.agg #[VI (jZ x d).1,VI (jZ x d).2]):=by
 intro K HK
 refine ahO x d h K fun b1 h1 dM f1 bG=> ?_
 have f1:=f1.aF
 refine acE x d hx ⟨by omega,hd2⟩ h1 _ fun h2 f2=>⟨_,rfl,bG.aB f2,?_⟩
 refine⟨fun y h'=>y=(Int.gcd x d:Int)/\Fr No h h',⟨fun e=>by simp only[decide_eq_true_eq]at e;omega,fun _=>⟨rfl,f1.aA f2⟩⟩,?_⟩
 rintro y h3 ⟨rfl,f3⟩ cF
 have hg:=wM (x:=x) hd
 have ht:=KK (x:=x) (d:=d)
 have hb:=FU (x:=x) hd
 rw[ht.1,ht.2,aH _ (by omega) (by omega),aH _ (by omega) (by omega)]
 refine⟨by omega,by omega,fun h4 f4 dN=>HK h4 (f3.fresh f4 fun k hk=> ?_)⟩
 simp only[In,List.mem_cons,List.not_mem_nil,or_false]at hk
 omega
theorem O9(a b:Int)(h:Heap)(K:Value->Heap->Prop)(HK:K (VI (max a b)) h):aE Tryz.prog 122 #[VI a,VI b] h K:=by
 refine ab0 a b h K ⟨fun e=> ?_,fun e=> ?_⟩
 ·simp only[decide_eq_true_eq]at e
  rw[Int.max_eq_left (by omega)]at HK
  exact HK
 ·simp only[decide_eq_false_iff_not]at e
  rw[Int.max_eq_right (by omega)]at HK
  exact HK
theorem SP(a:Int)(ha: -9223372036854775808<a)(Ha:a<9223372036854775808)(h:Heap)(K:Value->Heap->Prop)(HK:K (VI a.natAbs) h):aE Tryz.prog 272 #[VI a] h K:=
 aiQ a h K (O9 _ _ _ _ ⟨_,rfl,.nil,by rw[rc ha Ha];exact HK⟩)
theorem L9(x d:Int)(hx: -9223372036854775808<x/\x<9223372036854775808)(hd:0<d)(hd2:d<9223372036854775808)(h:Heap):pO Tryz.prog 236 #[VI x,VI d] h (.agg #[VI (jZ x d).1,VI (jZ x d).2]):=by
 intro K HK
 refine v236 x d h K fun b1 h1 dM f1 bG=> ?_
 have f1:=f1.aF
 refine⟨fun y z h'=>y=x/\z=d/\Fr No h h',⟨fun e=>by simp only[decide_eq_true_eq]at e;omega,fun _=>⟨rfl,rfl,f1⟩⟩,?_⟩
 rintro y z h2 ⟨rfl,rfl,f2⟩ bP
 refine SP y hx.1 hx.2 h2 _ ⟨_,rfl,bP,?_⟩
 refine⟨fun n p q h'=>∃m:Nat,p=m/\q=n/\Nat.gcd m n=Int.gcd y z/\Fr No h h',⟨z.natAbs,y.natAbs,rfl,by omega,rfl,f2⟩,?_⟩
 rintro n p q h3 ⟨m,rfl,rfl,hg,f3⟩ cF
 refine⟨fun e=> ?_,fun e=> ?_⟩
 ·simp only[decide_eq_true_eq]at e
  refine⟨by omega,m%n,Nat.mod_lt _ (by omega),n,rfl,KJ m n,?_,f3⟩
  rw[<-hg,Nat.gcd_comm m n,Nat.gcd_rec n m,Nat.gcd_comm]
 ·simp only[decide_eq_false_iff_not]at e
  have:n=0:=by omega
  subst this
  rw[Nat.gcd_zero_right]at hg
  rw[hg]
  have hg:=wM (x:=y) hd
  have ht:=KK (x:=y) (d:=z)
  have hb:=FU (x:=y) hd
  rw[ht.1,ht.2,aH _ (by omega) (by omega),aH _ (by omega) (by omega)]
  refine⟨by omega,by omega,fun h4 f4 dN=>HK h4 (f3.fresh f4 fun k hk=> ?_)⟩
  simp only[In,List.mem_cons,List.not_mem_nil,or_false]at hk
  omega
def CY(g:List (List Int))(a b:Int)(p:Nat):Bool:= !(decide ((gr g p).getD a.toNat 0<0)&&decide ((gr g p).getD b.toNat 0<0))&& !(qm a b p&&decide ((g.getD p []).length=0))
theorem KL{g:List (List Int)}{a b:Int}{p:Nat}(hp:p<g.length)(h:CY g a b p=false):OW g a b=false:=List.all_eq_false.2 ⟨p,List.mem_range.2 hp,by unfold CY at h;rw[h];decide⟩
theorem FV{g:List (List Int)}{a b:Int}(h:∀p,p<g.length->CY g a b p=true):OW g a b=true:=List.all_eq_true.2 fun p hp=>h p (List.mem_range.1 hp)
theorem FW{S:Nat->Prop}{h:Heap}{t:Sl}{cU:List Int}(R:aP S h t cU){b:Int}(b0:0<=b)(b1:b<(cU.length:Int)){x p a l:Int}{KF KN:Prop}(hF:(!(decide (x<0)&&decide (cU.getD b.toNat 0<0))&& !((!decide (p=a)&& !decide (p=b))&&decide (l=0)))=false->KF)(hN:(!(decide (x<0)&&decide (cU.getD b.toNat 0<0))&& !((!decide (p=a)&& !decide (p=b))&&decide (l=0)))=true->KN):
 ((decide (x<0))=true->dW t b/\∃y:Int,aQ h (Sl.at t b 1)=some (VI y)/\((decide (y<0))=true->KF)/\((decide (y<0))=false->((!decide (p=a))=true->((!decide (p=b))=true->((decide (l=0))=true->KF)/\((decide (l=0))=false->KN))/\((!decide (p=b))=false->KN))/\((!decide (p=a))=false->KN)))/\
 ((decide (x<0))=false->((!decide (p=a))=true->((!decide (p=b))=true->((decide (l=0))=true->KF)/\((decide (l=0))=false->KN))/\((!decide (p=b))=false->KN))/\((!decide (p=a))=false->KN)):=by
 refine⟨fun e1=>⟨R.bB b0 b1,_,R.get b0 b1,fun e2=>hF ?_,fun e2=>⟨fun e3=>⟨fun e4=>⟨fun e5=>hF ?_,fun e5=>hN ?_⟩,fun e4=>hN ?_⟩,fun e3=>hN ?_⟩⟩,fun e1=>⟨fun e3=>⟨fun e4=>⟨fun e5=>hF ?_,fun e5=>hN ?_⟩,fun e4=>hN ?_⟩,fun e3=>hN ?_⟩⟩
 all_goals (try rw[<-aN (by omega)]at e2)
 all_goals (rw[e1];(try rw[e2]);(try rw[e3]);(try rw[e4]);(try rw[e5]);first|rfl|simp)
theorem Pa{S:Nat->Prop}{h:Heap}{g:Sl}{aD:List (List Int)}(G:bF S h g aD)(a b:Int):pO Tryz.prog 217 #[.agg #[g.v],VI a,VI b] h (VB (Iy aD a b)):=by
 intro K HK
 unfold Iy at HK
 refine ahL g a b h K fun b1 h1 dM f1 bG=> ?_
 have f1:=f1.aF
 refine aS fL (fun k=>h1.size<=k) (fun _ h=>h) 2 (by omega) [VI a,VI b] rfl rfl fun t h2 n2 c2 o2 f2 m2 _=>⟨t,rfl,bG.aB f2,?_⟩
 have o2:aP (fun k=>h1.size<=k) h2 t [a,b]:=o2.fa
 have f12:=f1.aA f2
 have bP:=bG.aB f2
 refine sx (G.no f12) o2 _ fun h3 f3=>⟨_,rfl,bP.aB f3,fun e=> ?_,fun e=> ?_⟩
 all_goals simp only[List.all_cons,List.all_nil,Bool.and_true]at e
 all_goals have f13:=f12.aA f3
 ·have e:=aY e
  have:lG aD a b=false:=by unfold lG;rw[Bool.and_assoc (aM aD),e];rfl
  rw[this,Bool.false_and]at HK
  exact HK h3 f13
 have e:=aV e
 refine⟨fun e2=> ?_,fun e2=> ?_⟩
 ·have:lG aD a b=false:=by unfold lG;rw[e2,Bool.not_true,Bool.and_false]
  rw[this,Bool.false_and]at HK
  exact HK h3 f13
 have hgo:lG aD a b=true:=by unfold lG;rw[Bool.and_assoc (aM aD),e,e2];rfl
 obtain⟨hg,⟨a0,a1⟩,⟨b0,b1⟩,eA⟩:=Iz hgo
 rw[hgo,Bool.true_and]at HK
 refine⟨fun n i h'=>0<=i/\i+n=(aD.length:Int)/\(∀q:Nat,(q:Int)<i->CY aD a b q=true)/\Fr No h h',⟨aD.length,by omega,by omega,fun q hq=>by omega,f13⟩,?_⟩
 rintro n i h4 ⟨i0,i1,i2,f4⟩ dN
 have G4:=G.no f4
 refine⟨fun e3=> ?_,fun e3=> ?_⟩
 ·have hi:=G4.lt e3
  have ei:((i.toNat:Nat):Int)=i:=by omega
  obtain⟨si,ci,ri⟩:=G4.get i0 hi
  have eg:aD.getD i.toNat []=aD[i.toNat]'(by omega):=aR (by omega)
  have ln:=ri.len
  refine⟨G4.bB i0 hi,si,ci,Bg G4 hg i0 hi _ fun t h5 o5 hl f5=>⟨t,rfl,dN.aB f5,?_⟩⟩
  have r5:aP _ h5 t _:=Ow.fa o5
  have f45:=f4.aA f5
  have key:∀v,(!(decide ((gr aD i)[a.toNat]'(by omega)<0)&&decide ((gr aD i).getD b.toNat 0<0))&& !((!decide (i=a)&& !decide (i=b))&&decide ((si.n:Int)=0)))=v->CY aD a b i.toNat=v:=fun v hv=>by
   rw[<-hv]
   unfold CY qm
   rw[ei,eg,aN (show a.toNat<(gr aD i).length by omega),show decide ((aD[i.toNat]'(by omega)).length=0)=decide ((si.n:Int)=0)from decide_eq_decide.2 ⟨fun _=>by omega,fun _=>by omega⟩]
  refine⟨r5.bB a0 (by omega),_,r5.get a0 (by omega),FW r5 b0 (by omega) (fun hq=> ?_) fun hq=> ?_⟩
  ·rw[KL (by omega) (key _ hq)]at HK
   exact HK h5 f45
  ·rw[G4.succ i0 hi]
   refine⟨n-1,by omega,by omega,by omega,fun q h2=> ?_,f45⟩
   by_cases h3:(q:Int)<i
   ·exact i2 q h3
   ·rw[show q=i.toNat by omega];exact key _ hq
 ·have hi:=G4.ge e3
  rw[FV fun p hp=>i2 p (by omega)]at HK
  exact HK h4 f4
theorem Ma{S:Nat->Prop}{h:Heap}{g:Sl}{aD:List (List Int)}(G:bF S h g aD)(a b:Int):pO Tryz.prog 232 #[.agg #[g.v],VI a,VI b] h (VB (lG aD a b)):=by
 intro K HK
 refine v232 g a b h K fun b1 h1 dM f1 bG=> ?_
 have f1:=f1.aF
 refine cR (G.no f1) a _ fun h2 f2=>⟨_,rfl,bG.aB f2,fun e=> ?_,fun e=> ?_⟩
 ·refine cR (G.no (f1.aA f2)) b _ fun h3 f3=>⟨_,rfl,(bG.aB f2).aB f3,fun e2=> ?_,fun e2=> ?_⟩
  ·unfold lG at HK
   rw[e]at HK
   rw[Bool.and_eq_true]at e2
   rw[e2.2]at HK
   exact HK h3 ((f1.aA f2).aA f3)
  ·unfold lG at HK
   rw[Bool.and_eq_true]at e
   rw[e.1,Bool.true_and]at e2
   rw[e2,Bool.and_false,Bool.false_and]at HK
   exact HK h3 ((f1.aA f2).aA f3)
 ·unfold lG at HK
  rw[e]at HK
  exact HK h2 (f1.aA f2)
theorem SQ{S:Nat->Prop}{h:Heap}{g:Sl}{aD:List (List Int)}(G:bF S h g aD){a b:Int}(hgo:lG aD a b=true):pO Tryz.prog 233 #[.agg #[g.v],VI a,VI b] h (VB (OW aD a b)):=by
 intro K HK
 obtain⟨hg,⟨a0,a1⟩,⟨b0,b1⟩,eA⟩:=Iz hgo
 refine v233 g a b h K fun b1 h1 dM f1 bG=> ?_
 have f1:=f1.aF
 refine⟨fun n i h'=>0<=i/\i+n=(aD.length:Int)/\(∀q:Nat,(q:Int)<i->CY aD a b q=true)/\Fr No h h',⟨aD.length,by omega,by omega,fun q hq=>by omega,f1⟩,?_⟩
 rintro n i h4 ⟨i0,i1,i2,f4⟩ dN
 have G4:=G.no f4
 refine⟨fun e3=> ?_,fun e3=> ?_⟩
 ·have hi:=G4.lt e3
  have ei:((i.toNat:Nat):Int)=i:=by omega
  obtain⟨si,ci,ri⟩:=G4.get i0 hi
  have eg:aD.getD i.toNat []=aD[i.toNat]'(by omega):=aR (by omega)
  have ln:=ri.len
  refine⟨G4.bB i0 hi,si,ci,Kc G4 hg i0 hi _ fun t h5 o5 hl f5=>⟨t,rfl,dN.aB f5,?_⟩⟩
  have r5:aP _ h5 t _:=Ow.fa o5
  have f45:=f4.aA f5
  have key:∀v,(!(decide ((gr aD i)[a.toNat]'(by omega)<0)&&decide ((gr aD i).getD b.toNat 0<0))&& !((!decide (i=a)&& !decide (i=b))&&decide ((si.n:Int)=0)))=v->CY aD a b i.toNat=v:=fun v hv=>by
   rw[<-hv]
   unfold CY qm
   rw[ei,eg,aN (show a.toNat<(gr aD i).length by omega),show decide ((aD[i.toNat]'(by omega)).length=0)=decide ((si.n:Int)=0)from decide_eq_decide.2 ⟨fun _=>by omega,fun _=>by omega⟩]
  refine⟨r5.bB a0 (by omega),_,r5.get a0 (by omega),FW r5 b0 (by omega) (fun hq=> ?_) fun hq=> ?_⟩
  ·rw[KL (by omega) (key _ hq)]at HK
   exact HK h5 f45
  ·rw[G4.succ i0 hi]
   refine⟨n-1,by omega,by omega,by omega,fun q h2=> ?_,f45⟩
   by_cases h3:(q:Int)<i
   ·exact i2 q h3
   ·rw[show q=i.toNat by omega];exact key _ hq
 ·have hi:=G4.ge e3
  rw[FV fun p hp=>i2 p (by omega)]at HK
  exact HK h4 f4
theorem Pb{S:Nat->Prop}{h:Heap}{g:Sl}{aD:List (List Int)}(G:bF S h g aD)(a b:Int):pO Tryz.prog 185 #[.agg #[g.v],VI a,VI b] h (VB (Iy aD a b)):=by
 intro K HK
 unfold Iy at HK
 refine ag3 g a b h K fun b1 h1 dM f1 bG=> ?_
 have f1:=f1.aF
 refine Ma (G.no f1) a b _ fun h2 f2=>⟨_,rfl,bG.aB f2,fun e=> ?_,fun e=> ?_⟩
 ·rw[e,Bool.true_and]at HK
  exact SQ (G.no (f1.aA f2)) e _ fun h3 f3=>⟨_,rfl,(bG.aB f2).aB f3,HK h3 ((f1.aA f2).aA f3)⟩
 ·rw[e,Bool.false_and]at HK
  exact HK h2 (f1.aA f2)
def dT(ps:List Nat)(p:Nat)(l:List Int)(L:Int):List Int:=ps.map fun q:Nat=>(if q=p then L else 0)-fh q l
theorem cQ(ps:List Nat)(p:Nat)(l:List Int)(L:Int):(dT ps p l L).length=ps.length:=by unfold dT;rw[List.length_map]
theorem fx{ps:List Nat}{p:Nat}{l:List Int}{L:Int}{j:Nat}(h:j<(dT ps p l L).length):(dT ps p l L)[j]=(if ps[j]'(by rw[cQ]at h;exact h)=p then L else 0)-fh (ps[j]'(by rw[cQ]at h;exact h):Nat) l:=by simp[dT]
theorem IB(ps:List Nat)(p:Nat):dT ps p [] 0=List.replicate ps.length 0:=by
 apply List.ext_getElem (by rw[cQ,List.length_replicate])
 intro j h1 h2
 rw[fx h1,List.getElem_replicate,fh]
 split<;>rfl
theorem CZ{ps:List Nat}(nd:ps.Nodup){i j:Nat}(hi:i<ps.length)(hj:j<ps.length)(h:ps[i]=ps[j]):i=j:=by
 have hp:=List.pairwise_iff_getElem.1 nd
 rcases Nat.lt_trichotomy i j with a|a|a
 ·exact absurd h (hp i j hi hj a)
 ·exact a
 ·exact absurd h.symm (hp j i hj hi a)
theorem IC{ps:List Nat}(nd:ps.Nodup){p:Nat}{l:List Int}{L x:Int}{i:Nat}(hi:i<ps.length)(e:((ps[i]:Nat):Int)=x):dT ps p (l++[x]) L=(dT ps p l L).set i ((dT ps p l L).getD i 0-1):=by
 have hl:i<(dT ps p l L).length:=by rw[cQ];exact hi
 have hd:=aN hl
 rw[fx hl]at hd
 rw[hd]
 apply List.ext_getElem (by rw[List.length_set,cQ,cQ])
 intro j h1 h2
 have hj:j<(dT ps p l L).length:=by rw[cQ]at h1⊢;exact h1
 have Ft:j<ps.length:=by rw[cQ]at hj;exact hj
 rw[fx h1,List.getElem_set,kT,fx hj]
 simp only[fh]
 by_cases c:i=j
 ·subst c
  rw[if_pos (show i=i from rfl),if_pos (show x=((ps[i]:Nat):Int)from e.symm)];omega
 ·rw[if_neg (show¬i=j from c),if_neg (show¬x=((ps[j]:Nat):Int)from fun h=>c (CZ nd hi Ft (by omega)))];omega
theorem yq{ps:List Nat}{p:Nat}{l:List Int}{L x:Int}(h:∀q,q∈ps->((q:Nat):Int)≠x):dT ps p (l++[x]) L=dT ps p l L:=by
 unfold dT
 refine List.map_congr_left fun q hq=> ?_
 have hz:(if x=(q:Int)then(1:Int)else 0)=0:=if_neg fun e=>h q hq e.symm
 rw[kT]
 simp only[fh]
 rw[hz];omega
theorem Mb{ps:List Nat}(nd:ps.Nodup){l:List Int}{L:Int}{i:Nat}(hi:i<ps.length):dT ps ps[i] l L=(dT ps ps[i] l 0).set i ((dT ps ps[i] l 0).getD i 0+L):=by
 have hl:i<(dT ps ps[i] l 0).length:=by rw[cQ];exact hi
 have hd:=aN hl
 rw[fx hl]at hd
 rw[hd]
 apply List.ext_getElem (by rw[List.length_set,cQ,cQ])
 intro j h1 h2
 have hj:j<(dT ps ps[i] l 0).length:=by rw[cQ]at h1⊢;exact h1
 have Ft:j<ps.length:=by rw[cQ]at hj;exact hj
 rw[fx h1,List.getElem_set,fx hj]
 by_cases c:i=j
 ·subst c
  rw[if_pos rfl,if_pos rfl,if_pos rfl];omega
 ·rw[if_neg c,if_neg fun h=>c (CZ nd hi Ft h.symm),if_neg fun h=>c (CZ nd hi Ft h.symm)]
def qD(g:List (List Int))(a b:Int):List (List Int):=(bS g.length a b).map fun p=>dT (bS g.length a b) p (g.getD p []) (g.getD p []).length
def FY(g:List (List Int))(a b:Int)(own:Int->Int)(A B:Int)(p:Nat):Int:=own p+A*fh a (g.getD p [])+B*fh b (g.getD p [])
def mM(g:List (List Int))(a b:Int)(own:Int->Int)(A B:Int):List Int:=(bS g.length a b).map (FY g a b own A B)
theorem j3(g:List (List Int))(a b:Int):(qD g a b).length=(bS g.length a b).length/\Sq (bS g.length a b).length (qD g a b):=by
 have e:(qD g a b).length=(bS g.length a b).length:=by unfold qD;rw[List.length_map]
 refine⟨e,e,fun i hi=> ?_⟩
 rw[show(qD g a b)[i]=_ from List.getElem_map _,cQ]
theorem C7(g:List (List Int))(a b:Int){i j:Nat}(hi:i<(bS g.length a b).length)(hj:j<(bS g.length a b).length):bV (qD g a b) i j=iF (gu g a b) i j:=by
 have hr:i<(qD g a b).length:=by rw[(j3 g a b).1];exact hi
 have er:(qD g a b)[i]=dT (bS g.length a b) (bS g.length a b)[i] (g.getD (bS g.length a b)[i] []) (g.getD (bS g.length a b)[i] []).length:=List.getElem_map _
 unfold bV iF
 rw[aR hr,er,aN (by rw[cQ];exact hj),fx (by rw[cQ];exact hj),(kW hi).2,(kW hj).1]
 congr 1
 by_cases e:i=j
 ·subst e;rw[if_pos rfl,if_pos rfl]
 ·rw[if_neg e,if_neg fun h=>e (CZ (CW _ _ _) hi hj h.symm)]
theorem uu{g:List (List Int)}(hg:aM g=true)(a b:Int):Small (bS g.length a b).length (bV (qD g a b)):=fun i j hi hj=>by
 rw[C7 g a b hi hj]
 unfold iF
 rw[(kW hi).2]
 have hp:=(eD.1 (List.getElem_mem hi)).1
 have hb:(g.getD (bS g.length a b)[i] []).length<=5:=by rw[aR hp];exact(aT hg (List.getElem_mem hp)).1
 have:=jr (nF (gu g a b) j) (g.getD (bS g.length a b)[i] [])
 split<;>omega
theorem KM(g:List (List Int))(a b:Int):cM (bS g.length a b).length (bV (qD g a b))=jT g a b:=dF fun i j hi hj=>C7 g a b hi hj
theorem mN(g:List (List Int))(a b:Int)(own:Int->Int)(A B:Int):(mM g a b own A B).length=(bS g.length a b).length:=by unfold mM;rw[List.length_map]
theorem sV(g:List (List Int))(a b:Int)(own:Int->Int)(A B:Int){i:Nat}(hi:i<(bS g.length a b).length):(mM g a b own A B).getD i 0=IA g a b own A B i:=by
 rw[aN (by rw[mN];exact hi)]
 refine(show(mM g a b own A B)[i]'(by rw[mN];exact hi)=FY g a b own A B (bS g.length a b)[i]from List.getElem_map _).trans ?_
 have e1:(bS g.length a b).getD i 0=(bS g.length a b)[i]:=by rw[List.getD_eq_getElem?_getD,List.getElem?_eq_getElem hi,Option.getD_some]
 unfold IA FY
 rw[e1]
theorem ID(g:List (List Int))(a b:Int)(own:Int->Int)(A B:Int)(k:Nat):cM (bS g.length a b).length (nH (bV (qD g a b)) k fun i=>(mM g a b own A B).getD i 0)=vE g a b own A B k:=by
 refine dF fun i j hi hj=> ?_
 unfold nH
 split
 ·exact sV g a b own A B hi
 ·exact C7 g a b hi hj
def sW(rows:List (List Int))(k:Nat)(r:List Int):List (List Int):=rows.zipIdx.map fun t=>t.1.set k (r.getD t.2 0)
theorem kX(rows:List (List Int))(k:Nat)(r:List Int):(sW rows k r).length=rows.length:=by unfold sW;rw[List.length_map,List.length_zipIdx]
theorem sX{rows:List (List Int)}{k:Nat}{r:List Int}{i:Nat}(hi:i<rows.length):(sW rows k r)[i]'(by rw[kX];exact hi)=rows[i].set k (r.getD i 0):=by
 refine(List.getElem_map (l:=rows.zipIdx) _ (h:=by rw[List.length_map,List.length_zipIdx];exact hi)).trans ?_
 rw[List.getElem_zipIdx]
 (try simp only[Nat.zero_add])
theorem KO{n:Nat}{rows:List (List Int)}(Q:Sq n rows)(k:Nat)(r:List Int):Sq n (sW rows k r):=⟨by rw[kX];exact Q.len,fun i hi=>by
 rw[kX]at hi
 rw[sX hi,List.length_set]
 exact Q.row i hi⟩
theorem FZ{n:Nat}{rows:List (List Int)}(Q:Sq n rows){k:Nat}{r:List Int}{i j:Nat}(hi:i<n)(hj:j<n):bV (sW rows k r) i j=nH (bV rows) k (fun i=>r.getD i 0) i j:=by
 have hl:=Q.len
 have gH:i<rows.length:=by omega
 have hr:=Q.row i gH
 have h1:i<(sW rows k r).length:=by rw[kX];exact gH
 have h2:j<((sW rows k r)[i]'h1).length:=by rw[sX gH,List.length_set,hr];exact hj
 rw[gD h1 h2]
 have:((sW rows k r)[i]'h1)[j]'h2=(rows[i].set k (r.getD i 0))[j]'(by rw[List.length_set,hr];exact hj):=by congr 1;exact sX gH
 rw[this,List.getElem_set]
 unfold nH
 by_cases e:k=j
 ·rw[if_pos e,if_pos e.symm]
 ·rw[if_neg e,if_neg fun h=>e h.symm,gD gH (by rw[hr];exact hj)]
theorem rf{n:Nat}{rows:List (List Int)}(Q:Sq n rows)(S:Small n (bV rows)){k:Nat}{r:List Int}(hr:∀i,i<n->(r.getD i 0).natAbs<=10):Small n (bV (sW rows k r)):=fun i j hi hj=>by
 rw[FZ Q hi hj]
 unfold nH
 split
 ·exact hr i hi
 ·exact S i j hi hj
theorem yt{n:Nat}{rows:List (List Int)}(Q:Sq n rows)(k:Nat)(r:List Int):cM n (bV (sW rows k r))=cM n (nH (bV rows) k fun i=>r.getD i 0):=dF fun i j hi hj=>FZ Q hi hj
theorem BG{rows:List (List Int)}{k:Nat}{r:List Int}{i:Nat}(hi:i<rows.length):(sW rows k r).take (i+1)=(sW rows k r).take i++[rows[i].set k (r.getD i 0)]:=by
 rw[List.take_succ_eq_append_getElem (by rw[kX];exact hi),sX hi]
def yu(g:List (List Int))(a b:Int)(own:Int->Int)(A B:Int)(k:Nat):List Int:=(List.range g.length).map fun q:Nat=>if(q:Int)=a then A*jT g a b else if(q:Int)=b then B*jT g a b else if(bS g.length a b).idxOf q<k then vE g a b own A B ((bS g.length a b).idxOf q)else 0
theorem kY(g:List (List Int))(a b:Int)(own:Int->Int)(A B:Int)(k:Nat):(yu g a b own A B k).length=g.length:=by unfold yu;rw[List.length_map,List.length_range]
theorem sY{g:List (List Int)}{a b:Int}{own:Int->Int}{A B:Int}{k q:Nat}(h:q<(yu g a b own A B k).length):(yu g a b own A B k)[q]=if(q:Int)=a then A*jT g a b else if(q:Int)=b then B*jT g a b else if(bS g.length a b).idxOf q<k then vE g a b own A B ((bS g.length a b).idxOf q)else 0:=by
 refine(List.getElem_map (l:=List.range g.length) _ (h:=h)).trans ?_
 rw[List.getElem_range]
theorem Mc{g:List (List Int)}{a b:Int}(own:Int->Int)(A B:Int)(a0:0<=a)(b0:0<=b)(eA:a≠b):yu g a b own A B 0=((List.replicate g.length 0).set a.toNat (A*jT g a b)).set b.toNat (B*jT g a b):=by
 apply List.ext_getElem (by rw[kY,List.length_set,List.length_set,List.length_replicate])
 intro q h1 h2
 rw[sY h1,List.getElem_set,List.getElem_set,List.getElem_replicate]
 by_cases ea:(q:Int)=a
 ·rw[if_pos ea,if_neg (by omega),if_pos (by omega)]
 ·rw[if_neg ea]
  by_cases eb:(q:Int)=b
  ·rw[if_pos eb,if_pos (by omega)]
  ·rw[if_neg eb,if_neg (by omega),if_neg (by omega),if_neg (by omega)]
theorem Md{g:List (List Int)}{a b:Int}(own:Int->Int)(A B:Int){k:Nat}(hk:k<(bS g.length a b).length):yu g a b own A B (k+1)=(yu g a b own A B k).set ((bS g.length a b)[k]) (vE g a b own A B k):=by
 apply List.ext_getElem (by rw[kY,List.length_set,kY])
 intro q h1 h2
 have h3:q<(yu g a b own A B k).length:=by rw[List.length_set]at h2;exact h2
 have hm:=eD.1 (List.getElem_mem hk)
 rw[sY h1,List.getElem_set,sY h3]
 by_cases e:(bS g.length a b)[k]=q
 ·rw[if_pos e,if_neg (by omega),if_neg (by omega)]
  subst e
  rw[CX hk,if_pos (by omega)]
 ·rw[if_neg e]
  by_cases ea:(q:Int)=a
  ·rw[if_pos ea,if_pos ea]
  ·rw[if_neg ea,if_neg ea]
   by_cases eb:(q:Int)=b
   ·rw[if_pos eb,if_pos eb]
   ·rw[if_neg eb,if_neg eb]
    have hq:q∈bS g.length a b:=eD.2 ⟨by rw[kY]at h3;exact h3,ea,eb⟩
    have hi:=List.idxOf_lt_length_iff.2 hq
    by_cases l:(bS g.length a b).idxOf q<k
    ·rw[if_pos l,if_pos (by omega)]
    ·rw[if_neg l,if_neg]
     intro h
     apply e
     have:(bS g.length a b).idxOf q=k:=by omega
     subst this
     exact List.getElem_idxOf hi
def C8(g:List (List Int))(a b:Int)(own:Int->Int)(A B:Int):List Int:=(List.range g.length).map fun q:Nat=>Ej g a b own A B q
theorem F0(g:List (List Int))(a b:Int)(own:Int->Int)(A B:Int):(C8 g a b own A B).length=g.length:=by unfold C8;rw[List.length_map,List.length_range]
theorem Ga{g:List (List Int)}{a b:Int}{own:Int->Int}{A B:Int}{q:Nat}(h:q<(C8 g a b own A B).length):(C8 g a b own A B)[q]=Ej g a b own A B q:=by
 refine(List.getElem_map (l:=List.range g.length) _ (h:=h)).trans ?_
 rw[List.getElem_range]
theorem Pc(g:List (List Int))(a b:Int)(own:Int->Int)(A B:Int):yu g a b own A B (bS g.length a b).length=C8 g a b own A B:=by
 apply List.ext_getElem (by rw[kY,F0])
 intro q h1 h2
 rw[sY h1,Ga h2]
 unfold Ej
 by_cases ea:(q:Int)=a
 ·rw[if_pos ea,if_pos ea]
 ·rw[if_neg ea,if_neg ea]
  by_cases eb:(q:Int)=b
  ·rw[if_pos eb,if_pos eb]
  ·rw[if_neg eb,if_neg eb,if_pos]
   ·rfl
   ·exact List.idxOf_lt_length_iff.2 (eD.2 ⟨by rw[kY]at h1;exact h1,ea,eb⟩)
theorem BH{g:List (List Int)}(hg:aM g=true){a b:Int}{own:Int->Int}{A B:Int}(hn:(bS g.length a b).length<=7)(hr:∀i,i<(bS g.length a b).length->(IA g a b own A B i).natAbs<=10)(k:Nat):(vE g a b own A B k).natAbs<=50400000000:=by
 rw[<-ID,<-yt (j3 g a b).2]
 refine Nat.le_trans (mG (rf (j3 g a b).2 (uu hg a b) fun i hi=>by rw[sV g a b own A B hi];exact hr i hi)) ?_
 exact Nat.le_trans (yb hn) (by rw[WV];exact Nat.le_refl _)
theorem Gb{n:Nat}{a b:Int}{i:Nat}(hi:(i:Nat)<n):bS (i+1) a b=if qm a b i then bS i a b++[i]else bS i a b:=by
 unfold bS
 rw[List.range_succ,List.filter_append]
 cases h:qm a b i with
 |true=>rw[if_pos rfl,List.filter_cons_of_pos h,List.filter_nil]
 |false=>rw[if_neg (by decide),List.filter_cons_of_neg (by rw[h];decide),List.filter_nil,List.append_nil]
theorem nI{ps:List Nat}{i:Nat}(h:i<(ps.map fun p:Nat=>(p:Int)).length):(ps.map fun p:Nat=>(p:Int))[i]=((ps[i]'(by rw[List.length_map]at h;exact h):Nat):Int):=List.getElem_map _
theorem gW(x y:Int)(l:List Int):fh x (l++[y])=fh x l+(if y=x then 1 else 0):=by rw[kT];simp only[fh];omega
theorem pt{l:List Int}{a:Int}(h:l.length<=5)(j:Nat):0<=fh a (l.take j)/\fh a (l.take j)<=5:=by
 have:=jr a (l.take j)
 rw[List.length_take]at this
 omega
theorem Pd{A o:Int}(hA:A=0\/A=1)(h0:0<=o)(h5:o<=5):0<=A*o/\A*o<=5:=by
 rcases hA with rfl|rfl<;>omega
set_option maxHeartbeats 4000000 in
theorem Xb{h h8:Heap}{g Me rt inner:Sl}{aD:List (List Int)}{a b:Int}(C:Can aD a b){own:Int->Int}{A B:Int}(hA:A=0\/A=1)(hB:B=0\/B=1)(hr:∀i,i<(bS aD.length a b).length->(IA aD a b own A B i).natAbs<=10)(gn:g.n=aD.length){b1:Nat}(g8:Fr No h h8)(fO:Vars h8 [(b1,[g.v])])
 (M8:bF (fun k=>k<h8.size) h8 Me (qD aD a b)) (R8:aP (fun k=>k<h8.size) h8 rt (mM aD a b own A B)) (I8:aP (fun k=>k<h8.size) h8 inner ((bS aD.length a b).map fun p:Nat=>(p:Int))) (K:Value->Heap->Prop) (HK:∀t h',bK h' (Iv h.size h'.size) t (C8 aD a b own A B)->Fr No h h'->K (.tuple #[t.v,VI (jT aD a b)]) h'):
 aE Tryz.prog 212 #[(Sl.v Me)] h8 fun acF SR=>∃uv:Int,acF=(VI uv)/\Vars SR [(b1,[(Sl.v g)])]/\
 kE Tryz.prog (Instr.makeSlice sv (VI (g.n:Int)) (VI (g.n:Int))) SR fun acG Gc=>∃iQ:Sl,acG=(Sl.v iQ)/\Vars Gc [(b1,[(Sl.v g)])]/\
 dW iQ a/\
 dI Gc (Sl.at iQ a 1)/\Vars (cK Gc (Sl.at iQ a 1) (VI (aL (A*uv)))) [(b1,[(Sl.v g)])]/\
 ∀uw:Heap,uw=cK Gc (Sl.at iQ a 1) (VI (aL (A*uv)))->Vars uw [(b1,[(Sl.v g)])]->
 dW iQ b/\
 dI uw (Sl.at iQ b 1)/\Vars (cK uw (Sl.at iQ b 1) (VI (aL (B*uv)))) [(b1,[(Sl.v g)])]/\
 ∀Pe:Heap,Pe=cK uw (Sl.at iQ b 1) (VI (aL (B*uv)))->Vars Pe [(b1,[(Sl.v g)])]->
 ∃OS:Nat->Int->Heap->Prop,(∃n0:Nat,OS n0 0 Pe)/\
 ∀(n_5:Nat)(l8:Int)(l9:Heap),OS n_5 l8 l9->Vars l9 [(b1,[(Sl.v g)])]->
 ((decide (l8<(inner.n:Int)))=true->
 dW inner l8/\
 ∃yv:Int,aQ l9 (Sl.at inner l8 1)=some (VI yv)/\
 kE Tryz.prog (Instr.buildSlice nZ 0 #[]) l9 fun acH C9=>∃Pf:Sl,acH=(Sl.v Pf)/\Vars C9 [(b1,[(Sl.v g)])]/\
 ∃WX:Nat->Sl->Int->Heap->Prop,(∃n0:Nat,WX n0 Pf 0 C9)/\
 ∀(n_6:Nat)(ux:Sl)(pu:Int)(Da:Heap),WX n_6 ux pu Da->Vars Da [(b1,[(Sl.v g)])]->
 ((decide (pu<(Me.n:Int)))=true->
 dW Me pu/\
 ∃Pg:Sl,aQ Da (Sl.at Me pu 1)=some (Sl.v Pg)/\
 aE Tryz.prog 152 #[(Sl.v Pg)] Da fun acI Db=>∃uy:Sl,acI=(Sl.v uy)/\Vars Db [(b1,[(Sl.v g)])]/\
 dW rt pu/\
 ∃IE:Int,aQ Db (Sl.at rt pu 1)=some (VI IE)/\
 dW uy l8/\
 dI Db (Sl.at uy l8 1)/\Vars (cK Db (Sl.at uy l8 1) (VI IE)) [(b1,[(Sl.v g)])]/\
 ∀sZ:Heap,sZ=cK Db (Sl.at uy l8 1) (VI IE)->Vars sZ [(b1,[(Sl.v g)])]->
 kE Tryz.prog (Instr.buildSlice nZ 1 #[(0,(Sl.v uy))]) sZ fun acJ ta=>∃Ph:Sl,acJ=(Sl.v Ph)/\Vars ta [(b1,[(Sl.v g)])]/\
 kE Tryz.prog (bR nZ nZ nZ (Sl.v ux) (Sl.v Ph)) ta fun acK yw=>∃Pj:Sl,acK=(Sl.v Pj)/\Vars yw [(b1,[(Sl.v g)])]/\
 ∃m:Nat,m<n_6/\WX m Pj (aL (pu+1)) yw)/\
 ((decide (pu<(Me.n:Int)))=false->
 aE Tryz.prog 212 #[(Sl.v ux)] Da fun acL Gd=>∃IF:Int,acL=(VI IF)/\Vars Gd [(b1,[(Sl.v g)])]/\
 dW iQ yv/\
 dI Gd (Sl.at iQ yv 1)/\Vars (cK Gd (Sl.at iQ yv 1) (VI IF)) [(b1,[(Sl.v g)])]/\
 ∀Dc:Heap,Dc=cK Gd (Sl.at iQ yv 1) (VI IF)->Vars Dc [(b1,[(Sl.v g)])]->
 ∃m:Nat,m<n_5/\OS m (aL (l8+1)) Dc))/\
 ((decide (l8<(inner.n:Int)))=false->
 K (Value.tuple #[(Sl.v iQ),(VI uv)]) l9):=by
 have hg:=C.bE
 have gl:=aO hg
 have il:=sU C.a0 C.a1 C.b0 C.b1 C.ne
 have l1:b1<h8.size:=fO.head.lt
 have tL:∀{F:Nat->Prop},(∀k,F k->h8.size<=k)->∀p,p∈[(b1,[g.v])]->¬F p.1:=fun hF p hp hk=>by
  simp only[List.mem_cons,List.not_mem_nil,or_false]at hp
  subst hp
  have:=hF _ hk
  (try simp only at this)
  omega
 have Ol:∀q,q∈bS aD.length a b->q<aD.length:=fun q hq=>(eD.1 hq).1
 have hQ:=(j3 aD a b).2
 have hS:=uu hg a b
 have hDe:=KM aD a b
 have hCe:=ID aD a b own A B
 have hz0:=Mc (g:=aD) own A B C.a0 C.b0 C.ne
 have Ni:=fun k hk=>Md (g:=aD) (a:=a) (b:=b) own A B (k:=k) hk
 have Wy:=Pc aD a b own A B
 have hRb:∀i,i<(bS aD.length a b).length->((mM aD a b own A B).getD i 0).natAbs<=10:=fun i hi=>by rw[sV aD a b own A B hi];exact hr i hi
 have dn:=C.den
 have ml:=(j3 aD a b).1
 have rl:=mN aD a b own A B
 generalize bS aD.length a b=ps at*
 have U7:(ps.map fun p:Nat=>(p:Int)).length=ps.length:=List.length_map _
 have hQ':Sq (qD aD a b).length (qD aD a b):=by rw[ml];exact hQ
 have hS':Small (qD aD a b).length (bV (qD aD a b)):=by rw[ml];exact hS
 refine lY M8 hQ' (by omega) hS' _ fun Hf f22=>⟨_,rfl,fO.aB f22,?_⟩
 rw[ml,hDe]
 have z22:=f22.size
 refine dK fL (fun k=>Hf.size<=k) (fun _ h=>h) .i64 .i64 g.n g.n (Nat.le_refl _) (by omega) fun t Mf n23 c23 o23 f23 m23 _=>⟨t,rfl,(fO.aB f22).aB f23,?_⟩
 have z23:=f23.size
 have SS:=(fO.aB f22).aB f23
 have o23:bK Mf (Iv Hf.size Mf.size) t (List.replicate aD.length 0):=by
  have e:(List.replicate g.n [VI 0]).flatten=(List.replicate aD.length (0:Int)).map VI:=by rw[gn];simp[List.flatten_replicate_singleton]
  rw[e]at o23;exact Ow.gf o23
 have Xc:∀p,p∈[(b1,[g.v])]->¬Iv Hf.size Mf.size p.1:=tL fun k hk=>by have:=hk.1;omega
 refine gq o23 C.a0 (by rw[List.length_replicate];exact C.a1) SS Xc _ fun h24 o24 f24 V24=> ?_
 refine gq o24 C.b0 (by rw[List.length_set,List.length_replicate];exact C.b1) V24 Xc _ fun Ka o25 f25 V25=> ?_
 have wd:∀X:Int,X=0\/X=1->aL (X*jT aD a b)=X*jT aD a b:=fun X hX=>aH _ (by rcases hX with rfl|rfl<;>omega) (by rcases hX with rfl|rfl<;>omega)
 rw[wd A hA,wd B hB,<-hz0]at o25
 have acM:=f24.trans f25
 have M23:bF (fun k=>k<Hf.size) Mf Me (qD aD a b):=((M8.no f22).no f23).mono fun k hk=>by omega
 have R23:aP (fun k=>k<Hf.size) Mf rt (mM aD a b own A B):=((R8.no f22).no f23).mono fun k hk=>by omega
 have I23:aP (fun k=>k<Hf.size) Mf inner (ps.map fun p:Nat=>(p:Int)):=((I8.no f22).no f23).mono fun k hk=>by omega
 refine⟨fun m k h'=>0<=k/\k+m=(ps.length:Int)/\bK h' (Iv Hf.size Mf.size) t (yu aD a b own A B k.toNat)/\Fr (fun q=>Hf.size<=q) Mf h',⟨ps.length,Int.le_refl _,by omega,o25,acM.mono fun q _ hq=>hq.1⟩,?_⟩
 rintro m3 k vy ⟨k0,k1,o26,f26⟩ tY
 have z26:=f26.size
 have g26:Fr No h vy:=(((g8.aA f22).aA f23)).fresh f26 fun q hq=>by have:=g8.size;omega
 have Pk:∀{T:Nat->Prop}{x y:Heap},Fr T x y->(∀q,T q->Hf.size<=q)->∀q,q<Hf.size->¬T q:=fun _ hT q hq hk=>by have:=hT q hk;omega
 have M26:=M23.fr f26 (Pk f26 fun q hq=>hq)
 have R26:=R23.fr f26 (Pk f26 fun q hq=>hq)
 have I26:=I23.fr f26 (Pk f26 fun q hq=>hq)
 refine⟨fun e3=> ?_,fun e3=> ?_⟩
 ·have hk:=I26.lt e3
  have QU:k.toNat<ps.length:=by omega
  have cI:=I26.get k0 hk
  rw[nI]at cI
  have hpm:=List.getElem_mem QU
  have IG:=Ol _ hpm
  have Xd:=Ni k.toNat QU
  refine⟨I26.bB k0 hk,_,cI,?_⟩
  refine aS qg (fun q=>vy.size<=q) (fun _ h=>h) 0 (by omega) [] rfl rfl fun ot R9 n27 c27 Oi f27 m27 _=>⟨ot,rfl,tY.aB f27,?_⟩
  have ajH:fM R9 (fun q=>vy.size<=q) ot []:=⟨[],rfl,Oi,fun i h1=>by simp at h1,fun i j h1=>by simp at h1,fun i h1=>by simp at h1⟩
  refine⟨fun m x i h'=>0<=i/\i+m=(ps.length:Int)/\fM h' (fun q=>vy.size<=q) x ((sW (qD aD a b) k.toNat (mM aD a b own A B)).take i.toNat)/\Fr (fun q=>vy.size<=q) vy h',⟨ps.length,Int.le_refl _,by omega,ajH,f27.aB⟩,?_⟩
  rintro m4 x i h28 ⟨i0,i1,o28,f28⟩ Mg
  have z28:=f28.size
  have M28:=M26.fr f28 (Pk f28 fun q hq=>by omega)
  have R28:=R26.fr f28 (Pk f28 fun q hq=>by omega)
  refine⟨fun e4=> ?_,fun e4=> ?_⟩
  ·have hi:=M28.lt e4
   obtain⟨si,ci,ri⟩:=M28.get i0 hi
   have ajI:=hQ'.row i.toNat (by omega)
   refine⟨M28.bB i0 hi,si,ci,wx ri (by omega) _ fun t2 h29 o29 f29=>⟨t2,rfl,Mg.aB f29,?_⟩⟩
   have R29:=R28.no f29
   have z29:=f29.size
   refine⟨R29.bB i0 (by omega),_,R29.get i0 (by omega),gq (o29.mono (F':=fun q=>h28.size<=q) fun q _ hq=>hq.1) k0 (by omega) (Mg.aB f29) (tL fun q hq=>by omega) _ fun h30 o30 f30 V30=> ?_⟩
   have z30:=f30.size
   refine jN (lo:=vy.size) (m:=h28.size) (dD.fr (dD.gf o28) (f29.aB.trans f30) fun q _ hq gN=>by have:=hq.2;omega) o30 z28 (by omega) V30 (fun p hp=>by simp only[List.mem_cons,List.not_mem_nil,or_false]at hp;subst hp;show b1<vy.size;omega) (by rw[List.length_take];omega) _ fun t3 Wq o32 f32 V32=> ?_
   rw[M28.succ i0 hi]
   refine⟨m4-1,by omega,by omega,by omega,?_,((f28.trans f29.aB).trans (f30.mono fun q _ hq=>by omega)).trans f32⟩
   rw[show(i+1).toNat=i.toNat+1 by omega,BG (by omega),aN (by omega)]
   exact o32
  ·have hi:=M28.ge e4
   have pl:=kX (qD aD a b) k.toNat (mM aD a b own A B)
   rw[List.take_of_length_le (by omega)]at o28
   have Qp:=KO hQ k.toNat (mM aD a b own A B)
   have Sp:=rf hQ hS (k:=k.toNat) hRb
   have dp:=yt hQ k.toNat (mM aD a b own A B)
   rw[hCe]at dp
   refine lY (dD.rd o28) (by rw[pl,ml];exact Qp) (by omega) (by rw[pl,ml];exact Sp) _ fun h33 f33=>⟨_,rfl,Mg.aB f33,?_⟩
   rw[pl,ml,dp]
   have U8:=f28.trans f33.aB
   have o33:bK h33 (Iv Hf.size Mf.size) t (yu aD a b own A B k.toNat):=o26.fr U8 fun q hq gN=>by have:=(o26.aG hq).1.2;omega
   refine gq o33 (i:=((ps[k.toNat]' QU:Nat):Int)) (by omega) (by rw[kY];omega) (Mg.aB f33) Xc _ fun h34 o34 f34 V34=> ?_
   rw[I26.succ k0 hk]
   refine⟨m3-1,by omega,by omega,by omega,?_,(f26.trans (U8.mono fun q _ hq=>by omega)).trans (f34.mono fun q _ hq=>hq.1)⟩
   rw[show(k+1).toNat=k.toNat+1 by omega,Xd]
   simp only[Int.toNat_natCast]at o34
   exact o34
 ·have hk:=I26.ge e3
  rw[show k.toNat=ps.length by omega,Wy]at o26
  exact HK t vy (o26.mono fun q _ hq=>⟨by have:=hq.1;have:=g8.size;omega,by have:=hq.2;omega⟩) g26
set_option maxHeartbeats 4000000 in
theorem Pl{S:Nat->Prop}{h:Heap}{g:Sl}{aD:List (List Int)}(G:bF S h g aD){a b:Int}(C:Can aD a b)(ow:Value)(own:Int->Int){A B:Int}(hA:A=0\/A=1)(hB:B=0\/B=1)(hw:∀p:Nat,0<=own p/\own p<=5)(hr:∀i,i<(bS aD.length a b).length->(IA aD a b own A B i).natAbs<=10)
 (hO:∀(p:Nat)(h':Heap)(K':Value->Heap->Prop),p<aD.length->Fr No h h'->K' (VI (own p)) h'->fD Tryz.prog ow [VI p] h' K') (K:Value->Heap->Prop) (HK:∀t h',bK h' (Iv h.size h'.size) t (C8 aD a b own A B)->Fr No h h'->K (.tuple #[t.v,VI (jT aD a b)]) h'):aE Tryz.prog 261 #[.agg #[g.v],VI a,VI b,ow,VI A,VI B] h K:=by
 have hg:=C.bE
 have gl:=aO hg
 have eA:=C.ne
 have il:=sU C.a0 C.a1 C.b0 C.b1 C.ne
 refine aix g a b ow A B h K fun b1 h1 dM f1 bG=> ?_
 have f1:=f1.aF
 have z1:=f1.size
 have l1:b1<h1.size:=bG.head.lt
 have tL:∀{F:Nat->Prop},(∀k,F k->h1.size<=k)->∀p,p∈[(b1,[g.v])]->¬F p.1:=fun hF p hp hk=>by
  simp only[List.mem_cons,List.not_mem_nil,or_false]at hp
  subst hp
  have:=hF _ hk
  (try simp only at this)
  omega
 refine aS fL (fun k=>h1.size<=k) (fun _ h=>h) 0 (by omega) [] rfl rfl fun u h2 n2 c2 o2 f2 m2 _=>⟨u,rfl,bG.aB f2,?_⟩
 refine⟨fun m x p h'=>0<=p/\p+m=(aD.length:Int)/\bK h' (fun k=>h1.size<=k) x ((bS p.toNat a b).map fun p:Nat=>(p:Int))/\Fr (fun k=>h1.size<=k) h1 h',⟨aD.length,Int.le_refl _,by omega,o2,f2.aB⟩,?_⟩
 rintro m inner p h3 ⟨p0,p1,o3,f3⟩ cF
 have g3:=f1.fresh f3 fun k hk=>by omega
 have gn:=G.len
 refine⟨fun e=> ?_,fun e=> ?_⟩
 ·have hp:=G.lt e
  have eit:=Gb (a:=a) (b:=b) (show p.toNat<p.toNat+1 by omega)
  rw[G.succ p0 hp]
  have next:qm a b p.toNat=false->∃m':Nat,m'<m/\0<=p+1/\p+1+m'=(aD.length:Int)/\bK h3 (fun k=>h1.size<=k) inner ((bS (p+1).toNat a b).map fun p:Nat=>(p:Int))/\Fr (fun k=>h1.size<=k) h1 h3:=fun hi=>by
   rw[show(p+1).toNat=p.toNat+1 by omega,eit,hi]
   exact⟨m-1,by omega,by omega,by omega,o3,f3⟩
  refine⟨fun e2=>⟨fun e3=> ?_,fun e3=>next ?_⟩,fun e2=>next ?_⟩
  ·have e2:=aY e2
   have e3:=aY e3
   simp only[decide_eq_false_iff_not]at e2 e3
   have hi:qm a b p.toNat=true:=kV.2 ⟨by omega,by omega⟩
   refine sJ (lo:=h1.size) o3 f3.size cF (fun p hp=>by simp only[List.mem_cons,List.not_mem_nil,or_false]at hp;subst hp;exact l1) (by rw[List.length_map];unfold bS;have:=List.length_filter_le (qm a b) (List.range p.toNat);rw[List.length_range]at this;omega) _ fun t h4 o4 f4 V4=> ?_
   refine⟨m-1,by omega,by omega,by omega,?_,f3.trans f4⟩
   rw[show(p+1).toNat=p.toNat+1 by omega,eit,hi,if_pos rfl,List.map_append,List.map_cons,List.map_nil,Int.toNat_of_nonneg p0]
   exact o4
  ·have e3:=aV e3
   simp only[decide_eq_true_eq]at e3
   exact Bool.eq_false_iff.2 fun h=>(kV.1 h).2 (by omega)
  ·have e2:=aV e2
   simp only[decide_eq_true_eq]at e2
   exact Bool.eq_false_iff.2 fun h=>(kV.1 h).1 (by omega)
 have hp:=G.ge e
 rw[show p.toNat=aD.length by omega]at o3
 have rI:aP (fun k=>k<h3.size) h3 inner ((bS aD.length a b).map fun p:Nat=>(p:Int)):=aP.low o3.fa
 have qj:∀q,q∈bS aD.length a b->(q:Int)≠a/\(q:Int)≠b:=fun q hq=>(eD.1 hq).2
 have Ol:∀q,q∈bS aD.length a b->q<aD.length:=fun q hq=>(eD.1 hq).1
 have hMg:∀(i:Nat)(h:i<(bS aD.length a b).length),(qD aD a b).getD i []=dT (bS aD.length a b) (bS aD.length a b)[i] (aD.getD (bS aD.length a b)[i] []) (aD.getD (bS aD.length a b)[i] []).length:=fun i h=>(aR (by rw[(j3 aD a b).1];exact h)).trans (List.getElem_map _)
 have hRg:∀(i:Nat)(h:i<(bS aD.length a b).length),(mM aD a b own A B).getD i 0=FY aD a b own A B (bS aD.length a b)[i]:=fun i h=>(aN (by rw[mN];exact h)).trans (List.getElem_map _)
 have dn:=C.den
 have ml:=(j3 aD a b).1
 have rl:=mN aD a b own A B
 have hr':∀i,i<(bS aD.length a b).length->(IA aD a b own A B i).natAbs<=10:=hr
 clear hr
 generalize Pm:bS aD.length a b=ps at qj Ol hMg hRg il ml rl o3 rI
 have nd:ps.Nodup:=by rw[<-Pm];exact CW _ _ _
 have z3:=f3.size
 refine aS qg (fun k=>h3.size<=k) (fun _ h=>h) 0 (by omega) [] rfl rfl fun m0 h6 n6 c6 o6 f6 m6 _=>⟨m0,rfl,cF.aB f6,?_⟩
 refine aS fL (fun k=>h6.size<=k) (fun _ h=>h) 0 (by omega) [] rfl rfl fun r0 h7 n7 c7 o7 f7 m7 _=>⟨r0,rfl,(cF.aB f6).aB f7,?_⟩
 have z6:=f6.size
 have z7:=f7.size
 refine⟨fun m Me rt i h'=>0<=i/\i+m=(ps.length:Int)/\fM h' (fun k=>h3.size<=k/\¬rt.own k) Me ((qD aD a b).take i.toNat)/\bK h' (fun k=>h3.size<=k) rt ((mM aD a b own A B).take i.toNat)/\Fr (fun k=>h3.size<=k) h3 h',⟨ps.length,Int.le_refl _,by omega,⟨[],rfl,(o6.no f7).mono fun k hk hF=>⟨hF,fun hr=> ?_⟩,fun i h1=>by simp at h1,fun i j h1=>by simp at h1,fun i h1=>by simp at h1⟩,o7.mono fun k _ hk=>by omega,f6.aB.trans f7.aB⟩,?_⟩
 ·have h1:=(o6.aG hk).2
  have h2:=(o7.aG hr).1
  (try simp only at h2)
  omega
 rintro m Me rt i h8 ⟨i0,i1,om,or',f8⟩ fO
 have g8:=(g3.fresh f8 fun k hk=>by have:=g3.size;omega)
 have z8:=f8.size
 have Xe:=rI.fr f8 fun k hk aI=>by omega
 have U7:(ps.map fun p:Nat=>(p:Int)).length=ps.length:=List.length_map _
 refine⟨fun e2=> ?_,fun e2=> ?_⟩
 ·have hi:=Xe.lt e2
  have gH:i.toNat<ps.length:=by omega
  have cI:=Xe.get i0 hi
  rw[nI]at cI
  have hpm:=List.getElem_mem gH
  have IG:=Ol _ hpm
  have gN:=qj _ hpm
  generalize hP:ps[i.toNat]' gH=P at cI hpm IG gN
  have mi:Me.n=i.toNat:=by have:=om.len;rw[List.length_take]at this;omega
  refine⟨Xe.bB i0 hi,_,cI,?_⟩
  have U9:inner.n=ps.length:=by have:=rI.len;rw[U7]at this;exact this
  have gm:=aT hg (List.getElem_mem IG)
  have eg:aD.getD P []=aD[P]:=aR IG
  refine⟨fun x s h'=>bK h' (fun k=>h8.size<=k) x (List.replicate ps.length 0)/\s=own P/\Fr No h8 h',⟨?_,?_⟩,?_⟩
  ·refine dK fL (fun k=>h8.size<=k) (fun _ h=>h) .i64 .i64 inner.n inner.n (Nat.le_refl _) (by omega) fun t h9 n9 c9 o9 f9 m9 _=>⟨t,rfl,fO.aB f9,?_⟩
   refine hO P h9 _ IG (g8.aA f9) ⟨_,rfl,fO.aB f9,?_,rfl,f9⟩
   have e:(List.replicate inner.n [VI 0]).flatten=(List.replicate ps.length (0:Int)).map VI:=by rw[U9];simp[List.flatten_replicate_singleton]
   rw[e]at o9;exact o9
  ·refine hO P h8 _ IG g8 ⟨_,rfl,fO,?_⟩
   refine dK fL (fun k=>h8.size<=k) (fun _ h=>h) .i64 .i64 inner.n inner.n (Nat.le_refl _) (by omega) fun t h9 n9 c9 o9 f9 m9 _=>⟨t,rfl,fO.aB f9,?_,rfl,f9⟩
   have e:(List.replicate inner.n [VI 0]).flatten=(List.replicate ps.length (0:Int)).map VI:=by rw[U9];simp[List.flatten_replicate_singleton]
   rw[e]at o9;exact o9
  rintro x s sD ⟨L6,rfl,f13⟩ Oc
  have G8:=G.no g8
  obtain⟨sp,cp8,rp8⟩:=G8.get (i:=(P:Int)) (by omega) (by omega)
  simp only[Int.toNat_natCast]at rp8
  have ln:=rp8.len
  have cpk:∀{h':Heap},Fr (fun k=>h8.size<=k) h8 h'->aQ h' (g.at (P:Int) 1)=some sp.v:=fun f=>dJ cp8 f (by have:=mh cp8;omega)
  have bB:=G8.bB (i:=(P:Int)) (by omega) (by omega)
  refine⟨bB,sp,cpk f13.aB,?_⟩
  rw[<-IB ps P]at L6
  refine⟨fun m2 s j h'=>0<=j/\j+m2=(aD[P].length:Int)/\s=own P+A*fh a (aD[P].take j.toNat)+B*fh b (aD[P].take j.toNat)/\bK h' (fun k=>h8.size<=k) x (dT ps P (aD[P].take j.toNat) 0)/\Fr (fun k=>h8.size<=k) h8 h',⟨aD[P].length,Int.le_refl _,by omega,by simp[fh],by simpa using L6,f13.aB⟩,?_⟩
  rintro m2 s j Xf ⟨j0,j1,rfl,Xg,f14⟩ Pn
  have Po:=rp8.low.fr f14 fun k hk aI=>by omega
  have wP:=hw P
  have oa:=Pd hA (pt gm.1 j.toNat).1 (pt (a:=a) gm.1 j.toNat).2
  have ob:=Pd hB (pt gm.1 j.toNat).1 (pt (a:=b) gm.1 j.toNat).2
  have MH:=cQ ps P (aD[P].take j.toNat) 0
  refine⟨fun e3=> ?_,fun e3=> ?_⟩
  ·have hj:=Po.lt e3
   have hv:=gm.2 _ (List.getElem_mem (show j.toNat<aD[P].length by omega))
   have hc:=Po.get j0 hj
   have tk:aD[P].take (j+1).toNat=_:=eB _ j0 hj
   generalize aD[P][j.toNat]'(by omega)=v at hv hc tk
   rw[Po.succ j0 hj]
   have nxt:∀(s':Int)(h':Heap),s'=own P+A*fh a (aD[P].take (j+1).toNat)+B*fh b (aD[P].take (j+1).toNat)->bK h' (fun k=>h8.size<=k) x (dT ps P (aD[P].take (j+1).toNat) 0)->Fr (fun k=>h8.size<=k) h8 h'->∃m':Nat,m'<m2/\0<=j+1/\j+1+m'=(aD[P].length:Int)/\s'=own P+A*fh a (aD[P].take (j+1).toNat)+B*fh b (aD[P].take (j+1).toNat)/\bK h' (fun k=>h8.size<=k) x (dT ps P (aD[P].take (j+1).toNat) 0)/\Fr (fun k=>h8.size<=k) h8 h':=fun s' h' a1 a2 a3=>⟨m2-1,by omega,by omega,by omega,a1,a2,a3⟩
   refine⟨Po.bB j0 hj,_,hc,fun e4=> ?_,fun e4=>⟨fun e5=> ?_,fun e5=> ?_⟩⟩
   ·simp only[decide_eq_true_eq]at e4
    refine nxt _ _ ?_ ?_ f14
    ·rw[tk,gW,gW,if_pos e4,if_neg (by omega),aH _ (by omega) (by omega),Int.mul_add,Int.mul_one,Int.add_zero]
     omega
    ·rw[tk,yq fun q hq=>by rw[e4];exact(qj q hq).1]
     exact Xg
   ·simp only[decide_eq_true_eq,decide_eq_false_iff_not]at e4 e5
    refine nxt _ _ ?_ ?_ f14
    ·rw[tk,gW,gW,if_neg e4,if_pos e5,aH _ (by omega) (by omega),Int.mul_add B,Int.mul_one,Int.add_zero]
     omega
    ·rw[tk,yq fun q hq=>by rw[e5];exact(qj q hq).2]
     exact Xg
   ·simp only[decide_eq_false_iff_not]at e4 e5
    have ajL:=Xe.fr f14 fun k hk aI=>by omega
    refine xU ajL v _ (fun hn=>absurd ?_ hn) fun q hq ev _=>⟨_,rfl,Pn,?_⟩
    ·rw[List.mem_map]
     exact⟨v.toNat,by rw[<-Pm];exact eD.2 ⟨by omega,by omega,by omega⟩,by omega⟩
    rw[U7]at hq
    rw[aN (by rw[U7];exact hq),nI]at ev
    have Vb:=Xg.fa
    have hql:q<(dT ps P (aD[P].take j.toNat) 0).length:=by rw[MH];exact hq
    refine⟨aP.bB Vb (by omega) (by omega),_,aP.get Vb (i:=(q:Int)) (by omega) (by omega),gq (F:=fun k=>h8.size<=k) Xg (i:=(q:Int)) (by omega) (by omega) Pn (tL fun k hk=>by omega) _ fun Mh o16 f16 V16=> ?_⟩
    refine nxt _ _ ?_ ?_ (f14.trans f16)
    ·rw[tk,gW,gW,if_neg e4,if_neg e5,Int.add_zero,Int.add_zero]
    ·rw[tk,IC nd hq ev,aN hql]
     simp only[Int.toNat_natCast]at o16
     have hb:aL ((dT ps P (aD[P].take j.toNat) 0)[q]-1)=(dT ps P (aD[P].take j.toNat) 0)[q]-1:=by
      rw[fx]
      have:=pt (a:=((ps[q]:Nat):Int)) gm.1 j.toNat
      exact aH _ (by split<;>omega) (by split<;>omega)
     rw[hb]at o16
     exact o16
  ·have hj:=Po.ge e3
   rw[List.take_of_length_le (by omega)]at Xg oa ob MH
   have Vb:=Xg.fa
   have U3:i.toNat<(dT ps P aD[P] 0).length:=by rw[MH];exact gH
   have mI:(Me.n:Int)=i:=by omega
   rw[mI,List.take_of_length_le (by omega)]
   refine⟨aP.bB Vb i0 (by omega),_,aP.get Vb i0 (by omega),bB,sp,cpk f14,gq (F:=fun k=>h8.size<=k) Xg i0 (by omega) Pn (tL fun k hk=>by omega) _ fun Xh o17 f17 V17=> ?_⟩
   have acj:(dT ps P aD[P] 0).set i.toNat (aL ((dT ps P aD[P] 0)[i.toNat]' U3+(sp.n:Int)))=dT ps P (aD.getD P []) (aD.getD P []).length:=by
    have h1:=Mb (l:=aD[P]) (L:=(aD[P].length:Int)) nd gH
    rw[hP]at h1
    rw[eg,h1,aN U3]
    congr 1
    rw[fx]
    have:=pt (a:=((ps[i.toNat]:Nat):Int)) gm.1 aD[P].length
    rw[List.take_length]at this
    have:=gm.1
    exact(aH _ (by split<;>omega) (by split<;>omega)).trans (by omega)
   rw[acj]at o17
   have Pp:=f14.trans f17
   have z17:=Pp.size
   have aqd:=dD.fr om Pp fun k hk _ aI=>by omega
   have Xi:(qD aD a b).take (i+1).toNat=(qD aD a b).take i.toNat++[dT ps P (aD.getD P []) (aD.getD P []).length]:=by
    rw[show(i+1).toNat=i.toNat+1 by omega,List.take_succ_eq_append_getElem (by omega)]
    rw[<-aR (by omega),hMg i.toNat gH,hP]
   have Xj:(mM aD a b own A B).take (i+1).toNat=(mM aD a b own A B).take i.toNat++[own P+A*fh a aD[P]+B*fh b aD[P]]:=by
    rw[show(i+1).toNat=i.toNat+1 by omega,List.take_succ_eq_append_getElem (by omega),<-aN (by omega),hRg i.toNat gH,hP]
    unfold FY
    rw[eg]
   have rtl:∀{k},rt.own k->k<h8.size:=fun hk=>(or'.aG hk).2
   refine sK (F:=fun k=>h3.size<=k/\¬rt.own k) (m:=h8.size) (dD.fr (om.mono fun k hk hF=>(⟨hF,hk⟩:(h3.size<=k/\¬rt.own k)/\k<h8.size)) Pp fun k _ hk aI=>by have:=hk.2;omega) o17 (fun k hk=>⟨by omega,fun aI=>by have:=rtl aI;omega⟩) z17 V17 (tL (F:=fun k=>h3.size<=k/\¬rt.own k) fun k hk=>by have:=hk.1;omega) (by rw[List.length_take];omega) _ fun t KP o19 f19 V19=> ?_
   have z19:=f19.size
   have ajO:=or'.fr Pp fun k hk aI=>by have:=rtl hk;omega
   have acU:=ajO.fr f19 fun k hk aI=>aI.2 hk
   refine aS fL (fun k=>KP.size<=k) (fun _ h=>h) 1 (by omega) [VI (own P+A*fh a aD[P]+B*fh b aD[P])] rfl rfl fun u2 h20 n20 c20 o20 f20 m20 _=>⟨u2,rfl,V19.aB f20,?_⟩
   have z20:=f20.size
   have ru:aP (fun k=>KP.size<=k) h20 u2 [own P+A*fh a aD[P]+B*fh b aD[P]]:=o20.fa
   refine bQ fL (acU.no f20) (fun k hk=>by omega) ru (ff _) (by have h1:=aP.len acU.fa;have h2:=ru.len;simp at h1 h2;omega) fun y Xk n21 o21 f21 d21=>⟨y,rfl,(V19.aB f20).fr f21 (fun q hq hk=>tL (F:=fun k=>h1.size<=k) (fun k hk=>hk) q hq (by have:=(or'.aG hk).1;omega)),?_⟩
   rw[Xe.succ i0 hi]
   (try simp only)
   rw[Xi,Xj]
   refine⟨m-1,by omega,by omega,by omega,?_,by show Ow _ _ _ _ _ _;rw[List.map_append];exact o21,((f8.trans (Pp.mono fun k _ hk=>by omega)).trans (f19.mono fun k _ hk=>hk.1)).trans (f20.aB.trans (f21.mono fun k _ hk=>(or'.aG hk).1))⟩
   refine(dD.fr (dD.no (o19.mono fun k hk hF=>(⟨hF,hk⟩:(h3.size<=k/\¬rt.own k)/\k<KP.size)) f20) f21 fun k _ hk aI=>hk.1.2 aI).mono fun k _ hF=>⟨hF.1.1,fun aI=> ?_⟩
   rcases d21 k aI with hd|hd
   ·exact hF.1.2 hd
   ·have:=hF.2
    omega
 ·have hi:=Xe.ge e2
  have gH:i.toNat=ps.length:=by omega
  rw[List.take_of_length_le (by omega)]at om or'
  have M8:bF (fun k=>k<h8.size) h8 Me (qD aD a b):=(dD.rd om).mono fun k hk=>hk.2
  have R8:aP (fun k=>k<h8.size) h8 rt (mM aD a b own A B):=aP.low or'.fa
  have I8:aP (fun k=>k<h8.size) h8 inner (ps.map fun p:Nat=>(p:Int)):=Xe.mono fun k hk=>by omega
  rw[<-Pm]at I8
  exact Xb C hA hB hr' gn g8 fO M8 R8 I8 K HK
theorem SU{full:List Int}{m j:Nat}(h:j<m)(hl:full.length=m):(full.take j++(List.replicate m (0:Int)).drop j).set j 0=full.take j++(List.replicate m (0:Int)).drop j:=by
 rw[List.set_append_right _ _ (by rw[List.length_take];omega),List.length_take,show j-min j full.length=0 by omega,List.drop_replicate]
 obtain⟨d,hd⟩:∃d,m-j=d+1:=⟨m-j-1,by omega⟩
 rw[hd,List.replicate_succ]
 rfl
set_option maxHeartbeats 4000000 in
theorem IH{S:Nat->Prop}{h:Heap}{g:Sl}{aD:List (List Int)}(G:bF S h g aD)(hg:aM aD=true)(a b:Int)(K:Value->Heap->Prop)(HK:∀t u h',aP (fun k=>k<h'.size) h' t ((bS aD.length a b).map fun p:Nat=>(p:Int))->bF (fun k=>k<h'.size) h' u (qD aD a b)->Fr No h h'->K (.tuple #[t.v,u.v]) h'):aE Tryz.prog 234 #[.agg #[g.v],VI a,VI b] h K:=by
 have gl:=aO hg
 refine v234 g a b h K fun b1 h1 dM f1 bG=> ?_
 have f1:=f1.aF
 have z1:=f1.size
 have l1:b1<h1.size:=bG.head.lt
 have gn:=G.len
 refine⟨fun m x p h'=>0<=p/\p+m=(aD.length:Int)/\bK h' (fun k=>h1.size<=k) x ((bS p.toNat a b).map fun p:Nat=>(p:Int))/\Fr (fun k=>h1.size<=k) h1 h',⟨aD.length,Int.le_refl _,by omega,Ow.nil _ _ _ _,Fr.refl _ _⟩,?_⟩
 rintro m pl p h3 ⟨p0,p1,o3,f3⟩ cF
 have g3:=f1.fresh f3 fun k hk=>by omega
 refine⟨fun e=> ?_,fun e=> ?_⟩
 ·have hp:=G.lt e
  have eit:=Gb (a:=a) (b:=b) (show p.toNat<p.toNat+1 by omega)
  rw[G.succ p0 hp]
  have next:qm a b p.toNat=false->∃m':Nat,m'<m/\0<=p+1/\p+1+m'=(aD.length:Int)/\bK h3 (fun k=>h1.size<=k) pl ((bS (p+1).toNat a b).map fun p:Nat=>(p:Int))/\Fr (fun k=>h1.size<=k) h1 h3:=fun hi=>by
   rw[show(p+1).toNat=p.toNat+1 by omega,eit,hi]
   exact⟨m-1,by omega,by omega,by omega,o3,f3⟩
  refine⟨fun e2=>⟨fun e3=> ?_,fun e3=>next ?_⟩,fun e2=>next ?_⟩
  ·have e2:=aY e2
   have e3:=aY e3
   simp only[decide_eq_false_iff_not]at e2 e3
   have hi:qm a b p.toNat=true:=kV.2 ⟨by omega,by omega⟩
   refine sJ (lo:=h1.size) o3 f3.size cF (fun p hp=>by simp only[List.mem_cons,List.not_mem_nil,or_false]at hp;subst hp;exact l1) (by rw[List.length_map];unfold bS;have:=List.length_filter_le (qm a b) (List.range p.toNat);rw[List.length_range]at this;omega) _ fun t h4 o4 f4 V4=> ?_
   refine⟨m-1,by omega,by omega,by omega,?_,f3.trans f4⟩
   rw[show(p+1).toNat=p.toNat+1 by omega,eit,hi,if_pos rfl,List.map_append,List.map_cons,List.map_nil,Int.toNat_of_nonneg p0]
   exact o4
  ·have e3:=aV e3
   simp only[decide_eq_true_eq]at e3
   exact Bool.eq_false_iff.2 fun h=>(kV.1 h).2 (by omega)
  ·have e2:=aV e2
   simp only[decide_eq_true_eq]at e2
   exact Bool.eq_false_iff.2 fun h=>(kV.1 h).1 (by omega)
 have hp:=G.ge e
 rw[show p.toNat=aD.length by omega]at o3
 have z3:=f3.size
 have rI:aP (fun k=>k<h3.size) h3 pl ((bS aD.length a b).map fun p:Nat=>(p:Int)):=aP.low o3.fa
 have Ol:∀q,q∈bS aD.length a b->q<aD.length:=fun q hq=>(eD.1 hq).1
 have hMg:∀(i:Nat)(h:i<(bS aD.length a b).length),(qD aD a b).getD i []=dT (bS aD.length a b) (bS aD.length a b)[i] (aD.getD (bS aD.length a b)[i] []) (aD.getD (bS aD.length a b)[i] []).length:=fun i h=>(aR (by rw[(j3 aD a b).1];exact h)).trans (List.getElem_map _)
 have ml:=(j3 aD a b).1
 have ajP:(bS aD.length a b).length<=8:=by unfold bS;have:=List.length_filter_le (qm a b) (List.range aD.length);rw[List.length_range]at this;omega
 generalize Pm:bS aD.length a b=ps at Ol hMg ml o3 rI ajP
 have U7:(ps.map fun p:Nat=>(p:Int)).length=ps.length:=List.length_map _
 have pn:pl.n=ps.length:=by have:=rI.len;rw[U7]at this;exact this
 refine⟨fun m x i h'=>0<=i/\i+m=(ps.length:Int)/\fM h' (fun k=>h3.size<=k) x ((qD aD a b).take i.toNat)/\Fr (fun k=>h3.size<=k) h3 h',⟨ps.length,Int.le_refl _,by omega,dD.nil _ _ _ _,Fr.refl _ _⟩,?_⟩
 rintro m2 x i h5 ⟨i0,i1,o5,f5⟩ ic
 have z5:=f5.size
 have g5:=g3.fresh f5 fun k hk=>by have:=g3.size;omega
 have Xl:=rI.fr f5 fun k hk aI=>by omega
 refine⟨fun e2=> ?_,fun e2=> ?_⟩
 ·have hi:=Xl.lt e2
  have gH:i.toNat<ps.length:=by omega
  have cI:=Xl.get i0 hi
  rw[nI]at cI
  have IG:=Ol _ (List.getElem_mem gH)
  have hMi:=hMg i.toNat gH
  generalize ps[i.toNat]' gH=P at cI IG hMi
  have gm:=aT hg (List.getElem_mem IG)
  have eg:aD.getD P []=aD[P]:=aR IG
  rw[eg]at hMi
  have G5:=G.no g5
  obtain⟨sp,cp5,rp5⟩:=G5.get (i:=(P:Int)) (by omega) (by omega)
  simp only[Int.toNat_natCast]at rp5
  have ln:=rp5.len
  have cpk:∀{h':Heap},Fr (fun k=>h5.size<=k) h5 h'->aQ h' (g.at (P:Int) 1)=some sp.v:=fun f=>dJ cp5 f (by have:=mh cp5;omega)
  have bB:=G5.bB (i:=(P:Int)) (by omega) (by omega)
  have fl:=cQ ps P aD[P] (aD[P].length:Int)
  have fg:∀j(h:j<ps.length),(dT ps P aD[P] (aD[P].length:Int))[j]'(by rw[fl];exact h)=(if ps[j]=P then(aD[P].length:Int)else 0)-fh (ps[j]:Nat) aD[P]:=fun j h=>fx _
  generalize hF:dT ps P aD[P] (aD[P].length:Int)=F at hMi fl fg
  refine⟨Xl.bB i0 hi,_,cI,?_⟩
  refine dK fL (fun k=>h5.size<=k) (fun _ h=>h) .i64 .i64 pl.n pl.n (Nat.le_refl _) (by omega) fun t h6 n6 c6 o6 f6 m6 _=>⟨t,rfl,ic.aB f6,?_⟩
  have o6:bK h6 (fun k=>h5.size<=k) t (List.replicate ps.length 0):=by
   have e:(List.replicate pl.n [VI 0]).flatten=(List.replicate ps.length (0:Int)).map VI:=by rw[pn];simp[List.flatten_replicate_singleton]
   rw[e]at o6;exact o6
  have off:∀p,p∈[(b1,[g.v])]->¬h5.size<=p.1:=fun p hp=>by
   simp only[List.mem_cons,List.not_mem_nil,or_false]at hp
   subst hp
   show¬h5.size<=b1
   omega
  refine⟨fun m j h'=>0<=j/\j+m=(ps.length:Int)/\bK h' (fun k=>h5.size<=k) t (F.take j.toNat++(List.replicate ps.length (0:Int)).drop j.toNat)/\Fr (fun k=>h5.size<=k) h5 h',⟨ps.length,Int.le_refl _,by omega,by simpa using o6,f6.aB⟩,?_⟩
  rintro m3 j h7 ⟨j0,j1,o7,f7⟩ j8
  have rI7:=Xl.fr f7 fun k hk aI=>by omega
  have tl:(F.take j.toNat++(List.replicate ps.length (0:Int)).drop j.toNat).length=ps.length:=by rw[List.length_append,List.length_take,List.length_drop,List.length_replicate];omega
  refine⟨fun e3=> ?_,fun e3=> ?_⟩
  ·have hj:=rI7.lt e3
   have Ft:j.toNat<ps.length:=by omega
   have cJ:=rI7.get j0 hj
   rw[nI]at cJ
   have hFj:=fg j.toNat Ft
   generalize ps[j.toNat]' Ft=Q at cJ hFj
   have mz:=SU Ft fl
   generalize hT:F.take j.toNat++(List.replicate ps.length (0:Int)).drop j.toNat=T at o7 tl mz
   have jl:j<(T.length:Int):=by omega
   have Vc:∀{v:Int}(h:j.toNat<(T.set j.toNat v).length),(T.set j.toNat v)[j.toNat]'h=v:=fun h=>by rw[List.getElem_set];exact if_pos rfl
   refine⟨rI7.bB j0 hj,_,cJ,?_⟩
   refine⟨fun h'=>bK h' (fun k=>h5.size<=k) t (T.set j.toNat (if Q=P then(aD[P].length:Int)else 0))/\Fr (fun k=>h5.size<=k) h5 h',⟨fun e4=> ?_,fun e4=> ?_⟩,?_⟩
   ·simp only[decide_eq_true_eq]at e4
    have R7:=o7.fa
    have hz:T[j.toNat]'(by omega)=0:=by
     have:=Vc (v:=0) (by rw[List.length_set];omega)
     rw[<-this]
     congr 1
     exact mz.symm
    refine⟨aP.bB R7 j0 jl,_,aP.get R7 j0 jl,bB,sp,cpk f7,gq (F:=fun k=>h5.size<=k) o7 j0 jl j8 off _ fun h8 o8 f8 V8=>⟨?_,f7.trans f8⟩⟩
    rw[if_pos (by omega)]
    rw[hz,aH _ (by omega) (by omega),Int.zero_add,ln]at o8
    exact o8
   ·simp only[decide_eq_false_iff_not]at e4
    refine⟨?_,f7⟩
    rw[if_neg (by omega),mz]
    exact o7
   rintro h9 ⟨o9,f9⟩ gh
   refine⟨bB,sp,cpk f9,?_⟩
   refine⟨fun m q h'=>0<=q/\q+m=(aD[P].length:Int)/\bK h' (fun k=>h5.size<=k) t (T.set j.toNat ((if Q=P then(aD[P].length:Int)else 0)-fh (Q:Int) (aD[P].take q.toNat)))/\Fr (fun k=>h5.size<=k) h5 h',⟨aD[P].length,Int.le_refl _,by omega,by simpa[fh]using o9,f9⟩,?_⟩
   rintro m4 q dY ⟨q0,q1,mV,f10⟩ dP
   have Pq:=rp5.low.fr f10 fun k hk aI=>by omega
   refine⟨fun e5=> ?_,fun e5=> ?_⟩
   ·have hq:=Pq.lt e5
    have hc:=Pq.get q0 hq
    have tk:aD[P].take (q+1).toNat=_:=eB _ q0 hq
    have so:=pt (a:=(Q:Int)) gm.1 q.toNat
    generalize aD[P][q.toNat]'(by omega)=v at hc tk
    rw[Pq.succ q0 hq]
    refine⟨Pq.bB q0 hq,_,hc,fun e6=> ?_,fun e6=> ?_⟩
    ·simp only[decide_eq_true_eq]at e6
     have R10:=mV.fa
     have sl:(T.set j.toNat ((if Q=P then(aD[P].length:Int)else 0)-fh (Q:Int) (aD[P].take q.toNat))).length=T.length:=List.length_set
     refine⟨aP.bB R10 j0 (by omega),_,aP.get R10 j0 (by omega),gq (F:=fun k=>h5.size<=k) mV j0 (by omega) dP off _ fun ie lV f11 V11=> ?_⟩
     refine⟨m4-1,by omega,by omega,by omega,?_,f10.trans f11⟩
     rw[tk,gW,if_pos e6]
     rw[List.set_set,Vc,aH _ (by split<;>omega) (by split<;>omega)]at lV
     rw[show∀x y:Int,x-(y+1)=x-y-1 by omega]
     exact lV
    ·simp only[decide_eq_false_iff_not]at e6
     refine⟨m4-1,by omega,by omega,by omega,?_,f10⟩
     rw[tk,gW,if_neg e6,Int.add_zero]
     exact mV
   ·have hq:=Pq.ge e5
    rw[List.take_of_length_le (by omega),<-hFj,<-hT]at mV
    have sm:=rV F (List.replicate ps.length (0:Int)) j.toNat (by omega) (by rw[List.length_replicate];omega)
    rw[sm]at mV
    rw[rI7.succ j0 hj]
    refine⟨m3-1,by omega,by omega,by omega,?_,f10⟩
    rw[show(j+1).toNat=j.toNat+1 by omega]
    exact mV
  ·have hj:=rI7.ge e3
   rw[List.take_of_length_le (by omega),List.drop_eq_nil_of_le (by rw[List.length_replicate];omega),List.append_nil]at o7
   have z7:=f7.size
   refine jN (lo:=h3.size) (m:=h5.size) (dD.fr (dD.gf o5) f7 fun k _ hk aI=>by have:=hk.2;omega) o7 z5 z7 j8 (fun p hp=>by simp only[List.mem_cons,List.not_mem_nil,or_false]at hp;subst hp;show b1<h3.size;omega) (by rw[List.length_take];omega) _ fun t2 iu Ob f12 V12=> ?_
   rw[Xl.succ i0 hi]
   refine⟨m2-1,by omega,by omega,by omega,?_,(f5.trans (f7.mono fun k _ hk=>by omega)).trans f12⟩
   rw[show(i+1).toNat=i.toNat+1 by omega,List.take_succ_eq_append_getElem (by omega),<-aR (by omega),hMi]
   exact Ob
 ·have hi:=Xl.ge e2
  rw[List.take_of_length_le (by omega)]at o5
  rw[Pm]at HK
  exact HK pl x h5 (Xl.mono fun k hk=>by omega) ((dD.rd o5).mono fun k hk=>hk.2) g5
def II(rows:List (List Int))(r:List Int):List Int:=(List.range rows.length).map fun j=>cM rows.length (nH (bV rows) j fun i=>r.getD i 0)
set_option maxHeartbeats 2000000 in
theorem Mi{S S2:Nat->Prop}{h:Heap}{m r:Sl}{rows:List (List Int)}{rs:List Int}(M:bF S h m rows)(R:aP S2 h r rs)(hl:rs.length=rows.length)(Q:Sq rows.length rows)(hn:rows.length<=7)(hb:Small rows.length (bV rows))(hr:∀i,i<rows.length->(rs.getD i 0).natAbs<=10)(K:Value->Heap->Prop)(HK:∀t h',aP (fun k=>k<h'.size) h' t (II rows rs)->Fr No h h'->K (.tuple #[t.v,VI (cM rows.length (bV rows))]) h'):aE Tryz.prog 235 #[m.v,r.v] h K:=by
 refine ah7 m r h K ?_
 refine wL rows.length M Q hn hb _ fun h1 f1=>⟨_,rfl,.nil,?_⟩
 have M1:=M.low.no f1
 have R1:=aP.low R|>.no f1
 have z1:=f1.size
 have sl:(II rows rs).length=rows.length:=by unfold II;rw[List.length_map,List.length_range]
 refine⟨fun n x k h'=>0<=k/\k+n=(rows.length:Int)/\bK h' (fun q=>h1.size<=q) x ((II rows rs).take k.toNat)/\Fr (fun q=>h1.size<=q) h1 h',⟨rows.length,Int.le_refl _,by omega,Ow.nil _ _ _ _,Fr.refl _ _⟩,?_⟩
 rintro n x k h2 ⟨k0,k1,o2,f2⟩ bP
 have M2:=M1.fr f2 fun q hq gN=>by omega
 have R2:=R1.fr f2 fun q hq gN=>by omega
 have z2:=f2.size
 refine⟨fun e=> ?_,fun e=> ?_⟩
 ·have hk:=M2.lt e
  refine⟨fun n x i h'=>0<=i/\i+n=(rows.length:Int)/\fM h' (fun q=>h2.size<=q) x ((sW rows k.toNat rs).take i.toNat)/\Fr (fun q=>h2.size<=q) h2 h',⟨rows.length,Int.le_refl _,by omega,dD.nil _ _ _ _,Fr.refl _ _⟩,?_⟩
  rintro n2 y i h3 ⟨i0,i1,o3,f3⟩ cF
  have M3:=M2.fr f3 fun q hq gN=>by omega
  have R3:=R2.fr f3 fun q hq gN=>by omega
  have z3:=f3.size
  refine⟨fun e2=> ?_,fun e2=> ?_⟩
  ·have hi:=M3.lt e2
   obtain⟨si,ci,ri⟩:=M3.get i0 hi
   have ajI:=Q.row i.toNat (by omega)
   refine⟨M3.bB i0 hi,si,ci,lE ri (by omega) _ fun t2 h4 o4 f4=>⟨t2,rfl,.nil,?_⟩⟩
   have R4:=R3.no f4
   have z4:=f4.size
   refine⟨R4.bB i0 (by omega),_,R4.get i0 (by omega),gq (o4.mono (F':=fun q=>h3.size<=q) fun q _ hq=>hq.1) k0 (by omega) .nil (fun p hp=>by simp at hp) _ fun h5 o5 f5 V5=> ?_⟩
   have z5:=f5.size
   refine jN (lo:=h2.size) (m:=h3.size) (dD.fr (dD.gf o3) (f4.aB.trans f5) fun q _ hq gN=>by have:=hq.2;omega) o5 z3 (by omega) .nil (fun p hp=>by simp at hp) (by rw[List.length_take];omega) _ fun t3 h6 o6 f6 V6=> ?_
   rw[M3.succ i0 hi]
   refine⟨n2-1,by omega,by omega,by omega,?_,((f3.trans f4.aB).trans (f5.mono fun q _ hq=>by omega)).trans f6⟩
   rw[show(i+1).toNat=i.toNat+1 by omega,BG (by omega),aN (by omega)]
   exact o6
  ·have hi:=M3.ge e2
   have pl:=kX rows k.toNat rs
   rw[List.take_of_length_le (by omega)]at o3
   refine wL rows.length (dD.rd o3) (KO Q k.toNat rs) hn (rf Q hb hr) _ fun h4 f4=>⟨_,rfl,.nil,?_⟩
   rw[yt Q]
   have f24:=f3.trans f4.aB
   have z4:=f24.size
   refine sJ (lo:=h1.size) ((Ow.gf o2).fr f24 (fun q hq gN=>by have:=(o2.aG hq).2;omega)|>.mono fun q _ hq=>hq.1) (by omega) .nil (fun p hp=>by simp at hp) (by rw[List.length_take];omega) _ fun t5 h5 o5 f5 V5=> ?_
   rw[M2.succ k0 hk]
   refine⟨n-1,by omega,by omega,by omega,?_,(f2.trans (f24.mono fun q _ hq=>by omega)).trans f5⟩
   rw[show(k+1).toNat=k.toNat+1 by omega,List.take_succ_eq_append_getElem (by omega)]
   have:(II rows rs)[k.toNat]'(by omega)=cM rows.length (nH (bV rows) k.toNat fun i=>rs.getD i 0):=by
    refine(List.getElem_map (l:=List.range rows.length) _ (h:=by rw[List.length_map,List.length_range];omega)).trans ?_
    rw[List.getElem_range]
   rw[this]
   exact o5
 ·have hk:=M2.ge e
  rw[List.take_of_length_le (by omega)]at o2
  exact HK x h2 (aP.low o2.fa) (f1.fresh f2 fun q hq=>by omega)
abbrev qn:=Int×Int
def qo:List qn->List Value
 |[]=>[]
 |r::l=>VI r.1::VI r.2::qo l
theorem td:∀l:List qn,(qo l).length=l.length*2
 |[]=>rfl
 |r::l=>by rw[qo,List.length_cons,List.length_cons,td l,List.length_cons];omega
theorem Ge:∀(l:List qn)(i:Nat)(h:i<l.length),(qo l)[i*2]?=some (VI l[i].1)/\(qo l)[i*2+1]?=some (VI l[i].2)
 |r::l,0,_=>⟨rfl,rfl⟩
 |r::l,i+1,h=>by
  have:=Ge l i (by simpa using h)
  rw[qo,show(i+1)*2=i*2+1+1 by omega]
  simpa using this
theorem Gf:∀(l:List qn)(i:Nat)(x y:Int),((qo l).set (i*2) (VI x)).set (i*2+1) (VI y)=qo (l.set i (x,y))
 |[],i,x,y=>by simp[qo]
 |r::l,0,x,y=>by simp[qo]
 |r::l,i+1,x,y=>by
  rw[qo,show(i+1)*2=i*2+1+1 by omega,List.set_cons_succ,List.set_cons_succ,List.set_cons_succ,List.set_cons_succ,Gf l i x y,List.set_cons_succ,qo]
@[reducible] def OwQ(h:Heap)(F:Nat->Prop)(s:Sl)(l:List qn):Prop:=Ow h F tR 2 s (qo l)
def Hg(S:Nat->Prop)(h:Heap)(s:Sl)(l:List qn):Prop:=cY S h 2 s (qo l)
theorem Hg.len{S:Nat->Prop}{h:Heap}{s:Sl}{l:List qn}(H:Hg S h s l):s.n=l.length:=by
 have:=cY.len H
 rw[td]at this
 omega
theorem Hg.get{S:Nat->Prop}{h:Heap}{s:Sl}{l:List qn}(H:Hg S h s l){i:Int}(h0:0<=i)(h1:i<(l.length:Int)):dW s i/\lz h (s.at i 2) [VI (l[i.toNat]'(by omega)).1,VI (l[i.toNat]'(by omega)).2]:=by
 have hl:=Hg.len H
 have hn:=td l
 obtain⟨g1,g2⟩:=Ge l i.toNat (by omega)
 obtain⟨a,ha,_,c1⟩:=cY.cell H (i.toNat*2) (by omega)
 obtain⟨a',Ha,_,c2⟩:=cY.cell H (i.toNat*2+1) (by omega)
 rw[ha]at Ha
 obtain rfl:a=a':=by simpa using Ha
 rw[List.getElem?_eq_getElem (by omega)]at g1 g2
 rw[Option.some.inj g1]at c1
 rw[Option.some.inj g2]at c2
 refine⟨⟨by simp[ha],h0,by omega⟩,fun j hj=> ?_⟩
 have Ry:s.at i 2=a.add (i.toNat*2):=by simp[Sl.at,ha]
 rw[Ry,xk]
 match j,hj with
 |0,_=>exact c1
 |1,_=>simpa using c2
theorem Hg.fr{S T:Nat->Prop}{h h':Heap}{s:Sl}{l:List qn}(H:Hg S h s l)(hf:Fr T h h')(hd:∀k,S k->¬T k):Hg S h' s l:=cY.fr H hf hd
theorem Hg.no{S:Nat->Prop}{h h':Heap}{s:Sl}{l:List qn}(H:Hg S h s l)(hf:Fr No h h'):Hg S h' s l:=cY.no H hf
theorem Hg.low{S:Nat->Prop}{h:Heap}{s:Sl}{l:List qn}(H:Hg S h s l):Hg (fun k=>k<h.size) h s l:=(cY.lt H).mono fun _ h=>h.2
theorem Pr:ly Tryz.prog tR=some 2:=by kernel_rfl
theorem Dd{L:List (Nat×List Value)}{F:Nat->Prop}{h:Heap}{s:Sl}{l:List qn}{i:Int}{x y:Int}(O:OwQ h F s l)(h0:0<=i)(h1:i<(l.length:Int))(hL:Vars h L)(tZ:∀p,p∈L->¬F p.1)(R:Heap->Prop)(HR:∀h',OwQ h' F s (l.set i.toNat (x,y))->Fr F h h'->Vars h' L->R h'):dW s i/\Aq Tryz.prog (Instr.storeAt tR (Value.pointer (some (Sl.at s i 2))) (Value.agg #[VI x,VI y])) h fun rv h'=>Vars h' L/\R h':=by
 have hn:=O.len
 rw[td]at hn
 have hi:i<(s.n:Int):=by omega
 refine⟨O.bB h0 hi,⟨fun w hw=> ?_⟩⟩
 subst hw
 obtain⟨w1,o1,f1⟩:=O.store h0 hi 0 (by omega) (VI x)
 obtain⟨w2,_,_⟩:=O.store h0 hi 1 (by omega) (VI y)
 obtain⟨_,o2,f2⟩:=o1.store h0 hi 1 (by omega) (VI y)
 obtain⟨w',r1,r2,r3⟩:=oH (P:=Tryz.prog) (kM Pr w) (a:=s.at i 2) (v:= .agg #[VI x,VI y]) (vs:=[VI x,VI y]) rfl rfl (fun v hv=>by simp only[List.mem_cons,List.not_mem_nil,or_false]at hv;rcases hv with rfl|rfl<;>rfl) (fun j hj=>by
  match j,hj with
  |0,_=>exact⟨w1.cell,w1.free⟩
  |1,_=>exact⟨w2.cell,w2.free⟩)
 refine⟨w',r1,r2,?_⟩
 rw[r3]
 simp only[List.zipIdx_cons,List.zipIdx_nil,List.foldl_cons,List.foldl_nil,Nat.zero_add]
 rw[Nat.add_zero,Gf]at o2
 have f:Fr F w.heap _:=(f1.trans f2).mono fun k _ hk=>(O.aG hk).1
 have V:=hL.fr f tZ
 exact⟨V,HR _ o2 f V⟩
def o0:Int->Int:=fun _=>0
theorem Ps{d:Int}(h:0<d):jZ d d=(1,1):=by
 unfold jZ
 rw[Int.gcd_self,show((d.natAbs:Nat):Int)=d by omega,Int.ediv_self (by omega)]
theorem Mj{d:Int}(h:0<d):jZ 0 d=(0,1):=by
 unfold jZ
 rw[Int.gcd_zero_left,show((d.natAbs:Nat):Int)=d by omega,Int.ediv_self (by omega),Int.zero_ediv]
def chR(g:List (List Int))(a b:Int):List qn:=(List.range g.length).map fun q:Nat=>jZ (zR g a b q) (jT g a b)
theorem KR(g:List (List Int))(a b:Int):(chR g a b).length=g.length:=by unfold chR;rw[List.length_map,List.length_range]
theorem KS{g:List (List Int)}{a b:Int}{q:Nat}(h:q<(chR g a b).length):(chR g a b)[q]=jZ (zR g a b q) (jT g a b):=by
 refine(List.getElem_map (l:=List.range g.length) _ (h:=h)).trans ?_
 rw[List.getElem_range]
theorem Can.Cx{g:List (List Int)}{a b:Int}(C:Can g a b):∀i,i<(bS g.length a b).length->(IA g a b o0 1 0 i).natAbs<=10:=fun i hi=>by
 have e:IA g a b o0 1 0 i=fh a (g.getD ((bS g.length a b).getD i 0) []):=by
  unfold IA o0
  omega
 have hp:=(eD.1 (List.getElem_mem hi)).1
 have e1:(bS g.length a b).getD i 0=(bS g.length a b)[i]:=by rw[List.getD_eq_getElem?_getD,List.getElem?_eq_getElem hi,Option.getD_some]
 rw[e,e1,aR hp]
 have h1:=jr a g[(bS g.length a b)[i]]
 have h2:=(aT C.bE (List.getElem_mem hp)).1
 omega
theorem Can.SV{g:List (List Int)}{a b:Int}(C:Can g a b){own:Int->Int}{A B:Int}(hA:A=0\/A=1)(hB:B=0\/B=1)(hr:∀i,i<(bS g.length a b).length->(IA g a b own A B i).natAbs<=10)(q:Int):(Ej g a b own A B q).natAbs<=50400000000:=by
 have hd:=C.den
 have gl:=aO C.bE
 have il:=sU C.a0 C.a1 C.b0 C.b1 C.ne
 unfold Ej
 split
 ·rcases hA with rfl|rfl<;>omega
 ·split
  ·rcases hB with rfl|rfl<;>omega
  ·exact BH C.bE (by omega) hr _
theorem Mk{S:Nat->Prop}{h:Heap}{g:Sl}{aD:List (List Int)}(G:bF S h g aD){a b:Int}(C:Can aD a b)(K:Value->Heap->Prop)(HK:∀t h',bK h' (Iv h.size h'.size) t (C8 aD a b o0 1 0)->Fr No h h'->K (.tuple #[t.v,VI (jT aD a b)]) h'):aE Tryz.prog 218 #[.agg #[g.v],VI a,VI b] h K:=by
 refine v218 g a b h K fun b1 h1 dM f1 bG=> ?_
 have f1:=f1.aF
 refine Pl (G.no f1) C (.func (.func 262) #[] #[]) o0 (.inr rfl) (.inl rfl) (fun p=>⟨Int.le_refl _,by unfold o0;omega⟩) C.Cx (fun p h' K' _ _ hk=>aiz _ _ _ hk) _ fun t h2 o2 f2=>⟨t,_,rfl,bG.aB f2,HK t h2 ?_ (f1.aA f2)⟩
 exact o2.mono fun k _ hk=>⟨Nat.le_trans f1.size hk.1,hk.2⟩
def rH(g:List (List Int))(p a b:Int):qn×Bool:=if(Iy g a b&&iD 0 ((g.length:Int)-1) p)=true then(jZ (zR g a b p) (jT g a b),true)else((0,0),false)
theorem vF{S:Nat->Prop}{h:Heap}{g:Sl}{aD:List (List Int)}(G:bF S h g aD)(p a b:Int)(K:Value->Heap->Prop)(HK:∀h',Fr No h h'->K (.tuple #[.agg #[VI (rH aD p a b).1.1,VI (rH aD p a b).1.2],VB (rH aD p a b).2]) h'):aE Tryz.prog 169 #[.agg #[g.v],VI p,VI a,VI b] h K:=by
 refine agF g p a b h K fun b1 b2 h2 dM dE f2 bP=> ?_
 have f2:=f2.aF
 have box:∀{x y:Heap},Fr No h x->Fr (In [b2]) x y->Fr No h y:=fun f f'=>f.fresh f' fun k hk=>by
  simp only[In,List.mem_cons,List.not_mem_nil,or_false]at hk
  omega
 unfold rH at HK
 refine Pa (G.no f2) a b _ fun h3 f3=>⟨_,rfl,bP.aB f3,fun e=>fun dY f10 _=> ?_,fun e=> ?_⟩
 ·rw[aY e,Bool.false_and]at HK
  exact HK dY (box (f2.aA f3) f10)
 have e:=aV e
 rw[e,Bool.true_and]at HK
 have C:=OX e
 have hd:=C.den
 have f13:=f2.aA f3
 have cF:=bP.aB f3
 refine aS fL (fun k=>h3.size<=k) (fun _ h=>h) 1 (by omega) [VI p] rfl rfl fun t h4 n4 c4 o4 f4 m4 _=>⟨t,rfl,cF.aB f4,?_⟩
 have o4:aP (fun k=>h3.size<=k) h4 t [p]:=o4.fa
 refine sx (G.no (f13.aA f4)) o4 _ fun h5 f5=>⟨_,rfl,(cF.aB f4).aB f5,fun e2=>fun h6 f6 _=> ?_,fun e2=> ?_⟩
 all_goals simp only[List.all_cons,List.all_nil,Bool.and_true,C.bE,Bool.true_and]at e2
 all_goals have f15:=f13.aA (f4.aA f5)
 ·rw[aY e2]at HK
  exact HK h6 (box f15 f6)
 have e2:=aV e2
 rw[e2,if_pos rfl]at HK
 have pr:=aZ.1 e2
 refine Mk (G.no f15) C _ fun t h7 o7 f7=>⟨t,_,rfl,((cF.aB f4).aB f5).aB f7,?_⟩
 have r7:aP _ h7 t (C8 aD a b o0 1 0):=Ow.fa o7
 have ol:=F0 aD a b o0 1 0
 have hv:=C.SV (own:=o0) (.inr rfl) (.inl rfl) C.Cx p
 refine⟨r7.bB pr.1 (by omega),_,r7.get pr.1 (by omega),?_⟩
 rw[Ga,show(((p.toNat:Nat):Int))=p by omega]
 exact SO _ _ (by omega) (by omega) (by omega) h7 _ fun h8 f8=>⟨_,_,rfl,(((cF.aB f4).aB f5).aB f7).aB f8,fun h9 f9 _=>HK h9 (box (f15.aA (f7.aA f8)) f9)⟩
def qE(n:Nat)(a b:Int)(d:Int)(ps:List Nat)(f:Nat->Int)(k:Nat):List qn:=(List.range n).map fun q:Nat=>if(q:Int)=a then(1,1)else if(q:Int)=b then(0,1)else if ps.idxOf q<k then jZ (f (ps.idxOf q)) d else(0,0)
theorem js(n:Nat)(a b:Int)(d:Int)(ps:List Nat)(f:Nat->Int)(k:Nat):(qE n a b d ps f k).length=n:=by unfold qE;rw[List.length_map,List.length_range]
theorem pX{n:Nat}{a b d:Int}{ps:List Nat}{f:Nat->Int}{k q:Nat}(h:q<(qE n a b d ps f k).length):(qE n a b d ps f k)[q]=if(q:Int)=a then(1,1)else if(q:Int)=b then(0,1)else if ps.idxOf q<k then jZ (f (ps.idxOf q)) d else(0,0):=by
 refine(List.getElem_map (l:=List.range n) _ (h:=h)).trans ?_
 rw[List.getElem_range]
theorem IJ{n:Nat}{a b:Int}(d:Int)(ps:List Nat)(f:Nat->Int)(a0:0<=a)(b0:0<=b)(eA:a≠b):qE n a b d ps f 0=((List.replicate n ((0,0):qn)).set a.toNat (1,1)).set b.toNat (0,1):=by
 apply List.ext_getElem (by rw[js,List.length_set,List.length_set,List.length_replicate])
 intro q h1 h2
 rw[pX h1,List.getElem_set,List.getElem_set,List.getElem_replicate]
 by_cases ea:(q:Int)=a
 ·rw[if_pos ea,if_neg (by omega),if_pos (by omega)]
 ·rw[if_neg ea]
  by_cases eb:(q:Int)=b
  ·rw[if_pos eb,if_pos (by omega)]
  ·rw[if_neg eb,if_neg (by omega),if_neg (by omega),if_neg (by omega)]
theorem IK{n:Nat}{a b:Int}(d:Int)(f:Nat->Int){k:Nat}(hk:k<(bS n a b).length):qE n a b d (bS n a b) f (k+1)=(qE n a b d (bS n a b) f k).set ((bS n a b)[k]) (jZ (f k) d):=by
 apply List.ext_getElem (by rw[js,List.length_set,js])
 intro q h1 h2
 have h3:q<(qE n a b d (bS n a b) f k).length:=by rw[List.length_set]at h2;exact h2
 have hm:=eD.1 (List.getElem_mem hk)
 rw[pX h1,List.getElem_set,pX h3]
 by_cases e:(bS n a b)[k]=q
 ·rw[if_pos e,if_neg (by omega),if_neg (by omega)]
  subst e
  rw[CX hk,if_pos (by omega)]
 ·rw[if_neg e]
  by_cases ea:(q:Int)=a
  ·rw[if_pos ea,if_pos ea]
  ·rw[if_neg ea,if_neg ea]
   by_cases eb:(q:Int)=b
   ·rw[if_pos eb,if_pos eb]
   ·rw[if_neg eb,if_neg eb]
    have hq:q∈bS n a b:=eD.2 ⟨by rw[js]at h3;exact h3,ea,eb⟩
    have hi:=List.idxOf_lt_length_iff.2 hq
    by_cases l:(bS n a b).idxOf q<k
    ·rw[if_pos l,if_pos (by omega)]
    ·rw[if_neg l,if_neg]
     intro h
     apply e
     have:(bS n a b).idxOf q=k:=by omega
     subst this
     exact List.getElem_idxOf hi
theorem Ml{g:List (List Int)}{a b:Int}(hd:0<jT g a b):qE g.length a b (jT g a b) (bS g.length a b) (vE g a b o0 1 0) (bS g.length a b).length=chR g a b:=by
 apply List.ext_getElem (by rw[js,KR])
 intro q h1 h2
 rw[pX h1,KS h2]
 unfold zR Ej
 by_cases ea:(q:Int)=a
 ·rw[if_pos ea,if_pos ea,Int.one_mul,Ps hd]
 ·rw[if_neg ea,if_neg ea]
  by_cases eb:(q:Int)=b
  ·rw[if_pos eb,if_pos eb,Int.zero_mul,Mj hd]
  ·rw[if_neg eb,if_neg eb,if_pos]
   ·rfl
   ·exact List.idxOf_lt_length_iff.2 (eD.2 ⟨by rw[js]at h1;exact h1,ea,eb⟩)
theorem SW(g:List (List Int))(a b:Int)(own:Int->Int)(A B:Int):II (qD g a b) (mM g a b own A B)=(List.range (bS g.length a b).length).map (vE g a b own A B):=by
 unfold II
 rw[(j3 g a b).1]
 exact List.map_congr_left fun k _=>ID g a b own A B k
set_option maxHeartbeats 4000000 in
theorem Gg{S:Nat->Prop}{h:Heap}{g:Sl}{aD:List (List Int)}(G:bF S h g aD){a b:Int}(C:Can aD a b)(K:Value->Heap->Prop)(HK:∀t h',Hg (fun k=>k<h'.size) h' t (chR aD a b)->Fr No h h'->K t.v h'):aE Tryz.prog 186 #[.agg #[g.v],VI a,VI b] h K:=by
 have hg:=C.bE
 have gl:=aO hg
 have dn:=C.den
 have gn:=G.len
 have il:=sU C.a0 C.a1 C.b0 C.b1 C.ne
 refine ag5 g a b h K fun b1 h1 dM f1 bG=> ?_
 have f1:=f1.aF
 refine IH (G.no f1) hg a b _ fun pl m h2 P2 M2 f2=>⟨pl,m,rfl,bG.aB f2,?_⟩
 have l1:b1<h1.size:=bG.head.lt
 have z2:=f2.size
 have CE:=f1.aA f2
 have Ol:∀q,q∈bS aD.length a b->q<aD.length:=fun q hq=>(eD.1 hq).1
 have U7:((bS aD.length a b).map fun p:Nat=>(p:Int)).length=(bS aD.length a b).length:=List.length_map _
 have pn:pl.n=(bS aD.length a b).length:=by have:=P2.len;rw[U7]at this;exact this
 have rl:=mN aD a b o0 1 0
 have ml:=(j3 aD a b).1
 have tL:∀{F:Nat->Prop},(∀k,F k->h2.size<=k)->∀p,p∈[(b1,[g.v])]->¬F p.1:=fun hF p hp hk=>by
  simp only[List.mem_cons,List.not_mem_nil,or_false]at hp
  subst hp
  have:=hF _ hk
  (try simp only at this)
  omega
 refine⟨fun m x i h'=>0<=i/\i+m=((bS aD.length a b).length:Int)/\bK h' (fun k=>h2.size<=k) x ((mM aD a b o0 1 0).take i.toNat)/\Fr (fun k=>h2.size<=k) h2 h',⟨(bS aD.length a b).length,by omega,by omega,Ow.nil _ _ _ _,Fr.refl _ _⟩,?_⟩
 rintro m1 x i h3 ⟨i0,i1,o3,f3⟩ cF
 have P3:=P2.fr f3 fun k hk aI=>by omega
 have M3:=M2.fr f3 fun k hk aI=>by omega
 have z3:=f3.size
 have gj:=CE.fresh f3 fun k hk=>by have:=CE.size;omega
 refine⟨fun e=> ?_,fun e=> ?_⟩
 ·have hi:=P3.lt e
  have gH:i.toNat<(bS aD.length a b).length:=by omega
  have cI:=P3.get i0 hi
  rw[nI]at cI
  have IG:=Ol _ (List.getElem_mem gH)
  have hRi:(mM aD a b o0 1 0)[i.toNat]'(by omega)=FY aD a b o0 1 0 (bS aD.length a b)[i.toNat]:=List.getElem_map _
  generalize (bS aD.length a b)[i.toNat]' gH=Q at cI IG hRi
  have G3:=G.no gj
  obtain⟨sp,cp,rp⟩:=G3.get (i:=(Q:Int)) (by omega) (by omega)
  simp only[Int.toNat_natCast]at rp
  have gm:=aT hg (List.getElem_mem IG)
  refine⟨P3.bB i0 hi,_,cI,G3.bB (by omega) (by omega),sp,cp,?_⟩
  refine⟨fun m s j h'=>0<=j/\j+m=(aD[Q].length:Int)/\s=fh a (aD[Q].take j.toNat)/\h'=h3,⟨aD[Q].length,by omega,by omega,rfl,rfl⟩,?_⟩
  rintro m2 s j h4 ⟨j0,j1,rfl,rfl⟩ dN
  refine⟨fun e2=> ?_,fun e2=> ?_⟩
  ·have hj:=rp.lt e2
   have hc:=rp.get j0 hj
   have tk:aD[Q].take (j+1).toNat=_:=eB _ j0 hj
   have so:=pt (a:=a) gm.1 j.toNat
   generalize aD[Q][j.toNat]'(by omega)=v at hc tk
   rw[rp.succ j0 hj]
   refine⟨rp.bB j0 hj,_,hc,fun e3=> ?_,fun e3=> ?_⟩
   ·simp only[decide_eq_true_eq]at e3
    refine⟨m2-1,by omega,by omega,by omega,?_,rfl⟩
    rw[tk,gW,if_pos e3,aH _ (by omega) (by omega)]
   ·simp only[decide_eq_false_iff_not]at e3
    refine⟨m2-1,by omega,by omega,by omega,?_,rfl⟩
    rw[tk,gW,if_neg e3,Int.add_zero]
  ·have hj:=rp.ge e2
   rw[List.take_of_length_le (by omega)]
   refine sJ (lo:=h2.size) o3 z3 cF (fun p hp=>by simp only[List.mem_cons,List.not_mem_nil,or_false]at hp;subst hp;show b1<h2.size;omega) (by rw[List.length_take];omega) _ fun t h5 o5 f5 V5=> ?_
   rw[P3.succ i0 hi]
   refine⟨m1-1,by omega,by omega,by omega,?_,f3.trans f5⟩
   rw[show(i+1).toNat=i.toNat+1 by omega,List.take_succ_eq_append_getElem (by omega),hRi]
   have:FY aD a b o0 1 0 Q=fh a aD[Q]:=by
    unfold FY o0
    rw[aR IG]
    omega
   rw[this]
   exact o5
 ·have hi:=P3.ge e
  rw[List.take_of_length_le (by omega)]at o3
  have hQ':Sq (qD aD a b).length (qD aD a b):=by rw[ml];exact(j3 aD a b).2
  have hS':Small (qD aD a b).length (bV (qD aD a b)):=by rw[ml];exact uu hg a b
  refine Mi M3 (Ow.fa o3:aP _ h3 x _) (by omega) hQ' (by omega) hS' (fun i hi=>by rw[sV aD a b o0 1 0 (by omega)];exact C.Cx i (by omega)) _ fun t h7 S7 f7=>⟨t,_,rfl,cF.aB f7,?_⟩
  rw[SW]at S7
  rw[ml,KM]
  have z7:=f7.size
  have j8:=cF.aB f7
  refine dK rRs (fun k=>h7.size<=k) (fun _ h=>h) .i64 .i64 g.n g.n (Nat.le_refl _) (by omega) fun u h8 n8 c8 o8 f8 m8 _=>⟨u,rfl,j8.aB f8,?_⟩
  have z8:=f8.size
  have Wi:OwQ h8 (fun k=>h7.size<=k) u (List.replicate aD.length (0,0)):=by
   have e:(List.replicate g.n [VI 0,VI 0]).flatten=qo (List.replicate aD.length (0,0)):=by
    rw[gn]
    generalize aD.length=n
    induction n with
    |zero=>rfl
    |succ n ih=>rw[List.replicate_succ,List.flatten_cons,ih,List.replicate_succ,qo];rfl
   rw[e]at o8
   exact o8
  have Xm:=tL (F:=fun k=>h7.size<=k) fun k hk=>by omega
  refine Dd (L:=[(b1,[g.v])]) (F:=fun k=>h7.size<=k) (x:=1) (y:=1) Wi C.a0 (by rw[List.length_replicate];exact C.a1) (j8.aB f8) Xm _ fun h9 o9 f9 V9=> ?_
  refine Dd (L:=[(b1,[g.v])]) (F:=fun k=>h7.size<=k) (x:=0) (y:=1) o9 C.b0 (by rw[List.length_set,List.length_replicate];exact C.b1) V9 Xm _ fun dY mV f10 V10=> ?_
  rw[<-IJ (jT aD a b) (bS aD.length a b) (vE aD a b o0 1 0) C.a0 C.b0 C.ne]at mV
  refine⟨fun m k h'=>0<=k/\k+m=((bS aD.length a b).length:Int)/\OwQ h' (fun q=>h7.size<=q) u (qE aD.length a b (jT aD a b) (bS aD.length a b) (vE aD a b o0 1 0) k.toNat)/\Fr (fun q=>h7.size<=q) h8 h',⟨(bS aD.length a b).length,by omega,by omega,mV,f9.trans f10⟩,?_⟩
  rintro m3 k ie ⟨k0,k1,lV,f11⟩ jm
  have P11:=((P3.no f7).no f8).fr f11 fun q hq gN=>by omega
  have S11:=(S7.no f8).fr f11 fun q hq gN=>by omega
  refine⟨fun e3=> ?_,fun e3=> ?_⟩
  ·have hk:=P11.lt e3
   have QU:k.toNat<(bS aD.length a b).length:=by omega
   have cI:=P11.get k0 hk
   rw[nI]at cI
   have IG:=Ol _ (List.getElem_mem QU)
   have Xd:=IK (jT aD a b) (vE aD a b o0 1 0) QU
   have cS:=S11.get (i:=k) k0 (by rw[List.length_map,List.length_range];omega)
   have eS:((List.range (bS aD.length a b).length).map (vE aD a b o0 1 0))[k.toNat]'(by rw[List.length_map,List.length_range];omega)=vE aD a b o0 1 0 k.toNat:=by rw[List.getElem_map,List.getElem_range]
   rw[eS]at cS
   have hcb:=BH hg (a:=a) (b:=b) (by omega) C.Cx k.toNat
   refine⟨P11.bB k0 hk,_,cI,S11.bB k0 (by rw[List.length_map,List.length_range];omega),_,cS,L9 _ _ (by omega) (by omega) (by omega) ie _ fun iu f12=>⟨_,_,rfl,jm.aB f12,?_⟩⟩
   refine Dd (L:=[(b1,[g.v])]) (F:=fun q=>h7.size<=q) (lV.no f12) (i:=(((bS aD.length a b)[k.toNat]' QU:Nat):Int)) (by omega) (by rw[js];omega) (jm.aB f12) Xm _ fun sD L6 f13 V13=> ?_
   rw[P11.succ k0 hk]
   refine⟨m3-1,by omega,by omega,by omega,?_,f11.trans (f12.aB.trans f13)⟩
   rw[show(k+1).toNat=k.toNat+1 by omega,Xd]
   simp only[Int.toNat_natCast]at L6
   exact L6
  ·have hk:=P11.ge e3
   rw[show k.toNat=(bS aD.length a b).length by omega,Ml (by omega)]at lV
   exact HK u ie (Hg.low lV.fa) ((gj.aA (f7.aA f8)).fresh f11 fun q hq=>by have:=gj.size;omega)
theorem mO{S:Nat->Prop}{h:Heap}{g:Sl}{aD:List (List Int)}(G:bF S h g aD)(p a b:Int)(K:Value->Heap->Prop)(HK:∀h',Fr No h h'->K (.tuple #[.agg #[VI (rH aD p a b).1.1,VI (rH aD p a b).1.2],VB (rH aD p a b).2]) h'):aE Tryz.prog 139 #[.agg #[g.v],VI p,VI a,VI b] h K:=by
 refine v139 g p a b h K fun b1 b2 h2 dM dE f2 bP=> ?_
 have f2:=f2.aF
 have box:∀{x y:Heap},Fr No h x->Fr (In [b2]) x y->Fr No h y:=fun f f'=>f.fresh f' fun k hk=>by
  simp only[In,List.mem_cons,List.not_mem_nil,or_false]at hk
  omega
 unfold rH at HK
 refine Pb (G.no f2) a b _ fun h3 f3=>⟨_,rfl,bP.aB f3,fun e=>fun dY f10 _=> ?_,fun e=> ?_⟩
 ·rw[aY e,Bool.false_and]at HK
  exact HK dY (box (f2.aA f3) f10)
 have e:=aV e
 rw[e,Bool.true_and]at HK
 have C:=OX e
 have hd:=C.den
 have f13:=f2.aA f3
 have cF:=bP.aB f3
 refine cR (G.no f13) p _ fun h5 f5=>⟨_,rfl,cF.aB f5,fun e2=>fun h6 f6 _=> ?_,fun e2=> ?_⟩
 all_goals simp only[C.bE,Bool.true_and]at e2
 all_goals have f15:=f13.aA f5
 ·rw[aY e2]at HK
  exact HK h6 (box f15 f6)
 have e2:=aV e2
 rw[e2,if_pos rfl]at HK
 have pr:=aZ.1 e2
 refine Gg (G.no f15) C _ fun t h7 Q7 f7=>⟨t,rfl,(cF.aB f5).aB f7,?_⟩
 obtain⟨ib,cc⟩:=Q7.get (i:=p) pr.1 (by rw[KR];omega)
 rw[KS,show(((p.toNat:Nat):Int))=p by omega]at cc
 exact⟨ib,_,_,cc,fun h9 f9 _=>HK h9 (box (f15.aA f7) f9)⟩
def Xn(g:List (List Int))(s:Int):Bool:=aM g&&iD 0 ((g.length:Int)-1) s
theorem Vd{g:List (List Int)}{s:Int}(h:Xn g s=true):aM g=true/\0<=s/\s<(g.length:Int):=by
 obtain⟨a,b⟩:=Bool.and_eq_true_iff.1 h
 have:=aZ.1 b
 exact⟨a,this.1,by omega⟩
def rh(g:List (List Int))(s:Int):Int×Bool:=if Xn g s then(uo g s,true)else(0,false)
theorem De{S:Nat->Prop}{h:Heap}{g:Sl}{aD:List (List Int)}(G:bF S h g aD)(s:Int)(K:Value->Heap->Prop)(HK:∀h',Fr No h h'->K (.tuple #[VI (rh aD s).1,VB (rh aD s).2]) h'):aE Tryz.prog 165 #[.agg #[g.v],VI s] h K:=by
 refine agz g s h K fun b1 h2 dM f2 bP=> ?_
 have f2:=f2.aF
 refine aS fL (fun k=>h2.size<=k) (fun _ h=>h) 1 (by omega) [VI s] rfl rfl fun t h3 n3 c3 o3 f3 m3 _=>⟨t,rfl,bP.aB f3,?_⟩
 have r3:aP (fun k=>h2.size<=k) h3 t [s]:=o3.fa
 have gj:=f2.aA f3
 refine sx (G.no gj) r3 _ fun h4 f4=>⟨_,rfl,(bP.aB f3).aB f4,fun e=> ?_,fun e=> ?_⟩
 all_goals simp only[List.all_cons,List.all_nil,Bool.and_true]at e
 all_goals have iE:=gj.aA f4
 ·have er:rh aD s=(0,false):=by unfold rh Xn;rw[aY e];rfl
  rw[er]at HK
  exact HK h4 iE
 have e:Xn aD s=true:=aV e
 obtain⟨hg,s0,s1⟩:=Vd e
 have gl:=aO hg
 have er:rh aD s=(uo aD s,true):=by unfold rh;rw[if_pos e]
 rw[er]at HK
 obtain⟨ll,Q⟩:=Ix s0 s1
 refine L8 (G.no iE) hg s0 s1 _ fun t5 h5 o5 f5=>⟨t5,rfl,((bP.aB f3).aB f4).aB f5,?_⟩
 refine lY (dD.rd o5) (by rw[ll];exact Q) (by omega) (by rw[ll];exact BD hg s0 s1) _ fun h6 f6=>⟨_,rfl,(((bP.aB f3).aB f4).aB f5).aB f6,?_⟩
 rw[ll]
 exact HK h6 (iE.aA (f5.aA f6))
theorem tf{S:Nat->Prop}{h:Heap}{g:Sl}{aD:List (List Int)}(G:bF S h g aD)(s:Int)(K:Value->Heap->Prop)(HK:∀h',Fr No h h'->K (.tuple #[VI (rh aD s).1,VB (rh aD s).2]) h'):aE Tryz.prog 137 #[.agg #[g.v],VI s] h K:=by
 refine af5 g s h K fun b1 h2 dM f2 bP=> ?_
 have f2:=f2.aF
 refine cR (G.no f2) s _ fun h4 f4=>⟨_,rfl,bP.aB f4,fun e=> ?_,fun e=> ?_⟩
 all_goals have iE:=f2.aA f4
 ·have er:rh aD s=(0,false):=by unfold rh Xn;rw[aY e];rfl
  rw[er]at HK
  exact HK h4 iE
 have e:Xn aD s=true:=aV e
 obtain⟨hg,s0,s1⟩:=Vd e
 have gl:=aO hg
 have er:rh aD s=(uo aD s,true):=by unfold rh;rw[if_pos e]
 rw[er]at HK
 obtain⟨ll,Q⟩:=Ix s0 s1
 refine FO (G.no iE) hg s0 s1 _ fun t5 h5 o5 f5=>⟨t5,rfl,(bP.aB f4).aB f5,?_⟩
 refine wL (aD.length-1) (dD.rd o5) Q (by omega) (BD hg s0 s1) _ fun h6 f6=>⟨_,rfl,((bP.aB f4).aB f5).aB f6,?_⟩
 exact HK h6 (iE.aA (f5.aA f6))
theorem yx{g:List (List Int)}:∀(m:Nat)(t:List Int)(s:St)(t':List Int)(s':St),runT g nS m t s=some (t',s')->t'.length=t.length+m
 |0,t,s,t',s',h=>by
  simp only[runT,Option.some.injEq,Prod.mk.injEq]at h
  rw[h.1]
  rfl
 |m+1,t,s,t',s',h=>by
  rw[runT]at h
  split at h
  ·cases h
  ·have:=yx m _ _ _ _ h
   simp[nS]at this
   omega
theorem SX{F:Nat->Prop}{b b':Nat}{h:Heap}{o w:Sl}{ps:List Int}{q:Int}(V:dB h b [o.v])(V':dB h b' [w.v,VI q])(SY:b'≠b)(O:bK h F o ps)(VE:∀k,h.size<=k->F k)(hb:¬o.own b)(hb':¬o.own b')(hn:ps.length<=1000000)(x:Int)(K:Value->Heap->Prop)
 (HK:∀h' o' v,dB h' b [o'.v]->bK h' F o' (ps++[q])->(∀k,o'.own k->o.own k\/h.size<=k)->Fr (fun k=>k=b\/o.own k) h h'->K v h'):fD Tryz.prog (.func (.func 208) #[] #[VP b 0,VP b' 0]) [VI x] h K:=by
 refine v208 x b o b' w q h K (.cons V (by simpa using SY) (.cons V' (by simp) .nil)) ?_
 refine aS fL (fun k=>h.size<=k) (fun _ h=>h) 1 (by omega) [VI q] rfl rfl fun v h1 n1 c1 o1 f1 m1 _=>⟨v,rfl,.cons (V.fr f1 fun h=>h) (by simpa using SY) (.cons (V'.fr f1 fun h=>h) (by simp) .nil),?_⟩
 have z1:=f1.size
 have o1:aP v.own h1 v [q]:=o1.rd
 have O1:=Ow.no O f1
 refine bQ fL O1 (fun k hk=>VE k (by omega)) o1 (ff _) (by have h1:=aP.len O1.fa;have h2:=o1.len;simp at h2;omega) fun y h2 n2 o2 f2 d2=>⟨y,rfl,.cons ((V.fr f1 fun h=>h).fr f2 hb) (by simpa using SY) (.cons ((V'.fr f1 fun h=>h).fr f2 hb') (by simp) .nil),fun h3 f3 cF=> ?_⟩
 rw[<-List.map_append]at o2
 have hbl:=V.lt
 have VW:∀k,In [b] k->k=b:=fun k hk=>by simpa[In]using hk
 have hyb:¬y.own b:=fun hk=>by
  rcases d2 b hk with h1|h1
  ·exact hb h1
  ·omega
 refine HK h3 y _ cF.head (Ow.fr o2 f3 fun k hk aI=>hyb (by have:=VW k aI;subst this;exact hk)) (fun k hk=>(d2 k hk).imp id fun h=>by omega) ?_
 exact(f1.aB.trans (f2.mono fun k _ hk=> .inr hk)).trans (f3.mono fun k _ hk=> .inl (VW k hk))
theorem yy{S S':Nat->Prop}{h:Heap}{g w:Sl}{aD:List (List Int)}{rs:List Int}(G:bF S h g aD)(H:aP S' h w rs)(p n:Int)(K:Value->Heap->Prop)(HK:∀t h',bK h' (Iv h.size h'.size) t (iO aD rs p n).1->Fr No h h'->K (.tuple #[t.v,VB (iO aD rs p n).2]) h'):aE Tryz.prog 162 #[.agg #[g.v],.agg #[w.v,VI p],VI n] h K:=by
 refine v162 g w p n h K fun b1 b2 h2 dM dE f2 bP=> ?_
 have f2:=f2.aF
 have no:iO aD rs p n=([],false)->∀h',Fr No h h'->K (.tuple #[aC.v,VB false]) h':=fun e h' f=>by
  have:=HK aC h' (by rw[e];exact Ow.nil _ _ _ _) f
  rw[e]at this
  exact this
 refine Cw (G.no f2) (H.no f2) p n 200 _ fun h3 f3=>⟨_,rfl,bP.aB f3,fun e=> ?_,fun e=> ?_⟩
 ·exact no (by unfold iO;rw[if_neg (by rw[aY e];simp)]) _ (f2.aA f3)
 have e:=aV e
 have e2:iO aD rs p n=match runT aD nS n.toNat [p] (rs,p)with
  |none=>([],false)
  |some (t,_)=>(t,true):=by unfold iO;exact if_pos e
 rw[Bool.and_eq_true,aZ]at e
 have W:=cG e.1
 have R0:=aO W.bE
 have gj:=f2.aA f3
 have z03:=gj.size
 have hL:=bP.aB f3
 have l2:b2<h3.size:=hL.head.lt
 have l1:b1<h3.size:=hL.tail.head.lt
 have fj:Fr No h3 h3:=Fr.refl _ _
 have cp:∀{h1:Heap}{K:Value->Heap->Prop},Fr No h3 h1->(∀t h2,bK h2 (Iv h1.size h2.size) t rs->Fr No h1 h2->K (.agg #[t.v,VI p]) h2)->aE Tryz.prog 110 #[.agg #[w.v,VI p]] h1 K:=fun f HK=>iy ((H.no gj).no f) p (by have:=W.len;simp only at this;omega) _ HK
 have lit:∀{h1:Heap}{K:Value->Heap->Prop},Fr No h3 h1->(∀t h2,bK h2 (Iv h1.size h2.size) t [p]->Fr No h1 h2->K t.v h2)->kE Tryz.prog (Instr.buildSlice sv 1 #[(0,VI p)]) h1 K:=fun _ HK=>aS fL (fun k=>_<=k) (fun _ h=>h) 1 (by omega) [VI p] rfl rfl fun t h2 n2 c2 o2 f2 m2 _=>HK t h2 (Ow.gf o2) f2
 refine⟨fun bN xw xp bO xo h'=>xp=p/\∃i1 j1 i2 j2,bK h' (Iv i1 j1) xw rs/\bK h' (Iv i2 j2) xo [p]/\(j1<=i2\/j2<=i1)/\(bN<i1\/j1<=bN)/\(bN<i2\/j2<=bN)/\(bO<i1\/j1<=bO)/\(bO<i2\/j2<=bO)/\h3.size<=i1/\h3.size<=i2/\h3.size<=bN/\h3.size<=bO/\j1<=h'.size/\j2<=h'.size/\bN≠bO/\Fr No h3 h',?_,?_⟩
 ·refine⟨?_,?_,?_,?_⟩
  ·refine cp fj fun u_1 pY dZ SZ=>⟨u_1,_,rfl,hL.aB SZ,?_⟩
   replace hL:=hL.aB SZ
   have acY:=SZ.size
   replace fj:=fj.aA SZ
   refine⟨?_,?_,?_⟩
   ·refine lit fj fun u_2 S0 Mm Pt=>⟨u_2,rfl,hL.aB Pt,?_⟩
    replace hL:=hL.aB Pt
    have acZ:=Pt.size
    replace dZ:=dZ.no Pt
    replace fj:=fj.aA Pt
    refine⟨?_,?_⟩
    ·intro jO Mn Ta Xo Xp Mo hL
     have Xq:jO<Ta.size:=(hL.tail).head.lt
     have Xr:Mn<Ta.size:=(hL).head.lt
     have Xs:jO≠Mn:=hL.ne (jO,_) List.mem_cons_self
     replace Mo:=Mo.aF
     have ac0:=Mo.size
     replace dZ:=dZ.no Mo
     replace Mm:=Mm.no Mo
     replace fj:=fj.aA Mo
     exact⟨rfl,h3.size,pY.size,pY.size,S0.size,dZ,Mm,by omega,by omega,by omega,by omega,by omega,by omega,by omega,by omega,by omega,by omega,by omega,by omega,fj⟩
    ·intro KT Mp tg Xt Xu Mq hL
     have Xv:KT<tg.size:=(hL.tail).head.lt
     have Xw:Mp<tg.size:=(hL).head.lt
     have Xx:KT≠Mp:=hL.ne (KT,_) List.mem_cons_self
     replace Mq:=Mq.aF
     have ac1:=Mq.size
     replace dZ:=dZ.no Mq
     replace Mm:=Mm.no Mq
     replace fj:=fj.aA Mq
     exact⟨rfl,h3.size,pY.size,pY.size,S0.size,dZ,Mm,by omega,by omega,by omega,by omega,by omega,by omega,by omega,by omega,by omega,by omega,by omega,by omega,fj⟩
   ·intro QV rm Xy Pu hL
    have Xz:QV<rm.size:=(hL).head.lt
    replace Pu:=Pu.aF
    have ac2:=Pu.size
    replace dZ:=dZ.no Pu
    replace fj:=fj.aA Pu
    refine⟨?_,?_⟩
    ·refine lit fj fun u_6 XA XB Pv=>⟨u_6,rfl,hL.aB Pv,?_⟩
     replace hL:=hL.aB Pv
     have ac3:=Pv.size
     replace dZ:=dZ.no Pv
     replace fj:=fj.aA Pv
     intro qp XC Tb Mr hL
     have Tc:qp<XC.size:=(hL).head.lt
     replace Mr:=Mr.cB (lo:=pY.size) (hi:=rm.size) ⟨⟨by omega,by omega⟩,trivial⟩
     have ac4:=Mr.size
     replace dZ:=dZ.iv Mr (by omega)
     replace XB:=XB.iv Mr (by omega)
     replace fj:=fj.aJ Mr (by omega)
     exact⟨rfl,h3.size,pY.size,rm.size,XA.size,dZ,XB,by omega,by omega,by omega,by omega,by omega,by omega,by omega,by omega,by omega,by omega,by omega,by omega,fj⟩
    ·intro uz yz Td Pw hL
     have Te:uz<yz.size:=(hL).head.lt
     replace Pw:=Pw.aF
     have ac5:=Pw.size
     replace dZ:=dZ.no Pw
     replace fj:=fj.aA Pw
     refine⟨?_,?_⟩
     ·refine lit fj fun u_9 XD Tf Px=>⟨u_9,rfl,hL.aB Px,?_⟩
      replace hL:=hL.aB Px
      have ac6:=Px.size
      replace dZ:=dZ.no Px
      replace fj:=fj.aA Px
      intro SR Df hL
      have XE:=Df.size
      replace dZ:=dZ.fr Df fun k hk aI=>by have h1:=(dZ.aG hk).1;have h2:=h1.1;have h3:=h1.2;simp only[In,List.mem_cons,List.not_mem_nil,or_false]at aI;omega
      replace Tf:=Tf.fr Df fun k hk aI=>by have h1:=(Tf.aG hk).1;have h2:=h1.1;have h3:=h1.2;simp only[In,List.mem_cons,List.not_mem_nil,or_false]at aI;omega
      replace fj:=fj.fresh Df fun k hk=>by simp only[In,List.mem_cons,List.not_mem_nil,or_false]at hk;omega
      exact⟨rfl,h3.size,pY.size,yz.size,XD.size,dZ,Tf,by omega,by omega,by omega,by omega,by omega,by omega,by omega,by omega,by omega,by omega,by omega,by omega,fj⟩
     ·intro Gc yA hL
      replace yA:=yA.cB (lo:=pY.size) (hi:=rm.size) ⟨⟨by omega,by omega⟩,trivial⟩
      have XF:=yA.size
      replace dZ:=dZ.iv yA (by omega)
      replace fj:=fj.aJ yA (by omega)
      refine lit fj fun XG uw IL yB=>⟨XG,rfl,hL.aB yB,?_⟩
      replace hL:=hL.aB yB
      have XH:=yB.size
      replace dZ:=dZ.no yB
      replace fj:=fj.aA yB
      intro Pe uA hL
      replace uA:=uA.cB (lo:=rm.size) (hi:=yz.size) ⟨⟨by omega,by omega⟩,trivial⟩
      have XI:=uA.size
      replace dZ:=dZ.iv uA (by omega)
      replace IL:=IL.iv uA (by omega)
      replace fj:=fj.aJ uA (by omega)
      exact⟨rfl,h3.size,pY.size,Gc.size,uw.size,dZ,IL,by omega,by omega,by omega,by omega,by omega,by omega,by omega,by omega,by omega,by omega,by omega,by omega,fj⟩
   ·intro Ah l9 Tg yC hL
    have Th:Ah<l9.size:=(hL).head.lt
    replace yC:=yC.aF
    have XJ:=yC.size
    replace dZ:=dZ.no yC
    replace fj:=fj.aA yC
    refine⟨?_,?_⟩
    ·refine lit fj fun XK C9 IM yD=>⟨XK,rfl,hL.aB yD,?_⟩
     replace hL:=hL.aB yD
     have XL:=yD.size
     replace dZ:=dZ.no yD
     replace fj:=fj.aA yD
     intro ma sZ Ti uB hL
     have Tj:ma<sZ.size:=(hL).head.lt
     replace uB:=uB.cB (lo:=pY.size) (hi:=l9.size) ⟨⟨by omega,by omega⟩,trivial⟩
     have XM:=uB.size
     replace dZ:=dZ.iv uB (by omega)
     replace IM:=IM.iv uB (by omega)
     replace fj:=fj.aJ uB (by omega)
     exact⟨rfl,h3.size,pY.size,l9.size,C9.size,dZ,IM,by omega,by omega,by omega,by omega,by omega,by omega,by omega,by omega,by omega,by omega,by omega,by omega,fj⟩
    ·intro li ta Tk yE hL
     have Tl:li<ta.size:=(hL).head.lt
     replace yE:=yE.aF
     have XN:=yE.size
     replace dZ:=dZ.no yE
     replace fj:=fj.aA yE
     refine⟨?_,?_⟩
     ·refine lit fj fun XO yw Dg yF=>⟨XO,rfl,hL.aB yF,?_⟩
      replace hL:=hL.aB yF
      have XP:=yF.size
      replace dZ:=dZ.no yF
      replace fj:=fj.aA yF
      intro Dc Dh hL
      have XQ:=Dh.size
      replace dZ:=dZ.fr Dh fun k hk aI=>by have h1:=(dZ.aG hk).1;have h2:=h1.1;have h3:=h1.2;simp only[In,List.mem_cons,List.not_mem_nil,or_false]at aI;omega
      replace Dg:=Dg.fr Dh fun k hk aI=>by have h1:=(Dg.aG hk).1;have h2:=h1.1;have h3:=h1.2;simp only[In,List.mem_cons,List.not_mem_nil,or_false]at aI;omega
      replace fj:=fj.fresh Dh fun k hk=>by simp only[In,List.mem_cons,List.not_mem_nil,or_false]at hk;omega
      exact⟨rfl,h3.size,pY.size,ta.size,yw.size,dZ,Dg,by omega,by omega,by omega,by omega,by omega,by omega,by omega,by omega,by omega,by omega,by omega,by omega,fj⟩
     ·intro IP yG hL
      replace yG:=yG.cB (lo:=l9.size) (hi:=ta.size) ⟨⟨by omega,by omega⟩,trivial⟩
      have XR:=yG.size
      replace dZ:=dZ.iv yG (by omega)
      replace fj:=fj.aJ yG (by omega)
      refine lit fj fun XS Gh IQ yH=>⟨XS,rfl,hL.aB yH,?_⟩
      replace hL:=hL.aB yH
      have XT:=yH.size
      replace dZ:=dZ.no yH
      replace fj:=fj.aA yH
      intro Py uC hL
      replace uC:=uC.cB (lo:=pY.size) (hi:=l9.size) ⟨⟨by omega,by omega⟩,trivial⟩
      have XU:=uC.size
      replace dZ:=dZ.iv uC (by omega)
      replace IQ:=IQ.iv uC (by omega)
      replace fj:=fj.aJ uC (by omega)
      exact⟨rfl,h3.size,pY.size,IP.size,Gh.size,dZ,IQ,by omega,by omega,by omega,by omega,by omega,by omega,by omega,by omega,by omega,by omega,by omega,by omega,fj⟩
  ·refine lit fj fun XV j5 bY Di=>⟨XV,rfl,hL.aB Di,?_⟩
   replace hL:=hL.aB Di
   have XW:=Di.size
   replace fj:=fj.aA Di
   refine⟨?_,?_,?_⟩
   ·refine cp fj fun XX Dm uD yI=>⟨XX,_,rfl,hL.aB yI,?_⟩
    replace hL:=hL.aB yI
    have XY:=yI.size
    replace bY:=bY.no yI
    replace fj:=fj.aA yI
    refine⟨?_,?_⟩
    ·intro rz vT Dn Tm Tp uE hL
     have Tq:rz<Dn.size:=(hL.tail).head.lt
     have Tr:vT<Dn.size:=(hL).head.lt
     have Tt:rz≠vT:=hL.ne (rz,_) List.mem_cons_self
     replace uE:=uE.aF
     have XZ:=uE.size
     replace bY:=bY.no uE
     replace uD:=uD.no uE
     replace fj:=fj.aA uE
     exact⟨rfl,j5.size,Dm.size,h3.size,j5.size,uD,bY,by omega,by omega,by omega,by omega,by omega,by omega,by omega,by omega,by omega,by omega,by omega,by omega,fj⟩
    ·intro rA vU Dp Tu Tw uF hL
     have Tx:rA<Dp.size:=(hL.tail).head.lt
     have Ty:vU<Dp.size:=(hL).head.lt
     have Tz:rA≠vU:=hL.ne (rA,_) List.mem_cons_self
     replace uF:=uF.aF
     have X1:=uF.size
     replace bY:=bY.no uF
     replace uD:=uD.no uF
     replace fj:=fj.aA uF
     exact⟨rfl,j5.size,Dm.size,h3.size,j5.size,uD,bY,by omega,by omega,by omega,by omega,by omega,by omega,by omega,by omega,by omega,by omega,by omega,by omega,fj⟩
   ·intro X2 Ai TA yJ hL
    have TB:X2<Ai.size:=(hL).head.lt
    replace yJ:=yJ.aF
    have X3:=yJ.size
    replace bY:=bY.no yJ
    replace fj:=fj.aA yJ
    refine⟨?_,?_⟩
    ·refine cp fj fun X4 IR IU yK=>⟨X4,_,rfl,hL.aB yK,?_⟩
     replace hL:=hL.aB yK
     have X5:=yK.size
     replace bY:=bY.no yK
     replace fj:=fj.aA yK
     intro X6 X7 TC uG hL
     have TD:X6<X7.size:=(hL).head.lt
     replace uG:=uG.cB (lo:=j5.size) (hi:=Ai.size) ⟨⟨by omega,by omega⟩,trivial⟩
     have X8:=uG.size
     replace bY:=bY.iv uG (by omega)
     replace IU:=IU.iv uG (by omega)
     replace fj:=fj.aJ uG (by omega)
     exact⟨rfl,Ai.size,IR.size,h3.size,j5.size,IU,bY,by omega,by omega,by omega,by omega,by omega,by omega,by omega,by omega,by omega,by omega,by omega,by omega,fj⟩
    ·intro X9 Pz TE yL hL
     have TF:X9<Pz.size:=(hL).head.lt
     replace yL:=yL.aF
     have Ya:=yL.size
     replace bY:=bY.no yL
     replace fj:=fj.aA yL
     refine cp fj fun Yb Yc Dq yM=>⟨Yb,_,rfl,hL.aB yM,?_⟩
     replace hL:=hL.aB yM
     have Yd:=yM.size
     replace bY:=bY.no yM
     replace fj:=fj.aA yM
     intro ajX Dr hL
     have Ye:=Dr.size
     replace bY:=bY.fr Dr fun k hk aI=>by have h1:=(bY.aG hk).1;have h2:=h1.1;have h3:=h1.2;simp only[In,List.mem_cons,List.not_mem_nil,or_false]at aI;omega
     replace Dq:=Dq.fr Dr fun k hk aI=>by have h1:=(Dq.aG hk).1;have h2:=h1.1;have h3:=h1.2;simp only[In,List.mem_cons,List.not_mem_nil,or_false]at aI;omega
     replace fj:=fj.fresh Dr fun k hk=>by simp only[In,List.mem_cons,List.not_mem_nil,or_false]at hk;omega
     exact⟨rfl,Pz.size,Yc.size,h3.size,j5.size,Dq,bY,by omega,by omega,by omega,by omega,by omega,by omega,by omega,by omega,by omega,by omega,by omega,by omega,fj⟩
   ·intro Yf IV TG yN hL
    have TH:Yf<IV.size:=(hL).head.lt
    replace yN:=yN.aF
    have Yg:=yN.size
    replace bY:=bY.no yN
    replace fj:=fj.aA yN
    refine⟨?_,?_⟩
    ·refine cp fj fun Yh Yi IW yO=>⟨Yh,_,rfl,hL.aB yO,?_⟩
     replace hL:=hL.aB yO
     have Yj:=yO.size
     replace bY:=bY.no yO
     replace fj:=fj.aA yO
     intro Yk Yl TI uH hL
     have TJ:Yk<Yl.size:=(hL).head.lt
     replace uH:=uH.cB (lo:=j5.size) (hi:=IV.size) ⟨⟨by omega,by omega⟩,trivial⟩
     have Ym:=uH.size
     replace bY:=bY.iv uH (by omega)
     replace IW:=IW.iv uH (by omega)
     replace fj:=fj.aJ uH (by omega)
     exact⟨rfl,IV.size,Yi.size,h3.size,j5.size,IW,bY,by omega,by omega,by omega,by omega,by omega,by omega,by omega,by omega,by omega,by omega,by omega,by omega,fj⟩
    ·intro Yn PA TK yP hL
     have TL:Yn<PA.size:=(hL).head.lt
     replace yP:=yP.aF
     have Yo:=yP.size
     replace bY:=bY.no yP
     replace fj:=fj.aA yP
     refine cp fj fun Yp Yq Ds yQ=>⟨Yp,_,rfl,hL.aB yQ,?_⟩
     replace hL:=hL.aB yQ
     have Yr:=yQ.size
     replace bY:=bY.no yQ
     replace fj:=fj.aA yQ
     intro ajY Dt hL
     have Ys:=Dt.size
     replace bY:=bY.fr Dt fun k hk aI=>by have h1:=(bY.aG hk).1;have h2:=h1.1;have h3:=h1.2;simp only[In,List.mem_cons,List.not_mem_nil,or_false]at aI;omega
     replace Ds:=Ds.fr Dt fun k hk aI=>by have h1:=(Ds.aG hk).1;have h2:=h1.1;have h3:=h1.2;simp only[In,List.mem_cons,List.not_mem_nil,or_false]at aI;omega
     replace fj:=fj.fresh Dt fun k hk=>by simp only[In,List.mem_cons,List.not_mem_nil,or_false]at hk;omega
     exact⟨rfl,PA.size,Yq.size,h3.size,j5.size,Ds,bY,by omega,by omega,by omega,by omega,by omega,by omega,by omega,by omega,by omega,by omega,by omega,by omega,fj⟩
  ·intro Yt kZ TM Du hL
   have TN:Yt<kZ.size:=(hL).head.lt
   replace Du:=Du.aF
   have Yu:=Du.size
   replace fj:=fj.aA Du
   refine⟨?_,?_,?_⟩
   ·refine cp fj fun Yw yR fy Dv=>⟨Yw,_,rfl,hL.aB Dv,?_⟩
    replace hL:=hL.aB Dv
    have Yy:=Dv.size
    replace fj:=fj.aA Dv
    refine⟨?_,?_⟩
    ·refine lit fj fun Yz YA IX yS=>⟨Yz,rfl,hL.aB yS,?_⟩
     replace hL:=hL.aB yS
     have YB:=yS.size
     replace fy:=fy.no yS
     replace fj:=fj.aA yS
     intro YC YD TO uI hL
     have TP:YC<YD.size:=(hL).head.lt
     replace uI:=uI.cB (lo:=h3.size) (hi:=kZ.size) ⟨⟨by omega,by omega⟩,trivial⟩
     have YE:=uI.size
     replace fy:=fy.iv uI (by omega)
     replace IX:=IX.iv uI (by omega)
     replace fj:=fj.aJ uI (by omega)
     exact⟨rfl,kZ.size,yR.size,yR.size,YA.size,fy,IX,by omega,by omega,by omega,by omega,by omega,by omega,by omega,by omega,by omega,by omega,by omega,by omega,fj⟩
    ·intro YF IY TQ yT hL
     have TR:YF<IY.size:=(hL).head.lt
     replace yT:=yT.aF
     have YG:=yT.size
     replace fy:=fy.no yT
     replace fj:=fj.aA yT
     refine⟨?_,?_⟩
     ·refine lit fj fun YH YI Dw yU=>⟨YH,rfl,hL.aB yU,?_⟩
      replace hL:=hL.aB yU
      have YJ:=yU.size
      replace fy:=fy.no yU
      replace fj:=fj.aA yU
      intro ajZ Dx hL
      have YK:=Dx.size
      replace fy:=fy.fr Dx fun k hk aI=>by have h1:=(fy.aG hk).1;have h2:=h1.1;have h3:=h1.2;simp only[In,List.mem_cons,List.not_mem_nil,or_false]at aI;omega
      replace Dw:=Dw.fr Dx fun k hk aI=>by have h1:=(Dw.aG hk).1;have h2:=h1.1;have h3:=h1.2;simp only[In,List.mem_cons,List.not_mem_nil,or_false]at aI;omega
      replace fj:=fj.fresh Dx fun k hk=>by simp only[In,List.mem_cons,List.not_mem_nil,or_false]at hk;omega
      exact⟨rfl,kZ.size,yR.size,IY.size,YI.size,fy,Dw,by omega,by omega,by omega,by omega,by omega,by omega,by omega,by omega,by omega,by omega,by omega,by omega,fj⟩
     ·intro YL yV hL
      replace yV:=yV.cB (lo:=h3.size) (hi:=kZ.size) ⟨⟨by omega,by omega⟩,trivial⟩
      have YM:=yV.size
      replace fy:=fy.iv yV (by omega)
      replace fj:=fj.aJ yV (by omega)
      refine lit fj fun YN YO IZ yW=>⟨YN,rfl,hL.aB yW,?_⟩
      replace hL:=hL.aB yW
      have YP:=yW.size
      replace fy:=fy.no yW
      replace fj:=fj.aA yW
      intro aj0 uJ hL
      replace uJ:=uJ.cB (lo:=yR.size) (hi:=IY.size) ⟨⟨by omega,by omega⟩,trivial⟩
      have YQ:=uJ.size
      replace fy:=fy.iv uJ (by omega)
      replace IZ:=IZ.iv uJ (by omega)
      replace fj:=fj.aJ uJ (by omega)
      exact⟨rfl,kZ.size,yR.size,YL.size,YO.size,fy,IZ,by omega,by omega,by omega,by omega,by omega,by omega,by omega,by omega,by omega,by omega,by omega,by omega,fj⟩
   ·refine lit fj fun YR I3 jt Dy=>⟨YR,rfl,hL.aB Dy,?_⟩
    replace hL:=hL.aB Dy
    have YS:=Dy.size
    replace fj:=fj.aA Dy
    refine⟨?_,?_⟩
    ·refine cp fj fun YT YU I4 yX=>⟨YT,_,rfl,hL.aB yX,?_⟩
     replace hL:=hL.aB yX
     have YV:=yX.size
     replace jt:=jt.no yX
     replace fj:=fj.aA yX
     intro YW YX TS uK hL
     have TT:YW<YX.size:=(hL).head.lt
     replace uK:=uK.cB (lo:=h3.size) (hi:=kZ.size) ⟨⟨by omega,by omega⟩,trivial⟩
     have YY:=uK.size
     replace jt:=jt.iv uK (by omega)
     replace I4:=I4.iv uK (by omega)
     replace fj:=fj.aJ uK (by omega)
     exact⟨rfl,I3.size,YU.size,kZ.size,I3.size,I4,jt,by omega,by omega,by omega,by omega,by omega,by omega,by omega,by omega,by omega,by omega,by omega,by omega,fj⟩
    ·intro YZ PB TU yY hL
     have TV:YZ<PB.size:=(hL).head.lt
     replace yY:=yY.aF
     have Y0:=yY.size
     replace jt:=jt.no yY
     replace fj:=fj.aA yY
     refine cp fj fun Y1 Y2 Dz yZ=>⟨Y1,_,rfl,hL.aB yZ,?_⟩
     replace hL:=hL.aB yZ
     have Y3:=yZ.size
     replace jt:=jt.no yZ
     replace fj:=fj.aA yZ
     intro aj1 DA hL
     have Y4:=DA.size
     replace jt:=jt.fr DA fun k hk aI=>by have h1:=(jt.aG hk).1;have h2:=h1.1;have h3:=h1.2;simp only[In,List.mem_cons,List.not_mem_nil,or_false]at aI;omega
     replace Dz:=Dz.fr DA fun k hk aI=>by have h1:=(Dz.aG hk).1;have h2:=h1.1;have h3:=h1.2;simp only[In,List.mem_cons,List.not_mem_nil,or_false]at aI;omega
     replace fj:=fj.fresh DA fun k hk=>by simp only[In,List.mem_cons,List.not_mem_nil,or_false]at hk;omega
     exact⟨rfl,PB.size,Y2.size,kZ.size,I3.size,Dz,jt,by omega,by omega,by omega,by omega,by omega,by omega,by omega,by omega,by omega,by omega,by omega,by omega,fj⟩
   ·intro Y5 y0 TW DB hL
    have TX:Y5<y0.size:=(hL).head.lt
    replace DB:=DB.aF
    have Y6:=DB.size
    replace fj:=fj.aA DB
    refine⟨?_,?_⟩
    ·refine cp fj fun Y7 I5 ju DC=>⟨Y7,_,rfl,hL.aB DC,?_⟩
     replace hL:=hL.aB DC
     have Y8:=DC.size
     replace fj:=fj.aA DC
     refine⟨?_,?_⟩
     ·refine lit fj fun Y9 Za DD y9=>⟨Y9,rfl,hL.aB y9,?_⟩
      replace hL:=hL.aB y9
      have Zb:=y9.size
      replace ju:=ju.no y9
      replace fj:=fj.aA y9
      intro aj2 DE hL
      have Zc:=DE.size
      replace ju:=ju.fr DE fun k hk aI=>by have h1:=(ju.aG hk).1;have h2:=h1.1;have h3:=h1.2;simp only[In,List.mem_cons,List.not_mem_nil,or_false]at aI;omega
      replace DD:=DD.fr DE fun k hk aI=>by have h1:=(DD.aG hk).1;have h2:=h1.1;have h3:=h1.2;simp only[In,List.mem_cons,List.not_mem_nil,or_false]at aI;omega
      replace fj:=fj.fresh DE fun k hk=>by simp only[In,List.mem_cons,List.not_mem_nil,or_false]at hk;omega
      exact⟨rfl,y0.size,I5.size,I5.size,Za.size,ju,DD,by omega,by omega,by omega,by omega,by omega,by omega,by omega,by omega,by omega,by omega,by omega,by omega,fj⟩
     ·intro Zd za hL
      replace za:=za.cB (lo:=h3.size) (hi:=kZ.size) ⟨⟨by omega,by omega⟩,trivial⟩
      have Ze:=za.size
      replace ju:=ju.iv za (by omega)
      replace fj:=fj.aJ za (by omega)
      refine lit fj fun Zf Zg I6 zc=>⟨Zf,rfl,hL.aB zc,?_⟩
      replace hL:=hL.aB zc
      have Zh:=zc.size
      replace ju:=ju.no zc
      replace fj:=fj.aA zc
      intro aj3 uL hL
      replace uL:=uL.cB (lo:=kZ.size) (hi:=y0.size) ⟨⟨by omega,by omega⟩,trivial⟩
      have Zi:=uL.size
      replace ju:=ju.iv uL (by omega)
      replace I6:=I6.iv uL (by omega)
      replace fj:=fj.aJ uL (by omega)
      exact⟨rfl,y0.size,I5.size,Zd.size,Zg.size,ju,I6,by omega,by omega,by omega,by omega,by omega,by omega,by omega,by omega,by omega,by omega,by omega,by omega,fj⟩
    ·refine lit fj fun Zj PC uM DF=>⟨Zj,rfl,hL.aB DF,?_⟩
     replace hL:=hL.aB DF
     have Zk:=DF.size
     replace fj:=fj.aA DF
     refine cp fj fun Zl Zm DG zd=>⟨Zl,_,rfl,hL.aB zd,?_⟩
     replace hL:=hL.aB zd
     have Zn:=zd.size
     replace uM:=uM.no zd
     replace fj:=fj.aA zd
     intro aj4 DH hL
     have Zo:=DH.size
     replace uM:=uM.fr DH fun k hk aI=>by have h1:=(uM.aG hk).1;have h2:=h1.1;have h3:=h1.2;simp only[In,List.mem_cons,List.not_mem_nil,or_false]at aI;omega
     replace DG:=DG.fr DH fun k hk aI=>by have h1:=(DG.aG hk).1;have h2:=h1.1;have h3:=h1.2;simp only[In,List.mem_cons,List.not_mem_nil,or_false]at aI;omega
     replace fj:=fj.fresh DH fun k hk=>by simp only[In,List.mem_cons,List.not_mem_nil,or_false]at hk;omega
     exact⟨rfl,PC.size,Zm.size,y0.size,PC.size,DG,uM,by omega,by omega,by omega,by omega,by omega,by omega,by omega,by omega,by omega,by omega,by omega,by omega,fj⟩
  ·intro Zp gE TY DI hL
   have TZ:Zp<gE.size:=(hL).head.lt
   replace DI:=DI.aF
   have Zq:=DI.size
   replace fj:=fj.aA DI
   refine⟨?_,?_,?_⟩
   ·refine cp fj fun Zr pw fA DJ=>⟨Zr,_,rfl,hL.aB DJ,?_⟩
    replace hL:=hL.aB DJ
    have Zs:=DJ.size
    replace fj:=fj.aA DJ
    refine⟨?_,?_⟩
    ·refine lit fj fun Zt PD I7 ze=>⟨Zt,rfl,hL.aB ze,?_⟩
     replace hL:=hL.aB ze
     have Zu:=ze.size
     replace fA:=fA.no ze
     replace fj:=fj.aA ze
     intro Zv PE T7 uN hL
     have Ua:Zv<PE.size:=(hL).head.lt
     replace uN:=uN.cB (lo:=h3.size) (hi:=gE.size) ⟨⟨by omega,by omega⟩,trivial⟩
     have Zw:=uN.size
     replace fA:=fA.iv uN (by omega)
     replace I7:=I7.iv uN (by omega)
     replace fj:=fj.aJ uN (by omega)
     exact⟨rfl,gE.size,pw.size,pw.size,PD.size,fA,I7,by omega,by omega,by omega,by omega,by omega,by omega,by omega,by omega,by omega,by omega,by omega,by omega,fj⟩
    ·intro Zx zf Ub zg hL
     have Uc:Zx<zf.size:=(hL).head.lt
     replace zg:=zg.aF
     have Zy:=zg.size
     replace fA:=fA.no zg
     replace fj:=fj.aA zg
     refine⟨?_,?_⟩
     ·refine lit fj fun Zz PF DK zh=>⟨Zz,rfl,hL.aB zh,?_⟩
      replace hL:=hL.aB zh
      have ZA:=zh.size
      replace fA:=fA.no zh
      replace fj:=fj.aA zh
      intro ac7 DL hL
      have ZB:=DL.size
      replace fA:=fA.fr DL fun k hk aI=>by have h1:=(fA.aG hk).1;have h2:=h1.1;have h3:=h1.2;simp only[In,List.mem_cons,List.not_mem_nil,or_false]at aI;omega
      replace DK:=DK.fr DL fun k hk aI=>by have h1:=(DK.aG hk).1;have h2:=h1.1;have h3:=h1.2;simp only[In,List.mem_cons,List.not_mem_nil,or_false]at aI;omega
      replace fj:=fj.fresh DL fun k hk=>by simp only[In,List.mem_cons,List.not_mem_nil,or_false]at hk;omega
      exact⟨rfl,gE.size,pw.size,zf.size,PF.size,fA,DK,by omega,by omega,by omega,by omega,by omega,by omega,by omega,by omega,by omega,by omega,by omega,by omega,fj⟩
     ·intro PG zi hL
      replace zi:=zi.cB (lo:=pw.size) (hi:=zf.size) ⟨⟨by omega,by omega⟩,trivial⟩
      have ZC:=zi.size
      replace fA:=fA.iv zi (by omega)
      replace fj:=fj.aJ zi (by omega)
      refine lit fj fun ZD PH I9 zj=>⟨ZD,rfl,hL.aB zj,?_⟩
      replace hL:=hL.aB zj
      have ZE:=zj.size
      replace fA:=fA.no zj
      replace fj:=fj.aA zj
      intro ac8 uO hL
      replace uO:=uO.cB (lo:=h3.size) (hi:=gE.size) ⟨⟨by omega,by omega⟩,trivial⟩
      have ZF:=uO.size
      replace fA:=fA.iv uO (by omega)
      replace I9:=I9.iv uO (by omega)
      replace fj:=fj.aJ uO (by omega)
      exact⟨rfl,gE.size,pw.size,PG.size,PH.size,fA,I9,by omega,by omega,by omega,by omega,by omega,by omega,by omega,by omega,by omega,by omega,by omega,by omega,fj⟩
   ·refine lit fj fun ZG zk jv DM=>⟨ZG,rfl,hL.aB DM,?_⟩
    replace hL:=hL.aB DM
    have ZH:=DM.size
    replace fj:=fj.aA DM
    refine⟨?_,?_⟩
    ·refine cp fj fun ZI PI Ja zm=>⟨ZI,_,rfl,hL.aB zm,?_⟩
     replace hL:=hL.aB zm
     have ZJ:=zm.size
     replace jv:=jv.no zm
     replace fj:=fj.aA zm
     intro ZK PJ Ud uP hL
     have Ue:ZK<PJ.size:=(hL).head.lt
     replace uP:=uP.cB (lo:=h3.size) (hi:=gE.size) ⟨⟨by omega,by omega⟩,trivial⟩
     have ZL:=uP.size
     replace jv:=jv.iv uP (by omega)
     replace Ja:=Ja.iv uP (by omega)
     replace fj:=fj.aJ uP (by omega)
     exact⟨rfl,zk.size,PI.size,gE.size,zk.size,Ja,jv,by omega,by omega,by omega,by omega,by omega,by omega,by omega,by omega,by omega,by omega,by omega,by omega,fj⟩
    ·intro ZM Gi Uf zn hL
     have Ug:ZM<Gi.size:=(hL).head.lt
     replace zn:=zn.aF
     have ZN:=zn.size
     replace jv:=jv.no zn
     replace fj:=fj.aA zn
     refine cp fj fun ZO PK DN zo=>⟨ZO,_,rfl,hL.aB zo,?_⟩
     replace hL:=hL.aB zo
     have ZP:=zo.size
     replace jv:=jv.no zo
     replace fj:=fj.aA zo
     intro ac9 DO hL
     have ZQ:=DO.size
     replace jv:=jv.fr DO fun k hk aI=>by have h1:=(jv.aG hk).1;have h2:=h1.1;have h3:=h1.2;simp only[In,List.mem_cons,List.not_mem_nil,or_false]at aI;omega
     replace DN:=DN.fr DO fun k hk aI=>by have h1:=(DN.aG hk).1;have h2:=h1.1;have h3:=h1.2;simp only[In,List.mem_cons,List.not_mem_nil,or_false]at aI;omega
     replace fj:=fj.fresh DO fun k hk=>by simp only[In,List.mem_cons,List.not_mem_nil,or_false]at hk;omega
     exact⟨rfl,Gi.size,PK.size,gE.size,zk.size,DN,jv,by omega,by omega,by omega,by omega,by omega,by omega,by omega,by omega,by omega,by omega,by omega,by omega,fj⟩
   ·intro ZR px Uh DP hL
    have Ui:ZR<px.size:=(hL).head.lt
    replace DP:=DP.aF
    have ZS:=DP.size
    replace fj:=fj.aA DP
    refine⟨?_,?_⟩
    ·refine cp fj fun ZT zp jx DQ=>⟨ZT,_,rfl,hL.aB DQ,?_⟩
     replace hL:=hL.aB DQ
     have ZU:=DQ.size
     replace fj:=fj.aA DQ
     refine⟨?_,?_⟩
     ·refine lit fj fun ZV PL DR zq=>⟨ZV,rfl,hL.aB zq,?_⟩
      replace hL:=hL.aB zq
      have ZW:=zq.size
      replace jx:=jx.no zq
      replace fj:=fj.aA zq
      intro ada DS hL
      have ZX:=DS.size
      replace jx:=jx.fr DS fun k hk aI=>by have h1:=(jx.aG hk).1;have h2:=h1.1;have h3:=h1.2;simp only[In,List.mem_cons,List.not_mem_nil,or_false]at aI;omega
      replace DR:=DR.fr DS fun k hk aI=>by have h1:=(DR.aG hk).1;have h2:=h1.1;have h3:=h1.2;simp only[In,List.mem_cons,List.not_mem_nil,or_false]at aI;omega
      replace fj:=fj.fresh DS fun k hk=>by simp only[In,List.mem_cons,List.not_mem_nil,or_false]at hk;omega
      exact⟨rfl,px.size,zp.size,zp.size,PL.size,jx,DR,by omega,by omega,by omega,by omega,by omega,by omega,by omega,by omega,by omega,by omega,by omega,by omega,fj⟩
     ·intro PN zr hL
      replace zr:=zr.cB (lo:=gE.size) (hi:=px.size) ⟨⟨by omega,by omega⟩,trivial⟩
      have ZY:=zr.size
      replace jx:=jx.iv zr (by omega)
      replace fj:=fj.aJ zr (by omega)
      refine lit fj fun ZZ PO Jb zt=>⟨ZZ,rfl,hL.aB zt,?_⟩
      replace hL:=hL.aB zt
      have Z8:=zt.size
      replace jx:=jx.no zt
      replace fj:=fj.aA zt
      intro adb uQ hL
      replace uQ:=uQ.cB (lo:=h3.size) (hi:=gE.size) ⟨⟨by omega,by omega⟩,trivial⟩
      have Z9:=uQ.size
      replace jx:=jx.iv uQ (by omega)
      replace Jb:=Jb.iv uQ (by omega)
      replace fj:=fj.aJ uQ (by omega)
      exact⟨rfl,px.size,zp.size,PN.size,PO.size,jx,Jb,by omega,by omega,by omega,by omega,by omega,by omega,by omega,by omega,by omega,by omega,by omega,by omega,fj⟩
    ·refine lit fj fun aaa Gj uR DT=>⟨aaa,rfl,hL.aB DT,?_⟩
     replace hL:=hL.aB DT
     have aab:=DT.size
     replace fj:=fj.aA DT
     refine cp fj fun aac PP DU zu=>⟨aac,_,rfl,hL.aB zu,?_⟩
     replace hL:=hL.aB zu
     have aad:=zu.size
     replace uR:=uR.no zu
     replace fj:=fj.aA zu
     intro ade DV hL
     have aae:=DV.size
     replace uR:=uR.fr DV fun k hk aI=>by have h1:=(uR.aG hk).1;have h2:=h1.1;have h3:=h1.2;simp only[In,List.mem_cons,List.not_mem_nil,or_false]at aI;omega
     replace DU:=DU.fr DV fun k hk aI=>by have h1:=(DU.aG hk).1;have h2:=h1.1;have h3:=h1.2;simp only[In,List.mem_cons,List.not_mem_nil,or_false]at aI;omega
     replace fj:=fj.fresh DV fun k hk=>by simp only[In,List.mem_cons,List.not_mem_nil,or_false]at hk;omega
     exact⟨rfl,Gj.size,PP.size,px.size,Gj.size,DU,uR,by omega,by omega,by omega,by omega,by omega,by omega,by omega,by omega,by omega,by omega,by omega,by omega,fj⟩
 rintro bN x1 x2 bO x3 zw ⟨rfl,i1,j1,i2,j2,o1,o2,d12,dN1,dN2,dO1,dO2,e1,e2',e3,e4,e5,e6,eA,f134⟩ k7
 have f0:=gj.aA f134
 have aj6:=f134.size
 have lO:bO<zw.size:=k7.head.lt
 have lN:bN<zw.size:=k7.tail.head.lt
 have aaf:bF (fun k=>k<h3.size) zw g aD:=(G.no gj).low.no f134
 have xN:¬x1.own bN:=fun hk=>by have h1:=(o1.aG hk).1.1;have h2:=(o1.aG hk).1.2;omega
 have xO:¬x3.own bO:=fun hk=>by have h1:=(o2.aG hk).1.1;have h2:=(o2.aG hk).1.2;omega
 have x1O:¬x1.own bO:=fun hk=>by have h1:=(o1.aG hk).1.1;have h2:=(o1.aG hk).1.2;omega
 have x3N:¬x3.own bN:=fun hk=>by have h1:=(o2.aG hk).1.1;have h2:=(o2.aG hk).1.2;omega
 have Kb:∀k,x1.own k->¬x3.own k:=fun k h1 h3=>by have a1:=(o1.aG h1).1.1;have a2:=(o1.aG h1).1.2;have a3:=(o2.aG h3).1.1;have a4:=(o2.aG h3).1.2;omega
 have x1g:∀k,x1.own k->h3.size<=k/\k<zw.size:=fun k hk=>⟨by have:=(o1.aG hk).1.1;omega,(o1.aG hk).2⟩
 have x3g:∀k,x3.own k->h3.size<=k/\k<zw.size:=fun k hk=>⟨by have:=(o2.aG hk).1.1;omega,(o2.aG hk).2⟩
 --what the aag region and the other one are off
 have qh:∀k,(k=bN\/x1.own k)\/(k=bO\/x3.own k)->h3.size<=k:=fun k hk=>by
  rcases hk with(rfl|hk)|(rfl|hk)
  ·omega
  ·exact(x1g k hk).1
  ·omega
  ·exact(x3g k hk).1
 refine Od (s0:=(rs,x2)) (F:=fun k=>k=bN\/x1.own k) (S:=fun k=>k<h3.size) nS
  (fun N t h'=>∃o:Sl,dB h' bO [o.v]/\bK h' (fun k=>h3.size<=k) o t/\∀k,o.own k->x3.own k\/N<=k) (fun k=>k=bO\/x3.own k)
  aaf k7.tail.head (o1.mono fun k hk _=> .inr hk) (fun k hk=>⟨fun h=>by have:=qh k (.inl h);omega,fun h=>by have:=qh k (.inr h);omega⟩) (.inl rfl) xN W n (by omega) (by omega) _ [x2]
  (fun k hk=>by rcases hk with rfl|hk;exact lN;exact(x1g k hk).2)
  (fun k hk=>⟨fun h=>by
   rcases hk with rfl|hk<;>rcases h with rfl|h
   ·exact eA rfl
   ·exact x1O h
   ·exact x3N hk
   ·exact Kb k h hk,by rcases hk with rfl|hk;exact lO;exact(x3g k hk).2⟩)
  (fun N hN=>⟨x3,k7.head,o2.mono fun k _ hk=>by have:=hk.1;omega,fun k hk=> .inl hk⟩)
  (fun N t h1 h2 U ⟨o,v1,v2,v3⟩ f hU=>⟨o,v1.fr f fun h=>(hU _ h).1 (.inl rfl),v2.fr f fun k hk aI=>by
   rcases v3 k hk with h|h
   ·exact(hU k aI).1 (.inr h)
   ·have:=(hU k aI).2;omega,v3⟩)
  (fun N t s s' h1 K hN hN2 ⟨o,v1,v2,v3⟩ V O W hs hm HK=> ?_) _ (fun hr N t h9 q hN ⟨o,v1,v2,v3⟩ v9 f9=> ?_) fun t' s' hr N h9 hN ⟨o,v1,v2,v3⟩ o9 W9 v9 f9=> ?_
 ·obtain⟨m,hm,hr⟩:=hm
  have hl:=yx m _ _ _ _ hr
  have ob:¬o.own bO:=fun hk=>by
   rcases v3 _ hk with h|h
   ·exact xO h
   ·omega
  have ob':¬o.own bN:=fun hk=>by
   rcases v3 _ hk with h|h
   ·exact x3N h
   ·omega
  refine SX v1 V eA v2 (fun k hk=>by omega) ob ob' (by simp at hl;omega) s.2 K fun h2 o' v w1 w2 w3 w4=>HK h2 v ⟨o',w1,w2,fun k hk=> ?_⟩ (w4.mono fun k _ hk=> ?_)
  ·rcases w3 k hk with h|h
   ·exact v3 k h
   ·exact .inr (by omega)
  ·rcases hk with rfl|hk
   ·exact .inl (.inl rfl)
   ·exact(v3 k hk).imp .inr id
 ·have gh:Vars h9 [(bO,[o.v]),(bN,[x1.v,VI q]),(b2,[w.v,VI x2]),(b1,[g.v])]:= .cons v1 (fun p hp=>by
   have:=k7.ne
   simp only[List.mem_cons,List.not_mem_nil,or_false]at hp
   rcases hp with rfl|rfl|rfl<;>simp only<;>omega) (.cons v9 (fun p hp=>by
   simp only[List.mem_cons,List.not_mem_nil,or_false]at hp
   rcases hp with rfl|rfl<;>simp only<;>omega) (k7.tail.tail.fr f9 fun p hp hk=>by
   have:=qh _ hk
   simp only[List.mem_cons,List.not_mem_nil,or_false]at hp
   rcases hp with rfl|rfl<;>simp only at this<;>omega))
  refine⟨o,x1,q,false,rfl,gh,fun _=> ?_,fun e=>by simp at e⟩
  rw[hr]at e2
  exact no e2 h9 (f0.fresh f9 fun k hk=>by have:=qh k hk;omega)
 ·have gh:Vars h9 [(bO,[o.v]),(bN,[x1.v,VI s'.2]),(b2,[w.v,VI x2]),(b1,[g.v])]:= .cons v1 (fun p hp=>by
   simp only[List.mem_cons,List.not_mem_nil,or_false]at hp
   rcases hp with rfl|rfl|rfl<;>simp only<;>omega) (.cons v9 (fun p hp=>by
   simp only[List.mem_cons,List.not_mem_nil,or_false]at hp
   rcases hp with rfl|rfl<;>simp only<;>omega) (k7.tail.tail.fr f9 fun p hp hk=>by
   have:=qh _ hk
   simp only[List.mem_cons,List.not_mem_nil,or_false]at hp
   rcases hp with rfl|rfl<;>simp only at this<;>omega))
  refine⟨o,x1,s'.2,true,rfl,gh,fun e=>by simp at e,fun _=> ?_⟩
  rw[hr]at e2
  have:=HK o h9 (by rw[e2];exact v2.mono fun k hk hF=>⟨by omega,(v2.aG hk).2⟩) (f0.fresh f9 fun k hk=>by have:=qh k hk;omega)
  rw[e2]at this
  exact this
end Go.Proofs.YtcnfcnoooecchaaGreatDoor
