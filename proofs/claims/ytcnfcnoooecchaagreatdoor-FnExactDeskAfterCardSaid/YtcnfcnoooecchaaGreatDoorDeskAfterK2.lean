import Derived.Test.YtcnfcnoooecchaaGreatDoorDeskAfterK1
set_option linter.unusedVariables false
set_option linter.unusedSimpArgs false
namespace Go.Proofs.YtcnfcnoooecchaaGreatDoor
open Go Go.Mx
theorem kR(x:Int):∀a b:List Int,ff x (a++b)=ff x a+ff x b
 |[],b=>by simp[ff]
 |y::a,b=>by rw[List.cons_append,ff,ff,kR x a b];omega
def jZ(n:Nat)(p:Nat)(len:Int)(l:List Int):List Int:=(List.range n).map fun q:Nat=>(if q=p then len else 0)-ff q l
theorem iO(n p:Nat)(len:Int)(l:List Int):(jZ n p len l).length=n:=by simp[jZ]
theorem mK{n p:Nat}{len:Int}{l:List Int}{q:Nat}(h:q<(jZ n p len l).length):(jZ n p len l)[q]=(if q=p then len else 0)-ff q l:=by simp[jZ]
theorem yp{n p:Nat}(hp:p<n)(len:Int):jZ n p len []=(List.replicate n (0:Int)).set p len:=by
 apply List.ext_getElem (by simp[iO])
 intro q h1 h2
 rw[mK h1,List.getElem_set,List.getElem_replicate,ff]
 by_cases e:q=p
 ·rw[if_pos e,if_pos e.symm];omega
 ·rw[if_neg e,if_neg fun x=>e x.symm];omega
theorem BF{n p:Nat}{len x:Int}{l:List Int}(h0:0<=x)(h1:x<(n:Int)):jZ n p len (l++[x])=(jZ n p len l).set x.toNat ((jZ n p len l).getD x.toNat 0-1):=by
 have hx:x.toNat<(jZ n p len l).length:=by rw[iO];omega
 apply List.ext_getElem (by simp[iO])
 intro q h2 h3
 have h4:q<(jZ n p len l).length:=by rw[iO]at h2⊢;exact h2
 rw[mK h2,List.getElem_set,kR]
 simp only[ff]
 by_cases e:x.toNat=q
 ·rw[if_pos e,if_pos (show x=(q:Int) by omega),aN hx,mK hx,e];omega
 ·rw[if_neg e,if_neg (show¬x=(q:Int) by omega),mK h4];omega
theorem jq(x:Int):∀l:List Int,0<=ff x l/\ff x l<=l.length
 |[]=>by simp[ff]
 |y::l=>by
  have:=jq x l
  rw[ff,List.length_cons]
  split<;>omega
def kS(g:List (List Int))(s:Int)(p:Nat):List Int:=(jZ g.length p (g.getD p []).length (g.getD p [])).eraseIdx s.toNat
def vS(g:List (List Int))(s:Int):List (List Int):=((List.range g.length).filter (gX s)).map (kS g s)
theorem erase_filter:∀(l:List Nat)(i:Nat)(h:i<l.length),l.Nodup->l.eraseIdx i=l.filter fun x=> !decide (x=l[i])
 |x::l,0,_,hd=>by
  rw[List.nodup_cons]at hd
  rw[List.eraseIdx_zero,List.tail_cons,List.getElem_cons_zero,List.filter_cons_of_neg (by simp)]
  refine(List.filter_eq_self.2 fun a ha=> ?_).symm
  have:a≠x:=fun e=>hd.1 (e▸ha)
  simpa using this
 |x::l,i+1,h,hd=>by
  rw[List.nodup_cons]at hd
  have hi:i<l.length:=by simpa using h
  have hx:x≠l[i]:=fun e=>hd.1 (e▸List.getElem_mem hi)
  rw[List.eraseIdx_cons_succ,List.getElem_cons_succ,List.filter_cons_of_pos (by simpa using hx),erase_filter l i hi hd.2]
theorem erase_range{n:Nat}{s:Int}(h0:0<=s)(h1:s<(n:Int)):(List.range n).eraseIdx s.toNat=(List.range n).filter (gX s):=by
 rw[erase_filter _ _ (by rw[List.length_range];omega) List.nodup_range]
 refine List.filter_congr fun x _=> ?_
 rw[List.getElem_range]
 unfold gX
 congr 1
 by_cases e:x=s.toNat
 ·rw[decide_eq_true e,decide_eq_true (by omega)]
 ·rw[decide_eq_false e,decide_eq_false (by omega)]
theorem BG{α β:Type}(f:α->β):∀(l:List α)(i:Nat),(l.map f).eraseIdx i=(l.eraseIdx i).map f
 |[],_=>by simp
 |x::l,0=>by simp
 |x::l,i+1=>by rw[List.map_cons,List.eraseIdx_cons_succ,List.eraseIdx_cons_succ,List.map_cons,BG f l i]
theorem BH{g:List (List Int)}{s:Int}(h0:0<=s)(h1:s<(g.length:Int))(p:Nat):kS g s p=((List.range g.length).filter (gX s)).map fun q:Nat=>(if q=p then((g.getD p []).length:Int)else 0)-ff q (g.getD p []):=by
 unfold kS jZ
 rw[BG,erase_range h0 h1]
theorem pZ{n:Nat}{s:Int}(h0:0<=s)(h1:s<(n:Int)):((List.range n).filter (gX s)).length=n-1:=by
 rw[<-erase_range h0 h1,List.length_eraseIdx,List.length_range,if_pos (by omega)]
theorem Ir{g:List (List Int)}{s:Int}(h0:0<=s)(h1:s<(g.length:Int)):(vS g s).length=g.length-1/\Sq (g.length-1) (vS g s):=by
 have e:(vS g s).length=g.length-1:=by unfold vS;rw[List.length_map,pZ h0 h1]
 refine⟨e,e,fun i hi=> ?_⟩
 unfold vS at hi⊢
 rw[List.getElem_map,BH h0 h1,List.length_map,pZ h0 h1]
theorem Kz{g:List (List Int)}{s:Int}(h0:0<=s)(h1:s<(g.length:Int)){i j:Nat}(hi:i<g.length-1)(hj:j<g.length-1):bU (vS g s) i j=iD (fJ g s) i j:=by
 have hl:=pZ (n:=g.length) h0 h1
 have gH:i<((List.range g.length).filter (gX s)).length:=by omega
 have Fv:j<((List.range g.length).filter (gX s)).length:=by omega
 have e1:∀k(hk:k<((List.range g.length).filter (gX s)).length),nG (fJ g s) k=((((List.range g.length).filter (gX s))[k]:Nat):Int)/\zW (fJ g s) k=g.getD ((List.range g.length).filter (gX s))[k] []:=fun k hk=>by
  unfold nG zW fJ
  rw[List.getD_eq_getElem?_getD,List.getElem?_eq_getElem (by rw[List.length_map];exact hk),List.getElem_map]
  exact⟨rfl,rfl⟩
 have hr:i<(vS g s).length:=by rw[(Ir h0 h1).1];exact hi
 have er:(vS g s)[i]=kS g s ((List.range g.length).filter (gX s))[i]:=by
  show(((List.range g.length).filter (gX s)).map (kS g s))[i]'_=_
  exact List.getElem_map _
 unfold bU iD
 rw[aR hr,er,BH h0 h1,aN (by rw[List.length_map];exact Fv),List.getElem_map,(e1 i gH).2,(e1 j Fv).1]
 congr 1
 by_cases e:i=j
 ·subst e;rw[if_pos rfl,if_pos rfl]
 ·rw[if_neg e,if_neg fun x=>e ?_]
  have nd:((List.range g.length).filter (gX s)).Nodup:=List.Pairwise.filter _ List.nodup_range
  have hp:=List.pairwise_iff_getElem.1 nd
  rcases Nat.lt_trichotomy i j with a|a|a
  ·exact absurd x.symm (hp i j gH Fv a)
  ·exact a
  ·exact absurd x (hp j i Fv gH a)
theorem BI{g:List (List Int)}{s:Int}(hg:aM g=true)(h0:0<=s)(h1:s<(g.length:Int)):Small (g.length-1) (bU (vS g s)):=fun i j hi hj=>by
 rw[Kz h0 h1 hi hj]
 unfold iD
 have hb:(zW (fJ g s) i).length<=5:=by
  have hl:=pZ (n:=g.length) h0 h1
  unfold zW fJ
  rw[List.getD_eq_getElem?_getD,List.getElem?_eq_getElem (by rw[List.length_map];omega),List.getElem_map]
  have hm:=List.getElem_mem (show i<((List.range g.length).filter (gX s)).length by omega)
  rw[List.mem_filter,List.mem_range]at hm
  show(g.getD _ []).length<=5
  rw[aR hm.1]
  exact(aT hg (List.getElem_mem hm.1)).1
 have:=jq (nG (fJ g s) j) (zW (fJ g s) i)
 split<;>omega
def uj(g:List (List Int))(s:Int):Int:=cK (g.length-1) (bU (vS g s))
theorem LW{g:List (List Int)}{s:Int}(hg:aM g=true)(h0:0<=s)(h1:s<(g.length:Int)):uj g s=((CS g s).length:Int):=by
 rw[FA hg h0 h1]
 exact dG fun i j hi hj=>Kz h0 h1 hi hj
theorem LX{S:Nat->Prop}{h:Heap}{g:Sl}{aD:List (List Int)}(G:bL S h g aD)(hg:aM aD=true){s:Int}(s0:0<=s)(s1:s<(aD.length:Int))(K:Value->Heap->Prop)(HK:∀t h',fQ h' (Iv h.size h'.size) t (vS aD s)->Fr No h h'->K t.v h'):aE Tryz.prog 213 #[.agg #[g.v],VI s] h K:=by
 refine ahr g s h K fun b1 h1 dT f1 bF=> ?_
 have f1:=f1.aF
 have z1:=f1.size
 have l1:b1<h1.size:=bF.head.lt
 have gl:=aO hg
 have gn:=G.len
 have vy:∀{x:Heap},Fr (fun k=>h.size<=k) h x->Fr No h x:=fun f=>f.mono fun k hk aI=>absurd aI (by omega)
 refine aQ qg (fun k=>h1.size<=k) (fun _ h=>h) 0 (by omega) [] rfl rfl fun o h2 n2 c2 o2 f2 m2 _=>⟨o,rfl,bF.aB f2,?_⟩
 have z2:=f2.size
 have Wa:fQ h2 (fun k=>h1.size<=k) o []:=⟨[],rfl,o2,fun i h1=>by simp at h1,fun i j h1=>by simp at h1,fun i h1=>by simp at h1⟩
 refine⟨fun m x p h'=>0<=p/\p+m=(aD.length:Int)/\fQ h' (fun k=>h1.size<=k) x (((List.range p.toNat).filter (gX s)).map (kS aD s))/\Fr (fun k=>h.size<=k) h h'/\h1.size<=h'.size,⟨aD.length,Int.le_refl _,by omega,Wa,f1.aB.trans f2.aB,by omega⟩,?_⟩
 rintro m x p h3 ⟨p0,p1,o3,f3,z3⟩ cF
 have g3:=vy f3
 refine⟨fun e=> ?_,fun e=> ?_⟩
 ·have hp:=G.lt e
  have G3:=G.no g3
  obtain⟨sp,cp,rp⟩:=G3.get p0 hp
  have pl:=rp.len
  have eg:aD.getD p.toNat []=aD[p.toNat]'(by omega):=aR (by omega)
  have gm:=aT hg (List.getElem_mem (show p.toNat<aD.length by omega))
  rw[G.succ p0 hp]
  refine⟨G3.bB p0 hp,sp,cp,fun e2=> ?_,fun e2=> ?_⟩
  ·simp only[decide_eq_true_eq]at e2
   refine⟨m-1,by omega,by omega,by omega,?_,f3,z3⟩
   rw[show(p+1).toNat=p.toNat+1 by omega,List.range_succ,List.filter_append,List.filter_cons_of_neg (tZ (by omega)),List.filter_nil,List.append_nil]
   exact o3
  simp only[decide_eq_false_iff_not]at e2
  refine eB fy (fun k=>h3.size<=k) (fun _ h=>h) .i64 .i64 g.n g.n (Nat.le_refl _) (by omega) fun t h4 n4 c4 o4 f4 m4 _=>⟨t,rfl,cF.aB f4,?_⟩
  have z4:=f4.size
  have o4:bM h4 (fun k=>h3.size<=k) t (List.replicate aD.length 0):=by
   have e:(List.replicate g.n [VI 0]).flatten=(List.replicate aD.length (0:Int)).map VI:=by rw[gn];simp[List.flatten_replicate_singleton]
   rw[e]at o4;exact o4
  refine gf (L:=[(b1,[g.v])]) (F:=fun k=>h3.size<=k) o4 p0 (by rw[List.length_replicate];omega) (cF.aB f4) (fun q hq=>by
   simp only[List.mem_cons,List.not_mem_nil,or_false]at hq
   subst hq;show¬h3.size<=b1;omega) _ fun h5 o5 f5 V5=> ?_
  rw[pl,<-yp (by omega)]at o5
  have f35:=(f4.aB (T:=fun k=>h3.size<=k)).trans f5
  refine⟨fun m2 j h'=>0<=j/\j+m2=((aD[p.toNat]'(by omega)).length:Int)/\bM h' (fun k=>h3.size<=k) t (jZ aD.length p.toNat (aD[p.toNat]'(by omega)).length ((aD[p.toNat]'(by omega)).take j.toNat))/\Fr (fun k=>h3.size<=k) h3 h',⟨(aD[p.toNat]'(by omega)).length,Int.le_refl _,by omega,by simpa using o5,f35⟩,?_⟩
  rintro m2 j h6 ⟨j0,j1,o6,f6⟩ iY
  have r6:=(rp.low.fr f6 fun k hk aI=>by omega)
  refine⟨fun e3=> ?_,fun e3=> ?_⟩
  ·have hj:=r6.lt e3
   have hv:=gm.2 _ (List.getElem_mem (show j.toNat<(aD[p.toNat]'(by omega)).length by omega))
   have R6:=o6.eQ
   have rl:=iO aD.length p.toNat (aD[p.toNat]'(by omega)).length ((aD[p.toNat]'(by omega)).take j.toNat)
   have QA:(aD[p.toNat]'(by omega))[j.toNat]'(by omega)<((jZ aD.length p.toNat (aD[p.toNat]'(by omega)).length ((aD[p.toNat]'(by omega)).take j.toNat)).length:Int):=by rw[rl];omega
   refine⟨r6.bB j0 hj,_,r6.get j0 hj,aP.bB R6 hv.1 QA,_,aP.get R6 hv.1 QA,gf (L:=[(b1,[g.v])]) (F:=fun k=>h3.size<=k) o6 hv.1 QA iY (fun q hq=>by
    simp only[List.mem_cons,List.not_mem_nil,or_false]at hq
    subst hq;show¬h3.size<=b1;omega) _ fun h7 o7 f7 V7=> ?_⟩
   rw[aP.succ r6 j0 hj]
   refine⟨m2-1,by omega,by omega,by omega,?_,f6.trans f7⟩
   rw[dY _ j0 hj,BF hv.1 hv.2,aN (show((aD[p.toNat]'(by omega))[j.toNat]'(by omega)).toNat<(jZ aD.length p.toNat (aD[p.toNat]'(by omega)).length ((aD[p.toNat]'(by omega)).take j.toNat)).length by omega)]
   have hb:aL ((jZ aD.length p.toNat (aD[p.toNat]'(by omega)).length ((aD[p.toNat]'(by omega)).take j.toNat))[((aD[p.toNat]'(by omega))[j.toNat]'(by omega)).toNat]'(by omega)-1)=(jZ aD.length p.toNat (aD[p.toNat]'(by omega)).length ((aD[p.toNat]'(by omega)).take j.toNat))[((aD[p.toNat]'(by omega))[j.toNat]'(by omega)).toNat]'(by omega)-1:=by
    rw[mK]
    have ob:=jq ((((aD[p.toNat]'(by omega))[j.toNat]'(by omega)).toNat:Nat):Int) ((aD[p.toNat]'(by omega)).take j.toNat)
    rw[List.length_take]at ob
    have:=gm.1
    exact aH _ (by split<;>omega) (by split<;>omega)
   rw[hb]at o7
   exact o7
  ·have hj:=r6.ge e3
   rw[List.take_of_length_le (by omega)]at o6
   have sw:aL (s+1)=((s.toNat+1:Nat):Int):=by rw[aH _ (by omega) (by omega)];omega
   have ss:s=((s.toNat:Nat):Int):=by omega
   rw[sw]
   refine cast (congrArg (fun z:Int=>aE Tryz.prog 258 #[t.v,VI z,VI (s.toNat+1:Nat)] h6 _) ss.symm) ?_
   refine Oy o6 (i:=s.toNat) (by rw[iO];omega) _ fun t8 h8 o8 f8 m8=>⟨t8,rfl,?_,?_⟩
   ·exact iY.fr f8 fun q hq hk=>by
     simp only[List.mem_cons,List.not_mem_nil,or_false]at hq
     subst hq
     have:=(Ow.aG o6 hk).1
     (try simp only at this)
     omega
   have f8':Fr (fun k=>h3.size<=k) h6 h8:=f8.mono fun k _ hk=>(Ow.aG o6 hk).1
   have f38:=f6.trans f8'
   have z8:=f38.size
   have fA:Vars h8 [(b1,[g.v])]:=iY.fr f8' fun q hq hk=>by
    simp only[List.mem_cons,List.not_mem_nil,or_false]at hq
    subst hq
    (try simp only at hk)
    omega
   refine jM (lo:=h1.size) (m:=h3.size) (dI.fr (dI.ga o3) f38 fun k hk aI HV=>by have:=aI.2;omega) o8 z3 z8 fA (fun q hq=>by
    simp only[List.mem_cons,List.not_mem_nil,or_false]at hq
    subst hq;exact l1) (by
     rw[List.length_map]
     have:=List.length_filter_le (gX s) (List.range p.toNat)
     rw[List.length_range]at this
     omega) _ fun t2 dV mU f10 V10=> ?_
   refine⟨m-1,by omega,by omega,by omega,?_,(f3.trans (f38.mono fun k _ hk=>by omega)).trans (f10.mono fun k _ hk=>by omega),by have:=f10.size;omega⟩
   rw[show(p+1).toNat=p.toNat+1 by omega,List.range_succ,List.filter_append,List.filter_cons_of_pos (jX.2 (by omega)),List.filter_nil,List.map_append,List.map_cons,List.map_nil]
   have el:kS aD s p.toNat=(jZ aD.length p.toNat (aD[p.toNat]'(by omega)).length (aD[p.toNat]'(by omega))).eraseIdx s.toNat:=by unfold kS;rw[eg]
   rw[el]
   exact mU
 ·have hp:=G.ge e
  have ep:p.toNat=aD.length:=by omega
  rw[ep]at o3
  exact HK x h3 (o3.mono fun k hk aI=>⟨by omega,hk⟩) g3
theorem bL.tl2{S:Nat->Prop}{h:Heap}{s:Sl}{aD:List (List Int)}(H:bL S h s aD)(h1:1<=aD.length):bL S h (s.cut 1 1 s.n s.c) aD.tail:=by
 obtain⟨ss,e,h2,h3⟩:=H.out
 have sn:=H.len
 have c:=cW.cut h2 (l:=1) (m:=s.n) (by omega) (Nat.le_refl _)
 have ec:((ss.map Sl.v).drop (1*1)).take ((s.n-1)*1)=ss.tail.map Sl.v:=by
  rw[List.take_of_length_le (by simp;omega)]
  cases ss<;>rfl
 rw[ec]at c
 refine⟨ss.tail,by simp[e],c,fun i a b=> ?_⟩
 have:=h3 (i+1) (by simp at a;omega) (by simp at b;omega)
 simpa using this
theorem BJ{L:List (Nat×List Value)}{S:Nat->Prop}{h:Heap}{s:Sl}{xs:List Int}(R:aP S h s xs){k:Int}(k0:0<=k)(k1:k<(xs.length:Int))(hb:xs.length<=1000000)(hL:Vars h L)(C:Sl->Heap->Prop)(HC:∀t h',bM h' (fun q=>h.size<=q) t (xs.eraseIdx k.toNat)->Fr No h h'->Vars h' L->C t h'):
 pop Tryz.prog (Instr.sliceAt qD s.v none (some (VI k)) none) fun rv=>∃a:Sl,rv=a.v/\pop Tryz.prog (Instr.sliceAt qD s.v (some (VI (aL (k+1)))) none none) fun rv=>∃b:Sl,rv=b.v/\aE Tryz.prog 87 #[a.v] h fun rv h1=>∃c:Sl,rv=c.v/\Vars h1 L/\jU Tryz.prog (bP qD qD qD c.v b.v) h1 fun H6 h2=>∃d:Sl,H6=d.v/\Vars h2 L/\C d h2:=by
 have sn:=aP.len R
 have sc:=cW.cap R
 have kw:aL (k+1)=k+1:=aH _ (by omega) (by omega)
 rw[kw]
 refine pS fy .i64 k0 (by omega) ⟨_,rfl,ik fy .i64 (by omega) (by omega) ⟨_,rfl,?_⟩⟩
 have r1:=aP.cut R (l:=0) (m:=k.toNat) (Nat.zero_le _) (by omega)
 have r2:=aP.cut R (l:=(k+1).toNat) (m:=s.n) (by omega) (by omega)
 rw[List.drop_zero,Nat.sub_zero]at r1
 rw[List.take_of_length_le (by rw[List.length_drop];omega)]at r2
 refine lC r1 (by rw[List.length_take];omega) _ fun c h1 o1 f1=>⟨c,rfl,hL.aB f1,?_⟩
 have cn:c.n=(xs.take k.toNat).length:=by have:=o1.len;simp at this;simp;omega
 have dn:(s.cut 1 (k+1).toNat s.n s.c).n=s.n-(k+1).toNat:=rfl
 have z1:=f1.size
 have pv:((xs.drop (k+1).toNat).map VI).all fq=true:=by rw[List.all_map,List.all_eq_true];intro x _;rfl
 refine bQ fy (o1.mono (F':=fun q=>h.size<=q) fun q _ hq=>hq.1) (fun q hq=>by omega) (cW.no r2 f1) pv (by rw[cn,dn,List.length_take];omega) fun d h2 hd o2 f2 m2=>⟨d,rfl,?_,?_⟩
 ·exact(hL.aB f1).fr f2 fun p hp ho=>by
   have:=(hL.mem p hp).lt
   have:=(Ow.aG o1 ho).1.1
   omega
 ·rw[<-List.map_append]at o2
  refine HC d h2 ?_ ((f1.aB.trans (f2.mono fun q _ hq=>(Ow.aG o1 hq).1)).mono fun q hq gO=>absurd gO.1 (by omega)) ?_
  ·rw[List.eraseIdx_eq_take_drop_succ,show k.toNat+1=(k+1).toNat by omega]
   exact o2
  ·exact(hL.aB f1).fr f2 fun p hp ho=>by
    have:=(hL.mem p hp).lt
    have:=(Ow.aG o1 ho).1.1
    omega
theorem OD{aD:List (List Int)}{n k:Nat}(Q:Sq (n+1) aD)(hk:k<n+1):Sq n (aD.tail.map fun r=>r.eraseIdx k)/\∀i j,i<n->j<n->bU (aD.tail.map fun r=>r.eraseIdx k) i j=bU aD (i+1) (fo k j):=by
 have ln:=Q.len
 have hr:∀i(h:i<aD.tail.length),aD.tail[i]=aD[i+1]'(by rw[List.length_tail]at h;omega):=fun i h=>by rw[List.getElem_tail]
 refine⟨⟨by simp;omega,fun i hi=> ?_⟩,fun i j hi hj=> ?_⟩
 ·rw[List.length_map]at hi
  rw[List.getElem_map,hr i hi,List.length_eraseIdx,Q.row]
  rw[if_pos hk]
  omega
 ·have gH:i<aD.tail.length:=by rw[List.length_tail];omega
  have h1:i+1<aD.length:=by omega
  have e2:=Q.row (i+1) h1
  have hs:fo k j<(aD[i+1]'h1).length:=by unfold fo;split<;>omega
  rw[gD h1 hs,gD (by rw[List.length_map];exact gH) (by rw[List.getElem_map,hr i gH,List.length_eraseIdx,e2,if_pos hk];omega)]
  have:((aD.tail.map fun r=>r.eraseIdx k)[i]'(by rw[List.length_map];exact gH))=(aD[i+1]'h1).eraseIdx k:=by rw[List.getElem_map,hr i gH]
  have e3:((aD.tail.map fun r=>r.eraseIdx k)[i]'(by rw[List.length_map];exact gH))[j]?=(aD[i+1]'h1)[fo k j]?:=by
   rw[this,List.getElem?_eraseIdx]
   unfold fo
   split<;>rfl
  rw[List.getElem?_eq_getElem (by rw[List.getElem_map,hr i gH,List.length_eraseIdx,e2,if_pos hk];omega),List.getElem?_eq_getElem hs]at e3
  exact Option.some.inj e3
theorem acn(k:Nat):aL (0-jW k)=jW (k+1):=by
 rw[kP]
 unfold jW
 split<;>rfl
theorem OE{n:Nat}{A:jS}(h:∀i j,i<n+1->j<n+1->(A i j).natAbs<=10){t:Nat}(ht:t<=n+1):(bH (fun k=>jW k*A 0 k*cK n (fun i j=>A (i+1) (fo k j))) t).natAbs<=Hb (n+1):=by
 have:=qY (f:=fun k=>jW k*A 0 k*cK n (fun i j=>A (i+1) (fo k j))) (b:=10*Hb n) (n:=t) fun k hk=>by
  (try simp only)
  rw[Int.natAbs_mul,Int.natAbs_mul,Kc,Nat.one_mul]
  exact Nat.mul_le_mul (h 0 k (by omega) (by omega)) (mD fun i j hi hj=>h (i+1) (fo k j) (by omega) (by unfold fo;split<;>omega))
 rw[Hb,Nat.mul_assoc]
 exact Nat.le_trans this (Nat.mul_le_mul_right _ ht)
theorem wM:∀(n:Nat){S:Nat->Prop}{h:Heap}{s:Sl}{aD:List (List Int)}(M:bL S h s aD)(Q:Sq n aD)(hn:n<=7)(hb:Small n (bU aD)),qR Tryz.prog 182 #[s.v] h (VI (cK n (bU aD)))
 |0,S,h,s,aD,M,Q,_,_=>by
  intro K HK
  have sn:=M.len
  have ln:=Q.len
  refine v182 s h K ⟨fun _=>HK h (Fr.refl _ _),fun e=> ?_⟩
  simp only[decide_eq_false_iff_not]at e
  omega
 |n+1,S,h,s,aD,M,Q,hn,hb=>by
  intro K HK
  have sn:=M.len
  have ln:=Q.len
  refine v182 s h K ⟨fun e=> ?_,fun _=> ?_⟩
  ·simp only[decide_eq_true_eq]at e
   omega
  obtain⟨s0,c0,r0⟩:=M.get (i:=0) (Int.le_refl _) (by omega)
  have l0:=Q.row 0 (by omega)
  have r0:aP S h s0 (aD[0]'(by omega)):=r0
  have s0n:=aP.len r0
  refine⟨M.bB (Int.le_refl _) (by omega),s0,c0,?_⟩
  have pb:∀t,t<=n+1->(bH (fun k=>jW k*bU aD 0 k*cK n (fun i j=>bU aD (i+1) (fo k j))) t).natAbs<=50400000000:=fun t ht=>Nat.le_trans (OE hb ht) (Nat.le_trans (ye (show n+1<=7 by omega)) (by rw[WD];exact Nat.le_refl _))
  refine⟨fun m sm sg t h'=>0<=t/\t+m=((n+1:Nat):Int)/\sm=bH (fun k=>jW k*bU aD 0 k*cK n (fun i j=>bU aD (i+1) (fo k j))) t.toNat/\sg=jW t.toNat/\Fr No h h',⟨n+1,Int.le_refl _,by omega,rfl,rfl,Fr.refl _ _⟩,?_⟩
  rintro m sm sg t h1 ⟨t0,t1,rfl,rfl,f1⟩ bF
  have M1:=M.no f1
  have r1:=aP.no r0 f1
  refine⟨fun e=> ?_,fun e=> ?_⟩
  ·have ht:=r1.lt e
   have Wj:t.toNat<n+1:=by omega
   have e00:(aD[0]'(by omega))[t.toNat]'(by omega)=bU aD 0 t.toNat:=(gD (by omega) (by omega)).symm
   have hx:=ui (hb 0 t.toNat (by omega) Wj)
   have tw:aL (t+1)=t+1:=aH _ (by omega) (by omega)
   have nxt:∀(x:Int) h',x=bH (fun k=>jW k*bU aD 0 k*cK n (fun i j=>bU aD (i+1) (fo k j))) (t.toNat+1)->Fr No h h'->∃m':Nat,m'<m/\0<=aL (t+1)/\aL (t+1)+m'=((n+1:Nat):Int)/\x=bH (fun k=>jW k*bU aD 0 k*cK n (fun i j=>bU aD (i+1) (fo k j))) (aL (t+1)).toNat/\aL (0-jW t.toNat)=jW (aL (t+1)).toNat/\Fr No h h':=fun x h' hx f=>by
    rw[tw,show(t+1).toNat=t.toNat+1 by omega]
    exact⟨m-1,by omega,by omega,by omega,hx,acn _,f⟩
   refine⟨r1.bB t0 ht,_,r1.get t0 ht,fun x h'=>x=bH (fun k=>jW k*bU aD 0 k*cK n (fun i j=>bU aD (i+1) (fo k j))) (t.toNat+1)/\Fr No h h',⟨fun e2=> ?_,fun e2=> ?_⟩,fun x h' hx hL'=>nxt x h' hx.1 hx.2⟩
   ·rw[e00]
    refine ik qg .i64 (show(0:Int)<=1 by omega) (by omega) ⟨_,rfl,?_⟩
    have T1:=bL.tl2 M1 (by omega)
    have tln:aD.tail.length=n:=by rw[List.length_tail];omega
    have T1n:(s.cut 1 1 s.n s.c).n=n:=by rw[T1.len,tln]
    have vy:∀{x:Heap},Fr (fun k=>h1.size<=k) h1 x->Fr No h1 x:=fun f=>f.mono fun k hk aI=>absurd aI (by omega)
    refine⟨fun m2 r j h'=>0<=j/\j+m2=(n:Int)/\fQ h' (fun q=>h1.size<=q) r ((aD.tail.take j.toNat).map fun l=>l.eraseIdx t.toNat)/\Fr (fun q=>h1.size<=q) h1 h',⟨n,Int.le_refl _,by omega,dI.nil _ _ _ _,Fr.refl _ _⟩,?_⟩
    rintro m2 r j h2 ⟨j0,j1,o2,f2⟩ bW
    have T2:=T1.no (vy f2)
    refine⟨fun e3=> ?_,fun e3=> ?_⟩
    ·have hj:=T2.lt e3
     obtain⟨sj,cj,rj⟩:=T2.get j0 hj
     have lj:(aD.tail[j.toNat]'(by omega)).length=n+1:=by rw[List.getElem_tail];exact Q.row _ (by omega)
     refine⟨T2.bB j0 hj,sj,cj,BJ rj t0 (by omega) (by omega) .nil _ fun d h4 o4 f4 V4=> ?_⟩
     have z4:=f4.size
     refine jM (lo:=h1.size) (m:=h2.size) (dI.ga o2|>.no f4) o4 f2.size z4 .nil (fun p hp=>by simp at hp) (by rw[List.length_map,List.length_take];omega) _ fun t2 h5 o5 f5 V5=> ?_
     rw[aH (j+1) (by omega) (by omega)]
     refine⟨m2-1,by omega,by omega,by omega,?_,(f2.trans f4.aB).trans f5⟩
     rw[dY _ j0 hj,List.map_append,List.map_cons,List.map_nil]
     exact o5
    ·have hj:=T2.ge e3
     rw[List.take_of_length_le (by omega)]at o2
     obtain⟨Qr,er⟩:=OD Q Wj
     have hbr:Small n (bU (aD.tail.map fun r=>r.eraseIdx t.toNat)):=fun i j hi hj=>by rw[er i j hi hj];exact hb _ _ (by omega) (by unfold fo;split<;>omega)
     refine wM n (dI.rd o2) Qr (by omega) hbr _ fun h7 f7=>⟨_,rfl,.nil,?_,f1.aA ((vy f2).aA f7)⟩
     rw[dG er]
     rw[bH]
     have b1:=ui (pb t.toNat (by omega))
     have b2:=ui (pb (t.toNat+1) (by omega))
     rw[bH]at b2
     have b3: -10<=jW t.toNat*bU aD 0 t.toNat/\jW t.toNat*bU aD 0 t.toNat<=10:=by
      unfold jW
      split<;>omega
     rw[aH (jW t.toNat*bU aD 0 t.toNat) (by omega) (by omega)]
     generalize jW t.toNat*bU aD 0 t.toNat*cK n (fun i j=>bU aD (i+1) (fo t.toNat j))=y at b2⊢
     generalize bH (fun k=>jW k*bU aD 0 k*cK n (fun i j=>bU aD (i+1) (fo k j))) t.toNat=z at b1 b2⊢
     rw[aH y (by omega) (by omega),aH (z+y) (by omega) (by omega)]
   ·rw[e00]at e2
    simp only[Bool.not_eq_false',decide_eq_true_eq]at e2
    refine⟨?_,f1⟩
    rw[bH,e2]
    simp
  ·have ht:=r1.ge e
   have:t.toNat=n+1:=by omega
   rw[this]
   exact HK h1 f1
theorem FP{S:Nat->Prop}{h:Heap}{g:Sl}{aD:List (List Int)}(G:bL S h g aD)(hg:aM aD=true){s:Int}(s0:0<=s)(s1:s<(aD.length:Int))(K:Value->Heap->Prop)(HK:∀t h',fQ h' (Iv h.size h'.size) t (vS aD s)->Fr No h h'->K t.v h'):aE Tryz.prog 183 #[.agg #[g.v],VI s] h K:=by
 refine v183 g s h K fun b1 h1 dT f1 bF=> ?_
 have f1:=f1.aF
 have z1:=f1.size
 have l1:b1<h1.size:=bF.head.lt
 have gl:=aO hg
 have gn:=G.len
 have vy:∀{x:Heap},Fr (fun k=>h.size<=k) h x->Fr No h x:=fun f=>f.mono fun k hk aI=>absurd aI (by omega)
 refine⟨fun m x p h'=>0<=p/\p+m=(aD.length:Int)/\fQ h' (fun k=>h1.size<=k) x (((List.range p.toNat).filter (gX s)).map (kS aD s))/\Fr (fun k=>h.size<=k) h h'/\h1.size<=h'.size,⟨aD.length,Int.le_refl _,by omega,dI.nil _ _ _ _,f1.aB,Nat.le_refl _⟩,?_⟩
 rintro m x p h3 ⟨p0,p1,o3,f3,z3⟩ cF
 have g3:=vy f3
 refine⟨fun e=> ?_,fun e=> ?_⟩
 ·have hp:=G.lt e
  have G3:=G.no g3
  obtain⟨sp,cp,rp⟩:=G3.get p0 hp
  have pl:=rp.len
  have eg:aD.getD p.toNat []=aD[p.toNat]'(by omega):=aR (by omega)
  have gm:=aT hg (List.getElem_mem (show p.toNat<aD.length by omega))
  rw[G.succ p0 hp]
  refine⟨G3.bB p0 hp,sp,cp,fun e2=> ?_,fun e2=> ?_⟩
  ·simp only[decide_eq_true_eq]at e2
   refine⟨m-1,by omega,by omega,by omega,?_,f3,z3⟩
   rw[show(p+1).toNat=p.toNat+1 by omega,List.range_succ,List.filter_append,List.filter_cons_of_neg (tZ (by omega)),List.filter_nil,List.append_nil]
   exact o3
  simp only[decide_eq_false_iff_not]at e2
  refine eB fy (fun k=>h3.size<=k) (fun _ h=>h) .i64 .i64 g.n g.n (Nat.le_refl _) (by omega) fun t h4 n4 c4 o4 f4 m4 _=>⟨t,rfl,cF.aB f4,?_⟩
  have z4:=f4.size
  have o4:bM h4 (fun k=>h3.size<=k) t (List.replicate aD.length 0):=by
   have e:(List.replicate g.n [VI 0]).flatten=(List.replicate aD.length (0:Int)).map VI:=by rw[gn];simp[List.flatten_replicate_singleton]
   rw[e]at o4;exact o4
  refine gf (L:=[(b1,[g.v])]) (F:=fun k=>h3.size<=k) o4 p0 (by rw[List.length_replicate];omega) (cF.aB f4) (fun q hq=>by
   simp only[List.mem_cons,List.not_mem_nil,or_false]at hq
   subst hq;show¬h3.size<=b1;omega) _ fun h5 o5 f5 V5=> ?_
  rw[pl,<-yp (by omega)]at o5
  have f35:=(f4.aB (T:=fun k=>h3.size<=k)).trans f5
  refine⟨fun m2 j h'=>0<=j/\j+m2=((aD[p.toNat]'(by omega)).length:Int)/\bM h' (fun k=>h3.size<=k) t (jZ aD.length p.toNat (aD[p.toNat]'(by omega)).length ((aD[p.toNat]'(by omega)).take j.toNat))/\Fr (fun k=>h3.size<=k) h3 h',⟨(aD[p.toNat]'(by omega)).length,Int.le_refl _,by omega,by simpa using o5,f35⟩,?_⟩
  rintro m2 j h6 ⟨j0,j1,o6,f6⟩ iY
  have r6:=(rp.low.fr f6 fun k hk aI=>by omega)
  refine⟨fun e3=> ?_,fun e3=> ?_⟩
  ·have hj:=r6.lt e3
   have hv:=gm.2 _ (List.getElem_mem (show j.toNat<(aD[p.toNat]'(by omega)).length by omega))
   have R6:=o6.eQ
   have rl:=iO aD.length p.toNat (aD[p.toNat]'(by omega)).length ((aD[p.toNat]'(by omega)).take j.toNat)
   have QA:(aD[p.toNat]'(by omega))[j.toNat]'(by omega)<((jZ aD.length p.toNat (aD[p.toNat]'(by omega)).length ((aD[p.toNat]'(by omega)).take j.toNat)).length:Int):=by rw[rl];omega
   refine⟨r6.bB j0 hj,_,r6.get j0 hj,aP.bB R6 hv.1 QA,_,aP.get R6 hv.1 QA,gf (L:=[(b1,[g.v])]) (F:=fun k=>h3.size<=k) o6 hv.1 QA iY (fun q hq=>by
    simp only[List.mem_cons,List.not_mem_nil,or_false]at hq
    subst hq;show¬h3.size<=b1;omega) _ fun h7 o7 f7 V7=> ?_⟩
   rw[aP.succ r6 j0 hj]
   refine⟨m2-1,by omega,by omega,by omega,?_,f6.trans f7⟩
   rw[dY _ j0 hj,BF hv.1 hv.2,aN (show((aD[p.toNat]'(by omega))[j.toNat]'(by omega)).toNat<(jZ aD.length p.toNat (aD[p.toNat]'(by omega)).length ((aD[p.toNat]'(by omega)).take j.toNat)).length by omega)]
   have hb:aL ((jZ aD.length p.toNat (aD[p.toNat]'(by omega)).length ((aD[p.toNat]'(by omega)).take j.toNat))[((aD[p.toNat]'(by omega))[j.toNat]'(by omega)).toNat]'(by omega)-1)=(jZ aD.length p.toNat (aD[p.toNat]'(by omega)).length ((aD[p.toNat]'(by omega)).take j.toNat))[((aD[p.toNat]'(by omega))[j.toNat]'(by omega)).toNat]'(by omega)-1:=by
    rw[mK]
    have ob:=jq ((((aD[p.toNat]'(by omega))[j.toNat]'(by omega)).toNat:Nat):Int) ((aD[p.toNat]'(by omega)).take j.toNat)
    rw[List.length_take]at ob
    have:=gm.1
    exact aH _ (by split<;>omega) (by split<;>omega)
   rw[hb]at o7
   exact o7
  ·have hj:=r6.ge e3
   rw[List.take_of_length_le (by omega)]at o6
   refine BJ o6.eQ s0 (by rw[iO];omega) (by rw[iO];omega) iY _ fun t8 h8 o8 f8 V8=> ?_
   have f8':Fr (fun k=>h3.size<=k) h6 h8:=f8.aB
   have z6:=f6.size
   have o8:=o8.mono (F':=fun k=>h3.size<=k) fun k _ hk=>by omega
   have f38:=f6.trans f8'
   have z8:=f38.size
   have fA:Vars h8 [(b1,[g.v])]:=V8
   refine jM (lo:=h1.size) (m:=h3.size) (dI.fr (dI.ga o3) f38 fun k hk aI HV=>by have:=aI.2;omega) o8 z3 z8 fA (fun q hq=>by
    simp only[List.mem_cons,List.not_mem_nil,or_false]at hq
    subst hq;exact l1) (by
     rw[List.length_map]
     have:=List.length_filter_le (gX s) (List.range p.toNat)
     rw[List.length_range]at this
     omega) _ fun t2 dV mU f10 V10=> ?_
   refine⟨m-1,by omega,by omega,by omega,?_,(f3.trans (f38.mono fun k _ hk=>by omega)).trans (f10.mono fun k _ hk=>by omega),by have:=f10.size;omega⟩
   rw[show(p+1).toNat=p.toNat+1 by omega,List.range_succ,List.filter_append,List.filter_cons_of_pos (jX.2 (by omega)),List.filter_nil,List.map_append,List.map_cons,List.map_nil]
   have el:kS aD s p.toNat=(jZ aD.length p.toNat (aD[p.toNat]'(by omega)).length (aD[p.toNat]'(by omega))).eraseIdx s.toNat:=by unfold kS;rw[eg]
   rw[el]
   exact mU
 ·have hp:=G.ge e
  have ep:p.toNat=aD.length:=by omega
  rw[ep]at o3
  exact HK x h3 (o3.mono fun k hk aI=>⟨by omega,hk⟩) g3
theorem yq(f:Nat->Int):∀n,bH f (n+1)=f 0+bH (fun k=>f (k+1)) n
 |0=>by simp[bH]
 |n+1=>by rw[bH,yq f n,bH];omega
theorem KA(f:Nat->Int){a:Nat}:∀{n:Nat},a+1<n->bH (fun k=>f (fC a (a+1) k)) n=bH f n
 |n+2,h=>by
  by_cases e:a=n
  ·subst e
   have h1:bH (fun k=>f (fC a (a+1) k)) a=bH f a:=cC fun k hk=>by
    (try simp only)
    unfold fC
    rw[if_neg (by omega),if_neg (by omega)]
   have h2:fC a (a+1) a=a+1:=by unfold fC;rw[if_pos rfl]
   have h3:fC a (a+1) (a+1)=a:=by unfold fC;rw[if_neg (by omega),if_pos rfl]
   rw[bH,bH,bH,bH,h1,h2,h3]
   omega
  ·have ih:=KA f (show a+1<n+1 by omega)
   show bH (fun k=>f (fC a (a+1) k)) (n+1)+f (fC a (a+1) (n+1))=bH f (n+1)+f (n+1)
   rw[ih]
   have h2:fC a (a+1) (n+1)=n+1:=by unfold fC;rw[if_neg (by omega),if_neg (by omega)]
   rw[h2]
theorem uk:∀{n a:Nat}(C:jS),a+1<n->cK n (fun i c=>C i (fC a (a+1) c))= -cK n C
 |n+1,a,C,h=>by
  rw[cK,cK]
  have key:∀k,k<n+1->(jW k*C 0 (fC a (a+1) k)*cK n (fun i j=>C (i+1) (fC a (a+1) (fo k j))))= -(fun k=>jW k*C 0 k*cK n (fun i j=>C (i+1) (fo k j))) (fC a (a+1) k):=fun k hk=>by
   simp only
   by_cases e1:k=a
   ·subst e1
    have s1:fC k (k+1) k=k+1:=by unfold fC;rw[if_pos rfl]
    rw[s1,kP]
    have:(fun i j=>C (i+1) (fC k (k+1) (fo k j)))=fun i j=>C (i+1) (fo (k+1) j):=by
     funext i j
     congr 1
     unfold fC fo
     by_cases x:j<k
     ·rw[if_pos x,if_neg (by omega),if_neg (by omega),if_pos (by omega)]
     ·rw[if_neg x,if_neg (by omega)]
      by_cases y:j=k
      ·rw[if_pos (by omega),if_pos (by omega)];exact y.symm
      ·rw[if_neg (by omega),if_neg (by omega)]
    rw[this,Int.neg_mul,Int.neg_mul,Int.neg_neg]
   by_cases e2:k=a+1
   ·subst e2
    have s1:fC a (a+1) (a+1)=a:=by unfold fC;rw[if_neg (by omega),if_pos rfl]
    rw[s1,kP]
    have:(fun i j=>C (i+1) (fC a (a+1) (fo (a+1) j)))=fun i j=>C (i+1) (fo a j):=by
     funext i j
     congr 1
     unfold fC fo
     by_cases x:j<a
     ·rw[if_pos (show j<a+1 by omega),if_pos x,if_neg (by omega),if_neg (by omega)]
     ·rw[if_neg x]
      by_cases y:j=a
      ·rw[if_pos (show j<a+1 by omega),if_pos y];omega
      ·rw[if_neg (show¬j<a+1 by omega),if_neg (by omega),if_neg (by omega)]
    rw[this,Int.neg_mul,Int.neg_mul]
   have s1:fC a (a+1) k=k:=by unfold fC;rw[if_neg e1,if_neg e2]
   rw[s1,<-Int.mul_neg]
   congr 1
   by_cases l:k<a
   ·obtain⟨b,rfl⟩:∃b,a=b+1:=⟨a-1,by omega⟩
    rw[<-uk (n:=n) (a:=b) (fun i j=>C (i+1) (fo k j)) (by omega)]
    congr 1
    funext i j
    congr 1
    unfold fC fo
    (repeat' split)<;>omega
   ·rw[<-uk (n:=n) (a:=a) (fun i j=>C (i+1) (fo k j)) (by omega)]
    congr 1
    funext i j
    congr 1
    unfold fC fo
    (repeat' split)<;>omega
  have e:=cC key
  rw[e,my,KA (fun k=>jW k*C 0 k*cK n (fun i j=>C (i+1) (fo k j))) h]
def MA(j c:Nat):Nat:=if c=0 then j else if c<=j then c-1 else c
theorem BK:∀{n j:Nat}(C:jS),j<n->cK n (fun i c=>C i (MA j c))=jW j*cK n C
 |n,0,C,h=>by
  have:(fun i c=>C i (MA 0 c))=C:=by
   funext i c
   congr 1
   unfold MA
   by_cases e:c=0
   ·rw[if_pos e];exact e.symm
   ·rw[if_neg e,if_neg (by omega)]
  rw[this]
  show cK n C=1*cK n C
  rw[Int.one_mul]
 |n,j+1,C,h=>by
  have:(fun i c=>C i (MA (j+1) c))=fun i c=>(fun i c=>C i (fC j (j+1) c)) i (MA j c):=by
   funext i c
   (try simp only)
   congr 1
   unfold MA fC
   by_cases e:c=0
   ·rw[if_pos e,if_pos e,if_pos rfl]
   ·rw[if_neg e,if_neg e]
    by_cases l:c<=j
    ·rw[if_pos (by omega),if_pos l,if_neg (by omega),if_neg (by omega)]
    ·rw[if_neg l]
     by_cases z:c=j+1
     ·rw[if_pos (by omega),if_neg (by omega),if_pos z];omega
     ·rw[if_neg (by omega),if_neg (by omega),if_neg z]
  rw[this,BK (fun i c=>C i (fC j (j+1) c)) (by omega),uk C h,kP,Int.mul_neg,Int.neg_mul]
def nI(A:jS)(j:Nat)(r:Nat->Int):jS:=fun i k=>if k=j then r i else A i k
theorem WH(j:Nat):jW j*jW j=1:=by unfold jW;split<;>rfl
theorem WI{n:Nat}(A:jS)(r:Nat->Int){i:Nat}(hi:i<n):bH (fun j=>A i j*cK n (nI A j r)) n=cK n A*r i:=by
 have hz:cK (n+1) (fun a b=>(fun(x:Nat)(y:Nat)=>match y with|0=>r x|y+1=>A x y) (match a with|0=>i|a+1=>a) b)=0:=
  Ft (i:=0) (j:=i+1) _ (by omega) (by omega) (by omega) rfl
 rw[cK,yq]at hz
 have h0:jW 0*(fun(x:Nat)(y:Nat)=>match y with|0=>r x|y+1=>A x y) i 0*cK n (fun a b=>(fun(x:Nat)(y:Nat)=>match y with|0=>r x|y+1=>A x y) a (fo 0 b))=r i*cK n A:=by
  show 1*r i*cK n _=_
  rw[Int.one_mul]
  rfl
 have hs:∀j,j<n->jW (j+1)*A i j*cK n (fun a b=>(fun(x:Nat)(y:Nat)=>match y with|0=>r x|y+1=>A x y) a (fo (j+1) b))= -(A i j*cK n (nI A j r)):=fun j hj=>by
  have e:(fun a b=>(fun(x:Nat)(y:Nat)=>match y with|0=>r x|y+1=>A x y) a (fo (j+1) b))=fun a b=>nI A j r a (MA j b):=by
   funext a b
   cases b with
   |zero=>simp[fo,MA,nI]
   |succ b=>
    (try simp only)
    by_cases l:b+1<=j
    ·have s1:fo (j+1) (b+1)=b+1:=by unfold fo;rw[if_pos (by omega)]
     have s2:MA j (b+1)=b:=by unfold MA;rw[if_neg (by omega),if_pos l];rfl
     rw[s1,s2]
     unfold nI
     rw[if_neg (by omega)]
    ·have s1:fo (j+1) (b+1)=b+2:=by unfold fo;rw[if_neg (by omega)]
     have s2:MA j (b+1)=b+1:=by unfold MA;rw[if_neg (by omega),if_neg l]
     rw[s1,s2]
     unfold nI
     rw[if_neg (by omega)]
  rw[e,BK (nI A j r) hj,kP,Int.neg_mul,Int.neg_mul]
  congr 1
  rw[Int.mul_assoc,Int.mul_left_comm (A i j),<-Int.mul_assoc,WH,Int.one_mul]
 have e2:bH (fun j=>jW (j+1)*A i j*cK n (fun a b=>(fun(x:Nat)(y:Nat)=>match y with|0=>r x|y+1=>A x y) a (fo (j+1) b))) n= -bH (fun j=>A i j*cK n (nI A j r)) n:=by
  rw[<-my]
  exact cC hs
 have e3:r i*cK n A+ -bH (fun j=>A i j*cK n (nI A j r)) n=0:=by
  rw[<-h0,<-e2]
  exact hz
 rw[Int.mul_comm (cK n A)]
 omega
def qm(a b:Int)(p:Nat):Bool:= !decide ((p:Int)=a)&& !decide ((p:Int)=b)
theorem kT{a b:Int}{p:Nat}:qm a b p=true↔(p:Int)≠a/\(p:Int)≠b:=by unfold qm;simp
def bR(n:Nat)(a b:Int):List Nat:=(List.range n).filter (qm a b)
theorem dZ{n:Nat}{a b:Int}{p:Nat}:p∈bR n a b↔p<n/\(p:Int)≠a/\(p:Int)≠b:=by
 unfold bR
 rw[List.mem_filter,List.mem_range,kT]
theorem C8(n:Nat)(a b:Int):(bR n a b).Nodup:=List.Pairwise.filter _ List.nodup_range
def gq(g:List (List Int))(a b:Int):Tn:=(bR g.length a b).map fun p:Nat=>((p:Int),g.getD p [])
def OG(g:List (List Int))(a b:Int):Bool:=(List.range g.length).all fun p:Nat=> !(decide ((gj g p).getD a.toNat 0<0)&&decide ((gj g p).getD b.toNat 0<0))&& !(qm a b p&&decide ((g.getD p []).length=0))
def lE(g:List (List Int))(a b:Int):Bool:=aM g&&iB 0 ((g.length:Int)-1) a&&iB 0 ((g.length:Int)-1) b&& !decide (a=b)
def Is(g:List (List Int))(a b:Int):Bool:=lE g a b&&OG g a b
structure Can(g:List (List Int))(a b:Int):Prop where
 bE:aM g=true
 a0:0<=a
 a1:a<(g.length:Int)
 b0:0<=b
 b1:b<(g.length:Int)
 ne:a≠b
 cT:∀p:Nat,p<g.length->0<=(gj g p).getD a.toNat 0\/0<=(gj g p).getD b.toNat 0
 out:∀p:Nat,p<g.length->(p:Int)≠a->(p:Int)≠b->(g.getD p []).length≠0
theorem Iu{g:List (List Int)}{a b:Int}(h:lE g a b=true):aM g=true/\(0<=a/\a<(g.length:Int))/\(0<=b/\b<(g.length:Int))/\a≠b:=by
 unfold lE at h
 simp only[Bool.and_eq_true,Bool.not_eq_true',decide_eq_false_iff_not,aZ]at h
 exact⟨h.1.1.1,by omega,by omega,h.2⟩
theorem OH{g:List (List Int)}{a b:Int}(h:Is g a b=true):Can g a b:=by
 unfold Is at h
 rw[Bool.and_eq_true]at h
 obtain⟨hg,⟨a0,a1⟩,⟨b0,b1⟩,eA⟩:=Iu h.1
 have he:=h.2
 unfold OG at he
 rw[List.all_eq_true]at he
 refine⟨hg,a0,a1,b0,b1,eA,fun p hp=> ?_,fun p hp pa pb hz=> ?_⟩
 ·have:=he p (List.mem_range.2 hp)
  simp only[Bool.and_eq_true,Bool.not_eq_true',Bool.and_eq_false_iff,decide_eq_false_iff_not]at this
  omega
 ·have:=he p (List.mem_range.2 hp)
  rw[kT.2 ⟨pa,pb⟩,decide_eq_true hz]at this
  simp at this
theorem Can.turn{g:List (List Int)}{a b:Int}(h:Can g a b):Can g b a:=⟨h.bE,h.b0,h.b1,h.a0,h.a1,fun e=>h.ne e.symm,fun p hp=>(h.cT p hp).symm,fun p hp x y=>h.out p hp y x⟩
def pt(f:Int->Int)(l:List Int):Int:=(l.map f).sum
theorem pu(f:Int->Int):pt f []=0:=rfl
theorem iu(f:Int->Int)(x:Int)(l:List Int):pt f (x::l)=f x+pt f l:=by unfold pt;rw[List.map_cons,List.sum_cons]
theorem FQ(f f':Int->Int):∀l,pt (fun x=>f x+f' x) l=pt f l+pt f' l
 |[]=>rfl
 |x::l=>by rw[iu,iu,iu,FQ f f' l];omega
theorem FR(c:Int)(f:Int->Int):∀l,pt (fun x=>c*f x) l=c*pt f l
 |[]=>by rw[pu,pu,Int.mul_zero]
 |x::l=>by rw[iu,iu,FR c f l,Int.mul_add]
theorem yt(c:Int):∀l:List Int,pt (fun _=>c) l=l.length*c
 |[]=>by rw[pu];simp
 |x::l=>by rw[iu,yt c l,List.length_cons];rw[show((l.length+1:Nat):Int)=(l.length:Int)+1 by omega,Int.add_mul];omega
theorem OI{f:Int->Int}{u:Int}:∀l:List Int,(∀x,x∈l->u<=f x)->(l.length:Int)*u<=pt f l/\(pt f l<=l.length*u->∀x,x∈l->f x=u)
 |[],_=>⟨by rw[pu];simp,fun _ x hx=>by simp at hx⟩
 |x::l,h=>by
  obtain⟨h1,h2⟩:=OI l fun y hy=>h y (List.mem_cons_of_mem _ hy)
  have h0:=h x List.mem_cons_self
  rw[iu,List.length_cons,show((l.length+1:Nat):Int)=(l.length:Int)+1 by omega,Int.add_mul,Int.one_mul]
  refine⟨by omega,fun hle y hy=> ?_⟩
  rcases List.mem_cons.1 hy with rfl|hy
  ·omega
  ·exact h2 (by omega) y hy
theorem OJ(f:Int->Int):∀n:Nat,0<n->∃p:Nat,p<n/\∀q:Nat,q<n->f p<=f q
 |1,_=>⟨0,by omega,fun q hq=>by rw[show q=0 by omega];exact Int.le_refl _⟩
 |n+2,_=>by
  obtain⟨p,hp,hq⟩:=OJ f (n+1) (by omega)
  by_cases h:f p<=f ((n+1:Nat):Int)
  ·refine⟨p,by omega,fun q h2=> ?_⟩
   by_cases e:q=n+1
   ·rw[e];exact h
   ·exact hq q (by omega)
  ·refine⟨n+1,by omega,fun q h2=> ?_⟩
   by_cases e:q=n+1
   ·rw[e];exact Int.le_refl _
   ·have:=hq q (by omega);omega
theorem Can.low{g:List (List Int)}{a b:Int}(C:Can g a b)(f:Int->Int)(ha:0<=f a)(hb:0<=f b)(H:∀p:Nat,p<g.length->(p:Int)≠a->(p:Int)≠b->pt f (g.getD p [])<=(g.getD p []).length*f p):∀p:Nat,p<g.length->0<=f p:=fun p0 NN=>by
 obtain⟨p,hp,hm⟩:=OJ f g.length (by omega)
 refine Classical.byContradiction fun hn=> ?_
 have hu:f p<0:=by have:=hm p0 NN;omega
 have key:∀(k:Nat)(q:Int),Way g p k q->f q=f p:=by
  intro k
  induction k with
  |zero=>intro q hq;rw[<-show(p:Int)=q from hq]
  |succ k ih=>
   rintro q ⟨x,hx,hq⟩
   have xr:=Way.rng C.bE (show(0:Int)<=p by omega) (by omega) hx
   have ex:=ih x hx
   have xe:((x.toNat:Nat):Int)=x:=by omega
   have hle:=H x.toNat (by omega) (by rw[xe];intro e;rw[e]at ex;omega) (by rw[xe];intro e;rw[e]at ex;omega)
   rw[xe,ex]at hle
   refine(OI (u:=f p) _ fun y hy=> ?_).2 hle q hq
   have hy':=hy
   rw[aR (by omega)]at hy'
   have yr:=(aT C.bE (List.getElem_mem (show x.toNat<g.length by omega))).2 y hy'
   have:=hm y.toNat (by omega)
   rw[show((y.toNat:Nat):Int)=y by omega]at this
   exact this
 rcases C.cT p hp with h|h
 ·have:=key _ _ (wD (p:=(p:Int)) C.bE (by omega) (by omega) C.a0 C.a1 h)
  omega
 ·have:=key _ _ (wD (p:=(p:Int)) C.bE (by omega) (by omega) C.b0 C.b1 h)
  omega
theorem Way.fst{g:List (List Int)}{p:Int}:∀{k:Nat}{s:Int},Way g p (k+1) s->∃e,e∈g.getD p.toNat []/\Way g e k s
 |0,s,h=>by
  obtain⟨x,hx,hs⟩:=h
  rw[<-show p=x from hx]at hs
  exact⟨s,hs,rfl⟩
 |k+1,s,h=>by
  obtain⟨x,hx,hs⟩:=h
  obtain⟨e,he,hw⟩:=Way.fst hx
  exact⟨e,he,x,hw,hs⟩
def rm(g:List (List Int))(a b p:Int):Nat:=(if(gj g p).getD a.toNat 0<0 then(gj g p).getD b.toNat 0 else if(gj g p).getD b.toNat 0<0 then(gj g p).getD a.toNat 0 else min ((gj g p).getD a.toNat 0) ((gj g p).getD b.toNat 0)).toNat
theorem Can.dst{g:List (List Int)}{a b:Int}(C:Can g a b){p:Nat}(hp:p<g.length):(Way g p (rm g a b p) a\/Way g p (rm g a b p) b)/\∀k,Way g p k a\/Way g p k b->rm g a b p<=k:=by
 have p0:(0:Int)<=p:=by omega
 have p1:(p:Int)<(g.length:Int):=by omega
 have wa:=wD (p:=(p:Int)) (q:=a) C.bE p0 p1 C.a0 C.a1
 have wb:=wD (p:=(p:Int)) (q:=b) C.bE p0 p1 C.b0 C.b1
 have hf:=C.cT p hp
 have la:∀k,Way g p k a->_:=fun k h=>Ie C.bE p0 p1 h
 have lb:∀k,Way g p k b->_:=fun k h=>Ie C.bE p0 p1 h
 unfold rm
 generalize (gj g (p:Int)).getD a.toNat 0=x at*
 generalize (gj g (p:Int)).getD b.toNat 0=y at*
 refine⟨?_,fun k hk=> ?_⟩
 ·split
  ·exact .inr (wb (by omega))
  ·split
   ·exact .inl (wa (by omega))
   ·by_cases h:x<=y
    ·rw[Int.min_eq_left h];exact .inl (wa (by omega))
    ·rw[Int.min_eq_right (by omega)];exact .inr (wb (by omega))
 ·rcases hk with h|h
  ·have:=la k h
   rw[if_neg (by omega)]
   split<;>omega
  ·have:=lb k h
   split
   ·omega
   ·rw[if_neg (by omega)];omega
theorem Can.WJ{g:List (List Int)}{a b:Int}(C:Can g a b){p:Nat}(hp:p<g.length)(pa:(p:Int)≠a)(pb:(p:Int)≠b):∃e,e∈g.getD p []/\rm g a b e<rm g a b p:=by
 obtain⟨hw,_⟩:=C.dst hp
 have hz:rm g a b p≠0:=fun h=>by
  rw[h]at hw
  rcases hw with h|h
  ·exact pa h
  ·exact pb h
 obtain⟨m,hm⟩:∃m,rm g a b p=m+1:=⟨rm g a b p-1,by omega⟩
 rw[hm]at hw⊢
 have key:∀s,Way g p (m+1) s->s=a\/s=b->∃e,e∈g.getD p []/\rm g a b e<m+1:=fun s h hs=>by
  obtain⟨e,he,hv⟩:=Way.fst h
  rw[show((p:Int)).toNat=p from rfl]at he
  refine⟨e,he,?_⟩
  rw[aR hp]at he
  have er:=(aT C.bE (List.getElem_mem hp)).2 e he
  have:=(C.dst (p:=e.toNat) (by omega)).2 m
  rw[show((e.toNat:Nat):Int)=e by omega]at this
  have:=this (by rcases hs with rfl|rfl;exact .inl hv;exact .inr hv)
  omega
 rcases hw with h|h
 ·exact key a h (.inl rfl)
 ·exact key b h (.inr rfl)
theorem vA{α β:Type}(f:α->List β)(c:α->β):∀l:List α,(∀x,x∈l->c x∈f x)->l.map c∈dA (l.map f)
 |[],_=>List.mem_singleton.2 rfl
 |x::l,h=>by
  rw[List.map_cons,List.map_cons,dA,List.mem_flatMap]
  exact⟨c x,h x List.mem_cons_self,List.mem_map.2 ⟨_,vA f c l fun y hy=>h y (List.mem_cons_of_mem _ hy),rfl⟩⟩
theorem FT{α:Type}:∀(l:List (List α))(m:Nat),(∀x,x∈l->x.length<=m)->(dA l).length<=m^l.length
 |[],m,_=>by simp[dA]
 |x::l,m,h=>by
  have ih:=FT l m fun y hy=>h y (List.mem_cons_of_mem _ hy)
  have hx:=h x List.mem_cons_self
  rw[dA,List.length_flatMap,List.length_cons,Nat.pow_succ]
  have:(x.map fun a=>((dA l).map (a:: ·)).length)=x.map fun _=>(dA l).length:=List.map_congr_left fun a _=>by rw[List.length_map]
  rw[this,List.map_const',List.sum_replicate_nat]
  rw[Nat.mul_comm (m^l.length)]
  exact Nat.mul_le_mul hx ih
theorem FU{α β γ:Type}(f:α->β)(c:α->γ):∀l:List α,(l.map f).zip (l.map c)=l.map fun x=>(f x,c x)
 |[]=>rfl
 |x::l=>by rw[List.map_cons,List.map_cons,List.map_cons,List.zip_cons_cons,FU f c l]
def jT(g:List (List Int))(a b:Int):Int:=cK (bR g.length a b).length (iD (gq g a b))
theorem yu(g:List (List Int))(a b:Int):(gq g a b).length=(bR g.length a b).length:=by unfold gq;rw[List.length_map]
theorem KB(g:List (List Int))(a b:Int):((gq g a b).map (·.1)).Nodup:=by
 unfold gq
 rw[List.map_map]
 refine List.Pairwise.map _ (fun x y h e=>h ?_) (C8 g.length a b)
 simp only[Function.comp]at e
 omega
theorem KC(g:List (List Int))(a b:Int):jT g a b=(((dA ((gq g a b).map (·.2))).countP fun c=>Mw (bR g.length a b).length (((gq g a b).map (·.1)).zip c):Nat):Int):=by
 unfold jT
 rw[CQ _ _ (yu g a b) (KB g a b),yf _ _ (yu g a b)]
theorem Can.pos{g:List (List Int)}{a b:Int}(C:Can g a b):0<jT g a b:=by
 rw[KC]
 have step:∀p:Nat,∃e:Int,p∈bR g.length a b->e∈g.getD p []/\rm g a b e<rm g a b p:=fun p=>by
  by_cases hp:p∈bR g.length a b
  ·obtain⟨h1,h2,h3⟩:=dZ.1 hp
   obtain⟨e,he⟩:=C.WJ h1 h2 h3
   exact⟨e,fun _=>he⟩
  ·exact⟨0,fun h=>absurd h hp⟩
 let f:Nat->Int:=fun p=>Classical.choose (step p)
 have hf:∀p:Nat,p∈bR g.length a b->f p∈g.getD p []/\rm g a b (f p)<rm g a b p:=fun p=>Classical.choose_spec (step p)
 have hc:(bR g.length a b).map f∈dA ((gq g a b).map (·.2)):=by
  unfold gq
  rw[List.map_map]
  exact vA _ _ _ fun p hp=>(hf p hp).1
 have hk:Mw (bR g.length a b).length (((gq g a b).map (·.1)).zip ((bR g.length a b).map f))=true:=by
  unfold gq
  rw[List.map_map,FU]
  refine(CR _ _ (by rw[List.length_map]) ?_).2 ⟨fun x=>rm g a b x,fun t ht _=> ?_⟩
  ·have:=KB g a b
   unfold gq at this
   rw[List.map_map]at this⊢
   exact this
  ·obtain⟨p,hp,rfl⟩:=List.mem_map.1 ht
   exact(hf p hp).2
 have:0<(dA ((gq g a b).map (·.2))).countP fun c=>Mw (bR g.length a b).length (((gq g a b).map (·.1)).zip c):=List.countP_pos_iff.2 ⟨_,hc,hk⟩
 omega
theorem sR{n:Nat}{a b:Int}(h0:0<=a)(h1:a<(n:Int))(k0:0<=b)(k1:b<(n:Int))(eA:a≠b):(bR n a b).length+2=n:=by
 have key:∀m:Nat,(bR m a b).length+((if a<(m:Int)then 1 else 0)+(if b<(m:Int)then 1 else 0))=m:=by
  intro m
  induction m with
  |zero=>rw[if_neg (by omega),if_neg (by omega)];rfl
  |succ m ih=>
   unfold bR at ih⊢
   rw[List.range_succ,List.filter_append,List.length_append]
   by_cases e1:(m:Int)=a
   ·rw[List.filter_cons_of_neg (by rw[kT];exact fun h=>h.1 e1),List.filter_nil,List.length_nil]
    by_cases e2:b<(m:Int)
    ·rw[if_neg (by omega),if_pos e2]at ih
     rw[if_pos (by omega),if_pos (by omega)];omega
    ·rw[if_neg (by omega),if_neg e2]at ih
     rw[if_pos (by omega),if_neg (by omega)];omega
   ·by_cases e2:(m:Int)=b
    ·rw[List.filter_cons_of_neg (by rw[kT];exact fun h=>h.2 e2),List.filter_nil,List.length_nil]
     by_cases e3:a<(m:Int)
     ·rw[if_pos e3,if_neg (by omega)]at ih
      rw[if_pos (by omega),if_pos (by omega)];omega
     ·rw[if_neg e3,if_neg (by omega)]at ih
      rw[if_neg (by omega),if_pos (by omega)];omega
    ·rw[List.filter_cons_of_pos (kT.2 ⟨e1,e2⟩),List.filter_nil,List.length_cons,List.length_nil]
     rw[show(if a<((m+1:Nat):Int)then 1 else 0)=(if a<(m:Int)then 1 else 0) by split<;>split<;>omega,show(if b<((m+1:Nat):Int)then 1 else 0)=(if b<(m:Int)then 1 else 0) by split<;>split<;>omega]
     omega
 have:=key n
 rw[if_pos h1,if_pos k1]at this
 omega
theorem Can.den{g:List (List Int)}{a b:Int}(C:Can g a b):1<=jT g a b/\jT g a b<=15625:=by
 refine⟨C.pos,?_⟩
 rw[KC]
 have hl:=sR C.a0 C.a1 C.b0 C.b1 C.ne
 have gl:=aO C.bE
 have h1:=List.countP_le_length (p:=fun c=>Mw (bR g.length a b).length (((gq g a b).map (·.1)).zip c)) (l:=dA ((gq g a b).map (·.2)))
 have h2:=FT ((gq g a b).map (·.2)) 5 fun x hx=>by
  unfold gq at hx
  rw[List.map_map]at hx
  obtain⟨p,hp,rfl⟩:=List.mem_map.1 hx
  have hp:=(dZ.1 hp).1
  show(g.getD p []).length<=5
  rw[aR hp]
  exact(aT C.bE (List.getElem_mem hp)).1
 rw[List.length_map,yu]at h2
 have h3:5^(bR g.length a b).length<=5^6:=Nat.pow_le_pow_right (by omega) (by omega)
 have h4:(5:Nat)^6=15625:=rfl
 omega
def Iw(g:List (List Int))(a b:Int)(own:Int->Int)(A B:Int)(i:Nat):Int:=own ((bR g.length a b).getD i 0:Nat)+A*ff a (g.getD ((bR g.length a b).getD i 0) [])+B*ff b (g.getD ((bR g.length a b).getD i 0) [])
def vB(g:List (List Int))(a b:Int)(own:Int->Int)(A B:Int)(j:Nat):Int:=cK (bR g.length a b).length (nI (iD (gq g a b)) j (Iw g a b own A B))
def Eo(g:List (List Int))(a b:Int)(own:Int->Int)(A B:Int)(q:Int):Int:=if q=a then A*jT g a b else if q=b then B*jT g a b else vB g a b own A B ((bR g.length a b).idxOf q.toNat)
theorem ul(x:Nat->Int)(L:Int):∀{i m:Nat},i<m->bH (fun j=>(if i=j then L else 0)*x j) m=L*x i
 |i,m+1,h=>by
  rw[bH]
  by_cases e:i=m
  ·subst e
   rw[jm fun j hj=>by rw[if_neg (show¬i=j by omega),Int.zero_mul]]
   rw[if_pos rfl,Int.zero_add]
  ·rw[ul x L (show i<m by omega),if_neg e,Int.zero_mul,Int.add_zero]
theorem kU{g:List (List Int)}{a b:Int}{j:Nat}(hj:j<(bR g.length a b).length):nG (gq g a b) j=((bR g.length a b)[j]:Nat)/\zW (gq g a b) j=g.getD (bR g.length a b)[j] []:=by
 unfold nG zW gq
 rw[List.getD_eq_getElem?_getD,List.getElem?_eq_getElem (by rw[List.length_map];exact hj),List.getElem_map]
 exact⟨rfl,rfl⟩
theorem C9{n:Nat}{a b:Int}{j:Nat}(hj:j<(bR n a b).length):(bR n a b).idxOf (bR n a b)[j]=j:=(C8 n a b).idxOf_getElem j hj
theorem OK{g:List (List Int)}{a b:Int}(own:Int->Int)(A B:Int)(eA:a≠b):∀l:List Int,(∀x,x∈l->0<=x/\x<(g.length:Int))->pt (Eo g a b own A B) l=A*jT g a b*ff a l+B*jT g a b*ff b l+bH (fun j=>ff (nG (gq g a b) j) l*vB g a b own A B j) (bR g.length a b).length
 |[],_=>by
  rw[pu,jm fun j _=>by rw[ff,Int.zero_mul]]
  simp[ff]
 |y::l,h=>by
  have ih:=OK own A B eA l fun x hx=>h x (List.mem_cons_of_mem _ hx)
  have hy:=h y List.mem_cons_self
  rw[iu,ih,ff,ff]
  have e1:bH (fun j=>ff (nG (gq g a b) j) (y::l)*vB g a b own A B j) (bR g.length a b).length=bH (fun j=>(if y=nG (gq g a b) j then 1 else 0)*vB g a b own A B j) (bR g.length a b).length+bH (fun j=>ff (nG (gq g a b) j) l*vB g a b own A B j) (bR g.length a b).length:=by
   rw[<-mv]
   exact cC fun j _=>by(try simp only);rw[ff,Int.add_mul]
  rw[e1]
  by_cases ea:y=a
  ·have e2:bH (fun j=>(if y=nG (gq g a b) j then 1 else 0)*vB g a b own A B j) (bR g.length a b).length=0:=jm fun j hj=>by
    (try simp only)
    rw[if_neg,Int.zero_mul]
    rw[(kU hj).1]
    have:=(dZ.1 (List.getElem_mem hj)).2.1
    omega
   rw[e2]
   unfold Eo
   rw[if_pos ea,if_pos ea,if_neg (by omega),Int.zero_add (ff b l),Int.mul_add,Int.mul_one]
   omega
  ·by_cases eb:y=b
   ·have e2:bH (fun j=>(if y=nG (gq g a b) j then 1 else 0)*vB g a b own A B j) (bR g.length a b).length=0:=jm fun j hj=>by
     (try simp only)
     rw[if_neg,Int.zero_mul]
     rw[(kU hj).1]
     have:=(dZ.1 (List.getElem_mem hj)).2.2
     omega
    rw[e2]
    unfold Eo
    rw[if_neg ea,if_pos eb,if_neg ea,if_pos eb,Int.zero_add (ff a l),Int.mul_add (B*jT g a b),Int.mul_one]
    omega
   ·have hm:y.toNat∈bR g.length a b:=dZ.2 ⟨by omega,by omega,by omega⟩
    have hi:=List.idxOf_lt_length_iff.2 hm
    have e2:bH (fun j=>(if y=nG (gq g a b) j then 1 else 0)*vB g a b own A B j) (bR g.length a b).length=vB g a b own A B ((bR g.length a b).idxOf y.toNat):=by
     have e3:=ul (vB g a b own A B) 1 hi
     rw[Int.one_mul]at e3
     rw[<-e3]
     refine cC fun j hj=> ?_
     (try simp only)
     congr 1
     rw[(kU hj).1]
     by_cases e4:(bR g.length a b).idxOf y.toNat=j
     ·rw[if_pos e4,if_pos]
      subst e4
      rw[List.getElem_idxOf]
      omega
     ·rw[if_neg e4,if_neg]
      intro e5
      apply e4
      rw[show y.toNat=(bR g.length a b)[j] by omega]
      exact C9 hj
    rw[e2]
    unfold Eo
    rw[if_neg ea,if_neg eb,if_neg ea,if_neg eb,Int.zero_add (ff a l),Int.zero_add (ff b l)]
    omega
theorem Can.bal{g:List (List Int)}{a b:Int}(C:Can g a b)(own:Int->Int)(A B:Int){p:Nat}(hp:p<g.length)(pa:(p:Int)≠a)(pb:(p:Int)≠b):((g.getD p []).length:Int)*Eo g a b own A B p=pt (Eo g a b own A B) (g.getD p [])+own p*jT g a b:=by
 have hm:p∈bR g.length a b:=dZ.2 ⟨hp,pa,pb⟩
 have hi:=List.idxOf_lt_length_iff.2 hm
 have hr:∀x,x∈g.getD p []->0<=x/\x<(g.length:Int):=fun x hx=>by
  rw[aR hp]at hx
  exact(aT C.bE (List.getElem_mem hp)).2 x hx
 have hc:=WI (iD (gq g a b)) (Iw g a b own A B) hi
 have hg:(bR g.length a b)[(bR g.length a b).idxOf p]=p:=List.getElem_idxOf hi
 have e1:bH (fun j=>iD (gq g a b) ((bR g.length a b).idxOf p) j*cK (bR g.length a b).length (nI (iD (gq g a b)) j (Iw g a b own A B))) (bR g.length a b).length=((g.getD p []).length:Int)*vB g a b own A B ((bR g.length a b).idxOf p)+ -bH (fun j=>ff (nG (gq g a b) j) (g.getD p [])*vB g a b own A B j) (bR g.length a b).length:=by
  rw[<-my,<-ul (vB g a b own A B) _ hi,<-mv]
  refine cC fun j hj=> ?_
  (try simp only)
  unfold iD
  rw[(kU hi).2,hg,Int.sub_mul,Int.sub_eq_add_neg]
  rfl
 have e2:Iw g a b own A B ((bR g.length a b).idxOf p)=own p+A*ff a (g.getD p [])+B*ff b (g.getD p []):=by
  unfold Iw
  rw[show(bR g.length a b).getD ((bR g.length a b).idxOf p) 0=p by rw[List.getD_eq_getElem?_getD,List.getElem?_eq_getElem hi,Option.getD_some,hg]]
 rw[e1,e2]at hc
 rw[OK own A B C.ne _ hr]
 have e3:Eo g a b own A B p=vB g a b own A B ((bR g.length a b).idxOf p):=by
  unfold Eo
  rw[if_neg pa,if_neg pb]
  rfl
 rw[e3]
 have e4:cK (bR g.length a b).length (iD (gq g a b))=jT g a b:=rfl
 rw[e4,Int.mul_add,Int.mul_add]at hc
 have e5:jT g a b*own p=own p*jT g a b:=Int.mul_comm _ _
 have e6:jT g a b*(A*ff a (g.getD p []))=A*jT g a b*ff a (g.getD p []):=by rw[<-Int.mul_assoc,Int.mul_comm (jT g a b)]
 have e7:jT g a b*(B*ff b (g.getD p []))=B*jT g a b*ff b (g.getD p []):=by rw[<-Int.mul_assoc,Int.mul_comm (jT g a b)]
 rw[e5,e6,e7]at hc
 omega
def zY(g:List (List Int))(a b q:Int):Int:=Eo g a b (fun _=>0) 1 0 q
def stN(g:List (List Int))(a b q:Int):Int:=Eo g a b (fun p=>((g.getD p.toNat []).length:Int)) 0 0 q
theorem UM(g:List (List Int))(a b:Int):zY g a b a=jT g a b:=by unfold zY Eo;rw[if_pos rfl,Int.one_mul]
theorem UN(g:List (List Int)){a b:Int}(h:a≠b):zY g a b b=0:=by unfold zY Eo;rw[if_neg fun e=>h e.symm,if_pos rfl,Int.zero_mul]
theorem Can.ch{g:List (List Int)}{a b:Int}(C:Can g a b){p:Nat}(hp:p<g.length)(pa:(p:Int)≠a)(pb:(p:Int)≠b):((g.getD p []).length:Int)*zY g a b p=pt (zY g a b) (g.getD p []):=by
 have:=C.bal (fun _=>0) 1 0 hp pa pb
 simp only[Int.zero_mul,Int.add_zero]at this
 exact this
theorem Can.WL{g:List (List Int)}{a b:Int}(C:Can g a b){p:Nat}(hp:p<g.length):0<=zY g a b p/\zY g a b p<=jT g a b:=by
 have hd:=C.pos
 refine⟨C.low (zY g a b) (by rw[UM];omega) (by rw[UN g C.ne];omega) (fun p hp pa pb=>by rw[C.ch hp pa pb];exact Int.le_refl _) p hp,?_⟩
 have:=C.low (fun q=>jT g a b+ -1*zY g a b q) (by(try simp only);rw[UM];omega) (by(try simp only);rw[UN g C.ne];omega) (fun p hp pa pb=>by
  (try simp only)
  rw[FQ,yt,FR,<-C.ch hp pa pb,Int.mul_add]
  rw[Int.mul_left_comm]
  exact Int.le_refl _) p hp
 (try simp only at this)
 omega
theorem Can.st{g:List (List Int)}{a b:Int}(C:Can g a b){p:Nat}(hp:p<g.length)(pa:(p:Int)≠a)(pb:(p:Int)≠b):((g.getD p []).length:Int)*stN g a b p=pt (stN g a b) (g.getD p [])+((g.getD p []).length:Int)*jT g a b:=C.bal (fun p=>((g.getD p.toNat []).length:Int)) 0 0 hp pa pb
@[reducible] def tR:TypeId:=153
@[reducible] def tRs:TypeId:=186
theorem rRs:nh Tryz.prog tRs=some (tR,2,16,[VI 0,VI 0]):=by kernel_rfl
theorem rz{x:Int}(h: -9223372036854775808<x)(h':x<9223372036854775808):max x (aL (0-x))=(x.natAbs:Int):=by
 rw[aH _ (by omega) (by omega)]
 by_cases e:0<=x
 ·rw[Int.max_eq_left (by omega)];omega
 ·rw[Int.max_eq_right (by omega)];omega
theorem KD(m k:Nat):Int.tmod (m:Int) (k:Int)=((m%k:Nat):Int):=by rw[Int.ofNat_tmod]
def j3(x d:Int):Int×Int:=(x/(Int.gcd x d:Int),d/(Int.gcd x d:Int))
theorem wN{x d:Int}(h:0<d):0<Int.gcd x d:=Int.gcd_pos_of_ne_zero_right _ (by omega)
theorem OL{x d:Int}:(Int.gcd x d:Int)*(j3 x d).1=x/\(Int.gcd x d:Int)*(j3 x d).2=d:=⟨Int.mul_ediv_cancel' (Int.gcd_dvd_left ..),Int.mul_ediv_cancel' (Int.gcd_dvd_right ..)⟩
theorem KE{x d:Int}:Int.tdiv x (Int.gcd x d:Int)=(j3 x d).1/\Int.tdiv d (Int.gcd x d:Int)=(j3 x d).2:=⟨Int.tdiv_eq_ediv_of_dvd (Int.gcd_dvd_left ..),Int.tdiv_eq_ediv_of_dvd (Int.gcd_dvd_right ..)⟩
theorem yv{g x y:Int}(hg:0<g)(h:g*x=y):x.natAbs<=y.natAbs:=by
 rw[<-h,Int.natAbs_mul]
 exact Nat.le_mul_of_pos_left _ (by omega)
theorem FV{x d:Int}(h:0<d):(j3 x d).1.natAbs<=x.natAbs/\(j3 x d).2.natAbs<=d.natAbs:=by
 have hg:=wN (x:=x) h
 have hm:=OL (x:=x) (d:=d)
 exact⟨yv (by omega) hm.1,yv (by omega) hm.2⟩
theorem acp(a b:Int)(ha: -9223372036854775808<a/\a<9223372036854775808)(hb: -9223372036854775808<b/\b<9223372036854775808)(h:Heap):qR Tryz.prog 263 #[VI a,VI b] h (VI (Int.gcd a b)):=by
 intro K HK
 refine aip a b h K (Ci _ _ _ _ ⟨_,rfl,Ci _ _ _ _ ⟨_,rfl,?_⟩⟩)
 rw[rz ha.1 ha.2,rz hb.1 hb.2]
 refine⟨fun n x y h'=>∃m:Nat,x=m/\y=n/\Nat.gcd m n=Int.gcd a b/\Fr No h h',⟨b.natAbs,a.natAbs,rfl,rfl,rfl,Fr.refl _ _⟩,?_⟩
 rintro n x y h1 ⟨m,rfl,rfl,hg,f1⟩ bF
 refine⟨fun e=> ?_,fun e=> ?_⟩
 ·have e:=aX e
  simp only[decide_eq_false_iff_not]at e
  refine⟨e,m%n,Nat.mod_lt _ (by omega),n,rfl,KD m n,?_,f1⟩
  rw[<-hg,Nat.gcd_comm m n,Nat.gcd_rec n m,Nat.gcd_comm]
 ·have e:=aW e
  simp only[decide_eq_true_eq]at e
  have:n=0:=by omega
  subst this
  rw[Nat.gcd_zero_right]at hg
  rw[hg]
  exact HK h1 f1
theorem Sr(x d:Int)(hx: -9223372036854775808<x/\x<9223372036854775808)(hd:0<d)(hd2:d<9223372036854775808)(h:Heap):qR Tryz.prog 219 #[VI x,VI d] h (.agg #[VI (j3 x d).1,VI (j3 x d).2]):=by
 intro K HK
 refine ahC x d h K fun b1 h1 dT f1 bF=> ?_
 have f1:=f1.aF
 refine acp x d hx ⟨by omega,hd2⟩ h1 _ fun h2 f2=>⟨_,rfl,bF.aB f2,?_⟩
 refine⟨fun y h'=>y=(Int.gcd x d:Int)/\Fr No h h',⟨fun e=>by simp only[decide_eq_true_eq]at e;omega,fun _=>⟨rfl,f1.aA f2⟩⟩,?_⟩
 rintro y h3 ⟨rfl,f3⟩ cF
 have hg:=wN (x:=x) hd
 have ht:=KE (x:=x) (d:=d)
 have hb:=FV (x:=x) hd
 rw[ht.1,ht.2,aH _ (by omega) (by omega),aH _ (by omega) (by omega)]
 refine⟨by omega,by omega,fun h4 f4 dJ=>HK h4 (f3.fresh f4 fun k hk=> ?_)⟩
 simp only[In,List.mem_cons,List.not_mem_nil,or_false]at hk
 omega
theorem OM(a b:Int)(h:Heap)(K:Value->Heap->Prop)(HK:K (VI (max a b)) h):aE Tryz.prog 122 #[VI a,VI b] h K:=by
 refine abL a b h K ⟨fun e=> ?_,fun e=> ?_⟩
 ·simp only[decide_eq_true_eq]at e
  rw[Int.max_eq_left (by omega)]at HK
  exact HK
 ·simp only[decide_eq_false_iff_not]at e
  rw[Int.max_eq_right (by omega)]at HK
  exact HK
theorem Ss(a:Int)(ha: -9223372036854775808<a)(GW:a<9223372036854775808)(h:Heap)(K:Value->Heap->Prop)(HK:K (VI a.natAbs) h):aE Tryz.prog 272 #[VI a] h K:=
 aiE a h K (OM _ _ _ _ ⟨_,rfl,.nil,by rw[rz ha GW];exact HK⟩)
theorem LY(x d:Int)(hx: -9223372036854775808<x/\x<9223372036854775808)(hd:0<d)(hd2:d<9223372036854775808)(h:Heap):qR Tryz.prog 236 #[VI x,VI d] h (.agg #[VI (j3 x d).1,VI (j3 x d).2]):=by
 intro K HK
 refine v236 x d h K fun b1 h1 dT f1 bF=> ?_
 have f1:=f1.aF
 refine⟨fun y z h'=>y=x/\z=d/\Fr No h h',⟨fun e=>by simp only[decide_eq_true_eq]at e;omega,fun _=>⟨rfl,rfl,f1⟩⟩,?_⟩
 rintro y z h2 ⟨rfl,rfl,f2⟩ bW
 refine Ss y hx.1 hx.2 h2 _ ⟨_,rfl,bW,?_⟩
 refine⟨fun n p q h'=>∃m:Nat,p=m/\q=n/\Nat.gcd m n=Int.gcd y z/\Fr No h h',⟨z.natAbs,y.natAbs,rfl,by omega,rfl,f2⟩,?_⟩
 rintro n p q h3 ⟨m,rfl,rfl,hg,f3⟩ cF
 refine⟨fun e=> ?_,fun e=> ?_⟩
 ·simp only[decide_eq_true_eq]at e
  refine⟨by omega,m%n,Nat.mod_lt _ (by omega),n,rfl,KD m n,?_,f3⟩
  rw[<-hg,Nat.gcd_comm m n,Nat.gcd_rec n m,Nat.gcd_comm]
 ·simp only[decide_eq_false_iff_not]at e
  have:n=0:=by omega
  subst this
  rw[Nat.gcd_zero_right]at hg
  rw[hg]
  have hg:=wN (x:=y) hd
  have ht:=KE (x:=y) (d:=z)
  have hb:=FV (x:=y) hd
  rw[ht.1,ht.2,aH _ (by omega) (by omega),aH _ (by omega) (by omega)]
  refine⟨by omega,by omega,fun h4 f4 dJ=>HK h4 (f3.fresh f4 fun k hk=> ?_)⟩
  simp only[In,List.mem_cons,List.not_mem_nil,or_false]at hk
  omega
def Da(g:List (List Int))(a b:Int)(p:Nat):Bool:= !(decide ((gj g p).getD a.toNat 0<0)&&decide ((gj g p).getD b.toNat 0<0))&& !(qm a b p&&decide ((g.getD p []).length=0))
theorem KG{g:List (List Int)}{a b:Int}{p:Nat}(hp:p<g.length)(h:Da g a b p=false):OG g a b=false:=List.all_eq_false.2 ⟨p,List.mem_range.2 hp,by unfold Da at h;rw[h];decide⟩
theorem FW{g:List (List Int)}{a b:Int}(h:∀p,p<g.length->Da g a b p=true):OG g a b=true:=List.all_eq_true.2 fun p hp=>h p (List.mem_range.1 hp)
theorem FY{S:Nat->Prop}{h:Heap}{t:Sl}{cT:List Int}(R:aP S h t cT){b:Int}(b0:0<=b)(b1:b<(cT.length:Int)){x p a l:Int}{KF KN:Prop}(hF:(!(decide (x<0)&&decide (cT.getD b.toNat 0<0))&& !((!decide (p=a)&& !decide (p=b))&&decide (l=0)))=false->KF)(hN:(!(decide (x<0)&&decide (cT.getD b.toNat 0<0))&& !((!decide (p=a)&& !decide (p=b))&&decide (l=0)))=true->KN):
 ((decide (x<0))=true->dS t b/\∃y:Int,aS h (Sl.at t b 1)=some (VI y)/\((decide (y<0))=true->KF)/\((decide (y<0))=false->((!decide (p=a))=true->((!decide (p=b))=true->((decide (l=0))=true->KF)/\((decide (l=0))=false->KN))/\((!decide (p=b))=false->KN))/\((!decide (p=a))=false->KN)))/\
 ((decide (x<0))=false->((!decide (p=a))=true->((!decide (p=b))=true->((decide (l=0))=true->KF)/\((decide (l=0))=false->KN))/\((!decide (p=b))=false->KN))/\((!decide (p=a))=false->KN)):=by
 refine⟨fun e1=>⟨R.bB b0 b1,_,R.get b0 b1,fun e2=>hF ?_,fun e2=>⟨fun e3=>⟨fun e4=>⟨fun e5=>hF ?_,fun e5=>hN ?_⟩,fun e4=>hN ?_⟩,fun e3=>hN ?_⟩⟩,fun e1=>⟨fun e3=>⟨fun e4=>⟨fun e5=>hF ?_,fun e5=>hN ?_⟩,fun e4=>hN ?_⟩,fun e3=>hN ?_⟩⟩
 all_goals (try rw[<-aN (by omega)]at e2)
 all_goals (rw[e1];(try rw[e2]);(try rw[e3]);(try rw[e4]);(try rw[e5]);first|rfl|simp)
theorem ON{S:Nat->Prop}{h:Heap}{g:Sl}{aD:List (List Int)}(G:bL S h g aD)(a b:Int):qR Tryz.prog 217 #[.agg #[g.v],VI a,VI b] h (VB (Is aD a b)):=by
 intro K HK
 unfold Is at HK
 refine ahz g a b h K fun b1 h1 dT f1 bF=> ?_
 have f1:=f1.aF
 refine aQ fy (fun k=>h1.size<=k) (fun _ h=>h) 2 (by omega) [VI a,VI b] rfl rfl fun t h2 n2 c2 o2 f2 m2 _=>⟨t,rfl,bF.aB f2,?_⟩
 have o2:aP (fun k=>h1.size<=k) h2 t [a,b]:=o2.eQ
 have f12:=f1.aA f2
 have bW:=bF.aB f2
 refine sA (G.no f12) o2 _ fun h3 f3=>⟨_,rfl,bW.aB f3,fun e=> ?_,fun e=> ?_⟩
 all_goals simp only[List.all_cons,List.all_nil,Bool.and_true]at e
 all_goals have f13:=f12.aA f3
 ·have e:=aX e
  have:lE aD a b=false:=by unfold lE;rw[Bool.and_assoc (aM aD),e];rfl
  rw[this,Bool.false_and]at HK
  exact HK h3 f13
 have e:=aW e
 refine⟨fun e2=> ?_,fun e2=> ?_⟩
 ·have:lE aD a b=false:=by unfold lE;rw[e2,Bool.not_true,Bool.and_false]
  rw[this,Bool.false_and]at HK
  exact HK h3 f13
 have hgo:lE aD a b=true:=by unfold lE;rw[Bool.and_assoc (aM aD),e,e2];rfl
 obtain⟨hg,⟨a0,a1⟩,⟨b0,b1⟩,eA⟩:=Iu hgo
 rw[hgo,Bool.true_and]at HK
 refine⟨fun n i h'=>0<=i/\i+n=(aD.length:Int)/\(∀q:Nat,(q:Int)<i->Da aD a b q=true)/\Fr No h h',⟨aD.length,by omega,by omega,fun q hq=>by omega,f13⟩,?_⟩
 rintro n i h4 ⟨i0,i1,i2,f4⟩ dJ
 have G4:=G.no f4
 refine⟨fun e3=> ?_,fun e3=> ?_⟩
 ·have hi:=G4.lt e3
  have ei:((i.toNat:Nat):Int)=i:=by omega
  obtain⟨si,ci,ri⟩:=G4.get i0 hi
  have eg:aD.getD i.toNat []=aD[i.toNat]'(by omega):=aR (by omega)
  have ln:=ri.len
  refine⟨G4.bB i0 hi,si,ci,Bo G4 hg i0 hi _ fun t h5 o5 hl f5=>⟨t,rfl,dJ.aB f5,?_⟩⟩
  have r5:aP _ h5 t _:=Ow.eQ o5
  have f45:=f4.aA f5
  have key:∀v,(!(decide ((gj aD i)[a.toNat]'(by omega)<0)&&decide ((gj aD i).getD b.toNat 0<0))&& !((!decide (i=a)&& !decide (i=b))&&decide ((si.n:Int)=0)))=v->Da aD a b i.toNat=v:=fun v hv=>by
   rw[<-hv]
   unfold Da qm
   rw[ei,eg,aN (show a.toNat<(gj aD i).length by omega),show decide ((aD[i.toNat]'(by omega)).length=0)=decide ((si.n:Int)=0)from decide_eq_decide.2 ⟨fun _=>by omega,fun _=>by omega⟩]
  refine⟨r5.bB a0 (by omega),_,r5.get a0 (by omega),FY r5 b0 (by omega) (fun hq=> ?_) fun hq=> ?_⟩
  ·rw[KG (by omega) (key _ hq)]at HK
   exact HK h5 f45
  ·rw[G4.succ i0 hi]
   refine⟨n-1,by omega,by omega,by omega,fun q h2=> ?_,f45⟩
   by_cases h3:(q:Int)<i
   ·exact i2 q h3
   ·rw[show q=i.toNat by omega];exact key _ hq
 ·have hi:=G4.ge e3
  rw[FW fun p hp=>i2 p (by omega)]at HK
  exact HK h4 f4
theorem LZ{S:Nat->Prop}{h:Heap}{g:Sl}{aD:List (List Int)}(G:bL S h g aD)(a b:Int):qR Tryz.prog 232 #[.agg #[g.v],VI a,VI b] h (VB (lE aD a b)):=by
 intro K HK
 refine v232 g a b h K fun b1 h1 dT f1 bF=> ?_
 have f1:=f1.aF
 refine cQ (G.no f1) a _ fun h2 f2=>⟨_,rfl,bF.aB f2,fun e=> ?_,fun e=> ?_⟩
 ·refine cQ (G.no (f1.aA f2)) b _ fun h3 f3=>⟨_,rfl,(bF.aB f2).aB f3,fun e2=> ?_,fun e2=> ?_⟩
  ·unfold lE at HK
   rw[e]at HK
   rw[Bool.and_eq_true]at e2
   rw[e2.2]at HK
   exact HK h3 ((f1.aA f2).aA f3)
  ·unfold lE at HK
   rw[Bool.and_eq_true]at e
   rw[e.1,Bool.true_and]at e2
   rw[e2,Bool.and_false,Bool.false_and]at HK
   exact HK h3 ((f1.aA f2).aA f3)
 ·unfold lE at HK
  rw[e]at HK
  exact HK h2 (f1.aA f2)
theorem Su{S:Nat->Prop}{h:Heap}{g:Sl}{aD:List (List Int)}(G:bL S h g aD){a b:Int}(hgo:lE aD a b=true):qR Tryz.prog 233 #[.agg #[g.v],VI a,VI b] h (VB (OG aD a b)):=by
 intro K HK
 obtain⟨hg,⟨a0,a1⟩,⟨b0,b1⟩,eA⟩:=Iu hgo
 refine v233 g a b h K fun b1 h1 dT f1 bF=> ?_
 have f1:=f1.aF
 refine⟨fun n i h'=>0<=i/\i+n=(aD.length:Int)/\(∀q:Nat,(q:Int)<i->Da aD a b q=true)/\Fr No h h',⟨aD.length,by omega,by omega,fun q hq=>by omega,f1⟩,?_⟩
 rintro n i h4 ⟨i0,i1,i2,f4⟩ dJ
 have G4:=G.no f4
 refine⟨fun e3=> ?_,fun e3=> ?_⟩
 ·have hi:=G4.lt e3
  have ei:((i.toNat:Nat):Int)=i:=by omega
  obtain⟨si,ci,ri⟩:=G4.get i0 hi
  have eg:aD.getD i.toNat []=aD[i.toNat]'(by omega):=aR (by omega)
  have ln:=ri.len
  refine⟨G4.bB i0 hi,si,ci,J7 G4 hg i0 hi _ fun t h5 o5 hl f5=>⟨t,rfl,dJ.aB f5,?_⟩⟩
  have r5:aP _ h5 t _:=Ow.eQ o5
  have f45:=f4.aA f5
  have key:∀v,(!(decide ((gj aD i)[a.toNat]'(by omega)<0)&&decide ((gj aD i).getD b.toNat 0<0))&& !((!decide (i=a)&& !decide (i=b))&&decide ((si.n:Int)=0)))=v->Da aD a b i.toNat=v:=fun v hv=>by
   rw[<-hv]
   unfold Da qm
   rw[ei,eg,aN (show a.toNat<(gj aD i).length by omega),show decide ((aD[i.toNat]'(by omega)).length=0)=decide ((si.n:Int)=0)from decide_eq_decide.2 ⟨fun _=>by omega,fun _=>by omega⟩]
  refine⟨r5.bB a0 (by omega),_,r5.get a0 (by omega),FY r5 b0 (by omega) (fun hq=> ?_) fun hq=> ?_⟩
  ·rw[KG (by omega) (key _ hq)]at HK
   exact HK h5 f45
  ·rw[G4.succ i0 hi]
   refine⟨n-1,by omega,by omega,by omega,fun q h2=> ?_,f45⟩
   by_cases h3:(q:Int)<i
   ·exact i2 q h3
   ·rw[show q=i.toNat by omega];exact key _ hq
 ·have hi:=G4.ge e3
  rw[FW fun p hp=>i2 p (by omega)]at HK
  exact HK h4 f4
theorem OO{S:Nat->Prop}{h:Heap}{g:Sl}{aD:List (List Int)}(G:bL S h g aD)(a b:Int):qR Tryz.prog 185 #[.agg #[g.v],VI a,VI b] h (VB (Is aD a b)):=by
 intro K HK
 unfold Is at HK
 refine agR g a b h K fun b1 h1 dT f1 bF=> ?_
 have f1:=f1.aF
 refine LZ (G.no f1) a b _ fun h2 f2=>⟨_,rfl,bF.aB f2,fun e=> ?_,fun e=> ?_⟩
 ·rw[e,Bool.true_and]at HK
  exact Su (G.no (f1.aA f2)) e _ fun h3 f3=>⟨_,rfl,(bF.aB f2).aB f3,HK h3 ((f1.aA f2).aA f3)⟩
 ·rw[e,Bool.false_and]at HK
  exact HK h2 (f1.aA f2)
def dQ(ps:List Nat)(p:Nat)(l:List Int)(L:Int):List Int:=ps.map fun q:Nat=>(if q=p then L else 0)-ff q l
theorem cP(ps:List Nat)(p:Nat)(l:List Int)(L:Int):(dQ ps p l L).length=ps.length:=by unfold dQ;rw[List.length_map]
theorem fu{ps:List Nat}{p:Nat}{l:List Int}{L:Int}{j:Nat}(h:j<(dQ ps p l L).length):(dQ ps p l L)[j]=(if ps[j]'(by rw[cP]at h;exact h)=p then L else 0)-ff (ps[j]'(by rw[cP]at h;exact h):Nat) l:=by simp[dQ]
theorem Ix(ps:List Nat)(p:Nat):dQ ps p [] 0=List.replicate ps.length 0:=by
 apply List.ext_getElem (by rw[cP,List.length_replicate])
 intro j h1 h2
 rw[fu h1,List.getElem_replicate,ff]
 split<;>rfl
theorem Db{ps:List Nat}(nd:ps.Nodup){i j:Nat}(hi:i<ps.length)(hj:j<ps.length)(h:ps[i]=ps[j]):i=j:=by
 have hp:=List.pairwise_iff_getElem.1 nd
 rcases Nat.lt_trichotomy i j with a|a|a
 ·exact absurd h (hp i j hi hj a)
 ·exact a
 ·exact absurd h.symm (hp j i hj hi a)
theorem Iy{ps:List Nat}(nd:ps.Nodup){p:Nat}{l:List Int}{L x:Int}{i:Nat}(hi:i<ps.length)(e:((ps[i]:Nat):Int)=x):dQ ps p (l++[x]) L=(dQ ps p l L).set i ((dQ ps p l L).getD i 0-1):=by
 have hl:i<(dQ ps p l L).length:=by rw[cP];exact hi
 have hd:=aN hl
 rw[fu hl]at hd
 rw[hd]
 apply List.ext_getElem (by rw[List.length_set,cP,cP])
 intro j h1 h2
 have hj:j<(dQ ps p l L).length:=by rw[cP]at h1⊢;exact h1
 have Fv:j<ps.length:=by rw[cP]at hj;exact hj
 rw[fu h1,List.getElem_set,kR,fu hj]
 simp only[ff]
 by_cases c:i=j
 ·subst c
  rw[if_pos (show i=i from rfl),if_pos (show x=((ps[i]:Nat):Int)from e.symm)];omega
 ·rw[if_neg (show¬i=j from c),if_neg (show¬x=((ps[j]:Nat):Int)from fun h=>c (Db nd hi Fv (by omega)))];omega
theorem yw{ps:List Nat}{p:Nat}{l:List Int}{L x:Int}(h:∀q,q∈ps->((q:Nat):Int)≠x):dQ ps p (l++[x]) L=dQ ps p l L:=by
 unfold dQ
 refine List.map_congr_left fun q hq=> ?_
 have hz:(if x=(q:Int)then(1:Int)else 0)=0:=if_neg fun e=>h q hq e.symm
 rw[kR]
 simp only[ff]
 rw[hz];omega
theorem L1{ps:List Nat}(nd:ps.Nodup){l:List Int}{L:Int}{i:Nat}(hi:i<ps.length):dQ ps ps[i] l L=(dQ ps ps[i] l 0).set i ((dQ ps ps[i] l 0).getD i 0+L):=by
 have hl:i<(dQ ps ps[i] l 0).length:=by rw[cP];exact hi
 have hd:=aN hl
 rw[fu hl]at hd
 rw[hd]
 apply List.ext_getElem (by rw[List.length_set,cP,cP])
 intro j h1 h2
 have hj:j<(dQ ps ps[i] l 0).length:=by rw[cP]at h1⊢;exact h1
 have Fv:j<ps.length:=by rw[cP]at hj;exact hj
 rw[fu h1,List.getElem_set,fu hj]
 by_cases c:i=j
 ·subst c
  rw[if_pos rfl,if_pos rfl,if_pos rfl];omega
 ·rw[if_neg c,if_neg fun h=>c (Db nd hi Fv h.symm),if_neg fun h=>c (Db nd hi Fv h.symm)]
def qG(g:List (List Int))(a b:Int):List (List Int):=(bR g.length a b).map fun p=>dQ (bR g.length a b) p (g.getD p []) (g.getD p []).length
def FZ(g:List (List Int))(a b:Int)(own:Int->Int)(A B:Int)(p:Nat):Int:=own p+A*ff a (g.getD p [])+B*ff b (g.getD p [])
def mL(g:List (List Int))(a b:Int)(own:Int->Int)(A B:Int):List Int:=(bR g.length a b).map (FZ g a b own A B)
theorem j5(g:List (List Int))(a b:Int):(qG g a b).length=(bR g.length a b).length/\Sq (bR g.length a b).length (qG g a b):=by
 have e:(qG g a b).length=(bR g.length a b).length:=by unfold qG;rw[List.length_map]
 refine⟨e,e,fun i hi=> ?_⟩
 rw[show(qG g a b)[i]=_ from List.getElem_map _,cP]
theorem Dc(g:List (List Int))(a b:Int){i j:Nat}(hi:i<(bR g.length a b).length)(hj:j<(bR g.length a b).length):bU (qG g a b) i j=iD (gq g a b) i j:=by
 have hr:i<(qG g a b).length:=by rw[(j5 g a b).1];exact hi
 have er:(qG g a b)[i]=dQ (bR g.length a b) (bR g.length a b)[i] (g.getD (bR g.length a b)[i] []) (g.getD (bR g.length a b)[i] []).length:=List.getElem_map _
 unfold bU iD
 rw[aR hr,er,aN (by rw[cP];exact hj),fu (by rw[cP];exact hj),(kU hi).2,(kU hj).1]
 congr 1
 by_cases e:i=j
 ·subst e;rw[if_pos rfl,if_pos rfl]
 ·rw[if_neg e,if_neg fun h=>e (Db (C8 _ _ _) hi hj h.symm)]
theorem um{g:List (List Int)}(hg:aM g=true)(a b:Int):Small (bR g.length a b).length (bU (qG g a b)):=fun i j hi hj=>by
 rw[Dc g a b hi hj]
 unfold iD
 rw[(kU hi).2]
 have hp:=(dZ.1 (List.getElem_mem hi)).1
 have hb:(g.getD (bR g.length a b)[i] []).length<=5:=by rw[aR hp];exact(aT hg (List.getElem_mem hp)).1
 have:=jq (nG (gq g a b) j) (g.getD (bR g.length a b)[i] [])
 split<;>omega
theorem KH(g:List (List Int))(a b:Int):cK (bR g.length a b).length (bU (qG g a b))=jT g a b:=dG fun i j hi hj=>Dc g a b hi hj
theorem mM(g:List (List Int))(a b:Int)(own:Int->Int)(A B:Int):(mL g a b own A B).length=(bR g.length a b).length:=by unfold mL;rw[List.length_map]
theorem sS(g:List (List Int))(a b:Int)(own:Int->Int)(A B:Int){i:Nat}(hi:i<(bR g.length a b).length):(mL g a b own A B).getD i 0=Iw g a b own A B i:=by
 rw[aN (by rw[mM];exact hi)]
 refine(show(mL g a b own A B)[i]'(by rw[mM];exact hi)=FZ g a b own A B (bR g.length a b)[i]from List.getElem_map _).trans ?_
 have e1:(bR g.length a b).getD i 0=(bR g.length a b)[i]:=by rw[List.getD_eq_getElem?_getD,List.getElem?_eq_getElem hi,Option.getD_some]
 unfold Iw FZ
 rw[e1]
theorem Iz(g:List (List Int))(a b:Int)(own:Int->Int)(A B:Int)(k:Nat):cK (bR g.length a b).length (nI (bU (qG g a b)) k fun i=>(mL g a b own A B).getD i 0)=vB g a b own A B k:=by
 refine dG fun i j hi hj=> ?_
 unfold nI
 split
 ·exact sS g a b own A B hi
 ·exact Dc g a b hi hj
def sT(rows:List (List Int))(k:Nat)(r:List Int):List (List Int):=rows.zipIdx.map fun t=>t.1.set k (r.getD t.2 0)
theorem kV(rows:List (List Int))(k:Nat)(r:List Int):(sT rows k r).length=rows.length:=by unfold sT;rw[List.length_map,List.length_zipIdx]
theorem sU{rows:List (List Int)}{k:Nat}{r:List Int}{i:Nat}(hi:i<rows.length):(sT rows k r)[i]'(by rw[kV];exact hi)=rows[i].set k (r.getD i 0):=by
 refine(List.getElem_map (l:=rows.zipIdx) _ (h:=by rw[List.length_map,List.length_zipIdx];exact hi)).trans ?_
 rw[List.getElem_zipIdx]
 (try simp only[Nat.zero_add])
theorem KI{n:Nat}{rows:List (List Int)}(Q:Sq n rows)(k:Nat)(r:List Int):Sq n (sT rows k r):=⟨by rw[kV];exact Q.len,fun i hi=>by
 rw[kV]at hi
 rw[sU hi,List.length_set]
 exact Q.row i hi⟩
theorem F0{n:Nat}{rows:List (List Int)}(Q:Sq n rows){k:Nat}{r:List Int}{i j:Nat}(hi:i<n)(hj:j<n):bU (sT rows k r) i j=nI (bU rows) k (fun i=>r.getD i 0) i j:=by
 have hl:=Q.len
 have gH:i<rows.length:=by omega
 have hr:=Q.row i gH
 have h1:i<(sT rows k r).length:=by rw[kV];exact gH
 have h2:j<((sT rows k r)[i]'h1).length:=by rw[sU gH,List.length_set,hr];exact hj
 rw[gD h1 h2]
 have:((sT rows k r)[i]'h1)[j]'h2=(rows[i].set k (r.getD i 0))[j]'(by rw[List.length_set,hr];exact hj):=by congr 1;exact sU gH
 rw[this,List.getElem_set]
 unfold nI
 by_cases e:k=j
 ·rw[if_pos e,if_pos e.symm]
 ·rw[if_neg e,if_neg fun h=>e h.symm,gD gH (by rw[hr];exact hj)]
theorem rA{n:Nat}{rows:List (List Int)}(Q:Sq n rows)(S:Small n (bU rows)){k:Nat}{r:List Int}(hr:∀i,i<n->(r.getD i 0).natAbs<=10):Small n (bU (sT rows k r)):=fun i j hi hj=>by
 rw[F0 Q hi hj]
 unfold nI
 split
 ·exact hr i hi
 ·exact S i j hi hj
theorem yx{n:Nat}{rows:List (List Int)}(Q:Sq n rows)(k:Nat)(r:List Int):cK n (bU (sT rows k r))=cK n (nI (bU rows) k fun i=>r.getD i 0):=dG fun i j hi hj=>F0 Q hi hj
theorem BL{rows:List (List Int)}{k:Nat}{r:List Int}{i:Nat}(hi:i<rows.length):(sT rows k r).take (i+1)=(sT rows k r).take i++[rows[i].set k (r.getD i 0)]:=by
 rw[List.take_succ_eq_append_getElem (by rw[kV];exact hi),sU hi]
def yy(g:List (List Int))(a b:Int)(own:Int->Int)(A B:Int)(k:Nat):List Int:=(List.range g.length).map fun q:Nat=>if(q:Int)=a then A*jT g a b else if(q:Int)=b then B*jT g a b else if(bR g.length a b).idxOf q<k then vB g a b own A B ((bR g.length a b).idxOf q)else 0
theorem kW(g:List (List Int))(a b:Int)(own:Int->Int)(A B:Int)(k:Nat):(yy g a b own A B k).length=g.length:=by unfold yy;rw[List.length_map,List.length_range]
theorem sV{g:List (List Int)}{a b:Int}{own:Int->Int}{A B:Int}{k q:Nat}(h:q<(yy g a b own A B k).length):(yy g a b own A B k)[q]=if(q:Int)=a then A*jT g a b else if(q:Int)=b then B*jT g a b else if(bR g.length a b).idxOf q<k then vB g a b own A B ((bR g.length a b).idxOf q)else 0:=by
 refine(List.getElem_map (l:=List.range g.length) _ (h:=h)).trans ?_
 rw[List.getElem_range]
theorem L2{g:List (List Int)}{a b:Int}(own:Int->Int)(A B:Int)(a0:0<=a)(b0:0<=b)(eA:a≠b):yy g a b own A B 0=((List.replicate g.length 0).set a.toNat (A*jT g a b)).set b.toNat (B*jT g a b):=by
 apply List.ext_getElem (by rw[kW,List.length_set,List.length_set,List.length_replicate])
 intro q h1 h2
 rw[sV h1,List.getElem_set,List.getElem_set,List.getElem_replicate]
 by_cases ea:(q:Int)=a
 ·rw[if_pos ea,if_neg (by omega),if_pos (by omega)]
 ·rw[if_neg ea]
  by_cases eb:(q:Int)=b
  ·rw[if_pos eb,if_pos (by omega)]
  ·rw[if_neg eb,if_neg (by omega),if_neg (by omega),if_neg (by omega)]
theorem L3{g:List (List Int)}{a b:Int}(own:Int->Int)(A B:Int){k:Nat}(hk:k<(bR g.length a b).length):yy g a b own A B (k+1)=(yy g a b own A B k).set ((bR g.length a b)[k]) (vB g a b own A B k):=by
 apply List.ext_getElem (by rw[kW,List.length_set,kW])
 intro q h1 h2
 have h3:q<(yy g a b own A B k).length:=by rw[List.length_set]at h2;exact h2
 have hm:=dZ.1 (List.getElem_mem hk)
 rw[sV h1,List.getElem_set,sV h3]
 by_cases e:(bR g.length a b)[k]=q
 ·rw[if_pos e,if_neg (by omega),if_neg (by omega)]
  subst e
  rw[C9 hk,if_pos (by omega)]
 ·rw[if_neg e]
  by_cases ea:(q:Int)=a
  ·rw[if_pos ea,if_pos ea]
  ·rw[if_neg ea,if_neg ea]
   by_cases eb:(q:Int)=b
   ·rw[if_pos eb,if_pos eb]
   ·rw[if_neg eb,if_neg eb]
    have hq:q∈bR g.length a b:=dZ.2 ⟨by rw[kW]at h3;exact h3,ea,eb⟩
    have hi:=List.idxOf_lt_length_iff.2 hq
    by_cases l:(bR g.length a b).idxOf q<k
    ·rw[if_pos l,if_pos (by omega)]
    ·rw[if_neg l,if_neg]
     intro h
     apply e
     have:(bR g.length a b).idxOf q=k:=by omega
     subst this
     exact List.getElem_idxOf hi
def Dd(g:List (List Int))(a b:Int)(own:Int->Int)(A B:Int):List Int:=(List.range g.length).map fun q:Nat=>Eo g a b own A B q
theorem Ga(g:List (List Int))(a b:Int)(own:Int->Int)(A B:Int):(Dd g a b own A B).length=g.length:=by unfold Dd;rw[List.length_map,List.length_range]
theorem Gb{g:List (List Int)}{a b:Int}{own:Int->Int}{A B:Int}{q:Nat}(h:q<(Dd g a b own A B).length):(Dd g a b own A B)[q]=Eo g a b own A B q:=by
 refine(List.getElem_map (l:=List.range g.length) _ (h:=h)).trans ?_
 rw[List.getElem_range]
theorem OP(g:List (List Int))(a b:Int)(own:Int->Int)(A B:Int):yy g a b own A B (bR g.length a b).length=Dd g a b own A B:=by
 apply List.ext_getElem (by rw[kW,Ga])
 intro q h1 h2
 rw[sV h1,Gb h2]
 unfold Eo
 by_cases ea:(q:Int)=a
 ·rw[if_pos ea,if_pos ea]
 ·rw[if_neg ea,if_neg ea]
  by_cases eb:(q:Int)=b
  ·rw[if_pos eb,if_pos eb]
  ·rw[if_neg eb,if_neg eb,if_pos]
   ·rfl
   ·exact List.idxOf_lt_length_iff.2 (dZ.2 ⟨by rw[kW]at h1;exact h1,ea,eb⟩)
theorem BM{g:List (List Int)}(hg:aM g=true){a b:Int}{own:Int->Int}{A B:Int}(hn:(bR g.length a b).length<=7)(hr:∀i,i<(bR g.length a b).length->(Iw g a b own A B i).natAbs<=10)(k:Nat):(vB g a b own A B k).natAbs<=50400000000:=by
 rw[<-Iz,<-yx (j5 g a b).2]
 refine Nat.le_trans (mD (rA (j5 g a b).2 (um hg a b) fun i hi=>by rw[sS g a b own A B hi];exact hr i hi)) ?_
 exact Nat.le_trans (ye hn) (by rw[WD];exact Nat.le_refl _)
theorem Gc{n:Nat}{a b:Int}{i:Nat}(hi:(i:Nat)<n):bR (i+1) a b=if qm a b i then bR i a b++[i]else bR i a b:=by
 unfold bR
 rw[List.range_succ,List.filter_append]
 cases h:qm a b i with
 |true=>rw[if_pos rfl,List.filter_cons_of_pos h,List.filter_nil]
 |false=>rw[if_neg (by decide),List.filter_cons_of_neg (by rw[h];decide),List.filter_nil,List.append_nil]
theorem nJ{ps:List Nat}{i:Nat}(h:i<(ps.map fun p:Nat=>(p:Int)).length):(ps.map fun p:Nat=>(p:Int))[i]=((ps[i]'(by rw[List.length_map]at h;exact h):Nat):Int):=List.getElem_map _
theorem gY(x y:Int)(l:List Int):ff x (l++[y])=ff x l+(if y=x then 1 else 0):=by rw[kR];simp only[ff];omega
theorem pw{l:List Int}{a:Int}(h:l.length<=5)(j:Nat):0<=ff a (l.take j)/\ff a (l.take j)<=5:=by
 have:=jq a (l.take j)
 rw[List.length_take]at this
 omega
theorem OQ{A o:Int}(hA:A=0\/A=1)(h0:0<=o)(h5:o<=5):0<=A*o/\A*o<=5:=by
 rcases hA with rfl|rfl<;>omega
set_option maxHeartbeats 4000000 in
theorem WM{h h8:Heap}{g L4 rt inner:Sl}{aD:List (List Int)}{a b:Int}(C:Can aD a b){own:Int->Int}{A B:Int}(hA:A=0\/A=1)(hB:B=0\/B=1)(hr:∀i,i<(bR aD.length a b).length->(Iw aD a b own A B i).natAbs<=10)(gn:g.n=aD.length){b1:Nat}(g8:Fr No h h8)(fA:Vars h8 [(b1,[g.v])])
 (M8:bL (fun k=>k<h8.size) h8 L4 (qG aD a b)) (R8:aP (fun k=>k<h8.size) h8 rt (mL aD a b own A B)) (I8:aP (fun k=>k<h8.size) h8 inner ((bR aD.length a b).map fun p:Nat=>(p:Int))) (K:Value->Heap->Prop) (HK:∀t h',bM h' (Iv h.size h'.size) t (Dd aD a b own A B)->Fr No h h'->K (.tuple #[t.v,VI (jT aD a b)]) h'):
 aE Tryz.prog 212 #[(Sl.v L4)] h8 fun acq Sv=>∃uo:Int,acq=(VI uo)/\Vars Sv [(b1,[(Sl.v g)])]/\
 jU Tryz.prog (Instr.makeSlice qD (VI (g.n:Int)) (VI (g.n:Int))) Sv fun acr Gd=>∃iP:Sl,acr=(Sl.v iP)/\Vars Gd [(b1,[(Sl.v g)])]/\
 dS iP a/\
 dU Gd (Sl.at iP a 1)/\Vars (cL Gd (Sl.at iP a 1) (VI (aL (A*uo)))) [(b1,[(Sl.v g)])]/\
 ∀uq:Heap,uq=cL Gd (Sl.at iP a 1) (VI (aL (A*uo)))->Vars uq [(b1,[(Sl.v g)])]->
 dS iP b/\
 dU uq (Sl.at iP b 1)/\Vars (cL uq (Sl.at iP b 1) (VI (aL (B*uo)))) [(b1,[(Sl.v g)])]/\
 ∀OR:Heap,OR=cL uq (Sl.at iP b 1) (VI (aL (B*uo)))->Vars OR [(b1,[(Sl.v g)])]->
 ∃OB:Nat->Int->Heap->Prop,(∃n0:Nat,OB n0 0 OR)/\
 ∀(n_5:Nat)(lY:Int)(l8:Heap),OB n_5 lY l8->Vars l8 [(b1,[(Sl.v g)])]->
 ((decide (lY<(inner.n:Int)))=true->
 dS inner lY/\
 ∃yz:Int,aS l8 (Sl.at inner lY 1)=some (VI yz)/\
 jU Tryz.prog (Instr.buildSlice nu 0 #[]) l8 fun acs De=>∃OS:Sl,acs=(Sl.v OS)/\Vars De [(b1,[(Sl.v g)])]/\
 ∃WG:Nat->Sl->Int->Heap->Prop,(∃n0:Nat,WG n0 OS 0 De)/\
 ∀(n_6:Nat)(ur:Sl)(px:Int)(Df:Heap),WG n_6 ur px Df->Vars Df [(b1,[(Sl.v g)])]->
 ((decide (px<(L4.n:Int)))=true->
 dS L4 px/\
 ∃OT:Sl,aS Df (Sl.at L4 px 1)=some (Sl.v OT)/\
 aE Tryz.prog 152 #[(Sl.v OT)] Df fun acu Dg=>∃uu:Sl,acu=(Sl.v uu)/\Vars Dg [(b1,[(Sl.v g)])]/\
 dS rt px/\
 ∃IA:Int,aS Dg (Sl.at rt px 1)=some (VI IA)/\
 dS uu lY/\
 dU Dg (Sl.at uu lY 1)/\Vars (cL Dg (Sl.at uu lY 1) (VI IA)) [(b1,[(Sl.v g)])]/\
 ∀sW:Heap,sW=cL Dg (Sl.at uu lY 1) (VI IA)->Vars sW [(b1,[(Sl.v g)])]->
 jU Tryz.prog (Instr.buildSlice nu 1 #[(0,(Sl.v uu))]) sW fun acv sX=>∃OU:Sl,acv=(Sl.v OU)/\Vars sX [(b1,[(Sl.v g)])]/\
 jU Tryz.prog (bP nu nu nu (Sl.v ur) (Sl.v OU)) sX fun acw yA=>∃OV:Sl,acw=(Sl.v OV)/\Vars yA [(b1,[(Sl.v g)])]/\
 ∃m:Nat,m<n_6/\WG m OV (aL (px+1)) yA)/\
 ((decide (px<(L4.n:Int)))=false->
 aE Tryz.prog 212 #[(Sl.v ur)] Df fun acx Ge=>∃IB:Int,acx=(VI IB)/\Vars Ge [(b1,[(Sl.v g)])]/\
 dS iP yz/\
 dU Ge (Sl.at iP yz 1)/\Vars (cL Ge (Sl.at iP yz 1) (VI IB)) [(b1,[(Sl.v g)])]/\
 ∀Dh:Heap,Dh=cL Ge (Sl.at iP yz 1) (VI IB)->Vars Dh [(b1,[(Sl.v g)])]->
 ∃m:Nat,m<n_5/\OB m (aL (lY+1)) Dh))/\
 ((decide (lY<(inner.n:Int)))=false->
 K (Value.tuple #[(Sl.v iP),(VI uo)]) l8):=by
 have hg:=C.bE
 have gl:=aO hg
 have il:=sR C.a0 C.a1 C.b0 C.b1 C.ne
 have l1:b1<h8.size:=fA.head.lt
 have tK:∀{F:Nat->Prop},(∀k,F k->h8.size<=k)->∀p,p∈[(b1,[g.v])]->¬F p.1:=fun hF p hp hk=>by
  simp only[List.mem_cons,List.not_mem_nil,or_false]at hp
  subst hp
  have:=hF _ hk
  (try simp only at this)
  omega
 have NZ:∀q,q∈bR aD.length a b->q<aD.length:=fun q hq=>(dZ.1 hq).1
 have hQ:=(j5 aD a b).2
 have hS:=um hg a b
 have hDe:=KH aD a b
 have hCe:=Iz aD a b own A B
 have hz0:=L2 (g:=aD) own A B C.a0 C.b0 C.ne
 have M0:=fun k hk=>L3 (g:=aD) (a:=a) (b:=b) own A B (k:=k) hk
 have Wf:=OP aD a b own A B
 have hRb:∀i,i<(bR aD.length a b).length->((mL aD a b own A B).getD i 0).natAbs<=10:=fun i hi=>by rw[sS aD a b own A B hi];exact hr i hi
 have dn:=C.den
 have ml:=(j5 aD a b).1
 have rl:=mM aD a b own A B
 generalize bR aD.length a b=ps at*
 have UO:(ps.map fun p:Nat=>(p:Int)).length=ps.length:=List.length_map _
 have hQ':Sq (qG aD a b).length (qG aD a b):=by rw[ml];exact hQ
 have hS':Small (qG aD a b).length (bU (qG aD a b)):=by rw[ml];exact hS
 refine lX M8 hQ' (by omega) hS' _ fun Hc f22=>⟨_,rfl,fA.aB f22,?_⟩
 rw[ml,hDe]
 have z22:=f22.size
 refine eB fy (fun k=>Hc.size<=k) (fun _ h=>h) .i64 .i64 g.n g.n (Nat.le_refl _) (by omega) fun t QD n23 c23 o23 f23 m23 _=>⟨t,rfl,(fA.aB f22).aB f23,?_⟩
 have z23:=f23.size
 have ajv:=(fA.aB f22).aB f23
 have o23:bM QD (Iv Hc.size QD.size) t (List.replicate aD.length 0):=by
  have e:(List.replicate g.n [VI 0]).flatten=(List.replicate aD.length (0:Int)).map VI:=by rw[gn];simp[List.flatten_replicate_singleton]
  rw[e]at o23;exact Ow.ga o23
 have WN:∀p,p∈[(b1,[g.v])]->¬Iv Hc.size QD.size p.1:=tK fun k hk=>by have:=hk.1;omega
 refine gf o23 C.a0 (by rw[List.length_replicate];exact C.a1) ajv WN _ fun h24 o24 f24 V24=> ?_
 refine gf o24 C.b0 (by rw[List.length_set,List.length_replicate];exact C.b1) V24 WN _ fun Lw o25 f25 V25=> ?_
 have wd:∀X:Int,X=0\/X=1->aL (X*jT aD a b)=X*jT aD a b:=fun X hX=>aH _ (by rcases hX with rfl|rfl<;>omega) (by rcases hX with rfl|rfl<;>omega)
 rw[wd A hA,wd B hB,<-hz0]at o25
 have acy:=f24.trans f25
 have M23:bL (fun k=>k<Hc.size) QD L4 (qG aD a b):=((M8.no f22).no f23).mono fun k hk=>by omega
 have R23:aP (fun k=>k<Hc.size) QD rt (mL aD a b own A B):=((R8.no f22).no f23).mono fun k hk=>by omega
 have I23:aP (fun k=>k<Hc.size) QD inner (ps.map fun p:Nat=>(p:Int)):=((I8.no f22).no f23).mono fun k hk=>by omega
 refine⟨fun m k h'=>0<=k/\k+m=(ps.length:Int)/\bM h' (Iv Hc.size QD.size) t (yy aD a b own A B k.toNat)/\Fr (fun q=>Hc.size<=q) QD h',⟨ps.length,Int.le_refl _,by omega,o25,acy.mono fun q _ hq=>hq.1⟩,?_⟩
 rintro m3 k vv ⟨k0,k1,o26,f26⟩ tV
 have z26:=f26.size
 have g26:Fr No h vv:=(((g8.aA f22).aA f23)).fresh f26 fun q hq=>by have:=g8.size;omega
 have OW:∀{T:Nat->Prop}{x y:Heap},Fr T x y->(∀q,T q->Hc.size<=q)->∀q,q<Hc.size->¬T q:=fun _ hT q hq hk=>by have:=hT q hk;omega
 have M26:=M23.fr f26 (OW f26 fun q hq=>hq)
 have R26:=R23.fr f26 (OW f26 fun q hq=>hq)
 have I26:=I23.fr f26 (OW f26 fun q hq=>hq)
 refine⟨fun e3=> ?_,fun e3=> ?_⟩
 ·have hk:=I26.lt e3
  have QC:k.toNat<ps.length:=by omega
  have cI:=I26.get k0 hk
  rw[nJ]at cI
  have hpm:=List.getElem_mem QC
  have IC:=NZ _ hpm
  have WQ:=M0 k.toNat QC
  refine⟨I26.bB k0 hk,_,cI,?_⟩
  refine aQ qg (fun q=>vv.size<=q) (fun _ h=>h) 0 (by omega) [] rfl rfl fun ot RE n27 c27 NW f27 m27 _=>⟨ot,rfl,tV.aB f27,?_⟩
  have ajx:fQ RE (fun q=>vv.size<=q) ot []:=⟨[],rfl,NW,fun i h1=>by simp at h1,fun i j h1=>by simp at h1,fun i h1=>by simp at h1⟩
  refine⟨fun m x i h'=>0<=i/\i+m=(ps.length:Int)/\fQ h' (fun q=>vv.size<=q) x ((sT (qG aD a b) k.toNat (mL aD a b own A B)).take i.toNat)/\Fr (fun q=>vv.size<=q) vv h',⟨ps.length,Int.le_refl _,by omega,ajx,f27.aB⟩,?_⟩
  rintro m4 x i h28 ⟨i0,i1,o28,f28⟩ L5
  have z28:=f28.size
  have M28:=M26.fr f28 (OW f28 fun q hq=>by omega)
  have R28:=R26.fr f28 (OW f28 fun q hq=>by omega)
  refine⟨fun e4=> ?_,fun e4=> ?_⟩
  ·have hi:=M28.lt e4
   obtain⟨si,ci,ri⟩:=M28.get i0 hi
   have ajy:=hQ'.row i.toNat (by omega)
   refine⟨M28.bB i0 hi,si,ci,wu ri (by omega) _ fun t2 h29 o29 f29=>⟨t2,rfl,L5.aB f29,?_⟩⟩
   have R29:=R28.no f29
   have z29:=f29.size
   refine⟨R29.bB i0 (by omega),_,R29.get i0 (by omega),gf (o29.mono (F':=fun q=>h28.size<=q) fun q _ hq=>hq.1) k0 (by omega) (L5.aB f29) (tK fun q hq=>by omega) _ fun h30 o30 f30 V30=> ?_⟩
   have z30:=f30.size
   refine jM (lo:=vv.size) (m:=h28.size) (dI.fr (dI.ga o28) (f29.aB.trans f30) fun q _ hq gO=>by have:=hq.2;omega) o30 z28 (by omega) V30 (fun p hp=>by simp only[List.mem_cons,List.not_mem_nil,or_false]at hp;subst hp;show b1<vv.size;omega) (by rw[List.length_take];omega) _ fun t3 Wb o32 f32 V32=> ?_
   rw[M28.succ i0 hi]
   refine⟨m4-1,by omega,by omega,by omega,?_,((f28.trans f29.aB).trans (f30.mono fun q _ hq=>by omega)).trans f32⟩
   rw[show(i+1).toNat=i.toNat+1 by omega,BL (by omega),aN (by omega)]
   exact o32
  ·have hi:=M28.ge e4
   have pl:=kV (qG aD a b) k.toNat (mL aD a b own A B)
   rw[List.take_of_length_le (by omega)]at o28
   have Qp:=KI hQ k.toNat (mL aD a b own A B)
   have Sp:=rA hQ hS (k:=k.toNat) hRb
   have dp:=yx hQ k.toNat (mL aD a b own A B)
   rw[hCe]at dp
   refine lX (dI.rd o28) (by rw[pl,ml];exact Qp) (by omega) (by rw[pl,ml];exact Sp) _ fun h33 f33=>⟨_,rfl,L5.aB f33,?_⟩
   rw[pl,ml,dp]
   have UP:=f28.trans f33.aB
   have o33:bM h33 (Iv Hc.size QD.size) t (yy aD a b own A B k.toNat):=o26.fr UP fun q hq gO=>by have:=(o26.aG hq).1.2;omega
   refine gf o33 (i:=((ps[k.toNat]' QC:Nat):Int)) (by omega) (by rw[kW];omega) (L5.aB f33) WN _ fun h34 o34 f34 V34=> ?_
   rw[I26.succ k0 hk]
   refine⟨m3-1,by omega,by omega,by omega,?_,(f26.trans (UP.mono fun q _ hq=>by omega)).trans (f34.mono fun q _ hq=>hq.1)⟩
   rw[show(k+1).toNat=k.toNat+1 by omega,WQ]
   simp only[Int.toNat_natCast]at o34
   exact o34
 ·have hk:=I26.ge e3
  rw[show k.toNat=ps.length by omega,Wf]at o26
  exact HK t vv (o26.mono fun q _ hq=>⟨by have:=hq.1;have:=g8.size;omega,by have:=hq.2;omega⟩) g26
set_option maxHeartbeats 4000000 in
theorem OX{S:Nat->Prop}{h:Heap}{g:Sl}{aD:List (List Int)}(G:bL S h g aD){a b:Int}(C:Can aD a b)(ow:Value)(own:Int->Int){A B:Int}(hA:A=0\/A=1)(hB:B=0\/B=1)(hw:∀p:Nat,0<=own p/\own p<=5)(hr:∀i,i<(bR aD.length a b).length->(Iw aD a b own A B i).natAbs<=10)
 (hO:∀(p:Nat)(h':Heap)(K':Value->Heap->Prop),p<aD.length->Fr No h h'->K' (VI (own p)) h'->fD Tryz.prog ow [VI p] h' K') (K:Value->Heap->Prop) (HK:∀t h',bM h' (Iv h.size h'.size) t (Dd aD a b own A B)->Fr No h h'->K (.tuple #[t.v,VI (jT aD a b)]) h'):aE Tryz.prog 261 #[.agg #[g.v],VI a,VI b,ow,VI A,VI B] h K:=by
 have hg:=C.bE
 have gl:=aO hg
 have eA:=C.ne
 have il:=sR C.a0 C.a1 C.b0 C.b1 C.ne
 refine ail g a b ow A B h K fun b1 h1 dT f1 bF=> ?_
 have f1:=f1.aF
 have z1:=f1.size
 have l1:b1<h1.size:=bF.head.lt
 have tK:∀{F:Nat->Prop},(∀k,F k->h1.size<=k)->∀p,p∈[(b1,[g.v])]->¬F p.1:=fun hF p hp hk=>by
  simp only[List.mem_cons,List.not_mem_nil,or_false]at hp
  subst hp
  have:=hF _ hk
  (try simp only at this)
  omega
 refine aQ fy (fun k=>h1.size<=k) (fun _ h=>h) 0 (by omega) [] rfl rfl fun u h2 n2 c2 o2 f2 m2 _=>⟨u,rfl,bF.aB f2,?_⟩
 refine⟨fun m x p h'=>0<=p/\p+m=(aD.length:Int)/\bM h' (fun k=>h1.size<=k) x ((bR p.toNat a b).map fun p:Nat=>(p:Int))/\Fr (fun k=>h1.size<=k) h1 h',⟨aD.length,Int.le_refl _,by omega,o2,f2.aB⟩,?_⟩
 rintro m inner p h3 ⟨p0,p1,o3,f3⟩ cF
 have g3:=f1.fresh f3 fun k hk=>by omega
 have gn:=G.len
 refine⟨fun e=> ?_,fun e=> ?_⟩
 ·have hp:=G.lt e
  have eit:=Gc (a:=a) (b:=b) (show p.toNat<p.toNat+1 by omega)
  rw[G.succ p0 hp]
  have next:qm a b p.toNat=false->∃m':Nat,m'<m/\0<=p+1/\p+1+m'=(aD.length:Int)/\bM h3 (fun k=>h1.size<=k) inner ((bR (p+1).toNat a b).map fun p:Nat=>(p:Int))/\Fr (fun k=>h1.size<=k) h1 h3:=fun hi=>by
   rw[show(p+1).toNat=p.toNat+1 by omega,eit,hi]
   exact⟨m-1,by omega,by omega,by omega,o3,f3⟩
  refine⟨fun e2=>⟨fun e3=> ?_,fun e3=>next ?_⟩,fun e2=>next ?_⟩
  ·have e2:=aX e2
   have e3:=aX e3
   simp only[decide_eq_false_iff_not]at e2 e3
   have hi:qm a b p.toNat=true:=kT.2 ⟨by omega,by omega⟩
   refine sH (lo:=h1.size) o3 f3.size cF (fun p hp=>by simp only[List.mem_cons,List.not_mem_nil,or_false]at hp;subst hp;exact l1) (by rw[List.length_map];unfold bR;have:=List.length_filter_le (qm a b) (List.range p.toNat);rw[List.length_range]at this;omega) _ fun t h4 o4 f4 V4=> ?_
   refine⟨m-1,by omega,by omega,by omega,?_,f3.trans f4⟩
   rw[show(p+1).toNat=p.toNat+1 by omega,eit,hi,if_pos rfl,List.map_append,List.map_cons,List.map_nil,Int.toNat_of_nonneg p0]
   exact o4
  ·have e3:=aW e3
   simp only[decide_eq_true_eq]at e3
   exact Bool.eq_false_iff.2 fun h=>(kT.1 h).2 (by omega)
  ·have e2:=aW e2
   simp only[decide_eq_true_eq]at e2
   exact Bool.eq_false_iff.2 fun h=>(kT.1 h).1 (by omega)
 have hp:=G.ge e
 rw[show p.toNat=aD.length by omega]at o3
 have rI:aP (fun k=>k<h3.size) h3 inner ((bR aD.length a b).map fun p:Nat=>(p:Int)):=aP.low o3.eQ
 have mE:∀q,q∈bR aD.length a b->(q:Int)≠a/\(q:Int)≠b:=fun q hq=>(dZ.1 hq).2
 have NZ:∀q,q∈bR aD.length a b->q<aD.length:=fun q hq=>(dZ.1 hq).1
 have hMg:∀(i:Nat)(h:i<(bR aD.length a b).length),(qG aD a b).getD i []=dQ (bR aD.length a b) (bR aD.length a b)[i] (aD.getD (bR aD.length a b)[i] []) (aD.getD (bR aD.length a b)[i] []).length:=fun i h=>(aR (by rw[(j5 aD a b).1];exact h)).trans (List.getElem_map _)
 have hRg:∀(i:Nat)(h:i<(bR aD.length a b).length),(mL aD a b own A B).getD i 0=FZ aD a b own A B (bR aD.length a b)[i]:=fun i h=>(aN (by rw[mM];exact h)).trans (List.getElem_map _)
 have dn:=C.den
 have ml:=(j5 aD a b).1
 have rl:=mM aD a b own A B
 have hr':∀i,i<(bR aD.length a b).length->(Iw aD a b own A B i).natAbs<=10:=hr
 clear hr
 generalize OY:bR aD.length a b=ps at mE NZ hMg hRg il ml rl o3 rI
 have nd:ps.Nodup:=by rw[<-OY];exact C8 _ _ _
 have z3:=f3.size
 refine aQ qg (fun k=>h3.size<=k) (fun _ h=>h) 0 (by omega) [] rfl rfl fun m0 h6 n6 c6 o6 f6 m6 _=>⟨m0,rfl,cF.aB f6,?_⟩
 refine aQ fy (fun k=>h6.size<=k) (fun _ h=>h) 0 (by omega) [] rfl rfl fun r0 h7 n7 c7 o7 f7 m7 _=>⟨r0,rfl,(cF.aB f6).aB f7,?_⟩
 have z6:=f6.size
 have z7:=f7.size
 refine⟨fun m L4 rt i h'=>0<=i/\i+m=(ps.length:Int)/\fQ h' (fun k=>h3.size<=k/\¬rt.own k) L4 ((qG aD a b).take i.toNat)/\bM h' (fun k=>h3.size<=k) rt ((mL aD a b own A B).take i.toNat)/\Fr (fun k=>h3.size<=k) h3 h',⟨ps.length,Int.le_refl _,by omega,⟨[],rfl,(o6.no f7).mono fun k hk hF=>⟨hF,fun hr=> ?_⟩,fun i h1=>by simp at h1,fun i j h1=>by simp at h1,fun i h1=>by simp at h1⟩,o7.mono fun k _ hk=>by omega,f6.aB.trans f7.aB⟩,?_⟩
 ·have h1:=(o6.aG hk).2
  have h2:=(o7.aG hr).1
  (try simp only at h2)
  omega
 rintro m L4 rt i h8 ⟨i0,i1,om,or',f8⟩ fA
 have g8:=(g3.fresh f8 fun k hk=>by have:=g3.size;omega)
 have z8:=f8.size
 have WR:=rI.fr f8 fun k hk aI=>by omega
 have UO:(ps.map fun p:Nat=>(p:Int)).length=ps.length:=List.length_map _
 refine⟨fun e2=> ?_,fun e2=> ?_⟩
 ·have hi:=WR.lt e2
  have gH:i.toNat<ps.length:=by omega
  have cI:=WR.get i0 hi
  rw[nJ]at cI
  have hpm:=List.getElem_mem gH
  have IC:=NZ _ hpm
  have gO:=mE _ hpm
  generalize hP:ps[i.toNat]' gH=P at cI hpm IC gO
  have mi:L4.n=i.toNat:=by have:=om.len;rw[List.length_take]at this;omega
  refine⟨WR.bB i0 hi,_,cI,?_⟩
  have UQ:inner.n=ps.length:=by have:=rI.len;rw[UO]at this;exact this
  have gm:=aT hg (List.getElem_mem IC)
  have eg:aD.getD P []=aD[P]:=aR IC
  refine⟨fun x s h'=>bM h' (fun k=>h8.size<=k) x (List.replicate ps.length 0)/\s=own P/\Fr No h8 h',⟨?_,?_⟩,?_⟩
  ·refine eB fy (fun k=>h8.size<=k) (fun _ h=>h) .i64 .i64 inner.n inner.n (Nat.le_refl _) (by omega) fun t h9 n9 c9 o9 f9 m9 _=>⟨t,rfl,fA.aB f9,?_⟩
   refine hO P h9 _ IC (g8.aA f9) ⟨_,rfl,fA.aB f9,?_,rfl,f9⟩
   have e:(List.replicate inner.n [VI 0]).flatten=(List.replicate ps.length (0:Int)).map VI:=by rw[UQ];simp[List.flatten_replicate_singleton]
   rw[e]at o9;exact o9
  ·refine hO P h8 _ IC g8 ⟨_,rfl,fA,?_⟩
   refine eB fy (fun k=>h8.size<=k) (fun _ h=>h) .i64 .i64 inner.n inner.n (Nat.le_refl _) (by omega) fun t h9 n9 c9 o9 f9 m9 _=>⟨t,rfl,fA.aB f9,?_,rfl,f9⟩
   have e:(List.replicate inner.n [VI 0]).flatten=(List.replicate ps.length (0:Int)).map VI:=by rw[UQ];simp[List.flatten_replicate_singleton]
   rw[e]at o9;exact o9
  rintro x s qE ⟨LV,rfl,f13⟩ Lq
  have G8:=G.no g8
  obtain⟨sp,cp8,rp8⟩:=G8.get (i:=(P:Int)) (by omega) (by omega)
  simp only[Int.toNat_natCast]at rp8
  have ln:=rp8.len
  have cpk:∀{h':Heap},Fr (fun k=>h8.size<=k) h8 h'->aS h' (g.at (P:Int) 1)=some sp.v:=fun f=>dL cp8 f (by have:=oK cp8;omega)
  have bB:=G8.bB (i:=(P:Int)) (by omega) (by omega)
  refine⟨bB,sp,cpk f13.aB,?_⟩
  rw[<-Ix ps P]at LV
  refine⟨fun m2 s j h'=>0<=j/\j+m2=(aD[P].length:Int)/\s=own P+A*ff a (aD[P].take j.toNat)+B*ff b (aD[P].take j.toNat)/\bM h' (fun k=>h8.size<=k) x (dQ ps P (aD[P].take j.toNat) 0)/\Fr (fun k=>h8.size<=k) h8 h',⟨aD[P].length,Int.le_refl _,by omega,by simp[ff],by simpa using LV,f13.aB⟩,?_⟩
  rintro m2 s j KJ ⟨j0,j1,rfl,WS,f14⟩ L6
  have OZ:=rp8.low.fr f14 fun k hk aI=>by omega
  have wP:=hw P
  have oa:=OQ hA (pw gm.1 j.toNat).1 (pw (a:=a) gm.1 j.toNat).2
  have ob:=OQ hB (pw gm.1 j.toNat).1 (pw (a:=b) gm.1 j.toNat).2
  have Mv:=cP ps P (aD[P].take j.toNat) 0
  refine⟨fun e3=> ?_,fun e3=> ?_⟩
  ·have hj:=OZ.lt e3
   have hv:=gm.2 _ (List.getElem_mem (show j.toNat<aD[P].length by omega))
   have hc:=OZ.get j0 hj
   have tk:aD[P].take (j+1).toNat=_:=dY _ j0 hj
   generalize aD[P][j.toNat]'(by omega)=v at hv hc tk
   rw[OZ.succ j0 hj]
   have nxt:∀(s':Int)(h':Heap),s'=own P+A*ff a (aD[P].take (j+1).toNat)+B*ff b (aD[P].take (j+1).toNat)->bM h' (fun k=>h8.size<=k) x (dQ ps P (aD[P].take (j+1).toNat) 0)->Fr (fun k=>h8.size<=k) h8 h'->∃m':Nat,m'<m2/\0<=j+1/\j+1+m'=(aD[P].length:Int)/\s'=own P+A*ff a (aD[P].take (j+1).toNat)+B*ff b (aD[P].take (j+1).toNat)/\bM h' (fun k=>h8.size<=k) x (dQ ps P (aD[P].take (j+1).toNat) 0)/\Fr (fun k=>h8.size<=k) h8 h':=fun s' h' a1 a2 a3=>⟨m2-1,by omega,by omega,by omega,a1,a2,a3⟩
   refine⟨OZ.bB j0 hj,_,hc,fun e4=> ?_,fun e4=>⟨fun e5=> ?_,fun e5=> ?_⟩⟩
   ·simp only[decide_eq_true_eq]at e4
    refine nxt _ _ ?_ ?_ f14
    ·rw[tk,gY,gY,if_pos e4,if_neg (by omega),aH _ (by omega) (by omega),Int.mul_add,Int.mul_one,Int.add_zero]
     omega
    ·rw[tk,yw fun q hq=>by rw[e4];exact(mE q hq).1]
     exact WS
   ·simp only[decide_eq_true_eq,decide_eq_false_iff_not]at e4 e5
    refine nxt _ _ ?_ ?_ f14
    ·rw[tk,gY,gY,if_neg e4,if_pos e5,aH _ (by omega) (by omega),Int.mul_add B,Int.mul_one,Int.add_zero]
     omega
    ·rw[tk,yw fun q hq=>by rw[e5];exact(mE q hq).2]
     exact WS
   ·simp only[decide_eq_false_iff_not]at e4 e5
    have ajB:=WR.fr f14 fun k hk aI=>by omega
    refine xX ajB v _ (fun hn=>absurd ?_ hn) fun q hq ev _=>⟨_,rfl,L6,?_⟩
    ·rw[List.mem_map]
     exact⟨v.toNat,by rw[<-OY];exact dZ.2 ⟨by omega,by omega,by omega⟩,by omega⟩
    rw[UO]at hq
    rw[aN (by rw[UO];exact hq),nJ]at ev
    have UR:=WS.eQ
    have hql:q<(dQ ps P (aD[P].take j.toNat) 0).length:=by rw[Mv];exact hq
    refine⟨aP.bB UR (by omega) (by omega),_,aP.get UR (i:=(q:Int)) (by omega) (by omega),gf (F:=fun k=>h8.size<=k) WS (i:=(q:Int)) (by omega) (by omega) L6 (tK fun k hk=>by omega) _ fun WT o16 f16 V16=> ?_⟩
    refine nxt _ _ ?_ ?_ (f14.trans f16)
    ·rw[tk,gY,gY,if_neg e4,if_neg e5,Int.add_zero,Int.add_zero]
    ·rw[tk,Iy nd hq ev,aN hql]
     simp only[Int.toNat_natCast]at o16
     have hb:aL ((dQ ps P (aD[P].take j.toNat) 0)[q]-1)=(dQ ps P (aD[P].take j.toNat) 0)[q]-1:=by
      rw[fu]
      have:=pw (a:=((ps[q]:Nat):Int)) gm.1 j.toNat
      exact aH _ (by split<;>omega) (by split<;>omega)
     rw[hb]at o16
     exact o16
  ·have hj:=OZ.ge e3
   rw[List.take_of_length_le (by omega)]at WS oa ob Mv
   have UR:=WS.eQ
   have UK:i.toNat<(dQ ps P aD[P] 0).length:=by rw[Mv];exact gH
   have mI:(L4.n:Int)=i:=by omega
   rw[mI,List.take_of_length_le (by omega)]
   refine⟨aP.bB UR i0 (by omega),_,aP.get UR i0 (by omega),bB,sp,cpk f14,gf (F:=fun k=>h8.size<=k) WS i0 (by omega) L6 (tK fun k hk=>by omega) _ fun h17 o17 f17 V17=> ?_⟩
   have ab5:(dQ ps P aD[P] 0).set i.toNat (aL ((dQ ps P aD[P] 0)[i.toNat]' UK+(sp.n:Int)))=dQ ps P (aD.getD P []) (aD.getD P []).length:=by
    have h1:=L1 (l:=aD[P]) (L:=(aD[P].length:Int)) nd gH
    rw[hP]at h1
    rw[eg,h1,aN UK]
    congr 1
    rw[fu]
    have:=pw (a:=((ps[i.toNat]:Nat):Int)) gm.1 aD[P].length
    rw[List.take_length]at this
    have:=gm.1
    exact(aH _ (by split<;>omega) (by split<;>omega)).trans (by omega)
   rw[ab5]at o17
   have O0:=f14.trans f17
   have z17:=O0.size
   have apD:=dI.fr om O0 fun k hk _ aI=>by omega
   have WU:(qG aD a b).take (i+1).toNat=(qG aD a b).take i.toNat++[dQ ps P (aD.getD P []) (aD.getD P []).length]:=by
    rw[show(i+1).toNat=i.toNat+1 by omega,List.take_succ_eq_append_getElem (by omega)]
    rw[<-aR (by omega),hMg i.toNat gH,hP]
   have WV:(mL aD a b own A B).take (i+1).toNat=(mL aD a b own A B).take i.toNat++[own P+A*ff a aD[P]+B*ff b aD[P]]:=by
    rw[show(i+1).toNat=i.toNat+1 by omega,List.take_succ_eq_append_getElem (by omega),<-aN (by omega),hRg i.toNat gH,hP]
    unfold FZ
    rw[eg]
   have rtl:∀{k},rt.own k->k<h8.size:=fun hk=>(or'.aG hk).2
   refine sI (F:=fun k=>h3.size<=k/\¬rt.own k) (m:=h8.size) (dI.fr (om.mono fun k hk hF=>(⟨hF,hk⟩:(h3.size<=k/\¬rt.own k)/\k<h8.size)) O0 fun k _ hk aI=>by have:=hk.2;omega) o17 (fun k hk=>⟨by omega,fun aI=>by have:=rtl aI;omega⟩) z17 V17 (tK (F:=fun k=>h3.size<=k/\¬rt.own k) fun k hk=>by have:=hk.1;omega) (by rw[List.length_take];omega) _ fun t L7 o19 f19 V19=> ?_
   have z19:=f19.size
   have ajE:=or'.fr O0 fun k hk aI=>by have:=rtl hk;omega
   have acH:=ajE.fr f19 fun k hk aI=>aI.2 hk
   refine aQ fy (fun k=>L7.size<=k) (fun _ h=>h) 1 (by omega) [VI (own P+A*ff a aD[P]+B*ff b aD[P])] rfl rfl fun u2 h20 n20 c20 o20 f20 m20 _=>⟨u2,rfl,V19.aB f20,?_⟩
   have z20:=f20.size
   have ru:aP (fun k=>L7.size<=k) h20 u2 [own P+A*ff a aD[P]+B*ff b aD[P]]:=o20.eQ
   refine bQ fy (acH.no f20) (fun k hk=>by omega) ru (fc _) (by have h1:=aP.len acH.eQ;have h2:=ru.len;simp at h1 h2;omega) fun y h21 n21 o21 f21 d21=>⟨y,rfl,(V19.aB f20).fr f21 (fun q hq hk=>tK (F:=fun k=>h1.size<=k) (fun k hk=>hk) q hq (by have:=(or'.aG hk).1;omega)),?_⟩
   rw[WR.succ i0 hi]
   (try simp only)
   rw[WU,WV]
   refine⟨m-1,by omega,by omega,by omega,?_,by show Ow _ _ _ _ _ _;rw[List.map_append];exact o21,((f8.trans (O0.mono fun k _ hk=>by omega)).trans (f19.mono fun k _ hk=>hk.1)).trans (f20.aB.trans (f21.mono fun k _ hk=>(or'.aG hk).1))⟩
   refine(dI.fr (dI.no (o19.mono fun k hk hF=>(⟨hF,hk⟩:(h3.size<=k/\¬rt.own k)/\k<L7.size)) f20) f21 fun k _ hk aI=>hk.1.2 aI).mono fun k _ hF=>⟨hF.1.1,fun aI=> ?_⟩
   rcases d21 k aI with hd|hd
   ·exact hF.1.2 hd
   ·have:=hF.2
    omega
 ·have hi:=WR.ge e2
  have gH:i.toNat=ps.length:=by omega
  rw[List.take_of_length_le (by omega)]at om or'
  have M8:bL (fun k=>k<h8.size) h8 L4 (qG aD a b):=(dI.rd om).mono fun k hk=>hk.2
  have R8:aP (fun k=>k<h8.size) h8 rt (mL aD a b own A B):=aP.low or'.eQ
  have I8:aP (fun k=>k<h8.size) h8 inner (ps.map fun p:Nat=>(p:Int)):=WR.mono fun k hk=>by omega
  rw[<-OY]at I8
  exact WM C hA hB hr' gn g8 fA M8 R8 I8 K HK
theorem Sx{full:List Int}{m j:Nat}(h:j<m)(hl:full.length=m):(full.take j++(List.replicate m (0:Int)).drop j).set j 0=full.take j++(List.replicate m (0:Int)).drop j:=by
 rw[List.set_append_right _ _ (by rw[List.length_take];omega),List.length_take,show j-min j full.length=0 by omega,List.drop_replicate]
 obtain⟨d,hd⟩:∃d,m-j=d+1:=⟨m-j-1,by omega⟩
 rw[hd,List.replicate_succ]
 rfl
set_option maxHeartbeats 4000000 in
theorem ID{S:Nat->Prop}{h:Heap}{g:Sl}{aD:List (List Int)}(G:bL S h g aD)(hg:aM aD=true)(a b:Int)(K:Value->Heap->Prop)(HK:∀t u h',aP (fun k=>k<h'.size) h' t ((bR aD.length a b).map fun p:Nat=>(p:Int))->bL (fun k=>k<h'.size) h' u (qG aD a b)->Fr No h h'->K (.tuple #[t.v,u.v]) h'):aE Tryz.prog 234 #[.agg #[g.v],VI a,VI b] h K:=by
 have gl:=aO hg
 refine v234 g a b h K fun b1 h1 dT f1 bF=> ?_
 have f1:=f1.aF
 have z1:=f1.size
 have l1:b1<h1.size:=bF.head.lt
 have gn:=G.len
 refine⟨fun m x p h'=>0<=p/\p+m=(aD.length:Int)/\bM h' (fun k=>h1.size<=k) x ((bR p.toNat a b).map fun p:Nat=>(p:Int))/\Fr (fun k=>h1.size<=k) h1 h',⟨aD.length,Int.le_refl _,by omega,Ow.nil _ _ _ _,Fr.refl _ _⟩,?_⟩
 rintro m pl p h3 ⟨p0,p1,o3,f3⟩ cF
 have g3:=f1.fresh f3 fun k hk=>by omega
 refine⟨fun e=> ?_,fun e=> ?_⟩
 ·have hp:=G.lt e
  have eit:=Gc (a:=a) (b:=b) (show p.toNat<p.toNat+1 by omega)
  rw[G.succ p0 hp]
  have next:qm a b p.toNat=false->∃m':Nat,m'<m/\0<=p+1/\p+1+m'=(aD.length:Int)/\bM h3 (fun k=>h1.size<=k) pl ((bR (p+1).toNat a b).map fun p:Nat=>(p:Int))/\Fr (fun k=>h1.size<=k) h1 h3:=fun hi=>by
   rw[show(p+1).toNat=p.toNat+1 by omega,eit,hi]
   exact⟨m-1,by omega,by omega,by omega,o3,f3⟩
  refine⟨fun e2=>⟨fun e3=> ?_,fun e3=>next ?_⟩,fun e2=>next ?_⟩
  ·have e2:=aX e2
   have e3:=aX e3
   simp only[decide_eq_false_iff_not]at e2 e3
   have hi:qm a b p.toNat=true:=kT.2 ⟨by omega,by omega⟩
   refine sH (lo:=h1.size) o3 f3.size cF (fun p hp=>by simp only[List.mem_cons,List.not_mem_nil,or_false]at hp;subst hp;exact l1) (by rw[List.length_map];unfold bR;have:=List.length_filter_le (qm a b) (List.range p.toNat);rw[List.length_range]at this;omega) _ fun t h4 o4 f4 V4=> ?_
   refine⟨m-1,by omega,by omega,by omega,?_,f3.trans f4⟩
   rw[show(p+1).toNat=p.toNat+1 by omega,eit,hi,if_pos rfl,List.map_append,List.map_cons,List.map_nil,Int.toNat_of_nonneg p0]
   exact o4
  ·have e3:=aW e3
   simp only[decide_eq_true_eq]at e3
   exact Bool.eq_false_iff.2 fun h=>(kT.1 h).2 (by omega)
  ·have e2:=aW e2
   simp only[decide_eq_true_eq]at e2
   exact Bool.eq_false_iff.2 fun h=>(kT.1 h).1 (by omega)
 have hp:=G.ge e
 rw[show p.toNat=aD.length by omega]at o3
 have z3:=f3.size
 have rI:aP (fun k=>k<h3.size) h3 pl ((bR aD.length a b).map fun p:Nat=>(p:Int)):=aP.low o3.eQ
 have NZ:∀q,q∈bR aD.length a b->q<aD.length:=fun q hq=>(dZ.1 hq).1
 have hMg:∀(i:Nat)(h:i<(bR aD.length a b).length),(qG aD a b).getD i []=dQ (bR aD.length a b) (bR aD.length a b)[i] (aD.getD (bR aD.length a b)[i] []) (aD.getD (bR aD.length a b)[i] []).length:=fun i h=>(aR (by rw[(j5 aD a b).1];exact h)).trans (List.getElem_map _)
 have ml:=(j5 aD a b).1
 have ajF:(bR aD.length a b).length<=8:=by unfold bR;have:=List.length_filter_le (qm a b) (List.range aD.length);rw[List.length_range]at this;omega
 generalize OY:bR aD.length a b=ps at NZ hMg ml o3 rI ajF
 have UO:(ps.map fun p:Nat=>(p:Int)).length=ps.length:=List.length_map _
 have pn:pl.n=ps.length:=by have:=rI.len;rw[UO]at this;exact this
 refine⟨fun m x i h'=>0<=i/\i+m=(ps.length:Int)/\fQ h' (fun k=>h3.size<=k) x ((qG aD a b).take i.toNat)/\Fr (fun k=>h3.size<=k) h3 h',⟨ps.length,Int.le_refl _,by omega,dI.nil _ _ _ _,Fr.refl _ _⟩,?_⟩
 rintro m2 x i h5 ⟨i0,i1,o5,f5⟩ gr
 have z5:=f5.size
 have g5:=g3.fresh f5 fun k hk=>by have:=g3.size;omega
 have WW:=rI.fr f5 fun k hk aI=>by omega
 refine⟨fun e2=> ?_,fun e2=> ?_⟩
 ·have hi:=WW.lt e2
  have gH:i.toNat<ps.length:=by omega
  have cI:=WW.get i0 hi
  rw[nJ]at cI
  have IC:=NZ _ (List.getElem_mem gH)
  have hMi:=hMg i.toNat gH
  generalize ps[i.toNat]' gH=P at cI IC hMi
  have gm:=aT hg (List.getElem_mem IC)
  have eg:aD.getD P []=aD[P]:=aR IC
  rw[eg]at hMi
  have G5:=G.no g5
  obtain⟨sp,cp5,rp5⟩:=G5.get (i:=(P:Int)) (by omega) (by omega)
  simp only[Int.toNat_natCast]at rp5
  have ln:=rp5.len
  have cpk:∀{h':Heap},Fr (fun k=>h5.size<=k) h5 h'->aS h' (g.at (P:Int) 1)=some sp.v:=fun f=>dL cp5 f (by have:=oK cp5;omega)
  have bB:=G5.bB (i:=(P:Int)) (by omega) (by omega)
  have fl:=cP ps P aD[P] (aD[P].length:Int)
  have fg:∀j(h:j<ps.length),(dQ ps P aD[P] (aD[P].length:Int))[j]'(by rw[fl];exact h)=(if ps[j]=P then(aD[P].length:Int)else 0)-ff (ps[j]:Nat) aD[P]:=fun j h=>fu _
  generalize hF:dQ ps P aD[P] (aD[P].length:Int)=F at hMi fl fg
  refine⟨WW.bB i0 hi,_,cI,?_⟩
  refine eB fy (fun k=>h5.size<=k) (fun _ h=>h) .i64 .i64 pl.n pl.n (Nat.le_refl _) (by omega) fun t h6 n6 c6 o6 f6 m6 _=>⟨t,rfl,gr.aB f6,?_⟩
  have o6:bM h6 (fun k=>h5.size<=k) t (List.replicate ps.length 0):=by
   have e:(List.replicate pl.n [VI 0]).flatten=(List.replicate ps.length (0:Int)).map VI:=by rw[pn];simp[List.flatten_replicate_singleton]
   rw[e]at o6;exact o6
  have off:∀p,p∈[(b1,[g.v])]->¬h5.size<=p.1:=fun p hp=>by
   simp only[List.mem_cons,List.not_mem_nil,or_false]at hp
   subst hp
   show¬h5.size<=b1
   omega
  refine⟨fun m j h'=>0<=j/\j+m=(ps.length:Int)/\bM h' (fun k=>h5.size<=k) t (F.take j.toNat++(List.replicate ps.length (0:Int)).drop j.toNat)/\Fr (fun k=>h5.size<=k) h5 h',⟨ps.length,Int.le_refl _,by omega,by simpa using o6,f6.aB⟩,?_⟩
  rintro m3 j h7 ⟨j0,j1,o7,f7⟩ jC
  have rI7:=WW.fr f7 fun k hk aI=>by omega
  have tl:(F.take j.toNat++(List.replicate ps.length (0:Int)).drop j.toNat).length=ps.length:=by rw[List.length_append,List.length_take,List.length_drop,List.length_replicate];omega
  refine⟨fun e3=> ?_,fun e3=> ?_⟩
  ·have hj:=rI7.lt e3
   have Fv:j.toNat<ps.length:=by omega
   have cJ:=rI7.get j0 hj
   rw[nJ]at cJ
   have hFj:=fg j.toNat Fv
   generalize ps[j.toNat]' Fv=Q at cJ hFj
   have mz:=Sx Fv fl
   generalize hT:F.take j.toNat++(List.replicate ps.length (0:Int)).drop j.toNat=T at o7 tl mz
   have jl:j<(T.length:Int):=by omega
   have US:∀{v:Int}(h:j.toNat<(T.set j.toNat v).length),(T.set j.toNat v)[j.toNat]'h=v:=fun h=>by rw[List.getElem_set];exact if_pos rfl
   refine⟨rI7.bB j0 hj,_,cJ,?_⟩
   refine⟨fun h'=>bM h' (fun k=>h5.size<=k) t (T.set j.toNat (if Q=P then(aD[P].length:Int)else 0))/\Fr (fun k=>h5.size<=k) h5 h',⟨fun e4=> ?_,fun e4=> ?_⟩,?_⟩
   ·simp only[decide_eq_true_eq]at e4
    have R7:=o7.eQ
    have hz:T[j.toNat]'(by omega)=0:=by
     have:=US (v:=0) (by rw[List.length_set];omega)
     rw[<-this]
     congr 1
     exact mz.symm
    refine⟨aP.bB R7 j0 jl,_,aP.get R7 j0 jl,bB,sp,cpk f7,gf (F:=fun k=>h5.size<=k) o7 j0 jl jC off _ fun h8 o8 f8 V8=>⟨?_,f7.trans f8⟩⟩
    rw[if_pos (by omega)]
    rw[hz,aH _ (by omega) (by omega),Int.zero_add,ln]at o8
    exact o8
   ·simp only[decide_eq_false_iff_not]at e4
    refine⟨?_,f7⟩
    rw[if_neg (by omega),mz]
    exact o7
   rintro h9 ⟨o9,f9⟩ fS
   refine⟨bB,sp,cpk f9,?_⟩
   refine⟨fun m q h'=>0<=q/\q+m=(aD[P].length:Int)/\bM h' (fun k=>h5.size<=k) t (T.set j.toNat ((if Q=P then(aD[P].length:Int)else 0)-ff (Q:Int) (aD[P].take q.toNat)))/\Fr (fun k=>h5.size<=k) h5 h',⟨aD[P].length,Int.le_refl _,by omega,by simpa[ff]using o9,f9⟩,?_⟩
   rintro m4 q dV ⟨q0,q1,mU,f10⟩ dN
   have O8:=rp5.low.fr f10 fun k hk aI=>by omega
   refine⟨fun e5=> ?_,fun e5=> ?_⟩
   ·have hq:=O8.lt e5
    have hc:=O8.get q0 hq
    have tk:aD[P].take (q+1).toNat=_:=dY _ q0 hq
    have so:=pw (a:=(Q:Int)) gm.1 q.toNat
    generalize aD[P][q.toNat]'(by omega)=v at hc tk
    rw[O8.succ q0 hq]
    refine⟨O8.bB q0 hq,_,hc,fun e6=> ?_,fun e6=> ?_⟩
    ·simp only[decide_eq_true_eq]at e6
     have R10:=mU.eQ
     have sl:(T.set j.toNat ((if Q=P then(aD[P].length:Int)else 0)-ff (Q:Int) (aD[P].take q.toNat))).length=T.length:=List.length_set
     refine⟨aP.bB R10 j0 (by omega),_,aP.get R10 j0 (by omega),gf (F:=fun k=>h5.size<=k) mU j0 (by omega) dN off _ fun gP lU f11 V11=> ?_⟩
     refine⟨m4-1,by omega,by omega,by omega,?_,f10.trans f11⟩
     rw[tk,gY,if_pos e6]
     rw[List.set_set,US,aH _ (by split<;>omega) (by split<;>omega)]at lU
     rw[show∀x y:Int,x-(y+1)=x-y-1 by omega]
     exact lU
    ·simp only[decide_eq_false_iff_not]at e6
     refine⟨m4-1,by omega,by omega,by omega,?_,f10⟩
     rw[tk,gY,if_neg e6,Int.add_zero]
     exact mU
   ·have hq:=O8.ge e5
    rw[List.take_of_length_le (by omega),<-hFj,<-hT]at mU
    have sm:=Cb F (List.replicate ps.length (0:Int)) j.toNat (by omega) (by rw[List.length_replicate];omega)
    rw[sm]at mU
    rw[rI7.succ j0 hj]
    refine⟨m3-1,by omega,by omega,by omega,?_,f10⟩
    rw[show(j+1).toNat=j.toNat+1 by omega]
    exact mU
  ·have hj:=rI7.ge e3
   rw[List.take_of_length_le (by omega),List.drop_eq_nil_of_le (by rw[List.length_replicate];omega),List.append_nil]at o7
   have z7:=f7.size
   refine jM (lo:=h3.size) (m:=h5.size) (dI.fr (dI.ga o5) f7 fun k _ hk aI=>by have:=hk.2;omega) o7 z5 z7 jC (fun p hp=>by simp only[List.mem_cons,List.not_mem_nil,or_false]at hp;subst hp;show b1<h3.size;omega) (by rw[List.length_take];omega) _ fun t2 gQ NR f12 V12=> ?_
   rw[WW.succ i0 hi]
   refine⟨m2-1,by omega,by omega,by omega,?_,(f5.trans (f7.mono fun k _ hk=>by omega)).trans f12⟩
   rw[show(i+1).toNat=i.toNat+1 by omega,List.take_succ_eq_append_getElem (by omega),<-aR (by omega),hMi]
   exact NR
 ·have hi:=WW.ge e2
  rw[List.take_of_length_le (by omega)]at o5
  rw[OY]at HK
  exact HK pl x h5 (WW.mono fun k hk=>by omega) ((dI.rd o5).mono fun k hk=>hk.2) g5
def IE(rows:List (List Int))(r:List Int):List Int:=(List.range rows.length).map fun j=>cK rows.length (nI (bU rows) j fun i=>r.getD i 0)
set_option maxHeartbeats 2000000 in
theorem L8{S S2:Nat->Prop}{h:Heap}{m r:Sl}{rows:List (List Int)}{rs:List Int}(M:bL S h m rows)(R:aP S2 h r rs)(hl:rs.length=rows.length)(Q:Sq rows.length rows)(hn:rows.length<=7)(hb:Small rows.length (bU rows))(hr:∀i,i<rows.length->(rs.getD i 0).natAbs<=10)(K:Value->Heap->Prop)(HK:∀t h',aP (fun k=>k<h'.size) h' t (IE rows rs)->Fr No h h'->K (.tuple #[t.v,VI (cK rows.length (bU rows))]) h'):aE Tryz.prog 235 #[m.v,r.v] h K:=by
 refine ahV m r h K ?_
 refine wM rows.length M Q hn hb _ fun h1 f1=>⟨_,rfl,.nil,?_⟩
 have M1:=M.low.no f1
 have R1:=aP.low R|>.no f1
 have z1:=f1.size
 have sl:(IE rows rs).length=rows.length:=by unfold IE;rw[List.length_map,List.length_range]
 refine⟨fun n x k h'=>0<=k/\k+n=(rows.length:Int)/\bM h' (fun q=>h1.size<=q) x ((IE rows rs).take k.toNat)/\Fr (fun q=>h1.size<=q) h1 h',⟨rows.length,Int.le_refl _,by omega,Ow.nil _ _ _ _,Fr.refl _ _⟩,?_⟩
 rintro n x k h2 ⟨k0,k1,o2,f2⟩ bW
 have M2:=M1.fr f2 fun q hq gO=>by omega
 have R2:=R1.fr f2 fun q hq gO=>by omega
 have z2:=f2.size
 refine⟨fun e=> ?_,fun e=> ?_⟩
 ·have hk:=M2.lt e
  refine⟨fun n x i h'=>0<=i/\i+n=(rows.length:Int)/\fQ h' (fun q=>h2.size<=q) x ((sT rows k.toNat rs).take i.toNat)/\Fr (fun q=>h2.size<=q) h2 h',⟨rows.length,Int.le_refl _,by omega,dI.nil _ _ _ _,Fr.refl _ _⟩,?_⟩
  rintro n2 y i h3 ⟨i0,i1,o3,f3⟩ cF
  have M3:=M2.fr f3 fun q hq gO=>by omega
  have R3:=R2.fr f3 fun q hq gO=>by omega
  have z3:=f3.size
  refine⟨fun e2=> ?_,fun e2=> ?_⟩
  ·have hi:=M3.lt e2
   obtain⟨si,ci,ri⟩:=M3.get i0 hi
   have ajy:=Q.row i.toNat (by omega)
   refine⟨M3.bB i0 hi,si,ci,lC ri (by omega) _ fun t2 h4 o4 f4=>⟨t2,rfl,.nil,?_⟩⟩
   have R4:=R3.no f4
   have z4:=f4.size
   refine⟨R4.bB i0 (by omega),_,R4.get i0 (by omega),gf (o4.mono (F':=fun q=>h3.size<=q) fun q _ hq=>hq.1) k0 (by omega) .nil (fun p hp=>by simp at hp) _ fun h5 o5 f5 V5=> ?_⟩
   have z5:=f5.size
   refine jM (lo:=h2.size) (m:=h3.size) (dI.fr (dI.ga o3) (f4.aB.trans f5) fun q _ hq gO=>by have:=hq.2;omega) o5 z3 (by omega) .nil (fun p hp=>by simp at hp) (by rw[List.length_take];omega) _ fun t3 h6 o6 f6 V6=> ?_
   rw[M3.succ i0 hi]
   refine⟨n2-1,by omega,by omega,by omega,?_,((f3.trans f4.aB).trans (f5.mono fun q _ hq=>by omega)).trans f6⟩
   rw[show(i+1).toNat=i.toNat+1 by omega,BL (by omega),aN (by omega)]
   exact o6
  ·have hi:=M3.ge e2
   have pl:=kV rows k.toNat rs
   rw[List.take_of_length_le (by omega)]at o3
   refine wM rows.length (dI.rd o3) (KI Q k.toNat rs) hn (rA Q hb hr) _ fun h4 f4=>⟨_,rfl,.nil,?_⟩
   rw[yx Q]
   have f24:=f3.trans f4.aB
   have z4:=f24.size
   refine sH (lo:=h1.size) ((Ow.ga o2).fr f24 (fun q hq gO=>by have:=(o2.aG hq).2;omega)|>.mono fun q _ hq=>hq.1) (by omega) .nil (fun p hp=>by simp at hp) (by rw[List.length_take];omega) _ fun t5 h5 o5 f5 V5=> ?_
   rw[M2.succ k0 hk]
   refine⟨n-1,by omega,by omega,by omega,?_,(f2.trans (f24.mono fun q _ hq=>by omega)).trans f5⟩
   rw[show(k+1).toNat=k.toNat+1 by omega,List.take_succ_eq_append_getElem (by omega)]
   have:(IE rows rs)[k.toNat]'(by omega)=cK rows.length (nI (bU rows) k.toNat fun i=>rs.getD i 0):=by
    refine(List.getElem_map (l:=List.range rows.length) _ (h:=by rw[List.length_map,List.length_range];omega)).trans ?_
    rw[List.getElem_range]
   rw[this]
   exact o5
 ·have hk:=M2.ge e
  rw[List.take_of_length_le (by omega)]at o2
  exact HK x h2 (aP.low o2.eQ) (f1.fresh f2 fun q hq=>by omega)
abbrev qn:=Int×Int
def qo:List qn->List Value
 |[]=>[]
 |r::l=>VI r.1::VI r.2::qo l
theorem sY:∀l:List qn,(qo l).length=l.length*2
 |[]=>rfl
 |r::l=>by rw[qo,List.length_cons,List.length_cons,sY l,List.length_cons];omega
theorem Gf:∀(l:List qn)(i:Nat)(h:i<l.length),(qo l)[i*2]?=some (VI l[i].1)/\(qo l)[i*2+1]?=some (VI l[i].2)
 |r::l,0,_=>⟨rfl,rfl⟩
 |r::l,i+1,h=>by
  have:=Gf l i (by simpa using h)
  rw[qo,show(i+1)*2=i*2+1+1 by omega]
  simpa using this
theorem Gg:∀(l:List qn)(i:Nat)(x y:Int),((qo l).set (i*2) (VI x)).set (i*2+1) (VI y)=qo (l.set i (x,y))
 |[],i,x,y=>by simp[qo]
 |r::l,0,x,y=>by simp[qo]
 |r::l,i+1,x,y=>by
  rw[qo,show(i+1)*2=i*2+1+1 by omega,List.set_cons_succ,List.set_cons_succ,List.set_cons_succ,List.set_cons_succ,Gg l i x y,List.set_cons_succ,qo]
@[reducible] def OwQ(h:Heap)(F:Nat->Prop)(s:Sl)(l:List qn):Prop:=Ow h F tR 2 s (qo l)
def Hd(S:Nat->Prop)(h:Heap)(s:Sl)(l:List qn):Prop:=cW S h 2 s (qo l)
theorem Hd.len{S:Nat->Prop}{h:Heap}{s:Sl}{l:List qn}(H:Hd S h s l):s.n=l.length:=by
 have:=cW.len H
 rw[sY]at this
 omega
theorem Hd.get{S:Nat->Prop}{h:Heap}{s:Sl}{l:List qn}(H:Hd S h s l){i:Int}(h0:0<=i)(h1:i<(l.length:Int)):dS s i/\lx h (s.at i 2) [VI (l[i.toNat]'(by omega)).1,VI (l[i.toNat]'(by omega)).2]:=by
 have hl:=Hd.len H
 have hn:=sY l
 obtain⟨g1,g2⟩:=Gf l i.toNat (by omega)
 obtain⟨a,ha,_,c1⟩:=cW.cell H (i.toNat*2) (by omega)
 obtain⟨a',GW,_,c2⟩:=cW.cell H (i.toNat*2+1) (by omega)
 rw[ha]at GW
 obtain rfl:a=a':=by simpa using GW
 rw[List.getElem?_eq_getElem (by omega)]at g1 g2
 rw[Option.some.inj g1]at c1
 rw[Option.some.inj g2]at c2
 refine⟨⟨by simp[ha],h0,by omega⟩,fun j hj=> ?_⟩
 have Re:s.at i 2=a.add (i.toNat*2):=by simp[Sl.at,ha]
 rw[Re,xq]
 match j,hj with
 |0,_=>exact c1
 |1,_=>simpa using c2
theorem Hd.fr{S T:Nat->Prop}{h h':Heap}{s:Sl}{l:List qn}(H:Hd S h s l)(hf:Fr T h h')(hd:∀k,S k->¬T k):Hd S h' s l:=cW.fr H hf hd
theorem Hd.no{S:Nat->Prop}{h h':Heap}{s:Sl}{l:List qn}(H:Hd S h s l)(hf:Fr No h h'):Hd S h' s l:=cW.no H hf
theorem Hd.low{S:Nat->Prop}{h:Heap}{s:Sl}{l:List qn}(H:Hd S h s l):Hd (fun k=>k<h.size) h s l:=(cW.lt H).mono fun _ h=>h.2
theorem O9:lu Tryz.prog tR=some 2:=by kernel_rfl
theorem Di{L:List (Nat×List Value)}{F:Nat->Prop}{h:Heap}{s:Sl}{l:List qn}{i:Int}{x y:Int}(O:OwQ h F s l)(h0:0<=i)(h1:i<(l.length:Int))(hL:Vars h L)(tW:∀p,p∈L->¬F p.1)(R:Heap->Prop)(HR:∀h',OwQ h' F s (l.set i.toNat (x,y))->Fr F h h'->Vars h' L->R h'):dS s i/\Aw Tryz.prog (Instr.storeAt tR (Value.pointer (some (Sl.at s i 2))) (Value.agg #[VI x,VI y])) h fun rv h'=>Vars h' L/\R h':=by
 have hn:=O.len
 rw[sY]at hn
 have hi:i<(s.n:Int):=by omega
 refine⟨O.bB h0 hi,⟨fun w hw=> ?_⟩⟩
 subst hw
 obtain⟨w1,o1,f1⟩:=O.store h0 hi 0 (by omega) (VI x)
 obtain⟨w2,_,_⟩:=O.store h0 hi 1 (by omega) (VI y)
 obtain⟨_,o2,f2⟩:=o1.store h0 hi 1 (by omega) (VI y)
 obtain⟨w',r1,r2,r3⟩:=oJ (P:=Tryz.prog) (kK O9 w) (a:=s.at i 2) (v:= .agg #[VI x,VI y]) (vs:=[VI x,VI y]) rfl rfl (fun v hv=>by simp only[List.mem_cons,List.not_mem_nil,or_false]at hv;rcases hv with rfl|rfl<;>rfl) (fun j hj=>by
  match j,hj with
  |0,_=>exact⟨w1.cell,w1.free⟩
  |1,_=>exact⟨w2.cell,w2.free⟩)
 refine⟨w',r1,r2,?_⟩
 rw[r3]
 simp only[List.zipIdx_cons,List.zipIdx_nil,List.foldl_cons,List.foldl_nil,Nat.zero_add]
 rw[Nat.add_zero,Gg]at o2
 have f:Fr F w.heap _:=(f1.trans f2).mono fun k _ hk=>(O.aG hk).1
 have V:=hL.fr f tW
 exact⟨V,HR _ o2 f V⟩
def o0:Int->Int:=fun _=>0
theorem Pa{d:Int}(h:0<d):j3 d d=(1,1):=by
 unfold j3
 rw[Int.gcd_self,show((d.natAbs:Nat):Int)=d by omega,Int.ediv_self (by omega)]
theorem L9{d:Int}(h:0<d):j3 0 d=(0,1):=by
 unfold j3
 rw[Int.gcd_zero_left,show((d.natAbs:Nat):Int)=d by omega,Int.ediv_self (by omega),Int.zero_ediv]
def chR(g:List (List Int))(a b:Int):List qn:=(List.range g.length).map fun q:Nat=>j3 (zY g a b q) (jT g a b)
theorem KK(g:List (List Int))(a b:Int):(chR g a b).length=g.length:=by unfold chR;rw[List.length_map,List.length_range]
theorem KL{g:List (List Int)}{a b:Int}{q:Nat}(h:q<(chR g a b).length):(chR g a b)[q]=j3 (zY g a b q) (jT g a b):=by
 refine(List.getElem_map (l:=List.range g.length) _ (h:=h)).trans ?_
 rw[List.getElem_range]
theorem Can.CF{g:List (List Int)}{a b:Int}(C:Can g a b):∀i,i<(bR g.length a b).length->(Iw g a b o0 1 0 i).natAbs<=10:=fun i hi=>by
 have e:Iw g a b o0 1 0 i=ff a (g.getD ((bR g.length a b).getD i 0) []):=by
  unfold Iw o0
  omega
 have hp:=(dZ.1 (List.getElem_mem hi)).1
 have e1:(bR g.length a b).getD i 0=(bR g.length a b)[i]:=by rw[List.getD_eq_getElem?_getD,List.getElem?_eq_getElem hi,Option.getD_some]
 rw[e,e1,aR hp]
 have h1:=jq a g[(bR g.length a b)[i]]
 have h2:=(aT C.bE (List.getElem_mem hp)).1
 omega
theorem Can.Sy{g:List (List Int)}{a b:Int}(C:Can g a b){own:Int->Int}{A B:Int}(hA:A=0\/A=1)(hB:B=0\/B=1)(hr:∀i,i<(bR g.length a b).length->(Iw g a b own A B i).natAbs<=10)(q:Int):(Eo g a b own A B q).natAbs<=50400000000:=by
 have hd:=C.den
 have gl:=aO C.bE
 have il:=sR C.a0 C.a1 C.b0 C.b1 C.ne
 unfold Eo
 split
 ·rcases hA with rfl|rfl<;>omega
 ·split
  ·rcases hB with rfl|rfl<;>omega
  ·exact BM C.bE (by omega) hr _
theorem Ma{S:Nat->Prop}{h:Heap}{g:Sl}{aD:List (List Int)}(G:bL S h g aD){a b:Int}(C:Can aD a b)(K:Value->Heap->Prop)(HK:∀t h',bM h' (Iv h.size h'.size) t (Dd aD a b o0 1 0)->Fr No h h'->K (.tuple #[t.v,VI (jT aD a b)]) h'):aE Tryz.prog 218 #[.agg #[g.v],VI a,VI b] h K:=by
 refine v218 g a b h K fun b1 h1 dT f1 bF=> ?_
 have f1:=f1.aF
 refine OX (G.no f1) C (.func (.func 262) #[] #[]) o0 (.inr rfl) (.inl rfl) (fun p=>⟨Int.le_refl _,by unfold o0;omega⟩) C.CF (fun p h' K' _ _ hk=>ain _ _ _ hk) _ fun t h2 o2 f2=>⟨t,_,rfl,bF.aB f2,HK t h2 ?_ (f1.aA f2)⟩
 exact o2.mono fun k _ hk=>⟨Nat.le_trans f1.size hk.1,hk.2⟩
def rN(g:List (List Int))(p a b:Int):qn×Bool:=if(Is g a b&&iB 0 ((g.length:Int)-1) p)=true then(j3 (zY g a b p) (jT g a b),true)else((0,0),false)
theorem vC{S:Nat->Prop}{h:Heap}{g:Sl}{aD:List (List Int)}(G:bL S h g aD)(p a b:Int)(K:Value->Heap->Prop)(HK:∀h',Fr No h h'->K (.tuple #[.agg #[VI (rN aD p a b).1.1,VI (rN aD p a b).1.2],VB (rN aD p a b).2]) h'):aE Tryz.prog 169 #[.agg #[g.v],VI p,VI a,VI b] h K:=by
 refine agt g p a b h K fun b1 b2 h2 dT dC f2 bW=> ?_
 have f2:=f2.aF
 have box:∀{x y:Heap},Fr No h x->Fr (In [b2]) x y->Fr No h y:=fun f f'=>f.fresh f' fun k hk=>by
  simp only[In,List.mem_cons,List.not_mem_nil,or_false]at hk
  omega
 unfold rN at HK
 refine ON (G.no f2) a b _ fun h3 f3=>⟨_,rfl,bW.aB f3,fun e=>fun dV f10 _=> ?_,fun e=> ?_⟩
 ·rw[aX e,Bool.false_and]at HK
  exact HK dV (box (f2.aA f3) f10)
 have e:=aW e
 rw[e,Bool.true_and]at HK
 have C:=OH e
 have hd:=C.den
 have f13:=f2.aA f3
 have cF:=bW.aB f3
 refine aQ fy (fun k=>h3.size<=k) (fun _ h=>h) 1 (by omega) [VI p] rfl rfl fun t h4 n4 c4 o4 f4 m4 _=>⟨t,rfl,cF.aB f4,?_⟩
 have o4:aP (fun k=>h3.size<=k) h4 t [p]:=o4.eQ
 refine sA (G.no (f13.aA f4)) o4 _ fun h5 f5=>⟨_,rfl,(cF.aB f4).aB f5,fun e2=>fun h6 f6 _=> ?_,fun e2=> ?_⟩
 all_goals simp only[List.all_cons,List.all_nil,Bool.and_true,C.bE,Bool.true_and]at e2
 all_goals have f15:=f13.aA (f4.aA f5)
 ·rw[aX e2]at HK
  exact HK h6 (box f15 f6)
 have e2:=aW e2
 rw[e2,if_pos rfl]at HK
 have pr:=aZ.1 e2
 refine Ma (G.no f15) C _ fun t h7 o7 f7=>⟨t,_,rfl,((cF.aB f4).aB f5).aB f7,?_⟩
 have r7:aP _ h7 t (Dd aD a b o0 1 0):=Ow.eQ o7
 have ol:=Ga aD a b o0 1 0
 have hv:=C.Sy (own:=o0) (.inr rfl) (.inl rfl) C.CF p
 refine⟨r7.bB pr.1 (by omega),_,r7.get pr.1 (by omega),?_⟩
 rw[Gb,show(((p.toNat:Nat):Int))=p by omega]
 exact Sr _ _ (by omega) (by omega) (by omega) h7 _ fun h8 f8=>⟨_,_,rfl,(((cF.aB f4).aB f5).aB f7).aB f8,fun h9 f9 _=>HK h9 (box (f15.aA (f7.aA f8)) f9)⟩
def qH(n:Nat)(a b:Int)(d:Int)(ps:List Nat)(f:Nat->Int)(k:Nat):List qn:=(List.range n).map fun q:Nat=>if(q:Int)=a then(1,1)else if(q:Int)=b then(0,1)else if ps.idxOf q<k then j3 (f (ps.idxOf q)) d else(0,0)
theorem jr(n:Nat)(a b:Int)(d:Int)(ps:List Nat)(f:Nat->Int)(k:Nat):(qH n a b d ps f k).length=n:=by unfold qH;rw[List.length_map,List.length_range]
theorem p4{n:Nat}{a b d:Int}{ps:List Nat}{f:Nat->Int}{k q:Nat}(h:q<(qH n a b d ps f k).length):(qH n a b d ps f k)[q]=if(q:Int)=a then(1,1)else if(q:Int)=b then(0,1)else if ps.idxOf q<k then j3 (f (ps.idxOf q)) d else(0,0):=by
 refine(List.getElem_map (l:=List.range n) _ (h:=h)).trans ?_
 rw[List.getElem_range]
theorem IF{n:Nat}{a b:Int}(d:Int)(ps:List Nat)(f:Nat->Int)(a0:0<=a)(b0:0<=b)(eA:a≠b):qH n a b d ps f 0=((List.replicate n ((0,0):qn)).set a.toNat (1,1)).set b.toNat (0,1):=by
 apply List.ext_getElem (by rw[jr,List.length_set,List.length_set,List.length_replicate])
 intro q h1 h2
 rw[p4 h1,List.getElem_set,List.getElem_set,List.getElem_replicate]
 by_cases ea:(q:Int)=a
 ·rw[if_pos ea,if_neg (by omega),if_pos (by omega)]
 ·rw[if_neg ea]
  by_cases eb:(q:Int)=b
  ·rw[if_pos eb,if_pos (by omega)]
  ·rw[if_neg eb,if_neg (by omega),if_neg (by omega),if_neg (by omega)]
theorem IG{n:Nat}{a b:Int}(d:Int)(f:Nat->Int){k:Nat}(hk:k<(bR n a b).length):qH n a b d (bR n a b) f (k+1)=(qH n a b d (bR n a b) f k).set ((bR n a b)[k]) (j3 (f k) d):=by
 apply List.ext_getElem (by rw[jr,List.length_set,jr])
 intro q h1 h2
 have h3:q<(qH n a b d (bR n a b) f k).length:=by rw[List.length_set]at h2;exact h2
 have hm:=dZ.1 (List.getElem_mem hk)
 rw[p4 h1,List.getElem_set,p4 h3]
 by_cases e:(bR n a b)[k]=q
 ·rw[if_pos e,if_neg (by omega),if_neg (by omega)]
  subst e
  rw[C9 hk,if_pos (by omega)]
 ·rw[if_neg e]
  by_cases ea:(q:Int)=a
  ·rw[if_pos ea,if_pos ea]
  ·rw[if_neg ea,if_neg ea]
   by_cases eb:(q:Int)=b
   ·rw[if_pos eb,if_pos eb]
   ·rw[if_neg eb,if_neg eb]
    have hq:q∈bR n a b:=dZ.2 ⟨by rw[jr]at h3;exact h3,ea,eb⟩
    have hi:=List.idxOf_lt_length_iff.2 hq
    by_cases l:(bR n a b).idxOf q<k
    ·rw[if_pos l,if_pos (by omega)]
    ·rw[if_neg l,if_neg]
     intro h
     apply e
     have:(bR n a b).idxOf q=k:=by omega
     subst this
     exact List.getElem_idxOf hi
theorem Mb{g:List (List Int)}{a b:Int}(hd:0<jT g a b):qH g.length a b (jT g a b) (bR g.length a b) (vB g a b o0 1 0) (bR g.length a b).length=chR g a b:=by
 apply List.ext_getElem (by rw[jr,KK])
 intro q h1 h2
 rw[p4 h1,KL h2]
 unfold zY Eo
 by_cases ea:(q:Int)=a
 ·rw[if_pos ea,if_pos ea,Int.one_mul,Pa hd]
 ·rw[if_neg ea,if_neg ea]
  by_cases eb:(q:Int)=b
  ·rw[if_pos eb,if_pos eb,Int.zero_mul,L9 hd]
  ·rw[if_neg eb,if_neg eb,if_pos]
   ·rfl
   ·exact List.idxOf_lt_length_iff.2 (dZ.2 ⟨by rw[jr]at h1;exact h1,ea,eb⟩)
theorem Sz(g:List (List Int))(a b:Int)(own:Int->Int)(A B:Int):IE (qG g a b) (mL g a b own A B)=(List.range (bR g.length a b).length).map (vB g a b own A B):=by
 unfold IE
 rw[(j5 g a b).1]
 exact List.map_congr_left fun k _=>Iz g a b own A B k
set_option maxHeartbeats 4000000 in
theorem Gh{S:Nat->Prop}{h:Heap}{g:Sl}{aD:List (List Int)}(G:bL S h g aD){a b:Int}(C:Can aD a b)(K:Value->Heap->Prop)(HK:∀t h',Hd (fun k=>k<h'.size) h' t (chR aD a b)->Fr No h h'->K t.v h'):aE Tryz.prog 186 #[.agg #[g.v],VI a,VI b] h K:=by
 have hg:=C.bE
 have gl:=aO hg
 have dn:=C.den
 have gn:=G.len
 have il:=sR C.a0 C.a1 C.b0 C.b1 C.ne
 refine agT g a b h K fun b1 h1 dT f1 bF=> ?_
 have f1:=f1.aF
 refine ID (G.no f1) hg a b _ fun pl m h2 P2 M2 f2=>⟨pl,m,rfl,bF.aB f2,?_⟩
 have l1:b1<h1.size:=bF.head.lt
 have z2:=f2.size
 have Fq:=f1.aA f2
 have NZ:∀q,q∈bR aD.length a b->q<aD.length:=fun q hq=>(dZ.1 hq).1
 have UO:((bR aD.length a b).map fun p:Nat=>(p:Int)).length=(bR aD.length a b).length:=List.length_map _
 have pn:pl.n=(bR aD.length a b).length:=by have:=P2.len;rw[UO]at this;exact this
 have rl:=mM aD a b o0 1 0
 have ml:=(j5 aD a b).1
 have tK:∀{F:Nat->Prop},(∀k,F k->h2.size<=k)->∀p,p∈[(b1,[g.v])]->¬F p.1:=fun hF p hp hk=>by
  simp only[List.mem_cons,List.not_mem_nil,or_false]at hp
  subst hp
  have:=hF _ hk
  (try simp only at this)
  omega
 refine⟨fun m x i h'=>0<=i/\i+m=((bR aD.length a b).length:Int)/\bM h' (fun k=>h2.size<=k) x ((mL aD a b o0 1 0).take i.toNat)/\Fr (fun k=>h2.size<=k) h2 h',⟨(bR aD.length a b).length,by omega,by omega,Ow.nil _ _ _ _,Fr.refl _ _⟩,?_⟩
 rintro m1 x i h3 ⟨i0,i1,o3,f3⟩ cF
 have P3:=P2.fr f3 fun k hk aI=>by omega
 have M3:=M2.fr f3 fun k hk aI=>by omega
 have z3:=f3.size
 have gI:=Fq.fresh f3 fun k hk=>by have:=Fq.size;omega
 refine⟨fun e=> ?_,fun e=> ?_⟩
 ·have hi:=P3.lt e
  have gH:i.toNat<(bR aD.length a b).length:=by omega
  have cI:=P3.get i0 hi
  rw[nJ]at cI
  have IC:=NZ _ (List.getElem_mem gH)
  have hRi:(mL aD a b o0 1 0)[i.toNat]'(by omega)=FZ aD a b o0 1 0 (bR aD.length a b)[i.toNat]:=List.getElem_map _
  generalize (bR aD.length a b)[i.toNat]' gH=Q at cI IC hRi
  have G3:=G.no gI
  obtain⟨sp,cp,rp⟩:=G3.get (i:=(Q:Int)) (by omega) (by omega)
  simp only[Int.toNat_natCast]at rp
  have gm:=aT hg (List.getElem_mem IC)
  refine⟨P3.bB i0 hi,_,cI,G3.bB (by omega) (by omega),sp,cp,?_⟩
  refine⟨fun m s j h'=>0<=j/\j+m=(aD[Q].length:Int)/\s=ff a (aD[Q].take j.toNat)/\h'=h3,⟨aD[Q].length,by omega,by omega,rfl,rfl⟩,?_⟩
  rintro m2 s j h4 ⟨j0,j1,rfl,rfl⟩ dJ
  refine⟨fun e2=> ?_,fun e2=> ?_⟩
  ·have hj:=rp.lt e2
   have hc:=rp.get j0 hj
   have tk:aD[Q].take (j+1).toNat=_:=dY _ j0 hj
   have so:=pw (a:=a) gm.1 j.toNat
   generalize aD[Q][j.toNat]'(by omega)=v at hc tk
   rw[rp.succ j0 hj]
   refine⟨rp.bB j0 hj,_,hc,fun e3=> ?_,fun e3=> ?_⟩
   ·simp only[decide_eq_true_eq]at e3
    refine⟨m2-1,by omega,by omega,by omega,?_,rfl⟩
    rw[tk,gY,if_pos e3,aH _ (by omega) (by omega)]
   ·simp only[decide_eq_false_iff_not]at e3
    refine⟨m2-1,by omega,by omega,by omega,?_,rfl⟩
    rw[tk,gY,if_neg e3,Int.add_zero]
  ·have hj:=rp.ge e2
   rw[List.take_of_length_le (by omega)]
   refine sH (lo:=h2.size) o3 z3 cF (fun p hp=>by simp only[List.mem_cons,List.not_mem_nil,or_false]at hp;subst hp;show b1<h2.size;omega) (by rw[List.length_take];omega) _ fun t h5 o5 f5 V5=> ?_
   rw[P3.succ i0 hi]
   refine⟨m1-1,by omega,by omega,by omega,?_,f3.trans f5⟩
   rw[show(i+1).toNat=i.toNat+1 by omega,List.take_succ_eq_append_getElem (by omega),hRi]
   have:FZ aD a b o0 1 0 Q=ff a aD[Q]:=by
    unfold FZ o0
    rw[aR IC]
    omega
   rw[this]
   exact o5
 ·have hi:=P3.ge e
  rw[List.take_of_length_le (by omega)]at o3
  have hQ':Sq (qG aD a b).length (qG aD a b):=by rw[ml];exact(j5 aD a b).2
  have hS':Small (qG aD a b).length (bU (qG aD a b)):=by rw[ml];exact um hg a b
  refine L8 M3 (Ow.eQ o3:aP _ h3 x _) (by omega) hQ' (by omega) hS' (fun i hi=>by rw[sS aD a b o0 1 0 (by omega)];exact C.CF i (by omega)) _ fun t h7 S7 f7=>⟨t,_,rfl,cF.aB f7,?_⟩
  rw[Sz]at S7
  rw[ml,KH]
  have z7:=f7.size
  have jC:=cF.aB f7
  refine eB rRs (fun k=>h7.size<=k) (fun _ h=>h) .i64 .i64 g.n g.n (Nat.le_refl _) (by omega) fun u h8 n8 c8 o8 f8 m8 _=>⟨u,rfl,jC.aB f8,?_⟩
  have z8:=f8.size
  have VR:OwQ h8 (fun k=>h7.size<=k) u (List.replicate aD.length (0,0)):=by
   have e:(List.replicate g.n [VI 0,VI 0]).flatten=qo (List.replicate aD.length (0,0)):=by
    rw[gn]
    generalize aD.length=n
    induction n with
    |zero=>rfl
    |succ n ih=>rw[List.replicate_succ,List.flatten_cons,ih,List.replicate_succ,qo];rfl
   rw[e]at o8
   exact o8
  have WX:=tK (F:=fun k=>h7.size<=k) fun k hk=>by omega
  refine Di (L:=[(b1,[g.v])]) (F:=fun k=>h7.size<=k) (x:=1) (y:=1) VR C.a0 (by rw[List.length_replicate];exact C.a1) (jC.aB f8) WX _ fun h9 o9 f9 V9=> ?_
  refine Di (L:=[(b1,[g.v])]) (F:=fun k=>h7.size<=k) (x:=0) (y:=1) o9 C.b0 (by rw[List.length_set,List.length_replicate];exact C.b1) V9 WX _ fun dV mU f10 V10=> ?_
  rw[<-IF (jT aD a b) (bR aD.length a b) (vB aD a b o0 1 0) C.a0 C.b0 C.ne]at mU
  refine⟨fun m k h'=>0<=k/\k+m=((bR aD.length a b).length:Int)/\OwQ h' (fun q=>h7.size<=q) u (qH aD.length a b (jT aD a b) (bR aD.length a b) (vB aD a b o0 1 0) k.toNat)/\Fr (fun q=>h7.size<=q) h8 h',⟨(bR aD.length a b).length,by omega,by omega,mU,f9.trans f10⟩,?_⟩
  rintro m3 k gP ⟨k0,k1,lU,f11⟩ iC
  have P11:=((P3.no f7).no f8).fr f11 fun q hq gO=>by omega
  have S11:=(S7.no f8).fr f11 fun q hq gO=>by omega
  refine⟨fun e3=> ?_,fun e3=> ?_⟩
  ·have hk:=P11.lt e3
   have QC:k.toNat<(bR aD.length a b).length:=by omega
   have cI:=P11.get k0 hk
   rw[nJ]at cI
   have IC:=NZ _ (List.getElem_mem QC)
   have WQ:=IG (jT aD a b) (vB aD a b o0 1 0) QC
   have cS:=S11.get (i:=k) k0 (by rw[List.length_map,List.length_range];omega)
   have eS:((List.range (bR aD.length a b).length).map (vB aD a b o0 1 0))[k.toNat]'(by rw[List.length_map,List.length_range];omega)=vB aD a b o0 1 0 k.toNat:=by rw[List.getElem_map,List.getElem_range]
   rw[eS]at cS
   have hcb:=BM hg (a:=a) (b:=b) (by omega) C.CF k.toNat
   refine⟨P11.bB k0 hk,_,cI,S11.bB k0 (by rw[List.length_map,List.length_range];omega),_,cS,LY _ _ (by omega) (by omega) (by omega) gP _ fun gQ f12=>⟨_,_,rfl,iC.aB f12,?_⟩⟩
   refine Di (L:=[(b1,[g.v])]) (F:=fun q=>h7.size<=q) (lU.no f12) (i:=(((bR aD.length a b)[k.toNat]' QC:Nat):Int)) (by omega) (by rw[jr];omega) (iC.aB f12) WX _ fun qE LV f13 V13=> ?_
   rw[P11.succ k0 hk]
   refine⟨m3-1,by omega,by omega,by omega,?_,f11.trans (f12.aB.trans f13)⟩
   rw[show(k+1).toNat=k.toNat+1 by omega,WQ]
   simp only[Int.toNat_natCast]at LV
   exact LV
  ·have hk:=P11.ge e3
   rw[show k.toNat=(bR aD.length a b).length by omega,Mb (by omega)]at lU
   exact HK u gP (Hd.low lU.eQ) ((gI.aA (f7.aA f8)).fresh f11 fun q hq=>by have:=gI.size;omega)
theorem mN{S:Nat->Prop}{h:Heap}{g:Sl}{aD:List (List Int)}(G:bL S h g aD)(p a b:Int)(K:Value->Heap->Prop)(HK:∀h',Fr No h h'->K (.tuple #[.agg #[VI (rN aD p a b).1.1,VI (rN aD p a b).1.2],VB (rN aD p a b).2]) h'):aE Tryz.prog 139 #[.agg #[g.v],VI p,VI a,VI b] h K:=by
 refine v139 g p a b h K fun b1 b2 h2 dT dC f2 bW=> ?_
 have f2:=f2.aF
 have box:∀{x y:Heap},Fr No h x->Fr (In [b2]) x y->Fr No h y:=fun f f'=>f.fresh f' fun k hk=>by
  simp only[In,List.mem_cons,List.not_mem_nil,or_false]at hk
  omega
 unfold rN at HK
 refine OO (G.no f2) a b _ fun h3 f3=>⟨_,rfl,bW.aB f3,fun e=>fun dV f10 _=> ?_,fun e=> ?_⟩
 ·rw[aX e,Bool.false_and]at HK
  exact HK dV (box (f2.aA f3) f10)
 have e:=aW e
 rw[e,Bool.true_and]at HK
 have C:=OH e
 have hd:=C.den
 have f13:=f2.aA f3
 have cF:=bW.aB f3
 refine cQ (G.no f13) p _ fun h5 f5=>⟨_,rfl,cF.aB f5,fun e2=>fun h6 f6 _=> ?_,fun e2=> ?_⟩
 all_goals simp only[C.bE,Bool.true_and]at e2
 all_goals have f15:=f13.aA f5
 ·rw[aX e2]at HK
  exact HK h6 (box f15 f6)
 have e2:=aW e2
 rw[e2,if_pos rfl]at HK
 have pr:=aZ.1 e2
 refine Gh (G.no f15) C _ fun t h7 Q7 f7=>⟨t,rfl,(cF.aB f5).aB f7,?_⟩
 obtain⟨ib,cc⟩:=Q7.get (i:=p) pr.1 (by rw[KK];omega)
 rw[KL,show(((p.toNat:Nat):Int))=p by omega]at cc
 exact⟨ib,_,_,cc,fun h9 f9 _=>HK h9 (box (f15.aA f7) f9)⟩
def WY(g:List (List Int))(s:Int):Bool:=aM g&&iB 0 ((g.length:Int)-1) s
theorem UT{g:List (List Int)}{s:Int}(h:WY g s=true):aM g=true/\0<=s/\s<(g.length:Int):=by
 obtain⟨a,b⟩:=Bool.and_eq_true_iff.1 h
 have:=aZ.1 b
 exact⟨a,this.1,by omega⟩
def rB(g:List (List Int))(s:Int):Int×Bool:=if WY g s then(uj g s,true)else(0,false)
theorem Dm{S:Nat->Prop}{h:Heap}{g:Sl}{aD:List (List Int)}(G:bL S h g aD)(s:Int)(K:Value->Heap->Prop)(HK:∀h',Fr No h h'->K (.tuple #[VI (rB aD s).1,VB (rB aD s).2]) h'):aE Tryz.prog 165 #[.agg #[g.v],VI s] h K:=by
 refine agn g s h K fun b1 h2 dT f2 bW=> ?_
 have f2:=f2.aF
 refine aQ fy (fun k=>h2.size<=k) (fun _ h=>h) 1 (by omega) [VI s] rfl rfl fun t h3 n3 c3 o3 f3 m3 _=>⟨t,rfl,bW.aB f3,?_⟩
 have r3:aP (fun k=>h2.size<=k) h3 t [s]:=o3.eQ
 have gI:=f2.aA f3
 refine sA (G.no gI) r3 _ fun h4 f4=>⟨_,rfl,(bW.aB f3).aB f4,fun e=> ?_,fun e=> ?_⟩
 all_goals simp only[List.all_cons,List.all_nil,Bool.and_true]at e
 all_goals have jR:=gI.aA f4
 ·have er:rB aD s=(0,false):=by unfold rB WY;rw[aX e];rfl
  rw[er]at HK
  exact HK h4 jR
 have e:WY aD s=true:=aW e
 obtain⟨hg,s0,s1⟩:=UT e
 have gl:=aO hg
 have er:rB aD s=(uj aD s,true):=by unfold rB;rw[if_pos e]
 rw[er]at HK
 obtain⟨ll,Q⟩:=Ir s0 s1
 refine LX (G.no jR) hg s0 s1 _ fun t5 h5 o5 f5=>⟨t5,rfl,((bW.aB f3).aB f4).aB f5,?_⟩
 refine lX (dI.rd o5) (by rw[ll];exact Q) (by omega) (by rw[ll];exact BI hg s0 s1) _ fun h6 f6=>⟨_,rfl,(((bW.aB f3).aB f4).aB f5).aB f6,?_⟩
 rw[ll]
 exact HK h6 (jR.aA (f5.aA f6))
theorem sZ{S:Nat->Prop}{h:Heap}{g:Sl}{aD:List (List Int)}(G:bL S h g aD)(s:Int)(K:Value->Heap->Prop)(HK:∀h',Fr No h h'->K (.tuple #[VI (rB aD s).1,VB (rB aD s).2]) h'):aE Tryz.prog 137 #[.agg #[g.v],VI s] h K:=by
 refine afT g s h K fun b1 h2 dT f2 bW=> ?_
 have f2:=f2.aF
 refine cQ (G.no f2) s _ fun h4 f4=>⟨_,rfl,bW.aB f4,fun e=> ?_,fun e=> ?_⟩
 all_goals have jR:=f2.aA f4
 ·have er:rB aD s=(0,false):=by unfold rB WY;rw[aX e];rfl
  rw[er]at HK
  exact HK h4 jR
 have e:WY aD s=true:=aW e
 obtain⟨hg,s0,s1⟩:=UT e
 have gl:=aO hg
 have er:rB aD s=(uj aD s,true):=by unfold rB;rw[if_pos e]
 rw[er]at HK
 obtain⟨ll,Q⟩:=Ir s0 s1
 refine FP (G.no jR) hg s0 s1 _ fun t5 h5 o5 f5=>⟨t5,rfl,(bW.aB f4).aB f5,?_⟩
 refine wM (aD.length-1) (dI.rd o5) Q (by omega) (BI hg s0 s1) _ fun h6 f6=>⟨_,rfl,((bW.aB f4).aB f5).aB f6,?_⟩
 exact HK h6 (jR.aA (f5.aA f6))
theorem yB{g:List (List Int)}:∀(m:Nat)(t:List Int)(s:St)(t':List Int)(s':St),runT g nU m t s=some (t',s')->t'.length=t.length+m
 |0,t,s,t',s',h=>by
  simp only[runT,Option.some.injEq,Prod.mk.injEq]at h
  rw[h.1]
  rfl
 |m+1,t,s,t',s',h=>by
  rw[runT]at h
  split at h
  ·cases h
  ·have:=yB m _ _ _ _ h
   simp[nU]at this
   omega
theorem SA{F:Nat->Prop}{b b':Nat}{h:Heap}{o w:Sl}{ps:List Int}{q:Int}(V:dD h b [o.v])(V':dD h b' [w.v,VI q])(SB:b'≠b)(O:bM h F o ps)(Vm:∀k,h.size<=k->F k)(hb:¬o.own b)(hb':¬o.own b')(hn:ps.length<=1000000)(x:Int)(K:Value->Heap->Prop)
 (HK:∀h' o' v,dD h' b [o'.v]->bM h' F o' (ps++[q])->(∀k,o'.own k->o.own k\/h.size<=k)->Fr (fun k=>k=b\/o.own k) h h'->K v h'):fD Tryz.prog (.func (.func 208) #[] #[VP b 0,VP b' 0]) [VI x] h K:=by
 refine v208 x b o b' w q h K (.cons V (by simpa using SB) (.cons V' (by simp) .nil)) ?_
 refine aQ fy (fun k=>h.size<=k) (fun _ h=>h) 1 (by omega) [VI q] rfl rfl fun v h1 n1 c1 o1 f1 m1 _=>⟨v,rfl,.cons (V.fr f1 fun h=>h) (by simpa using SB) (.cons (V'.fr f1 fun h=>h) (by simp) .nil),?_⟩
 have z1:=f1.size
 have o1:aP v.own h1 v [q]:=o1.rd
 have O1:=Ow.no O f1
 refine bQ fy O1 (fun k hk=>Vm k (by omega)) o1 (fc _) (by have h1:=aP.len O1.eQ;have h2:=o1.len;simp at h2;omega) fun y h2 n2 o2 f2 d2=>⟨y,rfl,.cons ((V.fr f1 fun h=>h).fr f2 hb) (by simpa using SB) (.cons ((V'.fr f1 fun h=>h).fr f2 hb') (by simp) .nil),fun h3 f3 cF=> ?_⟩
 rw[<-List.map_append]at o2
 have hbl:=V.lt
 have Vy:∀k,In [b] k->k=b:=fun k hk=>by simpa[In]using hk
 have hyb:¬y.own b:=fun hk=>by
  rcases d2 b hk with h1|h1
  ·exact hb h1
  ·omega
 refine HK h3 y _ cF.head (Ow.fr o2 f3 fun k hk aI=>hyb (by have:=Vy k aI;subst this;exact hk)) (fun k hk=>(d2 k hk).imp id fun h=>by omega) ?_
 exact(f1.aB.trans (f2.mono fun k _ hk=> .inr hk)).trans (f3.mono fun k _ hk=> .inl (Vy k hk))
theorem yC{S S':Nat->Prop}{h:Heap}{g w:Sl}{aD:List (List Int)}{rs:List Int}(G:bL S h g aD)(H:aP S' h w rs)(p n:Int)(K:Value->Heap->Prop)(HK:∀t h',bM h' (Iv h.size h'.size) t (iN aD rs p n).1->Fr No h h'->K (.tuple #[t.v,VB (iN aD rs p n).2]) h'):aE Tryz.prog 162 #[.agg #[g.v],.agg #[w.v,VI p],VI n] h K:=by
 refine v162 g w p n h K fun b1 b2 h2 dT dC f2 bW=> ?_
 have f2:=f2.aF
 have no:iN aD rs p n=([],false)->∀h',Fr No h h'->K (.tuple #[aC.v,VB false]) h':=fun e h' f=>by
  have:=HK aC h' (by rw[e];exact Ow.nil _ _ _ _) f
  rw[e]at this
  exact this
 refine CE (G.no f2) (H.no f2) p n 200 _ fun h3 f3=>⟨_,rfl,bW.aB f3,fun e=> ?_,fun e=> ?_⟩
 ·exact no (by unfold iN;rw[if_neg (by rw[aX e];simp)]) _ (f2.aA f3)
 have e:=aW e
 have e2:iN aD rs p n=match runT aD nU n.toNat [p] (rs,p)with
  |none=>([],false)
  |some (t,_)=>(t,true):=by unfold iN;exact if_pos e
 rw[Bool.and_eq_true,aZ]at e
 have W:=cG e.1
 have RC:=aO W.bE
 have gI:=f2.aA f3
 have z03:=gI.size
 have hL:=bW.aB f3
 have l2:b2<h3.size:=hL.head.lt
 have l1:b1<h3.size:=hL.tail.head.lt
 have fj:Fr No h3 h3:=Fr.refl _ _
 have cp:∀{h1:Heap}{K:Value->Heap->Prop},Fr No h3 h1->(∀t h2,bM h2 (Iv h1.size h2.size) t rs->Fr No h1 h2->K (.agg #[t.v,VI p]) h2)->aE Tryz.prog 110 #[.agg #[w.v,VI p]] h1 K:=fun f HK=>iq ((H.no gI).no f) p (by have:=W.len;simp only at this;omega) _ HK
 have lit:∀{h1:Heap}{K:Value->Heap->Prop},Fr No h3 h1->(∀t h2,bM h2 (Iv h1.size h2.size) t [p]->Fr No h1 h2->K t.v h2)->jU Tryz.prog (Instr.buildSlice qD 1 #[(0,VI p)]) h1 K:=fun _ HK=>aQ fy (fun k=>_<=k) (fun _ h=>h) 1 (by omega) [VI p] rfl rfl fun t h2 n2 c2 o2 f2 m2 _=>HK t h2 (Ow.ga o2) f2
 refine⟨fun bN xw xp bO xo h'=>xp=p/\∃i1 j1 i2 j2,bM h' (Iv i1 j1) xw rs/\bM h' (Iv i2 j2) xo [p]/\(j1<=i2\/j2<=i1)/\(bN<i1\/j1<=bN)/\(bN<i2\/j2<=bN)/\(bO<i1\/j1<=bO)/\(bO<i2\/j2<=bO)/\h3.size<=i1/\h3.size<=i2/\h3.size<=bN/\h3.size<=bO/\j1<=h'.size/\j2<=h'.size/\bN≠bO/\Fr No h3 h',?_,?_⟩
 ·refine⟨?_,?_,?_,?_⟩
  ·refine cp fj fun u_1 oe dX SC=>⟨u_1,_,rfl,hL.aB SC,?_⟩
   replace hL:=hL.aB SC
   have acK:=SC.size
   replace fj:=fj.aA SC
   refine⟨?_,?_,?_⟩
   ·refine lit fj fun u_2 SD Mc Pb=>⟨u_2,rfl,hL.aB Pb,?_⟩
    replace hL:=hL.aB Pb
    have acL:=Pb.size
    replace dX:=dX.no Pb
    replace fj:=fj.aA Pb
    refine⟨?_,?_⟩
    ·intro jN Md SE WZ Xa Me hL
     have Xb:jN<SE.size:=(hL.tail).head.lt
     have Xc:Md<SE.size:=(hL).head.lt
     have Xd:jN≠Md:=hL.ne (jN,_) List.mem_cons_self
     replace Me:=Me.aF
     have acM:=Me.size
     replace dX:=dX.no Me
     replace Mc:=Mc.no Me
     replace fj:=fj.aA Me
     exact⟨rfl,h3.size,oe.size,oe.size,SD.size,dX,Mc,by omega,by omega,by omega,by omega,by omega,by omega,by omega,by omega,by omega,by omega,by omega,by omega,fj⟩
    ·intro KM Mf ta Xe Xf Mg hL
     have Xg:KM<ta.size:=(hL.tail).head.lt
     have Xh:Mf<ta.size:=(hL).head.lt
     have Xi:KM≠Mf:=hL.ne (KM,_) List.mem_cons_self
     replace Mg:=Mg.aF
     have acN:=Mg.size
     replace dX:=dX.no Mg
     replace Mc:=Mc.no Mg
     replace fj:=fj.aA Mg
     exact⟨rfl,h3.size,oe.size,oe.size,SD.size,dX,Mc,by omega,by omega,by omega,by omega,by omega,by omega,by omega,by omega,by omega,by omega,by omega,by omega,fj⟩
   ·intro QE rC Xj Pc hL
    have Xk:QE<rC.size:=(hL).head.lt
    replace Pc:=Pc.aF
    have acO:=Pc.size
    replace dX:=dX.no Pc
    replace fj:=fj.aA Pc
    refine⟨?_,?_⟩
    ·refine lit fj fun u_6 Xl Xm Pd=>⟨u_6,rfl,hL.aB Pd,?_⟩
     replace hL:=hL.aB Pd
     have acP:=Pd.size
     replace dX:=dX.no Pd
     replace fj:=fj.aA Pd
     intro qp Xn SG Mh hL
     have SH:qp<Xn.size:=(hL).head.lt
     replace Mh:=Mh.cB (lo:=oe.size) (hi:=rC.size) ⟨⟨by omega,by omega⟩,trivial⟩
     have acQ:=Mh.size
     replace dX:=dX.iv Mh (by omega)
     replace Xm:=Xm.iv Mh (by omega)
     replace fj:=fj.aJ Mh (by omega)
     exact⟨rfl,h3.size,oe.size,rC.size,Xl.size,dX,Xm,by omega,by omega,by omega,by omega,by omega,by omega,by omega,by omega,by omega,by omega,by omega,by omega,fj⟩
    ·intro uv yD SI Pe hL
     have SJ:uv<yD.size:=(hL).head.lt
     replace Pe:=Pe.aF
     have acR:=Pe.size
     replace dX:=dX.no Pe
     replace fj:=fj.aA Pe
     refine⟨?_,?_⟩
     ·refine lit fj fun u_9 Xo SK Pf=>⟨u_9,rfl,hL.aB Pf,?_⟩
      replace hL:=hL.aB Pf
      have acS:=Pf.size
      replace dX:=dX.no Pf
      replace fj:=fj.aA Pf
      intro Sv Dn hL
      have Xp:=Dn.size
      replace dX:=dX.fr Dn fun k hk aI=>by have h1:=(dX.aG hk).1;have h2:=h1.1;have h3:=h1.2;simp only[In,List.mem_cons,List.not_mem_nil,or_false]at aI;omega
      replace SK:=SK.fr Dn fun k hk aI=>by have h1:=(SK.aG hk).1;have h2:=h1.1;have h3:=h1.2;simp only[In,List.mem_cons,List.not_mem_nil,or_false]at aI;omega
      replace fj:=fj.fresh Dn fun k hk=>by simp only[In,List.mem_cons,List.not_mem_nil,or_false]at hk;omega
      exact⟨rfl,h3.size,oe.size,yD.size,Xo.size,dX,SK,by omega,by omega,by omega,by omega,by omega,by omega,by omega,by omega,by omega,by omega,by omega,by omega,fj⟩
     ·intro Gd yE hL
      replace yE:=yE.cB (lo:=oe.size) (hi:=rC.size) ⟨⟨by omega,by omega⟩,trivial⟩
      have Xq:=yE.size
      replace dX:=dX.iv yE (by omega)
      replace fj:=fj.aJ yE (by omega)
      refine lit fj fun Xr uq IH yF=>⟨Xr,rfl,hL.aB yF,?_⟩
      replace hL:=hL.aB yF
      have Xs:=yF.size
      replace dX:=dX.no yF
      replace fj:=fj.aA yF
      intro OR uw hL
      replace uw:=uw.cB (lo:=rC.size) (hi:=yD.size) ⟨⟨by omega,by omega⟩,trivial⟩
      have Xt:=uw.size
      replace dX:=dX.iv uw (by omega)
      replace IH:=IH.iv uw (by omega)
      replace fj:=fj.aJ uw (by omega)
      exact⟨rfl,h3.size,oe.size,Gd.size,uq.size,dX,IH,by omega,by omega,by omega,by omega,by omega,by omega,by omega,by omega,by omega,by omega,by omega,by omega,fj⟩
   ·intro Am l8 SL yG hL
    have SM:Am<l8.size:=(hL).head.lt
    replace yG:=yG.aF
    have Xu:=yG.size
    replace dX:=dX.no yG
    replace fj:=fj.aA yG
    refine⟨?_,?_⟩
    ·refine lit fj fun Xv De II yH=>⟨Xv,rfl,hL.aB yH,?_⟩
     replace hL:=hL.aB yH
     have Xw:=yH.size
     replace dX:=dX.no yH
     replace fj:=fj.aA yH
     intro l9 sW SN ux hL
     have SO:l9<sW.size:=(hL).head.lt
     replace ux:=ux.cB (lo:=oe.size) (hi:=l8.size) ⟨⟨by omega,by omega⟩,trivial⟩
     have Xx:=ux.size
     replace dX:=dX.iv ux (by omega)
     replace II:=II.iv ux (by omega)
     replace fj:=fj.aJ ux (by omega)
     exact⟨rfl,h3.size,oe.size,l8.size,De.size,dX,II,by omega,by omega,by omega,by omega,by omega,by omega,by omega,by omega,by omega,by omega,by omega,by omega,fj⟩
    ·intro lg sX SP yI hL
     have SQ:lg<sX.size:=(hL).head.lt
     replace yI:=yI.aF
     have Xy:=yI.size
     replace dX:=dX.no yI
     replace fj:=fj.aA yI
     refine⟨?_,?_⟩
     ·refine lit fj fun Xz yA Dp yJ=>⟨Xz,rfl,hL.aB yJ,?_⟩
      replace hL:=hL.aB yJ
      have XA:=yJ.size
      replace dX:=dX.no yJ
      replace fj:=fj.aA yJ
      intro Dh Dq hL
      have XB:=Dq.size
      replace dX:=dX.fr Dq fun k hk aI=>by have h1:=(dX.aG hk).1;have h2:=h1.1;have h3:=h1.2;simp only[In,List.mem_cons,List.not_mem_nil,or_false]at aI;omega
      replace Dp:=Dp.fr Dq fun k hk aI=>by have h1:=(Dp.aG hk).1;have h2:=h1.1;have h3:=h1.2;simp only[In,List.mem_cons,List.not_mem_nil,or_false]at aI;omega
      replace fj:=fj.fresh Dq fun k hk=>by simp only[In,List.mem_cons,List.not_mem_nil,or_false]at hk;omega
      exact⟨rfl,h3.size,oe.size,sX.size,yA.size,dX,Dp,by omega,by omega,by omega,by omega,by omega,by omega,by omega,by omega,by omega,by omega,by omega,by omega,fj⟩
     ·intro IJ yK hL
      replace yK:=yK.cB (lo:=l8.size) (hi:=sX.size) ⟨⟨by omega,by omega⟩,trivial⟩
      have XC:=yK.size
      replace dX:=dX.iv yK (by omega)
      replace fj:=fj.aJ yK (by omega)
      refine lit fj fun XD Gi IK yL=>⟨XD,rfl,hL.aB yL,?_⟩
      replace hL:=hL.aB yL
      have XE:=yL.size
      replace dX:=dX.no yL
      replace fj:=fj.aA yL
      intro Pg uy hL
      replace uy:=uy.cB (lo:=oe.size) (hi:=l8.size) ⟨⟨by omega,by omega⟩,trivial⟩
      have XF:=uy.size
      replace dX:=dX.iv uy (by omega)
      replace IK:=IK.iv uy (by omega)
      replace fj:=fj.aJ uy (by omega)
      exact⟨rfl,h3.size,oe.size,IJ.size,Gi.size,dX,IK,by omega,by omega,by omega,by omega,by omega,by omega,by omega,by omega,by omega,by omega,by omega,by omega,fj⟩
  ·refine lit fj fun XG j6 bY Dr=>⟨XG,rfl,hL.aB Dr,?_⟩
   replace hL:=hL.aB Dr
   have XH:=Dr.size
   replace fj:=fj.aA Dr
   refine⟨?_,?_,?_⟩
   ·refine cp fj fun XI Ds uz yM=>⟨XI,_,rfl,hL.aB yM,?_⟩
    replace hL:=hL.aB yM
    have XJ:=yM.size
    replace bY:=bY.no yM
    replace fj:=fj.aA yM
    refine⟨?_,?_⟩
    ·intro rD vT Dt SR SS uA hL
     have SU:rD<Dt.size:=(hL.tail).head.lt
     have SV:vT<Dt.size:=(hL).head.lt
     have SW:rD≠vT:=hL.ne (rD,_) List.mem_cons_self
     replace uA:=uA.aF
     have XK:=uA.size
     replace bY:=bY.no uA
     replace uz:=uz.no uA
     replace fj:=fj.aA uA
     exact⟨rfl,j6.size,Ds.size,h3.size,j6.size,uz,bY,by omega,by omega,by omega,by omega,by omega,by omega,by omega,by omega,by omega,by omega,by omega,by omega,fj⟩
    ·intro rF vU Du SX SY uB hL
     have SZ:rF<Du.size:=(hL.tail).head.lt
     have S0:vU<Du.size:=(hL).head.lt
     have Ta:rF≠vU:=hL.ne (rF,_) List.mem_cons_self
     replace uB:=uB.aF
     have XL:=uB.size
     replace bY:=bY.no uB
     replace uz:=uz.no uB
     replace fj:=fj.aA uB
     exact⟨rfl,j6.size,Ds.size,h3.size,j6.size,uz,bY,by omega,by omega,by omega,by omega,by omega,by omega,by omega,by omega,by omega,by omega,by omega,by omega,fj⟩
   ·intro XM Ao Tb yN hL
    have Tc:XM<Ao.size:=(hL).head.lt
    replace yN:=yN.aF
    have XN:=yN.size
    replace bY:=bY.no yN
    replace fj:=fj.aA yN
    refine⟨?_,?_⟩
    ·refine cp fj fun XO IL IM yO=>⟨XO,_,rfl,hL.aB yO,?_⟩
     replace hL:=hL.aB yO
     have XP:=yO.size
     replace bY:=bY.no yO
     replace fj:=fj.aA yO
     intro XQ XR Td uC hL
     have Te:XQ<XR.size:=(hL).head.lt
     replace uC:=uC.cB (lo:=j6.size) (hi:=Ao.size) ⟨⟨by omega,by omega⟩,trivial⟩
     have XS:=uC.size
     replace bY:=bY.iv uC (by omega)
     replace IM:=IM.iv uC (by omega)
     replace fj:=fj.aJ uC (by omega)
     exact⟨rfl,Ao.size,IL.size,h3.size,j6.size,IM,bY,by omega,by omega,by omega,by omega,by omega,by omega,by omega,by omega,by omega,by omega,by omega,by omega,fj⟩
    ·intro XT Ph Tf yP hL
     have Tg:XT<Ph.size:=(hL).head.lt
     replace yP:=yP.aF
     have XU:=yP.size
     replace bY:=bY.no yP
     replace fj:=fj.aA yP
     refine cp fj fun XV XW Dv yQ=>⟨XV,_,rfl,hL.aB yQ,?_⟩
     replace hL:=hL.aB yQ
     have XX:=yQ.size
     replace bY:=bY.no yQ
     replace fj:=fj.aA yQ
     intro ajN Dw hL
     have XY:=Dw.size
     replace bY:=bY.fr Dw fun k hk aI=>by have h1:=(bY.aG hk).1;have h2:=h1.1;have h3:=h1.2;simp only[In,List.mem_cons,List.not_mem_nil,or_false]at aI;omega
     replace Dv:=Dv.fr Dw fun k hk aI=>by have h1:=(Dv.aG hk).1;have h2:=h1.1;have h3:=h1.2;simp only[In,List.mem_cons,List.not_mem_nil,or_false]at aI;omega
     replace fj:=fj.fresh Dw fun k hk=>by simp only[In,List.mem_cons,List.not_mem_nil,or_false]at hk;omega
     exact⟨rfl,Ph.size,XW.size,h3.size,j6.size,Dv,bY,by omega,by omega,by omega,by omega,by omega,by omega,by omega,by omega,by omega,by omega,by omega,by omega,fj⟩
   ·intro XZ IP Th yR hL
    have Ti:XZ<IP.size:=(hL).head.lt
    replace yR:=yR.aF
    have X1:=yR.size
    replace bY:=bY.no yR
    replace fj:=fj.aA yR
    refine⟨?_,?_⟩
    ·refine cp fj fun X2 X3 IQ yS=>⟨X2,_,rfl,hL.aB yS,?_⟩
     replace hL:=hL.aB yS
     have X4:=yS.size
     replace bY:=bY.no yS
     replace fj:=fj.aA yS
     intro X5 X6 Tj uD hL
     have Tk:X5<X6.size:=(hL).head.lt
     replace uD:=uD.cB (lo:=j6.size) (hi:=IP.size) ⟨⟨by omega,by omega⟩,trivial⟩
     have X7:=uD.size
     replace bY:=bY.iv uD (by omega)
     replace IQ:=IQ.iv uD (by omega)
     replace fj:=fj.aJ uD (by omega)
     exact⟨rfl,IP.size,X3.size,h3.size,j6.size,IQ,bY,by omega,by omega,by omega,by omega,by omega,by omega,by omega,by omega,by omega,by omega,by omega,by omega,fj⟩
    ·intro X8 Pj Tl yT hL
     have Tm:X8<Pj.size:=(hL).head.lt
     replace yT:=yT.aF
     have X9:=yT.size
     replace bY:=bY.no yT
     replace fj:=fj.aA yT
     refine cp fj fun Ya Yb Dx yU=>⟨Ya,_,rfl,hL.aB yU,?_⟩
     replace hL:=hL.aB yU
     have Yc:=yU.size
     replace bY:=bY.no yU
     replace fj:=fj.aA yU
     intro ajO Dy hL
     have Yd:=Dy.size
     replace bY:=bY.fr Dy fun k hk aI=>by have h1:=(bY.aG hk).1;have h2:=h1.1;have h3:=h1.2;simp only[In,List.mem_cons,List.not_mem_nil,or_false]at aI;omega
     replace Dx:=Dx.fr Dy fun k hk aI=>by have h1:=(Dx.aG hk).1;have h2:=h1.1;have h3:=h1.2;simp only[In,List.mem_cons,List.not_mem_nil,or_false]at aI;omega
     replace fj:=fj.fresh Dy fun k hk=>by simp only[In,List.mem_cons,List.not_mem_nil,or_false]at hk;omega
     exact⟨rfl,Pj.size,Yb.size,h3.size,j6.size,Dx,bY,by omega,by omega,by omega,by omega,by omega,by omega,by omega,by omega,by omega,by omega,by omega,by omega,fj⟩
  ·intro Ye kX Tp Dz hL
   have Tq:Ye<kX.size:=(hL).head.lt
   replace Dz:=Dz.aF
   have Yf:=Dz.size
   replace fj:=fj.aA Dz
   refine⟨?_,?_,?_⟩
   ·refine cp fj fun Yg yV fw DA=>⟨Yg,_,rfl,hL.aB DA,?_⟩
    replace hL:=hL.aB DA
    have Yh:=DA.size
    replace fj:=fj.aA DA
    refine⟨?_,?_⟩
    ·refine lit fj fun Yi Yj IR yW=>⟨Yi,rfl,hL.aB yW,?_⟩
     replace hL:=hL.aB yW
     have Yk:=yW.size
     replace fw:=fw.no yW
     replace fj:=fj.aA yW
     intro Yl Ym Tr uE hL
     have Tt:Yl<Ym.size:=(hL).head.lt
     replace uE:=uE.cB (lo:=h3.size) (hi:=kX.size) ⟨⟨by omega,by omega⟩,trivial⟩
     have Yn:=uE.size
     replace fw:=fw.iv uE (by omega)
     replace IR:=IR.iv uE (by omega)
     replace fj:=fj.aJ uE (by omega)
     exact⟨rfl,kX.size,yV.size,yV.size,Yj.size,fw,IR,by omega,by omega,by omega,by omega,by omega,by omega,by omega,by omega,by omega,by omega,by omega,by omega,fj⟩
    ·intro Yo IU Tu yX hL
     have Tw:Yo<IU.size:=(hL).head.lt
     replace yX:=yX.aF
     have Yp:=yX.size
     replace fw:=fw.no yX
     replace fj:=fj.aA yX
     refine⟨?_,?_⟩
     ·refine lit fj fun Yq Yr DB yY=>⟨Yq,rfl,hL.aB yY,?_⟩
      replace hL:=hL.aB yY
      have Ys:=yY.size
      replace fw:=fw.no yY
      replace fj:=fj.aA yY
      intro ajP DC hL
      have Yt:=DC.size
      replace fw:=fw.fr DC fun k hk aI=>by have h1:=(fw.aG hk).1;have h2:=h1.1;have h3:=h1.2;simp only[In,List.mem_cons,List.not_mem_nil,or_false]at aI;omega
      replace DB:=DB.fr DC fun k hk aI=>by have h1:=(DB.aG hk).1;have h2:=h1.1;have h3:=h1.2;simp only[In,List.mem_cons,List.not_mem_nil,or_false]at aI;omega
      replace fj:=fj.fresh DC fun k hk=>by simp only[In,List.mem_cons,List.not_mem_nil,or_false]at hk;omega
      exact⟨rfl,kX.size,yV.size,IU.size,Yr.size,fw,DB,by omega,by omega,by omega,by omega,by omega,by omega,by omega,by omega,by omega,by omega,by omega,by omega,fj⟩
     ·intro Yu yZ hL
      replace yZ:=yZ.cB (lo:=h3.size) (hi:=kX.size) ⟨⟨by omega,by omega⟩,trivial⟩
      have Yw:=yZ.size
      replace fw:=fw.iv yZ (by omega)
      replace fj:=fj.aJ yZ (by omega)
      refine lit fj fun Yy Yz IV y0=>⟨Yy,rfl,hL.aB y0,?_⟩
      replace hL:=hL.aB y0
      have YA:=y0.size
      replace fw:=fw.no y0
      replace fj:=fj.aA y0
      intro ajQ uF hL
      replace uF:=uF.cB (lo:=yV.size) (hi:=IU.size) ⟨⟨by omega,by omega⟩,trivial⟩
      have YB:=uF.size
      replace fw:=fw.iv uF (by omega)
      replace IV:=IV.iv uF (by omega)
      replace fj:=fj.aJ uF (by omega)
      exact⟨rfl,kX.size,yV.size,Yu.size,Yz.size,fw,IV,by omega,by omega,by omega,by omega,by omega,by omega,by omega,by omega,by omega,by omega,by omega,by omega,fj⟩
   ·refine lit fj fun YC IW js DD=>⟨YC,rfl,hL.aB DD,?_⟩
    replace hL:=hL.aB DD
    have YD:=DD.size
    replace fj:=fj.aA DD
    refine⟨?_,?_⟩
    ·refine cp fj fun YE YF IX y9=>⟨YE,_,rfl,hL.aB y9,?_⟩
     replace hL:=hL.aB y9
     have YG:=y9.size
     replace js:=js.no y9
     replace fj:=fj.aA y9
     intro YH YI Tx uG hL
     have Ty:YH<YI.size:=(hL).head.lt
     replace uG:=uG.cB (lo:=h3.size) (hi:=kX.size) ⟨⟨by omega,by omega⟩,trivial⟩
     have YJ:=uG.size
     replace js:=js.iv uG (by omega)
     replace IX:=IX.iv uG (by omega)
     replace fj:=fj.aJ uG (by omega)
     exact⟨rfl,IW.size,YF.size,kX.size,IW.size,IX,js,by omega,by omega,by omega,by omega,by omega,by omega,by omega,by omega,by omega,by omega,by omega,by omega,fj⟩
    ·intro YK Pk Tz za hL
     have TA:YK<Pk.size:=(hL).head.lt
     replace za:=za.aF
     have YL:=za.size
     replace js:=js.no za
     replace fj:=fj.aA za
     refine cp fj fun YM YN DE zc=>⟨YM,_,rfl,hL.aB zc,?_⟩
     replace hL:=hL.aB zc
     have YO:=zc.size
     replace js:=js.no zc
     replace fj:=fj.aA zc
     intro ajR DF hL
     have YP:=DF.size
     replace js:=js.fr DF fun k hk aI=>by have h1:=(js.aG hk).1;have h2:=h1.1;have h3:=h1.2;simp only[In,List.mem_cons,List.not_mem_nil,or_false]at aI;omega
     replace DE:=DE.fr DF fun k hk aI=>by have h1:=(DE.aG hk).1;have h2:=h1.1;have h3:=h1.2;simp only[In,List.mem_cons,List.not_mem_nil,or_false]at aI;omega
     replace fj:=fj.fresh DF fun k hk=>by simp only[In,List.mem_cons,List.not_mem_nil,or_false]at hk;omega
     exact⟨rfl,Pk.size,YN.size,kX.size,IW.size,DE,js,by omega,by omega,by omega,by omega,by omega,by omega,by omega,by omega,by omega,by omega,by omega,by omega,fj⟩
   ·intro YQ zd TB DG hL
    have TC:YQ<zd.size:=(hL).head.lt
    replace DG:=DG.aF
    have YR:=DG.size
    replace fj:=fj.aA DG
    refine⟨?_,?_⟩
    ·refine cp fj fun YS IY jt DH=>⟨YS,_,rfl,hL.aB DH,?_⟩
     replace hL:=hL.aB DH
     have YT:=DH.size
     replace fj:=fj.aA DH
     refine⟨?_,?_⟩
     ·refine lit fj fun YU YV DI ze=>⟨YU,rfl,hL.aB ze,?_⟩
      replace hL:=hL.aB ze
      have YW:=ze.size
      replace jt:=jt.no ze
      replace fj:=fj.aA ze
      intro ajS DJ hL
      have YX:=DJ.size
      replace jt:=jt.fr DJ fun k hk aI=>by have h1:=(jt.aG hk).1;have h2:=h1.1;have h3:=h1.2;simp only[In,List.mem_cons,List.not_mem_nil,or_false]at aI;omega
      replace DI:=DI.fr DJ fun k hk aI=>by have h1:=(DI.aG hk).1;have h2:=h1.1;have h3:=h1.2;simp only[In,List.mem_cons,List.not_mem_nil,or_false]at aI;omega
      replace fj:=fj.fresh DJ fun k hk=>by simp only[In,List.mem_cons,List.not_mem_nil,or_false]at hk;omega
      exact⟨rfl,zd.size,IY.size,IY.size,YV.size,jt,DI,by omega,by omega,by omega,by omega,by omega,by omega,by omega,by omega,by omega,by omega,by omega,by omega,fj⟩
     ·intro YY zf hL
      replace zf:=zf.cB (lo:=h3.size) (hi:=kX.size) ⟨⟨by omega,by omega⟩,trivial⟩
      have YZ:=zf.size
      replace jt:=jt.iv zf (by omega)
      replace fj:=fj.aJ zf (by omega)
      refine lit fj fun Y0 Y1 IZ zg=>⟨Y0,rfl,hL.aB zg,?_⟩
      replace hL:=hL.aB zg
      have Y2:=zg.size
      replace jt:=jt.no zg
      replace fj:=fj.aA zg
      intro ajT uH hL
      replace uH:=uH.cB (lo:=kX.size) (hi:=zd.size) ⟨⟨by omega,by omega⟩,trivial⟩
      have Y3:=uH.size
      replace jt:=jt.iv uH (by omega)
      replace IZ:=IZ.iv uH (by omega)
      replace fj:=fj.aJ uH (by omega)
      exact⟨rfl,zd.size,IY.size,YY.size,Y1.size,jt,IZ,by omega,by omega,by omega,by omega,by omega,by omega,by omega,by omega,by omega,by omega,by omega,by omega,fj⟩
    ·refine lit fj fun Y4 Pl uI DK=>⟨Y4,rfl,hL.aB DK,?_⟩
     replace hL:=hL.aB DK
     have Y5:=DK.size
     replace fj:=fj.aA DK
     refine cp fj fun Y6 Y7 DL zh=>⟨Y6,_,rfl,hL.aB zh,?_⟩
     replace hL:=hL.aB zh
     have Y8:=zh.size
     replace uI:=uI.no zh
     replace fj:=fj.aA zh
     intro ajU DM hL
     have Y9:=DM.size
     replace uI:=uI.fr DM fun k hk aI=>by have h1:=(uI.aG hk).1;have h2:=h1.1;have h3:=h1.2;simp only[In,List.mem_cons,List.not_mem_nil,or_false]at aI;omega
     replace DL:=DL.fr DM fun k hk aI=>by have h1:=(DL.aG hk).1;have h2:=h1.1;have h3:=h1.2;simp only[In,List.mem_cons,List.not_mem_nil,or_false]at aI;omega
     replace fj:=fj.fresh DM fun k hk=>by simp only[In,List.mem_cons,List.not_mem_nil,or_false]at hk;omega
     exact⟨rfl,Pl.size,Y7.size,zd.size,Pl.size,DL,uI,by omega,by omega,by omega,by omega,by omega,by omega,by omega,by omega,by omega,by omega,by omega,by omega,fj⟩
  ·intro Za gE TD DN hL
   have TE:Za<gE.size:=(hL).head.lt
   replace DN:=DN.aF
   have Zb:=DN.size
   replace fj:=fj.aA DN
   refine⟨?_,?_,?_⟩
   ·refine cp fj fun Zc py fx DO=>⟨Zc,_,rfl,hL.aB DO,?_⟩
    replace hL:=hL.aB DO
    have Zd:=DO.size
    replace fj:=fj.aA DO
    refine⟨?_,?_⟩
    ·refine lit fj fun Ze Pm I3 zi=>⟨Ze,rfl,hL.aB zi,?_⟩
     replace hL:=hL.aB zi
     have Zf:=zi.size
     replace fx:=fx.no zi
     replace fj:=fj.aA zi
     intro Zg Pn TF uJ hL
     have TG:Zg<Pn.size:=(hL).head.lt
     replace uJ:=uJ.cB (lo:=h3.size) (hi:=gE.size) ⟨⟨by omega,by omega⟩,trivial⟩
     have Zh:=uJ.size
     replace fx:=fx.iv uJ (by omega)
     replace I3:=I3.iv uJ (by omega)
     replace fj:=fj.aJ uJ (by omega)
     exact⟨rfl,gE.size,py.size,py.size,Pm.size,fx,I3,by omega,by omega,by omega,by omega,by omega,by omega,by omega,by omega,by omega,by omega,by omega,by omega,fj⟩
    ·intro Zi zj TH zk hL
     have TI:Zi<zj.size:=(hL).head.lt
     replace zk:=zk.aF
     have Zj:=zk.size
     replace fx:=fx.no zk
     replace fj:=fj.aA zk
     refine⟨?_,?_⟩
     ·refine lit fj fun Zk Po DP zm=>⟨Zk,rfl,hL.aB zm,?_⟩
      replace hL:=hL.aB zm
      have Zl:=zm.size
      replace fx:=fx.no zm
      replace fj:=fj.aA zm
      intro acT DQ hL
      have Zm:=DQ.size
      replace fx:=fx.fr DQ fun k hk aI=>by have h1:=(fx.aG hk).1;have h2:=h1.1;have h3:=h1.2;simp only[In,List.mem_cons,List.not_mem_nil,or_false]at aI;omega
      replace DP:=DP.fr DQ fun k hk aI=>by have h1:=(DP.aG hk).1;have h2:=h1.1;have h3:=h1.2;simp only[In,List.mem_cons,List.not_mem_nil,or_false]at aI;omega
      replace fj:=fj.fresh DQ fun k hk=>by simp only[In,List.mem_cons,List.not_mem_nil,or_false]at hk;omega
      exact⟨rfl,gE.size,py.size,zj.size,Po.size,fx,DP,by omega,by omega,by omega,by omega,by omega,by omega,by omega,by omega,by omega,by omega,by omega,by omega,fj⟩
     ·intro Pp zn hL
      replace zn:=zn.cB (lo:=py.size) (hi:=zj.size) ⟨⟨by omega,by omega⟩,trivial⟩
      have Zn:=zn.size
      replace fx:=fx.iv zn (by omega)
      replace fj:=fj.aJ zn (by omega)
      refine lit fj fun Zo Pq I4 zo=>⟨Zo,rfl,hL.aB zo,?_⟩
      replace hL:=hL.aB zo
      have Zp:=zo.size
      replace fx:=fx.no zo
      replace fj:=fj.aA zo
      intro acU uK hL
      replace uK:=uK.cB (lo:=h3.size) (hi:=gE.size) ⟨⟨by omega,by omega⟩,trivial⟩
      have Zq:=uK.size
      replace fx:=fx.iv uK (by omega)
      replace I4:=I4.iv uK (by omega)
      replace fj:=fj.aJ uK (by omega)
      exact⟨rfl,gE.size,py.size,Pp.size,Pq.size,fx,I4,by omega,by omega,by omega,by omega,by omega,by omega,by omega,by omega,by omega,by omega,by omega,by omega,fj⟩
   ·refine lit fj fun Zr zp ju DR=>⟨Zr,rfl,hL.aB DR,?_⟩
    replace hL:=hL.aB DR
    have Zs:=DR.size
    replace fj:=fj.aA DR
    refine⟨?_,?_⟩
    ·refine cp fj fun Zt Pr I5 zq=>⟨Zt,_,rfl,hL.aB zq,?_⟩
     replace hL:=hL.aB zq
     have Zu:=zq.size
     replace ju:=ju.no zq
     replace fj:=fj.aA zq
     intro Zv Ps TJ uL hL
     have TK:Zv<Ps.size:=(hL).head.lt
     replace uL:=uL.cB (lo:=h3.size) (hi:=gE.size) ⟨⟨by omega,by omega⟩,trivial⟩
     have Zw:=uL.size
     replace ju:=ju.iv uL (by omega)
     replace I5:=I5.iv uL (by omega)
     replace fj:=fj.aJ uL (by omega)
     exact⟨rfl,zp.size,Pr.size,gE.size,zp.size,I5,ju,by omega,by omega,by omega,by omega,by omega,by omega,by omega,by omega,by omega,by omega,by omega,by omega,fj⟩
    ·intro Zx Gj TL zr hL
     have TM:Zx<Gj.size:=(hL).head.lt
     replace zr:=zr.aF
     have Zy:=zr.size
     replace ju:=ju.no zr
     replace fj:=fj.aA zr
     refine cp fj fun Zz Pt DS zt=>⟨Zz,_,rfl,hL.aB zt,?_⟩
     replace hL:=hL.aB zt
     have ZA:=zt.size
     replace ju:=ju.no zt
     replace fj:=fj.aA zt
     intro acV DT hL
     have ZB:=DT.size
     replace ju:=ju.fr DT fun k hk aI=>by have h1:=(ju.aG hk).1;have h2:=h1.1;have h3:=h1.2;simp only[In,List.mem_cons,List.not_mem_nil,or_false]at aI;omega
     replace DS:=DS.fr DT fun k hk aI=>by have h1:=(DS.aG hk).1;have h2:=h1.1;have h3:=h1.2;simp only[In,List.mem_cons,List.not_mem_nil,or_false]at aI;omega
     replace fj:=fj.fresh DT fun k hk=>by simp only[In,List.mem_cons,List.not_mem_nil,or_false]at hk;omega
     exact⟨rfl,Gj.size,Pt.size,gE.size,zp.size,DS,ju,by omega,by omega,by omega,by omega,by omega,by omega,by omega,by omega,by omega,by omega,by omega,by omega,fj⟩
   ·intro ZC pz TN DU hL
    have TO:ZC<pz.size:=(hL).head.lt
    replace DU:=DU.aF
    have ZD:=DU.size
    replace fj:=fj.aA DU
    refine⟨?_,?_⟩
    ·refine cp fj fun ZE zu jv DV=>⟨ZE,_,rfl,hL.aB DV,?_⟩
     replace hL:=hL.aB DV
     have ZF:=DV.size
     replace fj:=fj.aA DV
     refine⟨?_,?_⟩
     ·refine lit fj fun ZG Pu DW zw=>⟨ZG,rfl,hL.aB zw,?_⟩
      replace hL:=hL.aB zw
      have ZH:=zw.size
      replace jv:=jv.no zw
      replace fj:=fj.aA zw
      intro acW DX hL
      have ZI:=DX.size
      replace jv:=jv.fr DX fun k hk aI=>by have h1:=(jv.aG hk).1;have h2:=h1.1;have h3:=h1.2;simp only[In,List.mem_cons,List.not_mem_nil,or_false]at aI;omega
      replace DW:=DW.fr DX fun k hk aI=>by have h1:=(DW.aG hk).1;have h2:=h1.1;have h3:=h1.2;simp only[In,List.mem_cons,List.not_mem_nil,or_false]at aI;omega
      replace fj:=fj.fresh DX fun k hk=>by simp only[In,List.mem_cons,List.not_mem_nil,or_false]at hk;omega
      exact⟨rfl,pz.size,zu.size,zu.size,Pu.size,jv,DW,by omega,by omega,by omega,by omega,by omega,by omega,by omega,by omega,by omega,by omega,by omega,by omega,fj⟩
     ·intro Pv zx hL
      replace zx:=zx.cB (lo:=gE.size) (hi:=pz.size) ⟨⟨by omega,by omega⟩,trivial⟩
      have ZJ:=zx.size
      replace jv:=jv.iv zx (by omega)
      replace fj:=fj.aJ zx (by omega)
      refine lit fj fun ZK Pw I6 zy=>⟨ZK,rfl,hL.aB zy,?_⟩
      replace hL:=hL.aB zy
      have ZL:=zy.size
      replace jv:=jv.no zy
      replace fj:=fj.aA zy
      intro acX uM hL
      replace uM:=uM.cB (lo:=h3.size) (hi:=gE.size) ⟨⟨by omega,by omega⟩,trivial⟩
      have ZM:=uM.size
      replace jv:=jv.iv uM (by omega)
      replace I6:=I6.iv uM (by omega)
      replace fj:=fj.aJ uM (by omega)
      exact⟨rfl,pz.size,zu.size,Pv.size,Pw.size,jv,I6,by omega,by omega,by omega,by omega,by omega,by omega,by omega,by omega,by omega,by omega,by omega,by omega,fj⟩
    ·refine lit fj fun ZN Gk uN DY=>⟨ZN,rfl,hL.aB DY,?_⟩
     replace hL:=hL.aB DY
     have ZO:=DY.size
     replace fj:=fj.aA DY
     refine cp fj fun ZP Px DZ zz=>⟨ZP,_,rfl,hL.aB zz,?_⟩
     replace hL:=hL.aB zz
     have ZQ:=zz.size
     replace uN:=uN.no zz
     replace fj:=fj.aA zz
     intro acY D5 hL
     have ZR:=D5.size
     replace uN:=uN.fr D5 fun k hk aI=>by have h1:=(uN.aG hk).1;have h2:=h1.1;have h3:=h1.2;simp only[In,List.mem_cons,List.not_mem_nil,or_false]at aI;omega
     replace DZ:=DZ.fr D5 fun k hk aI=>by have h1:=(DZ.aG hk).1;have h2:=h1.1;have h3:=h1.2;simp only[In,List.mem_cons,List.not_mem_nil,or_false]at aI;omega
     replace fj:=fj.fresh D5 fun k hk=>by simp only[In,List.mem_cons,List.not_mem_nil,or_false]at hk;omega
     exact⟨rfl,Gk.size,Px.size,pz.size,Gk.size,DZ,uN,by omega,by omega,by omega,by omega,by omega,by omega,by omega,by omega,by omega,by omega,by omega,by omega,fj⟩
 rintro bN x1 x2 bO x3 zA ⟨rfl,i1,j1,i2,j2,o1,o2,d12,dN1,dN2,dO1,dO2,e1,e2',e3,e4,e5,e6,eA,f134⟩ kY
 have f0:=gI.aA f134
 have ajW:=f134.size
 have lO:bO<zA.size:=kY.head.lt
 have lN:bN<zA.size:=kY.tail.head.lt
 have ZS:bL (fun k=>k<h3.size) zA g aD:=(G.no gI).low.no f134
 have xN:¬x1.own bN:=fun hk=>by have h1:=(o1.aG hk).1.1;have h2:=(o1.aG hk).1.2;omega
 have xO:¬x3.own bO:=fun hk=>by have h1:=(o2.aG hk).1.1;have h2:=(o2.aG hk).1.2;omega
 have x1O:¬x1.own bO:=fun hk=>by have h1:=(o1.aG hk).1.1;have h2:=(o1.aG hk).1.2;omega
 have x3N:¬x3.own bN:=fun hk=>by have h1:=(o2.aG hk).1.1;have h2:=(o2.aG hk).1.2;omega
 have J6:∀k,x1.own k->¬x3.own k:=fun k h1 h3=>by have a1:=(o1.aG h1).1.1;have a2:=(o1.aG h1).1.2;have a3:=(o2.aG h3).1.1;have a4:=(o2.aG h3).1.2;omega
 have x1g:∀k,x1.own k->h3.size<=k/\k<zA.size:=fun k hk=>⟨by have:=(o1.aG hk).1.1;omega,(o1.aG hk).2⟩
 have x3g:∀k,x3.own k->h3.size<=k/\k<zA.size:=fun k hk=>⟨by have:=(o2.aG hk).1.1;omega,(o2.aG hk).2⟩
 --what the ZT region and the other one are off
 have qh:∀k,(k=bN\/x1.own k)\/(k=bO\/x3.own k)->h3.size<=k:=fun k hk=>by
  rcases hk with(rfl|hk)|(rfl|hk)
  ·omega
  ·exact(x1g k hk).1
  ·omega
  ·exact(x3g k hk).1
 refine NS (s0:=(rs,x2)) (F:=fun k=>k=bN\/x1.own k) (S:=fun k=>k<h3.size) nU
  (fun N t h'=>∃o:Sl,dD h' bO [o.v]/\bM h' (fun k=>h3.size<=k) o t/\∀k,o.own k->x3.own k\/N<=k) (fun k=>k=bO\/x3.own k)
  ZS kY.tail.head (o1.mono fun k hk _=> .inr hk) (fun k hk=>⟨fun h=>by have:=qh k (.inl h);omega,fun h=>by have:=qh k (.inr h);omega⟩) (.inl rfl) xN W n (by omega) (by omega) _ [x2]
  (fun k hk=>by rcases hk with rfl|hk;exact lN;exact(x1g k hk).2)
  (fun k hk=>⟨fun h=>by
   rcases hk with rfl|hk<;>rcases h with rfl|h
   ·exact eA rfl
   ·exact x1O h
   ·exact x3N hk
   ·exact J6 k h hk,by rcases hk with rfl|hk;exact lO;exact(x3g k hk).2⟩)
  (fun N hN=>⟨x3,kY.head,o2.mono fun k _ hk=>by have:=hk.1;omega,fun k hk=> .inl hk⟩)
  (fun N t h1 h2 U ⟨o,v1,v2,v3⟩ f hU=>⟨o,v1.fr f fun h=>(hU _ h).1 (.inl rfl),v2.fr f fun k hk aI=>by
   rcases v3 k hk with h|h
   ·exact(hU k aI).1 (.inr h)
   ·have:=(hU k aI).2;omega,v3⟩)
  (fun N t s s' h1 K hN hN2 ⟨o,v1,v2,v3⟩ V O W hs hm HK=> ?_) _ (fun hr N t h9 q hN ⟨o,v1,v2,v3⟩ v9 f9=> ?_) fun t' s' hr N h9 hN ⟨o,v1,v2,v3⟩ o9 W9 v9 f9=> ?_
 ·obtain⟨m,hm,hr⟩:=hm
  have hl:=yB m _ _ _ _ hr
  have ob:¬o.own bO:=fun hk=>by
   rcases v3 _ hk with h|h
   ·exact xO h
   ·omega
  have ob':¬o.own bN:=fun hk=>by
   rcases v3 _ hk with h|h
   ·exact x3N h
   ·omega
  refine SA v1 V eA v2 (fun k hk=>by omega) ob ob' (by simp at hl;omega) s.2 K fun h2 o' v w1 w2 w3 w4=>HK h2 v ⟨o',w1,w2,fun k hk=> ?_⟩ (w4.mono fun k _ hk=> ?_)
  ·rcases w3 k hk with h|h
   ·exact v3 k h
   ·exact .inr (by omega)
  ·rcases hk with rfl|hk
   ·exact .inl (.inl rfl)
   ·exact(v3 k hk).imp .inr id
 ·have fS:Vars h9 [(bO,[o.v]),(bN,[x1.v,VI q]),(b2,[w.v,VI x2]),(b1,[g.v])]:= .cons v1 (fun p hp=>by
   have:=kY.ne
   simp only[List.mem_cons,List.not_mem_nil,or_false]at hp
   rcases hp with rfl|rfl|rfl<;>simp only<;>omega) (.cons v9 (fun p hp=>by
   simp only[List.mem_cons,List.not_mem_nil,or_false]at hp
   rcases hp with rfl|rfl<;>simp only<;>omega) (kY.tail.tail.fr f9 fun p hp hk=>by
   have:=qh _ hk
   simp only[List.mem_cons,List.not_mem_nil,or_false]at hp
   rcases hp with rfl|rfl<;>simp only at this<;>omega))
  refine⟨o,x1,q,false,rfl,fS,fun _=> ?_,fun e=>by simp at e⟩
  rw[hr]at e2
  exact no e2 h9 (f0.fresh f9 fun k hk=>by have:=qh k hk;omega)
 ·have fS:Vars h9 [(bO,[o.v]),(bN,[x1.v,VI s'.2]),(b2,[w.v,VI x2]),(b1,[g.v])]:= .cons v1 (fun p hp=>by
   simp only[List.mem_cons,List.not_mem_nil,or_false]at hp
   rcases hp with rfl|rfl|rfl<;>simp only<;>omega) (.cons v9 (fun p hp=>by
   simp only[List.mem_cons,List.not_mem_nil,or_false]at hp
   rcases hp with rfl|rfl<;>simp only<;>omega) (kY.tail.tail.fr f9 fun p hp hk=>by
   have:=qh _ hk
   simp only[List.mem_cons,List.not_mem_nil,or_false]at hp
   rcases hp with rfl|rfl<;>simp only at this<;>omega))
  refine⟨o,x1,s'.2,true,rfl,fS,fun e=>by simp at e,fun _=> ?_⟩
  rw[hr]at e2
  have:=HK o h9 (by rw[e2];exact v2.mono fun k hk hF=>⟨by omega,(v2.aG hk).2⟩) (f0.fresh f9 fun k hk=>by have:=qh k hk;omega)
  rw[e2]at this
  exact this
end Go.Proofs.YtcnfcnoooecchaaGreatDoor
