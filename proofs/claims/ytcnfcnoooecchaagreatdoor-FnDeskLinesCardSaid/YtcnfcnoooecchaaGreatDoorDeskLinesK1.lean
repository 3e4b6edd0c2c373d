import Derived.Test.YtcnfcnoooecchaaGreatDoorDeskLinesK0
set_option linter.unusedVariables false
set_option linter.unusedSimpArgs false
namespace Go.Proofs.YtcnfcnoooecchaaGreatDoor
open Go Go.Mx
theorem Ox{S T:aK}{h h':Heap}{s:Sl}{aI:aE}{i:Int}(R:cG S h s aI)(h0:0<=i)(h1:i<(aI.length:Int))(f:Fr T h h')(hd:∀k,S k->¬T k){v:Value}(c:bF h (s.at i 1)=some v):bF h' (s.at i 1)=some v:=by
 obtain⟨ss,e,V,_⟩:=R.out
 obtain⟨a,ha,hs,_⟩:=V.cell i.toNat (by simp;omega)
 refine dG c f ?_
 rw[at_one ha,mH]
 exact hd _ hs
theorem Vq{a b:Sl}(h:some a.v=some b.v):a=b:=by
 cases a;cases b;simp[Sl.v]at h;simp[h]
theorem Q5{L:List (Nat×List Value)}{F:aK}{h:Heap}{s si:Sl}{aI:aE}{i:Int}(O:gy h F s aI)(hF:∀k,h.size<=k->F k)(h0:0<=i)(h1:i<(aI.length:Int))(c0:bF h (s.at i 1)=some si.v)(hL:Vars h L)(ks:∀p,p∈L->¬F p.1)(hb:(aI[i.toNat]'(by omega)).length<=1000000)(x:Int)(R:Heap->Prop)(HR:∀h',gy h' F s (aI.set i.toNat (aI[i.toNat]'(by omega)++[x]))->Fr F h h'->Vars h' L->R h'):lQ aC (Instr.buildSlice qx 1 #[(0,VI x)]) h fun rv h1=>∃t:Sl,rv=t.v/\Vars h1 L/\bF h1 (s.at i 1)=some si.v/\lQ aC (cE qx qx qx si.v t.v) h1 fun Fi h2=>∃t2:Sl,Fi=t2.v/\Vars h2 L/\fp s i/\eX h2 (s.at i 1)/\Vars (dR h2 (s.at i 1) t2.v) L/\∀h3,h3=dR h2 (s.at i 1) t2.v->Vars h3 L->R h3:=by
 have Oi:gy h (fun k=>F k/\k<h.size) s aI:=O.mono fun k hk aQ=>⟨aQ,hk⟩
 obtain⟨sj,c1,c2,_⟩:=Oi.inner h0 h1
 have:sj=si:=Vq (c1.symm.trans c0)
 subst this
 refine bE gD (fun k=>h.size<=k) (fun _ h=>h) 1 (by omega) [VI x] rfl rfl fun t h9 n9 c9 o9 f9 m9 _=>⟨t,rfl,hL.aB f9,dG c1 f9 (fun h=>h),?_⟩
 have s9:=f9.size
 have O9:=dJ.no Oi f9
 have E8:cH h9 F sj (aI[i.toNat]'(by omega)):=(Ow.no c2 f9).mono fun k _ hk=>hk.1
 have on:=E8.rd.len
 have tn:=o9.rd.len
 simp only[bG,gL,List.length_cons,List.length_nil]at on tn
 refine cP gD E8 (fun k hk=>hF k (by omega)) o9.rd (fU [x]) (by omega) fun w eW TR kW f10 d10=> ?_
 have g10:Fr F h9 eW:=f10.mono fun k _ hk=>(E8.aS hk).1
 have CF:Vars eW L:=(hL.aB f9).fr g10 ks
 have Oq:cH eW F w (aI[i.toNat]'(by omega)++[x]):=by rw[cH,cV];exact kW
 obtain⟨i11,U7,kp,f11⟩:=O9.Ag h0 h1 (dG c1 f9 fun h=>h) f10 (F':=F) Oq (fun k _ hk=>hk.1) fun k hk=>(d10 k hk).imp id fun aQ jP=>by have:=jP.2;omega
 have g11:Fr F eW _:=(O9.NV f11).mono fun k _ hk=>hk.1
 have ZB:=CF.fr g11 ks
 exact⟨w,rfl,CF,i11,U7,ZB,fun h3 e3 V3=>HR h3 (by rw[e3];exact kp) (by rw[e3];exact(f9.aB.trans g10).trans g11) V3⟩
theorem rA{L:List (Nat×List Value)}{F:aK}{m:Nat}{h:Heap}{s x:Sl}{aI:aE}{ys:aH}(O:gy h (fun k=>F k/\k<m) s aI)(X:cH h (fun k=>m<=k) x ys)(hF:∀k,m<=k->F k)(hm:m<=h.size)(hL:Vars h L)(ks:∀p,p∈L->¬F p.1)(hb:aI.length<=1000000)(R:Sl->Heap->Prop)(HR:∀t h',gy h' F t (aI++[ys])->Fr F h h'->Vars h' L->R t h'):lQ aC (Instr.buildSlice qy 1 #[(0,x.v)]) h fun rv h1=>∃t:Sl,rv=t.v/\Vars h1 L/\lQ aC (cE qy qy qy s.v t.v) h1 fun Fi h2=>∃t2:Sl,Fi=t2.v/\Vars h2 L/\R t2 h2:=by
 refine bE ug (fun k=>h.size<=k) (fun _ h=>h) 1 (by omega) [x.v] rfl rfl fun t h1 n1 c1 o1 f1 m1 _=>⟨t,rfl,hL.aB f1,?_⟩
 have z1:=f1.size
 refine dJ.snoc ug (dJ.no O f1) (F':=F) (fun k _ hk=>hk.1) (fun k hk=>hF k (by omega)) ((Ow.no X f1).mono fun k _ hk=>hF k hk) (fun k hk aQ=>by have:=(X.aS hk).1;have:=aQ.2;omega) o1.rd (by omega) fun y h2 o2 f2=> ?_
 have g2:Fr F h1 h2:=f2.mono fun k _ hk=>hk.1
 have V2:Vars h2 L:=(hL.aB f1).fr g2 ks
 exact⟨y,rfl,V2,HR y h2 o2 (f1.aB.trans g2) V2⟩
theorem KC{a n b:Nat}{h:Heap}{c:Sl}{i sd:Int}(V:bV h b [c.v,VI i,.int .u64 sd])(hb:a<=b)(D:gr a n h c i)(hn:n<=10000000)(K:aL)(HK:∀(t:Sl)(gs:aE)(i' oR:Int) h',gs.length<=9->cG (fun k=>h.size<=k) h' t gs->bV h' b [c.v,VI i',.int .u64 oR]->gr a (n+200) h' c i'->Fr (In [b]) h h'->K (.agg #[t.v]) h'):aG aC 103 #[VP b 0] h K:=by
 have lb:=V.lt
 refine aif b c i sd h K (.cons V (by simp) .nil) fun b2 h1 eN f1 cY=> ?_
 have f1:=f1.aM
 have z1:=f1.size
 have l2:b2<h1.size:=cY.head.lt
 have fin:∀(h':Heap),Fr (fun k=>k=b\/h.size<=k) h h'->Fr (In [b]) h h':=fun h' f=>f.mono fun k hk aQ=>by
  rcases aQ with e|e
  ·simp[In,e]
  ·omega
 have bM:∀{x y:Heap},Fr (In [b]) x y->Fr (fun k=>k=b\/h.size<=k) x y:=fun f=>f.mono fun k _ hk=> .inl (by simpa[In]using hk)
 refine yu cY.tail.head hb (D.no f1) (by omega) (most:=6) (by omega) (by omega) _ fun t aI i2 Q0 h2 o2 g2 n1 n2 V2 D2 f2=>⟨c,i2,Q0,t,rfl,gu cY 1 rfl f2 V2,fun b3 h4 jv f4 eM=> ?_⟩
 have f4:=f4.aM
 have z2:=f2.size
 have z4:=f4.size
 have l3:b3<h4.size:=eM.head.lt
 have tn:=dJ.len o2
 generalize hF:(fun k=>(h1.size<=k/\k<h2.size)\/h4.size<=k)=F
 have F1:∀k,F k->h1.size<=k:=fun k hk=>by rw[<-hF]at hk;rcases hk with a|a<;>omega
 have F2:∀k,h4.size<=k->F k:=fun k hk=>by rw[<-hF];exact .inr hk
 have F3:¬F b3:=fun hk=>by rw[<-hF]at hk;rcases hk with a|a<;>omega
 have o4:gy h4 F t aI:=(dJ.no o2 f4).mono fun k hk aQ=>by rw[<-hF];exact .inl aQ
 have jk:Fr (fun k=>k=b\/h.size<=k) h h4:=(f1.aB.trans (bM f2)).trans f4.aB
 have gb:∀{X Y:Heap}{w:Sl}{zs:aE},gy X F w zs->Fr (In [b]) X Y->gy Y F w zs:=fun O f=>dJ.fr O f fun k hk aQ jP=>by simp[In]at jP;have:=F1 _ aQ;omega
 have fT:∀{x y:Heap},Fr F x y->Fr (fun k=>k=b\/h.size<=k) x y:=fun f=>f.mono fun k _ hk=> .inr (by have:=F1 _ hk;omega)
 have ks:∀(A B C:List Value)(q:Nat×List Value),q∈[(b3,A),(b2,B),(b,C)]->¬F q.1:=fun A B C q hq=>by
  simp only[aO,aR,aN]at hq
  rcases hq with rfl|rfl|rfl
  ·exact F3
  ·exact fun hk=>by have:=F1 _ hk;omega
  ·exact fun hk=>by have:=F1 _ hk;omega
 have out:∀(w:Sl)(zs:aE)(i' oR:Int)(X Y:Heap),gy X F w zs->zs.length<=9->gr a (n+200) X c i'->Fr (fun k=>k=b\/h.size<=k) h X->Fr (In [b2]) X Y->bV Y b [c.v,VI i',.int .u64 oR]->K (.agg #[w.v]) Y:=fun w zs i' oR X Y O zl DD ff f VV=>by
  have OY:gy Y F w zs:=dJ.fr O f fun k hk aQ jP=>by simp[In]at jP;subst jP;have:=F1 _ aQ;omega
  exact HK w zs i' oR Y zl ((dJ.rd OY).mono fun k hk=>by have:=F1 _ hk.1;omega) VV (DD.fr f fun k hk aQ=>by simp[In]at aQ;omega) (fin _ (ff.trans (f.mono fun k _ hk=> .inr (by simp[In]at hk;omega))))
 refine gv eM.tail.tail.head hb (D2.no f4) (by omega) 16 _ fun s i5 Vr h5 s0 s1 V5 D5 f5=>⟨c,i5,Vr,s,rfl,gu eM 2 rfl f5 V5,fun _=> ?_,fun _=>⟨fun _=> ?_,fun _=>⟨fun _=> ?_,fun _=>⟨fun _ UM f24 afs=> ?_,fun _ CS f25 Il=> ?_⟩⟩⟩⟩
 ·have o5:=gb o4 f5
  have z5:=f5.size
  have ie:Vars h5 [(b3,[t.v]),(b2,[aD.v]),(b,[c.v,VI i5,.int .u64 Vr])]:=gu eM 2 rfl f5 V5
  have hp:(0:Int)<(aI.length:Int):=by omega
  obtain⟨si,c1,c2,_⟩:=dJ.inner o5 (cA 0) hp
  have r5:=dJ.rd o5
  refine⟨r5.bM (cA 0) hp,si,c1,?_⟩
  refine bE gD (fun k=>h5.size<=k) (fun _ h=>h) 3 (by omega) [VI (-1),VI (t.n:Int),VI 4611686018427387904] rfl rfl fun w h6 n6 c6 o6 f6 m6 _=>⟨w,rfl,ie.aB f6,dG c1 f6 (fun h=>h),?_⟩
  have z6:=f6.size
  have r6:bC (fun k=>h5.size<=k) h6 w [-1,(t.n:Int),4611686018427387904]:=o6.fM
  refine zt (ie.aB f6).tail.tail.head hb (D5.no f6) (by omega) r6 (by omega) (by simp) _ fun v i7 T7 h7 hv V7 D7 f7=>⟨c,i7,T7,v,rfl,gu (ie.aB f6) 2 rfl f7 V7,?_⟩
  have z7:=f7.size
  have kL:Vars h7 [(b3,[t.v]),(b2,[aD.v]),(b,[c.v,VI i7,.int .u64 T7])]:=gu (ie.aB f6) 2 rfl f7 V7
  have c7:bF h7 (t.at 0 1)=some si.v:=Ox (r5.no f6) (cA 0) hp f7 (fun k hk aQ=>by simp[In]at aQ;have:=F1 _ hk.1;omega) (dG c1 f6 fun h=>h)
  have g0:=(g2 _ (bJ (show(0:Int).toNat<aI.length by omega))).1
  refine⟨c7,Q5 (gb (dJ.no o5 f6) f7) (fun k hk=>F2 k (by omega)) (cA 0) hp c7 kL (fun q hq=>ks _ _ _ q hq) (by omega) v _ fun eW kW f10 CF gP f11 fJ=> ?_⟩
  exact out t _ i7 T7 eW gP kW (by simp;omega) ((D7.fr f10 fun k hk aQ=>by have:=F1 _ aQ;omega).up (by omega)) ((((jk.trans (bM f5)).trans f6.aB).trans (bM f7)).trans (fT f10)) f11 fJ.tail.tail.head
 ·have o5:=gb o4 f5
  have z5:=f5.size
  have ie:Vars h5 [(b3,[t.v]),(b2,[aD.v]),(b,[c.v,VI i5,.int .u64 Vr])]:=gu eM 2 rfl f5 V5
  have hp:(0:Int)<(aI.length:Int):=by omega
  refine gv ie.tail.tail.head hb D5 (by omega) 2 _ fun y i6 DV h6 y0 y1 V6 D6 f6=>⟨c,i6,DV,y,rfl,gu ie 2 rfl f6 V6,?_⟩
  have y1:=y1 (by omega)
  have z6:=f6.size
  have jx:Vars h6 [(b3,[t.v]),(b2,[aD.v]),(b,[c.v,VI i6,.int .u64 DV])]:=gu ie 2 rfl f6 V6
  rw[aP (5+y) (by omega) (by omega)]
  have ey:5+y=(((5+y).toNat:Nat):Int):=by omega
  rw[ey]
  refine fC gD (fun k=>h6.size<=k) (fun _ h=>h) .i64 .i64 (5+y).toNat (5+y).toNat (aW _) (by omega) fun w h7 n7 c7 o7 f7 m7 _=>⟨w,rfl,jx.aB f7,?_⟩
  have z7:=f7.size
  have o7':cH h7 (fun k=>h6.size<=k) w (List.replicate (5+y).toNat 0):=by
   have e:(List.replicate (5+y).toNat [VI 0]).flatten=(List.replicate (5+y).toNat (0:Int)).map VI:=by simp[ko]
   rw[e]at o7;exact o7
  have o6i:gy h6 (fun k=>F k/\k<h6.size) t aI:=(gb o5 f6).mono fun k hk aQ=>⟨aQ,hk⟩
  exact Vp (m:=h6.size) (dJ.no o6i f7) o7' (fun k hk=>F2 k (by omega)) (cA 0) hp (jx.aB f7) (fun q hq=>ks _ _ _ q hq) _ fun eW kW f10 CF gP f11 fJ=>out t _ i6 DV eW gP kW (by simp;omega) (((D6.no f7).fr f10 fun k hk aQ=>by have:=F1 _ aQ;omega).up (by omega)) ((((jk.trans (bM f5)).trans (bM f6)).trans f7.aB).trans (fT f10)) f11 fJ.tail.tail.head
 ·have o5:=gb o4 f5
  have z5:=f5.size
  refine⟨fun m x d i' oR h'=>d=c/\gr a (n+104+4*(9-m)) h' c i'/\m<=9/\(∃zs,gy h' F x zs/\zs.length+m=9)/\Fr (fun k=>k=b\/h.size<=k) h h'/\h4.size<=h'.size,⟨9-aI.length,rfl,D5.up (by omega),by omega,⟨aI,o5,by omega⟩,jk.trans (bM f5),by omega⟩,?_⟩
  rintro m x d i16 Q3 Ov ⟨rfl,ZE,m9,⟨zs,Vo,e16⟩,f16,ZF⟩ nD
  have xn:=dJ.len Vo
  refine gv nD.tail.tail.head hb ZE (by omega) 2 _ fun y i17 ZJ KD y0 y1 V17 Yi f17=>⟨d,i17,ZJ,y,rfl,gu nD 2 rfl f17 V17,fun e=> ?_,fun e Hb f22 aft=> ?_⟩
  ·have y1:=y1 (by omega)
   have z17:=f17.size
   rw[aP (8+y) (by omega) (by omega)]at e
   simp only[aT]at e
   have Vs:Vars KD [(b3,[x.v]),(b2,[aD.v]),(b,[d.v,VI i17,.int .u64 ZJ])]:=gu nD 2 rfl f17 V17
   refine bE gD (fun k=>KD.size<=k) (fun _ h=>h) 1 (by omega) [VI 0] rfl rfl fun w Yf n18 c18 o18 f18 m18 _=>⟨w,rfl,Vs.aB f18,?_⟩
   have z18:=f18.size
   have amy:gy KD (fun k=>F k/\k<KD.size) x zs:=(gb Vo f17).mono fun k hk aQ=>⟨aQ,hk⟩
   refine rA (m:=KD.size) (aI:=zs) (ys:=[0]) (dJ.no amy f18) o18 (fun k hk=>F2 k (by omega)) z18 (Vs.aB f18) (fun q hq=>ks _ _ _ q hq) (by omega) _ fun u Q4 ZH f20 V20 TZ f21 ZI=> ?_
   have z20:=f20.size
   have z21:=f21.size
   have Yh:gy TZ F u (zs++[[0]]):=dJ.fr ZH f21 fun k hk aQ jP=>by simp[In]at jP;subst jP;exact F3 aQ
   refine⟨m-1,by omega,rfl,?_,by omega,⟨_,Yh,by simp;omega⟩,?_,by omega⟩
   ·exact(((Yi.no f18).fr f20 fun k hk aQ=>by have:=F1 _ aQ;omega).fr f21 fun k hk aQ=>by simp[In]at aQ;omega).up (by omega)
   ·exact(((f16.trans (bM f17)).trans f18.aB).trans (fT f20)).trans (f21.mono fun k _ hk=> .inr (by simp[In]at hk;omega))
  ·exact out x zs i17 ZJ KD Hb (gb Vo f17) (by omega) (Yi.up (by omega)) (f16.trans (bM f17)) f22 aft.tail.tail.head
 ·have g24:Fr (fun k=>k=b\/h.size<=k) h5 UM:=f24.mono fun k _ hk=> .inr (by simp[In]at hk;omega)
  exact HK aD [] i5 Vr UM (by simp) ⟨[],rfl,eC.nil _ _ _,fun i h1=>by simp at h1⟩ afs.tail.tail.head ((D5.fr f24 fun k hk aQ=>by simp[In]at aQ;omega).up (by omega)) (fin _ ((jk.trans (bM f5)).trans g24))
 ·exact out t aI i5 Vr h5 CS (gb o4 f5) (by omega) (D5.up (by omega)) (jk.trans (bM f5)) f25 Il.tail.tail.head
theorem Vt(a b:Int):aX (aX a+b)=aX (a+b):=by
 simp only[aX,IntKind.wrap,IntKind.bits,IntKind.signed]
 simp
 try omega
theorem afv(s t:Sl)(h:Heap)(K:aL)(HK:∀b,K (VB b) h):aG aC 9 #[s.v,t.v] h K:=
 v9 s t h K ⟨fun _=>HK true,fun _=>HK _⟩
theorem ZK{S:aK}{h:Heap}{s:Sl}{xs:aH}(H:bC S h s xs)(K:aL)(HK:K (VI (aX xs.sum)) h):aG aC 18 #[s.v] h K:=by
 refine v18 s h K ⟨fun n t i h'=>h'=h/\0<=i/\i+n=(xs.length:Int)/\t=aX (xs.take i.toNat).sum,⟨xs.length,rfl,by omega,by omega,by simp[aP]⟩,?_⟩
 rintro n t i _ ⟨rfl,i0,i1,e1⟩ hL
 refine⟨fun e=> ?_,fun e=> ?_⟩
 ·have hi:=H.lt e
  refine⟨H.bM i0 hi,_,H.get i0 hi,?_⟩
  rw[H.succ i0 hi]
  refine⟨n-1,by omega,rfl,by omega,by omega,?_⟩
  rw[fu xs i0 hi,List.sum_append,e1,Vt]
  simp
 ·have hi:=H.ge e
  rw[cT (by omega)]at e1
  rw[e1]
  exact HK
theorem My{S S':aK}{h:Heap}{a b:Sl}{xs ys:aH}(H:bC S h a xs)(H':bC S' h b ys)(K:aL)(HK:K (VB (decide (xs=ys))) h):aG aC 49 #[a.v,b.v] h K:=by
 refine v49 a b h K ⟨fun e=> ?_,fun e=> ?_⟩
 ·have e1:=bU e
  rw[H.len,H'.len]at e1
  have:¬xs=ys:=fun e2=>by subst e2;simp at e1
  rw[gZ this]at HK
  exact HK
 ·have e1:=bQ e
  rw[H.len,H'.len]at e1
  have hl:xs.length=ys.length:=by simp at e1;omega
  refine⟨fun n i h'=>h'=h/\0<=i/\i+n=(xs.length:Int)/\decide (xs=ys)=decide (xs.drop i.toNat=ys.drop i.toNat),⟨xs.length,rfl,by omega,by omega,by simp⟩,?_⟩
  rintro n i hh ⟨rfl,h0,h1,h2⟩ hL
  refine⟨fun e=> ?_,fun e=> ?_⟩
  ·have hi:=H.lt e
   have jM:i<(ys.length:Int):=by omega
   refine⟨H.bM h0 hi,_,H.get h0 hi,H'.bM h0 jM,_,H'.get h0 jM,fun e=> ?_,fun e=> ?_⟩
   ·rw[drop_cons xs h0 hi,drop_cons ys h0 jM]at h2
    have e3:=bU e
    simp only[aY]at e3
    rw[h2,gZ (fun e4=>e3 (List.cons.inj e4).1)]at HK
    exact HK
   ·rw[drop_cons xs h0 hi,drop_cons ys h0 jM]at h2
    have e3:=bQ e
    simp only[aT]at e3
    rw[H.succ h0 hi]
    refine⟨n-1,by omega,rfl,by omega,by omega,h2.trans ?_⟩
    rw[e3]
    simp
  ·have hi:=H.ge e
   rw[kk (by omega),kk (by omega)]at h2
   rw[h2]at HK
   exact HK
def gS(k j:Nat):Nat:=if j<k then j else j+1
def lS(k:Nat):Int:=if k%2=0 then 1 else-1
def cM(f:Nat->Int):Nat->Int
 |0=>0
 |n+1=>cM f n+f n
abbrev lM:=Nat->Nat->Int
def dT:Nat->lM->Int
 |0,_=>1
 |n+1,A=>cM (fun k=>lS k*A 0 k*dT n (fun i j=>A (i+1) (gS k j))) (n+1)
theorem nb(k:Nat):lS (k+1)= -lS k:=by
 unfold lS
 by_cases h:k%2=0
 ·rw[aJ h,aF (by omega)]
 ·rw[aF h,aJ (by omega)];rfl
theorem dO{f f':Nat->Int}:∀{n:Nat},(∀i,i<n->f i=f' i)->cM f n=cM f' n
 |0,_=>rfl
 |n+1,h=>by rw[cM,cM,dO fun i hi=>h i (by omega),h n (by omega)]
theorem oS(f f':Nat->Int):∀n,cM (fun i=>f i+f' i) n=cM f n+cM f' n
 |0=>rfl
 |n+1=>by rw[cM,cM,cM,oS f f' n];omega
theorem oT(c:Int)(f:Nat->Int):∀n,cM (fun i=>c*f i) n=c*cM f n
 |0=>by simp[cM]
 |n+1=>by rw[cM,cM,oT c f n,lr]
theorem kY{f:Nat->Int}:∀{n:Nat},(∀i,i<n->f i=0)->cM f n=0
 |0,_=>rfl
 |n+1,h=>by rw[cM,kY fun i hi=>h i (by omega),h n (by omega)];rfl
theorem DW(f:Nat->Nat->Int)(m:Nat):∀n,cM (fun i=>cM (fun j=>f i j) m) n=cM (fun j=>cM (fun i=>f i j) n) m
 |0=>by rw[cM];exact(kY fun i _=>rfl).symm
 |n+1=>by
  rw[cM,DW f m n,<-oS]
  exact dO fun j _=>rfl
theorem oW(f:Nat->Int)(n:Nat):cM (fun i=> -f i) n= -cM f n:=by
 have:=oT (-1) f n
 rw[show(fun i=> -f i)=fun i=> -1*f i from funext fun i=>by omega,this];omega
theorem Ir(f:Nat->Int):∀{n k:Nat},k<=n->cM (fun l=>f (gS k l)) n+f k=cM f (n+1)
 |0,k,h=>by rw[show k=0 by omega];simp[cM]
 |n+1,k,h=>by
  by_cases e:k=n+1
  ·subst e
   show cM (fun l=>f (gS (n+1) l)) (n+1)+f (n+1)=cM f (n+1)+f (n+1)
   exact congrArg (·+f (n+1)) (show cM (fun l=>f (gS (n+1) l)) (n+1)=cM f (n+1)from dO fun i hi=>by(try simp only);unfold gS;rw[aJ hi])
  ·have ih:=Ir f (n:=n) (k:=k) (by omega)
   rw[cM,cM,<-ih]
   have:gS k n=n+1:=by unfold gS;rw[aF (by omega)]
   rw[this]
   omega
theorem fb:∀{n:Nat}{A B:lM},(∀i j,i<n->j<n->A i j=B i j)->dT n A=dT n B
 |0,_,_,_=>rfl
 |n+1,A,B,h=>by
  rw[dT,dT]
  refine dO fun k hk=> ?_
  (try simp only)
  rw[h 0 k (by omega) hk,fb fun i j hi hj=>h (i+1) (gS k j) (by omega) (by unfold gS;split<;>omega)]
def eY(A:lM)(i:Nat)(X:Nat->Int):lM:=fun r=>if r=i then X else A r
theorem DY(A:lM)(i:Nat):eY A i (A i)=A:=by
 funext r
 unfold eY
 split
 ·rename_i h;rw[h]
 ·rfl
theorem vp:∀{n i:Nat}(A:lM)(c:Int)(X Y:Nat->Int),i<n->dT n (eY A i fun j=>c*X j+Y j)=c*dT n (eY A i X)+dT n (eY A i Y)
 |n+1,0,A,c,X,Y,_=>by
  rw[dT,dT,dT,<-oT,<-oS]
  refine dO fun k hk=> ?_
  have e:∀Z:Nat->Int,(fun i j=>eY A 0 Z (i+1) (gS k j))=fun i j=>A (i+1) (gS k j):=fun Z=>by
   funext i j;unfold eY;rw[aF (by omega)]
  (try simp only)
  rw[e,e,e]
  unfold eY
  rw[aJ rfl,aJ rfl,aJ rfl]
  generalize dT n (fun i j=>A (i+1) (gS k j))=d
  rw[lr,Int.add_mul]
  congr 1
  rw[hH,hH,pU (lS k) c,hH]
 |n+1,i+1,A,c,X,Y,h=>by
  rw[dT,dT,dT,<-oT,<-oS]
  refine dO fun k hk=> ?_
  have e:∀Z:Nat->Int,(fun r j=>eY A (i+1) Z (r+1) (gS k j))=eY (fun r j=>A (r+1) (gS k j)) i fun j=>Z (gS k j):=fun Z=>by
   funext r j
   unfold eY
   by_cases h:r=i
   ·rw[aJ (by omega),aJ h]
   ·rw[aF (by omega),aF h]
  have z:∀Z:Nat->Int,eY A (i+1) Z 0 k=A 0 k:=fun Z=>by unfold eY;rw[aF (by omega)]
  (try simp only)
  rw[e,e,e,z,z,z,vp (fun r j=>A (r+1) (gS k j)) c (fun j=>X (gS k j)) (fun j=>Y (gS k j)) (by omega),lr,pU]
theorem pV{n i:Nat}(A:lM)(h:i<n):dT n (eY A i fun _=>0)=0:=by
 have:=vp A (-1) (fun _=>0) (fun _=>0) h
 have e:(fun j:Nat=>(-1:Int)*(fun _=>(0:Int)) j+(fun _=>(0:Int)) j)=fun _=>0:=by funext j;simp
 rw[e]at this
 omega
theorem DZ{n i:Nat}(A:lM)(c:Int)(X:Nat->Int)(h:i<n):dT n (eY A i fun j=>c*X j)=c*dT n (eY A i X):=by
 have:=vp A c X (fun _=>0) h
 rw[pV A h]at this
 have e:(fun j:Nat=>c*X j+(fun _=>(0:Int)) j)=fun j=>c*X j:=by funext j;simp
 rw[e]at this
 omega
def ig(i j r:Nat):Nat:=if r=i then j else if r=j then i else r
def Fp(k m:Nat):Nat:=if m<k then m else m-1
def CU(n:Nat)(A:lM)(k m:Nat):Int:=dT n fun i j=>A (i+2) (gS k (gS (Fp k m) j))
def KE(n:Nat)(A:lM)(k m:Nat):Int:=if k=m then 0 else lS k*lS (Fp k m)*A 0 k*A 1 m*CU n A k m
theorem Vu{k m:Nat}(h:k<m)(j:Nat):gS k (gS (m-1) j)=gS m (gS k j):=by
 unfold gS
 by_cases a:j<k
 ·rw[aJ (show j<m-1 by omega),aJ a,aJ (show j<m by omega)]
 ·by_cases b:j<m-1
  ·rw[aJ b,aF a,aJ (show j+1<m by omega)]
  ·rw[aF b,aF a,aF (show¬j+1<k by omega),aF (show¬j+1<m by omega)]
theorem Ea{n:Nat}{A:lM}{k m:Nat}(h:k<m):CU n A k m=CU n A m k:=by
 unfold CU Fp
 rw[aF (by omega),aJ h]
 congr 1
 funext i j
 rw[Vu h]
theorem Mz(n:Nat)(A:lM):dT (n+2) A=cM (fun k=>cM (fun m=>KE n A k m) (n+2)) (n+2):=by
 rw[dT]
 refine dO fun k hk=> ?_
 (try simp only)
 rw[dT,<-Ir (fun m=>KE n A k m) (show k<=n+1 by omega)]
 have e0:KE n A k k=0:=by unfold KE;rw[aJ rfl]
 rw[e0,lR,<-oT]
 refine dO fun l hl=> ?_
 (try simp only)
 have fL:k≠gS k l:=by unfold gS;split<;>omega
 have amz:Fp k (gS k l)=l:=by
  unfold Fp gS
  by_cases a:l<k
  ·simp only[aJ a]
  ·simp only[aF a]
   rw[aF (by omega)]
   omega
 unfold KE CU
 rw[aF fL,amz,iO]
 generalize dT n _=d
 rw[hH (lS k),hH (lS l),hH,hH,hH]
 rw[pU (A 0 k)]
theorem KG(n:Nat)(A:lM):dT (n+2) (fun i=>A (ig 0 1 i))= -dT (n+2) A:=by
 rw[Mz,Mz,DW (fun k m=>KE n A k m),<-oW]
 refine dO fun k hk=> ?_
 (try simp only)
 rw[<-oW]
 refine dO fun m hm=> ?_
 (try simp only)
 have hN:CU n (fun i=>A (ig 0 1 i)) k m=CU n A k m:=by
  unfold CU
  congr 1
 unfold KE
 by_cases e:k=m
 ·rw[aJ e,aJ e.symm];rfl
 ·rw[aF e,aF fun h=>e h.symm,hN]
  have r0:A (ig 0 1 0) k=A 1 k:=rfl
  have r1:A (ig 0 1 1) m=A 0 m:=rfl
  (try simp only)
  rw[r0,r1]
  have hs:lS k*lS (Fp k m)= -(lS m*lS (Fp m k)):=by
   unfold Fp
   by_cases h:k<m
   ·rw[aF (by omega),aJ h]
    have:=nb (m-1)
    rw[show m-1+1=m by omega]at this
    rw[this,kv,Int.neg_neg,jQ]
   ·rw[aJ (by omega),aF (by omega)]
    have:=nb (k-1)
    rw[show k-1+1=k by omega]at this
    rw[this,kv,jQ]
  have hd:CU n A k m=CU n A m k:=by
   by_cases h:k<m
   ·exact Ea h
   ·exact(Ea (by omega)).symm
  rw[hs,hd]
  generalize lS m*lS (Fp m k)=a
  rw[kv,kv,kv,hH a,jQ (A 1 k),<-hH a]
theorem pW:∀{n i:Nat}(A:lM),i+1<n->dT n (fun r=>A (ig i (i+1) r))= -dT n A
 |n+2,0,A,_=>KG n A
 |n+1,i+1,A,h=>by
  rw[dT,dT,<-oW]
  refine dO fun k hk=> ?_
  (try simp only)
  have e:(fun r j=>A (ig (i+1) (i+1+1) (r+1)) (gS k j))=fun r=>(fun r j=>A (r+1) (gS k j)) (ig i (i+1) r):=by
   funext r j
   congr 1
   unfold ig
   by_cases a:r=i
   ·rw[aJ (by omega),aJ a]
   ·by_cases b:r=i+1
    ·rw[aF (by omega),aJ (by omega),aF a,aJ b]
    ·rw[aF (by omega),aF (by omega),aF a,aF b]
  have z:ig (i+1) (i+1+1) 0=0:=by unfold ig;rw[aF (by omega),aF (by omega)]
  rw[e,z,pW (fun r j=>A (r+1) (gS k j)) (by omega),Int.mul_neg]
theorem rB:∀(d:Nat){n i:Nat}(A:lM),i+d+1<n->A i=A (i+d+1)->dT n A=0
 |0,n,i,A,h,e=>by
  have:=pW A h
  have e2:(fun r=>A (ig i (i+1) r))=A:=by
   funext r
   unfold ig
   by_cases a:r=i
   ·rw[aJ a,a];exact e.symm
   ·by_cases b:r=i+1
    ·rw[aF a,aJ b,b];exact e
    ·rw[aF a,aF b]
  rw[e2]at this
  omega
 |d+1,n,i,A,h,e=>by
  have h1:=pW (i:=i+d+1) A (by omega)
  have h2:=rB d (n:=n) (i:=i) (fun r=>A (ig (i+d+1) (i+d+1+1) r)) (by omega) (by
   (try simp only)
   have a:ig (i+d+1) (i+d+1+1) i=i:=by unfold ig;rw[aF (by omega),aF (by omega)]
   have b:ig (i+d+1) (i+d+1+1) (i+d+1)=i+d+1+1:=by unfold ig;rw[aJ rfl]
   rw[a,b]
   exact e)
  omega
theorem Is{n i j:Nat}(A:lM)(hi:i<n)(hj:j<n)(h:i≠j)(e:A i=A j):dT n A=0:=by
 by_cases a:i<j
 ·exact rB (j-i-1) (i:=i) A (by omega) (by rw[show i+(j-i-1)+1=j by omega];exact e)
 ·exact rB (i-j-1) (i:=j) A (by omega) (by rw[show j+(i-j-1)+1=i by omega];exact e.symm)
theorem zu{n i j:Nat}(A:lM)(hi:i<n)(hj:j<n)(h:i≠j)(c:Int):dT n (eY A i fun k=>c*A j k+A i k)=dT n A:=by
 rw[vp A c (A j) (A i) hi,DY,Is (eY A i (A j)) hi hj h (by unfold eY;rw[aJ rfl,aF fun e=>h e.symm])]
 omega
theorem Q8{n i j:Nat}(A:lM)(hi:i<n)(hj:j<n)(h:i≠j):dT n (fun r=>A (ig i j r))= -dT n A:=by
 --row i+row j,then row j-row i,then row i+row j,and a sign
 have e1:=zu A hi hj h 1
 have e2:=zu (eY A i fun k=>1*A j k+A i k) hj hi (fun e=>h e.symm) (-1)
 have e3:=zu (eY (eY A i fun k=>1*A j k+A i k) j fun k=> -1*(eY A i fun k=>1*A j k+A i k) i k+(eY A i fun k=>1*A j k+A i k) j k) hi hj h 1
 have e4:=DZ (fun r=>A (ig i j r)) (-1) (A i) hj
 have f1:eY (fun r=>A (ig i j r)) j (A i)=fun r=>A (ig i j r):=by
  funext r
  unfold eY
  by_cases a:r=j
  ·rw[aJ a,a];unfold ig;rw[aF fun e=>h e.symm,aJ rfl]
  ·rw[aF a]
 rw[f1]at e4
 have f2:eY (eY (eY A i fun k=>1*A j k+A i k) j fun k=> -1*(eY A i fun k=>1*A j k+A i k) i k+(eY A i fun k=>1*A j k+A i k) j k) i (fun k=>1*(eY (eY A i fun k=>1*A j k+A i k) j fun k=> -1*(eY A i fun k=>1*A j k+A i k) i k+(eY A i fun k=>1*A j k+A i k) j k) j k+(eY (eY A i fun k=>1*A j k+A i k) j fun k=> -1*(eY A i fun k=>1*A j k+A i k) i k+(eY A i fun k=>1*A j k+A i k) j k) i k)=eY (fun r=>A (ig i j r)) j fun k=> -1*A i k:=by
  funext r k
  unfold eY ig
  by_cases a:r=i
  ·subst a
   simp only[aJ,aF h,aF fun e:j=r=>h e.symm]
   omega
  ·by_cases b:r=j
   ·subst b
    simp only[aJ,aF a]
    omega
   ·simp only[aF a,aF b]
 rw[f2,e4]at e3
 omega
theorem AN:∀{n:Nat}(A:lM),(∀i,i<n+1->A i 0=0)->dT (n+1) A=0
 |0,A,h=>by rw[dT];simp[cM,dT,h 0 (by omega)]
 |n+1,A,h=>by
  rw[dT]
  refine kY fun k hk=> ?_
  (try simp only)
  by_cases e:k=0
  ·subst e;rw[h 0 (by omega)];simp
  ·rw[AN (fun i j=>A (i+1) (gS k j)) fun i hi=>by
    (try simp only)
    rw[show gS k 0=0 by unfold gS;rw[aJ (by omega)]]
    exact h (i+1) (by omega)]
   simp
theorem AO{n:Nat}(A:lM)(h:∀i,1<=i->i<n+1->A i 0=0):dT (n+1) A=A 0 0*dT n (fun i j=>A (i+1) (j+1)):=by
 have key:∀m,m<=n->cM (fun k=>lS k*A 0 k*dT n (fun i j=>A (i+1) (gS k j))) (m+1)=A 0 0*dT n (fun i j=>A (i+1) (j+1)):=by
  intro m
  induction m with
  |zero=>
   intro _
   rw[cM,cM]
   have:(fun i j=>A (i+1) (gS 0 j))=fun i j=>A (i+1) (j+1):=by
    funext i j;unfold gS;rw[aF (by omega)]
   rw[this]
   simp[lS]
  |succ m ih=>
   intro hm
   rw[cM,ih (by omega)]
   cases n with
   |zero=>omega
   |succ n=>
    rw[AN (fun i j=>A (i+1) (gS (m+1) j)) fun i hi=>by
     (try simp only)
     rw[show gS (m+1) 0=0 by unfold gS;rw[aJ (by omega)]]
     exact h (i+1) (by omega) (by omega)]
    simp
 rw[dT]
 exact key n (aW _)
def Fq(B:lM):lM:=fun i j=>B 0 0*B (i+1) (j+1)-B (i+1) 0*B 0 (j+1)
theorem rC{n:Nat}(b:Int)(B:lM):∀m,m<=n->dT (n+1) (fun r j=>if 1<=r/\r<=m then b*B r j else B r j)=b^m*dT (n+1) B
 |0,_=>by
  rw[Int.pow_zero,iZ]
  exact fb fun i j _ _=>by rw[aF (by omega)]
 |m+1,h=>by
  have ih:=rC (n:=n) b B m (by omega)
  have e:=DZ (n:=n+1) (i:=m+1) (fun r j=>if 1<=r/\r<=m then b*B r j else B r j) b (B (m+1)) (by omega)
  have e1:dT (n+1) (eY (fun r j=>if 1<=r/\r<=m then b*B r j else B r j) (m+1) fun j=>b*B (m+1) j)=dT (n+1) (fun r j=>if 1<=r/\r<=m+1 then b*B r j else B r j):=by
   refine fb fun i j _ _=> ?_
   unfold eY
   (try simp only)
   by_cases a:i=m+1
   ·subst a;rw[aJ rfl,aJ (by omega)]
   ·rw[aF a]
    (try simp only)
    by_cases c:1<=i/\i<=m
    ·rw[aJ c,aJ (show 1<=i/\i<=m+1 by omega)]
    ·rw[aF c,aF (show¬(1<=i/\i<=m+1) by omega)]
  have e2:eY (fun r j=>if 1<=r/\r<=m then b*B r j else B r j) (m+1) (B (m+1))=fun r j=>if 1<=r/\r<=m then b*B r j else B r j:=by
   funext r j
   unfold eY
   by_cases a:r=m+1
   ·subst a;rw[aJ rfl,aF (by omega)]
   ·rw[aF a]
  rw[e1,e2,ih]at e
  rw[e,Int.pow_succ,<-hH,jQ b]
theorem pX{n:Nat}(C:lM)(c:Nat->Int):∀m,m<=n->dT (n+1) (fun r j=>if 1<=r/\r<=m then c r*C 0 j+C r j else C r j)=dT (n+1) C
 |0,_=>fb fun i j _ _=>by rw[aF (by omega)]
 |m+1,h=>by
  rw[<-pX C c m (by omega),<-zu (n:=n+1) (i:=m+1) (j:=0) (fun r j=>if 1<=r/\r<=m then c r*C 0 j+C r j else C r j) (by omega) (by omega) (by omega) (c (m+1))]
  refine fb fun i j _ _=> ?_
  unfold eY
  by_cases a:i=m+1
  ·subst a;rw[aJ rfl,aJ (by omega),aF (by omega),aF (by omega)]
  ·rw[aF a]
   (try simp only)
   by_cases d:1<=i/\i<=m
   ·rw[aJ d,aJ (show 1<=i/\i<=m+1 by omega)]
   ·rw[aF d,aF (show¬(1<=i/\i<=m+1) by omega)]
theorem Q9{n:Nat}{B:lM}(hb:B 0 0≠0):B 0 0^n*dT (n+2) B=dT (n+1) (Fq B):=by
 have e1:=rC (n:=n+1) (B 0 0) B (n+1) (aW _)
 have e2:=pX (n:=n+1) (fun r j=>if 1<=r/\r<=n+1 then B 0 0*B r j else B r j) (fun r=> -B r 0) (n+1) (aW _)
 rw[e1]at e2
 have e3:=AO (n:=n+1) (fun r j=>if 1<=r/\r<=n+1 then-B r 0*(if 1<=0/\0<=n+1 then B 0 0*B 0 j else B 0 j)+(if 1<=r/\r<=n+1 then B 0 0*B r j else B r j)else(if 1<=r/\r<=n+1 then B 0 0*B r j else B r j)) fun i h1 h2=>by
  (try simp only)
  rw[aJ (by omega),aF (by omega),aJ (by omega),kv,jQ (B i 0)]
  omega
 rw[e3]at e2
 have e4:dT (n+1) (fun i j=>if 1<=i+1/\i+1<=n+1 then-B (i+1) 0*(if 1<=0/\0<=n+1 then B 0 0*B 0 (j+1)else B 0 (j+1))+(if 1<=i+1/\i+1<=n+1 then B 0 0*B (i+1) (j+1)else B (i+1) (j+1))else(if 1<=i+1/\i+1<=n+1 then B 0 0*B (i+1) (j+1)else B (i+1) (j+1)))=dT (n+1) (Fq B):=by
  refine fb fun i j hi hj=> ?_
  unfold Fq
  rw[aJ (by omega),aF (by omega),aJ (by omega),kv]
  omega
 have e5:(if 1<=0/\0<=n+1 then-B 0 0*(if 1<=0/\0<=n+1 then B 0 0*B 0 0 else B 0 0)+(if 1<=0/\0<=n+1 then B 0 0*B 0 0 else B 0 0)else(if 1<=0/\0<=n+1 then B 0 0*B 0 0 else B 0 0))=B 0 0:=by
  rw[aF (by omega),aF (by omega)]
 (try simp only at e2)
 (try simp only at e4)
 (try simp only at e5)
 first
 |(rw[e4,e5]at e2
   rw[Int.pow_succ,jQ (B 0 0^n),hH]at e2
   exact(Int.mul_eq_mul_left_iff hb).1 e2.symm)
 |(rw[e4]at e2
   rw[Int.pow_succ,jQ (B 0 0^n),hH]at e2
   exact(Int.mul_eq_mul_left_iff hb).1 e2.symm)
theorem Iu(b:Int)(A:lM):∀n,dT n (fun i j=>b*A i j)=b^n*dT n A
 |0=>by simp[dT]
 |n+1=>by
  rw[dT,dT,<-oT]
  refine dO fun k hk=> ?_
  (try simp only)
  rw[Iu b (fun i j=>A (i+1) (gS k j)) n,Int.pow_succ,pU (lS k),hH b,pU,jQ (b^n) b,hH b,pU (b^n),<-hH]
  first
  |done
  |simp only[hH,jQ,pU]
def oz(m:Nat)(r:Nat->Nat)(i:Nat):Nat:=if i<m then i else m+r (i-m)
def vq(n m:Nat)(last:Int)(O A:lM):Prop:=
 ∀(k:Nat)(r c:Nat->Nat),(∀i,i<=k->r i<n-m)->(∀i,i<=k->c i<n-m)->dT (k+1) (fun i j=>A (r i) (c j))=last^k*dT (m+k+1) (fun i j=>O (oz m r i) (oz m c j))
theorem vq.start(n:Nat)(O:lM):vq n 0 1 O O:=fun k r c hr hc=>by
 rw[Int.one_pow,iZ,iO]
 exact fb fun i j _ _=>by simp[oz]
theorem Vv(A:lM):dT 1 A=A 0 0:=by simp[dT,cM,lS]
theorem Vw(A:lM):dT 2 A=A 0 0*A 1 1-A 1 0*A 0 1:=by
 simp only[dT,cM,lS,gS]
 simp
 rw[kv,jQ (A 0 1)]
 omega
theorem vq.ent{n m:Nat}{last:Int}{O A:lM}(H:vq n m last O A){i j:Nat}(hi:i<n-m)(hj:j<n-m):A i j=dT (m+1) (fun a b=>O (oz m (fun _=>i) a) (oz m (fun _=>j) b)):=by
 have:=H 0 (fun _=>i) (fun _=>j) (fun _ _=>hi) (fun _ _=>hj)
 rw[Vv,Int.pow_zero,iZ]at this
 exact this
def Ra(r:Nat->Nat):Nat->Nat
 |0=>0
 |i+1=>r i+1
theorem MA(m:Nat)(r:Nat->Nat)(i:Nat):oz m (Ra r) i=oz (m+1) r i:=by
 unfold oz
 by_cases h:i<m
 ·rw[aJ h,aJ (by omega)]
 ·rw[aF h]
  by_cases e:i=m
  ·subst e;rw[aJ (by omega),Nat.sub_self];rfl
  ·rw[aF (by omega)]
   obtain⟨d,rfl⟩:∃d,i=m+1+d:=⟨i-(m+1),by omega⟩
   rw[show m+1+d-m=d+1 by omega,show m+1+d-(m+1)=d by omega]
   show m+(r d+1)=_
   omega
theorem vq.exact{n m:Nat}{last:Int}{O A:lM}(H:vq n m last O A){i j:Nat}(hi:i+1<n-m)(hj:j+1<n-m):∃q,Fq A i j=last*q:=by
 have:=H 1 (Ra fun _=>i) (Ra fun _=>j) (fun a ha=>by cases a with|zero=>exact(by show 0<_;omega)|succ a=>exact hi) (fun a ha=>by cases a with|zero=>exact(by show 0<_;omega)|succ a=>exact hj)
 rw[Vw]at this
 exact⟨_,by unfold Fq;rw[Int.pow_one]at this;exact this⟩
theorem MB{a b q:Int}(h:a=b*q)(hb:b≠0):a.tdiv b=q:=by rw[h];exact Int.mul_tdiv_cancel_left _ hb
theorem vq.step{n m:Nat}{last:Int}{O A A':lM}(H:vq n m last O A)(hl:last≠0)(ha:A 0 0≠0)(hA:∀i j,i+1<n-m->j+1<n-m->A' i j=(Fq A i j).tdiv last):vq n (m+1) (A 0 0) O A':=fun k r c hr hc=>by
 have e1:dT (k+1) (fun i j=>last*A' (r i) (c j))=dT (k+1) (Fq fun i j=>A (Ra r i) (Ra c j)):=fb fun i j hi hj=>by
  have jM:=hr i (by omega)
  have Iw:=hc j (by omega)
  (try simp only)
  obtain⟨q,hq⟩:=H.exact (i:=r i) (j:=c j) (by omega) (by omega)
  rw[hA _ _ (by omega) (by omega),MB hq hl,<-hq]
  rfl
 rw[Iu last (fun i j=>A' (r i) (c j))]at e1
 have e2:=Q9 (n:=k) (B:=fun i j=>A (Ra r i) (Ra c j)) ha
 have e3:=H (k+1) (Ra r) (Ra c) (fun i hi=>by cases i with|zero=>exact(by have:=hr 0 (by omega);show 0<_;omega)|succ i=>exact(by have:=hr i (by omega);show r i+1<_;omega)) (fun i hi=>by cases i with|zero=>exact(by have:=hc 0 (by omega);show 0<_;omega)|succ i=>exact(by have:=hc i (by omega);show c i+1<_;omega))
 rw[<-e2,e3]at e1
 have e4:(fun i j=>O (oz m (Ra r) i) (oz m (Ra c) j))=fun i j=>O (oz (m+1) r i) (oz (m+1) c j):=by funext i j;rw[MA,MA]
 rw[e4,pU]at e1
 have e5:=(Int.mul_eq_mul_left_iff (show last^(k+1)≠0 from Int.pow_ne_zero hl)).1 e1
 rw[e5,show m+(k+1)+1=m+1+k+1 by omega]
 rfl
theorem vq.swap{n m p:Nat}{last:Int}{O A:lM}(H:vq n m last O A)(hp:p<n-m):vq n m last (fun i=>O (ig m (m+p) i)) (fun i=>A (ig 0 p i)):=fun k r c hr hc=>by
 have:=H k (fun i=>ig 0 p (r i)) c (fun i hi=>by have:=hr i hi;unfold ig;split<;>(try split)<;>omega) hc
 (try simp only)
 rw[this]
 congr 2
 funext i j
 congr 1
 unfold oz
 by_cases h:i<m
 ·rw[aJ h,aJ h];unfold ig;rw[aF (by omega),aF (by omega)]
 ·rw[aF h,aF h]
  show m+ig 0 p (r (i-m))=ig m (m+p) (m+r (i-m))
  generalize r (i-m)=x
  unfold ig
  by_cases a:x=0
  ·rw[aJ a,aJ (show m+x=m by omega)]
  ·rw[aF a,aF (show¬m+x=m by omega)]
   by_cases b:x=p
   ·rw[aJ b,aJ (show m+x=m+p by omega)];omega
   ·rw[aF b,aF (show¬m+x=m+p by omega)]
theorem MC(m i:Nat):oz m (fun x=>x) i=i:=by unfold oz;split<;>(try simp only)<;>omega
theorem vq.none{n m:Nat}{last:Int}{O A:lM}(H:vq n m last O A)(hm:m<n)(hl:last≠0)(h0:∀i,i<n-m->A i 0=0):dT n O=0:=by
 have:=H (n-m-1) (fun x=>x) (fun x=>x) (fun i hi=>by omega) (fun i hi=>by omega)
 rw[AN (fun i j=>A i j) fun i hi=>h0 i (by omega)]at this
 have e:(fun i j=>O (oz m (fun x=>x) i) (oz m (fun x=>x) j))=O:=by funext i j;rw[MC,MC]
 rw[e,show m+(n-m-1)+1=n by omega]at this
 rcases Int.mul_eq_zero.1 this.symm with h|h
 ·exact absurd h (Int.pow_ne_zero hl)
 ·exact h
theorem vq.last{n m:Nat}{last:Int}{O A:lM}(H:vq n m last O A)(hm:m+1=n):A 0 0=dT n O:=by
 rw[H.ent (i:=0) (j:=0) (by omega) (by omega),hm]
 have e:(fun a b=>O (oz m (fun _=>0) a) (oz m (fun _=>0) b))=fun a b=>O (if a<m then a else m) (if b<m then b else m):=by funext a b;rfl
 rw[e]
 refine fb fun i j hi hj=> ?_
 rw[show(if i<m then i else m)=i by split<;>omega,show(if j<m then j else m)=j by split<;>omega]
def J3:Nat->Nat
 |0=>1
 |n+1=>(n+1)*10*J3 n
theorem ul{f:Nat->Int}{b:Nat}:∀{n:Nat},(∀i,i<n->(f i).natAbs<=b)->(cM f n).natAbs<=n*b
 |0,_=>by simp[cM]
 |n+1,h=>by
  rw[cM]
  have h1:=ul (f:=f) (b:=b) (n:=n) fun i hi=>h i (by omega)
  have h2:=h n (by omega)
  have h3:=Int.natAbs_add_le (cM f n) (f n)
  rw[Nat.succ_mul]
  omega
theorem MD(k:Nat):(lS k).natAbs=1:=by unfold lS;split<;>rfl
theorem oX:∀{n:Nat}{A:lM},(∀i j,i<n->j<n->(A i j).natAbs<=10)->(dT n A).natAbs<=J3 n
 |0,_,_=>by simp[dT,J3]
 |n+1,A,h=>by
  rw[dT,J3,Nat.mul_assoc]
  refine ul fun k hk=> ?_
  (try simp only)
  rw[sI,sI,MD,Nat.one_mul]
  exact uX (h 0 k (by omega) hk) (oX fun i j hi hj=>h (i+1) (gS k j) (by omega) (by unfold gS;split<;>omega))
theorem AP:∀{n m:Nat},n<=m->J3 n<=J3 m
 |n,0,h=>by rw[show n=0 by omega];exact aW _
 |n,m+1,h=>by
  by_cases e:n=m+1
  ·rw[e];exact aW _
  ·have h1:=AP (n:=n) (m:=m) (by omega)
   have h2:J3 m<=J3 (m+1):=by rw[J3];exact Nat.le_mul_of_pos_left _ (by omega)
   omega
def Small(n:Nat)(O:lM):Prop:=∀i j,i<n->j<n->(O i j).natAbs<=10
theorem vq.afw{n m:Nat}{last:Int}{O A:lM}(H:vq n m last O A)(hO:Small n O){i j:Nat}(hi:i<n-m)(hj:j<n-m):(A i j).natAbs<=J3 (m+1):=by
 rw[H.ent hi hj]
 refine oX fun a b ha hb=>hO _ _ ?_ ?_
 ·unfold oz;split<;>(try simp only)<;>omega
 ·unfold oz;split<;>(try simp only)<;>omega
def gE(x:Int):aH->Int
 |[]=>0
 |y::l=>(if y=x then 1 else 0)+gE x l
def Fs(p q x:Int):Int:=if x=p then q else x
abbrev Tn:=List (Int×aH)
def um(p q:Int)(ts:Tn):Tn:=ts.map fun t=>(t.1,t.2.map (Fs p q))
def pY(ts:Tn)(i:Nat):Int:=(ts.getD i (0,[])).1
def CE(ts:Tn)(i:Nat):aH:=(ts.getD i (0,[])).2
def j6(ts:Tn):lM:=fun i j=>(if i=j then((CE ts i).length:Int)else 0)-gE (pY ts j) (CE ts i)
def Oy:Nat->Tn->Int
 |0,_=>1
 |_+1,[]=>1
 |n+1,(p,ex)::ts=>(ex.map fun q=>if q=p then 0 else Oy n (um p q ts)).sum
theorem ME{p q x:Int}(h:x≠p):∀l:aH,gE x (l.map (Fs p q))=gE x l+(if q=x then gE p l else 0)
 |[]=>by simp[gE]
 |y::l=>by
  rw[bK,gE,gE,gE,ME h l]
  unfold Fs
  by_cases a:y=p
  ·rw[aJ a,aF (show¬y=x from fun e=>h (e.symm.trans a)),aJ a]
   by_cases b:q=x
   ·rw[aJ b,aJ b,aJ b];omega
   ·rw[aF b,aF b,aF b];omega
  ·rw[aF a,aF a]
   by_cases b:q=x
   ·rw[aJ b,aJ b];omega
   ·rw[aF b,aF b];omega
theorem Vx(p q:Int)(ts:Tn)(i:Nat):pY (um p q ts) i=pY ts i:=by
 unfold pY um
 rw[eG,eG,List.getElem?_map]
 cases ts[i]?<;>rfl
theorem Vy(p q:Int)(ts:Tn)(i:Nat):CE (um p q ts) i=(CE ts i).map (Fs p q):=by
 unfold CE um
 rw[eG,eG,List.getElem?_map]
 cases ts[i]?<;>rfl
theorem Vz{ts:Tn}{i:Nat}(h:i<ts.length):pY ts i∈ts.map (·.1):=by
 unfold pY
 rw[eG,dY h]
 exact dL.2 ⟨_,bJ h,rfl⟩
theorem Eb(p q:Int)(ts:Tn):(um p q ts).map (·.1)=ts.map (·.1):=by
 unfold um
 rw[iP]
 rfl
theorem Rb{n:Nat}{p q:Int}{ex:aH}{ts:Tn}(hn:ts.length=n)(hd:((p,ex)::ts).map (·.1)|>.Nodup):
 dT (n+1) (eY (j6 ((p,ex)::ts)) 0 fun j=>(if 0=j then 1 else 0)-(if q=pY ((p,ex)::ts) j then 1 else 0))=if q=p then 0 else dT n (j6 (um p q ts)):=by
 have hp:∀j,j<n->pY ((p,ex)::ts) (j+1)=pY ts j/\pY ts j≠p:=fun j hj=>⟨rfl,fun e=>by
  have h1:=Vz (ts:=ts) (i:=j) (by omega)
  rw[e]at h1
  rw[bK,List.nodup_cons]at hd
  exact hd.1 h1⟩
 have h0:pY ((p,ex)::ts) 0=p:=rfl
 by_cases e:q=p
 ·rw[aJ e]
  rw[show dT (n+1) (eY (j6 ((p,ex)::ts)) 0 fun j=>(if 0=j then 1 else 0)-(if q=pY ((p,ex)::ts) j then 1 else 0))=dT (n+1) (eY (j6 ((p,ex)::ts)) 0 fun _=>0)from fb fun i j hi hj=>by
   unfold eY
   by_cases a:i=0
   ·rw[aJ a,aJ a]
    cases j with
    |zero=>rw[h0,aJ rfl,aJ e];rfl
    |succ j=>rw[(hp j (by omega)).1,aF (by omega),aF fun x=>(hp j (by omega)).2 (x.symm.trans e)];rfl
   ·rw[aF a,aF a]]
  exact pV _ (by omega)
 ·rw[aF e]
  rw[<-pX (n:=n) (eY (j6 ((p,ex)::ts)) 0 fun j=>(if 0=j then 1 else 0)-(if q=pY ((p,ex)::ts) j then 1 else 0)) (fun r=>gE p (CE ((p,ex)::ts) r)) n (aW _)]
  rw[AO]
  ·have e1:(if 1<=0/\0<=n then gE p (CE ((p,ex)::ts) 0)*eY (j6 ((p,ex)::ts)) 0 (fun j=>(if 0=j then 1 else 0)-(if q=pY ((p,ex)::ts) j then 1 else 0)) 0 0+eY (j6 ((p,ex)::ts)) 0 (fun j=>(if 0=j then 1 else 0)-(if q=pY ((p,ex)::ts) j then 1 else 0)) 0 0 else eY (j6 ((p,ex)::ts)) 0 (fun j=>(if 0=j then 1 else 0)-(if q=pY ((p,ex)::ts) j then 1 else 0)) 0 0)=(1:Int):=by
    rw[aF (by omega)]
    unfold eY
    rw[aJ rfl,h0,aJ rfl,aF e];rfl
   (try simp only)
   first
   |rw[e1,iZ]
   |(have e1:=e1
     simp only at e1
     rw[e1,iZ])
   refine fb fun i j hi hj=> ?_
   (try simp only)
   rw[aJ (by omega)]
   unfold eY
   rw[aJ rfl,aF (show¬i+1=0 by omega)]
   (try simp only)
   rw[(hp j hj).1,aF (show¬0=j+1 by omega)]
   unfold j6
   rw[Vy,Vx,ME (hp j hj).2,bG,(hp j hj).1]
   have e2:CE ((p,ex)::ts) (i+1)=CE ts i:=rfl
   rw[e2]
   by_cases a:q=pY ts j
   ·rw[aJ a,aJ a]
    by_cases b:i=j
    ·rw[aJ b,aJ (by omega)];omega
    ·rw[aF b,aF (by omega)];omega
   ·rw[aF a,aF a]
    by_cases b:i=j
    ·rw[aJ b,aJ (by omega)];omega
    ·rw[aF b,aF (by omega)];omega
  ·intro i h1 h2
   (try simp only)
   rw[aJ (show 1<=i/\i<=n by omega)]
   unfold eY
   rw[aF (show¬i=0 by omega),aJ (show 0=0 from rfl)]
   (try simp only)
   rw[h0,aF e]
   unfold j6
   rw[aF (show¬i=0 by omega),h0]
   simp
   omega
theorem Ft:∀(n:Nat)(ts:Tn),ts.length=n->(ts.map (·.1)).Nodup->dT n (j6 ts)=Oy n ts
 |0,ts,_,_=>by rw[dT];cases ts<;>rfl
 |n+1,(p,ex)::ts,h,hd=>by
  have hn:ts.length=n:=by simpa using h
  have TN:(ts.map (·.1)).Nodup:=by
   rw[bK,List.nodup_cons]at hd
   exact hd.2
  have key:∀l:aH,dT (n+1) (eY (j6 ((p,ex)::ts)) 0 fun j=>(if 0=j then(l.length:Int)else 0)-gE (pY ((p,ex)::ts) j) l)=(l.map fun q=>if q=p then 0 else Oy n (um p q ts)).sum:=by
   intro l
   induction l with
   |nil=>
    have:(fun j:Nat=>(if 0=j then((([]:aH).length:Nat):Int)else 0)-gE (pY ((p,ex)::ts) j) [])=fun _=>0:=by
     funext j
     simp[gE]
    rw[this,pV _ (by omega)]
    rfl
   |cons q l ih=>
    have:(fun j:Nat=>(if 0=j then(((q::l).length:Nat):Int)else 0)-gE (pY ((p,ex)::ts) j) (q::l))=fun j=>1*((if 0=j then 1 else 0)-(if q=pY ((p,ex)::ts) j then 1 else 0))+((if 0=j then(l.length:Int)else 0)-gE (pY ((p,ex)::ts) j) l):=by
     funext j
     rw[gE,List.length_cons]
     by_cases a:0=j
     ·rw[aJ a,aJ a,aJ a];omega
     ·rw[aF a,aF a,aF a];omega
    rw[this,vp (j6 ((p,ex)::ts)) 1 (fun j=>(if 0=j then 1 else 0)-(if q=pY ((p,ex)::ts) j then 1 else 0)) (fun j=>(if 0=j then(l.length:Int)else 0)-gE (pY ((p,ex)::ts) j) l) (by omega),ih,Rb hn hd,bK,List.sum_cons,iZ]
    congr 1
    by_cases a:q=p
    ·rw[aJ a,aJ a]
    ·rw[aF a,aF a,Ft n (um p q ts) (by unfold um;simpa using hn) (by rw[Eb];exact TN)]
  have e:eY (j6 ((p,ex)::ts)) 0 (fun j=>(if 0=j then(ex.length:Int)else 0)-gE (pY ((p,ex)::ts) j) ex)=j6 ((p,ex)::ts):=by
   have:=DY (j6 ((p,ex)::ts)) 0
   exact this
  rw[Oy,<-key ex,e]
def eO{α:Type}:List (List α)->List (List α)
 |[]=>[[]]
 |c::cs=>c.flatMap fun x=>(eO cs).map (x:: ·)
theorem Ec{α β:Type}(f:α->β):∀cs:List (List α),eO (cs.map (·.map f))=(eO cs).map (·.map f)
 |[]=>rfl
 |c::cs=>by
  rw[bK,eO,eO,Ec f cs,List.map_flatMap,List.flatMap_map]
  congr 1
  funext x
  rw[iP,iP]
  rfl
def Px:Nat->List (Int×Int)->Bool
 |0,_=>true
 |_+1,[]=>true
 |n+1,(p,q)::l=> !decide (q=p)&&Px n (l.map fun t=>(t.1,Fs p q t.2))
theorem MF(p q:Int):∀(ns c:aH),ns.zip (c.map (Fs p q))=(ns.zip c).map fun t=>(t.1,Fs p q t.2)
 |[],_=>by simp
 |_::_,[]=>by simp
 |x::ns,y::c=>by rw[bK,List.zip_cons_cons,List.zip_cons_cons,bK,MF p q ns c]
theorem yv:∀l:List Nat,((l.sum:Nat):Int)=(l.map fun n:Nat=>(n:Int)).sum
 |[]=>rfl
 |x::l=>by rw[List.sum_cons,bK,List.sum_cons,<-yv l];omega
theorem AQ:∀(n:Nat)(ts:Tn),ts.length=n->Oy n ts=(((eO (ts.map (·.2))).countP fun c=>Px n ((ts.map (·.1)).zip c):Nat):Int)
 |0,ts,h=>by
  rw[pZ.1 h]
  rfl
 |n+1,(p,ex)::ts,h=>by
  have hn:ts.length=n:=by simpa using h
  have e0:eO (((p,ex)::ts).map (·.2))=ex.flatMap fun q=>(eO (ts.map (·.2))).map (q:: ·):=rfl
  rw[Oy,e0,List.countP_flatMap,yv,iP]
  congr 1
  refine pz fun q _=> ?_
  (try simp only[Function.comp])
  rw[List.countP_map]
  by_cases e:q=p
  ·rw[aJ e]
   have:((eO (ts.map (·.2))).countP ((fun c=>Px (n+1) ((((p,ex)::ts).map (·.1)).zip c))∘fun c=>q::c))=0:=by
    rw[List.countP_eq_zero]
    intro c _
    simp[Px,e]
   rw[this];rfl
  ·rw[aF e,AQ n (um p q ts) (by unfold um;simpa using hn),Eb]
   have e1:(um p q ts).map (·.2)=(ts.map (·.2)).map (·.map (Fs p q)):=by
    unfold um
    rw[iP,iP]
    rfl
   rw[e1,Ec,List.countP_map]
   congr 1
   refine List.countP_congr fun c _=> ?_
   (try simp only[Function.comp])
   rw[MF,bK,List.zip_cons_cons,Px]
   simp[e]
theorem Fu:∀(n:Nat)(l:List (Int×Int)),l.length=n->(l.map (·.1)).Nodup->(Px n l=true↔∃rk:Int->Nat,∀t,t∈l->t.2∈l.map (·.1)->rk t.2<rk t.1)
 |0,l,h,_=>by
  rw[pZ.1 h]
  exact⟨fun _=>⟨fun _=>0,fun t ht=>by simp at ht⟩,fun _=>rfl⟩
 |n+1,(p,q)::l,h,hd=>by
  have hn:l.length=n:=by simpa using h
  rw[bK,List.nodup_cons]at hd
  have ih:=Fu n (l.map fun t=>(t.1,Fs p q t.2)) (by simpa using hn) (by rw[iP];exact hd.2)
  have nm:(l.map fun t=>(t.1,Fs p q t.2)).map (·.1)=l.map (·.1):=by rw[iP];rfl
  rw[nm]at ih
  rw[Px,bD,ih]
  constructor
  ·rintro⟨hq,rk,H⟩
   have hq:¬q=p:=by simpa using hq
   refine⟨fun x=>if x=p then(if q∈l.map (·.1)then 2*rk q+3 else 1)else 2*rk x+2,fun t ht hm=> ?_⟩
   rcases aO.1 ht with rfl|ht
   ·show(if q=p then(if q∈l.map (·.1)then 2*rk q+3 else 1)else 2*rk q+2)<(if p=p then(if q∈l.map (·.1)then 2*rk q+3 else 1)else 2*rk p+2)
    have hm':q∈l.map (·.1):=by
     rw[bK]at hm
     rcases aO.1 hm with e|e
     ·exact absurd e hq
     ·exact e
    rw[aF hq,aJ rfl,aJ hm']
    omega
   ·have tp:t.1≠p:=fun e=>hd.1 (e▸dL.2 ⟨t,ht,rfl⟩)
    show(if t.2=p then(if q∈l.map (·.1)then 2*rk q+3 else 1)else 2*rk t.2+2)<(if t.1=p then(if q∈l.map (·.1)then 2*rk q+3 else 1)else 2*rk t.1+2)
    rw[aF tp]
    have H':=H (t.1,Fs p q t.2) (dL.2 ⟨t,ht,rfl⟩)
    (try simp only at H')
    by_cases e:t.2=p
    ·rw[aJ e]
     have er:Fs p q t.2=q:=by unfold Fs;rw[aJ e]
     rw[er]at H'
     by_cases c:q∈l.map (·.1)
     ·rw[aJ c];have:=H' c;omega
     ·rw[aF c];omega
    ·rw[aF e]
     have er:Fs p q t.2=t.2:=by unfold Fs;rw[aF e]
     rw[er]at H'
     rw[bK]at hm
     rcases aO.1 hm with a|a
     ·exact absurd a e
     ·have:=H' a;omega
  ·rintro⟨rk,H⟩
   have H0:=H (p,q) (cF ..)
   (try simp only at H0)
   refine⟨?_,rk,fun t ht hm=> ?_⟩
   ·have:¬q=p:=fun e=>by
     have:=H0 (by rw[bK,e];exact cF ..)
     rw[e]at this
     omega
    simpa using this
   ·obtain⟨u,hu,rfl⟩:=dL.1 ht
    (try simp only at hm⊢)
    have Hu:=H u (cO _ hu)
    rw[bK]at H0 Hu
    by_cases e:u.2=p
    ·have er:Fs p q u.2=q:=by unfold Fs;rw[aJ e]
     rw[er]at hm⊢
     have h1:=Hu (by rw[e];exact cF ..)
     have h2:=H0 (cO _ hm)
     rw[e]at h1
     omega
    ·have er:Fs p q u.2=u.2:=by unfold Fs;rw[aF e]
     rw[er]at hm⊢
     exact Hu (cO _ hm)
def Py(f:Int->Int)(sink:Int)(n:Nat):Nat->Nat->Int->Option Nat
 |0,_,_=>none
 |r+1,m,a=>if a=sink then some m else if f a<0\/n<m then none else Py f sink n r (m+1) (f a)
def Oz(g:aE)(rs:aH)(sink:Int):Nat->Option (aH)
 |0=>some []
 |i+1=>match Oz g rs sink i with
  |none=>none
  |some l=>match Py (nx g rs) sink g.length (g.length+3) 0 i with
   |none=>none
   |some m=>some (l++[(m:Int)])
def Ix(g:aE)(rs:aH)(sink:Int):Bool:=(Oz g rs sink g.length).isSome
theorem Iy{g:aE}{rs:aH}{sink:Int}{i:Nat}(h:Oz g rs sink i=none):∀m,Oz g rs sink (i+m)=none
 |0=>h
 |m+1=>by rw[<-kS,Oz,Iy h m]
theorem ZL{g:aE}{rs:aH}{sink:Int}{i n:Nat}(h:Oz g rs sink i=none)(hi:i<=n):Oz g rs sink n=none:=by
 have:=Iy h (n-i)
 rwa [show i+(n-i)=n by omega]at this
theorem VA{g:aE}{rs:aH}{sink:Int}(h:∀p:Nat,p<g.length->(Py (nx g rs) sink g.length (g.length+3) 0 p).isSome=true):Ix g rs sink=true:=by
 have:∀i,i<=g.length->(Oz g rs sink i).isSome=true:=by
  intro i
  induction i with
  |zero=>intro _;rfl
  |succ i ih=>
   intro hi
   have h1:=ih (by omega)
   have h2:=h i (by omega)
   rw[Oz]
   cases h3:Oz g rs sink i with
   |none=>rw[h3]at h1;cases h1
   |some l=>
    cases h4:Py (nx g rs) sink g.length (g.length+3) 0 i with
    |none=>rw[h4]at h2;cases h2
    |some m=>rfl
 exact this _ (aW _)
def Iz(n:Nat):aH:=(List.range n).map fun i:Nat=>(i:Int)
def wH(g:aE)(s:Int)(p:Nat):aH:=if(p:Int)=s\/(g.getD p []).length=0 then[0]else Iz (g.getD p []).length
def uo(g:aE)(s:Int):aE:=eO ((List.range g.length).map (wH g s))
def Fv(g:aE)(s:Int):aE:=(uo g s).filter fun rs=>Ix g rs s
def jF(s:Int)(p:Nat):Bool:= !decide ((p:Int)=s)
theorem lT{s:Int}{p:Nat}:jF s p=true↔(p:Int)≠s:=by unfold jF;simp
theorem wI{s:Int}{p:Nat}(e:(p:Int)=s):¬jF s p=true:=fun h=>lT.1 h e
theorem IA(s:Int)(n:Nat):(((List.range n).filter (jF s)).map fun p:Nat=>(p:Int)).Nodup:=by
 unfold List.Nodup
 rw[List.pairwise_map]
 exact(List.Pairwise.filter _ List.nodup_range).imp fun h e=>h (by omega)
def iy(g:aE)(s:Int):Tn:=((List.range g.length).filter (jF s)).map fun p:Nat=>((p:Int),g.getD p [])
theorem wJ{α:Type}:∀(cs:List (List α))(l:List α),l∈eO cs↔l.length=cs.length/\∀i(h1:i<l.length)(h2:i<cs.length),l[i]∈cs[i]
 |[],l=>by
  rw[eO,eZ]
  constructor
  ·rintro rfl;exact⟨rfl,fun i h1=>absurd h1 (by simp)⟩
  ·rintro⟨h,_⟩;exact pZ.1 h
 |c::cs,l=>by
  rw[eO,List.mem_flatMap]
  constructor
  ·rintro⟨x,hx,hl⟩
   obtain⟨m,hm,rfl⟩:=dL.1 hl
   obtain⟨h1,h2⟩:=(wJ cs m).1 hm
   refine⟨by simp[h1],fun i a b=> ?_⟩
   cases i with
   |zero=>exact hx
   |succ i=>exact h2 i (by simpa using a) (by simpa using b)
  ·rintro⟨h1,h2⟩
   cases l with
   |nil=>simp at h1
   |cons x m=>
    refine⟨x,h2 0 (by simp) (by simp),dL.2 ⟨m,(wJ cs m).2 ⟨by simpa using h1,fun i a b=> ?_⟩,rfl⟩⟩
    exact h2 (i+1) (by simpa using a) (by simpa using b)
theorem Rc{n:Nat}{x:Int}:x∈Iz n↔0<=x/\x<(n:Int):=by
 unfold Iz
 rw[dL]
 constructor
 ·rintro⟨i,hi,rfl⟩
  rw[ku]at hi
  omega
 ·rintro⟨h0,h1⟩
  exact⟨x.toNat,ku.2 (by omega),by omega⟩
theorem Re{g:aE}{s:Int}{rs:aH}(hg:aZ g=true){a:Int}(h0:0<=a)(h1:a<(g.length:Int))(h:rs∈uo g s):iT g (rs,a)/\(0<=s->rs.getD s.toNat 0=0):=by
 obtain⟨e1,e2⟩:=(wJ _ _).1 h
 rw[bG,gj]at e1
 have e3:∀i(h:i<rs.length),rs[i]∈wH g s i:=fun i hi=>by
  have:=e2 i hi (by rw[bG,gj];omega)
  rw[cK,kR]at this
  exact this
 refine⟨⟨hg,e1,h0,h1,fun i hi jM=> ?_⟩,fun hs=> ?_⟩
 ·have:=e3 i hi
  unfold wH at this
  rw[bH jM]at this
  (try simp only)
  split at this
  ·rw[eZ]at this
   (try simp only at this)
   omega
  ·have:=Rc.1 this
   (try simp only at this)
   omega
 ·by_cases hh:s.toNat<rs.length
  ·have:=e3 s.toNat hh
   unfold wH at this
   rw[aJ (.inl (by omega)),eZ]at this
   rw[bB hh,this]
  ·rw[eG,List.getElem?_eq_none (by omega)];rfl
theorem Ed{g:aE}{rs:aH}{s p:Int}{n:Nat}:∀(r m j:Nat),(Py (nx g rs) s n r m (eA g rs p j)).isSome=true->∃k,eA g rs p k=s
 |0,m,j,h=>by rw[Py]at h;cases h
 |r+1,m,j,h=>by
  rw[Py]at h
  by_cases e:eA g rs p j=s
  ·exact⟨j,e⟩
  ·rw[aF e]at h
   split at h
   ·cases h
   ·exact Ed r (m+1) (j+1) h
theorem Ee{g:aE}{rs:aH}{s p:Int}{n:Nat}(hs:0<=s):∀(k r m j:Nat),eA g rs p (j+k)=s->m+k<=n+1->k<r->(Py (nx g rs) s n r m (eA g rs p j)).isSome=true
 |k,0,m,j,_,_,h=>by omega
 |k,r+1,m,j,h,h1,h2=>by
  rw[Py]
  by_cases e:eA g rs p j=s
  ·rw[aJ e];rfl
  ·rw[aF e]
   cases k with
   |zero=>exact absurd h e
   |succ k=>
    have h3:¬nx g rs (eA g rs p j)<0:=fun hh=>by
     have:eA g rs p (j+1)<0:=hh
     have:=iA (m:=j+(k+1)) this (by omega)
     omega
    rw[aF (by omega)]
    exact Ee hs k r (m+1) (j+1) (by rw[show j+1+k=j+(k+1) by omega];exact h) (by omega) (by omega)
theorem OA{g:aE}{rs:aH}{a s p:Int}(W:iT g (rs,a))(h0:0<=p)(h1:p<(g.length:Int))(hs:0<=s){k:Nat}(h:eA g rs p k=s):∃m,m<g.length/\eA g rs p m=s:=by
 by_cases hn:eA g rs p g.length<0
 ·refine⟨k,Nat.not_le.1 fun hh=> ?_,h⟩
  have:=iA hn hh
  omega
 ·obtain⟨i,d,e1,e2,e3⟩:=vm W h0 h1 (by omega)
  by_cases hk:k<g.length
  ·exact⟨k,hk,h⟩
  ·have:=zq e3 (k-i)
   rw[show i+(k-i)=k by omega,h]at this
   have:=j9 (k-i) (show 0<d by omega)
   exact⟨i+(k-i)%d,by omega,by omega⟩
theorem Ef{g:aE}{rs:aH}{a s:Int}(W:iT g (rs,a))(hs:0<=s):Ix g rs s=true↔∀p:Nat,p<g.length->∃k,eA g rs p k=s:=by
 constructor
 ·intro h p hp
  have:(Py (nx g rs) s g.length (g.length+3) 0 (eA g rs p 0)).isSome=true:=by
   show(Py (nx g rs) s g.length (g.length+3) 0 p).isSome=true
   cases hh:Py (nx g rs) s g.length (g.length+3) 0 p with
   |some m=>rfl
   |none=>
    exfalso
    have e1:Oz g rs s (p+1)=none:=by
     rw[Oz]
     cases Oz g rs s p with
     |none=>rfl
     |some l=>(try simp only);rw[hh]
    unfold Ix at h
    rw[ZL e1 (by omega)]at h
    cases h
  exact Ed _ _ _ this
 ·intro h
  refine VA fun p hp=> ?_
  obtain⟨k,hk⟩:=h p hp
  obtain⟨m,hm,e⟩:=OA W (p:=(p:Int)) (by omega) (by omega) hs hk
  exact Ee (p:=(p:Int)) hs m _ 0 0 (by rw[iO];exact e) (by omega) (by omega)
def jc(g:aE)(s:Int)(ps:List Nat)(rs:aH):List (Int×Int):=((ps.zip rs).filter fun t=>jF s t.1).map fun t=>((t.1:Int),(g.getD t.1 []).getD t.2.toNat 0)
theorem MG{g:aE}{s:Int}{p:Nat}(e:(p:Int)≠s)(r:Int)(ps:List Nat)(rs:aH):jc g s (p::ps) (r::rs)=((p:Int),(g.getD p []).getD r.toNat 0)::jc g s ps rs:=by
 unfold jc
 rw[List.zip_cons_cons,rD (p:=fun t:Nat×Int=>jF s t.1) (a:=(p,r)) (lT.2 e),bK]
theorem MH{g:aE}{s:Int}{p:Nat}(e:(p:Int)=s)(r:Int)(ps:List Nat)(rs:aH):jc g s (p::ps) (r::rs)=jc g s ps rs:=by
 unfold jc
 rw[List.zip_cons_cons,p4 (p:=fun t:Nat×Int=>jF s t.1) (a:=(p,r)) (wI e)]
theorem VC(ex:aH):(Iz ex.length).map (fun k=>ex.getD k.toNat 0)=ex:=by
 apply j8
 ·simp[Iz]
 ·intro i h1 h2
  simp only[Iz,cK,kR]
  rw[show((i:Nat):Int).toNat=i by omega,bB h2]
theorem MI(g:aE)(s:Int):∀ps:List Nat,(∀p,p∈ps->(p:Int)≠s->(g.getD p []).length≠0)->
 (eO (ps.map (wH g s))).map (fun rs=>(jc g s ps rs).map (·.2))=eO ((ps.filter (jF s)).map fun p:Nat=>g.getD p [])
 |[],_=>rfl
 |p::ps,h=>by
  have ih:=MI g s ps fun q hq=>h q (cO _ hq)
  rw[bK,eO,List.map_flatMap]
  by_cases e:(p:Int)=s
  ·have hc:wH g s p=[0]:=by unfold wH;rw[aJ (.inl e)]
   rw[hc,p4 (wI e),<-ih,List.flatMap_cons,List.flatMap_nil,jb,iP]
   refine pz fun rs _=> ?_
   (try simp only[Function.comp])
   rw[MH e]
  ·have hc:wH g s p=Iz (g.getD p []).length:=by
    unfold wH
    rw[aF fun hh=>by
     rcases hh with hh|hh
     ·exact e hh
     ·exact h p (cF ..) e hh]
   rw[hc,rD (lT.2 e),bK,eO,<-ih]
   have:∀l:aH,(l.flatMap fun x=>((eO (ps.map (wH g s))).map (x:: ·)).map fun rs=>(jc g s (p::ps) rs).map (·.2))=(l.map fun k=>(g.getD p []).getD k.toNat 0).flatMap fun x=>((eO (ps.map (wH g s))).map fun rs=>(jc g s ps rs).map (·.2)).map (x:: ·):=by
    intro l
    rw[List.flatMap_map]
    congr 1
    funext x
    rw[iP,iP]
    refine pz fun rs _=> ?_
    (try simp only[Function.comp])
    rw[MG e,bK]
   rw[this,VC]
theorem sJ(g:aE)(s:Int):∀(ps:List Nat)(rs:aH),rs.length=ps.length->(jc g s ps rs).map (·.1)=(ps.filter (jF s)).map fun p:Nat=>(p:Int)
 |[],rs,h=>by simp[jc]
 |p::ps,[],h=>by simp at h
 |p::ps,r::rs,h=>by
  have ih:=sJ g s ps rs (by simpa using h)
  by_cases e:(p:Int)=s
  ·rw[MH e,p4 (wI e)]
   exact ih
  ·rw[MG e,rD (lT.2 e),bK,bK,ih]
theorem MJ{g:aE}{s:Int}{rs:aH}(h:rs.length=g.length){t:Int×Int}:t∈jc g s (List.range g.length) rs↔∃p:Nat,p<g.length/\(p:Int)≠s/\t=((p:Int),(g.getD p []).getD (rs.getD p 0).toNat 0):=by
 unfold jc
 rw[dL]
 constructor
 ·rintro⟨u,hu,rfl⟩
  rw[sK]at hu
  obtain⟨i,hi,e⟩:=wD hu.1
  rw[List.length_zip,gj]at hi
  rw[List.getElem_zip,kR]at e
  have hir:i<rs.length:=by have:=Nat.min_le_right g.length rs.length;omega
  refine⟨i,by omega,?_,?_⟩
  ·have:=hu.2
   rw[<-e]at this
   exact lT.1 this
  ·rw[<-e]
   (try simp only)
   rw[bB hir]
 ·rintro⟨p,hp,fL,rfl⟩
  refine⟨(p,rs.getD p 0),sK.2 ⟨?_,lT.2 fL⟩,rfl⟩
  have hz:p<((List.range g.length).zip rs).length:=by rw[List.length_zip,gj];omega
  have:=bJ hz
  rw[List.getElem_zip,kR]at this
  rw[bB (by omega)]
  exact this
theorem OB{g:aE}{rs:aH}{s p:Int}:∀k,eA g rs p k=s->∃m,m<=k/\eA g rs p m=s/\∀j,j<m->eA g rs p j≠s:=by
 intro k
 induction k using Nat.strongRecOn with
 |ind k ih=>
  intro h
  by_cases hx:∃j,j<k/\eA g rs p j=s
  ·obtain⟨j,a,b⟩:=hx
   obtain⟨m,m1,m2⟩:=ih j a b
   exact⟨m,by omega,m2⟩
  ·exact⟨k,aW _,h,fun j hj e=>hx ⟨j,hj,e⟩⟩
theorem AR{g:aE}{rs:aH}(p:Int):∀k,eA g rs (nx g rs p) k=eA g rs p (k+1)
 |0=>rfl
 |k+1=>by rw[eA,AR p k];rfl
theorem VD{g:aE}{s a:Int}{rs:aH}(W:iT g (rs,a))(h0:0<=s)(h1:s<(g.length:Int))(fL:∀p:Nat,p<g.length->(p:Int)≠s->(g.getD p []).length≠0):
 Px (jc g s (List.range g.length) rs).length (jc g s (List.range g.length) rs)=Ix g rs s:=by
 have hl:rs.length=g.length:=W.len
 have hn:(jc g s (List.range g.length) rs).map (·.1)=((List.range g.length).filter (jF s)).map fun p:Nat=>(p:Int):=sJ g s _ _ (by rw[gj];exact hl)
 have nd:((jc g s (List.range g.length) rs).map (·.1)).Nodup:=by
  rw[hn]
  exact IA s _
 have nm:∀x:Int,x∈(jc g s (List.range g.length) rs).map (·.1)↔0<=x/\x<(g.length:Int)/\x≠s:=fun x=>by
  rw[hn,dL]
  constructor
  ·rintro⟨p,hp,rfl⟩
   rw[sK,ku]at hp
   have:=lT.1 hp.2
   omega
  ·rintro⟨a,b,c⟩
   exact⟨x.toNat,sK.2 ⟨ku.2 (by omega),lT.2 (by omega)⟩,by omega⟩
 have nxe:∀p:Nat,p<g.length->(p:Int)≠s->(g.getD p []).getD (rs.getD p 0).toNat 0=nx g rs p/\0<=nx g rs p/\nx g rs p<(g.length:Int):=fun p hp ti=>by
  have a1:=fL p hp ti
  obtain⟨hr,hm,h2,e⟩:=zp W (p:=(p:Int)) (by omega) (by omega) (by rw[bH hp]at a1;exact a1)
  have hm':=(bL W.cD (bJ (show(p:Int).toNat<g.length by omega))).2 _ (bJ hm)
  refine⟨?_,by rw[e];omega,by rw[e];omega⟩
  unfold nx
  rw[aF (by omega),show((p:Nat):Int).toNat=p by omega,aF a1]
 rw[Bool.eq_iff_iff,Fu _ _ rfl nd,Ef W h0]
 constructor
 ·rintro⟨rk,H⟩
  have:∀(n:Nat)(p:Nat),p<g.length->rk p<n->∃k,eA g rs p k=s:=by
   intro n
   induction n with
   |zero=>intro p _ h;omega
   |succ n ih=>
    intro p hp hk
    by_cases e:(p:Int)=s
    ·exact⟨0,e⟩
    ·obtain⟨x1,x2,x3⟩:=nxe p hp e
     by_cases e2:nx g rs p=s
     ·exact⟨1,e2⟩
     ·have:=H _ ((MJ hl).2 ⟨p,hp,e,rfl⟩) (by(try simp only);rw[x1];exact(nm _).2 ⟨x2,x3,e2⟩)
      (try simp only at this)
      rw[x1]at this
      obtain⟨k,Ua⟩:=ih (nx g rs p).toNat (by omega) (by rw[show(((nx g rs p).toNat:Nat):Int)=nx g rs p by omega];omega)
      rw[show(((nx g rs p).toNat:Nat):Int)=nx g rs p by omega,AR]at Ua
      exact⟨k+1,Ua⟩
  exact fun p hp=>this _ p hp (pL _)
 ·intro H
  have hf:∀p:Int,∃m:Nat,0<=p->p<(g.length:Int)->eA g rs p m=s/\∀j,j<m->eA g rs p j≠s:=fun p=>by
   by_cases hp:0<=p/\p<(g.length:Int)
   ·obtain⟨k,hk⟩:=H p.toNat (by omega)
    rw[show((p.toNat:Nat):Int)=p by omega]at hk
    obtain⟨m,_,m2⟩:=OB k hk
    exact⟨m,fun _ _=>m2⟩
   ·exact⟨0,fun a b=>absurd ⟨a,b⟩ hp⟩
  refine⟨fun p=>Classical.choose (hf p),fun t ht hm=> ?_⟩
  obtain⟨p,hp,ti,rfl⟩:=(MJ hl).1 ht
  obtain⟨x1,x2,x3⟩:=nxe p hp ti
  (try simp only at hm⊢)
  rw[x1]at hm⊢
  obtain⟨a1,a2⟩:=zd (hf (nx g rs p)) x2 x3
  obtain⟨b1,b2⟩:=zd (hf (p:Int)) (by omega) (by omega)
  revert a1 a2 b1 b2
  generalize Classical.choose (hf (nx g rs p))=u
  generalize Classical.choose (hf (p:Int))=v
  intro a1 a2 b1 b2
  cases v with
  |zero=>exact absurd b1 ti
  |succ v=>
   rw[<-AR]at b1
   refine Nat.not_le.1 fun hh=> ?_
   exact a2 v (by omega) b1
theorem prod_nil{α:Type}:∀cs:List (List α),[]∈cs->eO cs=[]
 |[],h=>by simp at h
 |c::cs,h=>by
  rw[eO]
  rcases aO.1 h with h|h
  ·rw[<-h];rfl
  ·rw[prod_nil cs h]
   simp
theorem IB{g:aE}{s:Int}(hg:aZ g=true)(h0:0<=s)(h1:s<(g.length:Int)):((Fv g s).length:Int)=dT (g.length-1) (j6 (iy g s)):=by
 have hl:(iy g s).length=g.length-1:=by
  unfold iy
  rw[bG]
  have:∀n:Nat,((List.range n).filter (jF s)).length=if s.toNat<n then n-1 else n:=by
   intro n
   induction n with
   |zero=>rfl
   |succ n ih=>
    rw[pS,wK,cB,ih]
    by_cases e:(n:Int)=s
    ·rw[p4 (wI e),aF (by omega),aJ (by omega)];simp
    ·rw[rD (lT.2 e)]
     by_cases c:s.toNat<n
     ·rw[aJ c,aJ (by omega)];simp;omega
     ·rw[aF c,aF (by omega)];simp
  rw[this,aJ (by omega)]
 have nd:((iy g s).map (·.1)).Nodup:=by
  unfold iy
  rw[iP]
  exact IA s _
 rw[Ft _ _ hl nd,AQ _ _ hl]
 congr 1
 unfold Fv
 rw[<-List.countP_eq_length_filter]
 have ex:(iy g s).map (·.2)=((List.range g.length).filter (jF s)).map fun p:Nat=>g.getD p []:=by
  unfold iy
  rw[iP]
  rfl
 have en:(iy g s).map (·.1)=((List.range g.length).filter (jF s)).map fun p:Nat=>(p:Int):=by
  unfold iy
  rw[iP]
  rfl
 by_cases fL:∀p:Nat,p<g.length->(p:Int)≠s->(g.getD p []).length≠0
 ·rw[ex,<-MI g s (List.range g.length) fun p hp=>fL p (ku.1 hp),List.countP_map]
  show(uo g s).countP _=(uo g s).countP _
  refine List.countP_congr fun rs VE=> ?_
  (try simp only[Function.comp])
  have W:=(Re (a:=s) hg h0 h1 VE).1
  have hrl:rs.length=g.length:=W.len
  rw[en,<-sJ g s (List.range g.length) rs (by rw[gj];exact hrl)]
  have hz:((jc g s (List.range g.length) rs).map (·.1)).zip ((jc g s (List.range g.length) rs).map (·.2))=jc g s (List.range g.length) rs:=by
   generalize jc g s (List.range g.length) rs=l
   induction l with
   |nil=>rfl
   |cons a l ih=>rw[bK,bK,List.zip_cons_cons,ih]
  have hlen:(jc g s (List.range g.length) rs).length=g.length-1:=by
   have:=congrArg List.length (sJ g s (List.range g.length) rs (by rw[gj];exact hrl))
   rw[bG]at this
   rw[this,<-en,bG,hl]
  rw[hz,<-hlen,VD W h0 h1 fL]
 ·have:∃p:Nat,p<g.length/\(p:Int)≠s/\(g.getD p []).length=0:=by
   refine Classical.byContradiction fun hh=>fL fun p hp ti hz=>hh ⟨p,hp,ti,hz⟩
  obtain⟨p,hp,ti,hz⟩:=this
  have e1:eO ((iy g s).map (·.2))=[]:=by
   refine prod_nil _ ?_
   rw[ex,dL]
   exact⟨p,sK.2 ⟨ku.2 hp,lT.2 ti⟩,pZ.1 hz⟩
  rw[e1,List.countP_nil,List.countP_eq_zero]
  intro rs VE hh
  have W:=(Re (a:=s) hg h0 h1 VE).1
  obtain⟨k,hk⟩:=(Ef W h0).1 hh p hp
  cases k with
  |zero=>exact ti hk
  |succ k=>
   have:eA g rs p 1<0:=by
    show nx g rs p<0
    unfold nx
    rw[aF (by omega),show((p:Nat):Int).toNat=p by omega,aJ hz]
    omega
   have:=iA this (show 1<=k+1 by omega)
   omega
def Way(g:aE)(p:Int):Nat->Int->Prop
 |0,q=>p=q
 |k+1,q=>∃x,Way g p k x/\q∈g.getD x.toNat []
theorem Way.rng{g:aE}(hg:aZ g=true){p:Int}(h0:0<=p)(h1:p<(g.length:Int)):∀{k:Nat}{q:Int},Way g p k q->0<=q/\q<(g.length:Int)
 |0,q,h=>by rw[<-show p=q from h];exact⟨h0,h1⟩
 |k+1,q,h=>by
  obtain⟨x,hx,hq⟩:=h
  have hr:=Way.rng hg h0 h1 hx
  rw[bH (by omega)]at hq
  exact(bL hg (bJ (show x.toNat<g.length by omega))).2 q hq
theorem nc{l:aH}{i j:Nat}{v:Int}(hi:i<l.length):(l.set i v).getD j 0=if i=j then v else l.getD j 0:=by
 rw[eG,wL,eG]
 by_cases h:i=j
 ·subst h;simp[hi]
 ·simp[h]
structure BIn(x:Int)(qs eB:aH)(fq new:aH):Prop where
 len:fq.length=eB.length
 uU:∀y:Nat,0<=eB.getD y 0->fq.getD y 0=eB.getD y 0
 ZM:∀y:Nat,eB.getD y 0<0->fq.getD y 0=eB.getD y 0\/fq.getD y 0=eB.getD x.toNat 0+1/\(y:Int)∈qs/\(y:Int)∈new
 met:∀y,y∈qs->0<=fq.getD y.toNat 0
 nw:∀z,z∈new->z∈qs/\fq.getD z.toNat 0=eB.getD x.toNat 0+1
 cnt:new.length+kH fq=kH eB
theorem uq(x:Int):∀(qs eB out:aH),(∀q,q∈qs->0<=q/\q<(eB.length:Int))->0<=eB.getD x.toNat 0->∃fq new,nQ x qs (eB,out)=(fq,out++new)/\BIn x qs eB fq new
 |[],eB,out,_,_=>⟨eB,[],by rw[nQ,jb],rfl,fun _ _=>rfl,fun _ _=> .inl rfl,fun y hy=>by simp at hy,fun z hz=>by simp at hz,by simp⟩
 |q::qs,eB,out,hr,hx=>by
  have hq:=hr q cF
  rw[nQ]
  by_cases hn:eB.getD q.toNat 0<0
  ·rw[aJ hn]
   simp only
   have hqx:q.toNat≠x.toNat:=fun e=>by rw[e]at hn;omega
   have gx:(eB.set q.toNat (eB.getD x.toNat 0+1)).getD x.toNat 0=eB.getD x.toNat 0:=by rw[nc (by omega),aF hqx]
   obtain⟨fq,new,e,B⟩:=uq x qs (eB.set q.toNat (eB.getD x.toNat 0+1)) (out++[q]) (fun r h=>by rw[bY];exact hr r (cO _ h)) (by rw[gx];exact hx)
   have hc:=AM (l:=eB) (i:=q.toNat) (v:=eB.getD x.toNat 0+1) (by omega) (by rw[<-bB (by omega)];exact hn) (by omega)
   have hqf:fq.getD q.toNat 0=eB.getD x.toNat 0+1:=by
    have:=B.uU q.toNat (by rw[nc (by omega),aJ rfl];omega)
    rw[this,nc (by omega),aJ rfl]
   refine⟨fq,q::new,by rw[e,gX];rfl,by rw[B.len,bY],fun y hy=> ?_,fun y hy=> ?_,fun y hy=> ?_,fun z hz=> ?_,by have:=B.cnt;simp only[List.length_cons];omega⟩
   ·have fL:q.toNat≠y:=fun e=>by rw[e]at hn;omega
    have:=B.uU y (by rw[nc (by omega),aF fL];exact hy)
    rw[this,nc (by omega),aF fL]
   ·by_cases fL:q.toNat=y
    ·subst fL
     refine .inr ⟨hqf,?_,?_⟩<;>rw[show((q.toNat:Nat):Int)=q by omega]<;>exact cF
    ·have g1:(eB.set q.toNat (eB.getD x.toNat 0+1)).getD y 0=eB.getD y 0:=by rw[nc (by omega),aF fL]
     rcases B.ZM y (by rw[g1];exact hy)with h|⟨h1,h2,h3⟩
     ·exact .inl (h.trans g1)
     ·exact .inr ⟨by rw[h1,gx],cO _ h2,cO _ h3⟩
   ·rcases aO.1 hy with rfl|hy
    ·rw[hqf];omega
    ·exact B.met y hy
   ·rcases aO.1 hz with rfl|hz
    ·exact⟨cF,hqf⟩
    ·have:=B.nw z hz
     exact⟨cO _ this.1,by rw[this.2,gx]⟩
  ·rw[aF hn]
   obtain⟨fq,new,e,B⟩:=uq x qs eB out (fun r h=>hr r (cO _ h)) hx
   refine⟨fq,new,e,B.len,B.uU,fun y hy=> ?_,fun y hy=> ?_,fun z hz=>⟨cO _ (B.nw z hz).1,(B.nw z hz).2⟩,B.cnt⟩
   ·rcases B.ZM y hy with h|⟨h1,h2,h3⟩
    ·exact .inl h
    ·exact .inr ⟨h1,cO _ h2,h3⟩
   ·rcases aO.1 hy with rfl|hy
    ·rw[B.uU _ (by omega)];omega
    ·exact B.met y hy
structure BQ(g:aE)(p:Int)(eB qu:aH):Prop where
 len:eB.length=g.length
 way:∀y:Nat,y<g.length->0<=eB.getD y 0->Way g p (eB.getD y 0).toNat y
 lo:∀y:Nat,-1<=eB.getD y 0
 qin:∀x,x∈qu->0<=x/\x<(g.length:Int)/\0<=eB.getD x.toNat 0
 ord:qu.Pairwise fun a b=>eB.getD a.toNat 0<=eB.getD b.toNat 0
 top:∀x r,qu=x::r->∀y:Nat,y<g.length->eB.getD y 0<=eB.getD x.toNat 0+1
 done:∀x:Nat,x<g.length->0<=eB.getD x 0->(x:Int)∈qu\/∀y,y∈g.getD x []->0<=eB.getD y.toNat 0/\eB.getD y.toNat 0<=eB.getD x 0+1
 home:eB.getD p.toNat 0=0
 hi:∀y:Nat,y<g.length->eB.getD y 0+kH eB<g.length
theorem IC{g:aE}(hg:aZ g=true){p:Int}:∀(f:Nat)(eB qu:aH),BQ g p eB qu->qu.length+kH eB<=f->BQ g p (Fl g f eB qu) []
 |0,eB,qu,B,h=>by
  have:qu=[]:=pG (by omega)
  subst this
  exact B
 |f+1,eB,[],B,h=>B
 |f+1,eB,x::rest,B,h=>by
  have hx:=B.qin x cF
  have Pv:x.toNat<g.length:=by omega
  have hq:∀q,q∈g.getD x.toNat []->0<=q/\q<(eB.length:Int):=fun q hq=>by
   rw[bH Pv]at hq
   rw[B.len]
   exact(bL hg (bJ Pv)).2 q hq
  obtain⟨fq,new,e,C⟩:=uq x (g.getD x.toNat []) eB [] hq hx.2.2
  rw[Fl,e]
  simp only[List.nil_append]
  have gx:fq.getD x.toNat 0=eB.getD x.toNat 0:=C.uU _ hx.2.2
  have ape:∀y:Nat,0<=eB.getD y 0->fq.getD y 0=eB.getD y 0:=C.uU
  have hle:∀y:Nat,y<g.length->fq.getD y 0<=eB.getD x.toNat 0+1:=fun y hy=>by
   by_cases h0:0<=eB.getD y 0
   ·rw[C.uU y h0];exact B.top x rest rfl y hy
   ·rcases C.ZM y (by omega)with h|⟨h,_⟩
    ·rw[h];omega
    ·omega
  have ID:∀z,z∈rest->fq.getD z.toNat 0=eB.getD z.toNat 0:=fun z hz=>C.uU _ (B.qin z (cO _ hz)).2.2
  obtain⟨o1,o2⟩:=List.pairwise_cons.1 B.ord
  refine IC hg f fq (rest++new) ⟨by rw[C.len,B.len],fun y hy h0=> ?_,fun y=> ?_,fun z hz=> ?_,?_,fun z r hz y hy=> ?_,fun y hy h0=> ?_,?_,fun y hy=> ?_⟩ ?_
  ·by_cases h1:0<=eB.getD y 0
   ·rw[C.uU y h1];exact B.way y hy h1
   ·rcases C.ZM y (by omega)with h|⟨h,h2,_⟩
    ·rw[h]at h0;omega
    ·rw[h,show(eB.getD x.toNat 0+1).toNat=(eB.getD x.toNat 0).toNat+1 by omega]
     refine⟨x,?_,h2⟩
     have:=B.way x.toNat Pv hx.2.2
     rwa [show((x.toNat:Nat):Int)=x by omega]at this
  ·by_cases h1:0<=eB.getD y 0
   ·rw[C.uU y h1];omega
   ·have:=B.lo y
    rcases C.ZM y (by omega)with h|⟨h,_⟩<;>omega
  ·rcases gI.1 hz with hz|hz
   ·have:=B.qin z (cO _ hz)
    exact⟨this.1,this.2.1,by rw[ID z hz];exact this.2.2⟩
   ·have a:=C.nw z hz
    have b:=hq z a.1
    rw[B.len]at b
    exact⟨b.1,b.2,by rw[a.2];omega⟩
  ·rw[List.pairwise_append]
   refine⟨o2.imp_of_mem fun{a b} ha hb hab=>by rw[ID a ha,ID b hb];exact hab,?_,fun a ha b hb=> ?_⟩
   ·rw[List.pairwise_iff_getElem]
    intro i j hi hj _
    rw[(C.nw _ (bJ hi)).2,(C.nw _ (bJ hj)).2]
    omega
   ·rw[ID a ha,(C.nw b hb).2]
    have:=B.qin a (cO _ ha)
    exact B.top x rest rfl a.toNat (by omega)
  ·have hz1:eB.getD x.toNat 0<=fq.getD z.toNat 0:=by
    have hzm:z∈rest++new:=by rw[hz];exact cF
    rcases gI.1 hzm with h|h
    ·rw[ID z h];exact o1 z h
    ·rw[(C.nw z h).2];omega
   have:=hle y hy
   omega
  ·by_cases hyx:(y:Int)=x
   ·refine .inr fun z hz=> ?_
    have amD:y=x.toNat:=by omega
    rw[amD]at hz⊢
    have:=hq z hz
    rw[B.len]at this
    exact⟨C.met z hz,by rw[gx];exact hle z.toNat (by omega)⟩
   ·by_cases h1:0<=eB.getD y 0
    ·rcases B.done y hy h1 with h|h
     ·rcases aO.1 h with h|h
      ·exact absurd h hyx
      ·exact .inl (gI.2 (.inl h))
     ·refine .inr fun z hz=> ?_
      obtain⟨a,b⟩:=h z hz
      rw[C.uU _ a,C.uU _ h1]
      exact⟨a,b⟩
    ·rcases C.ZM y (by omega)with h|⟨_,_,h⟩
     ·rw[h]at h0;omega
     ·exact .inl (gI.2 (.inr h))
  ·rw[C.uU _ (by rw[B.home];omega)];exact B.home
  ·have hc:=C.cnt
   by_cases h1:0<=eB.getD y 0
   ·rw[C.uU y h1];have:=B.hi y hy;omega
   ·rcases C.ZM y (by omega)with h|⟨h,_,h3⟩
    ·rw[h];have:=B.hi y hy;omega
    ·have:=List.length_pos_of_mem h3
     have:=B.hi x.toNat Pv
     rw[h];omega
  ·have:=C.cnt
   simp only[List.length_cons,cB]at*
   omega
theorem KH{g:aE}(hg:aZ g=true){p:Int}(h0:0<=p)(h1:p<(g.length:Int)):BQ g p (iR g p) []:=by
 obtain⟨b1,b2⟩:=Zx (n:=g.length) (p:=p.toNat) (by omega)
 have gd:∀y:Nat,((List.replicate g.length (-1:Int)).set p.toNat 0).getD y 0=if p.toNat=y then 0 else if y<g.length then-1 else 0:=fun y=>by
  rw[nc (by simp;omega)]
  split
  ·rfl
  ·rw[eG,List.getElem?_replicate];split<;>rfl
 refine IC hg g.length _ [p] ⟨by simp,fun y hy h=> ?_,fun y=> ?_,fun x hx=> ?_,by simp,fun x r hx y hy=> ?_,fun x hx h=> ?_,?_,fun y hy=> ?_⟩ (by simp only[List.length_cons,List.length_nil];omega)
 ·rw[gd]at h⊢
  split at h
  ·rename_i e
   rw[aJ e]
   show p=(y:Int)
   omega
  ·simp at h
 ·rw[gd];split
  ·omega
  ·split<;>omega
 ·simp only[aO,aR,aN]at hx
  subst hx
  exact⟨h0,h1,by rw[gd,aJ rfl];omega⟩
 ·simp only[qZ]at hx
  rw[<-hx.1,gd,gd,aJ rfl]
  split
  ·omega
  ·(try split)<;>omega
 ·rw[gd]at h
  split at h
  ·exact .inl (by simp;omega)
  ·simp at h
 ·rw[gd,aJ rfl]
 ·rw[gd]
  split
  ·omega
  ·(try split)<;>omega
theorem KI{g:aE}(hg:aZ g=true){p:Int}(h0:0<=p)(h1:p<(g.length:Int)):∀{k:Nat}{q:Int},Way g p k q->0<=(iR g p).getD q.toNat 0/\(iR g p).getD q.toNat 0<=k
 |0,q,h=>by rw[<-show p=q from h,(KH hg h0 h1).home];omega
 |k+1,q,h=>by
  obtain⟨x,hx,hq⟩:=h
  obtain⟨a,b⟩:=KI hg h0 h1 hx
  have hr:=hx.rng hg h0 h1
  rcases(KH hg h0 h1).done x.toNat (by omega) a with c|c
  ·simp at c
  ·have:=c q hq
   omega
theorem zw{g:aE}(hg:aZ g=true){p q:Int}(h0:0<=p)(h1:p<(g.length:Int))(q0:0<=q)(q1:q<(g.length:Int))(h:0<=(iR g p).getD q.toNat 0):Way g p ((iR g p).getD q.toNat 0).toNat q:=by
 have:=(KH hg h0 h1).way q.toNat (by omega) h
 rwa [show((q.toNat:Nat):Int)=q by omega]at this
@[reducible] def Ub:TypeId:=52
theorem Uc:qw aC Ub=some (9,1,16,[VS (⟨#[]⟩:ByteArray)]):=by kernel_rfl
theorem VF(xs:List ByteArray):(xs.map VS).all gW=true:=by simp[js,gW]
@[reducible] def MK(h:Heap)(F:aK)(s:Sl)(xs:List ByteArray):Prop:=Ow h F 9 1 s (xs.map VS)
theorem KJ(g o j:Nat):(⟨g,o,none⟩:Addr).add j=⟨g,o+j,none⟩:=by
 unfold Addr.add
 by_cases h:j=0<;>simp[h]
theorem ML(w:World)(a:Addr):w.cell? a=bF w.heap a:=rfl
theorem fV(a b:List UInt8):((⟨a.toArray⟩:ByteArray)++(⟨b.toArray⟩:ByteArray))=⟨(a++b).toArray⟩:=by
 apply ByteArray.ext
 simp[ByteArray.data_append]
theorem cU(a:List UInt8):(⟨a.toArray⟩:ByteArray).size=a.length:=by simp[ByteArray.size]
theorem vt{n:Nat}(h:n<100):(Lib.decDigits n).length<=2:=by
 by_cases h1:n<10
 ·rw[Lib.decDigits_one h1];simp
 ·rw[Lib.decDigits_two h1 h];simp
theorem AU:∀(xs:List (List UInt8)),(∀x,x∈xs->x.length<=2)->(Lib.join xs [44]).length<=3*xs.length
 |[],_=>by simp[Lib.join_nil]
 |x::r,h=>by
  rw[Lib.join_length]
  have:∀(l:List (List UInt8)),(∀x,x∈l->x.length<=2)->Lib.lens l<=2*l.length:=by
   intro l
   induction l with
   |nil=>intro _;simp[Lib.lens]
   |cons a l ih=>
    intro hl
    have h1:=ih fun y hy=>hl y (cO _ hy)
    have h2:=hl a (cF ..)
    simp only[Lib.lens,bK,List.sum_cons,List.length_cons]at h1⊢
    omega
  have:=this _ h
  simp only[List.length_cons,List.length_nil]at this⊢
  omega
def fh(rs:aH):List UInt8:=if rs.length=0 then[45]else Lib.join (rs.map fun x=>Lib.decDigits x.toNat) [44]
theorem wM{rs:aH}(h:∀x,x∈rs->0<=x/\x<100):(fh rs).length<=3*rs.length+1:=by
 unfold fh
 split
 ·simp
 ·have:=AU (rs.map fun x=>Lib.decDigits x.toNat) fun y hy=>by
   obtain⟨x,hx,rfl⟩:=dL.1 hy
   exact vt (by have:=h x hx;omega)
  rw[bG]at this
  omega
theorem Rf{h:Heap}{n:Int}(h0:0<=n)(h1:n<100)(K:aL)(HK:K (VS ⟨(Lib.decDigits n.toNat).toArray⟩) h):aG aC 92 #[VI n] h K:=by
 obtain⟨i,rfl⟩:∃i:Nat,n=(i:Int):=⟨n.toNat,by omega⟩
 refine⟨fun w hw=> .inr ⟨92,_,w,Go.Proofs.enters_of Tryz.func92 (by kernel_rfl) rfl _ _,rfl,?_⟩⟩
 subst hw
 refine(Tryz.strconv_Itoa_small i (by omega) w).mono ?_
 rintro e w' ⟨rfl,rfl⟩
 rw[Int.toNat_natCast]at HK
 exact⟨_,rfl,dV.refl _,HK⟩
theorem KK{S:aK}{h:Heap}{s:Sl}{ts:List ByteArray}{sep:ByteArray}(H:eC S h 1 s (ts.map VS))(fL:ts≠[])(hN:ts.length<=1000000)(hl:(Lib.join (ts.map (·.data.toList)) sep.data.toList).length<=1000000)(K:aL)(HK:∀h',Fr No h h'->K (VS ⟨(Lib.join (ts.map (·.data.toList)) sep.data.toList).toArray⟩) h'):aG aC 90 #[s.v,VS sep] h K:=by
 refine⟨fun w hw=> .inr ⟨90,_,w,Go.Proofs.enters_of Tryz.func90 (by kernel_rfl) rfl _ _,rfl,?_⟩⟩
 subst hw
 have hlen:=H.len
 simp only[bG,gL]at hlen
 have U5:=H.cap
 have amE:0<ts.length:=vo.2 fL
 obtain⟨a,ha,_,hc⟩:=eC.cell H 0 (by simpa using amE)
 have PT:a.spot=none:=by
  cases hs:a.spot with
  |none=>rfl
  |some sp=>exfalso;unfold bF at hc;simp[Addr.add,hs]at hc;split at hc<;>simp at hc
 obtain⟨g,o,q⟩:=a
 simp only at PT
 subst PT
 have hv:s.v= .slice (some ⟨g,o,none⟩) ts.length s.c:=by unfold Sl.v;rw[ha,hlen]
 rw[hv]
 refine(Tryz.strings_Join g o s.c ts sep w (fun j x hj=> ?_) ?_ (by omega) (by omega) (by omega)).mono ?_
 ·have Ky:j<ts.length:=(Af.1 hj).1
  obtain⟨a',NT,_,TP⟩:=eC.cell H j (by simp;omega)
  rw[ha]at NT
  cases NT
  rw[KJ]at TP
  rw[ML,TP]
  rw[dY Ky]at hj
  simp only[dC]at hj
  simp[hj]
 ·have:=oL hc;rw[mH]at this;exact this
 ·rintro e w' ⟨rfl,hb⟩
  exact⟨_,rfl,⟨hb.os,hb.tape,hb.output⟩,HK _ ⟨hb.size,fun k hk _=>hb.block k hk⟩⟩
theorem vu{L:List (Nat×List Value)}{F:aK}{h:Heap}{o:Sl}{xs:List ByteArray}{x:ByteArray}(O:MK h F o xs)(hF:∀k,h.size<=k->F k)(hL:Vars h L)(ks:∀p,p∈L->¬F p.1)(hb:xs.length<=1000000)(R:Sl->Heap->Prop)(HR:∀t h',MK h' F t (xs++[x])->Fr F h h'->Vars h' L->R t h'):lQ aC (Instr.buildSlice Ub 1 #[(0,VS x)]) h fun rv h1=>∃t:Sl,rv=t.v/\Vars h1 L/\lQ aC (cE Ub Ub Ub o.v t.v) h1 fun Fi h2=>∃t2:Sl,Fi=t2.v/\Vars h2 L/\R t2 h2:=by
 refine bE Uc (fun k=>h.size<=k) (fun _ h=>h) 1 (by omega) [VS x] rfl rfl fun t h1 n1 c1 o1 f1 m1 _=>⟨t,rfl,hL.aB f1,?_⟩
 have z1:=f1.size
 have O1:MK h1 F o xs:=Ow.no O f1
 have on:=O1.rd.len
 have tn:=o1.rd.len
 simp only[bG,gL,List.length_cons,List.length_nil]at on tn
 refine cP Uc O1 (fun k hk=>hF k (by omega)) o1.rd (VF [x]) (by omega) fun s' h2 n2 o2 f2 d2=> ?_
 have g2:Fr F h1 h2:=f2.mono fun k _ hk=>(O1.aS hk).1
 have V2:Vars h2 L:=(hL.aB f1).fr g2 ks
 exact⟨s',rfl,V2,HR s' h2 (by rw[MK,cV];exact o2) (f1.aB.trans g2) V2⟩
theorem AV{S:aK}{h:Heap}{s:Sl}{rs:aH}(H:bC S h s rs)(B:∀x,x∈rs->0<=x/\x<100)(hn:rs.length<=1000)(K:aL)(HK:∀h',Fr No h h'->K (VS ⟨(fh rs).toArray⟩) h'):aG aC 89 #[s.v] h K:=by
 have sn:=bC.len H
 refine v89 s h K ⟨fun e=> ?_,fun e=> ?_⟩
 ·simp only[aT]at e
  have:=HK h (Fr.refl _ _)
  unfold fh at this
  rw[aJ (by omega)]at this
  exact this
 simp only[aY]at e
 refine bE Uc (fun k=>h.size<=k) (fun _ h=>h) 0 (by omega) [] rfl rfl fun o h1 n1 c1 o1 f1 m1 _=>⟨o,rfl,.nil,?_⟩
 have z1:=f1.size
 have U9:MK h1 (fun k=>h.size<=k) o []:=o1
 have yw:∀{x:Heap},Fr (fun k=>h.size<=k) h x->Fr No h x:=fun f=>f.mono fun k hk aQ=>absurd aQ (by omega)
 refine⟨fun m x p h'=>0<=p/\p+m=(rs.length:Int)/\MK h' (fun k=>h.size<=k) x ((rs.take p.toNat).map fun y=>(⟨(Lib.decDigits y.toNat).toArray⟩:ByteArray))/\Fr (fun k=>h.size<=k) h h',⟨rs.length,by omega,by omega,by simpa using U9,f1.aB⟩,?_⟩
 rintro m x p h2 ⟨p0,p1,o2,f2⟩ cC
 have z2:=f2.size
 have H2:=H.no (yw f2)
 refine⟨fun e2=> ?_,fun e2=> ?_⟩
 ·have hp:=H2.lt e2
  have bx:=B _ (bJ (show p.toNat<rs.length by omega))
  refine⟨H2.bM p0 hp,_,H2.get p0 hp,Rf bx.1 bx.2 _ ⟨_,rfl,.nil,?_⟩⟩
  refine vu o2 (fun k hk=>by omega) .nil (fun q hq=>by cases hq) (by simp;omega) _ fun t h5 o5 f5 _=> ?_
  rw[H2.succ p0 hp]
  refine⟨m-1,by omega,by omega,by omega,?_,f2.trans f5⟩
  rw[show(p+1).toNat=p.toNat+1 by omega,wN,dY (show p.toNat<rs.length by omega)]
  rw[cV]
  exact o5
 ·have hp:=H2.ge e2
  rw[cT (by omega)]at o2
  have hm:((rs.map fun y=>(⟨(Lib.decDigits y.toNat).toArray⟩:ByteArray)).map (·.data.toList))=rs.map fun y=>Lib.decDigits y.toNat:=by simp
  have Zv:=AU (rs.map fun x=>Lib.decDigits x.toNat) fun y hy=>by
   obtain⟨x,hx,rfl⟩:=dL.1 hy
   exact vt (by have:=B x hx;omega)
  rw[bG]at Zv
  refine KK o2.fM (fun hh=>by have:=congrArg List.length hh;simp at this;simp[this]at sn;omega) (by simp;omega) (by rw[hm];show(Lib.join _ [44]).length<=_;omega) _ fun h3 f3=>⟨_,rfl,.nil,?_⟩
  have:=HK h3 ((yw f2).trans f3)
  unfold fh at this
  rw[aF (by omega)]at this
  rw[hm]
  exact this
theorem ZN:qw aC 22=some (5,1,1,[.int .u8 0]):=by kernel_rfl
theorem vv{F:aK}{h:Heap}{s:Sl}{x:Int}{bs:List UInt8}(H:eC F h 1 s [Value.int .u8 x])(hb:(strOfNums [x])=⟨bs.toArray⟩){K:Value->Prop}(HK:K (VS ⟨bs.toArray⟩)):CI aC (convert 22 9 s.v) h K:=by
 have hlen:=H.len
 simp only[List.length_cons,List.length_nil,gL]at hlen
 obtain⟨a,ha,_,hc⟩:=eC.cell H 0 (by simp)
 have PT:a.spot=none:=by
  cases hs:a.spot with
  |none=>rfl
  |some sp=>exfalso;unfold bF at hc;simp[Addr.add,hs]at hc;split at hc<;>simp at hc
 obtain⟨g,o,q⟩:=a
 simp only at PT
 subst PT
 have hv:s.v= .slice (some ⟨g,o,none⟩) 1 s.c:=by unfold Sl.v;rw[ha,<-hlen]
 refine⟨_,fun w hw=> ?_,HK⟩
 subst hw
 rw[hv,run_convert_bytes_arg w 22 5 (by kernel_rfl) (by kernel_rfl) g o 1 s.c [x] rfl (fun i hi=>by
  have:i=0:=by omega
  subst this
  rw[KJ]at hc
  rw[ML,hc]
  rfl) 9 (by kernel_rfl),hb]
theorem MM{h:Heap}{n:Int}(h0:0<=n)(h1:n<10)(K:aL)(HK:∀h',Fr No h h'->K (VS ⟨(Lib.decDigits n.toNat).toArray⟩) h'):aG aC 73 #[VI n] h K:=by
 refine v73 n h K ⟨fun e=> ?_,fun e=> ?_⟩
 ·rw[aP _ (by omega) (by omega)]
  refine jD (show Tryz.prog.underlying _=some (.int .i64)from by kernel_rfl) (show Tryz.prog.underlying _=some (.int .u8)from by kernel_rfl) (48+n) ⟨48+n,?_,?_⟩
  ·show Value.int .u8 (IntKind.u8.wrap (48+n))=_
   have:IntKind.u8.wrap (48+n)=48+n:=by
    show(48+n)%256=48+n
    omega
   rw[this]
  refine bE ZN (fun k=>h.size<=k) (fun _ h=>h) 1 (by omega) [.int .u8 (48+n)] rfl rfl fun w h6 n6 c6 o6 f6 m6 _=>⟨w,rfl,.nil,?_⟩
  refine vv (bs:=Lib.decDigits n.toNat) o6.fM ?_ ⟨_,rfl,HK h6 f6⟩
  rw[Lib.decDigits_one (show n.toNat<10 by omega)]
  apply ByteArray.ext
  apply Array.toList_inj.1
  rw[strOfNums_data]
  simp only[bK,iY,qZ,and_true]
  have:(48+n).toNat=48+n.toNat:=by omega
  rw[this]
 ·simp only[aY]at e
  omega
theorem ur(c:UInt8):∀(xs:List (List UInt8)),(∀x,x∈xs->x.length<=40)->(Lib.join xs [c]).length<=41*xs.length
 |[],_=>by simp[Lib.join_nil]
 |x::r,h=>by
  rw[Lib.join_length]
  have:∀(l:List (List UInt8)),(∀x,x∈l->x.length<=40)->Lib.lens l<=40*l.length:=by
   intro l
   induction l with
   |nil=>intro _;simp[Lib.lens]
   |cons a l ih=>
    intro hl
    have h1:=ih fun y hy=>hl y (cO _ hy)
    have h2:=hl a (cF ..)
    simp only[Lib.lens,bK,List.sum_cons,List.length_cons]at h1⊢
    omega
  have:=this _ h
  simp only[List.length_cons,List.length_nil]at this⊢
  omega
theorem OC(xs:List (List UInt8))(y sep:List UInt8):Lib.join (xs++[y]) sep=Lib.join xs sep++(if xs.length=0 then[]else sep)++y:=by
 cases xs with
 |nil=>simp[Lib.join_nil,Lib.join_one]
 |cons x r=>
  rw[List.cons_append,Lib.join_cons,Lib.join_cons]
  simp[Lib.joinTail]
theorem wO{α:Type}(f:α->List UInt8)(sep:List UInt8){xs:List α}{i:Nat}(hi:i<xs.length):Lib.join ((xs.take (i+1)).map f) sep=Lib.join ((xs.take i).map f) sep++(if i=0 then[]else sep)++f xs[i]:=by
 rw[wN,dY hi,Option.toList_some,cV,bK,iY,OC]
 congr 2
 simp only[bG,fI]
 by_cases h:i=0
 ·simp[h]
 ·rw[aF h,aF (by omega)]
def jy(c:UInt8):List UInt8->List (List UInt8)
 |[]=>[[]]
 |x::l=>if x=c then[]::jy c l else match jy c l with
  |[]=>[[x]]
  |w::ws=>(x::w)::ws
def vV(c:UInt8):List (List UInt8)->List UInt8
 |[]=>[]
 |[w]=>w
 |w::v::ws=>w++c::vV c (v::ws)
theorem rF(c:UInt8):∀ws,Lib.join ws [c]=vV c ws
 |[]=>rfl
 |[w]=>by simp[Lib.join,vV,List.intercalate]
 |w::v::ws=>by
  rw[vV,<-rF c (v::ws)]
  simp[Lib.join,List.intercalate]
theorem Eg(c:UInt8):∀l,jy c l≠[]
 |[]=>by simp[jy]
 |x::l=>by
  rw[jy]
  split
  ·simp
  ·split<;>simp
theorem wQ(c:UInt8):∀l,(jy c l).length<=l.length+1
 |[]=>aW _
 |x::l=>by
  have ih:=wQ c l
  rw[jy,List.length_cons]
  split
  ·rw[List.length_cons];omega
  ·split
   ·simp
   ·rename_i h
    rw[h]at ih
    rw[List.length_cons]at ih⊢
    omega
theorem zx(c:UInt8)(w:List UInt8){ws:List (List UInt8)}(h:ws≠[]):vV c (w::ws)=w++c::vV c ws:=by
 cases ws with
 |nil=>exact absurd rfl h
 |cons v ws=>rfl
theorem IE(c:UInt8):∀l,vV c (jy c l)=l
 |[]=>rfl
 |x::l=>by
  have ih:=IE c l
  have hn:=Eg c l
  rw[jy]
  by_cases e:x=c
  ·rw[aJ e,zx c [] hn,ih,e];rfl
  ·rw[aF e]
   cases h:jy c l with
   |nil=>exact absurd h hn
   |cons w ws=>
    rw[h]at ih
    (try simp only)
    cases ws with
    |nil=>rw[vV]at ih⊢;rw[ih]
    |cons v ws=>rw[vV]at ih⊢;rw[<-ih];rfl
theorem Fw{c:UInt8}:∀{w:List UInt8},c∉w->jy c w=[w]
 |[],_=>rfl
 |x::w,h=>by
  have h1:x≠c:=fun e=>h (e▸cF)
  have h2:c∉w:=fun e=>h (cO _ e)
  rw[jy,aF h1,Fw h2]
theorem KL{c:UInt8}(r:List UInt8):∀{w:List UInt8},c∉w->jy c (w++c::r)=w::jy c r
 |[],_=>by rw[List.nil_append,jy,aJ rfl]
 |x::w,h=>by
  have h1:x≠c:=fun e=>h (e▸cF)
  have h2:c∉w:=fun e=>h (cO _ e)
  rw[List.cons_append,jy,aF h1,KL r h2]
theorem MN{c:UInt8}:∀{ws:List (List UInt8)},ws≠[]->(∀w,w∈ws->c∉w)->jy c (vV c ws)=ws
 |[],h,_=>absurd rfl h
 |[w],_,h=>by rw[vV];exact Fw (h w cF)
 |w::v::ws,_,h=>by
  rw[vV,KL _ (h w cF),MN (by simp) fun u hu=>h u (cO _ hu)]
theorem Fx{c:UInt8}:∀{l:List UInt8},Lib.indexByte l c= -1->jy c l=[l]
 |[],_=>rfl
 |x::l,h=>by
  unfold Lib.indexByte at h
  by_cases e:x=c
  ·rw[aJ (lx.2 e)]at h;cases h
  ·rw[aF (fun h=>e (lx.1 h))]at h
   have hg:=Lib.indexByte_ge l c
   split at h
   ·rename_i hm
    rw[jy,aF e,Fx (lx.1 hm)]
   ·omega
theorem KM{c:UInt8}:∀{l:List UInt8}{i:Nat},Lib.indexByte l c=i->jy c l=l.take i::jy c (l.drop (i+1))
 |[],i,h=>by simp[Lib.indexByte]at h
 |x::l,i,h=>by
  unfold Lib.indexByte at h
  by_cases e:x=c
  ·rw[aJ (lx.2 e)]at h
   have:i=0:=by omega
   subst this
   rw[jy,aJ e]
   rfl
  ·rw[aF (fun h=>e (lx.1 h))]at h
   have hg:=Lib.indexByte_ge l c
   split at h
   ·omega
   ·rename_i hm
    have hm:Lib.indexByte l c≠ -1:=fun h=>hm (lx.2 h)
    obtain⟨j,hj⟩:∃j:Nat,i=j+1:=⟨i-1,by omega⟩
    subst hj
    rw[jy,aF e,KM (i:=j) (by omega)]
    rfl
theorem IF(c:UInt8):∀(n:Nat)(l:List UInt8),l.length<=n->Lib.splitK [c] 0 (Lib.count l [c]) l=jy c l
 |n,l,hn=>by
  have hi:=Lib.index_one l c
  have hg:=Lib.indexByte_ge l c
  by_cases h:Lib.indexByte l c= -1
  ·rw[Lib.count_miss (by rw[hi];exact h),Lib.splitK,Fx h]
  ·obtain⟨i,wF⟩:∃i:Nat,Lib.indexByte l c=i:=⟨(Lib.indexByte l c).toNat,by omega⟩
   have hl:l≠[]:=fun e=>by rw[e]at h;exact h rfl
   rw[Lib.count_hit (by simp) (by rw[hi];exact wF),Nat.add_comm,Lib.splitK,hi,wF,aF (fun e=>by have:=lx.1 e;omega),KM wF]
   rw[Int.toNat_natCast,Nat.add_zero,List.length_singleton]
   congr 1
   cases n with
   |zero=>exact absurd (pZ.1 (by omega)) hl
   |succ n=>exact IF c n _ (by have:=vo.2 hl;rw[uV];omega)
def lP(g:aE):List UInt8:=Lib.join (g.map fh) [59]
def yj(x:List UInt8):Option Int:=match Lib.atoiAll x with
 | .ok n=>if Lib.itoa n=x then some n else none
 |_=>none
def jn{α β:Type}(f:α->Option β):List α->Option (List β)
 |[]=>some []
 |x::l=>match f x with
  |none=>none
  |some y=>match jn f l with
   |none=>none
   |some ys=>some (y::ys)
def KO(w:List UInt8):Option (aH):=if w=[45]then some []else jn yj (jy 44 w)
def rG(s:List UInt8):Option (aE):=match jn KO (jy 59 s)with
 |some g=>if aZ g=true then some g else none
 |none=>none
theorem oY{α β:Type}{f:α->Option β}:∀{l:List α}{r:List β},jn f l=some r->r.length=l.length/\∀i(h:i<l.length)(h':i<r.length),f l[i]=some r[i]
 |[],r,h=>by
  simp only[jn,dC]at h
  subst h
  exact⟨rfl,fun i h=>by simp at h⟩
 |x::l,r,h=>by
  rw[jn]at h
  cases hx:f x with
  |none=>rw[hx]at h;cases h
  |some y=>
   rw[hx]at h
   cases hl:jn f l with
   |none=>rw[hl]at h;cases h
   |some ys=>
    rw[hl]at h
    have h:=bI h
    subst h
    obtain⟨h1,h2⟩:=oY hl
    refine⟨by simp[h1],fun i a b=> ?_⟩
    cases i with
    |zero=>exact hx
    |succ i=>exact h2 i _ _
theorem AW{α β:Type}{f:α->Option β}{g:β->α}:∀{l:List β},(∀x,x∈l->f (g x)=some x)->jn f (l.map g)=some l
 |[],_=>rfl
 |x::l,h=>by rw[bK,jn,h x cF,AW fun y hy=>h y (cO _ hy)]
theorem MO{α β:Type}{f:α->Option β}{g:β->α}{l:List α}{r:List β}(h:jn f l=some r)(hg:∀x y,y∈r->f x=some y->g y=x):r.map g=l:=by
 obtain⟨h1,h2⟩:=oY h
 apply j8 (by rw[bG,h1])
 intro i a b
 rw[cK]
 exact hg _ _ (bJ _) (h2 i b (by rw[bG]at a;exact a))
theorem zy{x:Int}(h0:0<=x)(h1:x<10):Lib.decDigits x.toNat=[UInt8.ofNat (48+x.toNat)]:=Lib.decDigits_one (by omega)
theorem Rg:∀n:Fin 10,Lib.atoiAll [UInt8.ofNat (48+n.val)]= .ok (n.val:Int):=by decide
theorem VG:∀n:Fin 10,yj [UInt8.ofNat (48+n.val)]=some (n.val:Int):=by
 intro n
 have e:Lib.itoa (n.val:Int)=[UInt8.ofNat (48+n.val)]:=by rw[Lib.itoa_nonneg,Lib.decDigits_one n.isLt]
 unfold yj
 rw[Rg n]
 (try simp only)
 rw[aJ e]
theorem ZO{x:Int}(h0:0<=x)(h1:x<10):yj (Lib.decDigits x.toNat)=some x:=by
 rw[zy h0 h1]
 have:=VG ⟨x.toNat,by omega⟩
 (try simp only at this)
 rw[this,Int.toNat_of_nonneg h0]
theorem ZP{x:List UInt8}{n:Int}(h:yj x=some n)(h0:0<=n):Lib.decDigits n.toNat=x:=by
 unfold yj at h
 split at h
 ·split at h
  ·rename_i m _ e
   have h:=bI h
   subst h
   rw[<-e]
   obtain⟨k,rfl⟩:∃k:Nat,m=k:=⟨m.toNat,by omega⟩
   rw[Lib.itoa_nonneg,Int.toNat_natCast]
  ·cases h
 ·cases h
theorem AX{x:Int}(h0:0<=x)(h1:x<10){c:UInt8}(hc:c=44\/c=59\/c=45):c∉Lib.decDigits x.toNat:=by
 rw[zy h0 h1]
 have:∀n:Fin 10,(44:UInt8)∉[UInt8.ofNat (48+n.val)]/\(59:UInt8)∉[UInt8.ofNat (48+n.val)]/\(45:UInt8)∉[UInt8.ofNat (48+n.val)]:=by decide
 have:=this ⟨x.toNat,by omega⟩
 rcases hc with rfl|rfl|rfl
 ·exact this.1
 ·exact this.2.1
 ·exact this.2.2
theorem AY{c d:UInt8}:∀{ws:List (List UInt8)},d∈vV c ws->d=c\/∃w,w∈ws/\d∈w
 |[],h=>by simp[vV]at h
 |[w],h=> .inr ⟨w,cF,h⟩
 |w::v::ws,h=>by
  rw[vV,gI,aO]at h
  rcases h with h|h|h
  ·exact .inr ⟨w,cF,h⟩
  ·exact .inl h
  ·rcases AY h with h|⟨u,hu,hd⟩
   ·exact .inl h
   ·exact .inr ⟨u,cO _ hu,hd⟩
theorem KP{l:aH}(h:∀x,x∈l->0<=x/\x<10):(59:UInt8)∉fh l:=by
 unfold fh
 split
 ·decide
 ·rw[rF]
  intro hm
  rcases AY hm with h1|⟨w,hw,hd⟩
  ·exact absurd h1 (by decide)
  ·obtain⟨x,hx,rfl⟩:=dL.1 hw
   exact AX (h x hx).1 (h x hx).2 (.inr (.inl rfl)) hd
theorem ZQ{l:aH}(h:∀x,x∈l->0<=x/\x<10):KO (fh l)=some l:=by
 unfold KO fh
 by_cases hz:l.length=0
 ·rw[aJ hz,aJ rfl,pZ.1 hz]
 ·rw[aF hz,rF]
  have fL:l.map (fun x=>Lib.decDigits x.toNat)≠[]:=fun e=>hz (by simpa using congrArg List.length e)
  have hf:∀w,w∈l.map (fun x=>Lib.decDigits x.toNat)->(44:UInt8)∉w:=fun w hw=>by
   obtain⟨x,hx,rfl⟩:=dL.1 hw
   exact AX (h x hx).1 (h x hx).2 (.inl rfl)
  rw[MN fL hf,aF]
  ·exact AW fun x hx=>ZO (h x hx).1 (h x hx).2
  ·intro e
   have hm:(45:UInt8)∈vV 44 (l.map fun x=>Lib.decDigits x.toNat):=by rw[e];decide
   rcases AY hm with h1|⟨w,hw,hd⟩
   ·exact absurd h1 (by decide)
   ·obtain⟨x,hx,rfl⟩:=dL.1 hw
    exact AX (h x hx).1 (h x hx).2 (.inr (.inr rfl)) hd
theorem ZR{w:List UInt8}{l:aH}(h:KO w=some l)(h0:∀x,x∈l->0<=x):fh l=w:=by
 unfold KO at h
 split at h
 ·rename_i e
  have h:=bI h
  subst h
  rw[e]
  rfl
 ·have hs:=MO (g:=fun x:Int=>Lib.decDigits x.toNat) h fun x y hy hf=>ZP hf (h0 y hy)
  have hl:=(oY h).1
  have hn:=vo.2 (Eg 44 w)
  unfold fh
  rw[aF (by omega),rF,hs,IE]
theorem mL{g:aE}(hg:aZ g=true){l:aH}(hl:l∈g):∀x,x∈l->0<=x/\x<10:=fun x hx=>by
 have:=(bL hg hl).2 x hx
 have:=bA hg
 omega
theorem MP{g:aE}(hg:aZ g=true):rG (lP g)=some g:=by
 have gl:=bA hg
 unfold rG lP
 have fL:g.map fh≠[]:=fun e=>by rw[List.map_eq_nil_iff]at e;rw[e]at gl;simp at gl
 rw[rF,MN fL fun w hw=> ?_,AW fun l hl=>ZQ (mL hg hl)]
 ·(try simp only)
  rw[aJ hg]
 ·obtain⟨l,hl,rfl⟩:=dL.1 hw
  exact KP (mL hg hl)
theorem vw{s:List UInt8}{g:aE}(h:rG s=some g):aZ g=true/\lP g=s:=by
 unfold rG at h
 split at h
 ·rename_i g' ha
  split at h
  ·rename_i hg
   have h:=bI h
   subst h
   refine⟨hg,?_⟩
   have hs:=MO (g:=fh) ha fun w l hl hf=>ZR hf fun x hx=>(mL hg hl x hx).1
   unfold lP
   rw[rF,hs,IE]
  ·cases h
 ·cases h
theorem Fy{g:aE}(hg:aZ g=true):(lP g).length<=200:=by
 have gl:=bA hg
 have key:∀ls:aE,(∀l,l∈ls->l.length<=5/\∀x,x∈l->0<=x/\x<100)->(Lib.join (ls.map fh) [59]).length<=17*ls.length:=by
  intro ls
  induction ls with
  |nil=>intro _;simp[Lib.join,List.intercalate]
  |cons l ls ih=>
   intro h
   have h1:=h l cF
   have h2:=wM h1.2
   have ih:=ih fun y hy=>h y (cO _ hy)
   rw[rF]at ih⊢
   rw[bK]
   cases ls with
   |nil=>rw[iY,vV,List.length_cons];simp;omega
   |cons v ls=>
    rw[zx _ _ (by simp),cB,List.length_cons,List.length_cons]
    omega
 have:=key g fun l hl=>⟨(bL hg hl).1,fun x hx=>by have:=mL hg hl x hx;omega⟩
 unfold lP
 omega
def tj(s:ByteArray):aE×Bool:=match rG s.data.toList with
 |some g=>(g,true)
 |none=>([],false)
def gtP(g:aE):ByteArray×Bool:=if aZ g then(⟨(lP g).toArray⟩,true)else(⟨#[]⟩,false)
structure jG(h:Heap):Prop where
 mx:∃m:Int,bF h ⟨0,0,none⟩=some (.int .i64 m)
 sy:∃ev,bF h ⟨2,0,none⟩=some ev/\(ev= .nilIface\/∃te pe,ev= .iface te pe)
 rg:∃ev,bF h ⟨3,0,none⟩=some ev/\(ev= .nilIface\/∃te pe,ev= .iface te pe)
 tb:∃T f,h[1]?=some (.cells (Lib.pow10Tab.map fun z=>Value.int .u64 z).toArray T f)
theorem OD{h:Heap}{k:Nat}{o:Obj}(e:h[k]?=some o):k<h.size:=by
 rcases Nat.lt_or_ge k h.size with l|l
 ·exact l
 ·rw[Array.getElem?_eq_none l]at e;cases e
theorem jG.no{h h':Heap}(G:jG h)(f:Fr No h h'):jG h':=by
 obtain⟨⟨m,a⟩,⟨e1,b,b'⟩,⟨e2,c,c'⟩,⟨T,q,d⟩⟩:=G
 exact⟨⟨m,dG a f fun h=>h⟩,⟨e1,dG b f fun h=>h,b'⟩,⟨e2,dG c f fun h=>h,c'⟩,⟨T,q,by rw[f.same _ (OD d) fun h=>h];exact d⟩⟩
theorem Fz{h:Heap}(GL:jG h){s:ByteArray}{c:UInt8}(hs:s.size<=1000000000)(K:aL)(HK:∀(t:Sl)(ps:List ByteArray) h',ps.map (·.data.toList)=jy c s.data.toList->eC (fun k=>h.size<=k/\k<h'.size) h' 1 t (ps.map VS)->Fr No h h'->K t.v h'):aG aC 81 #[VS s,VS ⟨#[c]⟩] h K:=by
 refine⟨fun w hw=> .inr ⟨81,_,w,Go.Proofs.enters_of Tryz.func81 (by kernel_rfl) rfl _ _,rfl,?_⟩⟩
 subst hw
 obtain⟨m,hm⟩:=GL.mx
 have h1:1<=(⟨#[c]⟩:ByteArray).size:=aW 1
 refine(Tryz.strings_Split s ⟨#[c]⟩ m w (by omega) hm h1).mono ?_
 rintro e w' ⟨rfl,rfl⟩
 have hd:=Lib.splitB_data ⟨#[c]⟩ 0 (Lib.countB s ⟨#[c]⟩) s
 have e2:Lib.splitK [c] 0 (Lib.count s.data.toList [c]) s.data.toList=jy c s.data.toList:=IF c _ _ (aW _)
 have e1:(⟨#[c]⟩:ByteArray).data.toList=[c]:=rfl
 rw[e1]at hd
 have e3:Lib.countB s ⟨#[c]⟩=Lib.count s.data.toList [c]:=rfl
 rw[e3,e2]at hd
 have hl:=Lib.splitB_all ⟨#[c]⟩ h1 0 _ s rfl
 have hc:=Lib.countB_le ⟨#[c]⟩ h1 _ s (aW _)
 generalize ti:Lib.splitB ⟨#[c]⟩ 0 (Lib.countB s ⟨#[c]⟩) s=ps at*
 rw[e3]at hl hc⊢
 refine⟨_,rfl,⟨rfl,rfl,rfl⟩,HK ⟨some ⟨w.heap.size,0,none⟩,Lib.count s.data.toList [c]+1,Lib.count s.data.toList [c]+1⟩ ps _ hd ⟨by simp[hl],by simp[maxLen];omega,aW _,fun j hj=> ?_⟩ (Fr.push w.heap _)⟩
 rw[bG]at hj
 refine⟨⟨w.heap.size,0,none⟩,rfl,⟨aW _,by show w.heap.size<(w.heap.push _).size;simp⟩,?_⟩
 rw[KJ]
 show bF (w.heap.push _) _=_
 unfold bF
 simp
theorem IG{l:List UInt8}{v:Int}(h:Lib.atoiAll l= .ok v): -9223372036854775808<=v/\v<=9223372036854775807:=by
 unfold Lib.atoiAll at h
 split at h
 ·cases h
 ·(try simp only at h)
  split at h
  ·cases h
  ·cases h
  ·split at h
   ·cases h
   ·split at h
    ·cases h
    ·injection h with h
     rename_i c r u _ h1 h2
     subst h
     split<;>omega
theorem Rh{h:Heap}(GL:jG h){s:ByteArray}(hs:s.size<=1000000000)(K:aL)(HK:∀v h',Lib.atoiAll s.data.toList= .ok v->Fr No h h'->K (.tuple #[VI v,.nilIface]) h')(HE:∀v t p h',(∀u,Lib.atoiAll s.data.toList≠ .ok u)->Fr No h h'->K (.tuple #[VI v,.iface t p]) h'):aG aC 154 #[VS s] h K:=by
 refine⟨fun w hw=> .inr ⟨154,_,w,Go.Proofs.enters_of Tryz.func154 (by kernel_rfl) rfl _ _,rfl,?_⟩⟩
 subst hw
 cases ha:Lib.atoiAll s.data.toList
 case ok v=>
  refine(Tryz.strconv_Atoi_ok s (by omega) v ha w).mono ?_
  rintro e w' ⟨rfl,hw⟩
  rcases hw with rfl|⟨t,rfl⟩
  ·exact⟨_,rfl,dV.refl _,HK v _ ha (Fr.refl _ _)⟩
  ·have hb:=Lib.bytesWorld_below w 5 t
   exact⟨_,rfl,⟨hb.os,hb.tape,hb.output⟩,HK v _ ha ⟨hb.size,fun k hk _=>hb.block k hk⟩⟩
 case range=>
  obtain⟨ev,h1,h2⟩:=GL.rg
  refine(Tryz.strconv_Atoi_range s (by omega) ha ev w h1 h2).mono ?_
  rintro e w' ⟨N,rfl,_,_,hb⟩
  exact⟨_,rfl,⟨hb.os,hb.tape,hb.output⟩,HE _ _ _ _ (fun u hu=>by rw[ha]at hu;cases hu) ⟨hb.size,fun k hk _=>hb.block k hk⟩⟩
 obtain⟨ev,h1,h2⟩:=GL.sy
 refine(Tryz.strconv_Atoi_syntax s (by omega) ha ev w h1 h2).mono ?_
 rintro e w' ⟨N,rfl,_,_,hb⟩
 exact⟨_,rfl,⟨hb.os,hb.tape,hb.output⟩,HE _ _ _ _ (fun u hu=>by rw[ha]at hu;cases hu) ⟨hb.size,fun k hk _=>hb.block k hk⟩⟩
theorem kZ{h:Heap}(GL:jG h){n:Int}(h0: -9223372036854775808<=n)(h1:n<=9223372036854775807)(K:aL)(HK:∀h',Fr No h h'->K (VS ⟨(Lib.itoa n).toArray⟩) h'):aG aC 92 #[VI n] h K:=by
 refine⟨fun w hw=> .inr ⟨92,_,w,Go.Proofs.enters_of Tryz.func92 (by kernel_rfl) rfl _ _,rfl,?_⟩⟩
 subst hw
 obtain⟨T,f,ht⟩:=GL.tb
 refine(Tryz.strconv_Itoa n h0 h1 w ?_).mono ?_
 ·unfold Lib.TabIs World.var?
  rw[show Tryz.prog.globalNamed "internal/strconv.uint64pow10" =some 1 by kernel_rfl]
  simp[ht]
 ·rintro e w' ⟨rfl,k,os,rfl⟩
  exact⟨_,rfl,⟨rfl,rfl,rfl⟩,HK _ ⟨by simp[«Sort».grow,World.drewN],fun i hi _=>by simp[«Sort».grow,World.drewN,Array.getElem?_append_left hi]⟩⟩
theorem zz:∃ms,Tryz.prog.underlying 163=some (.interface ms):=by
 have h:(match Tryz.prog.underlying 163 with|some (.interface _)=>true|_=>false)=true:=by kernel_rfl
 split at h
 ·rename_i ms hm
  exact⟨ms,hm⟩
 ·cases h
theorem OE{P:Program}{t:TypeId}{ms}(ht:P.underlying t=some (.interface ms))(w:World):(Op.equal t .nilIface .nilIface).run P w= .ok true w:=by
 have key:∀d,(Op.equalIn (d+1) t .nilIface .nilIface).run P w= .ok true w:=fun d=>by
  unfold Op.equalIn
  rw[aV (dE ht w)]
  rfl
 exact key 9999
theorem IH{P:Program}{t:TypeId}{ms}(ht:P.underlying t=some (.interface ms))(a:TypeId)(b:Value)(w:World):(Op.equal t (.iface a b) .nilIface).run P w= .ok false w:=by
 have key:∀d,(Op.equalIn (d+1) t (.iface a b) .nilIface).run P w= .ok false w:=fun d=>by
  unfold Op.equalIn
  rw[aV (dE ht w)]
  rfl
 exact key 9999
theorem Eh{P:Program}{t:TypeId}{ms}(ht:P.underlying t=some (.interface ms))(x:Operand){K:Value->Prop}(H:K (.bool false)):pop P (od .neq t x (.const .nilIface) .nilIface .nilIface) K:=
 .mk' (fun w=>by
  unfold od
  have hg:(eqGuard .neq t x (.const .nilIface) .nilIface .nilIface).run P w= .ok () w:=by
   unfold eqGuard
   cases x<;>rfl
  rw[aV hg]
  show Sem.run P (Sem.bind (Op.equal t .nilIface .nilIface) _) w=_
  rw[iq,OE ht]
  rfl) H
theorem yx{P:Program}{t:TypeId}{ms}(ht:P.underlying t=some (.interface ms))(x y:Operand)(a:TypeId)(b:Value){K:Value->Prop}(H:K (.bool true)):pop P (od .neq t x y (.iface a b) .nilIface) K:=
 .mk' (fun w=>by
  unfold od
  have hg:(eqGuard .neq t x y (.iface a b) .nilIface).run P w= .ok () w:=rfl
  rw[aV hg]
  show Sem.run P (Sem.bind (Op.equal t (.iface a b) .nilIface) _) w=_
  rw[iq,IH ht]
  rfl) H
theorem MQ(a:ByteArray):∀(n i:Nat)(r:List UInt8),a.size-i<=n->ByteArray.toList.loop a i r=r.reverse++a.data.toList.drop i
 |0,i,r,h=>by
  rw[ByteArray.toList.loop,aF (by omega),AZ (by simp only[Array.length_toList];exact Nat.le_of_sub_eq_zero (Nat.le_zero.1 h)),jb]
 |n+1,i,r,h=>by
  rw[ByteArray.toList.loop]
  by_cases e:i<a.size
  ·have e':i<a.data.toList.length:=by simpa using e
   rw[aJ e,MQ a n (i+1) _ (by omega),List.reverse_cons,gX,List.singleton_append,wg e']
   congr 2
   show a.get! i=_
   unfold ByteArray.get!
   simp[getElem!_pos,e']
   exact getElem!_pos a.data i (by simpa using e')
  ·rw[aF e,AZ (by simp only[Array.length_toList];exact Nat.le_of_not_lt e),jb]
theorem Ei(a:ByteArray):a.toList=a.data.toList:=by
 unfold ByteArray.toList
 rw[MQ a a.size 0 [] (by omega)]
 rfl
theorem lU(a:ByteArray):a.data.toList.length=a.size:=Array.length_toList
theorem uu(a b:ByteArray):(a.toList==b.toList)=decide (a.data.toList=b.data.toList):=by
 rw[Ei,Ei]
 by_cases h:a.data.toList=b.data.toList
 ·rw[h];simp
 ·rw[gZ h];simpa using h
theorem oZ{α β:Type}{f:α->Option β}:∀{l:List α}(i:Nat)(h:i<l.length),f l[i]=none->jn f l=none
 |x::l,0,_,hn=>by rw[jn,show f x=none from hn]
 |x::l,i+1,h,hn=>by
  rw[jn,oZ (l:=l) i (by simpa using h) hn]
  cases f x<;>rfl
theorem zA{α β:Type}{f:α->Option β}:∀{l:List α}{r:List β},r.length=l.length->(∀i(h:i<l.length)(h':i<r.length),f l[i]=some r[i])->jn f l=some r
 |[],[],_,_=>rfl
 |x::l,y::r,hl,h=>by
  rw[jn,show f x=some y from h 0 (by simp) (by simp),zA (l:=l) (r:=r) (by simpa using hl) fun i a b=>h (i+1) (by simpa using a) (by simpa using b)]
def Ej{α β:Type}(f:α->Option β)(l:List α)(r:List β)(i:Nat):Prop:=r.length=i/\∀j(h:j<l.length)(h':j<r.length),f l[j]=some r[j]
theorem Ej.next{α β:Type}{f:α->Option β}{l:List α}{r:List β}{i:Nat}(H:Ej f l r i){y:β}(hi:i<l.length)(hy:f l[i]=some y):Ej f l (r++[y]) (i+1):=⟨by rw[cB,H.1];rfl,fun j a b=>by
 have hl:=H.1
 by_cases e:j<r.length
 ·rw[uc e]
  exact H.2 j a e
 ·have:j=i:=by rw[cB,List.length_singleton]at b;omega
  subst this
  rw[List.getElem_append_right (by omega)]
  simp[hl,hy]⟩
theorem KR{h:Heap}(GL:jG h){s:ByteArray}(hs:s.size<=1000000)(K:aL)(HK:∀t h',cH h' (fun k=>h.size<=k) t ((KO s.data.toList).getD [])->Fr No h h'->K (.tuple #[t.v,VB (KO s.data.toList).isSome]) h'):aG aC 199 #[VS s] h K:=by
 refine akn s h K ?_
 refine bE gD (fun k=>h.size<=k) (fun _ h=>h) 0 (by omega) [] rfl rfl fun o h1 n1 c1 o1 f1 m1 _=>⟨o,rfl,.nil,?_⟩
 rw[uu]
 have e45:(⟨#[45]⟩:ByteArray).data.toList=[45]:=rfl
 rw[e45]
 unfold KO at HK
 refine⟨fun e=> ?_,fun e=> ?_⟩
 ·rw[aJ (qX e)]at HK
  exact HK o h1 o1 f1
 rw[aF (of_decide_eq_false e)]at HK
 have z1:=f1.size
 refine Fz (GL.no f1) (by omega) _ fun t ps h2 ti T2 f2=>⟨t,rfl,.nil,?_⟩
 have z2:=f2.size
 have tn:=T2.len
 simp only[bG,gL]at tn
 have hpl:ps.length=(jy 44 s.data.toList).length:=by rw[<-ti,bG]
 have hpb:ps.length<=1000001:=by
  have h1:=wQ 44 s.data.toList
  have h2:=lU s
  omega
 have Ri:∀i(hi:i<ps.length),(jy 44 s.data.toList)[i]'(by omega)=(ps[i]).data.toList:=fun i hi=>by simp only[<-ti,cK]
 have tJ:∀i(hi:i<ps.length),(ps[i]).size<=1000000:=fun i hi=>by
  have h1:=IE 44 s.data.toList
  have:∀(ws:List (List UInt8))(w:List UInt8),w∈ws->w.length<=(vV 44 ws).length:=by
   intro ws
   induction ws with
   |nil=>intro w hw;simp at hw
   |cons v ws ih=>
    intro w hw
    cases ws with
    |nil=>
     rcases aO.1 hw with rfl|hw
     ·exact aW _
     ·simp at hw
    |cons u ws=>
     rw[vV,cB,List.length_cons]
     rcases aO.1 hw with rfl|hw
     ·omega
     ·have:=ih w hw;omega
  have h2:=this _ _ (bJ (show i<(jy 44 s.data.toList).length by omega))
  rw[h1,Ri i hi]at h2
  have e1:=lU (ps[i])
  have e2:=lU s
  omega
 have o2:cH h2 (Iv h.size h1.size) o []:=(Ow.gN o1).no f2
 refine⟨fun n x i h'=>0<=i/\i+n=(ps.length:Int)/\∃r:aH,Ej yj (jy 44 s.data.toList) r i.toNat/\cH h' (fun k=>h.size<=k/\¬(h1.size<=k/\k<h2.size)) x r/\Fr (fun k=>h.size<=k/\¬(h1.size<=k/\k<h2.size)) h2 h',⟨ps.length,by omega,by omega,[],⟨rfl,fun j _ h'=>by simp at h'⟩,o2.mono fun k _ hk=>⟨hk.1,fun h=>by have:=hk.2;omega⟩,Fr.refl _ _⟩,?_⟩
 rintro n x i h3 ⟨i0,i1,r,SF,o3,f3⟩ dI
 have z3:=f3.size
 have T3:=eC.fr T2 f3 fun k hk aQ=>aQ.2 hk
 have F3:Fr No h h3:=(f1.aA f2).fresh f3 fun k hk=>hk.1
 have ln:=eC.len T3
 have fail:∀h',Fr No h h'->jn yj (jy 44 s.data.toList)=none->K (.tuple #[aD.v,VB false]) h':=fun h' f hn=>by
  rw[hn]at HK
  exact HK aD h' (Ow.nil _ _ _ _) f
 refine⟨fun e2=> ?_,fun e2=> ?_⟩
 ·simp only[aT]at e2
  have hi:i.toNat<ps.length:=by omega
  have cc:=T3.get (i:=i) i0 (by rw[bG];omega)
  rw[show(ps.map VS)[i.toNat]'(by rw[bG];exact hi)=VS ps[i.toNat]from cK _]at cc
  have gi:=Ri i.toNat hi
  refine⟨eC.bM T3 i0 (by rw[bG];omega),_,cc,Rh ((GL.no F3)) (by have:=tJ i.toNat hi;omega) _ (fun v h4 ha f4=>⟨v,_,rfl,.nil,?_⟩) fun v ty p h4 hn f4=>⟨v,_,rfl,.nil,?_⟩⟩
  ·obtain⟨ms,hm⟩:=zz
   refine Eh hm _ ⟨_,rfl,fun e=>by simp at e,fun _=> ?_⟩
   have vr:=IG ha
   refine kZ ((GL.no F3).no f4) vr.1 vr.2 _ fun h5 f5=>⟨_,rfl,.nil,?_⟩
   rw[uu]
   have e5:(⟨(Lib.itoa v).toArray⟩:ByteArray).data.toList=Lib.itoa v:=rfl
   rw[e5]
   have F5:=F3.aA (f4.aA f5)
   refine⟨fun e3=> ?_,fun e3=> ?_⟩
   ·have e3:=of_decide_eq_false (bU e3)
    refine fail h5 F5 (oZ i.toNat (by omega) ?_)
    rw[gi]
    unfold yj
    rw[ha]
    (try simp only)
    rw[aF e3]
   ·have e3:=qX (bQ e3)
    have hr:yj ((jy 44 s.data.toList)[i.toNat]'(by omega))=some v:=by
     rw[gi]
     unfold yj
     rw[ha]
     (try simp only)
     rw[aJ e3]
    have z5:=(f4.aA f5).size
    refine mX (L:=[]) (F:=fun k=>h.size<=k/\¬(h1.size<=k/\k<h2.size)) (Ow.no o3 (f4.aA f5)) (fun k hk=>⟨by omega,fun h=>by omega⟩) .nil (fun p hp=>by simp at hp) (by rw[SF.1];have:=tJ i.toNat hi;have:(jy 44 s.data.toList).length<=s.data.toList.length+1:=wQ 44 _;have e2:=lU s;omega) _ fun t6 h7 o7 f7 _=> ?_
    rw[aP (i+1) (by omega) (by omega)]
    refine⟨n-1,by omega,by omega,by omega,r++[v],?_,o7,f3.trans ((f4.aA f5).aB.trans f7)⟩
    rw[show(i+1).toNat=i.toNat+1 by omega]
    exact SF.next (by omega) hr
  ·obtain⟨ms,hm⟩:=zz
   refine yx hm _ _ _ _ ⟨_,rfl,fun _=> ?_,fun e=>by simp at e⟩
   refine fail h4 (F3.aA f4) (oZ i.toNat (by omega) ?_)
   rw[gi]
   unfold yj
   split
   ·rename_i m J2
    exact absurd J2 (hn m)
   ·rfl
 ·simp only[aY]at e2
  have hr:=zA (f:=yj) (l:=jy 44 s.data.toList) (r:=r) (by rw[SF.1];omega) SF.2
  rw[hr]at HK
  exact HK x h3 (o3.mono fun k _ hk=>hk.1) F3
theorem OG{s:ByteArray}{g:aE}(h:jn KO (jy 59 s.data.toList)=some g):tj s=(mb g,aZ g):=by
 unfold tj rG mb
 rw[h]
 (try simp only)
 by_cases e:aZ g=true
 ·rw[aJ e,aJ e,e]
 ·rw[aF e,aF e]
  simp only[Bool.not_eq_true]at e
  rw[e]
theorem OH{s:ByteArray}(h:jn KO (jy 59 s.data.toList)=none):tj s=([],false):=by
 unfold tj rG
 rw[h]
theorem MS{c:UInt8}:∀(ws:List (List UInt8))(w:List UInt8),w∈ws->w.length<=(vV c ws).length
 |[],w,hw=>by simp at hw
 |[v],w,hw=>by
  rcases aO.1 hw with rfl|hw
  ·exact aW _
  ·simp at hw
 |v::u::ws,w,hw=>by
  rw[vV,cB,List.length_cons]
  rcases aO.1 hw with rfl|hw
  ·omega
  ·have:=MS (c:=c) (u::ws) w hw;omega
theorem MT{c:UInt8}{l w:List UInt8}(h:w∈jy c l):w.length<=l.length:=by
 have:=MS (c:=c) _ _ h
 rwa [IE]at this
theorem FA{h:Heap}(GL:jG h){s:ByteArray}(hs:s.size<=100000)(K:aL)(HK:∀t h',gy h' (Iv h.size h'.size) t (tj s).1->Fr No h h'->K (.tuple #[.agg #[t.v],VB (tj s).2]) h'):aG aC 153 #[VS s] h K:=by
 refine ajl s h K fun b1 b2 h1 fK eN f1 cY=> ?_
 have f1:=f1.aM
 have z1:=f1.size
 have l2:b2<h1.size:=cY.head.lt
 have l1:b1<h1.size:=cY.tail.head.lt
 refine Fz (GL.no f1) (by omega) _ fun t ps h2 ti T2 f2=>⟨t,rfl,cY.aB f2,?_⟩
 have z2:=f2.size
 have tn:=T2.len
 simp only[bG,gL]at tn
 have hpl:ps.length=(jy 59 s.data.toList).length:=by rw[<-ti,bG]
 have hpb:ps.length<=100001:=by
  have h1:=wQ 59 s.data.toList
  have h2:=lU s
  omega
 have Ri:∀i(hi:i<ps.length),(jy 59 s.data.toList)[i]'(by omega)=(ps[i]).data.toList:=fun i hi=>by simp only[<-ti,cK]
 have tJ:∀i(hi:i<ps.length),(ps[i]).size<=100000:=fun i hi=>by
  have h2:=MT (bJ (show i<(jy 59 s.data.toList).length by omega))
  rw[Ri i hi]at h2
  have e1:=lU (ps[i])
  have e2:=lU s
  omega
 refine⟨fun n i x h'=>0<=i/\i+n=(ps.length:Int)/\∃r:aE,Ej KO (jy 59 s.data.toList) r i.toNat/\gy h' (fun k=>h2.size<=k) x r/\Fr (fun k=>k=b2\/h2.size<=k) h2 h'/\h2.size<=h'.size,⟨ps.length,by omega,by omega,[],⟨rfl,fun j _ h'=>by simp at h'⟩,dJ.nil _ _ _ _,Fr.refl _ _,aW _⟩,?_⟩
 rintro n i x h3 ⟨i0,i1,r,SF,o3,f3,z3⟩ dI
 have T3:=eC.fr T2 f3 fun k hk aQ=>by have:=hk.1;have:=hk.2;omega
 have F3:Fr No h h3:=(f1.aA f2).fresh f3 fun k hk=>by rcases hk with rfl|hk<;>omega
 have ln:=eC.len T3
 have fail:∀h' nB,Fr No h h'->Fr (In [b1]) h' nB->h2.size<=h'.size->jn KO (jy 59 s.data.toList)=none->K (.tuple #[.agg #[aD.v],VB false]) nB:=fun h' nB f f' z hn=>by
  rw[OH hn]at HK
  exact HK aD nB (dJ.nil _ _ _ _) (f.fresh f' fun k hk=>by simp[In]at hk;omega)
 refine⟨fun e2=> ?_,fun e2=> ?_⟩
 ·simp only[aT]at e2
  have hi:i.toNat<ps.length:=by omega
  have cc:=T3.get (i:=i) i0 (by rw[bG];omega)
  rw[show(ps.map VS)[i.toNat]'(by rw[bG];exact hi)=VS ps[i.toNat]from cK _]at cc
  have gi:=Ri i.toNat hi
  refine⟨eC.bM T3 i0 (by rw[bG];omega),_,cc,KR (GL.no F3) (by have:=tJ i.toNat hi;omega) _ fun u h4 o4 f4=>⟨u,_,rfl,dI.aB f4,fun e3=> ?_,fun e3=> ?_⟩⟩
  ·have e3:=bU e3
   intro h5 f5 ie
   refine fail h4 h5 (F3.aA f4) f5 (by have:=f4.size;omega) (oZ i.toNat (by omega) ?_)
   rw[gi]
   cases hr:KO (ps[i.toNat]).data.toList with
   |none=>rfl
   |some y=>rw[hr]at e3;cases e3
  ·have e3:=bQ e3
   cases hr:KO (ps[i.toNat]).data.toList with
   |none=>rw[hr]at e3;cases e3
   |some y=>
    rw[hr]at o4
    have z4:=f4.size
    refine rA (F:=fun k=>h2.size<=k) (m:=h3.size) ((o3.gN.no f4).mono fun k _ hk=>hk) o4 (fun k hk=>by omega) z4 (dI.aB f4) (fun p hp=>by
     simp only[aO,aR,aN]at hp
     rcases hp with rfl|rfl<;>simp only<;>omega) (by rw[SF.1];omega) _ fun t6 h7 o7 f7 V7 h8 f8 gK=> ?_
    have z7:=f7.size
    have z8:=f8.size
    rw[aP (i+1) (by omega) (by omega)]
    refine⟨n-1,by omega,by omega,by omega,r++[y],?_,dJ.fr o7 f8 fun k hk aQ jP=>by simp[In]at jP;omega,((f3.trans f4.aB).trans (f7.mono fun k _ hk=> .inr hk)).trans (f8.mono fun k _ hk=> .inl (by simpa[In]using hk)),by omega⟩
    rw[show(i+1).toNat=i.toNat+1 by omega]
    exact SF.next (by omega) (by rw[gi];exact hr)
 ·simp only[aY]at e2
  have hr:=zA (f:=KO) (l:=jy 59 s.data.toList) (r:=r) (by rw[SF.1];omega) SF.2
  rw[OG hr]at HK
  refine QE o3.gN (aW _) _ fun v h4 o4 f4=>⟨v,_,rfl,dI.aB f4,fun h5 f5 ie=> ?_⟩
  have z4:=f4.size
  have z5:=f5.size
  refine HK v h5 ?_ ((F3.aA f4).fresh f5 fun k hk=>by simp[In]at hk;omega)
  exact(dJ.fr o4 f5 fun k hk aQ jP=>by simp[In]at jP;have:=aQ.1;omega).mono fun k hk aQ=>⟨by have:=aQ.1;omega,hk⟩
def Rj(g:aE):Prop:=g.length<=8/\∀l,l∈g->l.length<=12/\∀x,x∈l->0<=x/\x<10
theorem jX{g:aE}(hg:aZ g=true):Rj g:=⟨(bA hg).2,fun l hl=>⟨by have:=(bL hg hl).1;omega,mL hg hl⟩⟩
theorem Ek{l:aH}(h:l.length<=12/\∀x,x∈l->0<=x/\x<10):(fh l).length<=40:=by
 have:=wM (rs:=l) fun x hx=>by have:=h.2 x hx;omega
 omega
theorem MU{g:aE}(h:Rj g):(lP g).length<=328:=by
 have:=ur 59 (g.map fh) fun y hy=>by
  obtain⟨l,hl,rfl⟩:=dL.1 hy
  exact Ek (h.2 l hl)
 rw[bG]at this
 have:=h.1
 unfold lP
 omega
theorem rH{S:aK}{h:Heap}{s:Sl}{aI:aE}(H:cG S h s aI)(B:Rj aI)(K:aL)(HK:∀h',Fr No h h'->K (VS ⟨(lP aI).toArray⟩) h'):aG aC 74 #[.agg #[s.v]] h K:=by
 have sn:=H.len
 have Bn:=B.1
 refine v74 s h K fun b1 h1 fK f1 cY=> ?_
 have f1:=f1.aM
 refine⟨fun m out i h'=>0<=i/\i+m=(aI.length:Int)/\out=(⟨(Lib.join ((aI.take i.toNat).map fh) [59]).toArray⟩:ByteArray)/\Fr No h h',⟨aI.length,by omega,by omega,rfl,f1⟩,?_⟩
 rintro m out i h3 ⟨i0,i1,rfl,f3⟩ dI
 have H3:=H.no f3
 refine⟨fun e2=> ?_,fun e2=> ?_⟩
 ·have hi:=H3.lt e2
  have wF:i.toNat<aI.length:=by omega
  obtain⟨si,c1,r1⟩:=H3.get i0 hi
  have rn:=r1.len
  have hk:=B.2 _ (bJ wF)
  have hl1:=ur 59 ((aI.take i.toNat).map fh) fun y hy=>by
   obtain⟨l,hl,rfl⟩:=dL.1 hy
   exact Ek (B.2 l (ov hl))
  have hl2:((aI.take i.toNat).map fh).length<=8:=by simp;omega
  generalize hB:Lib.join ((aI.take i.toNat).map fh) [59]++(if i.toNat=0 then[]else[59])=B'
  have Bl:B'.length<=400:=by rw[<-hB,cB];split<;>simp only[List.length_nil,List.length_cons]<;>omega
  have next:Lib.join ((aI.take (i.toNat+1)).map fh) [59]=B'++fh aI[i.toNat]:=by rw[wO fh [59] wF,hB]
  refine⟨H3.bM i0 hi,si,c1,fun x h'=>x=(⟨B'.toArray⟩:ByteArray)/\h'=h3,⟨fun e5=>⟨?_,?_,rfl⟩,fun e5=>⟨?_,rfl⟩⟩,?_⟩
  ·rw[cU];show _+1<=_;omega
  ·simp only[aT]at e5
   rw[show(⟨#[59]⟩:ByteArray)=⟨[59].toArray⟩from rfl,fV,<-hB,aF (by omega)]
  ·simp only[aY]at e5
   rw[<-hB,aJ (by omega),jb]
  rintro x h5 ⟨rfl,rfl⟩ ie
  refine⟨fun x h'=>x=(⟨(B'++if aI[i.toNat].length=0 then[45]else[]).toArray⟩:ByteArray)/\h'=h5,⟨fun e5=>⟨?_,?_,rfl⟩,fun e5=>⟨?_,rfl⟩⟩,?_⟩
  ·rw[cU];show _+1<=_;omega
  ·simp only[aT]at e5
   rw[show(⟨#[45]⟩:ByteArray)=⟨[45].toArray⟩from rfl,fV,aJ (by omega)]
  ·simp only[aY]at e5
   rw[aF (by omega),jb]
  rintro x2 h6 ⟨rfl,rfl⟩ jx
  generalize hC:(B'++if aI[i.toNat].length=0 then[45]else[])=C
  have Cl:C.length<=401:=by rw[<-hC,cB];split<;>simp only[List.length_nil,List.length_cons]<;>omega
  refine⟨fun m2 o j h'=>0<=j/\j+m2=(aI[i.toNat].length:Int)/\o=(⟨(C++Lib.join ((aI[i.toNat].take j.toNat).map fun y=>Lib.decDigits y.toNat) [44]).toArray⟩:ByteArray)/\Fr No h6 h',⟨aI[i.toNat].length,by omega,by omega,by simp[Lib.join_nil],Fr.refl _ _⟩,?_⟩
  rintro m2 o j h7 ⟨j0,j1,rfl,f7⟩ kL
  have R7:=r1.no f7
  refine⟨fun e5=> ?_,fun e5=> ?_⟩
  ·have hj:=R7.lt e5
   have Ky:j.toNat<aI[i.toNat].length:=by omega
   have dj:=hk.2 _ (bJ Ky)
   have hl3:=AU ((aI[i.toNat].take j.toNat).map fun y=>Lib.decDigits y.toNat) fun y hy=>by
    obtain⟨x,hx,rfl⟩:=dL.1 hy
    have:=hk.2 x (ov hx)
    exact vt (by omega)
   have hl4:((aI[i.toNat].take j.toNat).map fun y=>Lib.decDigits y.toNat).length<=12:=by simp;omega
   generalize hD:C++Lib.join ((aI[i.toNat].take j.toNat).map fun y=>Lib.decDigits y.toNat) [44]++(if j.toNat=0 then[]else[44])=D
   have Dl:D.length<=500:=by rw[<-hD,cB,cB];split<;>simp only[List.length_nil,List.length_cons]<;>omega
   refine⟨R7.bM j0 hj,_,R7.get j0 hj,fun x h'=>x=(⟨D.toArray⟩:ByteArray)/\h'=h7,⟨fun e6=>⟨?_,?_,rfl⟩,fun e6=>⟨?_,rfl⟩⟩,?_⟩
   ·rw[cU,cB];show _+1<=_;omega
   ·simp only[aT]at e6
    rw[show(⟨#[44]⟩:ByteArray)=⟨[44].toArray⟩from rfl,fV,<-hD,aF (by omega)]
   ·simp only[aY]at e6
    rw[<-hD,aJ (by omega),jb]
   rintro x h8 ⟨rfl,rfl⟩ gK
   refine MM dj.1 dj.2 _ fun h9 f9=>⟨_,rfl,gK.aB f9,?_,?_⟩
   ·have:=vt (show(aI[i.toNat][j.toNat]).toNat<100 by omega)
    rw[cU,cU];omega
   ·rw[R7.succ j0 hj]
    refine⟨m2-1,by omega,by omega,by omega,?_,f7.trans f9⟩
    rw[fV,show(j+1).toNat=j.toNat+1 by omega,wO _ _ Ky,<-hD]
    simp only[gX]
  ·have hj:=R7.ge e5
   rw[cT (by omega),H3.succ i0 hi]
   refine⟨m-1,by omega,by omega,by omega,?_,f3.trans f7⟩
   rw[show(i+1).toNat=i.toNat+1 by omega,next,<-hC]
   unfold fh
   by_cases hz:aI[i.toNat].length=0
   ·rw[aJ hz,aJ hz,pZ.1 hz,iY,Lib.join_nil,jb]
   ·rw[aF hz,aF hz,jb]
 ·have hi:=H3.ge e2
  rw[cT (by omega)]
  exact HK h3 f3
theorem nS{S:aK}{h:Heap}{s:Sl}{aI:aE}(H:cG S h s aI)(B:Rj aI)(hp:1<=aI.length)(K:aL)(HK:∀h',Fr No h h'->K (VS ⟨(lP aI).toArray⟩) h'):aG aC 51 #[.agg #[s.v]] h K:=by
 have sn:=H.len
 have Bn:=B.1
 refine v51 s h K fun b1 h1 fK f1 cY=> ?_
 have f1:=f1.aM
 have z1:=f1.size
 have l1:b1<h1.size:=cY.head.lt
 refine bE Uc (fun k=>h1.size<=k) (fun _ h=>h) 0 (by omega) [] rfl rfl fun o h2 n2 c2 o2 f2 m2 _=>⟨o,rfl,cY.aB f2,?_⟩
 have z2:=f2.size
 have Zn:MK h2 (fun k=>h1.size<=k) o []:=o2
 have yw:∀{x:Heap},Fr (fun k=>h1.size<=k) h x->Fr No h x:=fun f=>f.mono fun k hk aQ=>absurd aQ (by omega)
 refine⟨fun m x i h'=>0<=i/\i+m=(aI.length:Int)/\MK h' (fun k=>h1.size<=k) x ((aI.take i.toNat).map fun l=>(⟨(fh l).toArray⟩:ByteArray))/\Fr (fun k=>h1.size<=k) h h'/\h1.size<=h'.size,⟨aI.length,by omega,by omega,by simpa using Zn,f1.aB.trans f2.aB,z2⟩,?_⟩
 rintro m x i h3 ⟨i0,i1,o3,f3,z3⟩ dI
 have H3:=H.no (yw f3)
 refine⟨fun e2=> ?_,fun e2=> ?_⟩
 ·have hi:=H3.lt e2
  have wF:i.toNat<aI.length:=by omega
  obtain⟨si,c1,r1⟩:=H3.get i0 hi
  have rn:=r1.len
  have hk:=B.2 _ (bJ wF)
  have off:∀A(q:Nat×List Value),q∈[(b1,A)]->¬h1.size<=q.1:=fun A q hq=>by
   simp only[aO,aR,aN]at hq
   subst hq;simp only;omega
  refine⟨H3.bM i0 hi,si,c1,AV r1 (fun y hy=>by have:=hk.2 y hy;omega) (by omega) _ fun h9 f9=>⟨_,rfl,dI.aB f9,?_⟩⟩
  have z9:=f9.size
  refine vu (Ow.no o3 f9) (fun k hk=>by omega) (dI.aB f9) (off _) (by simp;omega) _ fun u gP kp f11 ZB=> ?_
  have Pu:=f11.size
  rw[H3.succ i0 hi]
  refine⟨m-1,by omega,by omega,by omega,?_,(f3.trans f9.aB).trans f11,by omega⟩
  rw[show(i+1).toNat=i.toNat+1 by omega,wN,dY wF,Option.toList_some,cV]
  exact kp
 ·have hi:=H3.ge e2
  rw[cT (by omega)]at o3
  have hm:((aI.map fun l=>(⟨(fh l).toArray⟩:ByteArray)).map (·.data.toList))=aI.map fh:=by simp
  have Zv:=MU B
  unfold lP at Zv HK
  refine KK o3.fM (fun hh=>by have:=congrArg List.length hh;simp at this;simp[this]at hp) (by simp;omega) (by rw[hm];show(Lib.join _ [59]).length<=_;omega) _ fun iH f12=>⟨_,rfl,dI.aB f12,?_⟩
  have:=HK iH ((yw f3).trans f12)
  rw[hm]
  exact this
theorem II{S:aK}{h:Heap}{s:Sl}{aI:aE}(H:cG S h s aI)(K:aL)(HK:∀h',Fr No h h'->K (.tuple #[VS (gtP aI).1,VB (gtP aI).2]) h'):aG aC 15 #[.agg #[s.v]] h K:=by
 refine v15 s h K fun b1 h1 fK f1 cY=> ?_
 have f1:=f1.aM
 refine wA (H.no f1) _ fun h2 f2=>⟨_,rfl,cY.aB f2,fun e=> ?_,fun e=> ?_⟩
 ·have:=HK h2 (f1.aA f2)
  rw[gtP,aF (by rw[bU e];simp)]at this
  exact this
 ·have e:=bQ e
  refine nS ((H.no f1).no f2) (jX e) (bA e).1 _ fun h3 f3=>⟨_,rfl,(cY.aB f2).aB f3,?_⟩
  have:=HK h3 ((f1.aA f2).aA f3)
  rw[gtP,aJ e]at this
  exact this
theorem p5{P:Program}{t:TypeId}(ht:P.underlying t=some .string){K:Value->Prop}(k:IntKind)(s:ByteArray)(i:Int)(h0:0<=i)(h1:i.toNat<s.size)(H:K (.int .u8 (s[i.toNat]'h1).toNat)):pop P (Instr.index t (.string s) (.int k i)) K:=
 .mk' (fun w=>by
  have hu:=dE ht w
  have e:s[i.toNat]?=some (s[i.toNat]'h1):=by simp[getElem?_pos s i.toNat h1]
  unfold Instr.index
  simp[asIntOf,go_sem,hu,h0,e]) H
def ik(st:aE×aH)(c:UInt8):aE×aH:=
 if 48<=(c.toNat:Int)/\(c.toNat:Int)<=55 then(st.1,st.2++[(c.toNat:Int)-48])else if(c.toNat:Int)=59 then(st.1++[st.2],[])else st
def KS(s:List UInt8):aE×aH:=s.foldl ik ([],[])
def yN(s:List UInt8):aE:=(KS s).1++[(KS s).2]
theorem MV:∀(l:List UInt8)(st:aE×aH),(l.foldl ik st).1.length<=st.1.length+l.length/\(l.foldl ik st).2.length<=st.2.length+l.length
 |[],st=>⟨aW _,aW _⟩
 |c::l,st=>by
  have ih:=MV l (ik st c)
  rw[List.foldl_cons,List.length_cons]
  have:(ik st c).1.length<=st.1.length+1/\(ik st c).2.length<=st.2.length+1:=by
   unfold ik
   split
   ·simp
   ·split
    ·simp
    ·omega
  omega
theorem MW{st:aE×aH}{x:Int}(h0:0<=x)(h1:x<8):(Lib.decDigits x.toNat).foldl ik st=(st.1,st.2++[x]):=by
 rw[zy h0 (by omega)]
 have:∀n:Fin 8,((UInt8.ofNat (48+n.val)).toNat:Int)=48+n.val:=by decide
 have:=this ⟨x.toNat,by omega⟩
 simp only[List.foldl_cons,List.foldl_nil]
 unfold ik
 simp only at this
 rw[this,aJ (by omega),show(48+(x.toNat:Int)-48)=x by omega]
theorem MX:∀(xs:aH)(st:aE×aH),(∀x,x∈xs->0<=x/\x<8)->(vV 44 (xs.map fun x=>Lib.decDigits x.toNat)).foldl ik st=(st.1,st.2++xs)
 |[],st,_=>by simp[vV]
 |[x],st,h=>by
  have:=h x cF
  rw[bK,iY,vV,MW this.1 this.2]
 |x::y::xs,st,h=>by
  have h1:=h x cF
  rw[bK,zx _ _ (by simp),List.foldl_append,MW h1.1 h1.2,List.foldl_cons]
  rw[show ik (st.1,st.2++[x]) 44=(st.1,st.2++[x])from rfl,MX (y::xs) _ fun z hz=>h z (cO _ hz)]
  simp
theorem IJ{xs:aH}(st:aE×aH)(h:∀x,x∈xs->0<=x/\x<8):(fh xs).foldl ik st=(st.1,st.2++xs):=by
 unfold fh
 by_cases e:xs.length=0
 ·rw[aJ e,pZ.1 e,jb]
  rfl
 ·rw[aF e,rF,MX xs st h]
theorem IK:∀(g:aE)(R:aE),g≠[]->(∀l,l∈g->∀x,x∈l->0<=x/\x<8)->((vV 59 (g.map fh)).foldl ik (R,[])).1++[((vV 59 (g.map fh)).foldl ik (R,[])).2]=R++g
 |[],R,h,_=>absurd rfl h
 |[l],R,_,h=>by
  rw[bK,iY,vV,IJ _ (h l cF)]
  simp
 |l::m::g,R,_,h=>by
  rw[bK,zx _ _ (by simp),List.foldl_append,IJ _ (h l cF),List.foldl_cons]
  rw[show ik (R,[]++l) 59=(R++[[]++l],[])from rfl,IK (m::g) _ (by simp) fun z hz=>h z (cO _ hz)]
  simp
theorem ZS{g:aE}(hg:aZ g=true):yN (lP g)=g:=by
 have gl:=bA hg
 unfold yN KS lP
 rw[rF,IK g [] (fun e=>by rw[e]at gl;simp at gl) fun l hl x hx=>by have:=(bL hg hl).2 x hx;omega,List.nil_append]
theorem wR(s:ByteArray):tj s=if s.data.toList.length<=200/\aZ (yN s.data.toList)=true/\lP (yN s.data.toList)=s.data.toList then(yN s.data.toList,true)else([],false):=by
 unfold tj
 cases hp:rG s.data.toList with
 |some g=>
  obtain⟨hg,ht⟩:=vw hp
  have hl:=Fy hg
  have hc:=ZS hg
  rw[ht]at hl hc
  rw[aJ ⟨hl,by rw[hc];exact hg,by rw[hc];exact ht⟩,hc]
 |none=>
  rw[aF]
  rintro⟨_,hg,ht⟩
  have:=MP hg
  rw[ht,hp]at this
  cases this
theorem OI{h:Heap}{s:ByteArray}(K:aL)(HK:∀t h',gy h' (Iv h.size h'.size) t (tj s).1->Fr No h h'->K (.tuple #[.agg #[t.v],VB (tj s).2]) h'):aG aC 125 #[VS s] h K:=by
 have sl:=lU s
 refine aiO s h K ⟨fun e b1 h2 fK f2 cC=> ?_,fun e b1 b2 h4 fK eN f4 eM=> ?_⟩
 ·simp only[aT]at e
  rw[wR,aF (by omega)]at HK
  exact HK aD h2 (dJ.nil _ _ _ _) f2.aM
 simp only[aY]at e
 have f4:=f4.aM
 have z4:=f4.size
 have l2:b2<h4.size:=eM.head.lt
 have l1:b1<h4.size:=eM.tail.head.lt
 have fin:∀{h':Heap},Fr (fun k=>k=b2\/k=b1\/h4.size<=k) h4 h'->Fr No h h':=fun f=>f4.fresh f fun k hk=>by rcases hk with rfl|rfl|hk<;>omega
 have off:∀A B(q:Nat×List Value),q∈[(b2,A),(b1,B)]->q.1<h4.size:=fun A B q hq=>by
  simp only[aO,aR,aN]at hq
  rcases hq with rfl|rfl<;>simp only<;>omega
 refine⟨fun n l i x h'=>0<=i/\i+n=(s.size:Int)/\(∃m,h4.size<=m/\m<=h'.size/\gy h' (fun k=>h4.size<=k/\k<m) x (KS (s.data.toList.take i.toNat)).1/\cH h' (fun k=>m<=k) l (KS (s.data.toList.take i.toNat)).2)/\Fr (fun k=>k=b2\/k=b1\/h4.size<=k) h4 h',⟨s.size,by omega,by omega,⟨h4.size,aW _,aW _,dJ.nil _ _ _ _,Ow.nil _ _ _ _⟩,Fr.refl _ _⟩,?_⟩
 rintro n l i x h5 ⟨i0,i1,⟨m,m0,m1,ox,ol⟩,f5⟩ ie
 have z5:=f5.size
 have cl:=MV (s.data.toList.take i.toNat) ([],[])
 simp only[List.length_nil,fI]at cl
 have c1:(KS (s.data.toList.take i.toNat)).1.length<=200:=by have:=cl.1;unfold KS;omega
 have c2:(KS (s.data.toList.take i.toNat)).2.length<=200:=by have:=cl.2;unfold KS;omega
 have row:∀(T:Sl->Heap->Prop),(∀t h',gy h' (fun k=>h4.size<=k) t ((KS (s.data.toList.take i.toNat)).1++[(KS (s.data.toList.take i.toNat)).2])->Fr (fun k=>k=b2\/k=b1\/h4.size<=k) h4 h'->Vars h' [(b2,[t.v]),(b1,[aD.v])]->T t h')->lQ aC (Instr.buildSlice qy 1 #[(0,l.v)]) h5 fun rv h1=>∃t:Sl,rv=t.v/\Vars h1 [(b2,[x.v]),(b1,[aD.v])]/\lQ aC (cE qy qy qy x.v t.v) h1 fun Fi h2=>∃t2:Sl,Fi=t2.v/\Vars h2 [(b2,[x.v]),(b1,[aD.v])]/\∀eW,Fr (In [b2]) h2 eW->Vars eW [(b2,[t2.v]),(b1,[aD.v])]->T t2 eW:=fun T HT=>by
  refine rA (F:=fun k=>h4.size<=k) (m:=m) ox ol (fun k hk=>by omega) m1 ie (fun p hp=>by have:=off _ _ p hp;omega) (by omega) _ fun t h7 o7 f7 V7 h8 f8 gK=> ?_
  refine HT t h8 (dJ.fr o7 f8 fun k hk aQ jP=>by simp[In]at jP;omega) ((f5.trans (f7.mono fun k _ hk=> .inr (.inr hk))).trans (f8.mono fun k _ hk=> .inl (by simpa[In]using hk))) gK
 refine⟨fun e2=> ?_,fun e2=> ?_⟩
 ·simp only[aT]at e2
  have hi:i.toNat<s.data.toList.length:=by omega
  have hc:KS (s.data.toList.take (i.toNat+1))=ik (KS (s.data.toList.take i.toNat)) (s.data.toList[i.toNat]):=by
   unfold KS
   rw[wN,dY hi,Option.toList_some,List.foldl_append]
   rfl
  have ZT:s[i.toNat]'(by omega)=s.data.toList[i.toNat]:=by
   show s.data[i.toNat]'_=_
   simp
  generalize hcv:s.data.toList[i.toNat]=c at hc ZT
  generalize PY:KS (s.data.toList.take i.toNat)=st at*
  have cb:(c.toNat:Int)<256:=by have:=c.toNat_lt;omega
  refine⟨fun l' x' h'=>(∃m,h4.size<=m/\m<=h'.size/\gy h' (fun k=>h4.size<=k/\k<m) x' (ik st c).1/\cH h' (fun k=>m<=k) l' (ik st c).2)/\Fr (fun k=>k=b2\/k=b1\/h4.size<=k) h4 h',?_,?_⟩
  ·have other:¬(48<=(c.toNat:Int)/\(c.toNat:Int)<=55)->¬(c.toNat:Int)=59->(∃m,h4.size<=m/\m<=h5.size/\gy h5 (fun k=>h4.size<=k/\k<m) x (ik st c).1/\cH h5 (fun k=>m<=k) l (ik st c).2)/\Fr (fun k=>k=b2\/k=b1\/h4.size<=k) h4 h5:=fun a b=>by
    unfold ik
    rw[aF a,aF b]
    exact⟨⟨m,m0,m1,ox,ol⟩,f5⟩
   have afy:¬(48<=(c.toNat:Int)/\(c.toNat:Int)<=55)->(c.toNat:Int)=59->∀t h',gy h' (fun k=>h4.size<=k) t (st.1++[st.2])->Fr (fun k=>k=b2\/k=b1\/h4.size<=k) h4 h'->(∃m,h4.size<=m/\m<=h'.size/\gy h' (fun k=>h4.size<=k/\k<m) t (ik st c).1/\cH h' (fun k=>m<=k) aD (ik st c).2)/\Fr (fun k=>k=b2\/k=b1\/h4.size<=k) h4 h':=fun a b t h' o f=>by
    unfold ik
    rw[aF a,aJ b]
    exact⟨⟨h'.size,f.size,aW _,o.gN,Ow.nil _ _ _ _⟩,f⟩
   refine p5 (by kernel_rfl) _ _ i i0 (by omega) ⟨_,rfl,?_⟩
   rw[ZT]
   refine⟨fun e3=>⟨fun e4=> ?_,fun e4=> ?_⟩,fun e3=> ?_⟩
   ·simp only[aT]at e3 e4
    refine jD (show Tryz.prog.underlying _=some (.int .u8)from by kernel_rfl) (show Tryz.prog.underlying _=some (.int .i64)from by kernel_rfl) _ ⟨(c.toNat:Int)-48,?_,?_⟩
    ·have:IntKind.u8.wrap ((c.toNat:Int)-48)=(c.toNat:Int)-48:=by
      show((c.toNat:Int)-48)%256=_
      omega
     rw[this]
     show VI (aX _)=_
     rw[aP _ (by omega) (by omega)]
    refine nR (lo:=m) ol m1 ie (fun p hp=>by have:=off _ _ p hp;omega) (by omega) _ fun t h7 o7 f7 V7=> ?_
    refine⟨⟨m,m0,dD m1 f7.size,?_,?_⟩,f5.trans (f7.mono fun k _ hk=> .inr (.inr (by omega)))⟩
    ·unfold ik
     rw[aJ ⟨e3,e4⟩]
     exact dJ.fr ox f7 fun k hk aQ jP=>by omega
    ·unfold ik
     rw[aJ ⟨e3,e4⟩]
     exact o7
   ·simp only[aT,aY]at e3 e4
    refine⟨fun e6=> ?_,fun e6=> ?_⟩
    ·simp only[aT]at e6
     exact row _ fun t h' o f V=>afy (by omega) e6 t h' o f
    ·simp only[aY]at e6
     exact other (by omega) e6
   ·simp only[aY]at e3
    refine⟨fun e6=> ?_,fun e6=> ?_⟩
    ·simp only[aT]at e6
     exact row _ fun t h' o f V=>afy (by omega) e6 t h' o f
    ·simp only[aY]at e6
     exact other (by omega) e6
  ·rintro l' x' h6 ⟨hm,f6⟩ jx
   rw[aP (i+1) (by omega) (by omega)]
   refine⟨n-1,by omega,by omega,by omega,?_,f6⟩
   rw[show(i+1).toNat=i.toNat+1 by omega,hc]
   exact hm
 ·simp only[aY]at e2
  refine row _ fun t h7 o7 f7 V7=> ?_
  rw[cT (by omega)]at o7
  have o7:gy h7 (fun k=>h4.size<=k) t (yN s.data.toList):=o7
  have ocl:yN s.data.toList=yN s.data.toList:=rfl
  have bad:∀h' nB,Fr No h7 h'->Fr (In [b1]) h' nB->¬(s.data.toList.length<=200/\aZ (yN s.data.toList)=true/\lP (yN s.data.toList)=s.data.toList)->K (.tuple #[.agg #[aD.v],VB false]) nB:=fun h' nB a b hn=>by
   rw[wR,aF hn]at HK
   exact HK aD nB (dJ.nil _ _ _ _) (fin ((f7.trans a.aB).trans (b.mono fun k _ hk=> .inr (.inl (by simpa[In]using hk)))))
  refine jB o7.rd _ fun h8 f8=>⟨_,rfl,V7.aB f8,fun e3 h9 f9 iG=> ?_,fun e3=> ?_⟩
  ·exact bad h8 h9 f8 f9 fun hh=>by rw[hh.2.1]at e3;cases e3
  have e3:=bQ e3
  refine rH (o7.rd.no f8) (jX e3) _ fun h9 f9=>⟨_,rfl,(V7.aB f8).aB f9,?_⟩
  rw[uu]
  rw[show(⟨(lP (yN s.data.toList)).toArray⟩:ByteArray).data.toList=lP (yN s.data.toList)from rfl]
  refine⟨fun e4 eW f10 fe=> ?_,fun e4 eW f10 fe=> ?_⟩
  ·exact bad h9 eW (f8.trans f9) f10 fun hh=>by rw[km hh.2.2]at e4;cases e4
  ·have e4:=qX (bQ e4)
   rw[wR,aJ ⟨by omega,e3,e4⟩]at HK
   have z7:=f7.size
   refine HK t eW ?_ (fin ((f7.trans (f8.trans f9).aB).trans (f10.mono fun k _ hk=> .inr (.inl (by simpa[In]using hk)))))
   have kW:=dJ.fr ((o7.no f8).no f9) f10 fun k hk aQ jP=>by simp[In]at jP;omega
   exact kW.mono fun k hk aQ=>⟨by omega,hk⟩
def sq(g:aE)(s:St):Nat->Option St
 |0=>some s
 |n+1=>(sq g s n).bind (dK g)
theorem A4(g:aE)(s:St)(a:Nat):∀b,sq g s (a+b)=(sq g s a).bind fun t=>sq g t b
 |0=>by rw[Nat.add_zero];cases sq g s a<;>rfl
 |b+1=>by
  rw[<-kS,sq,A4 g s a b]
  cases sq g s a<;>rfl
theorem Rk{g:aE}{s:St}{a b:Nat}(h:sq g s a=sq g s b)(k:Nat):sq g s (a+k)=sq g s (b+k):=by
 rw[A4,A4,h]
theorem zB{g:aE}{s:St}{a:Nat}(h:sq g s a=none)(k:Nat):sq g s (a+k)=none:=by
 rw[A4,h];rfl
structure vx(g:aE)(s:St)(m n:Nat):Prop where
 lt:m<n
 eq:sq g s m=sq g s n
 some:sq g s m≠none
 Mq:∀i j,i<j->j<n->sq g s i≠sq g s j
theorem ZU{g:aE}{s:St}:∀(b:Nat){a:Nat},a<b->sq g s a=sq g s b->sq g s a≠none->∃m n,n<=b/\vx g s m n:=by
 intro b
 induction b using Nat.strongRecOn with
 |ind b ih=>
  intro a h1 h2 h3
  by_cases hx:∃i j,i<j/\j<b/\sq g s i=sq g s j
  ·obtain⟨i,j,x1,x2,x3⟩:=hx
   obtain⟨m,n,y1,y2⟩:=ih j x2 x1 x3 (fun hn=>by
    have e0:i<=a\/a<i:=by omega
    have:=zB hn (b-i)
    rw[show i+(b-i)=b by omega,<-h2]at this
    exact h3 this)
   exact⟨m,n,by omega,y2⟩
  ·exact⟨a,b,aW _,h1,h2,h3,fun i j x1 x2 x3=>hx ⟨i,j,x1,x2,x3⟩⟩
theorem vx.mul{g:aE}{s:St}{m n:Nat}(R:vx g s m n){a:Nat}(h:m<=a):∀k,sq g s (a+k*(n-m))=sq g s a
 |0=>by rw[Nat.zero_mul,Nat.add_zero]
 |k+1=>by
  have:=Rk R.eq (a+k*(n-m)-m)
  have wc:=R.lt
  rw[show m+(a+k*(n-m)-m)=a+k*(n-m) by omega,R.mul h k]at this
  rw[this,Nat.succ_mul]
  congr 1;omega
theorem vx.all{g:aE}{s:St}{m n:Nat}(R:vx g s m n)(a:Nat):sq g s a≠none:=by
 intro h
 have h1:=zB h (m+a*(n-m))
 have wc:=R.lt
 have h2:=R.mul (a:=m) (aW _) a
 have:a<=a*(n-m):=Nat.le_mul_of_pos_right _ (by omega)
 have h3:=zB h (m+a*(n-m)-a)
 rw[show a+(m+a*(n-m)-a)=m+a*(n-m) by omega,h2]at h3
 exact R.some h3
theorem vx.rep{g:aE}{s:St}{m n:Nat}(R:vx g s m n){a:Nat}(h:m<=a):sq g s (m+(a-m)%(n-m))=sq g s a/\m+(a-m)%(n-m)<n:=by
 have wc:=R.lt
 have h1:=Nat.mod_add_div (a-m) (n-m)
 have h2:=R.mul (a:=m+(a-m)%(n-m)) (by omega) ((a-m)/(n-m))
 rw[p7]at h1
 rw[show m+(a-m)%(n-m)+(a-m)/(n-m)*(n-m)=a by omega]at h2
 have h3:=j9 (a-m) (show n-m>0 by omega)
 exact⟨h2.symm,by omega⟩
theorem vx.iff{g:aE}{s:St}{m n:Nat}(R:vx g s m n){a b:Nat}(h:a<b):sq g s a=sq g s b↔m<=a/\(b-a)%(n-m)=0:=by
 have wc:=R.lt
 constructor
 ·intro e
  have ha:m<=a:=by
   refine Nat.not_lt.1 fun hl=> ?_
   by_cases hb:b<n
   ·exact R.Mq a b h hb e
   ·obtain⟨r1,r2⟩:=R.rep (a:=b) (by omega)
    exact R.Mq a _ (by omega) r2 (e.trans r1.symm)
  refine⟨ha,?_⟩
  obtain⟨r1,r2⟩:=R.rep (a:=b) (by omega)
  obtain⟨q1,q2⟩:=R.rep ha
  have hr:(a-m)%(n-m)=(b-m)%(n-m):=by
   rcases sL ((a-m)%(n-m)) ((b-m)%(n-m))with x|x|x
   ·exact absurd (q1.trans (e.trans r1.symm)) (R.Mq _ _ (by omega) r2)
   ·exact x
   ·exact absurd (r1.trans (e.symm.trans q1.symm)) (R.Mq _ _ (by omega) q2)
  have:=Nat.sub_mod_eq_zero_of_mod_eq hr.symm
  rwa [show b-m-(a-m)=b-a by omega]at this
 ·rintro⟨h1,h2⟩
  have h3:=Nat.mod_add_div (b-a) (n-m)
  rw[h2,iO,p7]at h3
  have:=R.mul h1 ((b-a)/(n-m))
  rw[h3,show a+(b-a)=b by omega]at this
  exact this.symm
theorem vx.ZV{g:aE}{s:St}{m n m' n':Nat}(R:vx g s m n)(R':vx g s m' n'):m=m'/\n=n':=by
 have h1:=R.lt
 have h2:=R'.lt
 have hn:n=n':=by
  rcases sL n n' with x|x|x
  ·exact absurd R.eq (R'.Mq m n h1 x)
  ·exact x
  ·exact absurd R'.eq (R.Mq m' n' h2 x)
 subst hn
 refine⟨?_,rfl⟩
 rcases sL m m' with x|x|x
 ·exact absurd (R.eq.trans R'.eq.symm) (R.Mq m m' x h2)
 ·exact x
 ·exact absurd (R'.eq.trans R.eq.symm) (R.Mq m' m x h1)
theorem vx.meets{g:aE}{s:St}{m n:Nat}(R:vx g s m n):∃k,1<=k/\k<=n/\m<=k/\sq g s k=sq g s (2*k):=by
 have wc:=R.lt
 have h1:=Nat.mod_add_div m (n-m)
 have h3:=j9 m (show n-m>0 by omega)
 by_cases h0:m%(n-m)=0/\1<=m
 ·refine⟨m,h0.2,by omega,aW _,(R.iff (by omega)).2 ⟨aW _,?_⟩⟩
  rw[show 2*m-m=m by omega];exact h0.1
 ·have hk:(n-m)*(m/(n-m)+1)=(n-m)*(m/(n-m))+(n-m):=by rw[Nat.mul_succ]
  refine⟨(n-m)*(m/(n-m)+1),by omega,?_,by omega,?_⟩
  ·by_cases hm:m=0
   ·subst hm
    simp at hk⊢
   ·have:m%(n-m)≠0:=fun e=>h0 ⟨e,by omega⟩
    omega
  ·refine(R.iff (by omega)).2 ⟨by omega,?_⟩
   rw[show 2*((n-m)*(m/(n-m)+1))-(n-m)*(m/(n-m)+1)=(n-m)*(m/(n-m)+1) by omega]
   exact Nat.mul_mod_right _ _
def qA:List St->St->Option Nat
 |[],_=>none
 |x::xs,s=>if x=s then some 0 else(qA xs s).map (·+1)
theorem sM:∀{hs:List St}{s:St}{m:Nat},qA hs s=some m->hs[m]?=some s
 |[],s,m,h=>by simp[qA]at h
 |x::xs,s,m,h=>by
  rw[qA]at h
  split at h
  ·rename_i e
   simp only[dC]at h
   rw[<-h,e];rfl
  ·cases hm:qA xs s with
   |none=>rw[hm]at h;simp at h
   |some k=>
    rw[hm]at h
    simp only[Option.map_some,dC]at h
    rw[<-h,List.getElem?_cons_succ]
    exact sM hm
theorem wS:∀{hs:List St}{s:St},qA hs s=none->s∉hs
 |[],s,_=>by simp
 |x::xs,s,h=>by
  rw[qA]at h
  split at h
  ·cases h
  ·rename_i e
   cases hm:qA xs s with
   |none=>
    intro hx
    rcases aO.1 hx with a|a
    ·exact e a.symm
    ·exact wS hm a
   |some k=>rw[hm]at h;simp at h
def IL(g:aE):Nat->Nat->St->List St->Int×Int×Bool
 |0,_,_,_=>(0,0,false)
 |f+1,n,s,hs=>match qA hs s with
  |some m=>((m:Int),(n:Int)-m,true)
  |none=>match dK g s with
   |none=>(0,0,false)
   |some s'=>IL g f (n+1) s' (hs++[s])
structure FB(g:aE)(s0:St)(n:Nat)(s:St)(hs:List St):Prop where
 len:hs.length=n
 at_:∀i,i<n->hs[i]?=sq g s0 i
 now:sq g s0 n=some s
 Mq:∀i j,i<j->j<n->sq g s0 i≠sq g s0 j
theorem FB.init(g:aE)(s0:St):FB g s0 0 s0 []:=⟨rfl,fun i h=>by omega,rfl,fun i j _ h=>by omega⟩
theorem FB.next{g:aE}{s0 s s':St}{n:Nat}{hs:List St}(H:FB g s0 n s hs)(h:qA hs s=none)(J9:dK g s=some s'):FB g s0 (n+1) s' (hs++[s]):=by
 refine⟨by rw[cB,H.len];rfl,fun i hi=> ?_,by rw[sq,H.now];exact J9,fun i j h1 h2=> ?_⟩
 ·by_cases e:i=n
  ·subst e
   rw[List.getElem?_append_right (by rw[H.len];exact aW _),H.len,Nat.sub_self,H.now];rfl
  ·rw[List.getElem?_append_left (by rw[H.len];omega)]
   exact H.at_ i (by omega)
 ·by_cases e:j=n
  ·subst e
   intro he
   rw[H.now,<-H.at_ i h1]at he
   exact wS h (List.mem_of_getElem? he)
  ·exact H.Mq i j h1 (by omega)
theorem IM{g:aE}{s0:St}{m k:Nat}(R:vx g s0 m k):∀(f n:Nat)(s:St)(hs:List St),FB g s0 n s hs->n<=k->k<n+f->IL g f n s hs=((m:Int),(k:Int)-m,true)
 |0,n,s,hs,H,h1,h2=>by omega
 |f+1,n,s,hs,H,h1,h2=>by
  rw[IL]
  cases hi:qA hs s with
  |some i=>
   have h3:=sM hi
   have Yj:i<n:=by
    refine Nat.not_le.1 fun hle=> ?_
    rw[List.getElem?_eq_none (by rw[H.len];exact hle)]at h3;cases h3
   rw[H.at_ i Yj,<-H.now]at h3
   have R':vx g s0 i n:=⟨Yj,h3,by rw[h3,H.now];simp,H.Mq⟩
   obtain⟨a,b⟩:=R.ZV R'
   rw[a,b]
  |none=>
   cases J9:dK g s with
   |none=>
    exfalso
    have:=R.all (n+1)
    rw[sq,H.now]at this
    exact this J9
   |some s'=>
    have fL:n≠k:=by
     rintro rfl
     have h3:=R.eq
     rw[H.now,<-H.at_ m R.lt]at h3
     exact wS hi (List.mem_of_getElem? h3)
    exact IM R f (n+1) s' _ (H.next hi J9) (by omega) (by omega)
theorem MY{g:aE}{s0:St}:∀(f n:Nat)(s:St)(hs:List St),FB g s0 n s hs->(∀m k,vx g s0 m k->n+f<=k)->IL g f n s hs=(0,0,false)
 |0,n,s,hs,H,h=>rfl
 |f+1,n,s,hs,H,h=>by
  rw[IL]
  cases hi:qA hs s with
  |some i=>
   have h3:=sM hi
   have Yj:i<n:=by
    refine Nat.not_le.1 fun hle=> ?_
    rw[List.getElem?_eq_none (by rw[H.len];exact hle)]at h3;cases h3
   rw[H.at_ i Yj,<-H.now]at h3
   have:=h i n ⟨Yj,h3,by rw[h3,H.now];simp,H.Mq⟩
   omega
  |none=>
   cases J9:dK g s with
   |none=>rfl
   |some s'=>exact MY f (n+1) s' _ (H.next hi J9) fun m k R=>by have:=h m k R;omega
def IP(g:aE)(s:St):Int×Int×Bool:=IL g 2001 0 s []
theorem IQ{g:aE}{s:St}{m k:Nat}(R:vx g s m k)(h:k<=2000):IP g s=((m:Int),(k:Int)-m,true):=IM R 2001 0 s [] (FB.init g s) (Nat.zero_le _) (by omega)
theorem MZ{g:aE}{s:St}(h:∀m k,vx g s m k->2000<k):IP g s=(0,0,false):=MY 2001 0 s [] (FB.init g s) fun m k R=>by have:=h m k R;omega
def rJ(h:Heap)(b:Nat)(gw:List (ByteArray×Int)):Prop:=∃(es:Array MapEntry)(clock:Nat),h[b]?=some (.map es clock)/\es.toList.map (fun e=>(e.key,e.val))=gw.map fun q=>(VS q.1,VI q.2)
theorem rJ.lt{h:Heap}{b:Nat}{gw:List (ByteArray×Int)}(M:rJ h b gw):b<h.size:=by
 obtain⟨es,c,hb,_⟩:=M
 exact(Ab.1 hb).1
theorem rJ.fr{h h':Heap}{b:Nat}{gw:List (ByteArray×Int)}{T:aK}(M:rJ h b gw)(f:Fr T h h')(hT:¬T b):rJ h' b gw:=by
 have hl:=M.lt
 obtain⟨es,c,hb,e⟩:=M
 exact⟨es,c,by rw[f.same b hl hT];exact hb,e⟩
def rK(gw:List (ByteArray×Int))(k:ByteArray):Option Int:=match gw with
 |[]=>none
 |q::r=>if q.1=k then some q.2 else rK r k
theorem IR{t:TypeId}{h:Heap}{K:aL}(HK:∀h',rJ h' h.size []->Fr No h h'->h.size<h'.size->K (.map (some h.size)) h'):lQ aC (Instr.makeMap t none) h K:=by
 refine⟨fun w hw=> ?_⟩
 subst hw
 refine⟨_,_,run_makeMap_plain w t,⟨rfl,rfl,rfl⟩,HK _ ⟨#[],0,?_,rfl⟩ (Fr.push w.heap _) ?_⟩
 ·show(w.heap.push _)[w.heap.size]?=_
  simp
 ·show w.heap.size<(w.heap.push _).size
  simp
theorem rL{k:ByteArray}:∀(l:List MapEntry)(gw:List (ByteArray×Int))(i:Nat),l.map (fun e=>(e.key,e.val))=gw.map (fun q=>(VS q.1,VI q.2))->∃r,Instr.findNow .string (VS k) l i=some r/\r.map (·.2)=(rK gw k).map VI
 |[],[],i,_=>⟨none,rfl,rfl⟩
 |[],q::r,i,h=>by simp at h
 |e::l,[],i,h=>by simp at h
 |e::l,q::r,i,h=>by
  simp only[bK,qZ,fH]at h
  obtain⟨⟨h1,h2⟩,h3⟩:=h
  obtain⟨x,hx,hy⟩:=rL l r (i+1) h3
  unfold Instr.findNow rK
  rw[h1]
  by_cases hq:q.1=k
  ·have:Instr.sameNow .string (VS k) (VS q.1)=some true:=by
    show some (k==q.1)=some true
    rw[hq,(MapKept.bytes_beq k k).2 rfl]
   rw[this,aJ hq]
   exact⟨some (i,e.val),rfl,by simp[h2]⟩
  ·have:Instr.sameNow .string (VS k) (VS q.1)=some false:=by
    show some (k==q.1)=some false
    have:(k==q.1)=false:=by
     cases hb:(k==q.1)with
     |false=>rfl
     |true=>exact absurd ((MapKept.bytes_beq k q.1).1 hb).symm hq
    rw[this]
   rw[this,aF hq]
   exact⟨x,hx,hy⟩
theorem KT{t kt et:TypeId}{h:Heap}{b:Nat}{gw:List (ByteArray×Int)}{k:ByteArray}(hm:Tryz.prog.underlying t=some (.map kt et))(hk:Tryz.prog.underlying kt=some .string)(hz:qN aC et=some (VI 0))(M:rJ h b gw){K:Value->Prop}(HK:K (.tuple #[VI ((rK gw k).getD 0),VB (rK gw k).isSome])):CI aC (Instr.lookup t (.map (some b)) (VS k) true) h K:=by
 obtain⟨es,c,hb,e⟩:=M
 obtain⟨r,hr,hv⟩:=rL (k:=k) es.toList gw 0 e
 refine⟨_,fun w hw=> ?_,HK⟩
 subst hw
 have hc:(Instr.checkKey es.isEmpty 10000 kt (VS k)).run aC w= .ok () w:=MapKept.run_checkKey (k:= .string k) hk (by simp[MapKept.IsKey]) es.isEmpty 9999
 have hf:=MapKept.run_findKey (w:=w) hk hr
 have hzr:(zeroValue et).run aC w= .ok (VI 0) w:=by
  unfold qN at hz
  cases hi:Tryz.prog.info? et with
  |none=>rw[hi]at hz;simp at hz
  |some i=>
   rw[hi]at hz
   simp only[Option.bind_some]at hz
   unfold zeroValue
   rw[aV (fA hi w)]
   simp[hz,pure,Sem.run]
 unfold Instr.lookup
 simp only[jR,run_underlying hm,Result.andThen,MapKept.run_getObj_map hb,hc,hf]
 cases r with
 |none=>
  cases hs:rK gw k with
  |none=>simp[hc,hf,Sem.run,pure,hzr,Result.andThen]
  |some x=>rw[hs]at hv;simp at hv
 |some p=>
  cases hs:rK gw k with
  |none=>rw[hs]at hv;simp at hv
  |some x=>
   rw[hs]at hv
   simp only[Option.map_some,dC]at hv
   simp[hc,hf,Sem.run,pure,Result.andThen,hv]
theorem CV{t kt et:TypeId}{h:Heap}{b:Nat}{gw:List (ByteArray×Int)}{k:ByteArray}{x:Int}(hm:Tryz.prog.underlying t=some (.map kt et))(hk:Tryz.prog.underlying kt=some .string)(M:rJ h b gw)(hn:rK gw k=none){K:aL}(HK:∀v h',rJ h' b (gw++[(k,x)])->Fr (In [b]) h h'->K v h'):Hc aC (Instr.mapUpdate t (.map (some b)) (VS k) (VI x)) h K:=by
 have hl:=M.lt
 obtain⟨es,c,hb,e⟩:=M
 obtain⟨r,hr,hv⟩:=rL (k:=k) es.toList gw 0 e
 rw[hn]at hv
 have Fe:r=none:=by cases r with
  |none=>rfl
  |some p=>simp at hv
 subst Fe
 refine⟨fun w hw=> ?_⟩
 subst hw
 have hc:(Instr.checkKey false 10000 kt (VS k)).run aC w= .ok () w:=MapKept.run_checkKey (k:= .string k) hk (by simp[MapKept.IsKey]) false 9999
 have hf:=MapKept.run_findKey (w:=w) hk hr
 refine⟨{w with heap:=w.heap.setIfInBounds b (.map (es.push {key:=VS k,val:=VI x,born:=c}) (c+1))},?_,⟨rfl,rfl,rfl⟩,HK _ _ ⟨es.push {key:=VS k,val:=VI x,born:=c},c+1,?_,?_⟩ ⟨by simp,fun j hj fL=> ?_⟩⟩
 ·unfold Instr.mapUpdate
  simp only[jR,run_underlying hm,Result.andThen,MapKept.run_getObj_map hb,hc,hf,MapKept.run_setObj_map _ hb]
 ·simp only
  rw[A5,aJ rfl,aJ hl]
 ·rw[Array.toList_push,cV,cV,e]
  rfl
 ·simp only
  rw[A5,aF (fun hh=>fL (by simp[In,hh]))]
def IU(s:St):List UInt8:=Lib.decDigits s.2.toNat++[58]++fh s.1
def A6(s:St):ByteArray:=⟨(IU s).toArray⟩
theorem FC{a b:Int}(a0:0<=a)(a1:a<10)(b0:0<=b)(b1:b<10){x y:List UInt8}(h:Lib.decDigits a.toNat++x=Lib.decDigits b.toNat++y):a=b/\x=y:=by
 rw[Lib.decDigits_one (show a.toNat<10 by omega),Lib.decDigits_one (show b.toNat<10 by omega)]at h
 simp only[List.cons_append,List.nil_append,qZ]at h
 obtain⟨h1,h2⟩:=h
 have h3:=congrArg UInt8.toNat h1
 simp only[UInt8.toNat_ofNat']at h3
 exact⟨by omega,h2⟩
theorem IV:∀(us vs:aH),us.length=vs.length->(∀x,x∈us->0<=x/\x<10)->(∀x,x∈vs->0<=x/\x<10)->Lib.joinTail [44] (us.map fun x=>Lib.decDigits x.toNat)=Lib.joinTail [44] (vs.map fun x=>Lib.decDigits x.toNat)->us=vs
 |[],[],_,_,_,_=>rfl
 |[],_::_,h,_,_,_=>by simp at h
 |_::_,[],h,_,_,_=>by simp at h
 |a::us,b::vs,hl,ha,hb,h=>by
  simp only[Lib.joinTail,bK,List.flatten_cons,gX,List.cons_append,List.nil_append,qZ,true_and]at h
  have A:=ha a (cF ..)
  have B:=hb b (cF ..)
  obtain⟨e1,e2⟩:=FC A.1 A.2 B.1 B.2 h
  rw[e1,IV us vs (by simpa using hl) (fun x hx=>ha x (cO _ hx)) (fun x hx=>hb x (cO _ hx)) e2]
theorem Rl{us vs:aH}(hl:us.length=vs.length)(ha:∀x,x∈us->0<=x/\x<10)(hb:∀x,x∈vs->0<=x/\x<10)(h:fh us=fh vs):us=vs:=by
 match us,vs,hl,ha,hb,h with
 |[],[],_,_,_,_=>rfl
 |[],_::_,hl,_,_,_=>simp at hl
 |_::_,[],hl,_,_,_=>simp at hl
 |a::us,b::vs,hl,ha,hb,h=>
  unfold fh at h
  rw[aF (by simp),aF (by simp)]at h
  simp only[bK]at h
  rw[Lib.join_cons,Lib.join_cons]at h
  have A:=ha a (cF ..)
  have B:=hb b (cF ..)
  obtain⟨e1,e2⟩:=FC A.1 A.2 B.1 B.2 h
  rw[e1,IV us vs (by simpa using hl) (fun x hx=>ha x (cO _ hx)) (fun x hx=>hb x (cO _ hx)) e2]
theorem iJ{g:aE}{s:St}(W:iT g s):(∀x,x∈s.1->0<=x/\x<10)/\0<=s.2/\s.2<10/\s.1.length<=8:=by
 have hg:=bA W.cD
 have hl:=W.len
 have h0:=W.lo
 have h1:=W.hi
 refine⟨fun x hx=> ?_,h0,by omega,by omega⟩
 obtain⟨i,hi,rfl⟩:=wD hx
 have:=W.QH i hi (by omega)
 have hm:=(bL W.cD (bJ (show i<g.length by omega))).1
 omega
theorem key_inj{g:aE}{s t:St}(W:iT g s)(W':iT g t)(h:A6 s=A6 t):s=t:=by
 obtain⟨a1,a2,a3,_⟩:=iJ W
 obtain⟨b1,b2,b3,_⟩:=iJ W'
 have h:IU s=IU t:=by
  have:=congrArg (fun x=>x.data.toList) h
  simpa[A6]using this
 unfold IU at h
 rw[gX,gX]at h
 obtain⟨e1,e2⟩:=FC a2 a3 b2 b3 h
 simp only[List.cons_append,List.nil_append,qZ,true_and]at e2
 exact Prod.ext (Rl (by rw[W.len,W'.len]) a1 b1 e2) e1
def kvL(hs:List St):List (ByteArray×Int):=hs.zipIdx.map fun q=>(A6 q.1,(q.2:Int))
theorem Rm(hs:List St)(s:St):kvL (hs++[s])=kvL hs++[(A6 s,(hs.length:Int))]:=by
 unfold kvL
 rw[List.zipIdx_append,cV]
 simp
theorem M0{g:aE}{s:St}(W:iT g s):∀(hs:List St)(k:Nat),(∀t,t∈hs->iT g t)->rK ((hs.zipIdx k).map fun q=>(A6 q.1,(q.2:Int))) (A6 s)=(qA hs s).map fun m=>((m+k:Nat):Int)
 |[],k,_=>rfl
 |t::hs,k,h=>by
  rw[List.zipIdx_cons,bK,rK,qA]
  by_cases e:t=s
  ·rw[aJ (by rw[e]),aJ e];simp
  ·rw[aF fun hh=>e (key_inj (h t (cF ..)) W hh),aF e,M0 W hs (k+1) fun t ht=>h t (cO _ ht)]
   cases qA hs s with
   |none=>rfl
   |some m=>simp only[Option.map_some,dC];omega
theorem A7{g:aE}{s:St}(W:iT g s)(hs:List St)(h:∀t,t∈hs->iT g t):rK (kvL hs) (A6 s)=(qA hs s).map fun m=>((m:Nat):Int):=M0 W hs 0 h
theorem A8{S:aK}{h:Heap}{w:Sl}{rs:aH}{p:Int}(H:bC S h w rs)(B:∀x,x∈rs->0<=x/\x<100)(hn:rs.length<=1000)(p0:0<=p)(p1:p<100)(K:aL)(HK:∀h',Fr No h h'->K (VS (A6 (rs,p))) h'):aG aC 55 #[.agg #[w.v,VI p]] h K:=by
 refine v55 w p h K fun b1 h1 fK f1 cY=> ?_
 have f1:=f1.aM
 have d1:=vt (show p.toNat<100 by omega)
 have l1:=wM B
 refine Rf p0 p1 _ ⟨_,rfl,cY,?_,?_⟩
 ·rw[cU];show _+1<=_;omega
 refine AV (H.no f1) B hn _ fun h3 f3=>⟨_,rfl,cY.aB f3,?_,?_⟩
 ·rw[show(⟨#[58]⟩:ByteArray)=⟨[58].toArray⟩from rfl,fV,cU,cU,cB]
  show _+1+_<=_
  omega
 ·rw[show(⟨#[58]⟩:ByteArray)=⟨[58].toArray⟩from rfl,fV,fV]
  exact HK h3 (f1.trans f3)
theorem Ro{S S':aK}{h:Heap}{g w:Sl}{aI:aE}{rs:aH}{p:Int}(G:cG S h g aI)(H:bC S' h w rs)(W:iT aI (rs,p))(K:aL)(HK:∀h',Fr No h h'->K (.tuple #[VI (IP aI (rs,p)).1,VI (IP aI (rs,p)).2.1,VB (IP aI (rs,p)).2.2]) h'):aG aC 203 #[.agg #[g.v],.agg #[w.v,VI p]] h K:=by
 have hm:Tryz.prog.underlying 257=some (.map 9 3):=by kernel_rfl
 have hk:Tryz.prog.underlying 9=some .string:=by kernel_rfl
 have hz:qN aC 3=some (VI 0):=by kernel_rfl
 have wl:=W.len
 have ws:=iJ W
 have ws4:rs.length<=8:=ws.2.2.2
 refine v203 g w p h K fun b1 b2 h2 fK eN f2 cC=> ?_
 have f2:=f2.aM
 have z2:=f2.size
 have l2:b2<h2.size:=cC.head.lt
 have l1:b1<h2.size:=cC.tail.head.lt
 refine IR fun h3 M3 f3 s3=>⟨_,rfl,cC.aB f3,?_⟩
 have jm:=f2.trans f3
 refine jW (H.no jm) p (by omega) _ fun u h4 o4 f4=>⟨u,p,rfl,(cC.aB f3).aB f4,fun b3 h6 jv f6 jx=> ?_⟩
 have f6:=f6.aM
 have z4:=f4.size
 have z6:=f6.size
 have l3:b3<h6.size:=jx.head.lt
 have f36:=f4.trans f6
 generalize hF:(fun k=>Iv h3.size h4.size k\/k=b3)=F
 have F1:∀k,F k->h2.size<k:=fun k hk=>by rw[<-hF]at hk;rcases hk with hk|hk;exact fQ s3 hk.1;omega
 have F2:∀k,Iv h3.size h4.size k->F k:=fun k hk=>by rw[<-hF];exact .inl hk
 have F3:F b3:=by rw[<-hF];exact .inr rfl
 have o6:cH h6 F u rs:=(Ow.no o4 f6).mono fun k _ hk=>F2 k hk
 have hub:¬u.own b3:=fun hk=>by have:=(o4.aS hk).2;omega
 have yw:∀{x:Heap},Fr (fun k=>h2.size<=k) h x->Fr No h x:=fun f=>f.mono fun k hk aQ=>absurd aQ (by omega)
 have G0:cG (fun k=>S k/\k<h.size) h g aI:=G.yG
 refine⟨fun x q h'=>IP aI (rs,p)=(0,0,false)/\Fr (fun k=>h2.size<=k) h h',⟨fun n i x q h'=>∃(hs:List St)(s:St),i=(hs.length:Int)/\n+hs.length=2001/\q=s.2/\cH h' F x s.1/\¬x.own b3/\rJ h' h2.size (kvL hs)/\(∀t,t∈hs->iT aI t)/\iT aI s/\IP aI (rs,p)=IL aI n hs.length s hs/\Fr (fun k=>h2.size<=k) h h',⟨2001,[],(rs,p),rfl,rfl,rfl,o6,hub,M3.fr f36 (fun h=>h),fun t ht=>(by cases ht),W,rfl,(jm.trans f36).aB⟩,?_⟩,?_⟩
 ·rintro n i x q h7 ⟨hs,s,rfl,en,rfl,o7,hx,M7,Wh,Ws,eP,f7⟩ kL
  have ss:=iJ Ws
  refine⟨fun e=> ?_,fun e=> ?_⟩
  ·simp only[aT]at e
   obtain⟨n,rfl⟩:∃n',n=n'+1:=⟨n-1,by omega⟩
   rw[IL]at eP
   refine A8 (show bC _ h7 x s.1 from o7.fM) (fun y hy=>by have:=ss.1 y hy;omega) (by omega) ss.2.1 (by omega) _ fun h8 f8=>⟨_,rfl,kL.aB f8,?_⟩
   have M8:=M7.fr f8 (fun h=>h)
   refine KT hm hk hz M8 ⟨_,_,rfl,fun e2=> ?_,fun e2=> ?_⟩
   ·rw[A7 Ws hs Wh]at e2⊢
    cases hi:qA hs s with
    |none=>rw[hi]at e2;cases e2
    |some m=>
     rw[hi]at eP
     simp only at eP
     have hml:=(Af.1 (sM hi)).1
     simp only[Option.map_some,Option.getD_some]
     rw[aP _ (by omega) (by omega)]
     have:=HK h8 ((yw f7).trans f8)
     rw[eP]at this
     exact this
   ·rw[A7 Ws hs Wh]at e2
    cases hi:qA hs s with
    |some m=>rw[hi]at e2;cases e2
    |none=>
     rw[hi]at eP
     simp only at eP
     refine CV hm hk M8 (by rw[A7 Ws hs Wh,hi];rfl) fun v h9 M9 f9=>⟨?_,?_⟩
     ·exact(kL.aB f8).fr f9 fun q hq hk=>by
       simp only[aO,aR,aN]at hq
       simp only[In,aO,aR,aN]at hk
       rcases hq with rfl|rfl|rfl<;>simp only at hk<;>omega
     have iG:Vars h9 [(b3,[x.v,VI s.2]),(b2,[w.v,VI p]),(b1,[g.v])]:=(kL.aB f8).fr f9 fun q hq hk=>by
      simp only[aO,aR,aN]at hq
      simp only[In,aO,aR,aN]at hk
      rcases hq with rfl|rfl|rfl<;>simp only at hk<;>omega
     have f79:Fr (fun k=>h2.size<=k) h7 h9:=f8.aB.trans (f9.mono fun k _ hk=>by simp[In]at hk;omega)
     have o9:cH h9 F x s.1:=Ow.fr (Ow.no o7 f8) f9 fun k hk aQ=>by have:=F1 _ (o7.aS hk).1;simp[In]at aQ;omega
     have TS:=f7.trans f79
     have M9':rJ h9 h2.size (kvL (hs++[s])):=by rw[Rm];exact M9
     have G9:cG (fun k=>S k/\k<h.size) h9 g aI:=G0.fr TS fun k hk aQ=>by omega
     refine Fa (s:=s) G9 iG.head o9 (fun k hk aQ=>by have:=F1 _ aQ;omega) F3 hx Ws _ (fun hn eW f10=>⟨x,s.2,false,rfl,iG.aB f10,fun _=> ?_,fun e=>by cases e⟩) (fun s' J9 eW kW CF f10=>⟨x,s'.2,true,rfl,?_,fun e=>(by cases e),fun _=> ?_⟩)
     ·rw[hn]at eP
      exact⟨eP,TS.trans f10.aB⟩
     ·exact .cons CF (iG.ne) (iG.tail.fr f10 fun q hq hk=>by
       simp only[aO,aR,aN]at hq
       have:=F1 _ hk
       rcases hq with rfl|rfl<;>simp only at this<;>omega)
     ·rw[J9]at eP
      simp only at eP
      refine⟨n,by omega,hs++[s],s',?_,by simp;omega,rfl,kW,hx,M9'.fr f10 fun hk=>by have:=F1 _ hk;omega,fun t ht=> ?_,Ws.step J9,by rw[eP];simp,TS.trans (f10.mono fun k _ hk=>by have:=F1 _ hk;omega)⟩
      ·rw[aP _ (by omega) (by omega)];simp
      ·rcases gI.1 ht with ht|ht
       ·exact Wh t ht
       ·simp only[aO,aR,aN]at ht
        rw[ht];exact Ws
  ·simp only[aY]at e
   have:n=0:=by omega
   subst this
   exact⟨eP,f7⟩
 ·rintro x q gP ⟨eP,f11⟩ fJ
  have:=HK gP (yw f11)
  rw[eP]at this
  exact this
theorem tM(b:Nat):∀(vs:List Value)(i o:Nat)(w:World),(World.setCells w b (o+i) vs).heap=(vs.zipIdx i).foldl (fun h p=>Mx.dR h ((⟨b,o,none⟩:Addr).add p.2) p.1) w.heap/\dV w (World.setCells w b (o+i) vs)
 |[],i,o,w=>⟨rfl,dV.refl _⟩
 |v::vs,i,o,w=>by
  rw[World.setCells,List.zipIdx_cons,List.foldl_cons,iW]
  obtain⟨a,b'⟩:=tM b vs (i+1) o (w.setCell ⟨b,o+i,none⟩ v)
  rw[show o+i+1=o+(i+1) by omega,a]
  exact⟨rfl,dV.trans (b:=w.setCell ⟨b,o+i,none⟩ v) ⟨rfl,rfl,rfl⟩ b'⟩
theorem Ow.afz{F:aK}{e:TypeId}{s:Sl}{g o:Nat}(ha:s.a=some ⟨g,o,none⟩):∀(vs:List Value)(i:Nat){h:Heap}{cs:List Value},Ow h F e 1 s cs->i+vs.length<=s.n->
 Fr s.own h ((vs.zipIdx i).foldl (fun h p=>Mx.dR h ((⟨g,o,none⟩:Addr).add p.2) p.1) h)/\Ow ((vs.zipIdx i).foldl (fun h p=>Mx.dR h ((⟨g,o,none⟩:Addr).add p.2) p.1) h) F e 1 s (cs.take i++vs++cs.drop (i+vs.length))
 |[],i,h,cs,H,_=>⟨Fr.refl _ _,by simpa using H⟩
 |v::vs,i,h,cs,H,hl=>by
  simp only[List.length_cons]at hl
  simp only[List.zipIdx_cons,List.foldl_cons]
  have hc:=H.len
  have jM:((i:Nat):Int)<(s.n:Int):=by omega
  have h0':(0:Int)<=((i:Nat):Int):=by omega
  obtain⟨_,a2,a3⟩:=H.gH h0' jM v
  have ea:s.at (i:Int) 1=(⟨g,o,none⟩:Addr).add i:=by rw[at_one ha];rfl
  rw[ea]at a2 a3
  rw[show((i:Nat):Int).toNat=i from rfl]at a2
  obtain⟨b1,b2⟩:=Ow.afz ha vs (i+1) a2 (by omega)
  refine⟨a3.trans b1,?_⟩
  have eq1:(cs.set i v).take (i+1)++vs++(cs.set i v).drop (i+1+vs.length)=cs.take i++(v::vs)++cs.drop (i+(v::vs).length):=by
   have e1:(cs.set i v).take (i+1)=cs.take i++[v]:=by
    rw[og (by simp;omega),List.take_set_of_le (aW _)]
    simp
   have e2:(cs.set i v).drop (i+1+vs.length)=cs.drop (i+(v::vs).length):=by
    rw[List.drop_set_of_lt (by omega)]
    congr 1
    simp;omega
   rw[e1,e2]
   simp
  rw[<-eq1]
  exact b2
theorem Rp{h:Heap}{F:aK}{s:Sl}{xs:aH}(O:cH h F s xs){i:Nat}(hi:i<xs.length)(K:aL)(HK:∀t h',cH h' F t (xs.eraseIdx i)->Fr s.own h h'->(∀k,t.own k->s.own k)->K t.v h'):aG aC 258 #[s.v,VI i,VI (i+1:Nat)] h K:=by
 have sn:s.n=xs.length:=by have:=O.len;simpa using this.symm
 rcases O.out with⟨_,hv⟩|⟨g,o,ma,ha,hF,hg,h1,h2,h3,h4⟩
 ·rw[List.map_eq_nil_iff]at hv
  rw[hv]at hi
  simp at hi
 have hsv:s.v= .slice (some ⟨g,o,none⟩) xs.length s.c:=by unfold Sl.v;rw[ha,<-sn]
 refine⟨fun w hw=> .inr ⟨258,_,w,Go.Proofs.enters_of Tryz.func258 (by kernel_rfl) rfl _ _,rfl,?_⟩⟩
 subst hw
 rw[hsv]
 refine(Tryz.slices_Delete_int_cells g o xs.length s.c i (i+1) xs w (aW _) (by omega) (by have:=h2;simp only[maxLen]at this;omega) (by omega) (by omega) (fun j hj=> ?_) (fun j hj=> ?_)).mono ?_
 ·have:=Ow.EO O (i:=j) (by simpa using hj)
  rw[at_one ha]at this
  rw[y9,<-ua,bB hj]
  simpa using this
 ·rw[NK]
  exact Hw hg
 ·rintro e w' ⟨rfl,q,rfl⟩
  rw[cT (aW _),show i+1-i=1 by omega]
  obtain⟨a1,a2⟩:=tM g ((xs.take i++xs.drop (i+1)++List.replicate 1 0).map (Value.int .i64)) 0 o (w.drewN q)
  rw[Nat.add_zero]at a1 a2
  have ell:(xs.take i++xs.drop (i+1)++List.replicate 1 (0:Int)).length=xs.length:=by simp;omega
  obtain⟨b1,b2⟩:=Ow.afz ha ((xs.take i++xs.drop (i+1)++List.replicate 1 (0:Int)).map (Value.int .i64)) 0 O (by rw[bG,ell];omega)
  refine⟨_,rfl,dV.trans (b:=w.drewN q) ⟨rfl,rfl,rfl⟩ a2,?_⟩
  rw[a1]
  have b3:=Ow.cut b2 (l:=0) (m:=xs.length-1) (by omega) (by omega)
  have et:s.cut 1 0 (xs.length-1) s.c=⟨some ⟨g,o,none⟩,xs.length-1,s.c⟩:=by
   unfold Sl.cut
   rw[ha,aF (by omega)]
   rfl
  rw[et]at b3
  refine HK ⟨some ⟨g,o,none⟩,xs.length-1,s.c⟩ _ ?_ b1 fun k hk=>by unfold Sl.own at*;rw[ha];exact hk
  have ex:(((List.take 0 (xs.map VI)++(xs.take i++xs.drop (i+1)++List.replicate 1 (0:Int)).map (Value.int .i64)++List.drop (0+((xs.take i++xs.drop (i+1)++List.replicate 1 (0:Int)).map (Value.int .i64)).length) (xs.map VI)).drop (0*1)).take ((xs.length-1-0)*1))=(xs.eraseIdx i).map VI:=by
   rw[bG,ell,kk (l:=xs.map VI) (by simp),jb,List.take_zero,List.nil_append,Nat.zero_mul,qR,cV,List.take_append_of_le_length (by simp;omega),cT (by simp;omega),List.eraseIdx_eq_take_drop_succ]
  rw[ex]at b3
  exact b3
end Go.Proofs.YtcnfcnoooecchaaGreatDoor
