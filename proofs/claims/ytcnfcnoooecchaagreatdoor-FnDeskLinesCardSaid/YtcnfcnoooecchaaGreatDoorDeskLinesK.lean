import Derived.Test.YtcnfcnoooecchaaGreatDoorDeskLinesK4
set_option linter.unusedVariables false
set_option linter.unusedSimpArgs false
namespace Go.Proofs.YtcnfcnoooecchaaGreatDoor
open Go Go.Mx
set_option maxHeartbeats 2000000 in
theorem TE{h:Heap}{g w:Sl}{d:Dk}{S S':aK}(G:cG S h g d.1)(W:bC S' h w d.2.1)(ok:pu d){s:ByteArray}(hs:s.size<=3000)(K:aL)(HK:∀(g' w':Sl)(T T':aK) h',cG T h' g' (fO d s.data.toList).1.1->bC T' h' w' (fO d s.data.toList).1.2.1->(∀k,T k\/T' k->(S k\/S' k\/h.size<=k)/\k<h'.size)->Fr No h h'->K (.tuple #[.agg #[g'.v,w'.v,VI (fO d s.data.toList).1.2.2],VS ⟨(fO d s.data.toList).2.toArray⟩]) h'):aG aC 47 #[.agg #[g.v,w.v,VI d.2.2],VS s] h K:=by
 refine v47 g w d.2.2 s h K fun b1 b2 h2 fK eN f2 cC=> ?_
 have f2:=f2.aM
 have z2:=f2.size
 have Cx:b2<h2.size:=cC.head.lt
 have n1:∀{b k:Nat},In [b] k->k=b:=fun hk=>by simpa[In]using hk
 have uU:∀{X:Heap},h.size<=X.size->∀k,(S k/\k<h.size)\/(S' k/\k<h.size)->(S k\/S' k\/h.size<=k)/\k<X.size:=fun hz k hk=>by
  rcases hk with hk|hk
  ·exact⟨.inl hk.1,by omega⟩
  ·exact⟨.inr (.inl hk.1),by omega⟩
 obtain⟨x0,hx⟩:=Pm d (Eg 32 s.data.toList)
 refine TC g w d.2.2 hs _ (fun e w1 x1 x2 x3 x4 x5 h3 f3=> ?_) fun r e w1 x4 x5 S4 S5 h3 hw G4 N5 h45 f3=> ?_
 ·refine⟨w1,x1,x2,x3,x4,x5,false,rfl,cC.aB f3,fun _=>fun b3 h6 jv f6 _=> ?_,fun e=>by cases e⟩
  have el:fO d s.data.toList=(d,[119,104,97,116]):=by unfold fO;rw[x0 e];rfl
  rw[el]at HK
  have f:=(f2.aA f3).aB.trans f6
  exact HK g w _ _ h6 (G.yG.fr f fun k hk aQ=>by have:=n1 aQ;have:=hk.2;omega) (bC.fr (eC.lt W) f fun k hk aQ=>by have:=n1 aQ;have:=hk.2;omega) (uU f.size) ((f2.aA f3).fresh f6 fun k hk=>by have:=n1 hk;omega)
 ·obtain⟨a,ea,hM⟩:=hx r e
  have el:fO d s.data.toList=tD d a:=by unfold fO;rw[ea];rfl
  rw[el]at HK
  rw[<-hw]at hM
  refine⟨w1,g,w,d.2.2,x4,x5,true,rfl,cC.aB f3,fun e=>(by cases e),fun _=>fun b3 h5 jv f5 ie=> ?_⟩
  have f5:=f5.aM
  have ta:=(f2.aA f3).aA f5
  have z3:=f3.size
  have z5:=f5.size
  have wMA:(∃x,x=true/\yV d w1.data.toList r.1 r.2 a)\/(∃x,x=false/\pt d w1.data.toList r.2 a):=hM.elim (fun h=> .inl ⟨_,rfl,h⟩) fun h=> .inr ⟨_,rfl,h⟩
  refine⟨fun x h'=>h5=h'/\(x=true->yV d w1.data.toList r.1 r.2 a)/\(x=false->pt d w1.data.toList r.2 a),?_,?_⟩
  ·simp only[Nz]
   have pos:∀{l:List UInt8},l∈[[103,114,97,112,104],[97,100,100],[97,116],[116,117,114,110],[115,116,101,112],[114,117,110]]->w1.data.toList=l->yV d w1.data.toList r.1 r.2 a:=fun{l} hl e=>hM.elim id fun A=>by
    exfalso
    unfold pt at A
    rw[e]at A
    simp only[aO,aR,aN]at hl
    rcases hl with rfl|rfl|rfl|rfl|rfl|rfl<;>revert A<;>simp[Cv]
   have bt:∀{l:List UInt8},l∈[[103,114,97,112,104],[97,100,100],[97,116],[116,117,114,110],[115,116,101,112],[114,117,110]]->decide (w1.data.toList=l)=true->True/\(decide (w1.data.toList=l)=true->yV d w1.data.toList r.1 r.2 a)/\(decide (w1.data.toList=l)=false->pt d w1.data.toList r.2 a):=fun{l} hl e=>⟨trivial,fun _=>pos hl (qX e),fun e2=>by rw[e]at e2;cases e2⟩
   refine⟨fun e=>bt (by simp) e,fun e=>⟨fun e2=>bt (by simp) e2,fun e2=>⟨fun e3=>bt (by simp) e3,fun e3=>⟨fun e4=>bt (by simp) e4,fun e4=>⟨fun e5=>bt (by simp) e5,fun e5=>⟨trivial,fun e6=>pos (by simp) (qX e6),fun e6=>hM.elim (fun M=> ?_) id⟩⟩⟩⟩⟩⟩
   exfalso
   simp only[aY]at e e2 e3 e4 e5 e6
   rcases M with⟨hw,_⟩|⟨hw,_⟩|⟨hw,_⟩|⟨hw,_⟩|⟨hw,_⟩|⟨hw,_⟩
   ·exact e hw
   ·exact e2 hw
   ·exact e3 hw
   ·exact e4 hw
   ·exact e5 hw
   ·exact e6 hw
  rintro x _ ⟨rfl,q1,q2⟩ kL
  have Yd:b3<h5.size:=kL.head.lt
  have V7:Vars h5 [(b3,[g.v,w.v,VI d.2.2,x4.v,x5.v])]:= .cons kL.head (by simp) .nil
  refine⟨fun e1=> ?_,fun e1=> ?_⟩
  ·have D:NB (fun k=>k=b3\/k=b2\/(k<h.size/\¬S k/\¬S' k)) h5 g w d:=NB.of (G.yG.no ta) (bC.no (eC.lt W) ta) fun k hk _ hz=>by
    rcases hz with rfl|rfl|hz
    ·rcases hk with hk|hk<;>(have:=hk.2;omega)
    ·rcases hk with hk|hk<;>(have:=hk.2;omega)
    ·rcases hk with hk|hk
     ·exact hz.2.1 hk.1
     ·exact hz.2.2 hk.1
   refine XS (Z:=fun k=>k=b3\/k=b2\/(k<h.size/\¬S k/\¬S' k)) (fun k hk=>by rcases hk with rfl|rfl|hk<;>omega) (.inl rfl) V7 D ok (G4.yG.no f5) (bC.no (eC.lt N5) f5) (fun k hk hz=> ?_) (q1 e1) _ fun y1 y2 y4 y5 h8 D8 V8 f8=> ?_
   ·have hk:h2.size<=k/\k<h3.size:=by
     rcases hk with hk|hk
     ·exact⟨h45 k (.inl hk.1),hk.2⟩
     ·exact⟨h45 k (.inr hk.1),hk.2⟩
    rcases hz with rfl|rfl|hz<;>omega
   have f8b:Fr (fun k=>k=b3) h5 h8:=f8.mono fun k hk h2=>by rcases h2 with h2|h2;exact h2;omega
   refine⟨y1,y2,_,y4,y5,_,rfl,kL.set (i:=0) rfl f8b V8.head,fun h9 f9 _=> ?_⟩
   obtain⟨T,T',A,B,q⟩:=D8.fr f9 fun k hk=> .inl (.inr (.inl (n1 hk)))
   exact HK y1 y2 _ _ h9 A B (fun k hk=>⟨by
    have:=(q k hk).1
    by_cases h1:S k
    ·exact .inl h1
    by_cases h2:S' k
    ·exact .inr (.inl h2)
    ·exact .inr (.inr (by
      rcases Nat.lt_or_ge k h.size with h3|h3
      ·exact absurd (.inr (.inr ⟨h3,h1,h2⟩)) this
      ·exact h3)),(q k hk).2⟩) ((ta.fresh f8 fun k hk=>by rcases hk with rfl|hk<;>omega).fresh f9 fun k hk=>by have:=n1 hk;omega)
  ·have A:=q2 e1
   have er:=XT A
   refine XU V7 (G.no ta) (bC.no W ta) ok (bC.no N5 f5) A _ fun eW f10=>⟨g,w,d.2.2,x4,x5,_,rfl,kL.aB f10,fun gP f11 _=> ?_⟩
   have f:=(ta.aA f10).aB.trans f11
   have:=HK g w _ _ gP (by rw[er];exact G.yG.fr f fun k hk aQ=>by have:=n1 aQ;have:=hk.2;omega) (by rw[er];exact bC.fr (eC.lt W) f fun k hk aQ=>by have:=n1 aQ;have:=hk.2;omega) (uU f.size) ((ta.aA f10).fresh f11 fun k hk=>by have:=n1 hk;omega)
   rw[er]at this
   exact this
theorem XV{h:Heap}{g w:Sl}{d:Dk}{S S':aK}(G:cG S h g d.1)(W:bC S' h w d.2.1)(ok:pu d)(K:aL)(HK:∀(g' w':Sl)(T T':aK) h',cG T h' g' d.1->bC T' h' w' d.2.1->(∀k,T k\/T' k->h.size<=k/\k<h'.size)->Fr No h h'->K (.agg #[g'.v,w'.v,VI d.2.2]) h'):aG aC 48 #[.agg #[g.v,w.v,VI d.2.2]] h K:=by
 have dl:=nX ok
 have gl:=bA (dN ok).cD
 have wl:d.2.1.length=d.1.length:=(dN ok).len
 have n1:∀{b k:Nat},In [b] k->k=b:=fun hk=>by simpa[In]using hk
 refine v48 g w d.2.2 h K fun b1 b2 b3 h3 fK eN jv f3 dI=> ?_
 have f3:=f3.aM
 have z3:=f3.size
 have Yd:b3<h3.size:=dI.head.lt
 have Cx:b2<h3.size:=dI.tail.head.lt
 have lb1:b1<h3.size:=dI.tail.tail.head.lt
 have fin:∀{h':Heap},Fr (fun k=>k=b3\/h3.size<=k) h3 h'->Fr No h h':=fun f=>f3.fresh f fun k hk=>by rcases hk with rfl|hk<;>omega
 refine⟨fun n i x1 x2 x3 h'=>0<=i/\i+n=(d.1.length:Int)/\gy h' (fun k=>h3.size<=k) x1 (d.1.take i.toNat)/\Fr (fun k=>k=b3\/h3.size<=k) h3 h',⟨d.1.length,by omega,by omega,dJ.nil _ _ _ _,Fr.refl _ _⟩,?_⟩
 rintro n i x1 x2 x3 h4 ⟨i0,i1,X,F4⟩ eM
 have z4:=F4.size
 have G4:=G.no (fin F4)
 have W4:=bC.no W (fin F4)
 have gn:=G4.len
 refine⟨fun e=> ?_,fun e=> ?_⟩
 ·have il:=G4.lt e
  obtain⟨si,c1,r1⟩:=G4.get i0 il
  have il2:i.toNat<d.1.length:=by omega
  have rl:=(bL (dN ok).cD (bJ il2)).1
  refine⟨G4.bM i0 il,si,c1,nP r1 (by omega) _ fun t h5 o5 f5=>⟨t,rfl,eM.aB f5,?_⟩⟩
  have z5:=f5.size
  refine rA (F:=fun k=>h3.size<=k) (m:=h4.size) ((dJ.no (X.mono fun k hk hF=>⟨hF,hk⟩) f5)) (Ow.mono o5 fun k _ hk=>hk.1) (fun k hk=>by omega) (by omega) (eM.aB f5) (fun p hp hk=> ?_) (by rw[fI];omega) _ fun t2 h7 o7 f7 V7 h8 f8 _=> ?_
  ·have:p.1<h3.size:=by
    simp only[aO,aR,aN]at hp
    rcases hp with rfl|rfl|rfl
    ·exact Yd
    ·exact Cx
    ·exact lb1
   omega
  have eI:aX (i+1)=i+1:=G4.succ i0 il
  rw[eI]
  refine⟨n-1,by omega,by omega,by omega,?_,((F4.trans f5.aB).trans (f7.mono fun k _ hk=> .inr hk)).trans (f8.mono fun k _ hk=> .inl (n1 hk))⟩
  rw[show(i+1).toNat=i.toNat+1 by omega,wN,dY il2]
  exact o7.fr f8 fun k _ hk aQ=>by have:=n1 aQ;omega
 ·have il:=G4.ge e
  rw[cT (by omega)]at X
  refine nP W4 (by omega) _ fun t h9 o9 f9=>⟨t,rfl,eM.aB f9,fun gP f11 _=> ?_⟩
  have z9:=f9.size
  have Pu:=f11.size
  have n23:∀{k:Nat},In [b2,b3] k->k=b2\/k=b3:=fun hk=>by simpa[In]using hk
  refine HK x1 t (fun k=>h3.size<=k/\k<gP.size) (fun k=>h3.size<=k/\k<gP.size) gP ((dJ.fr (dJ.no X f9) f11 fun k _ hk aQ=>by rcases n23 aQ with h|h<;>omega).rd.mono fun k hk=>hk) ((Ow.fr o9 f11 fun k hk aQ=>by have:=(o9.aS hk).1.1;rcases n23 aQ with h|h<;>omega).fM.mono fun k hk=>⟨by have:=hk.1;omega,by have:=hk.2;omega⟩) (fun k hk=>by rcases hk with hk|hk<;>omega) (((fin F4).aA f9).fresh f11 fun k hk=>by rcases n23 hk with h|h<;>omega)
theorem TF{c:UInt8}{l:List UInt8}:1<(jy c l).length↔c∈l:=by
 rw[<-GV]
 by_cases h:0<=Lib.indexByte l c
 ·obtain⟨i,hi⟩:=Int.eq_ofNat_of_zero_le h
  rw[KM hi,List.length_cons]
  have:=vo.2 (Eg c (l.drop (i+1)))
  omega
 ·have:=Lib.indexByte_ge l c
  rw[Fx (by omega),List.length_singleton]
  omega
theorem yW{h:Heap}{S S':aK}{g w:Sl}{d:Dk}(G:cG S h g d.1)(W:bC S' h w d.2.1)(s:ByteArray)(K:aL)
 (HN:fc d s.data.toList=none->∀h',Fr No h h'->K (.tuple #[.agg #[aD.v,aD.v,VI 0],VS ⟨#[]⟩,VB false]) h')
 (HS:∀r,fc d s.data.toList=some r->∀(g' w':Sl)(T T':aK) h',cG T h' g' r.1.1->bC T' h' w' r.1.2.1->(∀k,T k\/T' k->h.size<=k/\k<h'.size)->Fr No h h'->K (.tuple #[.agg #[g'.v,w'.v,VI r.1.2.2],VS ⟨r.2.toArray⟩,VB true]) h'):aG aC 12 #[.agg #[g.v,w.v,VI d.2.2],VS s] h K:=by
 refine v12 g w d.2.2 s h K fun b1 b2 h2 fK eN f2 cC=> ?_
 have f2:=f2.aM
 have z2:=f2.size
 have Cx:b2<h2.size:=cC.head.lt
 have n2:∀{k:Nat},In [b2] k->k=b2:=fun hk=>by simpa[In]using hk
 have tJ:=lU s
 refine CQ (G.no f2) (eC.no W f2) d.2.2 _ fun h3 f3=>⟨_,rfl,cC.aB f3,fun e=>fun gP f11 _=> ?_,fun e=>⟨fun e2=>fun eW f10 _=> ?_,fun e2=> ?_⟩⟩
 ·refine HN ?_ _ ((f2.aA f3).fresh f11 fun k hk=>by have:=n2 hk;omega)
  unfold fc
  rw[aF (fun h=>by rw[h.1]at e;cases e)]
 ·refine HN ?_ _ ((f2.aA f3).fresh f10 fun k hk=>by have:=n2 hk;omega)
  unfold fc
  simp only[aT]at e2
  rw[aF (fun h=>by have:=h.2.1;omega)]
 ·simp only[aY]at e2
  have jm:=f2.aA f3
  have z3:=f3.size
  have ok:pu d:=bQ e
  refine EA 10 (by omega) _ fun t ps h4 ti O4 f4=>⟨t,rfl,(cC.aB f3).aB f4,fun e3=>fun h5 f5 _=> ?_,fun e3=> ?_⟩
  all_goals
   have tn:=O4.rd.len
   rw[bG,gL]at tn
   have hpl:ps.length=(jy 10 s.data.toList).length:=by rw[<-ti,bG]
   have z4:=f4.size
  ·refine HN ?_ _ ((jm.aA f4).fresh f5 fun k hk=>by have:=n2 hk;omega)
   unfold fc
   simp only[aT]at e3
   rw[aF (fun h=>h.2.2 (TF.1 (by omega)))]
  ·have jk:=jm.aA f4
   simp only[aY]at e3
   have e3:10∉s.data.toList:=fun h=>e3 (by have:=TF.2 h;omega)
   refine TE (G.no jk) (eC.no W jk) ok (by omega) _ fun g6 w6 T T' h6 G6 W6 _ f6=>⟨g6,w6,_,_,rfl,((cC.aB f3).aB f4).aB f6,fun b3 h8 jv f8 gK=> ?_⟩
   have f8:=f8.aM
   have z6:=f6.size
   have z8:=f8.size
   have hP:fc d s.data.toList=some (fO d s.data.toList):=by unfold fc;rw[aJ ⟨ok,by omega,e3⟩]
   refine XV (G6.no f8) (bC.no W6 f8) (JR ok _) _ fun g9 w9 T9 T9' h9 G9 W9 q9 f9=>⟨g9,w9,_,rfl,gK.aB f9,fun eW f10 _=> ?_⟩
   have z9:=f9.size
   have AF:=f10.size
   exact HS _ hP g9 w9 T9 T9' _ (G9.fr f10 fun k hk aQ=>by have:=(q9 k (.inl hk)).1;have:=n2 aQ;omega) (bC.fr W9 f10 fun k hk aQ=>by have:=(q9 k (.inr hk)).1;have:=n2 aQ;omega) (fun k hk=>by have:=q9 k hk;omega) ((((jk.aA f6).aA f8).aA f9).fresh f10 fun k hk=>by have:=n2 hk;omega)
def agZ:Dk:=([],([],0))
theorem XN.nil(n:Nat)(h:Heap):XN n h aD aD agZ No No:=⟨dJ.nil _ _ _ _,Ow.nil _ _ _ _,fun k hk=>hk.elim,fun k hk=>hk.elim,fun k hk=>hk.elim⟩
noncomputable def yX(d:Dk)(s:List UInt8):Dk×(List UInt8×Bool):=(fc d s).elim (agZ,([],false)) fun r=>(r.1,(r.2,true))
theorem TG{X:Heap}{S S':aK}{g w:Sl}{d:Dk}(G:cG S X g d.1)(W:bC S' X w d.2.1)(s:ByteArray)(K:aL)
 (HK:∀(g' w':Sl)(T T':aK) h',cG T h' g' (yX d s.data.toList).1.1->bC T' h' w' (yX d s.data.toList).1.2.1->(∀k,T k\/T' k->X.size<=k/\k<h'.size)->Fr No X h'->K (.tuple #[.agg #[g'.v,w'.v,VI (yX d s.data.toList).1.2.2],VS ⟨(yX d s.data.toList).2.1.toArray⟩,VB (yX d s.data.toList).2.2]) h'):aG aC 12 #[.agg #[g.v,w.v,VI d.2.2],VS s] X K:=by
 refine yW G W s _ (fun e h' f=> ?_) fun r e g' w' T T' h' G' W' q f=> ?_
 ·unfold yX at HK
  rw[e]at HK
  exact HK aD aD No No h' ((dJ.nil h' No qx tI).rd.mono fun k hk=>hk.1) (eC.nil _ _ _) (fun k hk=>by rcases hk with hk|hk<;>exact hk.elim) f
 ·unfold yX at HK
  rw[e]at HK
  exact HK g' w' T T' h' G' W' q f
theorem vS{X:Heap}(GX:jG X){S S':aK}{g w:Sl}{d:Dk}(G:cG S X g d.1)(W:bC S' X w d.2.1)(s:ByteArray)(K:aL)
 (HK:∀(g' w':Sl)(F F':aK) h',XN X.size h' g' w' (yX d s.data.toList).1 F F'->Fr No X h'->K (.tuple #[.agg #[g'.v,w'.v,VI (yX d s.data.toList).1.2.2],VS ⟨(yX d s.data.toList).2.1.toArray⟩,VB (yX d s.data.toList).2.2]) h'):aG aC 11 #[.agg #[g.v,w.v,VI d.2.2],VS s] X K:=by
 refine Cz GX G W s _ (fun e h' f=> ?_) fun r e g' w' F F' h' D f=> ?_
 ·unfold yX at HK
  rw[e]at HK
  exact HK aD aD No No h' (XN.nil _ _) f
 ·unfold yX at HK
  rw[e]at HK
  exact HK g' w' F F' h' D f
theorem adU{x:Int}(h0:0<=x)(h1:x<10){c:UInt8}(hc:c∈Lib.decDigits x.toNat):44<=c.toNat/\c.toNat<=59:=by
 rw[zy h0 h1]at hc
 exact(by decide:∀n:Fin 10,∀c,c∈[UInt8.ofNat (48+n.val)]->44<=c.toNat/\c.toNat<=59) ⟨x.toNat,by omega⟩ c hc
theorem GW{g:aE}(hg:aZ g=true){c:UInt8}(hc:c∈lP g):44<=c.toNat/\c.toNat<=59:=by
 unfold lP at hc
 rw[rF]at hc
 rcases AY hc with rfl|⟨w,hw,hd⟩
 ·decide
 obtain⟨l,hl,rfl⟩:=dL.1 hw
 unfold fh at hd
 split at hd
 ·simp only[aO,aR,aN]at hd
  subst hd
  decide
 rw[rF]at hd
 rcases AY hd with rfl|⟨u,hu,he⟩
 ·decide
 obtain⟨x,hx,rfl⟩:=dL.1 hu
 have:=mL hg hl x hx
 exact adU this.1 this.2 he
def TH(d:Dk)(a:Dk×List UInt8):Prop:=a.1=d\/58∈a.2\/∃g,aZ g=true/\a.2=lP g
theorem zI{d e:Dk}{r:St×Bool}{a:Dk×List UInt8}(h:CH d r=some a):TH e a:=by
 unfold CH at h
 split at h
 ·have h:=bI h
  subst h
  exact .inr (.inl (by unfold kM;simp))
 ·cases h
theorem iM{d:Dk}{c:Bool}{t:List UInt8}{a:Dk×List UInt8}(h:(if c=true then some (d,t)else none)=some a):TH d a:=by
 split at h
 ·have h:=bI h
  subst h
  exact .inl rfl
 ·cases h
theorem Pn{d:Dk}{ws:List (List UInt8)}{a:Dk×List UInt8}(h:gF d ws=some (some a)):TH d a:=by
 unfold gF at h
 split at h
 ·unfold Ug at h
  split at h
  ·rename_i g e
   have h:=bI (bI h)
   subst h
   exact .inr (.inr ⟨g,(vw e).1,rfl⟩)
  ·cases h
 split at h
 ·cases h
 unfold cW at h
 split at h
 ·unfold iF at h
  split at h
  ·exact zI (bI h)
  split at h
  ·have h:=bI (bI h);subst h;exact .inl rfl
  split at h
  ·have h:=bI (bI h);subst h;exact .inl rfl
  split at h
  ·exact iM (bI h)
  split at h
  ·exact iM (bI h)
  ·cases h
 ·unfold jt at h
  split at h
  ·exact zI (bI h)
  split at h
  ·exact zI (bI h)
  split at h
  ·exact iM (bI h)
  split at h
  ·exact iM (bI h)
  split at h
  ·exact iM (bI h)
  split at h
  ·exact iM (bI h)
  split at h
  ·exact iM (bI h)
  ·cases h
 ·unfold vP at h
  split at h
  ·have h:=bI h
   unfold XD at h
   split at h
   ·rename_i e
    have h:=bI h
    subst h
    exact .inr (.inr ⟨_,zH e,rfl⟩)
   ·cases h
  split at h
  ·exact zI (bI h)
  split at h
  ·exact iM (bI h)
  split at h
  ·exact iM (bI h)
  ·cases h
 ·split at h
  ·exact iM (bI h)
  ·cases h
 ·cases h
theorem Po(d:Dk)(s:List UInt8)(h:(fO d s).2=[110,111]\/(fO d s).2=[119,104,97,116]):(fO d s).1=d:=by
 unfold fO at h⊢
 cases he:gF d (jy 32 s)with
 |none=>rfl
 |some a=>
  cases a with
  |none=>rfl
  |some a=>
   rw[he]at h
   have h:a.2=[110,111]\/a.2=[119,104,97,116]:=h
   rcases Pn he with e|e|⟨g,hg,e⟩
   ·exact e
   ·rcases h with h|h<;>rw[h]at e<;>exact absurd e (by decide)
   ·rcases h with h|h
    ·exact absurd (GW hg (c:=110) (by rw[<-e,h];decide)).2 (by decide)
    ·exact absurd (GW hg (c:=119) (by rw[<-e,h];decide)).2 (by decide)
theorem Pp(d:Dk):fO d [115,104,111,119]=(d,lP d.1):=by
 show JK d (gF d [[115,104,111,119]])=_
 unfold gF
 rw[aF (by simp)]
 show JK d (iF d [115,104,111,119])=_
 unfold iF
 rw[aF (by decide),aJ rfl]
 rfl
theorem Pq(d:Dk):fO d [119,97,108,107]=(d,kM d.2):=by
 show JK d (gF d [[119,97,108,107]])=_
 unfold gF
 rw[aF (by simp)]
 show JK d (iF d [119,97,108,107])=_
 unfold iF
 rw[aF (by decide),aF (by decide),aJ rfl]
 rfl
theorem LV(d:Dk){g:aE}(hg:aZ g=true):fO d (C9++32::lP g)=((g,(List.replicate g.length 0,0)),lP g):=by
 have e:jy 32 (C9++32::lP g)=[C9,lP g]:=by
  rw[show C9++32::lP g=vV 32 [C9,lP g]from rfl]
  refine MN (by simp) fun w hw hm=> ?_
  simp only[aO,aR,aN]at hw
  rcases hw with rfl|rfl
  ·exact absurd hm (by decide)
  ·exact absurd (GW hg hm).1 (by decide)
 unfold fO
 rw[e]
 unfold gF
 rw[aJ ⟨rfl,rfl⟩]
 show JK d (Ug (lP g))=_
 unfold Ug
 rw[MP hg]
 rfl
theorem GY{d:Dk}(ok:pu d){s:List UInt8}(h1:s.length<=3000)(h2:10∉s):yX d s=((fO d s).1,((fO d s).2,true)):=by
 unfold yX fc
 rw[aJ ⟨ok,h1,h2⟩]
 rfl
theorem TI{d:Dk}(ok:pu d):yX d [115,104,111,119]=(d,(lP d.1,true)):=by rw[GY ok (by decide) (by decide),Pp]
theorem TJ{d:Dk}(ok:pu d):yX d [119,97,108,107]=(d,(kM d.2,true)):=by rw[GY ok (by decide) (by decide),Pq]
theorem Pr{d:Dk}(ok:pu d):yX d (C9++32::lP d.1)=((d.1,(List.replicate d.1.length 0,0)),(lP d.1,true)):=by
 have hg:=(dN ok).cD
 have hl:=Fy hg
 rw[GY ok (by simp[C9];omega) ?_,LV d hg]
 intro hm
 rcases gI.1 hm with h|h
 ·exact absurd h (by decide)
 ·rcases aO.1 h with h|h
  ·exact absurd h (by decide)
  ·exact absurd (GW hg h).1 (by decide)
theorem XW{d:Dk}{s:List UInt8}(h:(yX d s).2.2=true):pu d/\yX d s=((fO d s).1,((fO d s).2,true)):=by
 by_cases c:fx d.1 d.2.1 d.2.2=true/\s.length<=3000/\10∉s
 ·exact⟨c.1,GY c.1 c.2.1 c.2.2⟩
 ·unfold yX fc at h
  rw[aF c]at h
  cases h
def JU(rs:aH)(p:Int):Bool:=jq 1 8 (rs.length:Int)&&(jq 0 ((rs.length:Int)-1) p&&rs.all (jq 0 4))
def Ps(rs:aH)(p:Int):ByteArray×Bool:=if JU rs p then(A6 (rs,p),true)else(⟨#[]⟩,false)
theorem JW(x:Int)(h:Heap)(K:aL)(HK:K (VB (! jq 0 4 x)) h):iQ aC (.func (.func 54) #[] #[]) [VI x] h K:=
 v54 x h K (fa _ _ _ _ _ ⟨_,rfl,.nil,HK⟩)
theorem LW{S:aK}{h:Heap}{w:Sl}{rs:aH}(H:bC S h w rs)(p:Int)(K:aL)(HK:∀h',Fr No h h'->K (.tuple #[VS (Ps rs p).1,VB (Ps rs p).2]) h'):aG aC 16 #[.agg #[w.v,VI p]] h K:=by
 have wn:=bC.len H
 have no:JU rs p=false->∀h',Fr No h h'->K (.tuple #[VS ⟨#[]⟩,VB false]) h':=fun e h' f=>by
  have:=HK h' f
  unfold Ps at this
  rw[e]at this
  exact this
 refine v16 w p h K fun b1 h1 fK f1 cY=> ?_
 have f1:=f1.aM
 refine fa _ _ _ _ _ ⟨_,rfl,cY,fun e=> ?_,fun e=> ?_⟩
 ·refine no ?_ h1 f1
  unfold JU jq
  rw[<-wn,bU e];rfl
 have e:=bQ e
 have e':=e
 simp only[bD,aT]at e'
 rw[aP _ (by omega) (by omega)]
 refine fa _ _ _ _ _ ⟨_,rfl,cY,fun e2=> ?_,fun e2=> ?_⟩
 ·refine no ?_ h1 f1
  unfold JU jq
  rw[<-wn,e,bU e2];rfl
 have e2:=bQ e2
 have e2':=e2
 simp only[bD,aT]at e2'
 refine mW (H.no f1) _ _ (fun x K HK=>JW x h1 K HK) _ ⟨_,rfl,cY,fun e3=> ?_,fun e3=> ?_⟩
 ·rw[vh]at e3
  refine no ?_ h1 f1
  unfold JU
  rw[bU e3,sO,sO]
 rw[vh]at e3
 have e3:=bQ e3
 have B:=js.1 e3
 refine A8 (H.no f1) (fun x hx=>by have:=bT.1 (B x hx);omega) (by omega) (by omega) (by omega) _ fun h5 f5=>⟨_,rfl,cY.aB f5,?_⟩
 have:=HK h5 (f1.trans f5)
 unfold Ps at this
 rw[aJ (by unfold JU jq;rw[<-wn,e,e2];exact e3)]at this
 exact this
theorem adV{d:Dk}(ok:pu d):Ps d.2.1 d.2.2=(⟨(kM d.2).toArray⟩,true):=by
 have W:=dN ok
 have hl:=nX ok
 have hr:∀x,x∈d.2.1->0<=x/\x<=4:=fun x hx=>by
  obtain⟨i,hi,rfl⟩:=wD hx
  have hw:d.2.1.length=d.1.length:=W.len
  have wF:i<d.1.length:=by omega
  have hq:0<=d.2.1[i]/\d.2.1[i]<=max ((d.1[i].length:Int)-1) 0:=W.QH i hi wF
  have:=(bL W.cD (bJ wF)).1
  omega
 have hp:0<=d.2.2/\d.2.2<(d.2.1.length:Int):=by
  have a:=W.lo
  have b:=W.hi
  have c:=W.len
  simp only at a b c
  omega
 have hB:JU d.2.1 d.2.2=true:=by
  unfold JU
  simp only[bD,js]
  exact⟨bT.2 (by omega),bT.2 (by omega),fun x hx=>bT.2 (hr x hx)⟩
 unfold Ps
 rw[aJ hB]
 unfold A6 IU kM zL fh
 rw[aF (show¬d.2.1.length=0 by omega),JL hp.1,pz fun x hx=>JL (hr x hx).1,gX]
 rfl
theorem NC{S S':aK}{h:Heap}{a b:Sl}{xs:aE}(H:cG S h a xs)(H':cG S' h b xs)(K:aL)(HK:K (VB true) h):aG aC 17 #[a.v,b.v] h K:=by
 refine v17 a b h K ⟨fun e=> ?_,fun e=> ?_⟩
 ·have e1:=bU e
  rw[H.len,H'.len]at e1
  simp at e1
 ·refine⟨fun n i h'=>h=h'/\0<=i/\i+n=(xs.length:Int),⟨xs.length,rfl,by omega,by omega⟩,?_⟩
  rintro n i hh ⟨rfl,h0,h1⟩ hL
  refine⟨fun e=> ?_,fun e=>HK⟩
  have hi:=H.lt e
  obtain⟨si,c1,r1⟩:=H.get h0 hi
  obtain⟨sj,c2,r2⟩:=H'.get h0 hi
  refine⟨H.bM h0 hi,si,c1,H'.bM h0 hi,sj,c2,My r1 r2 _ ⟨_,rfl,.nil,fun e=>by simp at e,fun _=> ?_⟩⟩
  rw[H.succ h0 hi]
  exact⟨n-1,by omega,rfl,by omega,by omega⟩
theorem vT{S S' T T':aK}{h:Heap}{a b c d:Sl}{e:Dk}(G:cG S h a e.1)(G':cG S' h b e.1)(W:bC T h c e.2.1)(W':bC T' h d e.2.1):tY aC 13 #[.agg #[a.v,c.v,VI e.2.2],.agg #[b.v,d.v,VI e.2.2]] h (VB true):=by
 intro K HK
 refine v13 a c e.2.2 b d e.2.2 h K fun b1 b2 h2 fK eN f2 cC=> ?_
 have f2:=f2.aM
 refine NC (G.no f2) (G'.no f2) _ ⟨_,rfl,cC,fun _=>⟨fun _=> ?_,fun x=>by simp at x⟩,fun x=>by cases x⟩
 refine My (bC.no W f2) (bC.no W' f2) _ ⟨_,rfl,cC,?_⟩
 rw[km rfl]
 exact HK _ f2
theorem TK{a n b:Nat}{h:Heap}{c:Sl}{i sd:Int}(V:bV h b [c.v,VI i,.int .u64 sd])(hb:a<=b)(D:gr a n h c i)(hn:n<=100000)(K:aL)(HK:∀(t w:Sl)(gs:aE)(rs:aH)(p i' oR:Int) h',gs.length<=9->cG (fun k=>h.size<=k) h' t gs->bC (fun k=>h.size<=k) h' w rs->bV h' b [c.v,VI i',.int .u64 oR]->gr a (n+300) h' c i'->Fr (In [b]) h h'->K (.tuple #[.agg #[t.v],.agg #[w.v,VI p]]) h'):aG aC 71 #[VP b 0] h K:=by
 have lb:=V.lt
 refine v71 b c i sd h K (.cons V (by simp) .nil) fun b2 b3 h2 eN jv f2 cC=> ?_
 have f2:=f2.aM
 have z2:=f2.size
 have l3:b3<h2.size:=cC.head.lt
 have l2:b2<h2.size:=cC.tail.head.lt
 have fin:∀(h':Heap),Fr (fun k=>k=b\/h.size<=k) h h'->Fr (In [b]) h h':=fun h' f=>f.mono fun k hk aQ=>by
  rcases aQ with e|e
  ·simp[In,e]
  ·omega
 have bM:∀{x y:Heap},Fr (In [b]) x y->Fr (fun k=>k=b\/h.size<=k) x y:=fun f=>f.mono fun k _ hk=> .inl (by simpa[In]using hk)
 refine KC cC.tail.tail.head hb (D.no f2) (by omega) _ fun t gs i3 Ot h3 gl G3 V3 D3 f3=>⟨c,i3,Ot,t,rfl,gu cC 2 rfl f3 V3,fun b4 h5 Fb f5 ie=> ?_⟩
 have f5:=f5.aM
 have z3:=f3.size
 have z5:=f5.size
 have l4:b4<h5.size:=ie.head.lt
 have G5:cG (fun k=>h2.size<=k/\k<h3.size) h5 t gs:=G3.yG.no f5
 have ta:Fr (fun k=>k=b\/h.size<=k) h h5:=(f2.aB.trans (bM f3)).trans f5.aB
 refine jB G5 _ fun h6 f6=>⟨_,rfl,ie.aB f6,fun e h8 f8 gK=> ?_,fun e=> ?_⟩
 ·have z6:=f6.size
  have off:∀k,(h2.size<=k/\k<h3.size)->¬In [b3,b2] k:=fun k hk aQ=>by
   simp only[In,aO,aR,aN]at aQ
   omega
  exact HK t aD gs [] 0 i3 Ot h8 gl (((G5.no f6).fr f8 off).mono fun k hk=>by omega) (eC.nil _ _ _) gK.tail.tail.tail.head (((((D3.no f5).no f6).fr f8 fun k hk aQ=>by simp only[In,aO,aR,aN]at aQ;omega)).up (by omega)) (fin _ ((ta.trans f6.aB).trans (f8.mono fun k _ hk=> .inr (by simp only[In,aO,aR,aN]at hk;omega))))
 have z6:=f6.size
 have jx:=ie.aB f6
 refine KB jx.tail.tail.tail.head hb ((D3.no f5).no f6) (by omega) (G5.no f6) (fun hk=>by omega) (by omega) _ fun w rs p i9 sd9 h9 o9 n9 V9 D9 f9=>⟨c,i9,sd9,w,p,rfl,gu jx 3 rfl f9 V9,fun b5 gP QL f11 fJ=> ?_⟩
 have f11:=f11.aM
 have z9:=f9.size
 have Pu:=f11.size
 have l5:b5<gP.size:=fJ.head.lt
 have JX:Fr (fun k=>k=b\/h.size<=k) h gP:=((ta.trans f6.aB).trans (bM f9)).trans f11.aB
 generalize hF:(fun k=>Iv h6.size h9.size k\/gP.size<=k)=F
 have F1:∀k,F k->h6.size<=k/\k≠b5:=fun k hk=>by rw[<-hF]at hk;rcases hk with hk|hk;have a1:=hk.1;have a2:=hk.2;omega;omega
 have F2:∀k,gP.size<=k->F k:=fun k hk=>by rw[<-hF];exact .inr hk
 have kp:cH gP F w rs:=(Ow.no o9 f11).mono fun k _ hk=>by rw[<-hF];exact .inl hk
 have wn:=bC.len o9.fM
 have tn:=G5.len
 have LO:cG (fun k=>h2.size<=k/\k<h3.size) gP t gs:=(((G5.no f6).fr f9 fun k hk aQ=>by simp[In]at aQ;omega)).no f11
 have ob:∀{X Y:Heap}{x:Sl}{zs:aH},cH X F x zs->Fr (In [b]) X Y->cH Y F x zs:=fun O f=>Ow.fr O f fun k hk aQ=>by have:=F1 _ (O.aS hk).1;simp[In]at aQ;omega
 have oG:∀{X Y:Heap},cG (fun k=>h2.size<=k/\k<h3.size) X t gs->Fr (In [b]) X Y->cG (fun k=>h2.size<=k/\k<h3.size) Y t gs:=fun G f=>G.fr f fun k hk aQ=>by simp[In]at aQ;omega
 have oF:∀{X Y:Heap},cG (fun k=>h2.size<=k/\k<h3.size) X t gs->Fr F X Y->cG (fun k=>h2.size<=k/\k<h3.size) Y t gs:=fun G f=>G.fr f fun k hk aQ=>by have:=F1 _ aQ;omega
 have uF:∀{X Y:Heap},Fr F X Y->Fr (fun k=>k=b\/h.size<=k) X Y:=fun f=>f.mono fun k _ hk=> .inr (by have:=F1 _ hk;omega)
 have dF:∀{X Y:Heap}{m:Nat}{q:Int},gr a m X c q->Fr F X Y->gr a m Y c q:=fun D f=>D.fr f fun k hk aQ=>by have:=F1 _ aQ;omega
 have off:∀A B C E G(r:Nat×List Value),r∈[(b5,A),(b4,B),(b3,C),(b2,E),(b,G)]->¬F r.1:=fun A B C E G r hr hk=>by
  have:=F1 _ hk
  simp only[aO,aR,aN]at hr
  rcases hr with rfl|rfl|rfl|rfl|rfl<;>simp only at this<;>omega
 refine⟨fun x q d i' oR h'=>d=c/\gr a (n+250) h' c i'/\cG (fun k=>h2.size<=k/\k<h3.size) h' t gs/\(∃rs,bC (fun k=>h6.size<=k/\k≠b5) h' x rs)/\Fr (fun k=>k=b\/h.size<=k) h h'/\gP.size<=h'.size,?_,?_⟩
 ·refine gv fJ.tail.tail.tail.tail.head hb (D9.no f11) (by omega) 16 _ fun y i12 Q2 iH y0 y1 Mw Vl f12=>⟨c,i12,Q2,y,rfl,gu fJ 4 rfl f12 Mw,fun _=> ?_,fun _=>⟨fun _=>⟨?_,?_⟩,fun _=>⟨fun _=> ?_,fun _=> ?_⟩⟩⟩
  ·have kX:=gu fJ 4 rfl f12 Mw
   have z12:=f12.size
   refine bE gD (fun k=>iH.size<=k) (fun _ h=>h) 3 (by omega) [VI (-1),VI (t.n:Int),VI 4611686018427387904] rfl rfl fun u uh n13 c13 KU f13 m13 _=>⟨u,rfl,kX.aB f13,?_⟩
   have r13:bC (fun k=>iH.size<=k) uh u [-1,(t.n:Int),4611686018427387904]:=KU.fM
   refine zt (kX.aB f13).tail.tail.tail.tail.head hb (Vl.no f13) (by omega) r13 (by omega) (by simp) _ fun v i14 aoi TY hv V14 D14 f14=>⟨c,i14,aoi,v,rfl,gu (kX.aB f13) 4 rfl f14 V14,fun Vn f15 Da=> ?_⟩
   have z13:=f13.size
   have z14:=f14.size
   have z15:=f15.size
   have oo:cH TY F w rs:=ob (Ow.no (ob kp f12) f13) f14
   exact⟨rfl,(D14.fr f15 fun k hk aQ=>by simp[In]at aQ;omega).up (by omega),(oG ((oG LO f12).no f13) f14).fr f15 fun k hk aQ=>by simp[In]at aQ;omega,⟨rs,((show bC F TY w rs from oo.fM).mono fun k hk=>F1 k hk).fr f15 fun k hk aQ=>by simp[In]at aQ;omega⟩,(((JX.trans (bM f12)).trans f13.aB).trans (bM f14)).trans (f15.mono fun k _ hk=> .inr (by simp[In]at hk;omega)),by omega⟩
  ·have kX:=gu fJ 4 rfl f12 Mw
   have z12:=f12.size
   refine gv kX.tail.tail.tail.tail.head hb Vl (by omega) _ _ fun y2 i16 Q3 Ov u0 u1 V16 ZE f16=>⟨c,i16,Q3,y2,rfl,gu kX 4 rfl f16 V16,?_⟩
   have nD:=gu kX 4 rfl f16 V16
   have ZF:=f16.size
   refine bE gD (fun k=>Ov.size<=k) (fun _ h=>h) 3 (by omega) [VI (-1),VI 4,VI 5] rfl rfl fun u KD n17 c17 o17 f17 m17 _=>⟨u,rfl,nD.aB f17,?_⟩
   have r17:bC (fun k=>Ov.size<=k) KD u [-1,4,5]:=o17.fM
   have z17:=f17.size
   refine zt (nD.aB f17).tail.tail.tail.tail.head hb (ZE.no f17) (by omega) r17 (by omega) (by simp) _ fun v i18 adW Yf hv V18 D18 f18=>⟨c,i18,adW,v,rfl,gu (nD.aB f17) 4 rfl f18 V18,?_⟩
   have z18:=f18.size
   have hg:=bA (bQ e)
   have u1:=u1 (by omega)
   exact gQ (ob (Ow.no (ob (ob kp f12) f16) f17) f18) u0 (by omega) (gu (nD.aB f17) 4 rfl f18 V18) (off _ _ _ _ _) _ fun Fm VW f19 V19=>⟨rfl,(dF D18 f19).up (by omega),oF (oG ((oG (oG LO f12) f16).no f17) f18) f19,⟨_,(show bC F Fm w _ from VW.fM).mono fun k hk=>F1 k hk⟩,((((JX.trans (bM f12)).trans (bM f16)).trans f17.aB).trans (bM f18)).trans (uF f19),by have:=f19.size;omega⟩
  ·have kX:=gu fJ 4 rfl f12 Mw
   have z12:=f12.size
   refine bE gD (fun k=>iH.size<=k) (fun _ h=>h) 3 (by omega) [VI (-1),VI 4,VI 5] rfl rfl fun u Q4 n20 c20 ZH f20 m20 _=>⟨u,rfl,kX.aB f20,?_⟩
   have r20:bC (fun k=>iH.size<=k/\k<Q4.size) Q4 u [-1,4,5]:=eC.lt (ZH.fM)
   have Fo:=kX.aB f20
   have z20:=f20.size
   refine gv Fo.tail.tail.tail.tail.head hb (Vl.no f20) (by omega) _ _ fun y2 i16 Q3 Ov u0 u1 V16 ZE f16=>⟨c,i16,Q3,y2,rfl,gu Fo 4 rfl f16 V16,?_⟩
   have nD:=gu Fo 4 rfl f16 V16
   have ZF:=f16.size
   refine zt nD.tail.tail.tail.tail.head hb ZE (by omega) (r20.fr f16 fun k hk aQ=>by simp[In]at aQ;omega) (by omega) (by simp) _ fun v i18 adW Yf hv V18 D18 f18=>⟨c,i18,adW,v,rfl,gu nD 4 rfl f18 V18,?_⟩
   have z18:=f18.size
   have hg:=bA (bQ e)
   have u1:=u1 (by omega)
   exact gQ (ob (ob (Ow.no (ob kp f12) f20) f16) f18) u0 (by omega) (gu nD 4 rfl f18 V18) (off _ _ _ _ _) _ fun Fm VW f19 V19=>⟨rfl,(dF D18 f19).up (by omega),oF (oG (oG ((oG LO f12).no f20) f16) f18) f19,⟨_,(show bC F Fm w _ from VW.fM).mono fun k hk=>F1 k hk⟩,((((JX.trans (bM f12)).trans f20.aB).trans (bM f16)).trans (bM f18)).trans (uF f19),by have:=f19.size;omega⟩
  ·have kX:=gu fJ 4 rfl f12 Mw
   have z12:=f12.size
   exact mX (ob kp f12) (fun k hk=>F2 k (by omega)) kX (off _ _ _ _ _) (by omega) _ fun u CS o25 f25 V25 uL f26 td=>⟨rfl,((dF Vl f25).fr f26 fun k hk aQ=>by simp[In]at aQ;omega).up (by omega),(oF (oG LO f12) f25).fr f26 fun k hk aQ=>by simp[In]at aQ;omega,⟨_,((show bC F CS u _ from o25.fM).mono fun k hk=>F1 k hk).fr f26 fun k hk aQ=>by simp[In]at aQ;omega⟩,((JX.trans (bM f12)).trans (uF f25)).trans (f26.mono fun k _ hk=> .inr (by simp[In]at hk;omega)),by have:=f25.size;have:=f26.size;omega⟩
  ·exact⟨rfl,Vl.up (by omega),oG LO f12,⟨rs,(show bC F iH w rs from(ob kp f12).fM).mono fun k hk=>F1 k hk⟩,JX.trans (bM f12),f12.size⟩
 rintro x q d i13 aok TT ⟨rfl,D27,G27,⟨aol,R27⟩,f27,z27⟩ aun h28 f28 K7 h29 f29 ago
 exact HK t x gs aol q i13 aok h29 gl (((G27.fr f28 fun k hk aQ=>by simp[In]at aQ;omega).fr f29 fun k hk aQ=>by simp[In]at aQ;omega).mono fun k hk=>by omega) (((R27.fr f28 fun k hk aQ=>by simp[In]at aQ;omega).fr f29 fun k hk aQ=>by simp[In]at aQ;omega).mono fun k hk=>by omega) ago.tail.tail.tail.tail.head (((D27.fr f28 fun k hk aQ=>by simp[In]at aQ;omega).fr f29 fun k hk aQ=>by simp[In]at aQ;omega).up (by omega)) (fin _ ((f27.trans (f28.mono fun k _ hk=> .inr (by simp[In]at hk;omega))).trans (f29.mono fun k _ hk=> .inr (by simp[In]at hk;omega))))
theorem aom{a n b:Nat}{h:Heap}{c:Sl}{i sd:Int}(V:bV h b [c.v,VI i,.int .u64 sd])(hb:a<=b)(D:gr a n h c i)(hn:n<=100000000000){S:aK}{s:Sl}{xs:List ByteArray}(R:eC S h 1 s (xs.map VS))(hS:¬S b)(fL:xs≠[])(K:aL)(HK:∀(x:ByteArray)(i' oR:Int) h',x∈xs->bV h' b [c.v,VI i',.int .u64 oR]->gr a (n+2) h' c i'->Fr (In [b]) h h'->K (VS x) h'):aG aC 76 #[VP b 0,s.v] h K:=by
 refine v76 b c i sd s h K (.cons V (by simp) .nil) ?_
 have hl:=R.len
 rw[bG,gL]at hl
 have hp:=vo.2 fL
 refine gv V hb D hn _ _ fun x i1 Pw h1 x0 x1 V1 D1 f1=>⟨c,i1,Pw,x,rfl,.cons V1 (by simp) .nil,?_⟩
 have R1:=eC.fr R f1 fun k hk aQ=>by simp[In]at aQ;subst aQ;exact hS hk
 have hx:x<(xs.length:Int):=by have:=x1 (by omega);omega
 have g:=R1.get (i:=x) x0 (by rw[bG];omega)
 rw[cK]at g
 exact⟨eC.bM R1 x0 (by rw[bG];omega),_,g,HK _ i1 Pw h1 (bJ _) V1 D1 f1⟩
theorem uI{a n b:Nat}{h:Heap}{c:Sl}{i sd:Int}(V:bV h b [c.v,VI i,.int .u64 sd])(hb:a<=b)(D:gr a n h c i)(hn:n<=100000000){N:Nat}(hN:N<=1000){parts:Array (Nat×Value)}(xs:List ByteArray)(hl:(xs.map VS).length=N*1)(hf:Instr.fill (fun i=>some (i*1,1)) (List.replicate N [VS ⟨#[]⟩]).flatten.toArray parts.toList=some (xs.map VS).toArray)(fL:xs≠[]){M:Nat}(hM:∀x,x∈xs->x.size<=M){k:Sl->Int->Int->ByteArray->Heap->Prop}(HK:∀(x:ByteArray)(i' oR:Int) h',x.size<=M->bV h' b [c.v,VI i',.int .u64 oR]->gr a (n+2) h' c i'->Fr (In [b]) h h'->k c i' oR x h'):
 lQ aC (Instr.buildSlice Ub N parts) h fun rv h2=>∃t:Sl,rv=t.v/\Vars h2 [(b,[c.v,VI i,.int .u64 sd])]/\aG aC 76 #[VP b 0,t.v] h2 fun rv h3=>∃x1:Sl,∃x2:Int,∃x3:Int,∃t1:ByteArray,rv=VS t1/\Vars h3 [(b,[x1.v,VI x2,.int .u64 x3])]/\k x1 x2 x3 t1 h3:=by
 have lb:=V.lt
 have hL:Vars h [(b,[c.v,VI i,.int .u64 sd])]:= .cons V (by simp) .nil
 refine bE Uc (fun k=>h.size<=k) (fun _ h=>h) N hN (xs.map VS) hl hf fun u h2 n2 c2 o2 f2 m2 _=>⟨u,rfl,hL.aB f2,?_⟩
 exact aom (hL.aB f2).head hb (D.no f2) (by omega) o2.fM (by omega) fL _ fun x i' oR h' hx V' D' f'=>⟨c,i',oR,x,rfl,.cons V' (by simp) .nil,HK x i' oR h' (hM x hx) V' D' (f2.aB.trans f')⟩
theorem uJ{x:Int}(h0:0<=x)(h1:x<100){h:Heap}(K:aL)(HK:∀(t:ByteArray) h',t.size<=2->Fr No h h'->K (VS t) h'):aG aC 73 #[VI x] h K:=by
 obtain⟨m,rfl⟩:∃m:Nat,x=(m:Int):=⟨x.toNat,by omega⟩
 refine jT m (by omega) K fun h' f=>HK _ h' ?_ f
 rw[cU]
 have:=(iE 1 m (by omega)).2
 omega
theorem jz{h h':Heap}{b:Nat}{cs:List Value}(V:bV h b cs)(f:Fr No h h'):bV h' b cs:=((Vars.cons V (by simp) .nil:Vars h [(b,cs)]).aB f).head
theorem TL{a n b:Nat}{h:Heap}{c:Sl}{i sd:Int}(V:bV h b [c.v,VI i,.int .u64 sd])(hb:a<=b)(D:gr a n h c i)(hn:n<=10000000)(K:aL)(HK:∀(x:ByteArray)(i' oR:Int) h',x.size<=400->bV h' b [c.v,VI i',.int .u64 oR]->gr a (n+200) h' c i'->Fr (In [b]) h h'->K (VS x) h'):aG aC 41 #[VP b 0] h K:=by
 refine v41 b c i sd h K (.cons V (by simp) .nil) ?_
 refine gv V hb D (by omega) 5 _ fun p i1 Pw h1 p0 p1 V1 D1 f1=>⟨c,i1,Pw,p,rfl,.cons V1 (by simp) .nil,?_⟩
 refine uJ p0 (by have:=p1 (by omega);omega) _ fun tp h2 lp f2=>⟨tp,rfl,.cons (jz V1 f2) (by simp) .nil,?_⟩
 refine gv (jz V1 f2) hb (D1.no f2) (by omega) 5 _ fun q i3 Ot h3 q0 q1 V3 D3 f3=>⟨c,i3,Ot,q,rfl,.cons V3 (by simp) .nil,?_⟩
 refine uJ q0 (by have:=q1 (by omega);omega) _ fun tq h4 lq f4=>⟨tq,rfl,.cons (jz V3 f4) (by simp) .nil,?_⟩
 refine gv (jz V3 f4) hb (D3.no f4) (by omega) 12 _ fun r i5 Vr h5 r0 r1 V D f5=>⟨c,i5,Vr,r,rfl,.cons V (by simp) .nil,?_⟩
 have f:Fr (In [b]) h h5:=((((f1.trans f2.aB).trans f3).trans f4.aB).trans f5)
 have hL:Vars h5 [(b,[c.v,VI i5,.int .u64 Vr])]:= .cons V (by simp) .nil
 clear f1 f2 f3 f4 f5 V1 V3 D1 D3 p1 q1
 refine⟨fun _=> ?_,fun _=>⟨fun _=> ?_,fun _=>⟨fun _ h'=>h5=h',⟨fun _=>rfl,fun _=>rfl⟩,?_⟩⟩⟩
 ·refine yu V hb D (by omega) (by omega) (by omega) _ fun t aI i2 Q0 h2 o2 G2 x0 x1 V2 D2 f2=>⟨c,i2,Q0,t,rfl,.cons V2 (by simp) .nil,?_⟩
  have lit:Rj aI:=⟨by omega,fun l hl=>⟨by have:=(G2 l hl).1;omega,fun x hx=>by have:=(G2 l hl).2 x hx;omega⟩⟩
  have tl:=MU lit
  have ts:(⟨(lP aI).toArray⟩:ByteArray).size<=328:=by rw[cU];exact tl
  refine rH o2.rd lit _ fun h3 f3=>⟨_,rfl,.cons (jz V2 f3) (by simp) .nil,by show(6:Nat)+_<=_;omega,?_⟩
  refine HK _ i2 Q0 h3 ?_ (jz V2 f3) ((D2.no f3).up (by omega)) ((f.trans f2).trans f3.aB)
  rw[jU]
  show(6:Nat)+_<=_
  omega
 ·refine uI V hb D (by omega) (by omega) [⟨#[97,100,100,32]⟩,⟨#[116,117,114,110,32]⟩] rfl rfl (by simp) (M:=10) (by decide) fun x i6 DV h6 hx V6 D6 f6=> ?_
  have s1:(⟨#[32]⟩:ByteArray).size=1:=rfl
  simp only[jU,s1]
  refine⟨by omega,by omega,by omega,HK _ i6 DV h6 ?_ V6 (D6.up (by omega)) (f.trans f6)⟩
  simp only[jU,s1]
  omega
 rintro y1 _ rfl _
 refine⟨fun _=> ?_,fun _=>⟨fun _ h'=>h5=h',⟨fun _=>rfl,fun _=>rfl⟩,?_⟩⟩
 ·refine⟨by show(3:Nat)+_<=_;omega,gv V hb D (by omega) 30 _ fun u i6 DV h6 u0 u1 V6 D6 f6=>⟨c,i6,DV,u,rfl,.cons V6 (by simp) .nil,uJ u0 (by have:=u1 (by omega);omega) _ fun tu h7 lu f7=>⟨tu,rfl,.cons (jz V6 f7) (by simp) .nil,by show(4:Nat)+_<=_;omega,?_⟩⟩⟩
  refine uI (jz V6 f7) hb (D6.no f7) (by omega) (by omega) [⟨#[115,116,101,112]⟩,⟨#[115,116,101,112]⟩,⟨#[97,116,32]⟩++tp,⟨#[114,117,110,32]⟩++tu] rfl rfl (by simp) (M:=10) ?_ fun x i8 sd8 h8 hx V8 D8 f8=>HK _ i8 sd8 h8 (by omega) V8 (D8.up (by omega)) (((f.trans f6).trans f7.aB).trans f8)
  intro x hx
  simp only[aO,aR,aN]at hx
  rcases hx with rfl|rfl|rfl|rfl
  ·decide
  ·decide
  ·rw[jU];show(3:Nat)+_<=_;omega
  ·rw[jU];show(4:Nat)+_<=_;omega
 rintro y2 _ rfl _
 refine⟨fun _=> ?_,fun _=>⟨fun _ h'=>h5=h',⟨fun _=>rfl,fun _=>rfl⟩,?_⟩⟩
 ·exact uI V hb D (by omega) (by omega) [⟨#[115,104,111,119]⟩,⟨#[119,97,108,107]⟩,⟨#[112,101,114,105,111,100]⟩,⟨#[99,121,99,108,101]⟩] rfl rfl (by simp) (M:=10) (by decide) fun x i6 DV h6 hx V6 D6 f6=>HK _ i6 DV h6 (by omega) V6 (D6.up (by omega)) (f.trans f6)
 rintro y3 _ rfl _
 refine⟨fun _=> ?_,fun _=>⟨fun _=> ?_,fun _=>⟨fun _=> ?_,fun _=>⟨fun _=> ?_,fun _=> ?_⟩⟩⟩⟩
 ·refine uI V hb D (by omega) (by omega) [⟨#[112,97,115,115,32]⟩,⟨#[118,105,115,105,116,115,32]⟩,⟨#[104,105,116,32]⟩] rfl rfl (by simp) (M:=10) (by decide) fun x i6 DV h6 hx V6 D6 f6=> ?_
  refine gv V6 hb D6 (by omega) 9 _ fun u i7 T7 h7 u0 u1 V7 D7 f7=>⟨c,i7,T7,u,rfl,.cons V7 (by simp) .nil,uJ u0 (by have:=u1 (by omega);omega) _ fun tu h8 lu f8=>⟨tu,rfl,.cons (jz V7 f8) (by simp) .nil,by omega,?_⟩⟩
  exact HK _ i7 T7 h8 (by rw[jU];omega) (jz V7 f8) ((D7.no f8).up (by omega)) (((f.trans f6).trans f7).trans f8.aB)
 ·exact uI V hb D (by omega) (by omega) [⟨#[116,114,101,101,115,32]⟩,⟨#[102,117,108,108,32]⟩] rfl rfl (by simp) (M:=10) (by decide) fun x i6 DV h6 hx V6 D6 f6=>⟨by omega,HK _ i6 DV h6 (by rw[jU];omega) V6 (D6.up (by omega)) (f.trans f6)⟩
 ·have s1:(⟨#[32]⟩:ByteArray).size=1:=rfl
  have s7:(⟨#[99,104,97,110,99,101,32]⟩:ByteArray).size=7:=rfl
  simp only[jU,s1,s7]
  refine⟨by omega,by omega,by omega,HK _ i5 Vr h5 ?_ V (D.up (by omega)) f⟩
  simp only[jU,s1,s7]
  omega
 ·refine gv V hb D (by omega) 30 _ fun u i6 DV h6 u0 u1 V6 D6 f6=>⟨c,i6,DV,u,rfl,.cons V6 (by simp) .nil,uJ u0 (by have:=u1 (by omega);omega) _ fun tu h7 lu f7=>⟨tu,rfl,.cons (jz V6 f7) (by simp) .nil,by show(14:Nat)+_<=_;omega,?_⟩⟩
  refine gv (jz V6 f7) hb (D6.no f7) (by omega) 40 _ fun v i8 sd8 h8 v0 v1 V8 D8 f8=>⟨c,i8,sd8,v,rfl,.cons V8 (by simp) .nil,uJ v0 (by have:=v1 (by omega);omega) _ fun tv h9 lv f9=>⟨tv,rfl,.cons (jz V8 f9) (by simp) .nil,by show(5:Nat)+_<=_;omega,by rw[jU];show(5:Nat)+_+1<=_;omega,?_⟩⟩
  refine gv (jz V8 f9) hb (D8.no f9) (by omega) 5 _ fun w i10 ZD eW w0 w1 CF Ou f10=>⟨c,i10,ZD,w,rfl,.cons CF (by simp) .nil,uJ w0 (by have:=w1 (by omega);omega) _ fun tw gP lw f11=>⟨tw,rfl,.cons (jz CF f11) (by simp) .nil,by rw[jU,jU];show(5:Nat)+_+1+_<=_;omega,?_⟩⟩
  have ff:Fr (In [b]) h gP:=(((((f.trans f6).trans f7.aB).trans f8).trans f9.aB).trans f10).trans f11.aB
  refine uI (jz CF f11) hb (Ou.no f11) (by omega) (by omega) [⟨#[101,115,99,97,112,101,115,32,50,32,51,32,48,32]⟩++tu,⟨#[103,114,111,119,32]⟩++tv++⟨#[32]⟩++tw] rfl rfl (by simp) (M:=30) ?_ fun x i12 Q2 iH hx Mw Vl f12=>HK _ i12 Q2 iH (by omega) Mw (Vl.up (by omega)) (ff.trans f12)
  intro x hx
  simp only[aO,aR,aN]at hx
  rcases hx with rfl|rfl
  ·rw[jU];show(14:Nat)+_<=_;omega
  ·rw[jU,jU,jU];show(5:Nat)+_+1+_<=_;omega
 ·exact uI V hb D (by omega) (by omega) [⟨#[102,108,121]⟩,⟨#[]⟩,⟨#[115,104,111,119,32]⟩,⟨#[103,114,97,112,104,32]⟩,⟨#[103,114,97,112,104,32,45]⟩,⟨#[103,114,97,112,104,32,48]⟩,⟨#[103,114,97,112,104,32,53]⟩,⟨#[97,116,32,57]⟩,⟨#[116,117,114,110,32,48,32,57]⟩,⟨#[114,117,110,32,50,48,48,49]⟩,⟨#[114,117,110,32,120]⟩,⟨#[112,97,115,115,32,50,48,49]⟩,⟨#[115,116,101,112,32,49]⟩,⟨#[101,115,99,97,112,101,115,32,52,32,49,32,48,32,48]⟩,⟨#[103,114,111,119,32,48,32,48]⟩,⟨#[99,104,97,110,99,101,32,49,32,49]⟩] rfl rfl (by simp) (M:=20) (by decide) fun x i6 DV h6 hx V6 D6 f6=>HK _ i6 DV h6 (by omega) V6 (D6.up (by omega)) (f.trans f6)
theorem TM{a n b:Nat}{h:Heap}{c:Sl}{i sd:Int}(V:bV h b [c.v,VI i,.int .u64 sd])(hb:a<=b)(D:gr a n h c i)(hn:n<=100000)(K:aL)(HK:∀(t w:Sl)(d:Dk)(i' oR:Int) h',cG (fun k=>h.size<=k) h' t d.1->bC (fun k=>h.size<=k) h' w d.2.1->bV h' b [c.v,VI i',.int .u64 oR]->gr a (n+300) h' c i'->Fr (In [b]) h h'->K (.agg #[t.v,w.v,VI d.2.2]) h'):aG aC 39 #[VP b 0] h K:=by
 have lb:=V.lt
 refine v39 b c i sd h K (.cons V (by simp) .nil) fun b2 h1 eN f1 cY=> ?_
 have f1:=f1.aM
 have z1:=f1.size
 have l2:b2<h1.size:=cY.head.lt
 refine TK cY.tail.head hb (D.no f1) (by omega) _ fun t w gs rs p i3 Ot h3 gl G3 R3 V3 D3 f3=>⟨c,i3,Ot,t,w,p,rfl,gu cY 1 rfl f3 V3,fun b3 b4 h7 jv Fb f7 kL=> ?_⟩
 have z3:=f3.size
 have n2:∀{k:Nat},In [b2] k->k=b2:=fun hk=>by simpa[In]using hk
 refine HK t w (gs,(rs,p)) i3 Ot h7 ((G3.fr f7 fun k hk aQ=>by have:=n2 aQ;omega).mono fun k hk=>by omega) ((bC.fr R3 f7 fun k hk aQ=>by have:=n2 aQ;omega).mono fun k hk=>by omega) kL.tail.tail.tail.head (D3.fr f7 fun k hk aQ=>by have:=n2 aQ;omega) ?_
 have u3:Fr (In [b]) h h3:=f1.aB.trans f3
 exact(((u3.mono fun k _ hk=> .inl hk:Fr (fun k=>In [b] k\/h.size<=k) h h3).trans (f7.mono fun k _ hk=> .inr (by have:=n2 hk;omega))).mono fun k hk aQ=>by
  rcases aQ with e|e
  ·exact e
  ·omega)
theorem CB{S:aK}{h:Heap}{code:Sl}{vs:List Value}(C:eC S h 1 code vs)(B:∀v,v∈vs->∃m:Int,v=Value.int .u8 m/\0<=m/\m<=255)(K:aL)(HK:∀(t w:Sl)(d:Dk)(s:ByteArray) h',cG (fun k=>h.size<=k) h' t d.1->bC (fun k=>h.size<=k) h' w d.2.1->Fr No h h'->K (.tuple #[.agg #[t.v,w.v,VI d.2.2],VS s]) h'):aG aC 10 #[code.v] h K:=by
 refine v10 code h K fun b1 b2 h2 fK eN f2 cC=> ?_
 have f2:=f2.aM
 have z2:=f2.size
 have l2:b2<h2.size:=cC.head.lt
 have l1:b1<h2.size:=cC.tail.head.lt
 have D2:gr h.size 0 h2 code 0:=⟨⟨vs,((eC.lt C).mono fun k hk=>hk.2).no f2,B⟩,by omega,by omega⟩
 refine TM cC.head eN D2 (by omega) _ fun t w d i3 Ot h3 G3 R3 V3 D3 f3=>⟨code,i3,Ot,t,w,d.2.2,rfl,gu cC 0 rfl f3 V3,fun b3 h5 jv f5 ie=> ?_⟩
 have f5:=f5.aM
 have z3:=f3.size
 have z5:=f5.size
 have n1:∀{k:Nat},In [b1] k->k=b1:=fun hk=>by simpa[In]using hk
 have n2:∀{k:Nat},In [b2] k->k=b2:=fun hk=>by simpa[In]using hk
 have bM:∀{x y:Heap},Fr (In [b2]) x y->Fr (fun k=>h.size<=k) x y:=fun f=>f.mono fun k _ hk=>by have:=n2 hk;omega
 have in1:∀{x y:Heap},Fr (In [b1]) x y->Fr (fun k=>h.size<=k) x y:=fun f=>f.mono fun k _ hk=>by have:=n1 hk;omega
 have ta:Fr (fun k=>h.size<=k) h h5:=(f2.aB.trans (bM f3)).trans f5.aB
 have fin:∀{Y:Heap},Fr (fun k=>h.size<=k) h Y->Fr No h Y:=fun f=>f.mono fun k hk aQ=>absurd aQ (by omega)
 have G5:=G3.no f5
 have R5:=bC.no R3 f5
 refine Iq ie.tail.head eN (D3.no f5) (by omega) 20 _ fun y i6 DV h6 V6 D6 f6=>⟨code,i6,DV,y,rfl,gu ie 1 rfl f6 V6,fun _=> ?_,fun _=> ?_⟩
 all_goals
  have jx:=gu ie 1 rfl f6 V6
  have G6:cG (fun k=>h2.size<=k) h6 t d.1:=G5.fr f6 fun k hk aQ=>by have:=n2 aQ;omega
  have R6:bC (fun k=>h2.size<=k) h6 w d.2.1:=bC.fr R5 f6 fun k hk aQ=>by have:=n2 aQ;omega
  refine TL jx.tail.head eN D6 (by omega) _ fun s i7 T7 h7 hs V7 D7 f7=>⟨code,i7,T7,s,rfl,gu jx 1 rfl f7 V7,?_⟩
  have G7:cG (fun k=>h2.size<=k) h7 t d.1:=G6.fr f7 fun k hk aQ=>by have:=n2 aQ;omega
  have R7:bC (fun k=>h2.size<=k) h7 w d.2.1:=bC.fr R6 f7 fun k hk aQ=>by have:=n2 aQ;omega
 ·refine⟨by show _+(1:Nat)<=_;omega,fun h8 f8 _=> ?_⟩
  exact HK t w d _ h8 ((G7.fr f8 fun k hk aQ=>by have:=n1 aQ;omega).mono fun k hk=>by omega) ((bC.fr R7 f8 fun k hk aQ=>by have:=n1 aQ;omega).mono fun k hk=>by omega) (fin (((ta.trans (bM f6)).trans (bM f7)).trans (in1 f8)))
 ·intro h8 f8 _
  exact HK t w d _ h8 ((G7.fr f8 fun k hk aQ=>by have:=n1 aQ;omega).mono fun k hk=>by omega) ((bC.fr R7 f8 fun k hk aQ=>by have:=n1 aQ;omega).mono fun k hk=>by omega) (fin (((ta.trans (bM f6)).trans (bM f7)).trans (in1 f8)))
theorem adX{g:aE}(hg:aZ g=true):gtP g=(⟨(lP g).toArray⟩,true):=by rw[gtP,aJ hg]
theorem CC{h:Heap}(GL:jG h){S0 S1:aK}{s0 s1:Sl}{x0 x1:List Value}(G0:eC S0 h 1 s0 x0)(B0:∀v,v∈x0->∃m:Int,v=Value.int .u8 m/\0<=m/\m<=255)(G1:eC S1 h 1 s1 x1)(B1:∀v,v∈x1->∃m:Int,v=Value.int .u8 m/\0<=m/\m<=255):tY aC 3 #[s0.v,s1.v] h (VB true):=by
 intro K HK
 refine v3 s0 s1 h K ?_
 refine afv s0 s1 h _ fun b0=>⟨b0,rfl,.nil,fun _=>HK h (Fr.refl _ _),fun _=> ?_⟩
 refine CB G0 B0 _ fun t w d s h2 G2 W2 f2=>⟨t,w,d.2.2,s,rfl,.nil,fun b1 h4 fK f4 eM=> ?_⟩
 have f4:=f4.aM
 obtain⟨R,hR⟩:∃R,R=yX d s.data.toList:=⟨_,rfl⟩
 have jk:=f2.aA f4
 refine vS (GL.no jk) (G2.no f4) (bC.no W2 f4) s _ fun g5 w5 F F' h5 D5 f5=> ?_
 rw[<-hR]at D5⊢
 refine⟨g5,w5,_,_,_,rfl,eM.aB f5,fun b2 h7 eN f7 kL=> ?_⟩
 have f7:=f7.aM
 have f27:=(f4.aA f5).aA f7
 refine TG (G2.no f27) (bC.no W2 f27) s _ fun g8 w8 T T' h8 G8 W8 q8 f8=> ?_
 rw[<-hR]at G8 W8⊢
 refine⟨g8,w8,_,_,_,rfl,kL.aB f8,fun e=>(by rw[beq_self_eq_true]at e;cases e),fun _=>⟨fun e=>(by rw[beq_self_eq_true]at e;cases e),fun _=>fun b3 eW jv f10 fe=> ?_⟩⟩
 have f10:=f10.aM
 have ag0:=f8.aA f10
 have f210:=f27.aA ag0
 have Ou:=(D5.no f7).no ag0
 refine vT (e:=R.1) Ou.G.rd (G8.no f10) (Ow.rd Ou.W) (bC.no W8 f10) _ fun gP f11=>⟨_,rfl,fe.aB f11,fun e=>(by simp at e),fun _=>⟨fun _=>HK _ ((f2.aA f210).aA f11),fun e=> ?_⟩⟩
 have e:=bQ e
 rw[hR]at e
 obtain⟨ok,e⟩:=XW e
 rw[<-hR]at e
 have okN:pu R.1:=by rw[e];exact JR ok _
 have keep:R.2.1=[110,111]\/R.2.1=[119,104,97,116]->R.1=d:=fun h=>by rw[e]at h⊢;exact Po d _ h
 clear e
 have f211:=f210.aA f11
 have TX:=Ou.no f11
 have fJ:=fe.aB f11
 have JX:=f2.aA f211
 refine⟨fun e=> ?_,fun _=>⟨fun e=> ?_,fun _=> ?_⟩⟩
 have hd:=keep (.inl (fi e))
 subst hd
 refine vT TX.G.rd (G2.no f211) (Ow.rd TX.W) (bC.no W2 f211) _ fun X fX=>⟨_,rfl,fJ.aB fX,fun e=>(by simp at e),fun _=> ?_⟩
 rotate_left
 have hd:=keep (.inr (fi e))
 subst hd
 refine vT TX.G.rd (G2.no f211) (Ow.rd TX.W) (bC.no W2 f211) _ fun X fX=>⟨_,rfl,fJ.aB fX,fun e=>(by simp at e),fun _=> ?_⟩
 rotate_left
 generalize hX:gP=X
 have fX:Fr No gP X:=hX▸Fr.refl _ _
 clear hX
 all_goals
  have DX:=TX.no fX
  have hLX:=fJ.aB fX
  have GX:=GL.no (JX.aA fX)
  have hg:=(dN okN).cD
  have tx:(lP R.1.1).length<=200:=Fy hg
  have bs:∀{x:ByteArray},(x.toList==x.toList)=false->False:=fun e=>by rw[beq_self_eq_true]at e;cases e
  refine QB DX.G.rd (Ow.rd DX.W) _ _ fun iH f12=>⟨_,rfl,hLX.aB f12,fun e=>absurd (show fx R.1.1 R.1.2.1 R.1.2.2=true from okN) (by rw[bU e];simp),fun _=> ?_⟩
  refine vS (d:=R.1) (GX.no f12) (DX.G.rd.no f12) (bC.no (Ow.rd DX.W) f12) ⟨#[115,104,111,119]⟩ _ fun g13 w13 A A' uh D13 f13=> ?_
  rw[show yX R.1 (⟨#[115,104,111,119]⟩:ByteArray).data.toList=(R.1,(lP R.1.1,true))from TI okN]at D13⊢
  refine⟨g13,w13,_,_,_,rfl,(hLX.aB f12).aB f13,fun b10 Vn Zp f15 Da=> ?_⟩
  have f15:=f15.aM
  have f5:=(f12.aA f13).aA f15
  refine II (DX.G.rd.no f5) _ fun Ov f16=> ?_
  rw[adX hg]
  refine⟨_,_,rfl,Da.aB f16,?_⟩
  have f6:=f5.aA f16
  refine vS (d:=R.1) (GX.no f6) (DX.G.rd.no f6) (bC.no (Ow.rd DX.W) f6) ⟨#[119,97,108,107]⟩ _ fun g17 w17 Y Y' KD Yi f17=> ?_
  rw[show yX R.1 (⟨#[119,97,108,107]⟩:ByteArray).data.toList=(R.1,(kM R.1.2,true))from TJ okN]at Yi⊢
  refine⟨g17,w17,_,_,_,rfl,(Da.aB f16).aB f17,fun b11 Fm adq f19 uk=> ?_⟩
  have f19:=f19.aM
  have f9:=(f6.aA f17).aA f19
  refine LW (bC.no (Ow.rd DX.W) f9) _ _ fun Q4 f20=> ?_
  rw[adV okN]
  refine⟨_,_,rfl,uk.aB f20,?_⟩
  have E9:=f9.aA f20
  have hs:(⟨#[103,114,97,112,104,32]⟩:ByteArray)++⟨(lP R.1.1).toArray⟩=⟨(C9++32::lP R.1.1).toArray⟩:=fV [103,114,97,112,104,32] _
  have ts:(⟨(lP R.1.1).toArray⟩:ByteArray).size<=200:=by rw[cU];exact tx
  refine⟨by show(6:Nat)+(⟨(lP R.1.1).toArray⟩:ByteArray).size<=_;omega,?_⟩
  rw[hs]
  refine vS (d:=R.1) (GX.no E9) (DX.G.rd.no E9) (bC.no (Ow.rd DX.W) E9) _ _ fun g21 w21 Z Z' TZ Yg f21=> ?_
  rw[show yX R.1 (⟨(C9++32::lP R.1.1).toArray⟩:ByteArray).data.toList=((R.1.1,(List.replicate R.1.1.length 0,0)),(lP R.1.1,true))from Pr okN]at Yg⊢
  refine⟨g21,w21,_,_,_,rfl,(uk.aB f20).aB f21,⟨fun _=>⟨fun _=>⟨fun _=>fun b12 RP ags f23 OR=> ?_,fun e=>(bs e).elim⟩,fun e=>by cases e⟩,fun e=>by cases e⟩⟩
  have f23:=f23.aM
  have f1:=(f16.aA f17).aA f19
  have f3:=(f20.aA f21).aA f23
  have f0:=f5.aA (f1.aA f3)
  have D13:=(D13.no f15).no (f1.aA f3)
  refine vT D13.G.rd (DX.G.rd.no f0) (Ow.rd D13.W) (bC.no (Ow.rd DX.W) f0) _ fun UM f24=>⟨_,rfl,OR.aB f24,fun _=>⟨fun _=>⟨fun _=>⟨fun _=> ?_,fun e=>(bs e).elim⟩,fun e=>by cases e⟩,fun e=>by cases e⟩,fun e=>by cases e⟩
  have Yi:=(Yi.no f19).no (f3.aA f24)
  have f00:=f0.aA f24
  refine vT Yi.G.rd (DX.G.rd.no f00) (Ow.rd Yi.W) (bC.no (Ow.rd DX.W) f00) _ fun CS f25=>⟨_,rfl,(OR.aB f24).aB f25,fun _=>⟨fun _=> ?_,fun e=>by cases e⟩,fun e=>by cases e⟩
  have Yg:=Yg.no ((f23.aA f24).aA f25)
  have ag2:=f00.aA f25
  refine NC Yg.G.rd (DX.G.rd.no ag2) _ ⟨_,rfl,(OR.aB f24).aB f25,fun _=> ?_,fun e=>by cases e⟩
  refine ZK (Ow.rd Yg.W) _ ⟨_,rfl,(OR.aB f24).aB f25,fun _=>HK _ ((JX.aA fX).aA ag2),fun e=> ?_⟩
  have:(List.replicate R.1.1.length (0:Int)).sum=0:=by simp
  rw[this]at e
  exact absurd e (by decide)
end Go.Proofs.YtcnfcnoooecchaaGreatDoor
