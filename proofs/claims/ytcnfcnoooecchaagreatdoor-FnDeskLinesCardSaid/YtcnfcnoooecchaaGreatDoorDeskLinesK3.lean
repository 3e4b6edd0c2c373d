import Derived.Test.YtcnfcnoooecchaaGreatDoorDeskLinesK2
set_option linter.unusedVariables false
set_option linter.unusedSimpArgs false
namespace Go.Proofs.YtcnfcnoooecchaaGreatDoor
open Go Go.Mx
theorem Bm{g:aE}:∀(m:Nat)(t:aH)(s:St)(t':aH)(s':St),runT g qm m t s=some (t',s')->t'.length=t.length+m
 |0,t,s,t',s',h=>by
  simp only[runT,dC,fH]at h
  rw[h.1]
  rfl
 |m+1,t,s,t',s',h=>by
  rw[runT]at h
  split at h
  ·cases h
  ·have:=Bm m _ _ _ _ h
   simp[qm]at this
   omega
theorem Wa{F:aK}{b b':Nat}{h:Heap}{o w:Sl}{ps:aH}{q:Int}(V:bV h b [o.v])(V':bV h b' [w.v,VI q])(Wb:b'≠b)(O:cH h F o ps)(hFF:∀k,h.size<=k->F k)(hb:¬o.own b)(hb':¬o.own b')(hn:ps.length<=1000000)(x:Int)(K:aL)
 (HK:∀h' o' v,bV h' b [o'.v]->cH h' F o' (ps++[q])->(∀k,o'.own k->o.own k\/h.size<=k)->Fr (fun k=>k=b\/o.own k) h h'->K v h'):iQ aC (.func (.func 208) #[] #[VP b 0,VP b' 0]) [VI x] h K:=by
 refine v208 x b o b' w q h K (.cons V (by simpa using Wb) (.cons V' (by simp) .nil)) ?_
 refine bE gD (fun k=>h.size<=k) (fun _ h=>h) 1 (by omega) [VI q] rfl rfl fun v h1 n1 c1 o1 f1 m1 _=>⟨v,rfl,.cons (V.fr f1 fun h=>h) (by simpa using Wb) (.cons (V'.fr f1 fun h=>h) (by simp) .nil),?_⟩
 have z1:=f1.size
 have o1:bC v.own h1 v [q]:=o1.rd
 have O1:=Ow.no O f1
 refine cP gD O1 (fun k hk=>hFF k (by omega)) o1 (fU _) (by have h1:=bC.len O1.fM;have h2:=o1.len;simp at h2;omega) fun y h2 n2 o2 f2 d2=>⟨y,rfl,.cons ((V.fr f1 fun h=>h).fr f2 hb) (by simpa using Wb) (.cons ((V'.fr f1 fun h=>h).fr f2 hb') (by simp) .nil),fun h3 f3 dI=> ?_⟩
 rw[<-cV]at o2
 have hbl:=V.lt
 have Y4:∀k,In [b] k->k=b:=fun k hk=>by simpa[In]using hk
 have hyb:¬y.own b:=fun hk=>by
  rcases d2 b hk with h1|h1
  ·exact hb h1
  ·omega
 refine HK h3 y _ dI.head (Ow.fr o2 f3 fun k hk aQ=>hyb (by have:=Y4 k aQ;subst this;exact hk)) (fun k hk=>(d2 k hk).imp id fun h=>by omega) ?_
 exact(f1.aB.trans (f2.mono fun k _ hk=> .inr hk)).trans (f3.mono fun k _ hk=> .inl (Y4 k hk))
theorem Bo{S S':aK}{h:Heap}{g w:Sl}{aI:aE}{rs:aH}(G:cG S h g aI)(H:bC S' h w rs)(p n:Int)(K:aL)(HK:∀t h',cH h' (Iv h.size h'.size) t (kq aI rs p n).1->Fr No h h'->K (.tuple #[t.v,VB (kq aI rs p n).2]) h'):aG aC 162 #[.agg #[g.v],.agg #[w.v,VI p],VI n] h K:=by
 refine v162 g w p n h K fun b1 b2 h2 fK eN f2 cC=> ?_
 have f2:=f2.aM
 have no:kq aI rs p n=([],false)->∀h',Fr No h h'->K (.tuple #[aD.v,VB false]) h':=fun e h' f=>by
  have:=HK aD h' (by rw[e];exact Ow.nil _ _ _ _) f
  rw[e]at this
  exact this
 refine Fc (G.no f2) (H.no f2) p n 200 _ fun h3 f3=>⟨_,rfl,cC.aB f3,fun e=> ?_,fun e=> ?_⟩
 ·exact no (by unfold kq;rw[aF (by rw[bU e];simp)]) _ (f2.aA f3)
 have e:=bQ e
 have e2:kq aI rs p n=match runT aI qm n.toNat [p] (rs,p)with
  |none=>([],false)
  |some (t,_)=>(t,true):=by unfold kq;exact aJ e
 rw[bD,bT]at e
 have W:=dN e.1
 have U8:=bA W.cD
 have jm:=f2.aA f3
 have z03:=jm.size
 have hL:=cC.aB f3
 have l2:b2<h3.size:=hL.head.lt
 have l1:b1<h3.size:=hL.tail.head.lt
 have fj:Fr No h3 h3:=Fr.refl _ _
 have cp:∀{h1:Heap}{K:aL},Fr No h3 h1->(∀t h2,cH h2 (Iv h1.size h2.size) t rs->Fr No h1 h2->K (.agg #[t.v,VI p]) h2)->aG aC 110 #[.agg #[w.v,VI p]] h1 K:=fun f HK=>jW ((H.no jm).no f) p (by have:=W.len;simp only at this;omega) _ HK
 have lit:∀{h1:Heap}{K:aL},Fr No h3 h1->(∀t h2,cH h2 (Iv h1.size h2.size) t [p]->Fr No h1 h2->K t.v h2)->lQ aC (Instr.buildSlice qx 1 #[(0,VI p)]) h1 K:=fun _ HK=>bE gD (fun k=>_<=k) (fun _ h=>h) 1 (by omega) [VI p] rfl rfl fun t h2 n2 c2 o2 f2 m2 _=>HK t h2 (Ow.gN o2) f2
 refine⟨fun bN xw xp bO xo h'=>xp=p/\∃i1 j1 i2 j2,cH h' (Iv i1 j1) xw rs/\cH h' (Iv i2 j2) xo [p]/\(j1<=i2\/j2<=i1)/\(bN<i1\/j1<=bN)/\(bN<i2\/j2<=bN)/\(bO<i1\/j1<=bO)/\(bO<i2\/j2<=bO)/\h3.size<=i1/\h3.size<=i2/\h3.size<=bN/\h3.size<=bO/\j1<=h'.size/\j2<=h'.size/\bN≠bO/\Fr No h3 h',?_,?_⟩
 ·refine⟨?_,?_,?_,?_⟩
  ·refine cp fj fun u_1 sQ fE Wc=>⟨u_1,_,rfl,hL.aB Wc,?_⟩
   replace hL:=hL.aB Wc
   have afX:=Wc.size
   replace fj:=fj.aA Wc
   refine⟨?_,?_,?_⟩
   ·refine lit fj fun u_2 Wd OW Sb=>⟨u_2,rfl,hL.aB Sb,?_⟩
    replace hL:=hL.aB Sb
    have afY:=Sb.size
    replace fE:=fE.no Sb
    replace fj:=fj.aA Sb
    refine⟨?_,?_⟩
    ·intro lI OX We aal aam OZ hL
     have aan:lI<We.size:=(hL.tail).head.lt
     have aao:OX<We.size:=(hL).head.lt
     have aap:lI≠OX:=hL.ne (lI,_) cF
     replace OZ:=OZ.aM
     have afZ:=OZ.size
     replace fE:=fE.no OZ
     replace OW:=OW.no OZ
     replace fj:=fj.aA OZ
     exact⟨rfl,h3.size,sQ.size,sQ.size,Wd.size,fE,OW,by omega,by omega,by omega,by omega,by omega,by omega,by omega,by omega,by omega,by omega,by omega,by omega,fj⟩
    ·intro Nq O0 vJ aaq aar O8 hL
     have aas:Nq<vJ.size:=(hL.tail).head.lt
     have aat:O0<vJ.size:=(hL).head.lt
     have aau:Nq≠O0:=hL.ne (Nq,_) cF
     replace O8:=O8.aM
     have af0:=O8.size
     replace fE:=fE.no O8
     replace OW:=OW.no O8
     replace fj:=fj.aA O8
     exact⟨rfl,h3.size,sQ.size,sQ.size,Wd.size,fE,OW,by omega,by omega,by omega,by omega,by omega,by omega,by omega,by omega,by omega,by omega,by omega,by omega,fj⟩
   ·intro Ue uA aav Sc hL
    have aaw:Ue<uA.size:=(hL).head.lt
    replace Sc:=Sc.aM
    have af1:=Sc.size
    replace fE:=fE.no Sc
    replace fj:=fj.aA Sc
    refine⟨?_,?_⟩
    ·refine lit fj fun u_6 aax o_6 Sd=>⟨u_6,rfl,hL.aB Sd,?_⟩
     replace hL:=hL.aB Sd
     have af2:=Sd.size
     replace fE:=fE.no Sd
     replace fj:=fj.aA Sd
     intro tA aaz Wf Pa hL
     have Wg:tA<aaz.size:=(hL).head.lt
     replace Pa:=Pa.dM (lo:=sQ.size) (hi:=uA.size) ⟨⟨by omega,by omega⟩,trivial⟩
     have af3:=Pa.size
     replace fE:=fE.iv Pa (by omega)
     replace o_6:=o_6.iv Pa (by omega)
     replace fj:=fj.aU Pa (by omega)
     exact⟨rfl,h3.size,sQ.size,uA.size,aax.size,fE,o_6,by omega,by omega,by omega,by omega,by omega,by omega,by omega,by omega,by omega,by omega,by omega,by omega,fj⟩
    ·intro xg Bp Wi Se hL
     have Wj:xg<Bp.size:=(hL).head.lt
     replace Se:=Se.aM
     have af4:=Se.size
     replace fE:=fE.no Se
     replace fj:=fj.aA Se
     refine⟨?_,?_⟩
     ·refine lit fj fun u_9 aaA Wk Sf=>⟨u_9,rfl,hL.aB Sf,?_⟩
      replace hL:=hL.aB Sf
      have af5:=Sf.size
      replace fE:=fE.no Sf
      replace fj:=fj.aA Sf
      intro VU FQ hL
      have aaB:=FQ.size
      replace fE:=fE.fr FQ fun k hk aQ=>by have h1:=(fE.aS hk).1;have h2:=h1.1;have h3:=h1.2;simp only[In,aO,aR,aN]at aQ;omega
      replace Wk:=Wk.fr FQ fun k hk aQ=>by have h1:=(Wk.aS hk).1;have h2:=h1.1;have h3:=h1.2;simp only[In,aO,aR,aN]at aQ;omega
      replace fj:=fj.fresh FQ fun k hk=>by simp only[In,aO,aR,aN]at hk;omega
      exact⟨rfl,h3.size,sQ.size,Bp.size,aaA.size,fE,Wk,by omega,by omega,by omega,by omega,by omega,by omega,by omega,by omega,by omega,by omega,by omega,by omega,fj⟩
     ·intro Jf Bq hL
      replace Bq:=Bq.dM (lo:=sQ.size) (hi:=uA.size) ⟨⟨by omega,by omega⟩,trivial⟩
      have aaC:=Bq.size
      replace fE:=fE.iv Bq (by omega)
      replace fj:=fj.aU Bq (by omega)
      refine lit fj fun aaD wZ Lc Bs=>⟨aaD,rfl,hL.aB Bs,?_⟩
      replace hL:=hL.aB Bs
      have aaE:=Bs.size
      replace fE:=fE.no Bs
      replace fj:=fj.aA Bs
      intro RI xi hL
      replace xi:=xi.dM (lo:=uA.size) (hi:=Bp.size) ⟨⟨by omega,by omega⟩,trivial⟩
      have aaF:=xi.size
      replace fE:=fE.iv xi (by omega)
      replace Lc:=Lc.iv xi (by omega)
      replace fj:=fj.aU xi (by omega)
      exact⟨rfl,h3.size,sQ.size,Jf.size,wZ.size,fE,Lc,by omega,by omega,by omega,by omega,by omega,by omega,by omega,by omega,by omega,by omega,by omega,by omega,fj⟩
   ·intro CW oC Wl Bt hL
    have Wm:CW<oC.size:=(hL).head.lt
    replace Bt:=Bt.aM
    have aaG:=Bt.size
    replace fE:=fE.no Bt
    replace fj:=fj.aA Bt
    refine⟨?_,?_⟩
    ·refine lit fj fun aaH FK Ld Bu=>⟨aaH,rfl,hL.aB Bu,?_⟩
     replace hL:=hL.aB Bu
     have aaI:=Bu.size
     replace fE:=fE.no Bu
     replace fj:=fj.aA Bu
     intro oD vE Wn xj hL
     have Wo:oD<vE.size:=(hL).head.lt
     replace xj:=xj.dM (lo:=sQ.size) (hi:=oC.size) ⟨⟨by omega,by omega⟩,trivial⟩
     have aaJ:=xj.size
     replace fE:=fE.iv xj (by omega)
     replace Ld:=Ld.iv xj (by omega)
     replace fj:=fj.aU xj (by omega)
     exact⟨rfl,h3.size,sQ.size,oC.size,FK.size,fE,Ld,by omega,by omega,by omega,by omega,by omega,by omega,by omega,by omega,by omega,by omega,by omega,by omega,fj⟩
    ·intro nE vF Wp Bv hL
     have Wq:nE<vF.size:=(hL).head.lt
     replace Bv:=Bv.aM
     have aaK:=Bv.size
     replace fE:=fE.no Bv
     replace fj:=fj.aA Bv
     refine⟨?_,?_⟩
     ·refine lit fj fun aaL Bk FR Bw=>⟨aaL,rfl,hL.aB Bw,?_⟩
      replace hL:=hL.aB Bw
      have aaM:=Bw.size
      replace fE:=fE.no Bw
      replace fj:=fj.aA Bw
      intro FN FT hL
      have aaN:=FT.size
      replace fE:=fE.fr FT fun k hk aQ=>by have h1:=(fE.aS hk).1;have h2:=h1.1;have h3:=h1.2;simp only[In,aO,aR,aN]at aQ;omega
      replace FR:=FR.fr FT fun k hk aQ=>by have h1:=(FR.aS hk).1;have h2:=h1.1;have h3:=h1.2;simp only[In,aO,aR,aN]at aQ;omega
      replace fj:=fj.fresh FT fun k hk=>by simp only[In,aO,aR,aN]at hk;omega
      exact⟨rfl,h3.size,sQ.size,vF.size,Bk.size,fE,FR,by omega,by omega,by omega,by omega,by omega,by omega,by omega,by omega,by omega,by omega,by omega,by omega,fj⟩
     ·intro Le Bx hL
      replace Bx:=Bx.dM (lo:=oC.size) (hi:=vF.size) ⟨⟨by omega,by omega⟩,trivial⟩
      have aaO:=Bx.size
      replace fE:=fE.iv Bx (by omega)
      replace fj:=fj.aU Bx (by omega)
      refine lit fj fun aaP Jk Lg Bz=>⟨aaP,rfl,hL.aB Bz,?_⟩
      replace hL:=hL.aB Bz
      have aaQ:=Bz.size
      replace fE:=fE.no Bz
      replace fj:=fj.aA Bz
      intro Si xk hL
      replace xk:=xk.dM (lo:=sQ.size) (hi:=oC.size) ⟨⟨by omega,by omega⟩,trivial⟩
      have aaR:=xk.size
      replace fE:=fE.iv xk (by omega)
      replace Lg:=Lg.iv xk (by omega)
      replace fj:=fj.aU xk (by omega)
      exact⟨rfl,h3.size,sQ.size,Le.size,Jk.size,fE,Lg,by omega,by omega,by omega,by omega,by omega,by omega,by omega,by omega,by omega,by omega,by omega,by omega,fj⟩
  ·refine lit fj fun aaS l9 dH FU=>⟨aaS,rfl,hL.aB FU,?_⟩
   replace hL:=hL.aB FU
   have aaT:=FU.size
   replace fj:=fj.aA FU
   refine⟨?_,?_,?_⟩
   ·refine cp fj fun aaU FV xl BA=>⟨aaU,_,rfl,hL.aB BA,?_⟩
    replace hL:=hL.aB BA
    have aaV:=BA.size
    replace dH:=dH.no BA
    replace fj:=fj.aA BA
    refine⟨?_,?_⟩
    ·intro uB yQ FW Wr Ww xm hL
     have Wx:uB<FW.size:=(hL.tail).head.lt
     have Wy:yQ<FW.size:=(hL).head.lt
     have Wz:uB≠yQ:=hL.ne (uB,_) cF
     replace xm:=xm.aM
     have aaW:=xm.size
     replace dH:=dH.no xm
     replace xl:=xl.no xm
     replace fj:=fj.aA xm
     exact⟨rfl,l9.size,FV.size,h3.size,l9.size,xl,dH,by omega,by omega,by omega,by omega,by omega,by omega,by omega,by omega,by omega,by omega,by omega,by omega,fj⟩
    ·intro uC yR FY WA WB xq hL
     have WC:uC<FY.size:=(hL.tail).head.lt
     have WD:yR<FY.size:=(hL).head.lt
     have WE:uC≠yR:=hL.ne (uC,_) cF
     replace xq:=xq.aM
     have aaX:=xq.size
     replace dH:=dH.no xq
     replace xl:=xl.no xq
     replace fj:=fj.aA xq
     exact⟨rfl,l9.size,FV.size,h3.size,l9.size,xl,dH,by omega,by omega,by omega,by omega,by omega,by omega,by omega,by omega,by omega,by omega,by omega,by omega,fj⟩
   ·intro aaY CX WG BB hL
    have WH:aaY<CX.size:=(hL).head.lt
    replace BB:=BB.aM
    have aaZ:=BB.size
    replace dH:=dH.no BB
    replace fj:=fj.aA BB
    refine⟨?_,?_⟩
    ·refine cp fj fun aa0 Lh Li BC=>⟨aa0,_,rfl,hL.aB BC,?_⟩
     replace hL:=hL.aB BC
     have aa1:=BC.size
     replace dH:=dH.no BC
     replace fj:=fj.aA BC
     intro aa2 aa3 WI xt hL
     have WJ:aa2<aa3.size:=(hL).head.lt
     replace xt:=xt.dM (lo:=l9.size) (hi:=CX.size) ⟨⟨by omega,by omega⟩,trivial⟩
     have aa4:=xt.size
     replace dH:=dH.iv xt (by omega)
     replace Li:=Li.iv xt (by omega)
     replace fj:=fj.aU xt (by omega)
     exact⟨rfl,CX.size,Lh.size,h3.size,l9.size,Li,dH,by omega,by omega,by omega,by omega,by omega,by omega,by omega,by omega,by omega,by omega,by omega,by omega,fj⟩
    ·intro aa5 Sj WL BD hL
     have WM:aa5<Sj.size:=(hL).head.lt
     replace BD:=BD.aM
     have aa6:=BD.size
     replace dH:=dH.no BD
     replace fj:=fj.aA BD
     refine cp fj fun aa7 aa8 FZ BE=>⟨aa7,_,rfl,hL.aB BE,?_⟩
     replace hL:=hL.aB BE
     have aa9:=BE.size
     replace dH:=dH.no BE
     replace fj:=fj.aA BE
     intro am1 F0 hL
     have aba:=F0.size
     replace dH:=dH.fr F0 fun k hk aQ=>by have h1:=(dH.aS hk).1;have h2:=h1.1;have h3:=h1.2;simp only[In,aO,aR,aN]at aQ;omega
     replace FZ:=FZ.fr F0 fun k hk aQ=>by have h1:=(FZ.aS hk).1;have h2:=h1.1;have h3:=h1.2;simp only[In,aO,aR,aN]at aQ;omega
     replace fj:=fj.fresh F0 fun k hk=>by simp only[In,aO,aR,aN]at hk;omega
     exact⟨rfl,Sj.size,aa8.size,h3.size,l9.size,FZ,dH,by omega,by omega,by omega,by omega,by omega,by omega,by omega,by omega,by omega,by omega,by omega,by omega,fj⟩
   ·intro abb Lj WN BF hL
    have WQ:abb<Lj.size:=(hL).head.lt
    replace BF:=BF.aM
    have abc:=BF.size
    replace dH:=dH.no BF
    replace fj:=fj.aA BF
    refine⟨?_,?_⟩
    ·refine cp fj fun abd abe Lk BG=>⟨abd,_,rfl,hL.aB BG,?_⟩
     replace hL:=hL.aB BG
     have abf:=BG.size
     replace dH:=dH.no BG
     replace fj:=fj.aA BG
     intro abg abh WR xu hL
     have WS:abg<abh.size:=(hL).head.lt
     replace xu:=xu.dM (lo:=l9.size) (hi:=Lj.size) ⟨⟨by omega,by omega⟩,trivial⟩
     have abj:=xu.size
     replace dH:=dH.iv xu (by omega)
     replace Lk:=Lk.iv xu (by omega)
     replace fj:=fj.aU xu (by omega)
     exact⟨rfl,Lj.size,abe.size,h3.size,l9.size,Lk,dH,by omega,by omega,by omega,by omega,by omega,by omega,by omega,by omega,by omega,by omega,by omega,by omega,fj⟩
    ·intro abk Sk WT BH hL
     have WU:abk<Sk.size:=(hL).head.lt
     replace BH:=BH.aM
     have abl:=BH.size
     replace dH:=dH.no BH
     replace fj:=fj.aA BH
     refine cp fj fun abm abn Ga BI=>⟨abm,_,rfl,hL.aB BI,?_⟩
     replace hL:=hL.aB BI
     have abo:=BI.size
     replace dH:=dH.no BI
     replace fj:=fj.aA BI
     intro am2 Gb hL
     have abp:=Gb.size
     replace dH:=dH.fr Gb fun k hk aQ=>by have h1:=(dH.aS hk).1;have h2:=h1.1;have h3:=h1.2;simp only[In,aO,aR,aN]at aQ;omega
     replace Ga:=Ga.fr Gb fun k hk aQ=>by have h1:=(Ga.aS hk).1;have h2:=h1.1;have h3:=h1.2;simp only[In,aO,aR,aN]at aQ;omega
     replace fj:=fj.fresh Gb fun k hk=>by simp only[In,aO,aR,aN]at hk;omega
     exact⟨rfl,Sk.size,abn.size,h3.size,l9.size,Ga,dH,by omega,by omega,by omega,by omega,by omega,by omega,by omega,by omega,by omega,by omega,by omega,by omega,fj⟩
  ·intro abq nn WV Gc hL
   have WW:abq<nn.size:=(hL).head.lt
   replace Gc:=Gc.aM
   have abr:=Gc.size
   replace fj:=fj.aA Gc
   refine⟨?_,?_,?_⟩
   ·refine cp fj fun abt BJ ia Gd=>⟨abt,_,rfl,hL.aB Gd,?_⟩
    replace hL:=hL.aB Gd
    have abu:=Gd.size
    replace fj:=fj.aA Gd
    refine⟨?_,?_⟩
    ·refine lit fj fun abv abw Ll BK=>⟨abv,rfl,hL.aB BK,?_⟩
     replace hL:=hL.aB BK
     have abx:=BK.size
     replace ia:=ia.no BK
     replace fj:=fj.aA BK
     intro aby abz WX xv hL
     have WY:aby<abz.size:=(hL).head.lt
     replace xv:=xv.dM (lo:=h3.size) (hi:=nn.size) ⟨⟨by omega,by omega⟩,trivial⟩
     have abA:=xv.size
     replace ia:=ia.iv xv (by omega)
     replace Ll:=Ll.iv xv (by omega)
     replace fj:=fj.aU xv (by omega)
     exact⟨rfl,nn.size,BJ.size,BJ.size,abw.size,ia,Ll,by omega,by omega,by omega,by omega,by omega,by omega,by omega,by omega,by omega,by omega,by omega,by omega,fj⟩
    ·intro abB Lm WZ BL hL
     have W0:abB<Lm.size:=(hL).head.lt
     replace BL:=BL.aM
     have abC:=BL.size
     replace ia:=ia.no BL
     replace fj:=fj.aA BL
     refine⟨?_,?_⟩
     ·refine lit fj fun abD abE Ge BM=>⟨abD,rfl,hL.aB BM,?_⟩
      replace hL:=hL.aB BM
      have abF:=BM.size
      replace ia:=ia.no BM
      replace fj:=fj.aA BM
      intro am3 Gf hL
      have abG:=Gf.size
      replace ia:=ia.fr Gf fun k hk aQ=>by have h1:=(ia.aS hk).1;have h2:=h1.1;have h3:=h1.2;simp only[In,aO,aR,aN]at aQ;omega
      replace Ge:=Ge.fr Gf fun k hk aQ=>by have h1:=(Ge.aS hk).1;have h2:=h1.1;have h3:=h1.2;simp only[In,aO,aR,aN]at aQ;omega
      replace fj:=fj.fresh Gf fun k hk=>by simp only[In,aO,aR,aN]at hk;omega
      exact⟨rfl,nn.size,BJ.size,Lm.size,abE.size,ia,Ge,by omega,by omega,by omega,by omega,by omega,by omega,by omega,by omega,by omega,by omega,by omega,by omega,fj⟩
     ·intro abH BN hL
      replace BN:=BN.dM (lo:=h3.size) (hi:=nn.size) ⟨⟨by omega,by omega⟩,trivial⟩
      have abI:=BN.size
      replace ia:=ia.iv BN (by omega)
      replace fj:=fj.aU BN (by omega)
      refine lit fj fun abJ abK Ln BO=>⟨abJ,rfl,hL.aB BO,?_⟩
      replace hL:=hL.aB BO
      have abL:=BO.size
      replace ia:=ia.no BO
      replace fj:=fj.aA BO
      intro am4 xx hL
      replace xx:=xx.dM (lo:=BJ.size) (hi:=Lm.size) ⟨⟨by omega,by omega⟩,trivial⟩
      have abM:=xx.size
      replace ia:=ia.iv xx (by omega)
      replace Ln:=Ln.iv xx (by omega)
      replace fj:=fj.aU xx (by omega)
      exact⟨rfl,nn.size,BJ.size,abH.size,abK.size,ia,Ln,by omega,by omega,by omega,by omega,by omega,by omega,by omega,by omega,by omega,by omega,by omega,by omega,fj⟩
   ·refine lit fj fun abN Lo k9 Gg=>⟨abN,rfl,hL.aB Gg,?_⟩
    replace hL:=hL.aB Gg
    have abO:=Gg.size
    replace fj:=fj.aA Gg
    refine⟨?_,?_⟩
    ·refine cp fj fun abP abQ Lp BP=>⟨abP,_,rfl,hL.aB BP,?_⟩
     replace hL:=hL.aB BP
     have abR:=BP.size
     replace k9:=k9.no BP
     replace fj:=fj.aA BP
     intro abS abT Xa xy hL
     have Xb:abS<abT.size:=(hL).head.lt
     replace xy:=xy.dM (lo:=h3.size) (hi:=nn.size) ⟨⟨by omega,by omega⟩,trivial⟩
     have abU:=xy.size
     replace k9:=k9.iv xy (by omega)
     replace Lp:=Lp.iv xy (by omega)
     replace fj:=fj.aU xy (by omega)
     exact⟨rfl,Lo.size,abQ.size,nn.size,Lo.size,Lp,k9,by omega,by omega,by omega,by omega,by omega,by omega,by omega,by omega,by omega,by omega,by omega,by omega,fj⟩
    ·intro abV Sm Xc BR hL
     have Xd:abV<Sm.size:=(hL).head.lt
     replace BR:=BR.aM
     have abW:=BR.size
     replace k9:=k9.no BR
     replace fj:=fj.aA BR
     refine cp fj fun abX abY Gh BS=>⟨abX,_,rfl,hL.aB BS,?_⟩
     replace hL:=hL.aB BS
     have abZ:=BS.size
     replace k9:=k9.no BS
     replace fj:=fj.aA BS
     intro am5 Gi hL
     have ab0:=Gi.size
     replace k9:=k9.fr Gi fun k hk aQ=>by have h1:=(k9.aS hk).1;have h2:=h1.1;have h3:=h1.2;simp only[In,aO,aR,aN]at aQ;omega
     replace Gh:=Gh.fr Gi fun k hk aQ=>by have h1:=(Gh.aS hk).1;have h2:=h1.1;have h3:=h1.2;simp only[In,aO,aR,aN]at aQ;omega
     replace fj:=fj.fresh Gi fun k hk=>by simp only[In,aO,aR,aN]at hk;omega
     exact⟨rfl,Sm.size,abY.size,nn.size,Lo.size,Gh,k9,by omega,by omega,by omega,by omega,by omega,by omega,by omega,by omega,by omega,by omega,by omega,by omega,fj⟩
   ·intro ab1 BT Xe Gj hL
    have Xf:ab1<BT.size:=(hL).head.lt
    replace Gj:=Gj.aM
    have ab2:=Gj.size
    replace fj:=fj.aA Gj
    refine⟨?_,?_⟩
    ·refine cp fj fun ab3 Lq lc Gk=>⟨ab3,_,rfl,hL.aB Gk,?_⟩
     replace hL:=hL.aB Gk
     have ab4:=Gk.size
     replace fj:=fj.aA Gk
     refine⟨?_,?_⟩
     ·refine lit fj fun ab5 ab6 Gl BU=>⟨ab5,rfl,hL.aB BU,?_⟩
      replace hL:=hL.aB BU
      have ab7:=BU.size
      replace lc:=lc.no BU
      replace fj:=fj.aA BU
      intro am6 Gm hL
      have ab8:=Gm.size
      replace lc:=lc.fr Gm fun k hk aQ=>by have h1:=(lc.aS hk).1;have h2:=h1.1;have h3:=h1.2;simp only[In,aO,aR,aN]at aQ;omega
      replace Gl:=Gl.fr Gm fun k hk aQ=>by have h1:=(Gl.aS hk).1;have h2:=h1.1;have h3:=h1.2;simp only[In,aO,aR,aN]at aQ;omega
      replace fj:=fj.fresh Gm fun k hk=>by simp only[In,aO,aR,aN]at hk;omega
      exact⟨rfl,BT.size,Lq.size,Lq.size,ab6.size,lc,Gl,by omega,by omega,by omega,by omega,by omega,by omega,by omega,by omega,by omega,by omega,by omega,by omega,fj⟩
     ·intro ab9 BV hL
      replace BV:=BV.dM (lo:=h3.size) (hi:=nn.size) ⟨⟨by omega,by omega⟩,trivial⟩
      have aca:=BV.size
      replace lc:=lc.iv BV (by omega)
      replace fj:=fj.aU BV (by omega)
      refine lit fj fun acb acd Lr BW=>⟨acb,rfl,hL.aB BW,?_⟩
      replace hL:=hL.aB BW
      have ace:=BW.size
      replace lc:=lc.no BW
      replace fj:=fj.aA BW
      intro am7 xz hL
      replace xz:=xz.dM (lo:=nn.size) (hi:=BT.size) ⟨⟨by omega,by omega⟩,trivial⟩
      have acf:=xz.size
      replace lc:=lc.iv xz (by omega)
      replace Lr:=Lr.iv xz (by omega)
      replace fj:=fj.aU xz (by omega)
      exact⟨rfl,BT.size,Lq.size,ab9.size,acd.size,lc,Lr,by omega,by omega,by omega,by omega,by omega,by omega,by omega,by omega,by omega,by omega,by omega,by omega,fj⟩
    ·refine lit fj fun acg Sn xA Gn=>⟨acg,rfl,hL.aB Gn,?_⟩
     replace hL:=hL.aB Gn
     have ach:=Gn.size
     replace fj:=fj.aA Gn
     refine cp fj fun aci acj Gp BX=>⟨aci,_,rfl,hL.aB BX,?_⟩
     replace hL:=hL.aB BX
     have ack:=BX.size
     replace xA:=xA.no BX
     replace fj:=fj.aA BX
     intro am8 Gq hL
     have acm:=Gq.size
     replace xA:=xA.fr Gq fun k hk aQ=>by have h1:=(xA.aS hk).1;have h2:=h1.1;have h3:=h1.2;simp only[In,aO,aR,aN]at aQ;omega
     replace Gp:=Gp.fr Gq fun k hk aQ=>by have h1:=(Gp.aS hk).1;have h2:=h1.1;have h3:=h1.2;simp only[In,aO,aR,aN]at aQ;omega
     replace fj:=fj.fresh Gq fun k hk=>by simp only[In,aO,aR,aN]at hk;omega
     exact⟨rfl,Sn.size,acj.size,BT.size,Sn.size,Gp,xA,by omega,by omega,by omega,by omega,by omega,by omega,by omega,by omega,by omega,by omega,by omega,by omega,fj⟩
  ·intro acn je Xg Gr hL
   have Xh:acn<je.size:=(hL).head.lt
   replace Gr:=Gr.aM
   have aco:=Gr.size
   replace fj:=fj.aA Gr
   refine⟨?_,?_,?_⟩
   ·refine cp fj fun acp rP ic Gs=>⟨acp,_,rfl,hL.aB Gs,?_⟩
    replace hL:=hL.aB Gs
    have acq:=Gs.size
    replace fj:=fj.aA Gs
    refine⟨?_,?_⟩
    ·refine lit fj fun acr Sr Ls BZ=>⟨acr,rfl,hL.aB BZ,?_⟩
     replace hL:=hL.aB BZ
     have acs:=BZ.size
     replace ic:=ic.no BZ
     replace fj:=fj.aA BZ
     intro acu Ss Xi xB hL
     have Xj:acu<Ss.size:=(hL).head.lt
     replace xB:=xB.dM (lo:=h3.size) (hi:=je.size) ⟨⟨by omega,by omega⟩,trivial⟩
     have acv:=xB.size
     replace ic:=ic.iv xB (by omega)
     replace Ls:=Ls.iv xB (by omega)
     replace fj:=fj.aU xB (by omega)
     exact⟨rfl,je.size,rP.size,rP.size,Sr.size,ic,Ls,by omega,by omega,by omega,by omega,by omega,by omega,by omega,by omega,by omega,by omega,by omega,by omega,fj⟩
    ·intro acw B3 Xk B4 hL
     have Xl:acw<B3.size:=(hL).head.lt
     replace B4:=B4.aM
     have acx:=B4.size
     replace ic:=ic.no B4
     replace fj:=fj.aA B4
     refine⟨?_,?_⟩
     ·refine lit fj fun acy Su Gt B5=>⟨acy,rfl,hL.aB B5,?_⟩
      replace hL:=hL.aB B5
      have acz:=B5.size
      replace ic:=ic.no B5
      replace fj:=fj.aA B5
      intro af6 Gu hL
      have acA:=Gu.size
      replace ic:=ic.fr Gu fun k hk aQ=>by have h1:=(ic.aS hk).1;have h2:=h1.1;have h3:=h1.2;simp only[In,aO,aR,aN]at aQ;omega
      replace Gt:=Gt.fr Gu fun k hk aQ=>by have h1:=(Gt.aS hk).1;have h2:=h1.1;have h3:=h1.2;simp only[In,aO,aR,aN]at aQ;omega
      replace fj:=fj.fresh Gu fun k hk=>by simp only[In,aO,aR,aN]at hk;omega
      exact⟨rfl,je.size,rP.size,B3.size,Su.size,ic,Gt,by omega,by omega,by omega,by omega,by omega,by omega,by omega,by omega,by omega,by omega,by omega,by omega,fj⟩
     ·intro Sv B7 hL
      replace B7:=B7.dM (lo:=rP.size) (hi:=B3.size) ⟨⟨by omega,by omega⟩,trivial⟩
      have acB:=B7.size
      replace ic:=ic.iv B7 (by omega)
      replace fj:=fj.aU B7 (by omega)
      refine lit fj fun acC Sx Lu B8=>⟨acC,rfl,hL.aB B8,?_⟩
      replace hL:=hL.aB B8
      have acD:=B8.size
      replace ic:=ic.no B8
      replace fj:=fj.aA B8
      intro af7 xC hL
      replace xC:=xC.dM (lo:=h3.size) (hi:=je.size) ⟨⟨by omega,by omega⟩,trivial⟩
      have acE:=xC.size
      replace ic:=ic.iv xC (by omega)
      replace Lu:=Lu.iv xC (by omega)
      replace fj:=fj.aU xC (by omega)
      exact⟨rfl,je.size,rP.size,Sv.size,Sx.size,ic,Lu,by omega,by omega,by omega,by omega,by omega,by omega,by omega,by omega,by omega,by omega,by omega,by omega,fj⟩
   ·refine lit fj fun acF B9 ld Gv=>⟨acF,rfl,hL.aB Gv,?_⟩
    replace hL:=hL.aB Gv
    have acG:=Gv.size
    replace fj:=fj.aA Gv
    refine⟨?_,?_⟩
    ·refine cp fj fun acH Sy Lv Ca=>⟨acH,_,rfl,hL.aB Ca,?_⟩
     replace hL:=hL.aB Ca
     have acI:=Ca.size
     replace ld:=ld.no Ca
     replace fj:=fj.aA Ca
     intro acJ Sz Xm xD hL
     have Xn:acJ<Sz.size:=(hL).head.lt
     replace xD:=xD.dM (lo:=h3.size) (hi:=je.size) ⟨⟨by omega,by omega⟩,trivial⟩
     have acK:=xD.size
     replace ld:=ld.iv xD (by omega)
     replace Lv:=Lv.iv xD (by omega)
     replace fj:=fj.aU xD (by omega)
     exact⟨rfl,B9.size,Sy.size,je.size,B9.size,Lv,ld,by omega,by omega,by omega,by omega,by omega,by omega,by omega,by omega,by omega,by omega,by omega,by omega,fj⟩
    ·intro acL Jl Xo Cb hL
     have Xp:acL<Jl.size:=(hL).head.lt
     replace Cb:=Cb.aM
     have acM:=Cb.size
     replace ld:=ld.no Cb
     replace fj:=fj.aA Cb
     refine cp fj fun acN SA Gw Cc=>⟨acN,_,rfl,hL.aB Cc,?_⟩
     replace hL:=hL.aB Cc
     have acO:=Cc.size
     replace ld:=ld.no Cc
     replace fj:=fj.aA Cc
     intro af8 Gx hL
     have acP:=Gx.size
     replace ld:=ld.fr Gx fun k hk aQ=>by have h1:=(ld.aS hk).1;have h2:=h1.1;have h3:=h1.2;simp only[In,aO,aR,aN]at aQ;omega
     replace Gw:=Gw.fr Gx fun k hk aQ=>by have h1:=(Gw.aS hk).1;have h2:=h1.1;have h3:=h1.2;simp only[In,aO,aR,aN]at aQ;omega
     replace fj:=fj.fresh Gx fun k hk=>by simp only[In,aO,aR,aN]at hk;omega
     exact⟨rfl,Jl.size,SA.size,je.size,B9.size,Gw,ld,by omega,by omega,by omega,by omega,by omega,by omega,by omega,by omega,by omega,by omega,by omega,by omega,fj⟩
   ·intro acQ rQ Xq Gy hL
    have Xr:acQ<rQ.size:=(hL).head.lt
    replace Gy:=Gy.aM
    have acR:=Gy.size
    replace fj:=fj.aA Gy
    refine⟨?_,?_⟩
    ·refine cp fj fun acS Cd lg Gz=>⟨acS,_,rfl,hL.aB Gz,?_⟩
     replace hL:=hL.aB Gz
     have acT:=Gz.size
     replace fj:=fj.aA Gz
     refine⟨?_,?_⟩
     ·refine lit fj fun acU SB GA Ce=>⟨acU,rfl,hL.aB Ce,?_⟩
      replace hL:=hL.aB Ce
      have acV:=Ce.size
      replace lg:=lg.no Ce
      replace fj:=fj.aA Ce
      intro af9 GB hL
      have acW:=GB.size
      replace lg:=lg.fr GB fun k hk aQ=>by have h1:=(lg.aS hk).1;have h2:=h1.1;have h3:=h1.2;simp only[In,aO,aR,aN]at aQ;omega
      replace GA:=GA.fr GB fun k hk aQ=>by have h1:=(GA.aS hk).1;have h2:=h1.1;have h3:=h1.2;simp only[In,aO,aR,aN]at aQ;omega
      replace fj:=fj.fresh GB fun k hk=>by simp only[In,aO,aR,aN]at hk;omega
      exact⟨rfl,rQ.size,Cd.size,Cd.size,SB.size,lg,GA,by omega,by omega,by omega,by omega,by omega,by omega,by omega,by omega,by omega,by omega,by omega,by omega,fj⟩
     ·intro SC Cf hL
      replace Cf:=Cf.dM (lo:=je.size) (hi:=rQ.size) ⟨⟨by omega,by omega⟩,trivial⟩
      have acX:=Cf.size
      replace lg:=lg.iv Cf (by omega)
      replace fj:=fj.aU Cf (by omega)
      refine lit fj fun acY SD Lw Cg=>⟨acY,rfl,hL.aB Cg,?_⟩
      replace hL:=hL.aB Cg
      have acZ:=Cg.size
      replace lg:=lg.no Cg
      replace fj:=fj.aA Cg
      intro aga xE hL
      replace xE:=xE.dM (lo:=h3.size) (hi:=je.size) ⟨⟨by omega,by omega⟩,trivial⟩
      have ac0:=xE.size
      replace lg:=lg.iv xE (by omega)
      replace Lw:=Lw.iv xE (by omega)
      replace fj:=fj.aU xE (by omega)
      exact⟨rfl,rQ.size,Cd.size,SC.size,SD.size,lg,Lw,by omega,by omega,by omega,by omega,by omega,by omega,by omega,by omega,by omega,by omega,by omega,by omega,fj⟩
    ·refine lit fj fun ac1 Jm xF GC=>⟨ac1,rfl,hL.aB GC,?_⟩
     replace hL:=hL.aB GC
     have ac2:=GC.size
     replace fj:=fj.aA GC
     refine cp fj fun ac3 SE GD Ch=>⟨ac3,_,rfl,hL.aB Ch,?_⟩
     replace hL:=hL.aB Ch
     have ac4:=Ch.size
     replace xF:=xF.no Ch
     replace fj:=fj.aA Ch
     intro agb GF hL
     have ac5:=GF.size
     replace xF:=xF.fr GF fun k hk aQ=>by have h1:=(xF.aS hk).1;have h2:=h1.1;have h3:=h1.2;simp only[In,aO,aR,aN]at aQ;omega
     replace GD:=GD.fr GF fun k hk aQ=>by have h1:=(GD.aS hk).1;have h2:=h1.1;have h3:=h1.2;simp only[In,aO,aR,aN]at aQ;omega
     replace fj:=fj.fresh GF fun k hk=>by simp only[In,aO,aR,aN]at hk;omega
     exact⟨rfl,Jm.size,SE.size,rQ.size,Jm.size,GD,xF,by omega,by omega,by omega,by omega,by omega,by omega,by omega,by omega,by omega,by omega,by omega,by omega,fj⟩
 rintro bN x1 x2 bO x3 Ci ⟨rfl,i1,j1,i2,j2,o1,o2,d12,dN1,dN2,dO1,dO2,e1,e2',e3,e4,e5,e6,fL,f134⟩ np
 have f0:=jm.aA f134
 have am9:=f134.size
 have lO:bO<Ci.size:=np.head.lt
 have lN:bN<Ci.size:=np.tail.head.lt
 have ac6:cG (fun k=>k<h3.size) Ci g aI:=(G.no jm).low.no f134
 have xN:¬x1.own bN:=fun hk=>by have h1:=(o1.aS hk).1.1;have h2:=(o1.aS hk).1.2;omega
 have xO:¬x3.own bO:=fun hk=>by have h1:=(o2.aS hk).1.1;have h2:=(o2.aS hk).1.2;omega
 have x1O:¬x1.own bO:=fun hk=>by have h1:=(o1.aS hk).1.1;have h2:=(o1.aS hk).1.2;omega
 have x3N:¬x3.own bN:=fun hk=>by have h1:=(o2.aS hk).1.1;have h2:=(o2.aS hk).1.2;omega
 have Mt:∀k,x1.own k->¬x3.own k:=fun k h1 h3=>by have a1:=(o1.aS h1).1.1;have a2:=(o1.aS h1).1.2;have a3:=(o2.aS h3).1.1;have a4:=(o2.aS h3).1.2;omega
 have x1g:∀k,x1.own k->h3.size<=k/\k<Ci.size:=fun k hk=>⟨by have:=(o1.aS hk).1.1;omega,(o1.aS hk).2⟩
 have x3g:∀k,x3.own k->h3.size<=k/\k<Ci.size:=fun k hk=>⟨by have:=(o2.aS hk).1.1;omega,(o2.aS hk).2⟩
 --what the ac7 region and the other one are off
 have tf:∀k,(k=bN\/x1.own k)\/(k=bO\/x3.own k)->h3.size<=k:=fun k hk=>by
  rcases hk with(rfl|hk)|(rfl|hk)
  ·omega
  ·exact(x1g k hk).1
  ·omega
  ·exact(x3g k hk).1
 refine QI (s0:=(rs,x2)) (F:=fun k=>k=bN\/x1.own k) (S:=fun k=>k<h3.size) qm
  (fun N t h'=>∃o:Sl,bV h' bO [o.v]/\cH h' (fun k=>h3.size<=k) o t/\∀k,o.own k->x3.own k\/N<=k) (fun k=>k=bO\/x3.own k)
  ac6 np.tail.head (o1.mono fun k hk _=> .inr hk) (fun k hk=>⟨fun h=>by have:=tf k (.inl h);omega,fun h=>by have:=tf k (.inr h);omega⟩) (.inl rfl) xN W n (by omega) (by omega) _ [x2]
  (fun k hk=>by rcases hk with rfl|hk;exact lN;exact(x1g k hk).2)
  (fun k hk=>⟨fun h=>by
   rcases hk with rfl|hk<;>rcases h with rfl|h
   ·exact fL rfl
   ·exact x1O h
   ·exact x3N hk
   ·exact Mt k h hk,by rcases hk with rfl|hk;exact lO;exact(x3g k hk).2⟩)
  (fun N hN=>⟨x3,np.head,o2.mono fun k _ hk=>by have:=hk.1;omega,fun k hk=> .inl hk⟩)
  (fun N t h1 h2 U ⟨o,v1,v2,v3⟩ f hU=>⟨o,v1.fr f fun h=>(hU _ h).1 (.inl rfl),v2.fr f fun k hk aQ=>by
   rcases v3 k hk with h|h
   ·exact(hU k aQ).1 (.inr h)
   ·have:=(hU k aQ).2;omega,v3⟩)
  (fun N t s s' h1 K hN hN2 ⟨o,v1,v2,v3⟩ V O W hs hm HK=> ?_) _ (fun hr N t h9 q hN ⟨o,v1,v2,v3⟩ v9 f9=> ?_) fun t' s' hr N h9 hN ⟨o,v1,v2,v3⟩ o9 W9 v9 f9=> ?_
 ·obtain⟨m,hm,hr⟩:=hm
  have hl:=Bm m _ _ _ _ hr
  have ob:¬o.own bO:=fun hk=>by
   rcases v3 _ hk with h|h
   ·exact xO h
   ·omega
  have ob':¬o.own bN:=fun hk=>by
   rcases v3 _ hk with h|h
   ·exact x3N h
   ·omega
  refine Wa v1 V fL v2 (fun k hk=>by omega) ob ob' (by simp at hl;omega) s.2 K fun h2 o' v w1 w2 w3 w4=>HK h2 v ⟨o',w1,w2,fun k hk=> ?_⟩ (w4.mono fun k _ hk=> ?_)
  ·rcases w3 k hk with h|h
   ·exact v3 k h
   ·exact .inr (by omega)
  ·rcases hk with rfl|hk
   ·exact .inl (.inl rfl)
   ·exact(v3 k hk).imp .inr id
 ·have iG:Vars h9 [(bO,[o.v]),(bN,[x1.v,VI q]),(b2,[w.v,VI x2]),(b1,[g.v])]:= .cons v1 (fun p hp=>by
   have:=np.ne
   simp only[aO,aR,aN]at hp
   rcases hp with rfl|rfl|rfl<;>simp only<;>omega) (.cons v9 (fun p hp=>by
   simp only[aO,aR,aN]at hp
   rcases hp with rfl|rfl<;>simp only<;>omega) (np.tail.tail.fr f9 fun p hp hk=>by
   have:=tf _ hk
   simp only[aO,aR,aN]at hp
   rcases hp with rfl|rfl<;>simp only at this<;>omega))
  refine⟨o,x1,q,false,rfl,iG,fun _=> ?_,fun e=>by simp at e⟩
  rw[hr]at e2
  exact no e2 h9 (f0.fresh f9 fun k hk=>by have:=tf k hk;omega)
 ·have iG:Vars h9 [(bO,[o.v]),(bN,[x1.v,VI s'.2]),(b2,[w.v,VI x2]),(b1,[g.v])]:= .cons v1 (fun p hp=>by
   simp only[aO,aR,aN]at hp
   rcases hp with rfl|rfl|rfl<;>simp only<;>omega) (.cons v9 (fun p hp=>by
   simp only[aO,aR,aN]at hp
   rcases hp with rfl|rfl<;>simp only<;>omega) (np.tail.tail.fr f9 fun p hp hk=>by
   have:=tf _ hk
   simp only[aO,aR,aN]at hp
   rcases hp with rfl|rfl<;>simp only at this<;>omega))
  refine⟨o,x1,s'.2,true,rfl,iG,fun e=>by simp at e,fun _=> ?_⟩
  rw[hr]at e2
  have:=HK o h9 (by rw[e2];exact v2.mono fun k hk hF=>⟨by omega,(v2.aS hk).2⟩) (f0.fresh f9 fun k hk=>by have:=tf k hk;omega)
  rw[e2]at this
  exact this
theorem Cj{g:aE}:∀(m k:Nat)(t:aH)(s:St)(t':aH)(s':St),(∀x,x∈t->0<=x/\x<=(k:Int))->runT g Kx m t s=some (t',s')->t'.length=t.length/\∀x,x∈t'->0<=x/\x<=((k+m:Nat):Int)
 |0,k,t,s,t',s',hk,h=>by
  simp only[runT,dC,fH]at h
  rw[<-h.1]
  exact⟨rfl,by simpa using hk⟩
 |m+1,k,t,s,t',s',hk,h=>by
  rw[runT]at h
  split at h
  ·cases h
  ·rename_i s2 hs
   have:=Cj m (k+1) _ _ _ _ (AG (i:=s2.2.toNat) hk) h
   rw[show k+(m+1)=k+1+m by omega]
   exact⟨this.1.trans (rh _ _),this.2⟩
theorem SG(g:aE)(rs:aH)(p n:Int):(qz g rs p n).1.length<=8:=by
 unfold qz
 split
 ·rename_i h
  rw[bD,bT]at h
  have W:=dN h.1
  have:=bA W.cD
  split
  ·simp
  ·rename_i t s hs
   have:=(Cj n.toNat 0 _ _ _ _ (fun x hx=>by simp only[uj]at hx;omega) hs).1
   simp at this
   simp only
   omega
 ·simp
theorem ac8{F:aK}{b b':Nat}{h:Heap}{o w:Sl}{ps:aH}{q:Int}(V:bV h b [o.v])(V':bV h b' [w.v,VI q])(Wb:b'≠b)(O:cH h F o ps)(hb:¬o.own b)(hb':¬o.own b')(h0:0<=q)(h1:q<(ps.length:Int))(hv:∀x,x∈ps->0<=x/\x<=1000000)(x:Int)(K:aL)
 (HK:∀h' v,bV h' b [o.v]->cH h' F o (bump ps q.toNat)->Fr o.own h h'->K v h'):iQ aC (.func (.func 209) #[] #[VP b 0,VP b' 0]) [VI x] h K:=by
 have R:bC F h o ps:=O.fM
 have hl:=R.len
 have hm:=hv _ (bJ (show q.toNat<ps.length by omega))
 refine akA x b o b' w q h K (.cons V (by simpa using Wb) (.cons V' (by simp) .nil)) ⟨R.bM h0 h1,_,R.get h0 h1,R.bM h0 h1,?_⟩
 rw[aP _ (by omega) (by omega)]
 obtain⟨w1,w2,w3⟩:=O.gH h0 (by omega) (VI ((ps[q.toNat]'(by omega))+1))
 have hL:Vars (dR h (o.at q 1) (VI ((ps[q.toNat]'(by omega))+1))) [(b,[o.v]),(b',[w.v,VI q])]:= .cons (V.fr w3 hb) (by simpa using Wb) (.cons (V'.fr w3 hb') (by simp) .nil)
 refine⟨w1,hL,fun h2 e2 _=> ?_⟩
 subst e2
 rw[<-iu]at w2
 have e:ps.set q.toNat ((ps[q.toNat]'(by omega))+1)=bump ps q.toNat:=by unfold bump;rw[bB (by omega)]
 rw[e]at w2
 exact HK _ _ hL.head w2 w3
theorem Lx{S S':aK}{h:Heap}{g w:Sl}{aI:aE}{rs:aH}(G:cG S h g aI)(H:bC S' h w rs)(p n:Int)(K:aL)(HK:∀t h',cH h' (Iv h.size h'.size) t (qz aI rs p n).1->Fr No h h'->K (.tuple #[t.v,VB (qz aI rs p n).2]) h'):aG aC 163 #[.agg #[g.v],.agg #[w.v,VI p],VI n] h K:=by
 refine ajz g w p n h K fun b1 b2 h2 fK eN f2 cC=> ?_
 have f2:=f2.aM
 have no:qz aI rs p n=([],false)->∀h',Fr No h h'->K (.tuple #[aD.v,VB false]) h':=fun e h' f=>by
  have:=HK aD h' (by rw[e];exact Ow.nil _ _ _ _) f
  rw[e]at this
  exact this
 refine Fc (G.no f2) (H.no f2) p n 2000 _ fun h3 f3=>⟨_,rfl,cC.aB f3,fun e=> ?_,fun e=> ?_⟩
 ·exact no (by unfold qz;rw[aF (by rw[bU e];simp)]) _ (f2.aA f3)
 have e:=bQ e
 have e2:qz aI rs p n=match runT aI Kx n.toNat (List.replicate aI.length 0) (rs,p)with
  |none=>([],false)
  |some (t,_)=>(t,true):=by unfold qz;exact aJ e
 rw[bD,bT]at e
 have W:=dN e.1
 have U8:=bA W.cD
 have jm:=f2.aA f3
 have z03:=jm.size
 have hL:=cC.aB f3
 have l2:b2<h3.size:=hL.head.lt
 have l1:b1<h3.size:=hL.tail.head.lt
 have fj:Fr No h3 h3:=Fr.refl _ _
 have cp:∀{h1:Heap}{K:aL},Fr No h3 h1->(∀t h2,cH h2 (Iv h1.size h2.size) t rs->Fr No h1 h2->K (.agg #[t.v,VI p]) h2)->aG aC 110 #[.agg #[w.v,VI p]] h1 K:=fun f HK=>jW ((H.no jm).no f) p (by have:=W.len;simp only at this;omega) _ HK
 have mk:∀{h1:Heap}{K:aL},Fr No h3 h1->(∀t h2,cH h2 (Iv h1.size h2.size) t (List.replicate aI.length 0)->Fr No h1 h2->K t.v h2)->lQ aC (Instr.makeSlice qx (VI (g.n:Int)) (VI (g.n:Int))) h1 K:=fun _ HK=>fC gD (fun k=>_<=k) (fun _ h=>h) .i64 .i64 g.n g.n (aW _) (by rw[G.len];omega) fun t h2 n2 c2 o2 f2 m2 _=>HK t h2 (Ow.gN (by
  have e:(List.replicate g.n [VI 0]).flatten=(List.replicate aI.length (0:Int)).map VI:=by rw[G.len];simp[ko]
  rw[e]at o2;exact o2)) f2
 refine⟨fun bN xw xp bO xo h'=>xp=p/\∃i1 j1 i2 j2,cH h' (Iv i1 j1) xw rs/\cH h' (Iv i2 j2) xo (List.replicate aI.length 0)/\(j1<=i2\/j2<=i1)/\(bN<i1\/j1<=bN)/\(bN<i2\/j2<=bN)/\(bO<i1\/j1<=bO)/\(bO<i2\/j2<=bO)/\h3.size<=i1/\h3.size<=i2/\h3.size<=bN/\h3.size<=bO/\j1<=h'.size/\j2<=h'.size/\bN≠bO/\Fr No h3 h',?_,?_⟩
 ·refine⟨?_,?_,?_,?_⟩
  ·refine cp fj fun u_1 sQ fE Wc=>⟨u_1,_,rfl,hL.aB Wc,?_⟩
   replace hL:=hL.aB Wc
   have afX:=Wc.size
   replace fj:=fj.aA Wc
   refine⟨?_,?_,?_⟩
   ·refine mk fj fun u_2 Wd OW Sb=>⟨u_2,rfl,hL.aB Sb,?_⟩
    replace hL:=hL.aB Sb
    have afY:=Sb.size
    replace fE:=fE.no Sb
    replace fj:=fj.aA Sb
    refine⟨?_,?_⟩
    ·intro lI OX We aal aam OZ hL
     have aan:lI<We.size:=(hL.tail).head.lt
     have aao:OX<We.size:=(hL).head.lt
     have aap:lI≠OX:=hL.ne (lI,_) cF
     replace OZ:=OZ.aM
     have afZ:=OZ.size
     replace fE:=fE.no OZ
     replace OW:=OW.no OZ
     replace fj:=fj.aA OZ
     exact⟨rfl,h3.size,sQ.size,sQ.size,Wd.size,fE,OW,by omega,by omega,by omega,by omega,by omega,by omega,by omega,by omega,by omega,by omega,by omega,by omega,fj⟩
    ·intro Nq O0 vJ aaq aar O8 hL
     have aas:Nq<vJ.size:=(hL.tail).head.lt
     have aat:O0<vJ.size:=(hL).head.lt
     have aau:Nq≠O0:=hL.ne (Nq,_) cF
     replace O8:=O8.aM
     have af0:=O8.size
     replace fE:=fE.no O8
     replace OW:=OW.no O8
     replace fj:=fj.aA O8
     exact⟨rfl,h3.size,sQ.size,sQ.size,Wd.size,fE,OW,by omega,by omega,by omega,by omega,by omega,by omega,by omega,by omega,by omega,by omega,by omega,by omega,fj⟩
   ·intro Ue uA aav Sc hL
    have aaw:Ue<uA.size:=(hL).head.lt
    replace Sc:=Sc.aM
    have af1:=Sc.size
    replace fE:=fE.no Sc
    replace fj:=fj.aA Sc
    refine⟨?_,?_⟩
    ·refine mk fj fun u_6 aax o_6 Sd=>⟨u_6,rfl,hL.aB Sd,?_⟩
     replace hL:=hL.aB Sd
     have af2:=Sd.size
     replace fE:=fE.no Sd
     replace fj:=fj.aA Sd
     intro tA aaz Wf Pa hL
     have Wg:tA<aaz.size:=(hL).head.lt
     replace Pa:=Pa.dM (lo:=sQ.size) (hi:=uA.size) ⟨⟨by omega,by omega⟩,trivial⟩
     have af3:=Pa.size
     replace fE:=fE.iv Pa (by omega)
     replace o_6:=o_6.iv Pa (by omega)
     replace fj:=fj.aU Pa (by omega)
     exact⟨rfl,h3.size,sQ.size,uA.size,aax.size,fE,o_6,by omega,by omega,by omega,by omega,by omega,by omega,by omega,by omega,by omega,by omega,by omega,by omega,fj⟩
    ·intro xg Bp Wi Se hL
     have Wj:xg<Bp.size:=(hL).head.lt
     replace Se:=Se.aM
     have af4:=Se.size
     replace fE:=fE.no Se
     replace fj:=fj.aA Se
     refine⟨?_,?_⟩
     ·refine mk fj fun u_9 aaA Wk Sf=>⟨u_9,rfl,hL.aB Sf,?_⟩
      replace hL:=hL.aB Sf
      have af5:=Sf.size
      replace fE:=fE.no Sf
      replace fj:=fj.aA Sf
      intro VU FQ hL
      have aaB:=FQ.size
      replace fE:=fE.fr FQ fun k hk aQ=>by have h1:=(fE.aS hk).1;have h2:=h1.1;have h3:=h1.2;simp only[In,aO,aR,aN]at aQ;omega
      replace Wk:=Wk.fr FQ fun k hk aQ=>by have h1:=(Wk.aS hk).1;have h2:=h1.1;have h3:=h1.2;simp only[In,aO,aR,aN]at aQ;omega
      replace fj:=fj.fresh FQ fun k hk=>by simp only[In,aO,aR,aN]at hk;omega
      exact⟨rfl,h3.size,sQ.size,Bp.size,aaA.size,fE,Wk,by omega,by omega,by omega,by omega,by omega,by omega,by omega,by omega,by omega,by omega,by omega,by omega,fj⟩
     ·intro Jf Bq hL
      replace Bq:=Bq.dM (lo:=sQ.size) (hi:=uA.size) ⟨⟨by omega,by omega⟩,trivial⟩
      have aaC:=Bq.size
      replace fE:=fE.iv Bq (by omega)
      replace fj:=fj.aU Bq (by omega)
      refine mk fj fun aaD wZ Lc Bs=>⟨aaD,rfl,hL.aB Bs,?_⟩
      replace hL:=hL.aB Bs
      have aaE:=Bs.size
      replace fE:=fE.no Bs
      replace fj:=fj.aA Bs
      intro RI xi hL
      replace xi:=xi.dM (lo:=uA.size) (hi:=Bp.size) ⟨⟨by omega,by omega⟩,trivial⟩
      have aaF:=xi.size
      replace fE:=fE.iv xi (by omega)
      replace Lc:=Lc.iv xi (by omega)
      replace fj:=fj.aU xi (by omega)
      exact⟨rfl,h3.size,sQ.size,Jf.size,wZ.size,fE,Lc,by omega,by omega,by omega,by omega,by omega,by omega,by omega,by omega,by omega,by omega,by omega,by omega,fj⟩
   ·intro CW oC Wl Bt hL
    have Wm:CW<oC.size:=(hL).head.lt
    replace Bt:=Bt.aM
    have aaG:=Bt.size
    replace fE:=fE.no Bt
    replace fj:=fj.aA Bt
    refine⟨?_,?_⟩
    ·refine mk fj fun aaH FK Ld Bu=>⟨aaH,rfl,hL.aB Bu,?_⟩
     replace hL:=hL.aB Bu
     have aaI:=Bu.size
     replace fE:=fE.no Bu
     replace fj:=fj.aA Bu
     intro oD vE Wn xj hL
     have Wo:oD<vE.size:=(hL).head.lt
     replace xj:=xj.dM (lo:=sQ.size) (hi:=oC.size) ⟨⟨by omega,by omega⟩,trivial⟩
     have aaJ:=xj.size
     replace fE:=fE.iv xj (by omega)
     replace Ld:=Ld.iv xj (by omega)
     replace fj:=fj.aU xj (by omega)
     exact⟨rfl,h3.size,sQ.size,oC.size,FK.size,fE,Ld,by omega,by omega,by omega,by omega,by omega,by omega,by omega,by omega,by omega,by omega,by omega,by omega,fj⟩
    ·intro nE vF Wp Bv hL
     have Wq:nE<vF.size:=(hL).head.lt
     replace Bv:=Bv.aM
     have aaK:=Bv.size
     replace fE:=fE.no Bv
     replace fj:=fj.aA Bv
     refine⟨?_,?_⟩
     ·refine mk fj fun aaL Bk FR Bw=>⟨aaL,rfl,hL.aB Bw,?_⟩
      replace hL:=hL.aB Bw
      have aaM:=Bw.size
      replace fE:=fE.no Bw
      replace fj:=fj.aA Bw
      intro FN FT hL
      have aaN:=FT.size
      replace fE:=fE.fr FT fun k hk aQ=>by have h1:=(fE.aS hk).1;have h2:=h1.1;have h3:=h1.2;simp only[In,aO,aR,aN]at aQ;omega
      replace FR:=FR.fr FT fun k hk aQ=>by have h1:=(FR.aS hk).1;have h2:=h1.1;have h3:=h1.2;simp only[In,aO,aR,aN]at aQ;omega
      replace fj:=fj.fresh FT fun k hk=>by simp only[In,aO,aR,aN]at hk;omega
      exact⟨rfl,h3.size,sQ.size,vF.size,Bk.size,fE,FR,by omega,by omega,by omega,by omega,by omega,by omega,by omega,by omega,by omega,by omega,by omega,by omega,fj⟩
     ·intro Le Bx hL
      replace Bx:=Bx.dM (lo:=oC.size) (hi:=vF.size) ⟨⟨by omega,by omega⟩,trivial⟩
      have aaO:=Bx.size
      replace fE:=fE.iv Bx (by omega)
      replace fj:=fj.aU Bx (by omega)
      refine mk fj fun aaP Jk Lg Bz=>⟨aaP,rfl,hL.aB Bz,?_⟩
      replace hL:=hL.aB Bz
      have aaQ:=Bz.size
      replace fE:=fE.no Bz
      replace fj:=fj.aA Bz
      intro Si xk hL
      replace xk:=xk.dM (lo:=sQ.size) (hi:=oC.size) ⟨⟨by omega,by omega⟩,trivial⟩
      have aaR:=xk.size
      replace fE:=fE.iv xk (by omega)
      replace Lg:=Lg.iv xk (by omega)
      replace fj:=fj.aU xk (by omega)
      exact⟨rfl,h3.size,sQ.size,Le.size,Jk.size,fE,Lg,by omega,by omega,by omega,by omega,by omega,by omega,by omega,by omega,by omega,by omega,by omega,by omega,fj⟩
  ·refine mk fj fun aaS l9 dH FU=>⟨aaS,rfl,hL.aB FU,?_⟩
   replace hL:=hL.aB FU
   have aaT:=FU.size
   replace fj:=fj.aA FU
   refine⟨?_,?_,?_⟩
   ·refine cp fj fun aaU FV xl BA=>⟨aaU,_,rfl,hL.aB BA,?_⟩
    replace hL:=hL.aB BA
    have aaV:=BA.size
    replace dH:=dH.no BA
    replace fj:=fj.aA BA
    refine⟨?_,?_⟩
    ·intro uB yQ FW Wr Ww xm hL
     have Wx:uB<FW.size:=(hL.tail).head.lt
     have Wy:yQ<FW.size:=(hL).head.lt
     have Wz:uB≠yQ:=hL.ne (uB,_) cF
     replace xm:=xm.aM
     have aaW:=xm.size
     replace dH:=dH.no xm
     replace xl:=xl.no xm
     replace fj:=fj.aA xm
     exact⟨rfl,l9.size,FV.size,h3.size,l9.size,xl,dH,by omega,by omega,by omega,by omega,by omega,by omega,by omega,by omega,by omega,by omega,by omega,by omega,fj⟩
    ·intro uC yR FY WA WB xq hL
     have WC:uC<FY.size:=(hL.tail).head.lt
     have WD:yR<FY.size:=(hL).head.lt
     have WE:uC≠yR:=hL.ne (uC,_) cF
     replace xq:=xq.aM
     have aaX:=xq.size
     replace dH:=dH.no xq
     replace xl:=xl.no xq
     replace fj:=fj.aA xq
     exact⟨rfl,l9.size,FV.size,h3.size,l9.size,xl,dH,by omega,by omega,by omega,by omega,by omega,by omega,by omega,by omega,by omega,by omega,by omega,by omega,fj⟩
   ·intro aaY CX WG BB hL
    have WH:aaY<CX.size:=(hL).head.lt
    replace BB:=BB.aM
    have aaZ:=BB.size
    replace dH:=dH.no BB
    replace fj:=fj.aA BB
    refine⟨?_,?_⟩
    ·refine cp fj fun aa0 Lh Li BC=>⟨aa0,_,rfl,hL.aB BC,?_⟩
     replace hL:=hL.aB BC
     have aa1:=BC.size
     replace dH:=dH.no BC
     replace fj:=fj.aA BC
     intro aa2 aa3 WI xt hL
     have WJ:aa2<aa3.size:=(hL).head.lt
     replace xt:=xt.dM (lo:=l9.size) (hi:=CX.size) ⟨⟨by omega,by omega⟩,trivial⟩
     have aa4:=xt.size
     replace dH:=dH.iv xt (by omega)
     replace Li:=Li.iv xt (by omega)
     replace fj:=fj.aU xt (by omega)
     exact⟨rfl,CX.size,Lh.size,h3.size,l9.size,Li,dH,by omega,by omega,by omega,by omega,by omega,by omega,by omega,by omega,by omega,by omega,by omega,by omega,fj⟩
    ·intro aa5 Sj WL BD hL
     have WM:aa5<Sj.size:=(hL).head.lt
     replace BD:=BD.aM
     have aa6:=BD.size
     replace dH:=dH.no BD
     replace fj:=fj.aA BD
     refine cp fj fun aa7 aa8 FZ BE=>⟨aa7,_,rfl,hL.aB BE,?_⟩
     replace hL:=hL.aB BE
     have aa9:=BE.size
     replace dH:=dH.no BE
     replace fj:=fj.aA BE
     intro am1 F0 hL
     have aba:=F0.size
     replace dH:=dH.fr F0 fun k hk aQ=>by have h1:=(dH.aS hk).1;have h2:=h1.1;have h3:=h1.2;simp only[In,aO,aR,aN]at aQ;omega
     replace FZ:=FZ.fr F0 fun k hk aQ=>by have h1:=(FZ.aS hk).1;have h2:=h1.1;have h3:=h1.2;simp only[In,aO,aR,aN]at aQ;omega
     replace fj:=fj.fresh F0 fun k hk=>by simp only[In,aO,aR,aN]at hk;omega
     exact⟨rfl,Sj.size,aa8.size,h3.size,l9.size,FZ,dH,by omega,by omega,by omega,by omega,by omega,by omega,by omega,by omega,by omega,by omega,by omega,by omega,fj⟩
   ·intro abb Lj WN BF hL
    have WQ:abb<Lj.size:=(hL).head.lt
    replace BF:=BF.aM
    have abc:=BF.size
    replace dH:=dH.no BF
    replace fj:=fj.aA BF
    refine⟨?_,?_⟩
    ·refine cp fj fun abd abe Lk BG=>⟨abd,_,rfl,hL.aB BG,?_⟩
     replace hL:=hL.aB BG
     have abf:=BG.size
     replace dH:=dH.no BG
     replace fj:=fj.aA BG
     intro abg abh WR xu hL
     have WS:abg<abh.size:=(hL).head.lt
     replace xu:=xu.dM (lo:=l9.size) (hi:=Lj.size) ⟨⟨by omega,by omega⟩,trivial⟩
     have abj:=xu.size
     replace dH:=dH.iv xu (by omega)
     replace Lk:=Lk.iv xu (by omega)
     replace fj:=fj.aU xu (by omega)
     exact⟨rfl,Lj.size,abe.size,h3.size,l9.size,Lk,dH,by omega,by omega,by omega,by omega,by omega,by omega,by omega,by omega,by omega,by omega,by omega,by omega,fj⟩
    ·intro abk Sk WT BH hL
     have WU:abk<Sk.size:=(hL).head.lt
     replace BH:=BH.aM
     have abl:=BH.size
     replace dH:=dH.no BH
     replace fj:=fj.aA BH
     refine cp fj fun abm abn Ga BI=>⟨abm,_,rfl,hL.aB BI,?_⟩
     replace hL:=hL.aB BI
     have abo:=BI.size
     replace dH:=dH.no BI
     replace fj:=fj.aA BI
     intro am2 Gb hL
     have abp:=Gb.size
     replace dH:=dH.fr Gb fun k hk aQ=>by have h1:=(dH.aS hk).1;have h2:=h1.1;have h3:=h1.2;simp only[In,aO,aR,aN]at aQ;omega
     replace Ga:=Ga.fr Gb fun k hk aQ=>by have h1:=(Ga.aS hk).1;have h2:=h1.1;have h3:=h1.2;simp only[In,aO,aR,aN]at aQ;omega
     replace fj:=fj.fresh Gb fun k hk=>by simp only[In,aO,aR,aN]at hk;omega
     exact⟨rfl,Sk.size,abn.size,h3.size,l9.size,Ga,dH,by omega,by omega,by omega,by omega,by omega,by omega,by omega,by omega,by omega,by omega,by omega,by omega,fj⟩
  ·intro abq nn WV Gc hL
   have WW:abq<nn.size:=(hL).head.lt
   replace Gc:=Gc.aM
   have abr:=Gc.size
   replace fj:=fj.aA Gc
   refine⟨?_,?_,?_⟩
   ·refine cp fj fun abt BJ ia Gd=>⟨abt,_,rfl,hL.aB Gd,?_⟩
    replace hL:=hL.aB Gd
    have abu:=Gd.size
    replace fj:=fj.aA Gd
    refine⟨?_,?_⟩
    ·refine mk fj fun abv abw Ll BK=>⟨abv,rfl,hL.aB BK,?_⟩
     replace hL:=hL.aB BK
     have abx:=BK.size
     replace ia:=ia.no BK
     replace fj:=fj.aA BK
     intro aby abz WX xv hL
     have WY:aby<abz.size:=(hL).head.lt
     replace xv:=xv.dM (lo:=h3.size) (hi:=nn.size) ⟨⟨by omega,by omega⟩,trivial⟩
     have abA:=xv.size
     replace ia:=ia.iv xv (by omega)
     replace Ll:=Ll.iv xv (by omega)
     replace fj:=fj.aU xv (by omega)
     exact⟨rfl,nn.size,BJ.size,BJ.size,abw.size,ia,Ll,by omega,by omega,by omega,by omega,by omega,by omega,by omega,by omega,by omega,by omega,by omega,by omega,fj⟩
    ·intro abB Lm WZ BL hL
     have W0:abB<Lm.size:=(hL).head.lt
     replace BL:=BL.aM
     have abC:=BL.size
     replace ia:=ia.no BL
     replace fj:=fj.aA BL
     refine⟨?_,?_⟩
     ·refine mk fj fun abD abE Ge BM=>⟨abD,rfl,hL.aB BM,?_⟩
      replace hL:=hL.aB BM
      have abF:=BM.size
      replace ia:=ia.no BM
      replace fj:=fj.aA BM
      intro am3 Gf hL
      have abG:=Gf.size
      replace ia:=ia.fr Gf fun k hk aQ=>by have h1:=(ia.aS hk).1;have h2:=h1.1;have h3:=h1.2;simp only[In,aO,aR,aN]at aQ;omega
      replace Ge:=Ge.fr Gf fun k hk aQ=>by have h1:=(Ge.aS hk).1;have h2:=h1.1;have h3:=h1.2;simp only[In,aO,aR,aN]at aQ;omega
      replace fj:=fj.fresh Gf fun k hk=>by simp only[In,aO,aR,aN]at hk;omega
      exact⟨rfl,nn.size,BJ.size,Lm.size,abE.size,ia,Ge,by omega,by omega,by omega,by omega,by omega,by omega,by omega,by omega,by omega,by omega,by omega,by omega,fj⟩
     ·intro abH BN hL
      replace BN:=BN.dM (lo:=h3.size) (hi:=nn.size) ⟨⟨by omega,by omega⟩,trivial⟩
      have abI:=BN.size
      replace ia:=ia.iv BN (by omega)
      replace fj:=fj.aU BN (by omega)
      refine mk fj fun abJ abK Ln BO=>⟨abJ,rfl,hL.aB BO,?_⟩
      replace hL:=hL.aB BO
      have abL:=BO.size
      replace ia:=ia.no BO
      replace fj:=fj.aA BO
      intro am4 xx hL
      replace xx:=xx.dM (lo:=BJ.size) (hi:=Lm.size) ⟨⟨by omega,by omega⟩,trivial⟩
      have abM:=xx.size
      replace ia:=ia.iv xx (by omega)
      replace Ln:=Ln.iv xx (by omega)
      replace fj:=fj.aU xx (by omega)
      exact⟨rfl,nn.size,BJ.size,abH.size,abK.size,ia,Ln,by omega,by omega,by omega,by omega,by omega,by omega,by omega,by omega,by omega,by omega,by omega,by omega,fj⟩
   ·refine mk fj fun abN Lo k9 Gg=>⟨abN,rfl,hL.aB Gg,?_⟩
    replace hL:=hL.aB Gg
    have abO:=Gg.size
    replace fj:=fj.aA Gg
    refine⟨?_,?_⟩
    ·refine cp fj fun abP abQ Lp BP=>⟨abP,_,rfl,hL.aB BP,?_⟩
     replace hL:=hL.aB BP
     have abR:=BP.size
     replace k9:=k9.no BP
     replace fj:=fj.aA BP
     intro abS abT Xa xy hL
     have Xb:abS<abT.size:=(hL).head.lt
     replace xy:=xy.dM (lo:=h3.size) (hi:=nn.size) ⟨⟨by omega,by omega⟩,trivial⟩
     have abU:=xy.size
     replace k9:=k9.iv xy (by omega)
     replace Lp:=Lp.iv xy (by omega)
     replace fj:=fj.aU xy (by omega)
     exact⟨rfl,Lo.size,abQ.size,nn.size,Lo.size,Lp,k9,by omega,by omega,by omega,by omega,by omega,by omega,by omega,by omega,by omega,by omega,by omega,by omega,fj⟩
    ·intro abV Sm Xc BR hL
     have Xd:abV<Sm.size:=(hL).head.lt
     replace BR:=BR.aM
     have abW:=BR.size
     replace k9:=k9.no BR
     replace fj:=fj.aA BR
     refine cp fj fun abX abY Gh BS=>⟨abX,_,rfl,hL.aB BS,?_⟩
     replace hL:=hL.aB BS
     have abZ:=BS.size
     replace k9:=k9.no BS
     replace fj:=fj.aA BS
     intro am5 Gi hL
     have ab0:=Gi.size
     replace k9:=k9.fr Gi fun k hk aQ=>by have h1:=(k9.aS hk).1;have h2:=h1.1;have h3:=h1.2;simp only[In,aO,aR,aN]at aQ;omega
     replace Gh:=Gh.fr Gi fun k hk aQ=>by have h1:=(Gh.aS hk).1;have h2:=h1.1;have h3:=h1.2;simp only[In,aO,aR,aN]at aQ;omega
     replace fj:=fj.fresh Gi fun k hk=>by simp only[In,aO,aR,aN]at hk;omega
     exact⟨rfl,Sm.size,abY.size,nn.size,Lo.size,Gh,k9,by omega,by omega,by omega,by omega,by omega,by omega,by omega,by omega,by omega,by omega,by omega,by omega,fj⟩
   ·intro ab1 BT Xe Gj hL
    have Xf:ab1<BT.size:=(hL).head.lt
    replace Gj:=Gj.aM
    have ab2:=Gj.size
    replace fj:=fj.aA Gj
    refine⟨?_,?_⟩
    ·refine cp fj fun ab3 Lq lc Gk=>⟨ab3,_,rfl,hL.aB Gk,?_⟩
     replace hL:=hL.aB Gk
     have ab4:=Gk.size
     replace fj:=fj.aA Gk
     refine⟨?_,?_⟩
     ·refine mk fj fun ab5 ab6 Gl BU=>⟨ab5,rfl,hL.aB BU,?_⟩
      replace hL:=hL.aB BU
      have ab7:=BU.size
      replace lc:=lc.no BU
      replace fj:=fj.aA BU
      intro am6 Gm hL
      have ab8:=Gm.size
      replace lc:=lc.fr Gm fun k hk aQ=>by have h1:=(lc.aS hk).1;have h2:=h1.1;have h3:=h1.2;simp only[In,aO,aR,aN]at aQ;omega
      replace Gl:=Gl.fr Gm fun k hk aQ=>by have h1:=(Gl.aS hk).1;have h2:=h1.1;have h3:=h1.2;simp only[In,aO,aR,aN]at aQ;omega
      replace fj:=fj.fresh Gm fun k hk=>by simp only[In,aO,aR,aN]at hk;omega
      exact⟨rfl,BT.size,Lq.size,Lq.size,ab6.size,lc,Gl,by omega,by omega,by omega,by omega,by omega,by omega,by omega,by omega,by omega,by omega,by omega,by omega,fj⟩
     ·intro ab9 BV hL
      replace BV:=BV.dM (lo:=h3.size) (hi:=nn.size) ⟨⟨by omega,by omega⟩,trivial⟩
      have aca:=BV.size
      replace lc:=lc.iv BV (by omega)
      replace fj:=fj.aU BV (by omega)
      refine mk fj fun acb acd Lr BW=>⟨acb,rfl,hL.aB BW,?_⟩
      replace hL:=hL.aB BW
      have ace:=BW.size
      replace lc:=lc.no BW
      replace fj:=fj.aA BW
      intro am7 xz hL
      replace xz:=xz.dM (lo:=nn.size) (hi:=BT.size) ⟨⟨by omega,by omega⟩,trivial⟩
      have acf:=xz.size
      replace lc:=lc.iv xz (by omega)
      replace Lr:=Lr.iv xz (by omega)
      replace fj:=fj.aU xz (by omega)
      exact⟨rfl,BT.size,Lq.size,ab9.size,acd.size,lc,Lr,by omega,by omega,by omega,by omega,by omega,by omega,by omega,by omega,by omega,by omega,by omega,by omega,fj⟩
    ·refine mk fj fun acg Sn xA Gn=>⟨acg,rfl,hL.aB Gn,?_⟩
     replace hL:=hL.aB Gn
     have ach:=Gn.size
     replace fj:=fj.aA Gn
     refine cp fj fun aci acj Gp BX=>⟨aci,_,rfl,hL.aB BX,?_⟩
     replace hL:=hL.aB BX
     have ack:=BX.size
     replace xA:=xA.no BX
     replace fj:=fj.aA BX
     intro am8 Gq hL
     have acm:=Gq.size
     replace xA:=xA.fr Gq fun k hk aQ=>by have h1:=(xA.aS hk).1;have h2:=h1.1;have h3:=h1.2;simp only[In,aO,aR,aN]at aQ;omega
     replace Gp:=Gp.fr Gq fun k hk aQ=>by have h1:=(Gp.aS hk).1;have h2:=h1.1;have h3:=h1.2;simp only[In,aO,aR,aN]at aQ;omega
     replace fj:=fj.fresh Gq fun k hk=>by simp only[In,aO,aR,aN]at hk;omega
     exact⟨rfl,Sn.size,acj.size,BT.size,Sn.size,Gp,xA,by omega,by omega,by omega,by omega,by omega,by omega,by omega,by omega,by omega,by omega,by omega,by omega,fj⟩
  ·intro acn je Xg Gr hL
   have Xh:acn<je.size:=(hL).head.lt
   replace Gr:=Gr.aM
   have aco:=Gr.size
   replace fj:=fj.aA Gr
   refine⟨?_,?_,?_⟩
   ·refine cp fj fun acp rP ic Gs=>⟨acp,_,rfl,hL.aB Gs,?_⟩
    replace hL:=hL.aB Gs
    have acq:=Gs.size
    replace fj:=fj.aA Gs
    refine⟨?_,?_⟩
    ·refine mk fj fun acr Sr Ls BZ=>⟨acr,rfl,hL.aB BZ,?_⟩
     replace hL:=hL.aB BZ
     have acs:=BZ.size
     replace ic:=ic.no BZ
     replace fj:=fj.aA BZ
     intro acu Ss Xi xB hL
     have Xj:acu<Ss.size:=(hL).head.lt
     replace xB:=xB.dM (lo:=h3.size) (hi:=je.size) ⟨⟨by omega,by omega⟩,trivial⟩
     have acv:=xB.size
     replace ic:=ic.iv xB (by omega)
     replace Ls:=Ls.iv xB (by omega)
     replace fj:=fj.aU xB (by omega)
     exact⟨rfl,je.size,rP.size,rP.size,Sr.size,ic,Ls,by omega,by omega,by omega,by omega,by omega,by omega,by omega,by omega,by omega,by omega,by omega,by omega,fj⟩
    ·intro acw B3 Xk B4 hL
     have Xl:acw<B3.size:=(hL).head.lt
     replace B4:=B4.aM
     have acx:=B4.size
     replace ic:=ic.no B4
     replace fj:=fj.aA B4
     refine⟨?_,?_⟩
     ·refine mk fj fun acy Su Gt B5=>⟨acy,rfl,hL.aB B5,?_⟩
      replace hL:=hL.aB B5
      have acz:=B5.size
      replace ic:=ic.no B5
      replace fj:=fj.aA B5
      intro af6 Gu hL
      have acA:=Gu.size
      replace ic:=ic.fr Gu fun k hk aQ=>by have h1:=(ic.aS hk).1;have h2:=h1.1;have h3:=h1.2;simp only[In,aO,aR,aN]at aQ;omega
      replace Gt:=Gt.fr Gu fun k hk aQ=>by have h1:=(Gt.aS hk).1;have h2:=h1.1;have h3:=h1.2;simp only[In,aO,aR,aN]at aQ;omega
      replace fj:=fj.fresh Gu fun k hk=>by simp only[In,aO,aR,aN]at hk;omega
      exact⟨rfl,je.size,rP.size,B3.size,Su.size,ic,Gt,by omega,by omega,by omega,by omega,by omega,by omega,by omega,by omega,by omega,by omega,by omega,by omega,fj⟩
     ·intro Sv B7 hL
      replace B7:=B7.dM (lo:=rP.size) (hi:=B3.size) ⟨⟨by omega,by omega⟩,trivial⟩
      have acB:=B7.size
      replace ic:=ic.iv B7 (by omega)
      replace fj:=fj.aU B7 (by omega)
      refine mk fj fun acC Sx Lu B8=>⟨acC,rfl,hL.aB B8,?_⟩
      replace hL:=hL.aB B8
      have acD:=B8.size
      replace ic:=ic.no B8
      replace fj:=fj.aA B8
      intro af7 xC hL
      replace xC:=xC.dM (lo:=h3.size) (hi:=je.size) ⟨⟨by omega,by omega⟩,trivial⟩
      have acE:=xC.size
      replace ic:=ic.iv xC (by omega)
      replace Lu:=Lu.iv xC (by omega)
      replace fj:=fj.aU xC (by omega)
      exact⟨rfl,je.size,rP.size,Sv.size,Sx.size,ic,Lu,by omega,by omega,by omega,by omega,by omega,by omega,by omega,by omega,by omega,by omega,by omega,by omega,fj⟩
   ·refine mk fj fun acF B9 ld Gv=>⟨acF,rfl,hL.aB Gv,?_⟩
    replace hL:=hL.aB Gv
    have acG:=Gv.size
    replace fj:=fj.aA Gv
    refine⟨?_,?_⟩
    ·refine cp fj fun acH Sy Lv Ca=>⟨acH,_,rfl,hL.aB Ca,?_⟩
     replace hL:=hL.aB Ca
     have acI:=Ca.size
     replace ld:=ld.no Ca
     replace fj:=fj.aA Ca
     intro acJ Sz Xm xD hL
     have Xn:acJ<Sz.size:=(hL).head.lt
     replace xD:=xD.dM (lo:=h3.size) (hi:=je.size) ⟨⟨by omega,by omega⟩,trivial⟩
     have acK:=xD.size
     replace ld:=ld.iv xD (by omega)
     replace Lv:=Lv.iv xD (by omega)
     replace fj:=fj.aU xD (by omega)
     exact⟨rfl,B9.size,Sy.size,je.size,B9.size,Lv,ld,by omega,by omega,by omega,by omega,by omega,by omega,by omega,by omega,by omega,by omega,by omega,by omega,fj⟩
    ·intro acL Jl Xo Cb hL
     have Xp:acL<Jl.size:=(hL).head.lt
     replace Cb:=Cb.aM
     have acM:=Cb.size
     replace ld:=ld.no Cb
     replace fj:=fj.aA Cb
     refine cp fj fun acN SA Gw Cc=>⟨acN,_,rfl,hL.aB Cc,?_⟩
     replace hL:=hL.aB Cc
     have acO:=Cc.size
     replace ld:=ld.no Cc
     replace fj:=fj.aA Cc
     intro af8 Gx hL
     have acP:=Gx.size
     replace ld:=ld.fr Gx fun k hk aQ=>by have h1:=(ld.aS hk).1;have h2:=h1.1;have h3:=h1.2;simp only[In,aO,aR,aN]at aQ;omega
     replace Gw:=Gw.fr Gx fun k hk aQ=>by have h1:=(Gw.aS hk).1;have h2:=h1.1;have h3:=h1.2;simp only[In,aO,aR,aN]at aQ;omega
     replace fj:=fj.fresh Gx fun k hk=>by simp only[In,aO,aR,aN]at hk;omega
     exact⟨rfl,Jl.size,SA.size,je.size,B9.size,Gw,ld,by omega,by omega,by omega,by omega,by omega,by omega,by omega,by omega,by omega,by omega,by omega,by omega,fj⟩
   ·intro acQ rQ Xq Gy hL
    have Xr:acQ<rQ.size:=(hL).head.lt
    replace Gy:=Gy.aM
    have acR:=Gy.size
    replace fj:=fj.aA Gy
    refine⟨?_,?_⟩
    ·refine cp fj fun acS Cd lg Gz=>⟨acS,_,rfl,hL.aB Gz,?_⟩
     replace hL:=hL.aB Gz
     have acT:=Gz.size
     replace fj:=fj.aA Gz
     refine⟨?_,?_⟩
     ·refine mk fj fun acU SB GA Ce=>⟨acU,rfl,hL.aB Ce,?_⟩
      replace hL:=hL.aB Ce
      have acV:=Ce.size
      replace lg:=lg.no Ce
      replace fj:=fj.aA Ce
      intro af9 GB hL
      have acW:=GB.size
      replace lg:=lg.fr GB fun k hk aQ=>by have h1:=(lg.aS hk).1;have h2:=h1.1;have h3:=h1.2;simp only[In,aO,aR,aN]at aQ;omega
      replace GA:=GA.fr GB fun k hk aQ=>by have h1:=(GA.aS hk).1;have h2:=h1.1;have h3:=h1.2;simp only[In,aO,aR,aN]at aQ;omega
      replace fj:=fj.fresh GB fun k hk=>by simp only[In,aO,aR,aN]at hk;omega
      exact⟨rfl,rQ.size,Cd.size,Cd.size,SB.size,lg,GA,by omega,by omega,by omega,by omega,by omega,by omega,by omega,by omega,by omega,by omega,by omega,by omega,fj⟩
     ·intro SC Cf hL
      replace Cf:=Cf.dM (lo:=je.size) (hi:=rQ.size) ⟨⟨by omega,by omega⟩,trivial⟩
      have acX:=Cf.size
      replace lg:=lg.iv Cf (by omega)
      replace fj:=fj.aU Cf (by omega)
      refine mk fj fun acY SD Lw Cg=>⟨acY,rfl,hL.aB Cg,?_⟩
      replace hL:=hL.aB Cg
      have acZ:=Cg.size
      replace lg:=lg.no Cg
      replace fj:=fj.aA Cg
      intro aga xE hL
      replace xE:=xE.dM (lo:=h3.size) (hi:=je.size) ⟨⟨by omega,by omega⟩,trivial⟩
      have ac0:=xE.size
      replace lg:=lg.iv xE (by omega)
      replace Lw:=Lw.iv xE (by omega)
      replace fj:=fj.aU xE (by omega)
      exact⟨rfl,rQ.size,Cd.size,SC.size,SD.size,lg,Lw,by omega,by omega,by omega,by omega,by omega,by omega,by omega,by omega,by omega,by omega,by omega,by omega,fj⟩
    ·refine mk fj fun ac1 Jm xF GC=>⟨ac1,rfl,hL.aB GC,?_⟩
     replace hL:=hL.aB GC
     have ac2:=GC.size
     replace fj:=fj.aA GC
     refine cp fj fun ac3 SE GD Ch=>⟨ac3,_,rfl,hL.aB Ch,?_⟩
     replace hL:=hL.aB Ch
     have ac4:=Ch.size
     replace xF:=xF.no Ch
     replace fj:=fj.aA Ch
     intro agb GF hL
     have ac5:=GF.size
     replace xF:=xF.fr GF fun k hk aQ=>by have h1:=(xF.aS hk).1;have h2:=h1.1;have h3:=h1.2;simp only[In,aO,aR,aN]at aQ;omega
     replace GD:=GD.fr GF fun k hk aQ=>by have h1:=(GD.aS hk).1;have h2:=h1.1;have h3:=h1.2;simp only[In,aO,aR,aN]at aQ;omega
     replace fj:=fj.fresh GF fun k hk=>by simp only[In,aO,aR,aN]at hk;omega
     exact⟨rfl,Jm.size,SE.size,rQ.size,Jm.size,GD,xF,by omega,by omega,by omega,by omega,by omega,by omega,by omega,by omega,by omega,by omega,by omega,by omega,fj⟩
 rintro bN x1 x2 bO x3 Ci ⟨rfl,i1,j1,i2,j2,o1,o2,d12,dN1,dN2,dO1,dO2,e1,e2',e3,e4,e5,e6,fL,f134⟩ np
 have f0:=jm.aA f134
 have am9:=f134.size
 have lO:bO<Ci.size:=np.head.lt
 have lN:bN<Ci.size:=np.tail.head.lt
 have ac6:cG (fun k=>k<h3.size) Ci g aI:=(G.no jm).low.no f134
 have xN:¬x1.own bN:=fun hk=>by have h1:=(o1.aS hk).1.1;have h2:=(o1.aS hk).1.2;omega
 have xO:¬x3.own bO:=fun hk=>by have h1:=(o2.aS hk).1.1;have h2:=(o2.aS hk).1.2;omega
 have x1O:¬x1.own bO:=fun hk=>by have h1:=(o1.aS hk).1.1;have h2:=(o1.aS hk).1.2;omega
 have x3N:¬x3.own bN:=fun hk=>by have h1:=(o2.aS hk).1.1;have h2:=(o2.aS hk).1.2;omega
 have Mt:∀k,x1.own k->¬x3.own k:=fun k h1 h3=>by have a1:=(o1.aS h1).1.1;have a2:=(o1.aS h1).1.2;have a3:=(o2.aS h3).1.1;have a4:=(o2.aS h3).1.2;omega
 have x1g:∀k,x1.own k->h3.size<=k/\k<Ci.size:=fun k hk=>⟨by have:=(o1.aS hk).1.1;omega,(o1.aS hk).2⟩
 have x3g:∀k,x3.own k->h3.size<=k/\k<Ci.size:=fun k hk=>⟨by have:=(o2.aS hk).1.1;omega,(o2.aS hk).2⟩
 --what the ac7 region and the other one are off
 have tf:∀k,(k=bN\/x1.own k)\/(k=bO\/x3.own k)->h3.size<=k:=fun k hk=>by
  rcases hk with(rfl|hk)|(rfl|hk)
  ·omega
  ·exact(x1g k hk).1
  ·omega
  ·exact(x3g k hk).1
 refine QI (s0:=(rs,x2)) (F:=fun k=>k=bN\/x1.own k) (S:=fun k=>k<h3.size) Kx
  (fun N t h'=>∃o:Sl,bV h' bO [o.v]/\cH h' (fun k=>h3.size<=k) o t/\∀k,o.own k->x3.own k\/N<=k) (fun k=>k=bO\/x3.own k)
  ac6 np.tail.head (o1.mono fun k hk _=> .inr hk) (fun k hk=>⟨fun h=>by have:=tf k (.inl h);omega,fun h=>by have:=tf k (.inr h);omega⟩) (.inl rfl) xN W n (by omega) (by omega) _ (List.replicate aI.length 0)
  (fun k hk=>by rcases hk with rfl|hk;exact lN;exact(x1g k hk).2)
  (fun k hk=>⟨fun h=>by
   rcases hk with rfl|hk<;>rcases h with rfl|h
   ·exact fL rfl
   ·exact x1O h
   ·exact x3N hk
   ·exact Mt k h hk,by rcases hk with rfl|hk;exact lO;exact(x3g k hk).2⟩)
  (fun N hN=>⟨x3,np.head,o2.mono fun k _ hk=>by have:=hk.1;omega,fun k hk=> .inl hk⟩)
  (fun N t h1 h2 U ⟨o,v1,v2,v3⟩ f hU=>⟨o,v1.fr f fun h=>(hU _ h).1 (.inl rfl),v2.fr f fun k hk aQ=>by
   rcases v3 k hk with h|h
   ·exact(hU k aQ).1 (.inr h)
   ·have:=(hU k aQ).2;omega,v3⟩)
  (fun N t s s' h1 K hN hN2 ⟨o,v1,v2,v3⟩ V O W hs hm HK=> ?_) _ (fun hr N t h9 q hN ⟨o,v1,v2,v3⟩ v9 f9=> ?_) fun t' s' hr N h9 hN ⟨o,v1,v2,v3⟩ o9 W9 v9 f9=> ?_
 ·obtain⟨m,hm,hr⟩:=hm
  have hl:=Cj m 0 _ _ _ _ (fun x hx=>by simp only[uj]at hx;omega) hr
  have ob:¬o.own bO:=fun hk=>by
   rcases v3 _ hk with h|h
   ·exact xO h
   ·omega
  have ob':¬o.own bN:=fun hk=>by
   rcases v3 _ hk with h|h
   ·exact x3N h
   ·omega
  have W':=W.step hs
  have ht:t.length=aI.length:=by rw[hl.1];simp
  refine ac8 v1 V fL v2 ob ob' W'.lo (by rw[ht];exact W'.hi) (fun x hx=>by have:=hl.2 x hx;omega) s.2 K fun h2 v w1 w2 w4=>HK h2 v ⟨o,w1,w2,v3⟩ (w4.mono fun k _ hk=>(v3 k hk).imp .inr id)
 ·have iG:Vars h9 [(bO,[o.v]),(bN,[x1.v,VI q]),(b2,[w.v,VI x2]),(b1,[g.v])]:= .cons v1 (fun p hp=>by
   have:=np.ne
   simp only[aO,aR,aN]at hp
   rcases hp with rfl|rfl|rfl<;>simp only<;>omega) (.cons v9 (fun p hp=>by
   simp only[aO,aR,aN]at hp
   rcases hp with rfl|rfl<;>simp only<;>omega) (np.tail.tail.fr f9 fun p hp hk=>by
   have:=tf _ hk
   simp only[aO,aR,aN]at hp
   rcases hp with rfl|rfl<;>simp only at this<;>omega))
  refine⟨o,x1,q,false,rfl,iG,fun _=> ?_,fun e=>by simp at e⟩
  rw[hr]at e2
  exact no e2 h9 (f0.fresh f9 fun k hk=>by have:=tf k hk;omega)
 ·have iG:Vars h9 [(bO,[o.v]),(bN,[x1.v,VI s'.2]),(b2,[w.v,VI x2]),(b1,[g.v])]:= .cons v1 (fun p hp=>by
   simp only[aO,aR,aN]at hp
   rcases hp with rfl|rfl|rfl<;>simp only<;>omega) (.cons v9 (fun p hp=>by
   simp only[aO,aR,aN]at hp
   rcases hp with rfl|rfl<;>simp only<;>omega) (np.tail.tail.fr f9 fun p hp hk=>by
   have:=tf _ hk
   simp only[aO,aR,aN]at hp
   rcases hp with rfl|rfl<;>simp only at this<;>omega))
  refine⟨o,x1,s'.2,true,rfl,iG,fun e=>by simp at e,fun _=> ?_⟩
  rw[hr]at e2
  have:=HK o h9 (by rw[e2];exact v2.mono fun k hk hF=>⟨by omega,(v2.aS hk).2⟩) (f0.fresh f9 fun k hk=>by have:=tf k hk;omega)
  rw[e2]at this
  exact this
def GG(P:Program)(Jn:Heap)(kA:Nat)(rS:Sl)(rT:Int)(tA:Nat)(mc:Sl)(me:Int)(lI:Nat)(oI:Sl)(oJ:Int)(nF:Nat)(oE:Sl)(oH:Int)(cQ:Sl)(cR:Int)(lJ:Nat)(lK:Nat)(eH:Sl)(K:aL):Prop:=
 ∀(xg:Nat)(FL:Heap),Jn.size<=xg->Fr (In [kA]) Jn FL->Vars FL [(xg,[(Sl.v rS),(VI rT)]),(tA,[(Sl.v mc),(VI me)]),(lI,[(Sl.v oI),(VI oJ)]),(nF,[(Sl.v oE),(VI oH)]),(kA,[(Sl.v cQ),(VI cR)]),(lJ,[(Sl.v cQ),(VI cR)]),(lK,[(Sl.v eH)])]->
 K (Value.tuple #[(VI 0),(Value.agg #[(Sl.v cQ),(VI cR)]),(VI 0)]) FL
def GH(P:Program)(iK:Int)(rU:Int)(kA:Nat)(Ly:Heap)(nE:Nat)(xG:Sl)(xH:Int)(oD:Nat)(xI:Sl)(xJ:Int)(lI:Nat)(oI:Sl)(oJ:Int)(nF:Nat)(oE:Sl)(oH:Int)(cQ:Sl)(cR:Int)(lJ:Nat)(lK:Nat)(eH:Sl)(K:aL):Prop:=
 ((decide (2000<(aX (iK+rU))))=true->
 ∀(ac9:Heap),Fr (In [kA]) Ly ac9->Vars ac9 [(nE,[(Sl.v xG),(VI xH)]),(oD,[(Sl.v xI),(VI xJ)]),(lI,[(Sl.v oI),(VI oJ)]),(nF,[(Sl.v oE),(VI oH)]),(kA,[(Sl.v cQ),(VI cR)]),(lJ,[(Sl.v cQ),(VI cR)]),(lK,[(Sl.v eH)])]->
 K (Value.tuple #[(VI 0),(Value.agg #[(Sl.v cQ),(VI cR)]),(VI 0)]) ac9)/\
 ((decide (2000<(aX (iK+rU))))=false->
 ∀(ada:Heap),Fr (In [kA]) Ly ada->Vars ada [(nE,[(Sl.v xG),(VI xH)]),(oD,[(Sl.v xI),(VI xJ)]),(lI,[(Sl.v oI),(VI oJ)]),(nF,[(Sl.v oE),(VI oH)]),(kA,[(Sl.v xI),(VI xJ)]),(lJ,[(Sl.v cQ),(VI cR)]),(lK,[(Sl.v eH)])]->
 K (Value.tuple #[(VI iK),(Value.agg #[(Sl.v xI),(VI xJ)]),(VI rU)]) ada)
def Ck(P:Program)(rV:Bool)(kA:Nat)(vJ:Heap)(lI:Nat)(oI:Sl)(oJ:Int)(nF:Nat)(oE:Sl)(oH:Int)(cQ:Sl)(cR:Int)(lJ:Nat)(lK:Nat)(eH:Sl)(K:aL):Prop:=
 ((! rV)=true->
 ∀(FM:Heap),Fr (In [kA]) vJ FM->Vars FM [(lI,[(Sl.v oI),(VI oJ)]),(nF,[(Sl.v oE),(VI oH)]),(kA,[(Sl.v cQ),(VI cR)]),(lJ,[(Sl.v cQ),(VI cR)]),(lK,[(Sl.v eH)])]->
 K (Value.tuple #[(VI 0),(Value.agg #[(Sl.v cQ),(VI cR)]),(VI 0)]) FM)/\
 ((! rV)=false->
 aG P 227 #[(Value.agg #[(Sl.v eH)]),(Value.agg #[(Sl.v oE),(VI oH)]),(VI 2000)] vJ fun ane vE=>∃rU:Int,ane=(VI rU)/\Vars vE [(lI,[(Sl.v oI),(VI oJ)]),(nF,[(Sl.v oE),(VI oH)]),(kA,[(Sl.v aD),(VI 0)]),(lJ,[(Sl.v cQ),(VI cR)]),(lK,[(Sl.v eH)])]/\
 ((decide (rU=0))=true->
 ∀(vF:Heap),Fr (In [kA]) vE vF->Vars vF [(lI,[(Sl.v oI),(VI oJ)]),(nF,[(Sl.v oE),(VI oH)]),(kA,[(Sl.v cQ),(VI cR)]),(lJ,[(Sl.v cQ),(VI cR)]),(lK,[(Sl.v eH)])]->
 K (Value.tuple #[(VI 0),(Value.agg #[(Sl.v cQ),(VI cR)]),(VI 0)]) vF)/\
 ((decide (rU=0))=false->
 ∃J_3:Nat->Sl->Int->Nat->Sl->Int->Heap->Prop,((∀(uB:Nat)(Bk:Heap),vE.size<=uB->Fr (In []) vE Bk->Vars Bk [(uB,[(Sl.v aD),(VI 0)]),(lI,[(Sl.v oI),(VI oJ)]),(nF,[(Sl.v oE),(VI oH)]),(kA,[(Sl.v aD),(VI 0)]),(lJ,[(Sl.v cQ),(VI cR)]),(lK,[(Sl.v eH)])]->
 ∀(yQ:Nat)(Jg:Heap),Bk.size<=yQ->Fr (In []) Bk Jg->Vars Jg [(yQ,[(Sl.v aD),(VI 0)]),(uB,[(Sl.v aD),(VI 0)]),(lI,[(Sl.v oI),(VI oJ)]),(nF,[(Sl.v oE),(VI oH)]),(kA,[(Sl.v aD),(VI 0)]),(lJ,[(Sl.v cQ),(VI cR)]),(lK,[(Sl.v eH)])]->
 ∀(FN:Heap),Fr (In [uB]) Jg FN->Vars FN [(yQ,[(Sl.v aD),(VI 0)]),(uB,[(Sl.v cQ),(VI cR)]),(lI,[(Sl.v oI),(VI oJ)]),(nF,[(Sl.v oE),(VI oH)]),(kA,[(Sl.v aD),(VI 0)]),(lJ,[(Sl.v cQ),(VI cR)]),(lK,[(Sl.v eH)])]->
 ∀(Le:Heap),Fr (In [yQ]) FN Le->Vars Le [(yQ,[(Sl.v cQ),(VI cR)]),(uB,[(Sl.v cQ),(VI cR)]),(lI,[(Sl.v oI),(VI oJ)]),(nF,[(Sl.v oE),(VI oH)]),(kA,[(Sl.v aD),(VI 0)]),(lJ,[(Sl.v cQ),(VI cR)]),(lK,[(Sl.v eH)])]->
 J_3 uB cQ cR yQ cQ cR Le)/\
 (∀(uC:Nat)(Jk:Heap),vE.size<=uC->Fr (In []) vE Jk->Vars Jk [(uC,[(Sl.v aD),(VI 0)]),(lI,[(Sl.v oI),(VI oJ)]),(nF,[(Sl.v oE),(VI oH)]),(kA,[(Sl.v aD),(VI 0)]),(lJ,[(Sl.v cQ),(VI cR)]),(lK,[(Sl.v eH)])]->
 ∀(yR:Nat)(Si:Heap),Jk.size<=yR->Fr (In []) Jk Si->Vars Si [(yR,[(Sl.v aD),(VI 0)]),(uC,[(Sl.v aD),(VI 0)]),(lI,[(Sl.v oI),(VI oJ)]),(nF,[(Sl.v oE),(VI oH)]),(kA,[(Sl.v aD),(VI 0)]),(lJ,[(Sl.v cQ),(VI cR)]),(lK,[(Sl.v eH)])]->
 ∀(l9:Heap),Fr (In [yR]) Si l9->Vars l9 [(yR,[(Sl.v cQ),(VI cR)]),(uC,[(Sl.v aD),(VI 0)]),(lI,[(Sl.v oI),(VI oJ)]),(nF,[(Sl.v oE),(VI oH)]),(kA,[(Sl.v aD),(VI 0)]),(lJ,[(Sl.v cQ),(VI cR)]),(lK,[(Sl.v eH)])]->
 ∀(FV:Heap),Fr (In [uC]) l9 FV->Vars FV [(yR,[(Sl.v cQ),(VI cR)]),(uC,[(Sl.v cQ),(VI cR)]),(lI,[(Sl.v oI),(VI oJ)]),(nF,[(Sl.v oE),(VI oH)]),(kA,[(Sl.v aD),(VI 0)]),(lJ,[(Sl.v cQ),(VI cR)]),(lK,[(Sl.v eH)])]->
 J_3 yR cQ cR uC cQ cR FV))/\
 ∀(oD:Nat)(x_9:Sl)(Pb:Int)(nE:Nat)(adb:Sl)(ade:Int)(adf:Heap),J_3 oD x_9 Pb nE adb ade adf->Vars adf [(nE,[(Sl.v adb),(VI ade)]),(oD,[(Sl.v x_9),(VI Pb)]),(lI,[(Sl.v oI),(VI oJ)]),(nF,[(Sl.v oE),(VI oH)]),(kA,[(Sl.v aD),(VI 0)]),(lJ,[(Sl.v cQ),(VI cR)]),(lK,[(Sl.v eH)])]->
 ∃J_4:Nat->Int->Sl->Int->Heap->Prop,(∃n0:Nat,J_4 n0 0 adb ade adf)/\
 ∀(n_2:Nat)(Nr:Int)(SH:Sl)(SI:Int)(Xs:Heap),J_4 n_2 Nr SH SI Xs->Vars Xs [(nE,[(Sl.v SH),(VI SI)]),(oD,[(Sl.v x_9),(VI Pb)]),(lI,[(Sl.v oI),(VI oJ)]),(nF,[(Sl.v oE),(VI oH)]),(kA,[(Sl.v aD),(VI 0)]),(lJ,[(Sl.v cQ),(VI cR)]),(lK,[(Sl.v eH)])]->
 ((decide (Nr<rU))=true->
 aG P 177 #[(Value.agg #[(Sl.v eH)]),(Value.agg #[(Sl.v SH),(VI SI)])] Xs fun anh agh=>∃SJ:Sl,∃SK:Int,∃agi:Bool,anh=(Value.tuple #[(Value.agg #[(Sl.v SJ),(VI SK)]),(VB agi)])/\Vars agh [(nE,[(Sl.v SH),(VI SI)]),(oD,[(Sl.v x_9),(VI Pb)]),(lI,[(Sl.v oI),(VI oJ)]),(nF,[(Sl.v oE),(VI oH)]),(kA,[(Sl.v aD),(VI 0)]),(lJ,[(Sl.v cQ),(VI cR)]),(lK,[(Sl.v eH)])]/\
 ∀(FW:Heap),Fr (In [nE]) agh FW->Vars FW [(nE,[(Sl.v SJ),(VI SK)]),(oD,[(Sl.v x_9),(VI Pb)]),(lI,[(Sl.v oI),(VI oJ)]),(nF,[(Sl.v oE),(VI oH)]),(kA,[(Sl.v aD),(VI 0)]),(lJ,[(Sl.v cQ),(VI cR)]),(lK,[(Sl.v eH)])]->
 ∃m:Nat,m<n_2/\J_4 m (aX (Nr+1)) SJ SK FW)/\
 ((decide (Nr<rU))=false->
 ∃Rs:Nat->Int->Sl->Int->Sl->Int->Heap->Prop,(∃n0:Nat,Rs n0 0 SH SI x_9 Pb Xs)/\
 ∀(n_3:Nat)(iK:Int)(xG:Sl)(xH:Int)(xI:Sl)(xJ:Int)(adg:Heap),Rs n_3 iK xG xH xI xJ adg->Vars adg [(nE,[(Sl.v xG),(VI xH)]),(oD,[(Sl.v xI),(VI xJ)]),(lI,[(Sl.v oI),(VI oJ)]),(nF,[(Sl.v oE),(VI oH)]),(kA,[(Sl.v aD),(VI 0)]),(lJ,[(Sl.v cQ),(VI cR)]),(lK,[(Sl.v eH)])]->
 aG P 226 #[(Value.agg #[(Sl.v xI),(VI xJ)]),(Value.agg #[(Sl.v xG),(VI xH)])] adg fun ani Ly=>∃SL:Bool,ani=(VB SL)/\Vars Ly [(nE,[(Sl.v xG),(VI xH)]),(oD,[(Sl.v xI),(VI xJ)]),(lI,[(Sl.v oI),(VI oJ)]),(nF,[(Sl.v oE),(VI oH)]),(kA,[(Sl.v aD),(VI 0)]),(lJ,[(Sl.v cQ),(VI cR)]),(lK,[(Sl.v eH)])]/\
 ((! SL)=true->
 ((decide (iK<=2000))=true->
 aG P 177 #[(Value.agg #[(Sl.v eH)]),(Value.agg #[(Sl.v xI),(VI xJ)])] Ly fun anj agj=>∃Jo:Sl,∃Jp:Int,∃agk:Bool,anj=(Value.tuple #[(Value.agg #[(Sl.v Jo),(VI Jp)]),(VB agk)])/\Vars agj [(nE,[(Sl.v xG),(VI xH)]),(oD,[(Sl.v xI),(VI xJ)]),(lI,[(Sl.v oI),(VI oJ)]),(nF,[(Sl.v oE),(VI oH)]),(kA,[(Sl.v aD),(VI 0)]),(lJ,[(Sl.v cQ),(VI cR)]),(lK,[(Sl.v eH)])]/\
 ∀(FY:Heap),Fr (In [oD]) agj FY->Vars FY [(nE,[(Sl.v xG),(VI xH)]),(oD,[(Sl.v Jo),(VI Jp)]),(lI,[(Sl.v oI),(VI oJ)]),(nF,[(Sl.v oE),(VI oH)]),(kA,[(Sl.v aD),(VI 0)]),(lJ,[(Sl.v cQ),(VI cR)]),(lK,[(Sl.v eH)])]->
 aG P 177 #[(Value.agg #[(Sl.v eH)]),(Value.agg #[(Sl.v xG),(VI xH)])] FY fun ank CX=>∃Lz:Sl,∃LA:Int,∃adh:Bool,ank=(Value.tuple #[(Value.agg #[(Sl.v Lz),(VI LA)]),(VB adh)])/\Vars CX [(nE,[(Sl.v xG),(VI xH)]),(oD,[(Sl.v Jo),(VI Jp)]),(lI,[(Sl.v oI),(VI oJ)]),(nF,[(Sl.v oE),(VI oH)]),(kA,[(Sl.v aD),(VI 0)]),(lJ,[(Sl.v cQ),(VI cR)]),(lK,[(Sl.v eH)])]/\
 ∀(Lh:Heap),Fr (In [nE]) CX Lh->Vars Lh [(nE,[(Sl.v Lz),(VI LA)]),(oD,[(Sl.v Jo),(VI Jp)]),(lI,[(Sl.v oI),(VI oJ)]),(nF,[(Sl.v oE),(VI oH)]),(kA,[(Sl.v aD),(VI 0)]),(lJ,[(Sl.v cQ),(VI cR)]),(lK,[(Sl.v eH)])]->
 ∃m:Nat,m<n_3/\Rs m (aX (iK+1)) Lz LA Jo Jp Lh)/\
 ((decide (iK<=2000))=false->
 GH P iK rU kA Ly nE xG xH oD xI xJ lI oI oJ nF oE oH cQ cR lJ lK eH K))/\
 ((! SL)=false->
 GH P iK rU kA Ly nE xG xH oD xI xJ lI oI oJ nF oE oH cQ cR lJ lK eH K))))
def agl(P:Program)(eH:Sl)(cQ:Sl)(cR:Int)(h:Heap)(K:aL):Prop:=
 ∀(lK:Nat)(lJ:Nat)(kA:Nat)(h_3:Heap),h.size<=lK->h.size<=lJ->h.size<=kA->Fr (In []) h h_3->Vars h_3 [(kA,[(Sl.v aD),(VI 0)]),(lJ,[(Sl.v cQ),(VI cR)]),(lK,[(Sl.v eH)])]->
 ∃J_1:Nat->Sl->Int->Nat->Sl->Int->Heap->Prop,((∀(OX:Nat)(sQ:Heap),h_3.size<=OX->Fr (In []) h_3 sQ->Vars sQ [(OX,[(Sl.v aD),(VI 0)]),(kA,[(Sl.v aD),(VI 0)]),(lJ,[(Sl.v cQ),(VI cR)]),(lK,[(Sl.v eH)])]->
 ∀(Nq:Nat)(Wd:Heap),sQ.size<=Nq->Fr (In []) sQ Wd->Vars Wd [(Nq,[(Sl.v aD),(VI 0)]),(OX,[(Sl.v aD),(VI 0)]),(kA,[(Sl.v aD),(VI 0)]),(lJ,[(Sl.v cQ),(VI cR)]),(lK,[(Sl.v eH)])]->
 ∀(h_6:Heap),Fr (In [OX]) Wd h_6->Vars h_6 [(Nq,[(Sl.v aD),(VI 0)]),(OX,[(Sl.v cQ),(VI cR)]),(kA,[(Sl.v aD),(VI 0)]),(lJ,[(Sl.v cQ),(VI cR)]),(lK,[(Sl.v eH)])]->
 ∀(h_7:Heap),Fr (In [Nq]) h_6 h_7->Vars h_7 [(Nq,[(Sl.v cQ),(VI cR)]),(OX,[(Sl.v cQ),(VI cR)]),(kA,[(Sl.v aD),(VI 0)]),(lJ,[(Sl.v cQ),(VI cR)]),(lK,[(Sl.v eH)])]->
 J_1 OX cQ cR Nq cQ cR h_7)/\
 (∀(O0:Nat)(h_8:Heap),h_3.size<=O0->Fr (In []) h_3 h_8->Vars h_8 [(O0,[(Sl.v aD),(VI 0)]),(kA,[(Sl.v aD),(VI 0)]),(lJ,[(Sl.v cQ),(VI cR)]),(lK,[(Sl.v eH)])]->
 ∀(Ue:Nat)(We:Heap),h_8.size<=Ue->Fr (In []) h_8 We->Vars We [(Ue,[(Sl.v aD),(VI 0)]),(O0,[(Sl.v aD),(VI 0)]),(kA,[(Sl.v aD),(VI 0)]),(lJ,[(Sl.v cQ),(VI cR)]),(lK,[(Sl.v eH)])]->
 ∀(adi:Heap),Fr (In [Ue]) We adi->Vars adi [(Ue,[(Sl.v cQ),(VI cR)]),(O0,[(Sl.v aD),(VI 0)]),(kA,[(Sl.v aD),(VI 0)]),(lJ,[(Sl.v cQ),(VI cR)]),(lK,[(Sl.v eH)])]->
 ∀(adj:Heap),Fr (In [O0]) adi adj->Vars adj [(Ue,[(Sl.v cQ),(VI cR)]),(O0,[(Sl.v cQ),(VI cR)]),(kA,[(Sl.v aD),(VI 0)]),(lJ,[(Sl.v cQ),(VI cR)]),(lK,[(Sl.v eH)])]->
 J_1 Ue cQ cR O0 cQ cR adj))/\
 ∀(nF:Nat)(x_1:Sl)(x_2:Int)(lI:Nat)(x_3:Sl)(x_4:Int)(adk:Heap),J_1 nF x_1 x_2 lI x_3 x_4 adk->Vars adk [(lI,[(Sl.v x_3),(VI x_4)]),(nF,[(Sl.v x_1),(VI x_2)]),(kA,[(Sl.v aD),(VI 0)]),(lJ,[(Sl.v cQ),(VI cR)]),(lK,[(Sl.v eH)])]->
 ∃J_2:Nat->Bool->Int->Sl->Int->Sl->Int->Heap->Prop,(∃n0:Nat,J_2 n0 false 1 x_3 x_4 x_1 x_2 adk)/\
 ∀(n_1:Nat)(rV:Bool)(Ns:Int)(oI:Sl)(oJ:Int)(oE:Sl)(oH:Int)(vJ:Heap),J_2 n_1 rV Ns oI oJ oE oH vJ->Vars vJ [(lI,[(Sl.v oI),(VI oJ)]),(nF,[(Sl.v oE),(VI oH)]),(kA,[(Sl.v aD),(VI 0)]),(lJ,[(Sl.v cQ),(VI cR)]),(lK,[(Sl.v eH)])]->
 ((decide ((aX (2*Ns))<=4000))=true->
 ((! rV)=true->
 aG P 177 #[(Value.agg #[(Sl.v eH)]),(Value.agg #[(Sl.v oE),(VI oH)])] vJ fun ant uA=>∃mc:Sl,∃me:Int,∃SM:Bool,ant=(Value.tuple #[(Value.agg #[(Sl.v mc),(VI me)]),(VB SM)])/\Vars uA [(lI,[(Sl.v oI),(VI oJ)]),(nF,[(Sl.v oE),(VI oH)]),(kA,[(Sl.v aD),(VI 0)]),(lJ,[(Sl.v cQ),(VI cR)]),(lK,[(Sl.v eH)])]/\
 ∀(tA:Nat)(adl:Heap),uA.size<=tA->Fr (In []) uA adl->Vars adl [(tA,[(Sl.v mc),(VI me)]),(lI,[(Sl.v oI),(VI oJ)]),(nF,[(Sl.v oE),(VI oH)]),(kA,[(Sl.v aD),(VI 0)]),(lJ,[(Sl.v cQ),(VI cR)]),(lK,[(Sl.v eH)])]->
 aG P 177 #[(Value.agg #[(Sl.v eH)]),(Value.agg #[(Sl.v oI),(VI oJ)])] adl fun anu Jn=>∃rS:Sl,∃rT:Int,∃SN:Bool,anu=(Value.tuple #[(Value.agg #[(Sl.v rS),(VI rT)]),(VB SN)])/\Vars Jn [(tA,[(Sl.v mc),(VI me)]),(lI,[(Sl.v oI),(VI oJ)]),(nF,[(Sl.v oE),(VI oH)]),(kA,[(Sl.v aD),(VI 0)]),(lJ,[(Sl.v cQ),(VI cR)]),(lK,[(Sl.v eH)])]/\
 ((! SM)=true->
 GG P Jn kA rS rT tA mc me lI oI oJ nF oE oH cQ cR lJ lK eH K)/\
 ((! SM)=false->
 ((! SN)=true->
 GG P Jn kA rS rT tA mc me lI oI oJ nF oE oH cQ cR lJ lK eH K)/\
 ((! SN)=false->
 ∀(xg:Nat)(Bp:Heap),Jn.size<=xg->Fr (In []) Jn Bp->Vars Bp [(xg,[(Sl.v rS),(VI rT)]),(tA,[(Sl.v mc),(VI me)]),(lI,[(Sl.v oI),(VI oJ)]),(nF,[(Sl.v oE),(VI oH)]),(kA,[(Sl.v aD),(VI 0)]),(lJ,[(Sl.v cQ),(VI cR)]),(lK,[(Sl.v eH)])]->
 aG P 177 #[(Value.agg #[(Sl.v eH)]),(Value.agg #[(Sl.v rS),(VI rT)])] Bp fun anv SO=>∃yB:Sl,∃yC:Int,∃SP:Bool,anv=(Value.tuple #[(Value.agg #[(Sl.v yB),(VI yC)]),(VB SP)])/\Vars SO [(xg,[(Sl.v rS),(VI rT)]),(tA,[(Sl.v mc),(VI me)]),(lI,[(Sl.v oI),(VI oJ)]),(nF,[(Sl.v oE),(VI oH)]),(kA,[(Sl.v aD),(VI 0)]),(lJ,[(Sl.v cQ),(VI cR)]),(lK,[(Sl.v eH)])]/\
 ((! SP)=true->
 ∀(CW:Nat)(wZ:Heap),SO.size<=CW->Fr (In [kA]) SO wZ->Vars wZ [(CW,[(Sl.v yB),(VI yC)]),(xg,[(Sl.v rS),(VI rT)]),(tA,[(Sl.v mc),(VI me)]),(lI,[(Sl.v oI),(VI oJ)]),(nF,[(Sl.v oE),(VI oH)]),(kA,[(Sl.v cQ),(VI cR)]),(lJ,[(Sl.v cQ),(VI cR)]),(lK,[(Sl.v eH)])]->
 K (Value.tuple #[(VI 0),(Value.agg #[(Sl.v cQ),(VI cR)]),(VI 0)]) wZ)/\
 ((! SP)=false->
 ∀(CW:Nat)(oC:Heap),SO.size<=CW->Fr (In [lI,nF]) SO oC->Vars oC [(CW,[(Sl.v yB),(VI yC)]),(xg,[(Sl.v rS),(VI rT)]),(tA,[(Sl.v mc),(VI me)]),(lI,[(Sl.v yB),(VI yC)]),(nF,[(Sl.v mc),(VI me)]),(kA,[(Sl.v aD),(VI 0)]),(lJ,[(Sl.v cQ),(VI cR)]),(lK,[(Sl.v eH)])]->
 aG P 226 #[(Value.agg #[(Sl.v mc),(VI me)]),(Value.agg #[(Sl.v yB),(VI yC)])] oC fun anw FK=>∃Yt:Bool,anw=(VB Yt)/\Vars FK [(CW,[(Sl.v yB),(VI yC)]),(xg,[(Sl.v rS),(VI rT)]),(tA,[(Sl.v mc),(VI me)]),(lI,[(Sl.v yB),(VI yC)]),(nF,[(Sl.v mc),(VI me)]),(kA,[(Sl.v aD),(VI 0)]),(lJ,[(Sl.v cQ),(VI cR)]),(lK,[(Sl.v eH)])]/\
 ∃m:Nat,m<n_1/\J_2 m Yt (aX (Ns+1)) yB yC mc me FK))))/\
 ((! rV)=false->
 Ck P rV kA vJ lI oI oJ nF oE oH cQ cR lJ lK eH K))/\
 ((decide ((aX (2*Ns))<=4000))=false->
 Ck P rV kA vJ lI oI oJ nF oE oH cQ cR lJ lK eH K)
theorem anx(eH:Sl)(cQ:Sl)(cR:Int)(h:Heap)(K:aL)(H:agl aC eH cQ cR h K):aG aC 181 #[(Value.agg #[(Sl.v eH)]),(Value.agg #[(Sl.v cQ),(VI cR)])] h K:=aj0 eH cQ cR h K H
theorem mM{S S':aK}{h:Heap}{g w:Sl}{aI:aE}{s:St}(G:cG S h g aI)(H:bC S' h w s.1)(W:iT aI s){p:Int}(hp:p=s.2)(K:aL)(HK:∀(t:Sl) h',bC (fun k=>S' k\/h.size<=k) h' t ((dK aI s).getD s).1->Fr No h h'->K (.tuple #[.agg #[t.v,VI ((dK aI s).getD s).2],VB (dK aI s).isSome]) h'):aG aC 177 #[.agg #[g.v],.agg #[w.v,VI p]] h K:=by
 subst hp
 refine rf G H W _ (fun hn h' f=> ?_) (fun s' hs t h' o f=> ?_)
 ·have:=HK w h' (by rw[hn];exact(H.no f).mono fun k hk=> .inl hk) f
  rw[hn]at this
  exact this
 ·have:=HK t h' (by rw[hs];exact eC.mono o.fM fun k hk=> .inr hk.1) f
  rw[hs]at this
  exact this
theorem qa{g:aE}{s:St}(W:iT g s):∀{n:Nat}{t:St},sq g s n=some t->iT g t
 |0,t,h=>by rw[sq]at h;cases h;exact W
 |n+1,t,h=>by
  rw[sq]at h
  cases hn:sq g s n with
  |none=>rw[hn]at h;cases h
  |some u=>rw[hn]at h;exact(qa W hn).step h
theorem Cm{g:aE}{s0:St}:∀(f n:Nat)(s:St),f+n=2001->sq g s0 n=some s->(∀j,1<=j->j<n->sq g s0 j≠some s0)->((cL g (lH s0.1 s0.2) 1 f (n:Int) () s).1=0/\∀j,1<=j->j<=2000->sq g s0 j≠some s0)\/∃a:Nat,(cL g (lH s0.1 s0.2) 1 f (n:Int) () s).1=(a:Int)/\1<=a/\a<=2000/\sq g s0 a=some s0/\∀j,1<=j->j<a->sq g s0 j≠some s0
 |0,n,s,hn,hs,hj=> .inl ⟨rfl,fun j h1 h2=>hj j h1 (by omega)⟩
 |f+1,n,s,hn,hs,hj=>by
  rw[cL]
  have stop:dK g s=none->(1<=n->s≠s0)->∀j,1<=j->j<=2000->sq g s0 j≠some s0:=fun he fL j h1 h2 hc=>by
   by_cases h3:j<n
   ·exact hj j h1 h3 hc
   ·by_cases h4:j=n
    ·rw[h4,hs]at hc
     exact fL (by omega) (bI hc)
    ·have:sq g s0 (n+1)=none:=by rw[sq,hs];exact he
     have:=zB this (j-(n+1))
     rw[show n+1+(j-(n+1))=j by omega]at this
     rw[this]at hc;cases hc
  have next:∀s',dK g s=some s'->(1<=n->s≠s0)->(∀j,1<=j->j<n+1->sq g s0 j≠some s0):=fun s' he fL j h1 h2=>by
   by_cases h3:j<n
   ·exact hj j h1 h3
   ·have:j=n:=by omega
    subst this
    rw[hs]
    exact fun hc=>fL (by omega) (bI hc)
  by_cases h1:(1:Int)<=(n:Int)
  ·rw[aJ h1]
   by_cases h2:(lH s0.1 s0.2 () s).1=true
   ·rw[aJ h2]
    have e:s=s0:=by
     simp only[lH,aT]at h2
     exact Prod.ext h2.2.symm h2.1.symm
    exact .inr ⟨n,rfl,by omega,by omega,by rw[hs,e],hj⟩
   ·rw[aF h2]
    have fL:s≠s0:=fun e=>h2 (by simp[lH,e])
    cases he:dK g s with
    |none=>exact .inl ⟨rfl,stop he fun _=>fL⟩
    |some s'=>
     have:=Cm f (n+1) s' (by omega) (by rw[sq,hs];exact he) (next s' he fun _=>fL)
     simpa using this
  ·rw[aF h1]
   cases he:dK g s with
   |none=>exact .inl ⟨rfl,stop he fun h=>absurd h (by omega)⟩
   |some s'=>
    have:=Cm f (n+1) s' (by omega) (by rw[sq,hs];exact he) (next s' he fun h=>absurd h (by omega))
    simpa using this
theorem Eu{g:aE}{s0 s:St}{m n a:Nat}(R:vx g s0 m n)(ha:m<=a)(hs:sq g s0 a=some s):((cL g (lH s.1 s.2) 1 2001 0 () s).1=0/\2000<n-m)\/((cL g (lH s.1 s.2) 1 2001 0 () s).1=((n-m:Nat):Int)/\n-m<=2000):=by
 have wc:=R.lt
 have key:∀j,sq g s j=sq g s0 (a+j):=fun j=>by rw[A4,hs];rfl
 have adm:∀j,1<=j->(sq g s j=some s↔j%(n-m)=0):=fun j hj=>by
  rw[key,<-hs]
  have:=R.iff (a:=a) (b:=a+j) (by omega)
  rw[show a+j-a=j by omega]at this
  constructor
  ·intro h;exact(this.1 h.symm).2
  ·intro h;exact(this.2 ⟨ha,h⟩).symm
 rcases Cm (g:=g) (s0:=s) 2001 0 s rfl rfl (fun j h1 h2=>by omega)with⟨h1,h2⟩|⟨b,h1,h2,h3,h4,h5⟩
 ·refine .inl ⟨h1,?_⟩
  by_cases hc:n-m<=2000
  ·exact absurd ((adm (n-m) (by omega)).2 (Nat.mod_self _)) (h2 (n-m) (by omega) hc)
  ·omega
 ·have hb:=(adm b h2).1 h4
  have hle:n-m<=b:=by
   by_cases hc:n-m<=b
   ·exact hc
   ·rw[Nat.mod_eq_of_lt (by omega)]at hb;omega
  have heq:n-m=b:=by
   by_cases hc:n-m<b
   ·exact absurd ((adm (n-m) (by omega)).2 (Nat.mod_self _)) (h5 (n-m) (by omega) hc)
   ·omega
  exact .inr ⟨h1.trans (by rw[heq]),by omega⟩
theorem Jq{S':aK}{h:Heap}{g w:Sl}{aI:aE}{rs:aH}{p:Int}{m n:Nat}(R:vx aI (rs,p) m n){K:aL}(HN:(∀m k,vx aI (rs,p) m k->2000<k)->∀h',Fr No h h'->K (.tuple #[VI 0,.agg #[w.v,VI p],VI 0]) h')(HS:∀m k s,vx aI (rs,p) m k->k<=2000->sq aI (rs,p) m=some s->∀t h',bC (fun k=>S' k\/h.size<=k) h' t s.1->Fr No h h'->K (.tuple #[VI m,.agg #[t.v,VI s.2],VI ((k:Int)-m)]) h'){b1 b2 b3 b4 b5 b13 b14:Nat}(jv:h.size<=b3){X:Heap}(fX:Fr (fun k=>h.size<=k) h X){x5 x7 x15 x17:Sl}{x6 x8 x16:Int}{i:Nat}{s:St}(hs:sq aI (rs,p) i=some s)(hi:i=m\/i=2001/\2000<n)(Q:bC (fun k=>(S' k/\k<h.size)\/(h.size<=k/\k≠b3)) X x17 s.1)(wF:i<=2001)(AK:n-m<=2000):GH aC (i:Int) ((n-m:Nat):Int) b3 X b14 x15 x16 b13 x17 s.2 b5 x5 x6 b4 x7 x8 w p b2 b1 g K:=by
 have wc:=R.lt
 unfold GH
 rw[aP _ (by omega) (by omega)]
 have yw:∀{Y:Heap},Fr (In [b3]) X Y->Fr No h Y:=fun f=>(fX.trans (f.mono fun k _ hk=>by simp[In]at hk;omega)).mono fun k hk aQ=>absurd aQ (by omega)
 refine⟨fun e Y fY hL=> ?_,fun e Y fY hL=> ?_⟩
 ·simp only[aT]at e
  refine HN (fun m' k' R'=> ?_) Y (yw fY)
  obtain⟨rfl,rfl⟩:=R.ZV R'
  rcases hi with rfl|⟨_,h2⟩
  ·omega
  ·exact h2
 ·simp only[aY]at e
  rcases hi with rfl|⟨rfl,h2⟩
  ·have:=HS i n s R (by omega) hs x17 Y ((Q.fr fY fun k hk aQ=>by simp[In]at aQ;rcases hk with hk|hk<;>omega).mono fun k hk=>by rcases hk with hk|hk;exact .inl hk.1;exact .inr hk.1) (yw fY)
   rw[show((n-i:Nat):Int)=(n:Int)-i by omega]
   exact this
  ·omega
set_option maxHeartbeats 4000000 in
theorem SQ{S S':aK}{h:Heap}{g w:Sl}{aI:aE}{rs:aH}{p:Int}(G:cG S h g aI)(H:bC S' h w rs)(W:iT aI (rs,p)){K:aL}(HN:(∀m k,vx aI (rs,p) m k->2000<k)->∀h',Fr No h h'->K (.tuple #[VI 0,.agg #[w.v,VI p],VI 0]) h')(HS:∀m k s,vx aI (rs,p) m k->k<=2000->sq aI (rs,p) m=some s->∀t h',bC (fun k=>S' k\/h.size<=k) h' t s.1->Fr No h h'->K (.tuple #[VI m,.agg #[t.v,VI s.2],VI ((k:Int)-m)]) h'){b1 b2 b3 b4 b5:Nat}(hb:h.size<=b1/\h.size<=b2/\h.size<=b3/\h.size<=b4/\h.size<=b5){X:Heap}(fX:Fr (fun k=>h.size<=k) h X){T:aK}{x5 x7:Sl}{x6:Int}{a:Nat}{s:St}(met:Bool)(hs:sq aI (rs,p) a=some s)(Q:bC T X x7 s.1)(anA:met=true->1<=a/\sq aI (rs,p) a=sq aI (rs,p) (2*a))(hL:Vars X [(b5,[x5.v,VI x6]),(b4,[x7.v,VI s.2]),(b3,[aD.v,VI 0]),(b2,[w.v,VI p]),(b1,[g.v])])(hT:(!met)=true->∀h':Heap,Fr (In [b3]) X h'->K (.tuple #[VI 0,.agg #[w.v,VI p],VI 0]) h'):Ck aC met b3 X b5 x5 x6 b4 x7 s.2 w p b2 b1 g K:=by
 unfold Ck
 obtain⟨fK,eN,jv,Fb,QL⟩:=hb
 have zX:=fX.size
 have wl:=W.len
 have G0:cG (fun k=>S k/\k<h.size) h g aI:=G.yG
 have H0:bC (fun k=>S' k/\k<h.size) h w rs:=eC.lt H
 refine⟨fun e h' f _=>hT e h' f,?_⟩
 intro e
 have hm:=anA (by simpa using e)
 obtain⟨m,n,hn,R⟩:=ZU (g:=aI) (s:=(rs,p)) (2*a) (a:=a) (by omega) hm.2 (by rw[hs];exact fun h=>by cases h)
 have wc:=R.lt
 have hma:m<=a:=((R.iff (a:=a) (b:=2*a) (by omega)).1 hm.2).1
 have Ws:iT aI s:=qa W hs
 have GX:cG (fun k=>S k/\k<h.size) X g aI:=G0.fr fX fun k hk aQ=>by omega
 have SR:∀{Y:Heap},Fr (fun k=>h.size<=k) h Y->Fr No h Y:=fun f=>f.mono fun k hk aQ=>absurd aQ (by omega)
 have up:∀{Y Z:Heap}{l:List Nat},(∀k,k∈l->h.size<=k)->Fr (In l) Y Z->Fr (fun k=>h.size<=k) Y Z:=fun hl f=>f.mono fun k _ hk=>hl k hk
 have all:=R.all
 refine N7 GX (show bC T X x7 (s.1,s.2).1 from Q) s.2 Ws _ fun h29 f29=>⟨_,rfl,hL.aB f29,fun e1 h30 f30 amc=> ?_,fun e1=> ?_⟩
 ·have SS:=fX.trans f29.aB
  refine HN (fun m' k' R'=> ?_) h30 (SR (SS.trans (f30.mono fun k _ hk=>by simp[In]at hk;omega)))
  obtain⟨rfl,rfl⟩:=R.ZV R'
  simp only[aT]at e1
  rcases Eu R hma hs with⟨_,h2⟩|⟨h1,h2⟩
  ·omega
  ·rw[show((s.1,s.2):St)=s from rfl]at e1;rw[h1]at e1;omega
 simp only[aY]at e1
 have AK:(cL aI (lH s.1 s.2) 1 2001 0 () (s.1,s.2)).1=((n-m:Nat):Int)/\n-m<=2000:=by
  rcases Eu R hma hs with⟨h1,h2⟩|h
  ·exact absurd h1 e1
  ·exact h
 rw[AK.1]
 have AK:=AK.2
 have SS:=fX.trans f29.aB
 have z29:=SS.size
 have ago:=hL.aB f29
 refine⟨fun b13 x9 QM b14 QO TU h'=>x9=w/\QM=p/\QO=w/\TU=p/\h29.size<=b13/\h29.size<=b14/\Fr (fun k=>h.size<=k) h h',⟨fun b15 h31 adn f31 Vb b16 Zo anB f32 anC h33 f33 anD h34 f34 Zq=> ?_,fun b17 h35 ado f35 aff b18 h36 anE f36 Vd h37 f37 QP h38 f38 anF=> ?_⟩,?_⟩
 ·have:=f31.size
  exact⟨rfl,rfl,rfl,rfl,adn,by omega,(((SS.trans f31.aM.aB).trans f32.aM.aB).trans (f33.mono fun k _ hk=>by simp[In]at hk;omega)).trans (f34.mono fun k _ hk=>by simp[In]at hk;omega)⟩
 ·have:=f35.size
  exact⟨rfl,rfl,rfl,rfl,by omega,ado,(((SS.trans f35.aM.aB).trans f36.aM.aB).trans (f37.mono fun k _ hk=>by simp[In]at hk;omega)).trans (f38.mono fun k _ hk=>by simp[In]at hk;omega)⟩
 rintro b13 x9 QM b14 QO TU Ob ⟨rfl,rfl,rfl,rfl,ati,atj,f39⟩ QR
 have z39:=f39.size
 have l14:b14<Ob.size:=QR.head.lt
 have l13:b13<Ob.size:=QR.tail.head.lt
 have l3:b3<Ob.size:=QR.tail.tail.tail.tail.head.lt
 have inc:∀{k:Nat},((S' k/\k<h.size)\/Ob.size<=k)->(S' k/\k<h.size)\/(h.size<=k/\k≠b3):=fun hk=>by
  rcases hk with hk|hk
  ·exact .inl hk
  ·exact .inr (by omega)
 have H39:bC (fun k=>(S' k/\k<h.size)\/Ob.size<=k) Ob QO rs:=(H0.fr f39 fun k hk aQ=>by omega).mono fun k hk=> .inl hk
 refine⟨fun n2 i x q h'=>∃(j:Nat)(t:St),i=(j:Int)/\n2+j=n-m/\sq aI (rs,TU) j=some t/\q=t.2/\bC (fun k=>(S' k/\k<h.size)\/Ob.size<=k) h' x t.1/\Fr (fun k=>h.size<=k) h h'/\Ob.size<=h'.size,⟨n-m,0,(rs,TU),rfl,rfl,rfl,rfl,H39,f39,aW _⟩,?_⟩
 rintro n2 i x q h40 ⟨j,t,rfl,ej,hj,rfl,Q40,f40,z40⟩ anG
 have Wt:iT aI t:=qa W hj
 have G40:cG (fun k=>S k/\k<h.size) h40 g aI:=G0.fr f40 fun k hk aQ=>by omega
 refine⟨fun e2=> ?_,fun e2=> ?_⟩
 ·simp only[aT]at e2
  refine mM G40 Q40 Wt rfl _ fun y h41 Y41 f41=>⟨y,_,_,rfl,anG.aB f41,fun h42 f42 amk=> ?_⟩
  have z41:=f41.size
  rw[aP _ (by omega) (by omega)]
  have PY:dK aI t≠none:=fun hh=>all (j+1) (by rw[sq,hj];exact hh)
  obtain⟨t',ht'⟩:=Option.ne_none_iff_exists'.1 PY
  rw[ht']at Y41⊢
  simp only[Option.getD_some]at Y41⊢
  refine⟨n2-1,by omega,j+1,t',by omega,by omega,by rw[sq,hj];exact ht',rfl,(Y41.fr f42 fun k hk aQ=>by simp[In]at aQ;rcases hk with(hk|hk)|hk<;>omega).mono fun k hk=>by rcases hk with hk|hk;exact hk;exact .inr (by omega),(f40.trans f41.aB).trans (f42.mono fun k _ hk=>by simp[In]at hk;omega),by have:=f42.size;omega⟩
 simp only[aY]at e2
 have ej2:j=n-m:=by omega
 subst ej2
 have H40:bC (fun k=>(S' k/\k<h.size)\/Ob.size<=k) h40 QO rs:=(H0.fr f40 fun k hk aQ=>by omega).mono fun k hk=> .inl hk
 refine⟨fun n3 st y q2 z q3 h'=>∃(i:Nat)(u v:St),st=(i:Int)/\n3+i=2001/\sq aI (rs,TU) i=some u/\sq aI (rs,TU) (i+(n-m))=some v/\q3=u.2/\q2=v.2/\bC (fun k=>(S' k/\k<h.size)\/Ob.size<=k) h' z u.1/\bC (fun k=>(S' k/\k<h.size)\/Ob.size<=k) h' y v.1/\(∀j,j<i->j<m)/\Fr (fun k=>h.size<=k) h h'/\Ob.size<=h'.size,⟨2001,0,(rs,TU),t,rfl,rfl,rfl,by rw[iO];exact hj,rfl,rfl,H40,Q40,fun j hj=>by omega,f40,z40⟩,?_⟩
 rintro n3 st y q2 z q3 h43 ⟨i,u,v,rfl,en3,hu,hv,rfl,rfl,Z43,Y43,anI,f43,z43⟩ agp
 have Wu:iT aI u:=qa W hu
 have Wv:iT aI v:=qa W hv
 have Cn:(u.2=v.2/\u.1=v.1)↔m<=i:=by
  have h1:=R.iff (a:=i) (b:=i+(n-m)) (by omega)
  rw[hu,hv,show i+(n-m)-i=n-m by omega,Nat.mod_self]at h1
  constructor
  ·intro hh;exact(h1.1 (congrArg some (Prod.ext hh.2 hh.1))).1
  ·intro hh
   have:=bI (h1.2 ⟨hh,rfl⟩)
   rw[this];exact⟨rfl,rfl⟩
 refine AE Z43 Y43 u.2 v.2 _ fun h44 f44=>⟨_,rfl,agp.aB f44,fun e3=>⟨fun e4=> ?_,fun e4=> ?_⟩,fun e3=> ?_⟩
 ·have anJ:=agp.aB f44
  have z44:=f44.size
  simp only[gV,aY,Cn]at e3
  simp only[aT]at e4
  have agq:=f43.trans f44.aB
  have G44:cG (fun k=>S k/\k<h.size) h44 g aI:=G0.fr agq fun k hk aQ=>by omega
  refine mM G44 (Z43.no f44) Wu rfl _ fun z' h45 Z45 f45=>⟨z',_,_,rfl,anJ.aB f45,fun h46 f46 anM=> ?_⟩
  have z45:=f45.size
  have agr:=(agq.trans f45.aB).trans (f46.mono fun k _ hk=>by simp[In]at hk;omega)
  have z46:=f46.size
  have G46:cG (fun k=>S k/\k<h.size) h46 g aI:=G0.fr agr fun k hk aQ=>by omega
  have Y46:=((Y43.no f44).no f45).fr f46 fun k hk aQ=>by simp[In]at aQ;rcases hk with hk|hk<;>omega
  refine mM G46 Y46 Wv rfl _ fun y' h47 Y47 f47=>⟨y',_,_,rfl,anM.aB f47,fun h48 f48 atu=> ?_⟩
  have z47:=f47.size
  have z48:=f48.size
  have hsu:dK aI u≠none:=fun hh=>all (i+1) (by rw[sq,hu];exact hh)
  have hsv:dK aI v≠none:=fun hh=>all (i+(n-m)+1) (by rw[sq,hv];exact hh)
  obtain⟨u',hu'⟩:=Option.ne_none_iff_exists'.1 hsu
  obtain⟨v',XY⟩:=Option.ne_none_iff_exists'.1 hsv
  rw[hu']at Z45⊢
  rw[XY]at Y47⊢
  simp only[Option.getD_some]at Z45 Y47⊢
  rw[aP _ (by omega) (by omega)]
  refine⟨n3-1,by omega,i+1,u',v',by omega,by omega,by rw[sq,hu];exact hu',by rw[show i+1+(n-m)=i+(n-m)+1 by omega,sq,hv];exact XY,rfl,rfl,?_,?_,fun j hj=>by omega,?_,by omega⟩
  ·have a1:=(Z45.fr f46 fun k hk aQ=>by simp[In]at aQ;rcases hk with(hk|hk)|hk<;>omega).no f47
   exact(a1.fr f48 fun k hk aQ=>by simp[In]at aQ;rcases hk with(hk|hk)|hk<;>omega).mono fun k hk=>by rcases hk with hk|hk;exact hk;exact .inr (by omega)
  ·exact(Y47.fr f48 fun k hk aQ=>by simp[In]at aQ;rcases hk with(hk|hk)|hk<;>omega).mono fun k hk=>by rcases hk with hk|hk;exact hk;exact .inr (by omega)
  ·exact(agr.trans f47.aB).trans (f48.mono fun k _ hk=>by simp[In]at hk;omega)
 ·simp only[gV,aY,Cn]at e3
  simp only[aY]at e4
  exact Jq R HN HS jv (f43.trans f44.aB) hu (.inr ⟨by omega,by omega⟩) ((Z43.no f44).mono fun k hk=>inc hk) (by omega) AK
 ·simp only[uv,aT,Cn]at e3
  have him:i=m:=by
   by_cases hc:m<i
   ·have:=anI m hc;omega
   ·omega
  exact Jq R HN HS jv (f43.trans f44.aB) hu (.inl him) ((Z43.no f44).mono fun k hk=>inc hk) (by omega) AK
set_option maxHeartbeats 4000000 in
theorem LB{S S':aK}{h:Heap}{g w:Sl}{aI:aE}{rs:aH}{p:Int}(G:cG S h g aI)(H:bC S' h w rs)(W:iT aI (rs,p))(K:aL)(HN:(∀m k,vx aI (rs,p) m k->2000<k)->∀h',Fr No h h'->K (.tuple #[VI 0,.agg #[w.v,VI p],VI 0]) h')(HS:∀m k s,vx aI (rs,p) m k->k<=2000->sq aI (rs,p) m=some s->∀t h',bC (fun k=>S' k\/h.size<=k) h' t s.1->Fr No h h'->K (.tuple #[VI m,.agg #[t.v,VI s.2],VI ((k:Int)-m)]) h'):aG aC 181 #[.agg #[g.v],.agg #[w.v,VI p]] h K:=by
 refine anx g w p h K ?_
 unfold agl
 intro b1 b2 b3 h3 fK eN jv f3 dI
 have f3:=f3.aM
 have z3:=f3.size
 have G0:cG (fun k=>S k/\k<h.size) h g aI:=G.yG
 have H0:bC (fun k=>S' k/\k<h.size) h w rs:=eC.lt H
 have SR:∀{Y:Heap},Fr (fun k=>h.size<=k) h Y->Fr No h Y:=fun f=>f.mono fun k hk aQ=>absurd aQ (by omega)
 refine⟨fun b4 x1 x2 b5 x3 x4 h'=>x1=w/\x2=p/\x3=w/\x4=p/\h3.size<=b4/\h3.size<=b5/\Fr (fun k=>h.size<=k) h h',⟨fun b15 h31 adn f31 Vb b16 Zo anB f32 anC h33 f33 anD h34 f34 Zq=> ?_,fun b17 h35 ado f35 aff b18 h36 anE f36 Vd h37 f37 QP h38 f38 anF=> ?_⟩,?_⟩
 ·have:=f31.size
  exact⟨rfl,rfl,rfl,rfl,adn,by omega,(((f3.aB.trans f31.aM.aB).trans f32.aM.aB).trans (f33.mono fun k _ hk=>by simp[In]at hk;omega)).trans (f34.mono fun k _ hk=>by simp[In]at hk;omega)⟩
 ·have:=f35.size
  exact⟨rfl,rfl,rfl,rfl,by omega,ado,(((f3.aB.trans f35.aM.aB).trans f36.aM.aB).trans (f37.mono fun k _ hk=>by simp[In]at hk;omega)).trans (f38.mono fun k _ hk=>by simp[In]at hk;omega)⟩
 rintro b4 x1 x2 b5 x3 x4 iH ⟨rfl,rfl,rfl,rfl,Fb,QL,f12⟩ kX
 have z12:=f12.size
 have l5:b5<iH.size:=kX.head.lt
 have l4:b4<iH.size:=kX.tail.head.lt
 have l3:b3<iH.size:=kX.tail.tail.head.lt
 have H12:bC (fun k=>(S' k/\k<h.size)\/iH.size<=k) iH x3 rs:=(H0.fr f12 fun k hk aQ=>by omega).mono fun k hk=> .inl hk
 refine⟨fun n met TR x5 x6 x7 x8 h'=>∃(a:Nat)(s t:St),TR=(a:Int)+1/\n+a=2000/\sq aI (rs,x4) a=some s/\sq aI (rs,x4) (2*a)=some t/\x8=s.2/\x6=t.2/\bC (fun k=>(S' k/\k<h.size)\/iH.size<=k) h' x7 s.1/\bC (fun k=>(S' k/\k<h.size)\/iH.size<=k) h' x5 t.1/\(met=true->1<=a/\s=t)/\(met=false->∀j,1<=j->j<=a->sq aI (rs,x4) j≠sq aI (rs,x4) (2*j))/\Fr (fun k=>h.size<=k) h h'/\iH.size<=h'.size,⟨2000,0,(rs,x4),(rs,x4),rfl,rfl,rfl,rfl,rfl,rfl,H12,H12,fun e=>(by cases e),fun _ j h1 h2=>by omega,f12,aW _⟩,?_⟩
 rintro n met TR x5 x6 x7 x8 uh ⟨a,s,t,rfl,en,hs,ht,rfl,rfl,Q13,P13,hm1,hm0,f13,z13⟩ QG
 have Ws:iT aI s:=qa W hs
 have Wt:iT aI t:=qa W ht
 have bad:∀{X Y:Heap},(∀m k,vx aI (rs,x4) m k->2000<k)->Fr (fun k=>h.size<=k) h X->Fr (In [b3]) X Y->K (.tuple #[VI 0,.agg #[x3.v,VI x4],VI 0]) Y:=fun hN f1 f2=>HN hN _ (SR (f1.trans (f2.mono fun k _ hk=>by simp[In]at hk;omega)))
 have Yu:((!met)=true->∀h':Heap,Fr (In [b3]) uh h'->K (.tuple #[VI 0,.agg #[x3.v,VI x4],VI 0]) h')->Ck aC met b3 uh b5 x5 t.2 b4 x7 s.2 x3 x4 b2 b1 g K:=SQ G H W HN HS ⟨fK,eN,jv,by omega,by omega⟩ f13 met hs Q13 (fun e=>by obtain⟨h1,h2⟩:=hm1 e;exact⟨h1,by rw[hs,ht,h2]⟩) QG
 rw[aP (2*((a:Int)+1)) (by omega) (by omega)]
 refine⟨fun e=>⟨fun e2=> ?_,fun e2=>Yu fun e3=>absurd (e2.symm.trans e3) (by decide)⟩,fun e=>Yu fun e2 h53 f53=> ?_⟩
 ·simp only[aT]at e
  have hmf:met=false:=by simpa using e2
  have G13:cG (fun k=>S k/\k<h.size) uh g aI:=G0.fr f13 fun k hk aQ=>by omega
  refine mM G13 Q13 Ws rfl _ fun y TY Y14 f14=>⟨y,_,_,rfl,QG.aB f14,fun b10 Ov Zp f16 nD=> ?_⟩
  have f16:=f16.aM
  have z14:=f14.size
  have ZF:=f16.size
  have Xt:=(f13.trans f14.aB).trans f16.aB
  have G16:cG (fun k=>S k/\k<h.size) Ov g aI:=G0.fr Xt fun k hk aQ=>by omega
  refine mM G16 ((P13.no f14).no f16) Wt rfl _ fun z KD Z17 f17=>⟨z,_,_,rfl,nD.aB f17,fun e3=> ?_,fun e3=>⟨fun e4=> ?_,fun e4 b11 Fm adq f19 uk=> ?_⟩⟩
  ·have hz:sq aI (rs,x4) (a+1)=none:=by
    rw[sq,hs]
    cases h5:dK aI s with
    |none=>exact h5
    |some s'=>rw[h5]at e3;cases e3
   unfold GG
   exact fun b11 h28 adq f28 K7=>bad (fun m k R=>absurd hz (R.all _)) (Xt.trans f17.aB) f28
  ·have hz:sq aI (rs,x4) (2*a+1)=none:=by
    rw[sq,ht]
    cases h5:dK aI t with
    |none=>exact h5
    |some s'=>rw[h5]at e4;cases e4
   unfold GG
   exact fun b11 h28 adq f28 K7=>bad (fun m k R=>absurd hz (R.all _)) (Xt.trans f17.aB) f28
  have f19:=f19.aM
  have z17:=f17.size
  have z19:=f19.size
  have adr:=(Xt.trans f17.aB).trans f19.aB
  obtain⟨s',J9⟩:∃s',dK aI s=some s':=by
   cases h5:dK aI s with
   |none=>rw[h5]at e3;cases e3
   |some s'=>exact⟨s',rfl⟩
  obtain⟨t',ht'⟩:∃t',dK aI t=some t':=by
   cases h5:dK aI t with
   |none=>rw[h5]at e4;cases e4
   |some s'=>exact⟨s',rfl⟩
  have W':=Wt.step ht'
  rw[J9]at Y14 uk⊢
  rw[ht']at Z17 uk⊢
  simp only[Option.getD_some]at Y14 Z17 uk⊢
  have G19:cG (fun k=>S k/\k<h.size) Fm g aI:=G0.fr adr fun k hk aQ=>by omega
  refine mM G19 (Z17.no f19) W' rfl _ fun z2 TZ Z21 f21=>⟨z2,_,_,rfl,uk.aB f21,fun e5 b12 UM ags f24 afs=> ?_,fun e5 b12 uL ags f26 td=> ?_⟩
  ·have hz:sq aI (rs,x4) (2*a+2)=none:=by
    rw[sq,sq,ht]
    show(dK aI t).bind _=none
    rw[ht']
    cases h5:dK aI t' with
    |none=>exact h5
    |some s'=>rw[h5]at e5;cases e5
   exact bad (fun m k R=>absurd hz (R.all _)) (adr.trans f21.aB) f24
  obtain⟨t2,ht2⟩:∃t2,dK aI t'=some t2:=by
   cases h5:dK aI t' with
   |none=>rw[h5]at e5;cases e5
   |some s'=>exact⟨s',rfl⟩
  rw[ht2]at Z21 td⊢
  simp only[Option.getD_some]at Z21 td⊢
  have z21:=f21.size
  have z26:=f26.size
  have off:∀k,((S' k/\k<h.size)\/iH.size<=k)->¬In [b5,b4] k:=fun k hk aQ=>by
   simp only[In,aO,aR,aN]at aQ
   rcases hk with hk|hk<;>rcases aQ with rfl|rfl<;>omega
  have Y26:bC (fun k=>(S' k/\k<h.size)\/iH.size<=k) uL y s'.1:=(((((Y14.no f16).no f17).no f19).no f21).mono fun k hk=>by rcases hk with hk|hk;exact hk;exact .inr (by omega)).fr f26 off
  have Z26:bC (fun k=>(S' k/\k<h.size)\/iH.size<=k) uL z2 t2.1:=(Z21.mono fun k hk=>by rcases hk with(hk|hk)|hk;exact hk;exact .inr (by omega);exact .inr (by omega)).fr f26 off
  have Kw:=(adr.trans f21.aB).trans (f26.mono fun k _ hk=>by simp only[In,aO,aR,aN]at hk;omega)
  refine AE Y26 Z26 s'.2 t2.2 _ fun TT f27=>⟨_,rfl,td.aB f27,?_⟩
  have z27:=f27.size
  have Zu:sq aI (rs,x4) (a+1)=some s':=by rw[sq,hs];exact J9
  have ht1:sq aI (rs,x4) (2*(a+1))=some t2:=by
   rw[show 2*(a+1)=2*a+1+1 by omega,sq,sq,ht]
   show((dK aI t).bind _)=_
   rw[ht'];exact ht2
  rw[aP _ (by omega) (by omega)]
  refine⟨n-1,by omega,a+1,s',t2,by omega,by omega,Zu,ht1,rfl,rfl,Y26.no f27,Z26.no f27,fun e6=> ?_,fun e6 j h1 h2=> ?_,Kw.trans f27.aB,by omega⟩
  ·simp only[aT]at e6
   exact⟨by omega,Prod.ext e6.2 e6.1⟩
  ·simp only[aY]at e6
   by_cases hj:j<=a
   ·exact hm0 hmf j h1 hj
   ·have:j=a+1:=by omega
    subst this
    rw[Zu,ht1]
    exact fun hh=>by
     have:=bI hh
     rw[this]at e6
     exact e6 ⟨rfl,rfl⟩
 ·simp only[aY]at e
  have hmf:met=false:=by simpa using e2
  have ha:a=2000:=by omega
  refine bad (fun m k R=> ?_) f13 f53
  obtain⟨j,j1,j2,_,j4⟩:=R.meets
  by_cases hc:k<=2000
  ·exact absurd j4 (hm0 hmf j j1 (by omega))
  ·omega
def fD(g:aE)(rs:aH)(p:Int):Int×Int×Bool:=if fx g rs p then IP g (rs,p)else(0,0,false)
theorem yS{S S':aK}{h:Heap}{g w:Sl}{aI:aE}{rs:aH}(G:cG S h g aI)(H:bC S' h w rs)(p:Int)(K:aL)(HK:∀h',Fr No h h'->K (.tuple #[VI (fD aI rs p).1,VI (fD aI rs p).2.1,VB (fD aI rs p).2.2]) h'):aG aC 136 #[.agg #[g.v],.agg #[w.v,VI p]] h K:=by
 unfold fD at HK
 refine ai7 g w p h K fun b1 b2 h2 fK eN f2 cC=> ?_
 have f2:=f2.aM
 refine fW (G.no f2) (H.no f2) p _ fun h3 f3=>⟨_,rfl,cC.aB f3,fun e=> ?_,fun e=> ?_⟩
 ·simp only[gV]at e
  rw[e]at HK
  exact HK h3 (f2.trans f3)
 simp only[uv]at e
 rw[aJ e]at HK
 have W:=dN e
 have jm:=f2.trans f3
 refine LB (G.no jm) (H.no jm) W _ (fun hN h4 f4=>⟨_,w,p,_,rfl,(cC.aB f3).aB f4,fun _ b3 h6 jv f6 jx=> ?_,fun e1=>by simp at e1⟩) (fun m k s R hk hs t h4 T4 f4=>⟨_,t,s.2,_,rfl,(cC.aB f3).aB f4,fun e1=> ?_,fun _ b3 h6 jv f6 jx=> ?_⟩)
 ·have:=HK h6 ((jm.trans f4).trans f6.aM)
  rw[MZ hN]at this
  exact this
 ·have:=R.lt
  simp only[aT]at e1
  omega
 ·have:=HK h6 ((jm.trans f4).trans f6.aM)
  rw[IQ R hk]at this
  exact this
theorem LC{S S':aK}{h:Heap}{g w:Sl}{aI:aE}{rs:aH}(G:cG S h g aI)(H:bC S' h w rs)(p:Int)(K:aL)(HK:∀h',Fr No h h'->K (.tuple #[VI (fD aI rs p).1,VI (fD aI rs p).2.1,VB (fD aI rs p).2.2]) h'):aG aC 157 #[.agg #[g.v],.agg #[w.v,VI p]] h K:=by
 unfold fD at HK
 refine v157 g w p h K fun b1 b2 h2 fK eN f2 cC=> ?_
 have f2:=f2.aM
 refine q6 (G.no f2) (H.no f2) p _ fun h3 f3=>⟨_,rfl,cC.aB f3,fun e=> ?_,fun e=> ?_⟩
 ·simp only[gV]at e
  rw[e]at HK
  exact HK h3 (f2.trans f3)
 simp only[uv]at e
 rw[aJ e]at HK
 have jm:=f2.trans f3
 exact Ro (G.no jm) (H.no jm) (dN e) _ fun h4 f4=>⟨_,_,_,rfl,(cC.aB f3).aB f4,HK h4 (jm.trans f4)⟩
theorem nq{g:aE}{rs:aH}(p:Int)(m:Nat):∀k,eA g rs p (m+k)=eA g rs (eA g rs p m) k
 |0=>rfl
 |k+1=>by rw[<-kS,eA,nq p m k];rfl
theorem Pc{g:aE}{rs:aH}{p:Int}{i d i' d':Nat}(L:yt g rs p i d)(L':yt g rs p i' d'):i=i'/\d=d':=by
 have a1:=L.d1
 have a2:=L'.d1
 have e:i+d=i'+d':=by
  rcases sL (i+d) (i'+d')with h|h|h
  ·exact absurd L.eq (L'.inj i (i+d) (by omega) h)
  ·exact h
  ·exact absurd L'.eq (L.inj i' (i'+d') (by omega) h)
 have e2:i=i':=by
  rcases sL i i' with h|h|h
  ·exact absurd (L.eq.trans (by rw[e];exact L'.eq.symm)) (L.inj i i' h (by omega))
  ·exact h
  ·exact absurd (L'.eq.trans (by rw[<-e];exact L.eq.symm)) (L.inj i' i h (by omega))
 exact⟨e2,by omega⟩
noncomputable def Uf(g:aE)(rs:aH)(p:Int):aH×Bool:=
 @dite _ (0<=eA g rs p g.length/\∃t:Nat×Nat,yt g rs p t.1 t.2) (Classical.propDecidable _) (fun h=>((List.range (Classical.choose h.2).2).map fun r=>eA g rs p ((Classical.choose h.2).1+r),true)) fun _=>([],false)
theorem Co{g:aE}{rs:aH}{p:Int}(h:eA g rs p g.length<0):Uf g rs p=([],false):=by
 unfold Uf
 rw[dif_neg (fun h2=>by have:=h2.1;omega)]
theorem Cq{g:aE}{rs:aH}{p:Int}(h:0<=eA g rs p g.length){i d:Nat}(L:yt g rs p i d):Uf g rs p=((List.range d).map fun r=>eA g rs p (i+r),true):=by
 have h2:0<=eA g rs p g.length/\∃t:Nat×Nat,yt g rs p t.1 t.2:=⟨h,(i,d),L⟩
 unfold Uf
 rw[dif_pos h2]
 obtain⟨e1,e2⟩:=Pc L (zd h2.2)
 rw[<-e1,<-e2]
noncomputable def uD(g:aE)(rs:aH)(p:Int):aH×Bool:=if fx g rs p then Uf g rs p else([],false)
theorem LD{S S':aK}{h:Heap}{g w:Sl}{aI:aE}{rs:aH}{a:Int}(G:cG S h g aI)(H:bC S' h w rs)(W:iT aI (rs,a)){p:Int}(h0:0<=p)(h1:p<(aI.length:Int)){D:Nat}(D1:1<=D)(hD:eA aI rs p D=p)(hDm:D<=aI.length)(hp:0<=eA aI rs p aI.length)(K:aL)
 (HS:∀d t h',1<=d->eA aI rs p d=p->(∀j,1<=j->j<d->eA aI rs p j≠p)->bC (fun _=>True) h' t ((List.range d).map fun r=>eA aI rs p r)->Fr No h h'->K t.v h'):aG aC 231 #[.agg #[g.v],w.v,VI p] h K:=by
 refine ak5 g w p h K fun b1 h2 fK f2 cC=> ?_
 have f2:=f2.aM
 have l1:b1<h2.size:=cC.head.lt
 have z2:=f2.size
 have U8:=bA W.cD
 refine bE gD (fun k=>h2.size<=k) (fun _ h=>h) 1 (by omega) [VI p] rfl rfl fun t h4 n4 c4 o4 f4 m4 _=>⟨t,rfl,cC.aB f4,?_⟩
 have z4:=f4.size
 have jk:=f2.aA f4
 refine oQ (G.no jk) (H.no jk) W h0 h1 _ fun h5 f5=>⟨_,rfl,(cC.aB f4).aB f5,?_⟩
 have z5:=f5.size
 have ta:=jk.aA f5
 refine⟨fun n x q h'=>∃m,1<=m/\m<=D/\n=D-m/\q=eA aI rs p m/\(∀j,1<=j->j<m->eA aI rs p j≠p)/\cH h' (fun k=>h2.size<=k) x ((List.range m).map fun r=>eA aI rs p r)/\Fr No h h'/\h2.size<=h'.size,⟨D-1,1,aW _,D1,rfl,rfl,fun j a b=>by omega,by show Ow _ _ _ _ _ _;simpa[eA]using Ow.no o4 f5,ta,by omega⟩,?_⟩
 rintro n x q h6 ⟨m,m1,m2,rfl,rfl,mj,o6,f6,z6⟩ jx
 refine⟨fun e=> ?_,fun e=> ?_⟩
 ·have e:=bU e
  simp only[aY]at e
  have lG:m≠D:=fun h=>e (by rw[h];exact hD)
  refine bE gD (fun k=>h6.size<=k) (fun _ h=>h) 1 (by omega) [VI (eA aI rs p m)] rfl rfl fun u h7 n7 c7 o7 f7 m7 _=>⟨u,rfl,jx.aB f7,?_⟩
  have z7:=f7.size
  have r7:bC u.own h7 u [eA aI rs p m]:=o7.rd
  have hxn:x.n=m:=by have:=bC.len (Ow.fM o6:bC _ h6 x _);simpa using this
  have off:∀p,p∈[(b1,[g.v])]->¬(h2.size<=p.1):=fun p hp=>by
   simp only[aO,aR,aN]at hp
   subst hp
   show¬(h2.size<=b1)
   omega
  refine cP gD (Ow.no o6 f7) (fun k hk=>by omega) r7 (fU _) (by have:=r7.len;simp at this;omega) fun y h8 n8 o8 f8 d8=>⟨y,rfl,(jx.aB f7).fr f8 (fun p hp hk=>off p hp (o6.aS hk).1),?_⟩
  have z8:=f8.size
  have Fh:Fr No h h8:=(f6.aA f7).fresh f8 fun k hk=>by have:=(o6.aS hk).1;omega
  refine oQ (G.no Fh) (H.no Fh) W (AJ W h0 h1 hp _) (mY W h0 h1 _).2 _ fun h9 f9=>⟨_,rfl,((jx.aB f7).fr f8 (fun p hp hk=>off p hp (o6.aS hk).1)).aB f9,?_⟩
  have z9:=f9.size
  rw[<-cV]at o8
  refine⟨D-(m+1),by omega,m+1,by omega,by omega,rfl,rfl,fun j a b=> ?_,?_,Fh.aA f9,by omega⟩
  ·by_cases hj:j<m
   ·exact mj j a hj
   ·obtain rfl:j=m:=by omega
    exact e
  ·rw[pS,cV,bK,iY]
   exact Ow.no o8 f9
 ·have e:=bQ e
  simp only[aT]at e
  exact HS m x h6 m1 e mj ((Ow.fM o6:bC _ h6 x _).mono fun _ _=>trivial) f6
theorem CY{S S':aK}{h:Heap}{g w:Sl}{aI:aE}{rs:aH}{p:Int}(G:cG S h g aI)(H:bC S' h w rs)(W:iT aI (rs,p))(K:aL)(HK:∀t h',bC (fun _=>True) h' t (Uf aI rs p).1->Fr No h h'->K (.tuple #[t.v,VB (Uf aI rs p).2]) h'):aG aC 184 #[.agg #[g.v],.agg #[w.v,VI p]] h K:=by
 have h0:0<=p:=W.lo
 have h1:p<(aI.length:Int):=W.hi
 refine aj4 g w p h K fun b1 b2 h2 fK eN f2 cC=> ?_
 have f2:=f2.aM
 refine Od (G.no f2) (H.no f2) W h0 h1 _ (fun hn h3 f3=>⟨aD,false,rfl,cC.aB f3,fun _=> ?_,fun e=>by simp at e⟩) fun hn t xs h3 hx r3 f3=>⟨t,true,rfl,cC.aB f3,fun e=>by simp at e,fun _=> ?_⟩
 ·rw[Co hn]at HK
  exact HK aD h3 ((Ow.nil _ _ _ _:cH h3 (fun _=>True) aD []).fM) (f2.aA f3)
 refine⟨fun n q h'=>∃m,m<=aI.length/\n=aI.length-m/\q=eA aI rs p m/\(∀j,j<m->eA aI rs p j∉xs)/\Fr No h h'/\bC (fun _=>True) h' t xs,⟨aI.length,0,by omega,rfl,rfl,fun j hj=>by omega,f2.aA f3,r3⟩,?_⟩
 rintro n q h4 ⟨m,hm,rfl,rfl,mj,f4,r4⟩ eM
 refine Ve r4 _ _ ⟨_,rfl,eM,fun e=> ?_,fun e=> ?_⟩
 ·have e:=bU e
  simp only[aY]at e
  have J2:m<aI.length:=by
   by_cases hx2:m<aI.length
   ·exact hx2
   ·obtain rfl:m=aI.length:=by omega
    exact absurd ((hx _).2 ⟨_,aW _,rfl⟩) e
  refine oQ (G.no f4) (H.no f4) W (AJ W h0 h1 hn _) (mY W h0 h1 _).2 _ fun h6 f6=>⟨_,rfl,eM.aB f6,aI.length-(m+1),by omega,m+1,by omega,rfl,rfl,fun j hj=> ?_,f4.aA f6,r4.no f6⟩
  by_cases Ky:j<m
  ·exact mj j Ky
  ·obtain rfl:j=m:=by omega
   exact e
 ·have e:=bQ e
  simp only[aT]at e
  obtain⟨k0,hk0,ek0⟩:=(hx _).1 e
  obtain⟨i9,d9,c1,c2,c3⟩:=vm W h0 h1 hn
  have AK:eA aI rs p (m+d9)=eA aI rs p m:=by
   have e1:=oO ek0 d9
   have e2:=vl c3 (k0-i9) 1
   rw[show i9+(k0-i9)=k0 by omega,gL]at e2
   rw[<-e1,e2,ek0]
  refine LD (G.no f4) (H.no f4) W (AJ W h0 h1 hn m) (mY W h0 h1 m).2 (D:=d9) c1 (by rw[<-nq];exact AK) (by omega) (by rw[<-nq];exact AJ W h0 h1 hn _) _ fun d t2 h7 d1 dd dj r7 f7=>⟨t2,rfl,eM.aB f7,?_⟩
  have L:yt aI rs p m d:=⟨d1,by rw[nq];exact dd.symm,fun a b ab bm ee=>by
   by_cases ha:a<m
   ·refine mj a ha ((hx _).2 ⟨a+(b-a)*aI.length,?_,?_⟩)
    ·have:1*aI.length<=(b-a)*aI.length:=oh _ (by omega)
     omega
    ·have:=vl (g:=aI) (rs:=rs) (p:=p) (i:=a) (d:=b-a) (by rw[show a+(b-a)=b by omega];exact ee) 0 aI.length
     simpa using this
   ·have e1:=oO ee (m+d-b)
    rw[show b+(m+d-b)=m+d by omega,nq p m d,dd]at e1
    refine dj (a+(m+d-b)-m) (by omega) (by omega) ?_
    rw[<-nq,show m+(a+(m+d-b)-m)=a+(m+d-b) by omega]
    exact e1⟩
  rw[Cq hn L]at HK
  refine HK t2 h7 ?_ (f4.aA f7)
  simp only[nq]
  exact r7
theorem xK{S S':aK}{h:Heap}{g w:Sl}{aI:aE}{rs:aH}(G:cG S h g aI)(H:bC S' h w rs)(p:Int)(K:aL)(HK:∀t h',bC (fun _=>True) h' t (uD aI rs p).1->Fr No h h'->K (.tuple #[t.v,VB (uD aI rs p).2]) h'):aG aC 159 #[.agg #[g.v],.agg #[w.v,VI p]] h K:=by
 refine v159 g w p h K fun b1 b2 h2 fK eN f2 cC=> ?_
 have f2:=f2.aM
 refine q6 (G.no f2) (H.no f2) p _ fun h3 f3=>⟨_,rfl,cC.aB f3,fun e=> ?_,fun e=> ?_⟩
 ·have er:uD aI rs p=([],false):=by unfold uD;rw[aF (by rw[bU e];simp)]
  rw[er]at HK
  exact HK aD h3 ((Ow.nil _ _ _ _:cH h3 (fun _=>True) aD []).fM) (f2.aA f3)
 have e:=bQ e
 have W:=dN e
 have er:uD aI rs p=Uf aI rs p:=by unfold uD;rw[aJ e]
 rw[er]at HK
 have jm:=f2.aA f3
 refine Fk (G.no jm) (H.no jm) W W.lo W.hi _ (fun hn h4 f4=>⟨aD,false,rfl,(cC.aB f3).aB f4,?_⟩) fun hn i d t h4 L _ r4 f4=>⟨t,true,rfl,(cC.aB f3).aB f4,?_⟩
 ·rw[Co hn]at HK
  exact HK aD h4 ((Ow.nil _ _ _ _:cH h4 (fun _=>True) aD []).fM) (jm.aA f4)
 ·rw[Cq hn L]at HK
  exact HK t h4 r4 (jm.aA f4)
theorem xL{S S':aK}{h:Heap}{g w:Sl}{aI:aE}{rs:aH}(G:cG S h g aI)(H:bC S' h w rs)(p:Int)(K:aL)(HK:∀t h',bC (fun _=>True) h' t (uD aI rs p).1->Fr No h h'->K (.tuple #[t.v,VB (uD aI rs p).2]) h'):aG aC 138 #[.agg #[g.v],.agg #[w.v,VI p]] h K:=by
 refine v138 g w p h K fun b1 b2 h2 fK eN f2 cC=> ?_
 have f2:=f2.aM
 refine fW (G.no f2) (H.no f2) p _ fun h3 f3=>⟨_,rfl,cC.aB f3,fun e=> ?_,fun e=> ?_⟩
 ·have er:uD aI rs p=([],false):=by unfold uD;rw[aF (by rw[bU e];simp)]
  rw[er]at HK
  exact HK aD h3 ((Ow.nil _ _ _ _:cH h3 (fun _=>True) aD []).fM) (f2.aA f3)
 have e:=bQ e
 have W:=dN e
 have er:uD aI rs p=Uf aI rs p:=by unfold uD;rw[aJ e]
 rw[er]at HK
 have jm:=f2.aA f3
 exact CY (G.no jm) (H.no jm) W _ fun t h4 r4 f4=>⟨t,_,rfl,(cC.aB f3).aB f4,HK t h4 r4 (jm.aA f4)⟩
def nU(g:aE)(s:Int):aH:=(List.range g.length).map fun(i:Nat)=>if(i:Int)=s then 0 else((g.getD i []).length:Int)-1
def rW(g:aE)(s:Int):aH×Bool:=if ry g s=true then(nU g s,true)else([],false)
theorem pi(g:aE)(s:Int):(nU g s).length=g.length:=by simp[nU]
theorem xM{g:aE}{s:Int}{i:Nat}(h:i<g.length):(nU g s)[i]'(by rw[pi];exact h)=if(i:Int)=s then 0 else(g[i].length:Int)-1:=by
 unfold nU
 rw[cK,kR,bH h]
theorem Jr{g:aE}{s:Int}(h:ry g s=true):∀x,x∈nU g s->0<=x/\x<=5:=fun x hx=>by
 obtain⟨i,hi,rfl⟩:=wD hx
 have jM:i<g.length:=by rw[<-pi g s];exact hi
 unfold ry at h
 rw[bD,bD,bT]at h
 rw[xM jM]
 split
 ·exact⟨by omega,by omega⟩
 ·rename_i fL
  have:=Kz h.1.2.1 h.2 jM fL (by omega)
  have:=(bL h.1.1 (bJ jM)).1
  omega
theorem LF{S:aK}{h:Heap}{g:Sl}{aI:aE}(G:cG S h g aI)(hg:aZ aI=true)(s:Int)(K:aL)(HK:∀t h',cH h' (Iv h.size h'.size) t (nU aI s)->Fr No h h'->K t.v h'):aG aC 215 #[.agg #[g.v],VI s] h K:=by
 have gl:=bA hg
 have gn:=G.len
 refine akK g s h K fun b1 h1 fK f1 cY=> ?_
 have f1:=f1.aM
 have z1:=f1.size
 have fl:=pi aI s
 have l1:b1<h1.size:=cY.head.lt
 refine bE gD (fun k=>h1.size<=k) (fun _ h=>h) 0 (by omega) [] rfl rfl fun o h2 n2 c2 o2 f2 m2 _=>⟨o,rfl,cY.aB f2,?_⟩
 refine⟨fun n x i h'=>0<=i/\i+n=(aI.length:Int)/\cH h' (fun k=>h1.size<=k) x ((nU aI s).take i.toNat)/\Fr (fun k=>h1.size<=k) h1 h',⟨aI.length,by omega,by omega,by show Ow _ _ _ _ _ _;simpa using o2,f2.aB⟩,?_⟩
 rintro n x i h3 ⟨i0,i1,o3,f3⟩ dI
 have F3:Fr No h h3:=f1.fresh f3 fun k hk=>by omega
 have z3:=f3.size
 have G3:=G.no F3
 refine⟨fun e=> ?_,fun e=> ?_⟩
 ·have hi:=G3.lt e
  have wF:i.toNat<aI.length:=by omega
  obtain⟨si,c1,r1⟩:=G3.get i0 hi
  have rn:=r1.len
  have hk:=(bL hg (bJ wF)).1
  have ex:=xM (s:=s) wF
  have et:=fu (nU aI s) i0 (by omega)
  have ei:((i.toNat:Nat):Int)=i:=by omega
  refine⟨G3.bM i0 hi,si,c1,fun e2=> ?_,fun e2=> ?_⟩
  ·simp only[aT]at e2
   refine mX (F:=fun k=>h1.size<=k) o3 (fun k hk=>by omega) dI (fun p hp=>by simp at hp;subst hp;show¬h1.size<=b1;omega) (by rw[fI];omega) _ fun t h4 o4 f4 eM=> ?_
   rw[aP _ (by omega) (by omega)]
   refine⟨n-1,by omega,by omega,by omega,?_,f3.trans f4⟩
   rw[et,ex,ei,aJ e2]
   exact o4
  ·simp only[aY]at e2
   rw[rn,aP _ (by omega) (by omega),aP _ (by omega) (by omega)]
   refine mX (F:=fun k=>h1.size<=k) o3 (fun k hk=>by omega) dI (fun p hp=>by simp at hp;subst hp;show¬h1.size<=b1;omega) (by rw[fI];omega) _ fun t h4 o4 f4 eM=> ?_
   refine⟨n-1,by omega,by omega,by omega,?_,f3.trans f4⟩
   rw[et,ex,ei,aF e2]
   exact o4
 ·simp only[aY]at e
  rw[cT (by omega)]at o3
  exact HK x h3 (o3.mono fun k FD hk=>⟨by omega,(Ow.aS o3 FD).2⟩) F3
theorem SU{S:aK}{h:Heap}{g:Sl}{aI:aE}(G:cG S h g aI)(hg:aZ aI=true)(s:Int)(K:aL)(HK:∀t h',cH h' (Iv h.size h'.size) t (nU aI s)->Fr No h h'->K t.v h'):aG aC 188 #[.agg #[g.v],VI s] h K:=by
 have gl:=bA hg
 have gn:=G.len
 refine akc g s h K fun b1 h1 fK f1 cY=> ?_
 have f1:=f1.aM
 have z1:=f1.size
 have fl:=pi aI s
 have l1:b1<h1.size:=cY.head.lt
 refine⟨fun n x i h'=>0<=i/\i+n=(aI.length:Int)/\cH h' (fun k=>h1.size<=k) x ((nU aI s).take i.toNat)/\Fr (fun k=>h1.size<=k) h1 h',⟨aI.length,by omega,by omega,Ow.nil _ _ _ _,Fr.refl _ _⟩,?_⟩
 rintro n x i h3 ⟨i0,i1,o3,f3⟩ dI
 have F3:Fr No h h3:=f1.fresh f3 fun k hk=>by omega
 have z3:=f3.size
 have G3:=G.no F3
 refine⟨fun e=> ?_,fun e=> ?_⟩
 ·have hi:=G3.lt e
  have wF:i.toNat<aI.length:=by omega
  obtain⟨si,c1,r1⟩:=G3.get i0 hi
  have rn:=r1.len
  have hk:=(bL hg (bJ wF)).1
  have ex:=xM (s:=s) wF
  have et:=fu (nU aI s) i0 (by omega)
  have ei:((i.toNat:Nat):Int)=i:=by omega
  refine⟨G3.bM i0 hi,si,c1,fun y h'=>y=(if i=s then 0 else(aI[i.toNat].length:Int)-1)/\h'=h3,⟨fun e2=> ?_,fun e2=> ?_⟩,?_⟩
  ·simp only[aT]at e2
   exact⟨by rw[aJ e2],rfl⟩
  ·simp only[aY]at e2
   rw[rn,aP _ (by omega) (by omega),aF e2]
   exact⟨rfl,rfl⟩
  rintro y h4 ⟨rfl,rfl⟩ eM
  refine mX (F:=fun k=>h1.size<=k) o3 (fun k hk=>by omega) dI (fun p hp=>by simp at hp;subst hp;show¬h1.size<=b1;omega) (by rw[fI];omega) _ fun t h5 o5 f5 ie=> ?_
  rw[aP _ (by omega) (by omega)]
  refine⟨n-1,by omega,by omega,by omega,?_,f3.trans f5⟩
  rw[et,ex,ei]
  exact o5
 ·simp only[aY]at e
  rw[cT (by omega)]at o3
  exact HK x h3 (o3.mono fun k FD hk=>⟨by omega,(Ow.aS o3 FD).2⟩) F3
theorem LG{S:aK}{h:Heap}{g:Sl}{aI:aE}(G:cG S h g aI)(s:Int)(K:aL)(HK:∀t h',cH h' (Iv h.size h'.size) t (rW aI s).1->Fr No h h'->K (.tuple #[t.v,VB (rW aI s).2]) h'):aG aC 166 #[.agg #[g.v],VI s] h K:=by
 refine ajE g s h K fun b1 h1 fK f1 cY=> ?_
 have f1:=f1.aM
 refine Om (G.no f1) s _ fun h2 f2=>⟨_,rfl,cY.aB f2,fun e=> ?_,fun e=> ?_⟩
 ·unfold rW at HK
  rw[aF (by simpa using e)]at HK
  exact HK aD h2 (Ow.nil _ _ _ _) (f1.aA f2)
 ·have e':ry aI s=true:=by simpa using e
  unfold rW at HK
  rw[aJ e']at HK
  have z:=(f1.aA f2).size
  refine LF ((G.no f1).no f2) (by unfold ry at e';rw[bD,bD]at e';exact e'.1.1) s _ fun t h3 o3 f3=>⟨t,rfl,(cY.aB f2).aB f3,?_⟩
  exact HK t h3 (o3.P0 z (aW _)) ((f1.aA f2).aA f3)
theorem yT{S:aK}{h:Heap}{g:Sl}{aI:aE}(G:cG S h g aI)(s:Int)(K:aL)(HK:∀t h',cH h' (Iv h.size h'.size) t (rW aI s).1->Fr No h h'->K (.tuple #[t.v,VB (rW aI s).2]) h'):aG aC 140 #[.agg #[g.v],VI s] h K:=by
 refine ajd g s h K fun b1 h1 fK f1 cY=> ?_
 have f1:=f1.aM
 refine QZ (G.no f1) s _ fun h2 f2=>⟨_,rfl,cY.aB f2,fun e=> ?_,fun e=> ?_⟩
 ·unfold rW at HK
  rw[aF (by simpa using e)]at HK
  exact HK aD h2 (Ow.nil _ _ _ _) (f1.aA f2)
 ·have e':ry aI s=true:=by simpa using e
  unfold rW at HK
  rw[aJ e']at HK
  have z:=(f1.aA f2).size
  refine SU ((G.no f1).no f2) (by unfold ry at e';rw[bD,bD]at e';exact e'.1.1) s _ fun t h3 o3 f3=>⟨t,rfl,(cY.aB f2).aB f3,?_⟩
  exact HK t h3 (o3.P0 z (aW _)) ((f1.aA f2).aA f3)
def kI(b:Nat):Nat->Nat
 |0=>1
 |n+1=>kI b n*b
def bX(b:Nat):Nat->Nat
 |0=>1
 |n+1=>bX b n+kI b (n+1)
theorem vK(b:Nat):∀n,bX b (n+1)=b*bX b n+1
 |0=>by simp[bX,kI,Nat.add_comm]
 |n+1=>by
  have e:=vK b n
  show bX b (n+1)+kI b (n+1)*b=b*(bX b n+kI b (n+1))+1
  rw[e,Nat.mul_add,p7 _ b]
  omega
theorem iL:∀b,b<4->∀d,d<7->kI b d<=bX b d/\bX b d<=1093:=by decide
def iB(b:Nat)(x:Nat):Nat:=if x=0\/b=0 then 0 else iB b ((x-1)/b)+1
termination_by x
decreasing_by
 rename_i h
 have:=Nat.div_le_self (x-1) b
 omega
theorem pj(b:Nat):iB b 0=0:=by rw[iB];simp
theorem LH{b x:Nat}(hb:b≠0)(hx:x≠0):iB b x=iB b ((x-1)/b)+1:=by
 rw[iB,aF (by omega)]
theorem SV{b x r:Nat}(h1:1<=r)(h2:r<=b):iB b (x*b+r)=iB b x+1:=by
 rw[LH (by omega) (by omega)]
 congr 2
 rw[show x*b+r-1=(r-1)+x*b by omega,Nat.add_mul_div_right _ _ (by omega),Nat.div_eq_of_lt (by omega),iO]
theorem SW{b:Nat}(hb:b≠0):∀{d x:Nat},x<bX b d->iB b x<=d
 |0,x,h=>by
  have:x=0:=by rw[bX]at h;omega
  subst this
  rw[pj];exact aW _
 |d+1,x,h=>by
  by_cases e:x=0
  ·subst e;rw[pj];exact Nat.zero_le _
  ·rw[LH hb e]
   have:(x-1)/b<bX b d:=by
    rw[Nat.div_lt_iff_lt_mul (by omega),p7]
    rw[vK]at h
    omega
   have:=SW hb this
   omega
def Pd(f:Nat->Nat)(b:Int):Nat->aH->Nat
 |_,[]=>0
 |i,r::rs=>f i*(b-r).toNat+Pd f b (i+1) rs
theorem Js(f:Nat->Nat)(b v:Int):∀(rs:aH)(i x:Nat)(h:x<rs.length),Pd f b i (rs.set x v)+f (i+x)*(b-rs[x]).toNat=Pd f b i rs+f (i+x)*(b-v).toNat
 |r::rs,i,0,h=>by simp only[List.set_cons_zero,Pd,List.getElem_cons_zero,Nat.add_zero];omega
 |r::rs,i,x+1,h=>by
  have ih:=Js f b v rs (i+1) x (by simpa using h)
  rw[show i+1+x=i+(x+1) by omega]at ih
  simp only[List.set_cons_succ,Pd,List.getElem_cons_succ]
  omega
def wE(b d:Nat)(a:Int):Nat:=if a<0 then 0 else(b+2)^(d+2)-(b+2)^(d+1-iB b a.toNat)
def Jt(b d:Nat)(rs:aH)(a:Int):Nat:=Pd (fun x=>(b+2)^(d+1-iB b x)) b 0 rs+wE b d a
def yU(b:Nat)(a r:Int):Int:=if 0<r then a*b+r else if a=0 then-1 else(a-1)/b
def SX(b first:Nat):Nat->aH->Int->aH×Int
 |0,rs,a=>(rs,a)
 |n+1,rs,a=>if 0<=a/\a<first then
  SX b first n (rs.set a.toNat ((rs.getD a.toNat 0+1)%(b+1))) (yU b a ((rs.getD a.toNat 0+1)%(b+1)))
  else(rs,a)
theorem Nt(b first:Nat)(n:Nat)(rs:aH)(a:Int)(h:¬(0<=a/\a<first)):SX b first n rs a=(rs,a):=by
 cases n with
 |zero=>rfl
 |succ n=>rw[SX,aF h]
theorem SY{b d:Nat}(hb:0<b){rs:aH}(hl:rs.length=bX b (d-1))(hd:0<d)(hr:∀r,r∈rs->0<=r/\r<=b){a:Int}(h0:0<=a)(h1:a<bX b (d-1)){r:Int}(e:r=(rs.getD a.toNat 0+1)%(b+1)):
 0<=r/\r<=b/\(∀x,x∈rs.set a.toNat r->0<=x/\x<=b)/\Jt b d (rs.set a.toNat r) (yU b a r)<Jt b d rs a/\iB b a.toNat<d/\
 (0<r->iB b (a*b+r).toNat=iB b a.toNat+1/\0<a*b+r/\a*b+r<=bX b d)/\(¬0<r->a≠0->iB b a.toNat=iB b ((a-1)/b).toNat+1/\0<=(a-1)/b/\(a-1)/b<a):=by
 have ha:a.toNat<rs.length:=by omega
 have eg:rs.getD a.toNat 0=rs[a.toNat]:=by rw[eG,dY ha,Option.getD_some]
 have hq:=hr _ (bJ ha)
 rw[eg]at e
 have r0:0<=r:=by rw[e];exact Int.emod_nonneg _ (by omega)
 have r1:r<b+1:=by rw[e];exact Int.emod_lt_of_pos _ (by omega)
 have hm:∀x,x∈rs.set a.toNat r->0<=x/\x<=b:=fun x hx=>by
  rcases rm hx with hx|rfl
  ·exact hr x hx
  ·exact⟨r0,by omega⟩
 have lv:iB b a.toNat<d:=by
  have:=SW (b:=b) (by omega) (d:=d-1) (x:=a.toNat) (by omega)
  omega
 have ps:=Js (fun x=>(b+2)^(d+1-iB b x)) b r rs 0 a.toNat ha
 simp only[iO]at ps
 obtain⟨A,hA⟩:∃A:Nat,a=A:=⟨a.toNat,by omega⟩
 obtain⟨R,hR⟩:∃R:Nat,r=R:=⟨r.toNat,by omega⟩
 have Zy:0<r->iB b (a*b+r).toNat=iB b a.toNat+1/\0<a*b+r/\a*b+r<=bX b d:=fun h=>by
  have e1:a*b+r=((A*b+R:Nat):Int):=by rw[hA,hR];simp
  rw[e1]
  refine⟨?_,by omega,?_⟩
  ·rw[Int.toNat_natCast,SV (by omega) (by omega),hA,Int.toNat_natCast]
  ·have e2:bX b d=b*bX b (d-1)+1:=by rw[<-vK,Nat.sub_add_cancel hd]
   have:A+1<=bX b (d-1):=by omega
   have:=Nat.mul_le_mul_left b this
   have e3:b*(A+1)=A*b+b:=by rw[Nat.mul_add,gL,p7]
   omega
 have hup:¬0<r->a≠0->iB b a.toNat=iB b ((a-1)/b).toNat+1/\0<=(a-1)/b/\(a-1)/b<a:=fun h fL=>by
  have e1:(a-1)/b=(((A-1)/b:Nat):Int):=by rw[hA,show(A:Int)-1=((A-1:Nat):Int) by omega];exact(Int.natCast_ediv _ _).symm
  rw[e1,Int.toNat_natCast,show a.toNat=A by omega]
  have:=Nat.div_le_self (A-1) b
  have hl:=LH (b:=b) (x:=A) (by omega) (by omega)
  generalize (A-1)/b=q at*
  exact⟨hl,by omega,by omega⟩
 refine⟨r0,by omega,hm,?_,lv,Zy,hup⟩
 have W:∀k,k<=d+1->(b+2)^(k+1)=(b+2)^k*b+2*(b+2)^k:=fun k _=>by rw[Nat.pow_succ,Nat.mul_add,p7 2]
 have P:∀k,0<(b+2)^k:=fun k=>Nat.pow_pos (by omega)
 have M:∀k,k<=d+2->(b+2)^k<=(b+2)^(d+2):=fun k hk=>zE (by omega) hk
 unfold Jt
 by_cases h:0<r
 ·obtain⟨g1,g2,g3⟩:=Zy h
  have er:r=rs[a.toNat]+1:=by
   by_cases hh:rs[a.toNat]=b
   ·rw[hh,Int.emod_self]at e;omega
   ·rw[e,Int.emod_eq_of_lt (by omega) (by omega)]
  have e4:(b-rs[a.toNat]:Int).toNat=(b-r:Int).toNat+1:=by omega
  rw[e4,Nat.mul_add,gL]at ps
  have:wE b d (yU b a r)=(b+2)^(d+2)-(b+2)^(d+1-(iB b a.toNat+1)):=by
   unfold yU wE
   rw[aJ h,aF (by omega),g1]
  have w0:wE b d a=(b+2)^(d+2)-(b+2)^(d+1-iB b a.toNat):=by unfold wE;rw[aF (by omega)]
  have m1:=M (d+1-iB b a.toNat) (by omega)
  have m2:=M (d+1-(iB b a.toNat+1)) (by omega)
  have p1:=P (d+1-(iB b a.toNat+1))
  rw[this,w0]
  omega
 ·have er:rs[a.toNat]=b:=by
   by_cases hh:rs[a.toNat]=b
   ·exact hh
   ·rw[Int.emod_eq_of_lt (by omega) (by omega)]at e;omega
  have e4:(b-rs[a.toNat]:Int).toNat=0:=by omega
  have e5:(b-r:Int).toNat=b:=by omega
  rw[e4,e5,Nat.mul_zero]at ps
  have w0:wE b d a=(b+2)^(d+2)-(b+2)^(d+1-iB b a.toNat):=by unfold wE;rw[aF (by omega)]
  have q1:=P (d+1-iB b a.toNat)
  by_cases ha0:a=0
  ·have:wE b d (yU b a r)=0:=by unfold yU wE;rw[aF h,aJ ha0,aJ (by omega)]
   rw[this,w0]
   have l0:iB b a.toNat=0:=by rw[ha0];exact pj b
   have w1:(b+2)^(d+2)=_:=W (d+1) (by omega)
   rw[l0]at ps q1⊢
   rw[Nat.sub_zero]at ps q1⊢
   omega
  ·obtain⟨g1,g2,g3⟩:=hup h ha0
   have:wE b d (yU b a r)=(b+2)^(d+2)-(b+2)^(d+1-iB b a.toNat+1):=by
    unfold yU wE
    rw[aF h,aF ha0,aF (by omega),show d+1-iB b ((a-1)/b).toNat=d+1-iB b a.toNat+1 by omega]
   rw[this,w0]
   have w1:=W (d+1-iB b a.toNat) (by omega)
   have m1:=M (d+1-iB b a.toNat+1) (by omega)
   omega
def Yw(b d:Nat)(rs:aH):aH×Int:=SX b (bX b (d-1)) (Jt b d rs 0) rs 0
def qb(b d:Nat):Nat->aH->aH×aH
 |0,rs=>(rs,[])
 |n+1,rs=>((Yw b d (qb b d n rs).1).1,(qb b d n rs).2++[if(Yw b d (qb b d n rs).1).2= -1 then 0 else 1])
def tC(b d k n:Int):Bool:=decide (2<=b/\b<=3/\1<=d/\d<=6)&&decide ((bX b.toNat d.toNat:Int)<=130)&&decide (0<=k/\k<=b/\0<=n/\n<=200)
def Cr(b d k n:Int):Int×Bool:=if tC b d k n=true then((qb b.toNat d.toNat n.toNat (List.replicate (bX b.toNat (d.toNat-1)) k)).2.sum,true)else(0,false)
def Dj(a b:Sl):Prop:=∀k,a.own k->¬b.own k
structure nG(lo:Nat)(h:Heap)(b1:Nat)(f3 f4 f5 f6:Sl)(rs es ts vs:aH):Prop where
 r:cH h (fun k=>lo<=k) f3 rs
 e:cH h (fun k=>lo<=k) f4 es
 t:cH h (fun k=>lo<=k) f5 ts
 v:cH h (fun k=>lo<=k) f6 vs
 re:Dj f3 f4
 rt:Dj f3 f5
 rv:Dj f3 f6
 et:Dj f4 f5
 ev:Dj f4 f6
 tv:Dj f5 f6
 nr:¬f3.own b1
 ne:¬f4.own b1
 nt:¬f5.own b1
 nv:¬f6.own b1
 lb:lo<=b1
 hb:b1<h.size
theorem Dj.symm{a b:Sl}(H:Dj a b):Dj b a:=fun k hb ha=>H k ha hb
theorem nG.SZ{lo:Nat}{h:Heap}{b1:Nat}{f3 f4 f5 f6:Sl}{rs es ts vs:aH}(S:nG lo h b1 f3 f4 f5 f6 rs es ts vs):nG lo h b1 f3 f5 f4 f6 rs ts es vs:=⟨S.r,S.t,S.e,S.v,S.rt,S.re,S.rv,S.et.symm,S.tv,S.ev,S.nr,S.nt,S.ne,S.nv,S.lb,S.hb⟩
theorem nG.kB{lo:Nat}{h:Heap}{b1:Nat}{f3 f4 f5 f6:Sl}{rs es ts vs:aH}(S:nG lo h b1 f3 f4 f5 f6 rs es ts vs):nG lo h b1 f4 f3 f5 f6 es rs ts vs:=⟨S.e,S.r,S.t,S.v,S.re.symm,S.et,S.ev,S.rt,S.rv,S.tv,S.ne,S.nr,S.nt,S.nv,S.lb,S.hb⟩
theorem nG.rX{lo:Nat}{h:Heap}{b1:Nat}{f3 f4 f5 f6:Sl}{rs es ts vs:aH}(S:nG lo h b1 f3 f4 f5 f6 rs es ts vs):nG lo h b1 f6 f4 f5 f3 vs es ts rs:=⟨S.v,S.e,S.t,S.r,S.ev.symm,S.tv.symm,S.rv.symm,S.et,S.re.symm,S.rt.symm,S.nv,S.ne,S.nt,S.nr,S.lb,S.hb⟩
theorem nG.no{lo:Nat}{h h':Heap}{b1:Nat}{f3 f4 f5 f6:Sl}{rs es ts vs:aH}(S:nG lo h b1 f3 f4 f5 f6 rs es ts vs)(f:Fr No h h'):nG lo h' b1 f3 f4 f5 f6 rs es ts vs:=⟨Ow.no S.r f,Ow.no S.e f,Ow.no S.t f,Ow.no S.v f,S.re,S.rt,S.rv,S.et,S.ev,S.tv,S.nr,S.ne,S.nt,S.nv,S.lb,fQ S.hb f.size⟩
theorem nG.box{lo:Nat}{h h':Heap}{b1:Nat}{f3 f4 f5 f6:Sl}{rs es ts vs:aH}(S:nG lo h b1 f3 f4 f5 f6 rs es ts vs)(f:Fr (fun k=>k=b1) h h'):nG lo h' b1 f3 f4 f5 f6 rs es ts vs:=⟨Ow.fr S.r f fun k hk e=>S.nr (e▸hk),Ow.fr S.e f fun k hk e=>S.ne (e▸hk),Ow.fr S.t f fun k hk e=>S.nt (e▸hk),Ow.fr S.v f fun k hk e=>S.nv (e▸hk),S.re,S.rt,S.rv,S.et,S.ev,S.tv,S.nr,S.ne,S.nt,S.nv,S.lb,fQ S.hb f.size⟩
theorem nG.Pe{lo:Nat}{h h':Heap}{b1:Nat}{f3 f4 f5 f6:Sl}{rs es ts vs:aH}(S:nG lo h b1 f3 f4 f5 f6 rs es ts vs){B:List Nat}(f:Fr (In B) h h')(hB:∀b,b∈B->b=b1):nG lo h' b1 f3 f4 f5 f6 rs es ts vs:=S.box (f.mono fun k _ hk=>hB k hk)
theorem nG.Ju{lo:Nat}{h:Heap}{b1:Nat}{f3 f4 f5 f6:Sl}{rs es ts vs:aH}(S:nG lo h b1 f3 f4 f5 f6 rs es ts vs){i:Int}(h0:0<=i)(h1:i<(rs.length:Int))(v:Int):
 fp f3 i/\bF h (f3.at i 1)=some (VI (rs.getD i.toNat 0))/\eX h (f3.at i 1)/\nG lo (Mx.dR h (f3.at i 1) (VI v)) b1 f3 f4 f5 f6 (rs.set i.toNat v) es ts vs/\Fr f3.own h (Mx.dR h (f3.at i 1) (VI v)):=by
 have hn:f3.n=rs.length:=by have:=S.r.rd.len;simpa using this.symm
 obtain⟨w1,w2,w3⟩:=S.r.gH h0 (by omega) (VI v)
 have R:bC f3.own h f3 rs:=S.r.rd
 have eg:rs.getD i.toNat 0=rs[i.toNat]'(by omega):=by rw[eG,dY (by omega),Option.getD_some]
 refine⟨R.bM h0 h1,by rw[eg];exact R.get h0 h1,w1,⟨?_,S.e.fr w3 fun k hk aQ=>S.re k aQ hk,S.t.fr w3 fun k hk aQ=>S.rt k aQ hk,S.v.fr w3 fun k hk aQ=>S.rv k aQ hk,S.re,S.rt,S.rv,S.et,S.ev,S.tv,S.nr,S.ne,S.nt,S.nv,S.lb,fQ S.hb w3.size⟩,w3⟩
 show Ow _ _ _ _ _ _
 rw[<-iu]at w2
 exact w2
theorem nG.GI{lo:Nat}{h:Heap}{b1:Nat}{f3 f4 f5 f6:Sl}{rs es ts vs:aH}(S:nG lo h b1 f3 f4 f5 f6 rs es ts vs)(yL:lo<=h.size){T:aK}{x:Sl}{v:Int}(X:bC T h x [v])(hn:rs.length<=1000){K:aL}
 (HK:∀t h',nG lo h' b1 t f4 f5 f6 (rs++[v]) es ts vs->Fr f3.own h h'->(∀k,t.own k->f3.own k\/h.size<=k)->K t.v h'):lQ aC (cE qx qx qx f3.v x.v) h K:=by
 have h3:f3.n=rs.length:=by have:=S.r.rd.len;simpa using this.symm
 have hx:x.n=1:=by have:=X.len;simpa using this
 refine cP gD S.r (fun k hk=>by omega) X (fU _) (by omega) fun t h' n' o' f' w'=>HK t h' ?_ f' w'
 have dj:∀{s:Sl}{l:aH},cH h (fun k=>lo<=k) s l->Dj f3 s->Dj t s:=fun O D k hk hs=>by
  rcases w' k hk with hk|hk
  ·exact D k hk hs
  ·have:=(O.aS hs).2;omega
 refine⟨by show Ow _ _ _ _ _ _;rw[cV];exact o',S.e.fr f' fun k hk aQ=>S.re k aQ hk,S.t.fr f' fun k hk aQ=>S.rt k aQ hk,S.v.fr f' fun k hk aQ=>S.rv k aQ hk,dj S.e S.re,dj S.t S.rt,dj S.v S.rv,S.et,S.ev,S.tv,fun hk=> ?_,S.ne,S.nt,S.nv,S.lb,fQ S.hb f'.size⟩
 rcases w' _ hk with hk|hk
 ·exact S.nr hk
 ·have:=S.hb;omega
theorem iC{h:Heap}(v:Int){K:aL}(HK:∀x h',cH h' (fun k=>h.size<=k) x [v]->Fr No h h'->K x.v h'):lQ aC (Instr.buildSlice qx 1 #[(0,VI v)]) h K:=
 bE gD (fun k=>h.size<=k) (fun _ h=>h) 1 (by omega) [VI v] rfl rfl fun x h' n c o f m _=>HK x h' (by show Ow _ _ _ _ _ _;simpa using o) f
theorem Jv{b d:Nat}(hb:0<b)(hd:0<d):∀(n:Nat){rs:aH}{a:Int},rs.length=bX b (d-1)->(∀r,r∈rs->0<=r/\r<=(b:Int))->(SX b (bX b (d-1)) n rs a).1.length=bX b (d-1)/\∀r,r∈(SX b (bX b (d-1)) n rs a).1->0<=r/\r<=(b:Int)
 |0,rs,a,hl,hr=>⟨hl,hr⟩
 |n+1,rs,a,hl,hr=>by
  rw[SX]
  by_cases h:0<=a/\a<(bX b (d-1):Nat)
  ·rw[aJ h]
   obtain⟨_,_,s3,_⟩:=SY hb hl hd hr h.1 h.2 rfl
   exact Jv hb hd n (by rw[bY];exact hl) s3
  ·rw[aF h]
   exact⟨hl,hr⟩
theorem vL(b:Nat):∀d,1<=bX b d
 |0=>aW _
 |d+1=>by rw[bX];have:=vL b d;omega
theorem xP{b d:Nat}(hb:b<4)(hd:d<7){h:Heap}(K:aL)(HK:K (VI (bX b d)) h):aG aC 268 #[VI b,VI d] h K:=by
 refine alO b d h K ⟨fun n all lev i h'=>∃j:Nat,i=j/\n+j=d/\all=(bX b j:Nat)/\lev=(kI b j:Nat)/\h'=h,⟨d,0,rfl,by omega,rfl,rfl,rfl⟩,?_⟩
 rintro n all lev i h' ⟨j,rfl,hn,rfl,rfl,rfl⟩ hL
 have hs:=iL b hb j (by omega)
 refine⟨fun e=> ?_,fun e=> ?_⟩
 ·simp only[aT]at e
  have hs2:=iL b hb (j+1) (by omega)
  have e1:((kI b j:Nat):Int)*(b:Int)=((kI b (j+1):Nat):Int):=by rw[kI];simp
  have e2:bX b (j+1)=bX b j+kI b (j+1):=rfl
  rw[e1,aP ((kI b (j+1):Nat):Int) (by omega) (by omega),aP _ (by omega) (by omega),aP _ (by omega) (by omega)]
  exact⟨n-1,by omega,j+1,by omega,by omega,by omega,rfl,rfl⟩
 ·simp only[aY]at e
  have:j=d:=by omega
  subst this
  exact HK
theorem CZ{h:Heap}(b d:Int)(K:aL)(HK:K (VB (decide (2<=b/\b<=3/\1<=d/\d<=6)&&decide ((bX b.toNat d.toNat:Int)<=130))) h):aG aC 266 #[VI b,VI d] h K:=by
 refine alK b d h K (fa _ _ _ h _ ⟨_,rfl,.nil,fun e=> ?_,fun e=> ?_⟩)
 ·have e:=bT.1 e
  refine fa _ _ _ h _ ⟨_,rfl,.nil,fun e2=> ?_,fun e2=> ?_⟩
  ·have e2:=bT.1 e2
   obtain⟨B,rfl⟩:∃B:Nat,b=B:=⟨b.toNat,by omega⟩
   obtain⟨D,rfl⟩:∃D:Nat,d=D:=⟨d.toNat,by omega⟩
   refine xP (by omega) (by omega) _ ⟨_,rfl,.nil,?_⟩
   rw[km (show 2<=(B:Int)/\(B:Int)<=3/\1<=(D:Int)/\(D:Int)<=6 by omega),fk]at HK
   exact HK
  ·rw[gZ (show¬(2<=b/\b<=3/\1<=d/\d<=6)from fun h=>by simp at e2;omega),gJ]at HK
   exact HK
 ·rw[gZ (show¬(2<=b/\b<=3/\1<=d/\d<=6)from fun h=>by simp at e;omega),gJ]at HK
  exact HK
theorem nG.toT{lo:Nat}{h:Heap}{b1:Nat}{f3 f4 f5 f6:Sl}{rs es ts vs:aH}(S:nG lo h b1 f3 f4 f5 f6 rs es ts vs):nG lo h b1 f5 f3 f4 f6 ts rs es vs:=S.SZ.kB
theorem nG.ofT{lo:Nat}{h:Heap}{b1:Nat}{f3 f4 f5 f6:Sl}{rs es ts vs:aH}(S:nG lo h b1 f5 f3 f4 f6 ts rs es vs):nG lo h b1 f3 f4 f5 f6 rs es ts vs:=S.kB.SZ
theorem jr{h h':Heap}{b1:Nat}{cs:List Value}{T:aK}(hL:Vars h [(b1,cs)])(f:Fr T h h')(hT:¬T b1):Vars h' [(b1,cs)]:=hL.fr f fun p hp=>by
 simp only[eZ]at hp
 subst hp
 exact hT
def Yy(b d lo:Nat)(h2:Heap)(b1:Nat)(f3 f4 f5 f6:Sl)(rs es ts:aH)(sp:Prop)(n:Nat)(a lv:Int)(h':Heap):Prop:=
 ∃vy sA,Jt b d vy a<=n/\SX b (bX b (d-1)) n vy a=Yw b d rs/\vy.length=bX b (d-1)/\(∀r,r∈vy->0<=r/\r<=(b:Int))/\sA.length=d+1/\nG lo h' b1 f3 f4 f5 f6 vy es ts sA/\Fr (fun k=>lo<=k) h2 h'/\ -1<=a/\a<=(bX b d:Int)/\(0<=a->lv=(iB b a.toNat:Int))/\(sp->a<0->lv<0)
theorem Ta{b first n:Nat}{rs:aH}{a:Int}{R:aH×Int}{ph:Nat}(hn:ph<n)(h0:0<=a)(h1:a<(first:Int))(H:SX b first n rs a=R):SX b first (n-1) (rs.set a.toNat ((rs.getD a.toNat 0+1)%((b:Int)+1))) (yU b a ((rs.getD a.toNat 0+1)%((b:Int)+1)))=R:=by
 obtain⟨m,rfl⟩:∃m,n=m+1:=⟨n-1,by omega⟩
 rw[SX,aJ ⟨h0,h1⟩]at H
 exact H
def C7(b d:Nat)(rs:aH):Int:=if(Yw b d rs).2= -1 then 0 else 1
set_option maxHeartbeats 4000000 in
theorem Xu{b d:Nat}(hb:2<=b/\b<=3)(hd:1<=d/\d<=6){lo:Nat}{h:Heap}(yL:lo<=h.size){b1:Nat}{f3 f4 f5 f6:Sl}{rs es ts vs:aH}(hL:Vars h [(b1,[VI b,VI d,f3.v,f4.v,f5.v,f6.v])])(S:nG lo h b1 f3 f4 f5 f6 rs es ts vs)(hl:rs.length=bX b (d-1))(hr:∀r,r∈rs->0<=r/\r<=(b:Int))(hv:vs.length=d+1)(he:es.length<=300)(ht:ts.length<=300)(K:aL)
 (HK:∀h' t u ws sA,Vars h' [(b1,[VI b,VI d,f3.v,t.v,u.v,f6.v])]->nG lo h' b1 f3 t u f6 (Yw b d rs).1 (es++[C7 b d rs]) ws sA->ws.length=ts.length+1->sA.length=d+1->Fr (fun k=>lo<=k) h h'->K (.tuple #[]) h'):aG aC 269 #[VP b1 0] h K:=by
 have hs:=iL b (by omega) d (by omega)
 have Zu:=iL b (by omega) (d-1) (by omega)
 refine alP b1 b d f3 f4 f5 f6 h K hL ?_
 unfold ae5 pk
 rw[show aX ((d:Int)-1)=((d-1:Nat):Int)from by rw[aP _ (by omega) (by omega)];omega]
 refine xP (by omega) (by omega) _ ⟨_,rfl,hL,?_⟩
 obtain⟨a1,a2,a3,S1,f1⟩:=S.rX.Ju (i:=0) (by omega) (by omega) (aX (vs.getD (0:Int).toNat 0+1))
 refine⟨a1,_,a2,a1,a3,jr hL f1 S.nv,fun h2 e2 cC=> ?_⟩
 subst e2
 have S1:=S1.rX
 have F1:Fr (fun k=>lo<=k) h _:=f1.mono fun k _ hk=>(S.v.aS hk).1
 refine⟨fun n a lv st h'=>Yy b d lo _ b1 f3 f4 f5 f6 rs es ts False n a lv h',⟨Jt b d rs 0,rs,_,aW _,rfl,hl,hr,by rw[bY];exact hv,S1,Fr.refl _ _,by omega,by omega,fun _=>by simp[pj],fun h=>h.elim⟩,?_⟩
 rintro n a lv st h3 ⟨vy,sA,i1,i2,i3,i4,i5,S3,Zi,i6,i7,i8,_⟩ dI
 refine⟨fun e1=>⟨fun e2=> ?_,fun e2=> ?_⟩,fun e1=> ?_⟩
 ·simp only[aT,gV,aY]at e1 e2
  have h0:0<=a:=by omega
  obtain⟨r,Fe⟩:∃r,r=(vy.getD a.toNat 0+1)%((b:Int)+1):=⟨_,rfl⟩
  obtain⟨s0,s1,s3,s4,s5,s6,s7⟩:=SY (by omega) i3 (by omega) i4 h0 e2 Fe
  have hq:0<=vy.getD a.toNat 0/\vy.getD a.toNat 0<=b:=by
   have hi:a.toNat<vy.length:=by omega
   have:vy.getD a.toNat 0=vy[a.toNat]:=by rw[eG,dY hi,Option.getD_some]
   rw[this];exact i4 _ (bJ hi)
  have ev:Int.tmod (aX (vy.getD a.toNat 0+1)) (aX ((b:Int)+1))=r:=by
   rw[aP _ (by omega) (by omega),aP _ (by omega) (by omega),GJ (by omega),Fe]
  obtain⟨c1,c2,c3,S4,f4'⟩:=S3.Ju h0 (by omega) r
  refine⟨c1,_,c2,by rw[aP _ (by omega) (by omega)];omega,c1,?_⟩
  rw[ev]
  refine⟨c3,jr dI f4' S3.nr,fun h4 e4 eM=> ?_⟩
  subst e4
  have G:=Ta (fQ s4 i1) h0 e2 i2
  rw[<-Fe]at G
  obtain⟨d1,d2,_,_,_⟩:=S4.Ju h0 (by rw[bY];omega) 0
  have eg:(vy.set a.toNat r).getD a.toNat 0=r:=by
   rw[eG,List.getElem?_set_self (by omega),Option.getD_some]
  rw[eg]at d2
  have F4:Fr (fun k=>lo<=k) _ _:=Zi.trans (f4'.mono fun k _ hk=>(S3.r.aS hk).1)
  have l1:=i8 h0
  refine⟨fun x1 x2 h'=>x1=yU b a r/\ -1<=x1/\x1<=(bX b d:Int)/\(0<=x1->x2=(iB b x1.toNat:Int)/\x2<=d)/\h'=Mx.dR h3 (f3.at a 1) (VI r),⟨d1,r,d2,fun e3=> ?_,fun e3=>⟨fun e5=> ?_,fun e5=> ?_⟩⟩,?_⟩
  ·simp only[aT]at e3
   obtain⟨t1,t2,t3⟩:=s6 e3
   have hab:0<=a*(b:Int):=Int.mul_nonneg h0 (by omega)
   have Tb:yU b a r=a*b+r:=by unfold yU;rw[aJ e3]
   rw[Tb]
   generalize a*(b:Int)=q at*
   rw[aP q (by omega) (by omega),aP (q+r) (by omega) (by omega),aP (lv+1) (by omega) (by omega)]
   exact⟨rfl,by omega,by omega,fun _=>⟨by rw[t1];omega,by omega⟩,rfl⟩
  ·simp only[aT,aY]at e3 e5
   have Tb:yU b a r= -1:=by unfold yU;rw[aF e3,aJ e5]
   rw[Tb]
   exact⟨rfl,by omega,by omega,fun h=>by omega,rfl⟩
  ·simp only[aY]at e3 e5
   obtain⟨t1,t2,t3⟩:=s7 e3 e5
   have Tb:yU b a r=(a-1)/b:=by unfold yU;rw[aF e3,aF e5]
   rw[Tb,aP (a-1) (by omega) (by omega),Int.tdiv_eq_ediv_of_nonneg (by omega),aP (lv-1) (by omega) (by omega),aP _ (by omega) (by omega)]
   exact⟨by omega,rfl,by omega,by omega,fun _=>⟨by omega,by omega⟩,rfl⟩
  rintro x1 x2 h5 ⟨rfl,x3,x4,x5,rfl⟩ ie
  refine⟨fun e3=> ?_,fun e3=> ?_⟩
  ·simp only[gV,aY]at e3
   obtain⟨y1,y2⟩:=x5 (by omega)
   obtain⟨g1,g2,g3,S5,f5'⟩:=S4.rX.Ju (i:=x2) (by omega) (by omega) (aX (sA.getD x2.toNat 0+1))
   refine⟨g1,_,g2,g1,g3,jr ie f5' S4.nv,fun h6 e6 jx=> ?_⟩
   subst e6
   exact⟨n-1,by omega,_,_,by omega,G,by rw[bY];exact i3,s3,by rw[bY];exact i5,S5.rX,F4.trans (f5'.mono fun k _ hk=>(S4.v.aS hk).1),x3,x4,fun h=>(x5 h).1,fun h=>h.elim⟩
  ·simp only[uv,aT]at e3
   exact⟨n-1,by omega,_,_,by omega,G,by rw[bY];exact i3,s3,i5,S4,F4,x3,x4,fun h=>by omega,fun h=>h.elim⟩
 all_goals
  have adt:¬(0<=a/\a<(bX b (d-1):Int)):=by
   first
   |(simp only[aY]at e2;omega)
   |(simp only[uv,aT]at e1;omega)
  rw[Nt _ _ _ _ _ adt]at i2
  have p1:=vL b (d-1)
  have eE:C7 b d rs=if a= -1 then 0 else 1:=by unfold C7;rw[<-i2]
  have eR:(Yw b d rs).1=vy:=by rw[<-i2]
  have z3:lo<=h3.size:=Nat.le_of_lt (Nat.lt_of_le_of_lt S3.lb S3.hb)
  have F3:=F1.trans Zi
  have fin:∀h' t u,Vars h' [(b1,[VI b,VI d,f3.v,t.v,u.v,f6.v])]->nG lo h' b1 f3 t u f6 vy (es++[C7 b d rs]) (ts++[st]) sA->Fr (fun k=>lo<=k) h3 h'->K (.tuple #[]) h':=fun h' t u V S' f=>HK h' t u _ _ V (by rw[eR];exact S') (by simp) i5 (F3.trans f)
  refine⟨fun x h'=>x=C7 b d rs/\h'=h3,⟨fun e=>⟨by simp only[aT]at e;rw[eE,aJ e],rfl⟩,fun e=>⟨by simp only[aY]at e;rw[eE,aF e],rfl⟩⟩,?_⟩
  rintro x _ ⟨rfl,rfl⟩ eM
  have box:∀{X Y:Heap},Fr (In [b1,b1]) X Y->Fr (fun k=>lo<=k) X Y:=fun f=>f.mono fun k _ hk=>by simp[In]at hk;have:=S3.lb;omega
  refine⟨?_,?_⟩
  ·refine iC _ fun x5 h5 o5 f5=>⟨x5,rfl,eM.aB f5,?_⟩
   have S5:=S3.no f5
   have z5:=f5.size
   refine⟨?_,?_⟩
   ·refine S5.kB.GI (by omega) o5.rd (by omega) fun t h6 S6 f6 w6=>⟨t,rfl,jr (eM.aB f5) f6 S5.ne,?_⟩
    have z6:=f6.size
    refine iC _ fun x7 h7 o7 f7=>⟨x7,rfl,(jr (eM.aB f5) f6 S5.ne).aB f7,?_⟩
    have S7:=S6.kB.no f7
    have z7:=f7.size
    refine S7.toT.GI (by omega) o7.rd (by omega) fun u h8 S8 f8 w8=>⟨u,rfl,jr ((jr (eM.aB f5) f6 S5.ne).aB f7) f8 S7.nt,fun h9 f9 iG=> ?_⟩
    refine fin h9 t u iG (S8.ofT.Pe f9 (by simp)) ((((f5.aB.trans (f6.mono fun k _ hk=>(S5.e.aS hk).1)).trans f7.aB).trans (f8.mono fun k _ hk=>(S7.t.aS hk).1)).trans (box f9))
   ·refine iC _ fun x7 h7 o7 f7=>⟨x7,rfl,(eM.aB f5).aB f7,?_⟩
    have z7:=f7.size
    have S7:=S5.no f7
    refine S7.kB.GI (by omega) (Ow.no o5 f7).rd (by omega) fun t h6 S6 f6 w6=>⟨t,rfl,jr ((eM.aB f5).aB f7) f6 S7.ne,?_⟩
    have z6:=f6.size
    have o6:=Ow.fr o7 f6 fun k hk aQ=>by have h1:=(o7.aS hk).1;have h2:=(S5.e.aS aQ).2;omega
    refine S6.kB.toT.GI (by omega) o6.rd (by omega) fun u h8 S8 f8 w8=>⟨u,rfl,jr (jr ((eM.aB f5).aB f7) f6 S7.ne) f8 S6.kB.nt,fun h9 f9 iG=> ?_⟩
    refine fin h9 t u iG (S8.ofT.Pe f9 (by simp)) ((((f5.aB.trans f7.aB).trans (f6.mono fun k _ hk=>(S7.e.aS hk).1)).trans (f8.mono fun k _ hk=>(S6.kB.t.aS hk).1)).trans (box f9))
  ·refine iC _ fun x7 h7 o7 f7=>⟨x7,rfl,eM.aB f7,?_⟩
   have z7:=f7.size
   refine iC _ fun x5 h5 o5 f5=>⟨x5,rfl,(eM.aB f7).aB f5,?_⟩
   have z5:=f5.size
   have S5:=(S3.no f7).no f5
   refine S5.kB.GI (by omega) o5.rd (by omega) fun t h6 S6 f6 w6=>⟨t,rfl,jr ((eM.aB f7).aB f5) f6 S5.ne,?_⟩
   have z6:=f6.size
   have o6:=Ow.fr (Ow.no o7 f5) f6 fun k hk aQ=>by have h1:=(o7.aS hk).1;have h2:=(S3.e.aS aQ).2;omega
   refine S6.kB.toT.GI (by omega) o6.rd (by omega) fun u h8 S8 f8 w8=>⟨u,rfl,jr (jr ((eM.aB f7).aB f5) f6 S5.ne) f8 S6.kB.nt,fun h9 f9 iG=> ?_⟩
   refine fin h9 t u iG (S8.ofT.Pe f9 (by simp)) ((((f7.aB.trans f5.aB).trans (f6.mono fun k _ hk=>(S5.e.aS hk).1)).trans (f8.mono fun k _ hk=>(S6.kB.t.aS hk).1)).trans (box f9))
set_option maxHeartbeats 4000000 in
theorem Xv{b d:Nat}(hb:2<=b/\b<=3)(hd:1<=d/\d<=6){lo:Nat}{h:Heap}(yL:lo<=h.size){b1:Nat}{f3 f4 f5 f6:Sl}{rs es ts vs:aH}(hL:Vars h [(b1,[VI b,VI d,VI (bX b (d-1):Nat),f3.v,f4.v,f5.v,f6.v])])(S:nG lo h b1 f3 f4 f5 f6 rs es ts vs)(hl:rs.length=bX b (d-1))(hr:∀r,r∈rs->0<=r/\r<=(b:Int))(hv:vs.length=d+1)(he:es.length<=300)(ht:ts.length<=300)(K:aL)
 (HK:∀h' t u ws sA,Vars h' [(b1,[VI b,VI d,VI (bX b (d-1):Nat),f3.v,t.v,u.v,f6.v])]->nG lo h' b1 f3 t u f6 (Yw b d rs).1 (es++[C7 b d rs]) ws sA->ws.length=ts.length+1->sA.length=d+1->Fr (fun k=>lo<=k) h h'->K (.tuple #[]) h'):aG aC 240 #[VP b1 0] h K:=by
 have hs:=iL b (by omega) d (by omega)
 have Zu:=iL b (by omega) (d-1) (by omega)
 refine ali b1 b d (bX b (d-1):Nat) f3 f4 f5 f6 h K hL ?_
 unfold ae3 pk
 obtain⟨a1,a2,a3,S1,f1⟩:=S.rX.Ju (i:=0) (by omega) (by omega) (aX (vs.getD (0:Int).toNat 0+1))
 refine⟨a1,_,a2,a1,a3,jr hL f1 S.nv,fun h2 e2 cC=> ?_⟩
 subst e2
 have S1:=S1.rX
 have F1:Fr (fun k=>lo<=k) h _:=f1.mono fun k _ hk=>(S.v.aS hk).1
 refine⟨fun n a lv st h'=>Yy b d lo _ b1 f3 f4 f5 f6 rs es ts True n a lv h',⟨Jt b d rs 0,rs,_,aW _,rfl,hl,hr,by rw[bY];exact hv,S1,Fr.refl _ _,by omega,by omega,fun _=>by simp[pj],fun _ h=>by omega⟩,?_⟩
 rintro n a lv st h3 ⟨vy,sA,i1,i2,i3,i4,i5,S3,Zi,i6,i7,i8,i9⟩ dI
 refine⟨fun e1=>⟨fun e2=> ?_,fun e2=> ?_⟩,fun e1=> ?_⟩
 ·simp only[aT]at e1 e2
  have h0:0<=a:=e1
  obtain⟨r,Fe⟩:∃r,r=(vy.getD a.toNat 0+1)%((b:Int)+1):=⟨_,rfl⟩
  obtain⟨s0,s1,s3,s4,s5,s6,s7⟩:=SY (by omega) i3 (by omega) i4 h0 e2 Fe
  have hq:0<=vy.getD a.toNat 0/\vy.getD a.toNat 0<=b:=by
   have hi:a.toNat<vy.length:=by omega
   have:vy.getD a.toNat 0=vy[a.toNat]:=by rw[eG,dY hi,Option.getD_some]
   rw[this];exact i4 _ (bJ hi)
  have ev:Int.tmod (aX (vy.getD a.toNat 0+1)) (aX ((b:Int)+1))=r:=by
   rw[aP _ (by omega) (by omega),aP _ (by omega) (by omega),GJ (by omega),Fe]
  obtain⟨c1,c2,c3,S4,f4'⟩:=S3.Ju h0 (by omega) r
  refine⟨c1,_,c2,by rw[aP _ (by omega) (by omega)];omega,c1,?_⟩
  rw[ev]
  refine⟨c3,jr dI f4' S3.nr,fun h4 e4 eM=> ?_⟩
  subst e4
  have G:=Ta (fQ s4 i1) h0 e2 i2
  rw[<-Fe]at G
  obtain⟨d1,d2,_,_,_⟩:=S4.Ju h0 (by rw[bY];omega) 0
  have eg:(vy.set a.toNat r).getD a.toNat 0=r:=by
   rw[eG,List.getElem?_set_self (by omega),Option.getD_some]
  rw[eg]at d2
  have F4:Fr (fun k=>lo<=k) _ _:=Zi.trans (f4'.mono fun k _ hk=>(S3.r.aS hk).1)
  have l1:=i8 h0
  refine⟨fun x1 x2 h'=>x1=yU b a r/\ -1<=x1/\x1<=(bX b d:Int)/\(0<=x1->x2=(iB b x1.toNat:Int)/\x2<=d)/\(x1<0->x2<0)/\h'=Mx.dR h3 (f3.at a 1) (VI r),⟨d1,r,d2,fun e3=> ?_,fun e3=>⟨fun e5=> ?_,fun e5=> ?_⟩⟩,?_⟩
  ·simp only[aT]at e3
   obtain⟨t1,t2,t3⟩:=s6 e3
   have hab:0<=a*(b:Int):=Int.mul_nonneg h0 (by omega)
   have Tb:yU b a r=a*b+r:=by unfold yU;rw[aJ e3]
   rw[Tb]
   generalize a*(b:Int)=q at*
   rw[aP q (by omega) (by omega),aP (q+r) (by omega) (by omega),aP (lv+1) (by omega) (by omega)]
   exact⟨rfl,by omega,by omega,fun _=>⟨by rw[t1];omega,by omega⟩,fun h=>by omega,rfl⟩
  ·simp only[aT,aY]at e3 e5
   have Tb:yU b a r= -1:=by unfold yU;rw[aF e3,aJ e5]
   have l0:iB b a.toNat=0:=by rw[e5];exact pj b
   rw[Tb,aP (lv-1) (by omega) (by omega)]
   exact⟨rfl,by omega,by omega,fun h=>by omega,fun _=>by omega,rfl⟩
  ·simp only[aY]at e3 e5
   obtain⟨t1,t2,t3⟩:=s7 e3 e5
   have Tb:yU b a r=(a-1)/b:=by unfold yU;rw[aF e3,aF e5]
   rw[Tb,aP (a-1) (by omega) (by omega),Int.tdiv_eq_ediv_of_nonneg (by omega),aP (lv-1) (by omega) (by omega),aP _ (by omega) (by omega)]
   exact⟨by omega,rfl,by omega,by omega,fun _=>⟨by omega,by omega⟩,fun h=>by omega,rfl⟩
  rintro x1 x2 h5 ⟨rfl,x3,x4,x5,x6,rfl⟩ ie
  refine⟨fun e3=> ?_,fun e3=> ?_⟩
  ·simp only[aT]at e3
   have QX:0<=yU b a r:=by
    by_cases hh:0<=yU b a r
    ·exact hh
    ·have:=x6 (by omega);omega
   obtain⟨y1,y2⟩:=x5 QX
   obtain⟨g1,g2,g3,S5,f5'⟩:=S4.rX.Ju (i:=x2) (by omega) (by omega) (aX (sA.getD x2.toNat 0+1))
   refine⟨g1,_,g2,g1,g3,jr ie f5' S4.nv,fun h6 e6 jx=> ?_⟩
   subst e6
   exact⟨n-1,by omega,_,_,by omega,G,by rw[bY];exact i3,s3,by rw[bY];exact i5,S5.rX,F4.trans (f5'.mono fun k _ hk=>(S4.v.aS hk).1),x3,x4,fun h=>(x5 h).1,fun _=>x6⟩
  ·simp only[aY]at e3
   exact⟨n-1,by omega,_,_,by omega,G,by rw[bY];exact i3,s3,i5,S4,F4,x3,x4,fun h=>by have:=x5 h;omega,fun _=>x6⟩
 all_goals
  have adt:¬(0<=a/\a<(bX b (d-1):Int)):=by
   first
   |(simp only[aY]at e2;omega)
   |(simp only[aY]at e1;omega)
  rw[Nt _ _ _ _ _ adt]at i2
  have p1:=vL b (d-1)
  have eE:C7 b d rs=if a= -1 then 0 else 1:=by unfold C7;rw[<-i2]
  have eR:(Yw b d rs).1=vy:=by rw[<-i2]
  have z3:lo<=h3.size:=Nat.le_of_lt (Nat.lt_of_le_of_lt S3.lb S3.hb)
  have F3:=F1.trans Zi
  have fin:∀h' t u,Vars h' [(b1,[VI b,VI d,VI (bX b (d-1):Nat),f3.v,t.v,u.v,f6.v])]->nG lo h' b1 f3 t u f6 vy (es++[C7 b d rs]) (ts++[st]) sA->Fr (fun k=>lo<=k) h3 h'->K (.tuple #[]) h':=fun h' t u V S' f=>HK h' t u _ _ V (by rw[eR];exact S') (by simp) i5 (F3.trans f)
  refine⟨fun x h'=>x=C7 b d rs/\h'=h3,⟨fun e=>⟨by simp only[aT]at e;rw[eE,aF (by omega)],rfl⟩,fun e=>⟨by simp only[aY]at e;rw[eE,aJ (by omega)],rfl⟩⟩,?_⟩
  rintro x _ ⟨rfl,rfl⟩ eM
  have box:∀{X Y:Heap},Fr (In [b1]) X Y->Fr (fun k=>lo<=k) X Y:=fun f=>f.mono fun k _ hk=>by simp[In]at hk;have:=S3.lb;omega
  refine iC _ fun x5 h5 o5 f5=>⟨x5,rfl,eM.aB f5,?_⟩
  have S5:=S3.no f5
  have z5:=f5.size
  refine S5.kB.GI (by omega) o5.rd (by omega) fun t h6 S6 f6 w6=>⟨t,rfl,jr (eM.aB f5) f6 S5.ne,fun h7 f7 kL=> ?_⟩
  have z6:=f6.size
  have z7:=f7.size
  have S7:=S6.kB.Pe f7 (by simp)
  refine iC _ fun x8 h8 o8 f8=>⟨x8,rfl,kL.aB f8,?_⟩
  have z8:=f8.size
  have S8:=S7.no f8
  refine S8.toT.GI (by omega) o8.rd (by omega) fun u h9 S9 f9 w9=>⟨u,rfl,jr (kL.aB f8) f9 S8.nt,fun eW f10 fe=> ?_⟩
  exact fin eW t u fe (S9.ofT.Pe f10 (by simp)) (((((f5.aB.trans (f6.mono fun k _ hk=>(S5.e.aS hk).1)).trans (box f7)).trans f8.aB).trans (f9.mono fun k _ hk=>(S8.t.aS hk).1)).trans (box f10))
theorem Yz{S:aK}{h:Heap}{s:Sl}{xs:aH}(H:bC S h s xs)(hb:∀x,x∈xs->0<=x/\x<=20)(hn:xs.length<=1000)(K:aL)(HK:K (VI xs.sum) h):aG aC 172 #[s.v] h K:=by
 refine ajN s h K ⟨fun n t i h'=>h'=h/\0<=i/\i+n=(xs.length:Int)/\t=(xs.take i.toNat).sum/\0<=t/\t<=20*i,⟨xs.length,rfl,by omega,by omega,by simp,by omega,by omega⟩,?_⟩
 rintro n t i _ ⟨rfl,i0,i1,e1,t0,t1⟩ hL
 refine⟨fun e=> ?_,fun e=> ?_⟩
 ·have hi:=H.lt e
  have hx:=hb _ (bJ (show i.toNat<xs.length by omega))
  refine⟨H.bM i0 hi,_,H.get i0 hi,?_⟩
  rw[H.succ i0 hi,aP _ (by omega) (by omega)]
  refine⟨n-1,by omega,rfl,by omega,by omega,?_,by omega,by omega⟩
  rw[fu xs i0 hi,List.sum_append,e1]
  simp
 ·have hi:=H.ge e
  rw[cT (by omega)]at e1
  rw[e1]
  exact HK
theorem Xw{S:aK}{h:Heap}{s:Sl}{xs:aH}(H:bC S h s xs)(hb:∀x,x∈xs->0<=x/\x<=20)(hn:xs.length<=1000)(K:aL)(HK:K (VI xs.sum) h):aG aC 190 #[s.v] h K:=by
 refine akg s h K ⟨fun n t i h'=>h'=h/\0<=i/\i+n=(xs.length:Int)/\t=(xs.take i.toNat).sum/\0<=t/\t<=20*i,⟨xs.length,rfl,by omega,by omega,by simp,by omega,by omega⟩,?_⟩
 rintro n t i _ ⟨rfl,i0,i1,e1,t0,t1⟩ hL
 refine⟨fun e=> ?_,fun e=> ?_⟩
 ·have hi:=H.lt e
  have hx:=hb _ (bJ (show i.toNat<xs.length by omega))
  refine⟨H.bM i0 hi,_,H.get i0 hi,?_⟩
  rw[H.succ i0 hi,aP _ (by omega) (by omega)]
  refine⟨n-1,by omega,rfl,by omega,by omega,?_,by omega,by omega⟩
  rw[fu xs i0 hi,List.sum_append,e1]
  simp
 ·have hi:=H.ge e
  rw[cT (by omega)]at e1
  rw[e1]
  exact HK
theorem sR{b d:Nat}(hb:0<b)(hd:0<d):∀(n:Nat){rs:aH},rs.length=bX b (d-1)->(∀r,r∈rs->0<=r/\r<=(b:Int))->(qb b d n rs).1.length=bX b (d-1)/\(∀r,r∈(qb b d n rs).1->0<=r/\r<=(b:Int))/\(qb b d n rs).2.length=n/\∀x,x∈(qb b d n rs).2->0<=x/\x<=1
 |0,rs,hl,hr=>⟨hl,hr,rfl,fun x hx=>by simp[qb]at hx⟩
 |n+1,rs,hl,hr=>by
  obtain⟨a1,a2,a3,a4⟩:=sR hb hd n hl hr
  obtain⟨b1,b2⟩:=Jv hb hd (Jt b d (qb b d n rs).1 0) (a:=0) a1 a2
  refine⟨b1,b2,by simp[qb,a3],fun x hx=> ?_⟩
  simp only[qb,gI,eZ]at hx
  rcases hx with hx|rfl
  ·exact a4 x hx
  ·split<;>omega
theorem zG{b d k n:Int}(h:tC b d k n=true):∃B D N:Nat,b=B/\d=D/\n=N/\(2<=B/\B<=3)/\(1<=D/\D<=6)/\bX B D<=130/\(0<=k/\k<=B)/\N<=200:=by
 unfold tC at h
 simp only[bD,aT]at h
 obtain⟨⟨h1,h2⟩,h3⟩:=h
 exact⟨b.toNat,d.toNat,n.toNat,by omega,by omega,by omega,by omega,by omega,by omega,by omega,by omega⟩
theorem po{b k:Int}{m:Nat}(h:0<=k/\k<=b):∀r,r∈List.replicate m k->0<=r/\r<=b:=fun r hr=>by rw[List.eq_of_mem_replicate hr];exact h
theorem Jw{b d:Nat}(hb:2<=b)(hd:1<=d)(h:bX b d<=130):bX b (d-1)<=100:=by
 have e:bX b d=b*bX b (d-1)+1:=by rw[<-vK,Nat.sub_add_cancel hd]
 have:=oh (bX b (d-1)) hb
 omega
theorem kC{h:Heap}{n:Int}{m:Nat}(e:n=m)(hm:m<=100000){K:aL}(HK:∀x h',cH h' (fun k=>h.size<=k) x (List.replicate m 0)->Fr No h h'->K x.v h'):lQ aC (Instr.makeSlice qx (VI n) (VI n)) h K:=by
 subst e
 refine fC gD (fun k=>_<=k) (fun _ h=>h) .i64 .i64 m m (aW _) (by omega) fun t h2 n2 c2 o2 f2 m2 _=>HK t h2 ?_ f2
 have e:(List.replicate m [VI 0]).flatten=(List.replicate m (0:Int)).map VI:=by simp[ko]
 show Ow _ _ _ _ _ _
 rw[e]at o2;exact o2
set_option maxHeartbeats 4000000 in
theorem LI{h:Heap}(b d k n:Int)(K:aL)(HN:tC b d k n=false->K (.tuple #[.pointer none,VB false]) h)
 (HY:tC b d k n=true->∀b1 h' f3 f4 f5 f6,Vars h' [(b1,[VI b,VI d,Sl.v f3,Sl.v f4,Sl.v f5,Sl.v f6])]->cH h' (fun k=>h.size<=k) f4 (qb b.toNat d.toNat n.toNat (List.replicate (bX b.toNat (d.toNat-1)) k)).2->Fr No h h'->K (.tuple #[VP b1 0,VB true]) h'):aG aC 221 #[VI b,VI d,VI k,VI n] h K:=by
 refine akV b d k n h K (CZ b d _ ⟨_,rfl,.nil,fun e=>HN ?_,fun e=> ?_⟩)
 ·unfold tC
  rw[gV]at e
  rw[e,gJ]
 simp only[uv,bD,aT]at e
 refine fa _ _ _ h _ ⟨_,rfl,.nil,fun e2=>HN ?_,fun e2=> ?_⟩
 ·unfold tC
  rw[gZ (p:=0<=k/\k<=b/\0<=n/\n<=200) (fun h=>by simp at e2;omega),sO]
 have e2:0<=k/\k<=b:=by simpa using e2
 refine fa _ _ _ h _ ⟨_,rfl,.nil,fun e3=>HN ?_,fun e3=> ?_⟩
 ·unfold tC
  rw[gZ (p:=0<=k/\k<=b/\0<=n/\n<=200) (fun h=>by simp at e3;omega),sO]
 have e3:0<=n/\n<=200:=by simpa using e3
 have ha:tC b d k n=true:=by unfold tC;simp only[bD,aT];omega
 replace HY:=HY ha
 obtain⟨B,D,N,rfl,rfl,rfl,q1,q2,q3,q4,q5⟩:=zG ha
 simp only[Int.toNat_natCast]at HY
 have hi:=Jw q1.1 q2.1 q3
 have hp:=vL B (D-1)
 have ed:aX ((D:Int)-1)=((D-1:Nat):Int):=by rw[aP _ (by omega) (by omega)];omega
 have ev:aX ((D:Int)+1)=((D+1:Nat):Int):=by rw[aP _ (by omega) (by omega)];omega
 have YA:∀{X:Heap}{K:aL},K (VI (bX B (D-1):Nat)) X->aG aC 268 #[VI B,VI (aX ((D:Int)-1))] X K:=fun H=>by rw[ed];exact xP (by omega) (by omega) _ H
 have key:∀{J:Nat->Int->Int->Sl->Sl->Sl->Sl->Heap->Prop},(∀{X:Heap}{r v:Sl},Fr No h X->cH X (fun k=>h.size<=k) r (List.replicate (bX B (D-1)) k)->cH X (fun k=>h.size<=k) v (List.replicate (D+1) 0)->Dj r v->∀b1 h',X.size<=b1->Fr (In []) X h'->Vars h' [(b1,[VI B,VI D,r.v,aD.v,aD.v,v.v])]->J b1 B D r aD aD v h')->
  (∀{X:Heap}{x:Sl}{T:aK},Fr No h X->bC T X x [k]->aG aC 267 #[x.v,VI (bX B (D-1):Nat)] X fun rv h6=>∃t:Sl,rv=t.v/\Vars h6 []/\lQ aC (Instr.makeSlice qx (VI (aX ((D:Int)+1))) (VI (aX ((D:Int)+1)))) h6 fun rv h7=>∃t2:Sl,rv=t2.v/\Vars h7 []/\∀b2 h8,h7.size<=b2->Fr (In []) h7 h8->Vars h8 [(b2,[VI B,VI D,t.v,aD.v,aD.v,t2.v])]->J b2 B D t aD aD t2 h8)/\
  (∀{X:Heap}{x v:Sl}{T:aK},Fr No h X->bC T X x [k]->cH X (fun k=>h.size<=k) v (List.replicate (D+1) 0)->aG aC 267 #[x.v,VI (bX B (D-1):Nat)] X fun rv h6=>∃t:Sl,rv=t.v/\Vars h6 []/\∀b2 h8,h6.size<=b2->Fr (In []) h6 h8->Vars h8 [(b2,[VI B,VI D,t.v,aD.v,aD.v,v.v])]->J b2 B D t aD aD v h8):=by
  intro J fin
  refine⟨fun fX X0=> ?_,fun fX X0 V0=> ?_⟩
  ·have zX:=fX.size
   refine AL k X0 _ hp hi _ fun r h6 o6 f6=>⟨r,rfl,.nil,kC ev (by omega) fun v h7 o7 f7=>⟨v,rfl,.nil,fin ((fX.aA f6).aA f7) ((Ow.no o6 f7).mono fun k _ hk=>by have:=hk.1;omega) (o7.mono fun k _ hk=>by have:=f6.size;omega) fun k hk aQ=> ?_⟩⟩
   have h1:=(o6.aS hk).1
   have h2:=(o7.aS aQ).1
   unfold Iv at h1
   omega
  ·have zX:=fX.size
   refine AL k X0 _ hp hi _ fun r h6 o6 f6=>⟨r,rfl,.nil,fin (fX.aA f6) (o6.mono fun k _ hk=>by have:=hk.1;omega) (Ow.no V0 f6) fun k hk aQ=> ?_⟩
   have h1:=(o6.aS hk).1
   have h2:=(V0.aS aQ).2
   unfold Iv at h1
   omega
 refine⟨fun b1 x1 x2 x3 x4 x5 x6 h'=>x1=(B:Int)/\x2=(D:Int)/\x4=aD/\x5=aD/\nG h.size h' b1 x3 aD aD x6 (List.replicate (bX B (D-1)) k) [] [] (List.replicate (D+1) 0)/\Fr No h h',?_,?_⟩
 ·obtain⟨RM,MR⟩:=key (J:=fun b1 x1 x2 x3 x4 x5 x6 h'=>x1=(B:Int)/\x2=(D:Int)/\x4=aD/\x5=aD/\nG h.size h' b1 x3 aD aD x6 (List.replicate (bX B (D-1)) k) [] [] (List.replicate (D+1) 0)/\Fr No h h') fun{X r v} fX r0 v0 dj b1 h' hb f V=>by
   have f:=f.aM
   have zX:=fX.size
   exact⟨rfl,rfl,rfl,rfl,⟨Ow.no r0 f,Ow.nil _ _ _ _,Ow.nil _ _ _ _,Ow.no v0 f,fun k _ h=>eJ k h,fun k _ h=>eJ k h,dj,fun k h=>absurd h (eJ k),fun k h=>absurd h (eJ k),fun k h=>absurd h (eJ k),fun hk=>by have:=(r0.aS hk).2;omega,eJ _,eJ _,fun hk=>by have:=(v0.aS hk).2;omega,by omega,V.head.lt⟩,fX.aA f⟩
  have up:∀{X Y:Heap}{v:Sl},Fr No h X->cH Y (fun k=>X.size<=k) v (List.replicate (D+1) 0)->cH Y (fun k=>h.size<=k) v (List.replicate (D+1) 0):=fun f o=>o.mono fun k _ hk=>by have:=f.size;omega
  have r0:=Fr.refl No h
  refine⟨?_,?_,?_⟩
  ·refine iC _ fun x h4 o4 f4=>⟨x,rfl,.nil,YA ⟨_,rfl,.nil,RM f4 o4.rd,kC ev (by omega) fun v h9 o9 f9=>⟨v,rfl,.nil,MR (f4.aA f9) (Ow.no o4 f9).rd (up f4 o9)⟩⟩,kC ev (by omega) fun v h9 o9 f9=>⟨v,rfl,.nil,YA ⟨_,rfl,.nil,MR (f4.aA f9) (Ow.no o4 f9).rd (up f4 o9)⟩⟩⟩
  ·refine YA ⟨_,rfl,.nil,iC _ fun x h4 o4 f4=>⟨x,rfl,.nil,RM f4 o4.rd,kC ev (by omega) fun v h9 o9 f9=>⟨v,rfl,.nil,MR (f4.aA f9) (Ow.no o4 f9).rd (up f4 o9)⟩⟩,kC ev (by omega) fun v h9 o9 f9=>⟨v,rfl,.nil,iC _ fun x h4 o4 f4=>⟨x,rfl,.nil,MR (f9.aA f4) o4.rd (up r0 (Ow.no o9 f4))⟩⟩⟩
  ·refine kC ev (by omega) fun v h9 o9 f9=>⟨v,rfl,.nil,iC _ fun x h4 o4 f4=>⟨x,rfl,.nil,YA ⟨_,rfl,.nil,MR (f9.aA f4) o4.rd (up r0 (Ow.no o9 f4))⟩⟩,YA ⟨_,rfl,.nil,iC _ fun x h4 o4 f4=>⟨x,rfl,.nil,MR (f9.aA f4) o4.rd (up r0 (Ow.no o9 f4))⟩⟩⟩
 rintro b1 _ _ f3 _ _ f6 h3 ⟨rfl,rfl,rfl,rfl,S3,F3⟩ dI
 have hrr:=po (m:=bX B (D-1)) q4
 refine⟨fun m i x1 x2 x3 x4 x5 x6 h'=>∃(j:Nat)(ts vs:aH),i=j/\m+j=N/\x1=(B:Int)/\x2=(D:Int)/\nG h.size h' b1 x3 x4 x5 x6 (qb B D j (List.replicate (bX B (D-1)) k)).1 (qb B D j (List.replicate (bX B (D-1)) k)).2 ts vs/\ts.length=j/\vs.length=D+1/\Fr (fun k=>h.size<=k) h h',⟨N,0,[],_,rfl,by omega,rfl,rfl,S3,rfl,by simp,F3.aB⟩,?_⟩
 rintro m i _ _ x3 x4 x5 x6 h4 ⟨j,ts,vs,rfl,hm,rfl,rfl,S4,t4,v4,F4⟩ eM
 obtain⟨c1,c2,c3,c4⟩:=sR (b:=B) (d:=D) (by omega) (by omega) j (rs:=List.replicate (bX B (D-1)) k) (by simp) hrr
 refine⟨fun e4=> ?_,fun e4=> ?_⟩
 ·simp only[aT]at e4
  refine Xu q1 q2 (by have:=S4.lb;have:=S4.hb;omega) eM S4 c1 c2 v4 (by omega) (by omega) _ fun h5 t u ws sA V5 S5 l5 l6 f5=>⟨_,_,_,_,_,_,V5,m-1,by omega,j+1,ws,sA,?_,by omega,rfl,rfl,S5,by omega,l6,F4.trans f5⟩
  rw[aP _ (by omega) (by omega)];omega
 ·simp only[aY]at e4
  have:j=N:=by omega
  subst this
  exact HY b1 h4 x3 x4 x5 x6 eM S4.e (F4.mono fun k hk aQ=>absurd aQ (by omega))
theorem GK{h:Heap}(b d k n:Int)(K:aL)(HN:tC b d k n=false->K (.tuple #[aD.v,VB false]) h)
 (HY:tC b d k n=true->∀t h',cH h' (fun k=>h.size<=k) t (qb b.toNat d.toNat n.toNat (List.replicate (bX b.toNat (d.toNat-1)) k)).2->Fr No h h'->K (.tuple #[t.v,VB true]) h'):aG aC 171 #[VI b,VI d,VI k,VI n] h K:=by
 refine v171 b d k n h K (LI b d k n _ (fun e=>⟨none,false,rfl,.nil,fun _=>HN e,fun e=>by cases e⟩) fun e b1 h' f3 f4 f5 f6 V O f=>⟨some ⟨b1,0,none⟩,true,rfl,.nil,fun e=>(by cases e),fun _=>⟨b1,b,d,f3,f4,f5,f6,rfl,V,HY e f4 h' O f⟩⟩)
theorem Jx{h:Heap}(b d k n:Int)(K:aL)(HK:∀h',Fr No h h'->K (.tuple #[VI (Cr b d k n).1,VB (Cr b d k n).2]) h'):aG aC 117 #[VI b,VI d,VI k,VI n] h K:=by
 refine v117 b d k n h K (GK b d k n _ (fun e=>⟨aD,false,rfl,.nil,?_⟩) fun e t h' O f=>⟨t,true,rfl,.nil,?_⟩)
 ·unfold Cr at HK
  rw[aF (by rw[e];decide)]at HK
  exact Yz (S:=fun _=>True) (xs:=[]) (eC.nil (fun _=>True) h 1) (fun x hx=>by simp at hx) (by simp) _ ⟨_,rfl,.nil,HK h (Fr.refl _ _)⟩
 ·unfold Cr at HK
  rw[aJ e]at HK
  obtain⟨B,D,N,rfl,rfl,rfl,q1,q2,q3,q4,q5⟩:=zG e
  simp only[Int.toNat_natCast]at O HK
  obtain⟨c1,c2,c3,c4⟩:=sR (b:=B) (d:=D) (by omega) (by omega) N (rs:=List.replicate (bX B (D-1)) k) (by simp) (po q4)
  exact Yz O.rd (fun x hx=>by have:=c4 x hx;omega) (by omega) _ ⟨_,rfl,.nil,HK h' f⟩
theorem Ev{h:Heap}(b d:Int)(K:aL)(HN:(decide (2<=b/\b<=3/\1<=d/\d<=6)&&decide ((bX b.toNat d.toNat:Int)<=130))=false->K (VI 0) h)(HY:(decide (2<=b/\b<=3/\1<=d/\d<=6)&&decide ((bX b.toNat d.toNat:Int)<=130))=true->K (VI (bX b.toNat d.toNat)) h):aG aC 238 #[VI b,VI d] h K:=by
 refine alf b d h K (eK _ _ _ h _ ⟨_,rfl,.nil,fun e=>HN ?_,fun e=> ?_⟩)
 ·rw[gZ (show¬(2<=b/\b<=3/\1<=d/\d<=6)from fun h=>by simp at e;omega),gJ]
 have e:2<=b/\b<=3:=by simpa using e
 refine eK _ _ _ h _ ⟨_,rfl,.nil,fun e2=>HN ?_,fun e2=> ?_⟩
 ·rw[gZ (show¬(2<=b/\b<=3/\1<=d/\d<=6)from fun h=>by simp at e2;omega),gJ]
 have e2:1<=d/\d<=6:=by simpa using e2
 obtain⟨B,rfl⟩:∃B:Nat,b=B:=⟨b.toNat,by omega⟩
 obtain⟨D,rfl⟩:∃D:Nat,d=D:=⟨d.toNat,by omega⟩
 rw[km (show 2<=(B:Int)/\(B:Int)<=3/\1<=(D:Int)/\(D:Int)<=6 by omega),fk]at HN HY
 simp only[Int.toNat_natCast,aY,aT]at HN HY
 refine⟨fun n all lev i h'=>∃j:Nat,i=j/\n+j=D/\all=(bX B j:Nat)/\lev=(kI B j:Nat)/\h'=h,⟨D,0,rfl,by omega,rfl,rfl,rfl⟩,?_⟩
 rintro n all lev i h' ⟨j,rfl,hn,rfl,rfl,rfl⟩ hL
 have hs:=iL B (by omega) j (by omega)
 refine⟨fun e3=> ?_,fun e3=> ?_⟩
 ·simp only[aT]at e3
  have hs2:=iL B (by omega) (j+1) (by omega)
  have e1:((kI B j:Nat):Int)*(B:Int)=((kI B (j+1):Nat):Int):=by rw[kI];simp
  have e2:bX B (j+1)=bX B j+kI B (j+1):=rfl
  rw[e1,aP ((kI B (j+1):Nat):Int) (by omega) (by omega),aP _ (by omega) (by omega),aP _ (by omega) (by omega)]
  exact⟨n-1,by omega,j+1,by omega,by omega,by omega,rfl,rfl⟩
 ·simp only[aY]at e3
  have:j=D:=by omega
  subst this
  refine⟨fun e4=>HN ?_,fun e4=>HY ?_⟩
  ·simp only[aT]at e4;omega
  ·simp only[aY]at e4;omega
theorem xQ{b d:Nat}(hb:b<4)(hd:d<7){h:Heap}(K:aL)(HK:K (VI (kI b d)) h):aG aC 273 #[VI b,VI d] h K:=by
 refine alV b d h K ⟨fun n i p h'=>∃j:Nat,i=n/\n+j=d/\p=(kI b j:Nat)/\h'=h,⟨d,0,rfl,by omega,rfl,rfl⟩,?_⟩
 rintro n _ p h' ⟨j,rfl,hn,rfl,rfl⟩ hL
 have hs:=iL b hb j (by omega)
 refine⟨fun e=> ?_,fun e=> ?_⟩
 ·simp only[aT]at e
  have hs2:=iL b hb (j+1) (by omega)
  have e1:((kI b j:Nat):Int)*(b:Int)=((kI b (j+1):Nat):Int):=by rw[kI];simp
  rw[e1,aP ((kI b (j+1):Nat):Int) (by omega) (by omega),aP _ (by omega) (by omega)]
  exact⟨n-1,by omega,j+1,by omega,by omega,rfl,rfl⟩
 ·simp only[aY]at e
  have:j=d:=by omega
  subst this
  exact HK
theorem Pf{h:Heap}(b d k n:Int)(K:aL)(HK:K (VB (tC b d k n)) h):aG aC 189 #[VI b,VI d,VI k,VI n] h K:=by
 refine ake b d k n h K (Ev b d _ (fun e=>⟨0,rfl,.nil,fun e2=>by simp at e2,fun _=> ?_⟩) fun e=>⟨_,rfl,.nil,fun e2=> ?_,fun e2=> ?_⟩)
 ·unfold tC at HK
  rw[e,gJ]at HK
  exact HK
 ·unfold tC at HK
  rw[e,fk]at HK
  refine eK _ _ _ h _ ⟨_,rfl,.nil,fun e3=>eK _ _ _ h _ ⟨_,rfl,.nil,?_⟩,fun e3=> ?_⟩
  ·have e3:0<=k/\k<=b:=by simpa using e3
   have:(decide (0<=n)&&decide (n<=200))=decide (0<=k/\k<=b/\0<=n/\n<=200):=by
    rw[<-Bool.decide_and]
    exact vk.2 ⟨fun h=>⟨e3.1,e3.2,h⟩,fun h=>h.2.2⟩
   rw[this]
   exact HK
  ·rw[gZ (fun h=>by simp at e3;omega)]at HK
   exact HK
 ·have:=vL b.toNat d.toNat
  simp only[aY]at e2
  omega
set_option maxHeartbeats 4000000 in
theorem Pg{b d:Nat}(hb:2<=b/\b<=3)(hd:1<=d/\d<=6)(hn:bX b d<=130)(k:Int){h:Heap}(K:aL)
 (HK:∀b1 h' f3 f6,Vars h' [(b1,[VI b,VI d,VI (bX b (d-1):Nat),Sl.v f3,aD.v,aD.v,Sl.v f6])]->nG h.size h' b1 f3 aD aD f6 (List.replicate (bX b (d-1)) k) [] [] (List.replicate (d+1) 0)->Fr No h h'->K (VP b1 0) h'):aG aC 239 #[VI b,VI d,VI k] h K:=by
 have hi:=Jw hb.1 hd.1 hn
 have en:bX b d=bX b (d-1)+kI b d:=by
  have:d=(d-1)+1:=by omega
  rw[this];rfl
 have ev:aX ((d:Int)+1)=((d+1:Nat):Int):=by rw[aP _ (by omega) (by omega)];omega
 have ei:aX (((bX b d:Nat):Int)-((kI b d:Nat):Int))=((bX b (d-1):Nat):Int):=by rw[aP _ (by omega) (by omega)];omega
 have YA:∀{X:Heap}{K:aL},K (VI (bX b d:Nat)) X->aG aC 238 #[VI b,VI d] X K:=fun H=>Ev b d _ (fun e=>by
  rw[km (show 2<=(b:Int)/\(b:Int)<=3/\1<=(d:Int)/\(d:Int)<=6 by omega),fk]at e
  simp only[Int.toNat_natCast,aY]at e
  omega) fun _=>H
 refine alh b d k h K ⟨fun b1 x1 x2 x3 x4 x5 x6 x7 h'=>x1=(b:Int)/\x2=(d:Int)/\x3=(bX b (d-1):Nat)/\x4=aD/\x5=aD/\x6=aD/\nG h.size h' b1 aD aD aD x7 [] [] [] (List.replicate (d+1) 0)/\Fr No h h',?_,?_⟩
 ·have fin:∀{X:Heap}{v:Sl},Fr No h X->cH X (fun k=>h.size<=k) v (List.replicate (d+1) 0)->∀b1 h',X.size<=b1->Fr (In []) X h'->Vars h' [(b1,[VI b,VI d,VI (aX (((bX b d:Nat):Int)-((kI b d:Nat):Int))),aD.v,aD.v,aD.v,v.v])]->(b:Int)=b/\(d:Int)=d/\aX (((bX b d:Nat):Int)-((kI b d:Nat):Int))=(bX b (d-1):Nat)/\aD=aD/\aD=aD/\aD=aD/\nG h.size h' b1 aD aD aD v [] [] [] (List.replicate (d+1) 0)/\Fr No h h':=fun{X v} fX v0 b1 h' hb f V=>by
   have f:=f.aM
   have zX:=fX.size
   exact⟨rfl,rfl,ei,rfl,rfl,rfl,⟨Ow.nil _ _ _ _,Ow.nil _ _ _ _,Ow.nil _ _ _ _,Ow.no v0 f,fun k h=>absurd h (eJ k),fun k h=>absurd h (eJ k),fun k h=>absurd h (eJ k),fun k h=>absurd h (eJ k),fun k h=>absurd h (eJ k),fun k h=>absurd h (eJ k),eJ _,eJ _,eJ _,fun hk=>by have:=(v0.aS hk).2;omega,by omega,V.head.lt⟩,fX.aA f⟩
  refine⟨YA ⟨_,rfl,.nil,xQ (by omega) (by omega) _ ⟨_,rfl,.nil,kC ev (by omega) fun v h3 o3 f3=>⟨v,rfl,.nil,fin f3 o3⟩⟩,kC ev (by omega) fun v h3 o3 f3=>⟨v,rfl,.nil,xQ (by omega) (by omega) _ ⟨_,rfl,.nil,fin f3 o3⟩⟩⟩,kC ev (by omega) fun v h3 o3 f3=>⟨v,rfl,.nil,YA ⟨_,rfl,.nil,xQ (by omega) (by omega) _ ⟨_,rfl,.nil,fin f3 o3⟩⟩⟩⟩
 rintro b1 _ _ _ _ _ _ f6 h2 ⟨rfl,rfl,rfl,rfl,rfl,rfl,S2,F2⟩ cC
 refine⟨fun m i x1 x2 x3 x4 x5 x6 x7 h'=>∃j:Nat,i=j/\m+j=bX b (d-1)/\x1=(b:Int)/\x2=(d:Int)/\x3=(bX b (d-1):Nat)/\x5=aD/\x6=aD/\nG h.size h' b1 x4 aD aD x7 (List.replicate j k) [] [] (List.replicate (d+1) 0)/\Fr (fun k=>h.size<=k) h h',⟨bX b (d-1),0,rfl,by omega,rfl,rfl,rfl,rfl,rfl,S2,F2.aB⟩,?_⟩
 rintro m i _ _ _ x4 _ _ x7 h3 ⟨j,rfl,hm,rfl,rfl,rfl,rfl,rfl,S3,F3⟩ dI
 have z3:h.size<=h3.size:=F3.size
 refine⟨fun e=> ?_,fun e=> ?_⟩
 ·simp only[aT]at e
  refine iC _ fun x h4 o4 f4=>⟨x,rfl,dI.aB f4,?_⟩
  have S4:=S3.no f4
  have z4:=f4.size
  refine S4.GI (by omega) o4.rd (by simp;omega) fun t h5 S5 f5 w5=>⟨t,rfl,jr (dI.aB f4) f5 S4.nr,fun h6 f6 jx=>⟨m-1,by omega,j+1,?_,by omega,rfl,rfl,rfl,rfl,rfl,?_,?_⟩⟩
  ·rw[aP _ (by omega) (by omega)];omega
  ·have:=S5.Pe f6 (by simp)
   rw[<-List.replicate_succ']at this
   exact this
  ·exact((F3.trans f4.aB).trans (f5.mono fun k _ hk=>(S4.r.aS hk).1)).trans (f6.mono fun k _ hk=>by simp[In]at hk;have:=S3.lb;omega)
 ·simp only[aY]at e
  have:j=bX b (d-1):=by omega
  subst this
  exact HK b1 h3 x4 x7 dI S3 (F3.mono fun k hk aQ=>absurd aQ (by omega))
theorem adu{B D N:Nat}(q1:2<=B/\B<=3)(q2:1<=D/\D<=6)(q3:bX B D<=130){k:Int}(q4:0<=k/\k<=B)(q5:N<=200){h:Heap}(K:aL)
 (HK:∀b1 h' f3 f4 f5 f6,Vars h' [(b1,[VI B,VI D,VI (bX B (D-1):Nat),Sl.v f3,Sl.v f4,Sl.v f5,Sl.v f6])]->cH h' (fun k=>h.size<=k) f4 (qb B D N (List.replicate (bX B (D-1)) k)).2->Fr No h h'->K (VP b1 0) h'):aG aC 191 #[VI B,VI D,VI k,VI N] h K:=by
 refine aki B D k N h K (Pg q1 q2 q3 k _ fun b1 h3 f3 f6 V3 S3 F3=>⟨some ⟨b1,0,none⟩,rfl,.nil,?_⟩)
 have hrr:=po (m:=bX B (D-1)) q4
 have z3:=F3.size
 refine⟨fun m i h'=>∃(j:Nat)(x4 x5 x6 x7:Sl)(ts vs:aH),i=j/\m+j=N/\Vars h' [(b1,[VI B,VI D,VI (bX B (D-1):Nat),x4.v,x5.v,x6.v,x7.v])]/\nG h.size h' b1 x4 x5 x6 x7 (qb B D j (List.replicate (bX B (D-1)) k)).1 (qb B D j (List.replicate (bX B (D-1)) k)).2 ts vs/\ts.length=j/\vs.length=D+1/\Fr (fun k=>h.size<=k) h h',⟨N,0,f3,aD,aD,f6,[],_,rfl,by omega,V3,S3,rfl,by simp,F3.aB⟩,?_⟩
 rintro m i h4 ⟨j,x4,x5,x6,x7,ts,vs,rfl,hm,eM,S4,t4,v4,F4⟩ _
 obtain⟨c1,c2,c3,c4⟩:=sR (b:=B) (d:=D) (by omega) (by omega) j (rs:=List.replicate (bX B (D-1)) k) (by simp) hrr
 refine⟨fun e4=> ?_,fun e4=> ?_⟩
 ·simp only[aT]at e4
  refine Xv q1 q2 (by have:=S4.lb;have:=S4.hb;omega) eM S4 c1 c2 v4 (by omega) (by omega) _ fun h5 t u ws sA V5 S5 l5 l6 f5=>⟨.nil,m-1,by omega,j+1,x4,t,u,x7,ws,sA,?_,by omega,V5,S5,by omega,l6,F4.trans f5⟩
  rw[aP _ (by omega) (by omega)];omega
 ·simp only[aY]at e4
  have:j=N:=by omega
  subst this
  exact HK b1 h4 x4 x5 x6 x7 eM S4.e (F4.mono fun k hk aQ=>absurd aQ (by omega))
theorem xR{h:Heap}(b d k n:Int)(K:aL)(HK:∀h',Fr No h h'->K (.tuple #[VI (Cr b d k n).1,VB (Cr b d k n).2]) h'):aG aC 141 #[VI b,VI d,VI k,VI n] h K:=by
 refine v141 b d k n h K (Pf b d k n _ ⟨_,rfl,.nil,fun e=> ?_,fun e=> ?_⟩)
 ·unfold Cr at HK
  rw[aF (by simpa using e)]at HK
  exact HK h (Fr.refl _ _)
 ·have e:tC b d k n=true:=by simpa using e
  unfold Cr at HK
  rw[aJ e]at HK
  obtain⟨B,D,N,rfl,rfl,rfl,q1,q2,q3,q4,q5⟩:=zG e
  simp only[Int.toNat_natCast]at HK
  obtain⟨c1,c2,c3,c4⟩:=sR (b:=B) (d:=D) (by omega) (by omega) N (rs:=List.replicate (bX B (D-1)) k) (by simp) (po q4)
  refine adu q1 q2 q3 q4 q5 _ fun b1 h2 f3 f4 f5 f6 V O f=>⟨some ⟨b1,0,none⟩,rfl,.nil,b1,_,_,_,f3,f4,f5,f6,rfl,V,Xw O.rd (fun x hx=>by have:=c4 x hx;omega) (by omega) _ ⟨_,rfl,V,HK h2 f⟩⟩
def mE(B C i:Nat):Nat:=(B.testBit i).toNat+2*(C.testBit i).toNat
def nxG(i r:Nat):Nat:=if r=0 then i+121 else if r=1 then i+1 else if r=2 then i-121 else i-1
def inG(i:Nat):Bool:=Nat.ble 121 i&&Nat.ble i 14519&& !(Nat.beq (i%121) 0)&& !(Nat.beq (i%121) 120)
def qo:Nat->Nat->Nat->Nat->Nat->Option (Nat×Nat×Nat)
 |0,_,_,_,_=>none
 |n+1,A,B,C,i=>bif A.testBit i then
  bif inG i then qo n A (B^^^2^i) (bif B.testBit i then C^^^2^i else C) (nxG i ((mE B C i+1)%4))else none
  else some (i,B,C)
def Tc(n:Nat)(b:Bool):Nat:=bif b then 2^n-1 else 0
def pp(b:Bool):Nat:=Tc 14641 b
def gq(k:Nat):Nat->Option (Nat×Nat×Nat×List Nat)
 |0=>some (0,pp (k.testBit 0),pp (k.testBit 1),[])
 |n+1=>match gq k n with
  |none=>none
  |some (A,B,C,l)=>match qo 1000 A B C 7320 with
   |none=>none
   |some (i,B',C')=>some (A^^^2^i,B',C',l++[i])
def okG(k:Nat):Bool:=(gq k 250).isSome
theorem Nu(B C i:Nat):mE B C i<4:=by
 unfold mE
 have h1:=Bool.toNat_lt (B.testBit i)
 have h2:=Bool.toNat_lt (C.testBit i)
 omega
theorem nu(B i j:Nat):(B^^^2^i).testBit j=if j=i then !B.testBit j else B.testBit j:=by
 rw[Nat.testBit_xor,Nat.testBit_two_pow]
 by_cases h:j=i
 ·subst h;simp
 ·rw[aF h,gZ (fun e=>h e.symm)];simp
theorem xS(B C i j:Nat):mE (B^^^2^i) (bif B.testBit i then C^^^2^i else C) j=if j=i then(mE B C i+1)%4 else mE B C j:=by
 unfold mE
 by_cases h:j=i
 ·subst h
  rw[aJ rfl,nu,aJ rfl]
  cases hB:B.testBit j
  ·cases hC:C.testBit j<;>simp[hC]
  ·rw[cond_true,nu,aJ rfl]
   cases hC:C.testBit j<;>simp
 ·rw[aF h,nu,aF h]
  cases hB:B.testBit i
  ·rfl
  ·rw[cond_true,nu,aF h]
theorem Td{i:Nat}(h:inG i=true):121<=i/\i<=14519/\i%121≠0/\i%121≠120:=by
 unfold inG at h
 simp only[bD,gV,Nat.ble_eq]at h
 exact⟨h.1.1.1,h.1.1.2,fun e=>by rw[e]at h;exact absurd h.1.2 (by decide),fun e=>by rw[e]at h;exact absurd h.2 (by decide)⟩
theorem Te(n:Nat)(b:Bool){i:Nat}(h:i<n):(Tc n b).testBit i=b:=by
 unfold Tc
 cases b
 ·simp
 ·rw[cond_true,Nat.testBit_two_pow_sub_one]
  simp[h]
theorem Jy(b:Bool){i:Nat}(h:i<14641):(pp b).testBit i=b:=Te 14641 b h
theorem Jz{k i:Nat}(hk:k<4)(h:i<14641):mE (pp (k.testBit 0)) (pp (k.testBit 1)) i=k:=by
 unfold mE
 rw[Jy _ h,Jy _ h]
 rcases(by omega:k=0\/k=1\/k=2\/k=3)with rfl|rfl|rfl|rfl<;>decide
theorem Cs{k:Nat}:∀{m:Nat}(d:Nat),(gq k (m+d)).isSome=true->(gq k m).isSome=true
 |m,0,h=>h
 |m,d+1,h=>by
  refine Cs d ?_
  rw[show m+(d+1)=(m+d)+1 by omega,gq]at h
  cases hc:gq k (m+d)with
  |none=>rw[hc]at h;exact h
  |some x=>rfl
theorem Xx:∀k,k<4->okG k=true:=by
 have h0:okG 0=true:=by decide+kernel
 have h1:okG 1=true:=by decide+kernel
 have h2:okG 2=true:=by decide+kernel
 have h3:okG 3=true:=by decide+kernel
 intro k hk
 rcases(by omega:k=0\/k=1\/k=2\/k=3)with rfl|rfl|rfl|rfl
 ·exact h0
 ·exact h1
 ·exact h2
 ·exact h3
theorem nV{k n:Nat}(hk:k<4)(hn:n<=250):∃A B C l,gq k n=some (A,B,C,l):=by
 have h:=Cs (k:=k) (m:=n) (250-n) (by rw[Nat.add_sub_cancel' hn];exact Xx k hk)
 obtain⟨⟨A,B,C,l⟩,h⟩:=EK.1 h
 exact⟨A,B,C,l,h⟩
theorem nW{k n A B C:Nat}{l:List Nat}(h:gq k n=some (A,B,C,l)){A' B' C':Nat}{l':List Nat}(h':gq k (n+1)=some (A',B',C',l')):∃i,qo 1000 A B C 7320=some (i,B',C')/\A'=A^^^2^i/\l'=l++[i]:=by
 rw[gq,h]at h'
 (try simp only at h')
 cases hw:qo 1000 A B C 7320 with
 |none=>rw[hw]at h';cases h'
 |some x=>
  obtain⟨i,B1,C1⟩:=x
  rw[hw]at h'
  (try simp only[dC,fH]at h')
  obtain⟨rfl,rfl,rfl,rfl⟩:=h'
  exact⟨i,rfl,rfl,rfl⟩
theorem jS{k:Nat}:∀{n A B C:Nat}{l:List Nat},gq k n=some (A,B,C,l)->l.length=n
 |0,A,B,C,l,h=>by
  rw[gq]at h
  simp only[dC,fH]at h
  rw[<-h.2.2.2];rfl
 |n+1,A,B,C,l,h=>by
  cases hc:gq k n with
  |none=>rw[gq,hc]at h;cases h
  |some x=>
   obtain⟨A0,B0,C0,l0⟩:=x
   obtain⟨i,_,_,e⟩:=nW hc h
   rw[e,cB,jS hc];rfl
theorem uE{n A B C i:Nat}{R:Nat×Nat×Nat}(h:qo n A B C i=some R)(ht:A.testBit i=true):inG i=true/\∃m,n=m+1/\qo m A (B^^^2^i) (bif B.testBit i then C^^^2^i else C) (nxG i ((mE B C i+1)%4))=some R:=by
 cases n with
 |zero=>cases h
 |succ m=>
  rw[qo,ht,cond_true]at h
  cases hi:inG i with
  |false=>rw[hi]at h;cases h
  |true=>rw[hi]at h;exact⟨rfl,m,rfl,h⟩
theorem xT{n A B C i:Nat}{R:Nat×Nat×Nat}(h:qo n A B C i=some R)(ht:A.testBit i=false):R=(i,B,C):=by
 cases n with
 |zero=>cases h
 |succ m=>
  rw[qo,ht,cond_false]at h
  exact(bI h).symm
def cN(x y:Int):Nat:=((x+60)*121+(y+60)).toNat
abbrev iD(x:Int):Prop:= -60<=x/\x<=60
theorem Ew{x y u v:Int}(hx:iD x)(hy:iD y)(hu:iD u)(hv:iD v)(h:cN x y=cN u v):x=u/\y=v:=by
 unfold cN at h
 unfold iD at*
 omega
def mvX(x r:Int):Int:=if r=0 then x+1 else if r=2 then x-1 else x
def mvY(y r:Int):Int:=if r=1 then y+1 else if r=0 then y else if r=2 then y else y-1
theorem JA{x y:Int}{i r:Nat}(hx:iD x)(hy:iD y)(e:cN x y=i)(h:inG i=true)(hr:r<4):iD (mvX x r)/\iD (mvY y r)/\cN (mvX x r) (mvY y r)=nxG i r:=by
 obtain⟨h1,h2,h3,h4⟩:=Td h
 unfold cN at*
 unfold iD at*
 have k1:x≠ -60:=fun hh=>by omega
 have k2:x≠60:=fun hh=>by omega
 have k3:y≠ -60:=fun hh=>by omega
 have k4:y≠60:=fun hh=>by omega
 unfold mvX mvY nxG
 rcases(by omega:r=0\/r=1\/r=2\/r=3)with rfl|rfl|rfl|rfl
 ·simp;omega
 ·simp;omega
 ·simp;omega
 ·simp;omega
def rY(n k:Int):aH×Bool:=if 1<=n/\n<=250/\0<=k/\k<=3 then match gq k.toNat n.toNat with
 |some (_,_,_,l)=>([((l.getLastD 0:Nat):Int)/121-60,((l.getLastD 0:Nat):Int)%121-60],true)
 |none=>([],false)
 else([],false)
structure qd(P:Program)(kt:TypeId)(f0 f1:Field):Prop where
 und:P.underlying kt=some (.struct #[f0,f1])
 i0:P.underlying f0.type=some (.int .i64)
 i1:P.underlying f1.type=some (.int .i64)
 n0:f0.name≠ "_"
 n1:f1.name≠ "_"
 o0:f0.offset=0
 o1:f1.offset=1
 st:P.stoodInHeld kt=false
def KV(x y:Int):Value:= .agg #[VI x,VI y]
theorem sS{P:Program}{t:TypeId}(h:P.underlying t=some (.int .i64)){cs:Array Value}{i:Nat}{v:Value}(hv:cs[i]?=some v)(w:World):(part t cs i).run P w= .ok v w:=by
 unfold part isAgg
 simp only[jR,run_underlying h,Result.andThen,Sem.run_pure]
 simp[hv]
theorem LJ{P:Program}{kt:TypeId}{f0 f1:Field}(T:qd P kt f0 f1)(x y u v:Int)(w:World):(Op.equal kt (KV x y) (KV u v)).run P w= .ok (decide (x=u/\y=v)) w:=by
 have key:∀d,(Op.equalIn (d+2) kt (KV x y) (KV u v)).run P w= .ok (decide (x=u/\y=v)) w:=fun d=>by
  have e:∀(t:TypeId)(a b:Int),P.underlying t=some (.int .i64)->(Op.equalIn (d+1) t (VI a) (VI b)).run P w= .ok (a==b) w:=fun t a b h=>by
   unfold Op.equalIn
   simp[jR,run_underlying h,Result.andThen,VI]
  have p0:∀a b:Int,(part f0.type #[VI a,VI b] f0.offset).run P w= .ok (VI a) w:=fun a b=>by rw[T.o0];exact sS T.i0 rfl w
  have p1:∀a b:Int,(part f1.type #[VI a,VI b] f1.offset).run P w= .ok (VI b) w:=fun a b=>by rw[T.o1];exact sS T.i1 rfl w
  unfold Op.equalIn
  simp only[jR,run_underlying T.und,Result.andThen,KV,run_program,T.st]
  by_cases h0:x=u
  ·by_cases h1:y=v
   ·simp[h0,h1,T.n0,T.n1,Sem.run_pure,jR,Result.andThen,p0,p1,e _ _ _ T.i0,e _ _ _ T.i1]
   ·simp[h0,h1,T.n0,T.n1,Sem.run_pure,jR,Result.andThen,p0,p1,e _ _ _ T.i0,e _ _ _ T.i1]
  ·simp[h0,T.n0,T.n1,Sem.run_pure,jR,Result.andThen,p0,p1,e _ _ _ T.i0,e _ _ _ T.i1]
 exact key 9998
theorem jI{P:Program}{kt:TypeId}{f0 f1:Field}(T:qd P kt f0 f1)(em:Bool)(x y:Int)(w:World):(Instr.checkKey em 10000 kt (KV x y)).run P w= .ok () w:=by
 have e:∀(d:Nat)(t:TypeId)(a:Int),P.underlying t=some (.int .i64)->(Instr.checkKey em (d+1) t (VI a)).run P w= .ok () w:=fun d t a h=>by
  unfold Instr.checkKey
  simp[jR,run_underlying h,Result.andThen,VI]
 have p0:∀a b:Int,(part f0.type #[VI a,VI b] f0.offset).run P w= .ok (VI a) w:=fun a b=>by rw[T.o0];exact sS T.i0 rfl w
 have p1:∀a b:Int,(part f1.type #[VI a,VI b] f1.offset).run P w= .ok (VI b) w:=fun a b=>by rw[T.o1];exact sS T.i1 rfl w
 have key:∀d,(Instr.checkKey em (d+2) kt (KV x y)).run P w= .ok () w:=fun d=>by
  unfold Instr.checkKey
  simp only[jR,run_underlying T.und,Result.andThen,KV]
  simp[jR,Result.andThen,T.n0,T.n1,p0,p1,e d _ _ T.i0,e d _ _ T.i1]
 exact key 9998
def vM(h:Heap)(b:Nat)(gw:List ((Int×Int)×Int)):Prop:=∃(es:Array MapEntry)(clock:Nat),h[b]?=some (.map es clock)/\es.toList.map (fun e=>(e.key,e.val))=gw.map fun q=>(KV q.1.1 q.1.2,VI q.2)
theorem vM.lt{h:Heap}{b:Nat}{gw:List ((Int×Int)×Int)}(M:vM h b gw):b<h.size:=by
 obtain⟨es,c,hb,_⟩:=M
 exact(Ab.1 hb).1
theorem vM.fr{h h':Heap}{b:Nat}{gw:List ((Int×Int)×Int)}{T:aK}(M:vM h b gw)(f:Fr T h h')(hT:¬T b):vM h' b gw:=by
 have hl:=M.lt
 obtain⟨es,c,hb,e⟩:=M
 exact⟨es,c,by rw[f.same b hl hT];exact hb,e⟩
def jf:List ((Int×Int)×Int)->Int->Int->Option (Nat×Int)
 |[],_,_=>none
 |q::r,x,y=>if x=q.1.1/\y=q.1.2 then some (0,q.2)else(jf r x y).map fun p=>(p.1+1,p.2)
theorem agA{P:Program}{kt:TypeId}{f0 f1:Field}(T:qd P kt f0 f1)(x y:Int)(w:World):∀(l:List MapEntry)(gw:List ((Int×Int)×Int))(i:Nat),l.map (fun e=>(e.key,e.val))=gw.map (fun q=>(KV q.1.1 q.1.2,VI q.2))->(Instr.findAsking kt (KV x y) l i).run P w= .ok ((jf gw x y).map fun p=>(i+p.1,VI p.2)) w
 |[],[],i,_=>by simp[Instr.findAsking,jf]
 |[],q::r,i,h=>by simp at h
 |e::l,[],i,h=>by simp at h
 |e::l,q::r,i,h=>by
  simp only[bK,qZ,fH]at h
  obtain⟨⟨h1,h2⟩,h3⟩:=h
  unfold Instr.findAsking jf
  simp only[jR,h1,LJ T,Result.andThen]
  by_cases hq:x=q.1.1/\y=q.1.2
  ·simp[hq,h2,Sem.run_pure]
  ·rw[aF (by simpa using hq),aF hq,agA T x y w l r (i+1) h3]
   simp[Option.map_map,Function.comp_def,kS,Nat.add_comm 1]
theorem GM{kt:TypeDesc}{x y:Int}(hk:∀k,kt≠ .int k):∀(l:List MapEntry)(i:Nat),l≠[]->(∀e,e∈l->∃u v,e.key=KV u v)->Instr.findNow kt (KV x y) l i=none
 |[],_,h,_=>absurd rfl h
 |e::l,i,_,h=>by
  obtain⟨u,v,he⟩:=h e cF
  unfold Instr.findNow
  have:Instr.sameNow kt (KV x y) e.key=none:=by rw[he];cases kt<;>rfl
  rw[this]
theorem kD{P:Program}{kt:TypeId}{f0 f1:Field}(T:qd P kt f0 f1)(x y:Int)(w:World){l:List MapEntry}{gw:List ((Int×Int)×Int)}(h:l.map (fun e=>(e.key,e.val))=gw.map (fun q=>(KV q.1.1 q.1.2,VI q.2))):(Instr.findKey kt (KV x y) l).run P w= .ok ((jf gw x y).map fun p=>(p.1,VI p.2)) w:=by
 unfold Instr.findKey
 simp only[jR,run_underlying T.und,Result.andThen]
 by_cases hl:l=[]
 ·subst hl
  have:gw=[]:=by cases gw with
   |nil=>rfl
   |cons q r=>simp at h
  subst this
  rfl
 ·rw[GM (fun k hk=>by cases hk) l 0 hl fun e he=>by
   have:(e.key,e.val)∈l.map (fun e=>(e.key,e.val)):=dL.2 ⟨e,he,rfl⟩
   rw[h]at this
   obtain⟨q,_,hq⟩:=dL.1 this
   exact⟨_,_,(Prod.mk.inj hq).1.symm⟩]
  have:=agA T x y w l gw 0 h
  simp only[iO]at this
  exact this
theorem JB{P:Program}{t kt et:TypeId}{f0 f1:Field}{h:Heap}{b:Nat}{gw:List ((Int×Int)×Int)}{x y:Int}(T:qd P kt f0 f1)(hm:P.underlying t=some (.map kt et))(hz:qN P et=some (VI 0))(M:vM h b gw){K:Value->Prop}(HK:K (.tuple #[VI (((jf gw x y).map (·.2)).getD 0),VB (jf gw x y).isSome])):CI P (Instr.lookup t (.map (some b)) (KV x y) true) h K:=by
 obtain⟨es,c,hb,e⟩:=M
 refine⟨_,fun w hw=> ?_,HK⟩
 subst hw
 have hzr:(zeroValue et).run P w= .ok (VI 0) w:=by
  unfold qN at hz
  cases hi:P.info? et with
  |none=>rw[hi]at hz;simp at hz
  |some i=>
   rw[hi]at hz
   simp only[Option.bind_some]at hz
   unfold zeroValue
   rw[aV (fA hi w)]
   simp[hz,pure,Sem.run]
 unfold Instr.lookup
 simp only[jR,run_underlying hm,Result.andThen,MapKept.run_getObj_map hb,jI T,kD T x y w e]
 cases hs:jf gw x y with
 |none=>simp[jI T,kD T x y w e,hs,Sem.run,pure,hzr,Result.andThen]
 |some p=>simp[jI T,kD T x y w e,hs,Sem.run,pure,Result.andThen]
theorem C8(x y:Int):Instr.sameBits 10000 (KV x y) (KV x y)=true:=by
 have key:∀d,Instr.sameBits (d+1) (KV x y) (KV x y)=true:=fun d=>by simp[Instr.sameBits,KV,VI]
 exact key 9999
theorem Tf{P:Program}{t kt et:TypeId}{f0 f1:Field}{h:Heap}{b:Nat}{gw:List ((Int×Int)×Int)}{x y v:Int}(T:qd P kt f0 f1)(hm:P.underlying t=some (.map kt et))(M:vM h b gw){j:Nat}{r:Int}(hf:jf gw x y=some (j,r)){K:aL}(HK:∀u h',vM h' b (gw.set j ((x,y),v))->Fr (In [b]) h h'->K u h'):Hc P (Instr.mapUpdate t (.map (some b)) (KV x y) (VI v)) h K:=by
 have hl:=M.lt
 obtain⟨es,c,hb,e⟩:=M
 have hkj:∀(gw:List ((Int×Int)×Int))(j:Nat),jf gw x y=some (j,r)->∃h:j<gw.length,gw[j].1=(x,y):=by
  intro gw
  induction gw with
  |nil=>intro j h;cases h
  |cons q l ih=>
   intro j h
   unfold jf at h
   split at h
   ·rename_i hq
    obtain⟨rfl,_⟩:=Prod.mk.inj (bI h)
    exact⟨by simp,by simp[hq]⟩
   ·cases hl:jf l x y with
    |none=>rw[hl]at h;cases h
    |some p=>
     rw[hl]at h
     obtain⟨p1,p2⟩:=p
     simp only[Option.map_some,dC,fH]at h
     obtain⟨rfl,rfl⟩:=h
     obtain⟨a,b⟩:=ih p1 hl
     exact⟨by simpa using a,by simpa using b⟩
 obtain⟨hj,hq⟩:=hkj gw j hf
 have hlen:es.toList.length=gw.length:=by have:=congrArg List.length e;simpa using this
 have Ky:j<es.size:=by have:es.toList.length=es.size:=Array.length_toList;omega
 have hk:es[j].key=KV x y:=by
  have:(es.toList.map (fun e=>(e.key,e.val)))[j]'(by simpa using Ky)=(gw.map fun q=>(KV q.1.1 q.1.2,VI q.2))[j]'(by simpa using hj):=by simp only[e]
  simp only[cK,Array.getElem_toList,fH,hq]at this
  exact this.1
 refine⟨fun w hw=> ?_⟩
 subst hw
 refine⟨{w with heap:=w.heap.setIfInBounds b (.map (es.modify j fun e=>{e with key:=KV x y,val:=VI v}) c)},?_,⟨rfl,rfl,rfl⟩,HK _ _ ⟨es.modify j fun e=>{e with key:=KV x y,val:=VI v},c,?_,?_⟩ ⟨by simp,fun i hi fL=> ?_⟩⟩
 ·unfold Instr.mapUpdate
  simp only[jR,run_underlying hm,Result.andThen,MapKept.run_getObj_map hb,jI T,kD T x y w e,hf,Option.map_some]
  have:((es[j]?).map (·.key)).getD (KV x y)=KV x y:=by rw[Array.getElem?_eq_getElem Ky];simp[hk]
  simp only[this,Instr.keyThatStays,C8,jJ,Sem.run_pure,MapKept.run_setObj_map _ hb]
 ·simp only
  rw[A5,aJ rfl,aJ hl]
 ·rw[Array.toList_modify]
  apply List.ext_getElem?
  intro i
  have ei:=congrArg (fun l=>l[i]?) e
  simp only[List.getElem?_map]at ei⊢
  rw[List.getElem?_modify,wL]
  by_cases hij:j=i
  ·subst hij
   rw[aJ rfl,aJ hj,dY (by omega)]
   simp
  ·rw[aF hij,<-ei]
   cases es.toList[i]?<;>simp[hij]
 ·simp only
  rw[A5,aF (fun hh=>fL (by simp[In,hh]))]
theorem Tg{P:Program}{t kt et:TypeId}{f0 f1:Field}{h:Heap}{b:Nat}{gw:List ((Int×Int)×Int)}{x y v:Int}(T:qd P kt f0 f1)(hm:P.underlying t=some (.map kt et))(M:vM h b gw)(hf:jf gw x y=none){K:aL}(HK:∀u h',vM h' b (gw++[((x,y),v)])->Fr (In [b]) h h'->K u h'):Hc P (Instr.mapUpdate t (.map (some b)) (KV x y) (VI v)) h K:=by
 have hl:=M.lt
 obtain⟨es,c,hb,e⟩:=M
 refine⟨fun w hw=> ?_⟩
 subst hw
 refine⟨{w with heap:=w.heap.setIfInBounds b (.map (es.push {key:=KV x y,val:=VI v,born:=c}) (c+1))},?_,⟨rfl,rfl,rfl⟩,HK _ _ ⟨es.push {key:=KV x y,val:=VI v,born:=c},c+1,?_,?_⟩ ⟨by simp,fun j hj fL=> ?_⟩⟩
 ·unfold Instr.mapUpdate
  simp only[jR,run_underlying hm,Result.andThen,MapKept.run_getObj_map hb,jI T,kD T x y w e,hf,Option.map_none,MapKept.run_setObj_map _ hb]
 ·simp only
  rw[A5,aJ rfl,aJ hl]
 ·rw[Array.toList_push,cV,cV,e]
  rfl
 ·simp only
  rw[A5,aF (fun hh=>fL (by simp[In,hh]))]
theorem GN{P:Program}{t:TypeId}{h:Heap}{K:aL}(HK:∀h',vM h' h.size []->Fr No h h'->h.size<h'.size->K (.map (some h.size)) h'):lQ P (Instr.makeMap t none) h K:=by
 refine⟨fun w hw=> ?_⟩
 subst hw
 refine⟨_,_,run_makeMap_plain w t,⟨rfl,rfl,rfl⟩,HK _ ⟨#[],0,?_,rfl⟩ (Fr.push w.heap _) ?_⟩
 ·show(w.heap.push _)[w.heap.size]?=_
  simp
 ·show w.heap.size<(w.heap.push _).size
  simp
end Go.Proofs.YtcnfcnoooecchaaGreatDoor
