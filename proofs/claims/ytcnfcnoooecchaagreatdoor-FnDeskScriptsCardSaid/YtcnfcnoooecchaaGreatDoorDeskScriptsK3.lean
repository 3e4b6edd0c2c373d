import Derived.Test.YtcnfcnoooecchaaGreatDoorDeskScriptsK2
set_option linter.unusedVariables false
set_option linter.unusedSimpArgs false
namespace Go.Proofs.YtcnfcnoooecchaaGreatDoor
open Go Go.Mx
theorem CG{g:aE}:∀(m k:Nat)(t:aH)(s:St)(t':aH)(s':St),(∀x,x∈t->0<=x/\x<=(k:Int))->runT g KX m t s=some (t',s')->t'.length=t.length/\∀x,x∈t'->0<=x/\x<=((k+m:Nat):Int)
 |0,k,t,s,t',s',hk,h=>by
  simp only[runT,dD,fL]at h
  rw[<-h.1]
  exact⟨rfl,by simpa using hk⟩
 |m+1,k,t,s,t',s',hk,h=>by
  rw[runT]at h
  split at h
  ·cases h
  ·rename_i s2 hs
   have:=CG m (k+1) _ _ _ _ (Ba (i:=s2.2.toNat) hk) h
   rw[show k+(m+1)=k+1+m by omega]
   exact⟨this.1.trans (rH _ _),this.2⟩
theorem SO(g:aE)(rs:aH)(p n:Int):(qH g rs p n).1.length<=8:=by
 unfold qH
 split
 ·rename_i h
  rw[bK,cA]at h
  have W:=eD h.1
  have:=bD W.cN
  split
  ·simp
  ·rename_i t s hs
   have:=(CG n.toNat 0 _ _ _ _ (fun x hx=>by simp only[uF]at hx;omega) hs).1
   simp at this
   simp only
   omega
 ·simp
theorem ac9{F:aK}{b b':Nat}{h:Heap}{o w:Sl}{ps:aH}{q:Int}(V:cC h b [o.v])(V':cC h b' [w.v,VI q])(Wa:b'≠b)(O:cM h F o ps)(hb:¬o.own b)(hb':¬o.own b')(h0:0<=q)(h1:q<(ps.length:Int))(hv:∀x,x∈ps->0<=x/\x<=1000000)(x:Int)(K:aL)
 (HK:∀h' v,cC h' b [o.v]->cM h' F o (bump ps q.toNat)->Fr o.own h h'->K v h'):iW aB (.func (.func 209) #[] #[VP b 0,VP b' 0]) [VI x] h K:=by
 have R:bE F h o ps:=O.fW
 have hl:=R.len
 have hm:=hv _ (bI (show q.toNat<ps.length by omega))
 refine akG x b o b' w q h K (.cons V (by simpa using Wa) (.cons V' (by simp) .nil)) ⟨R.bQ h0 h1,_,R.get h0 h1,R.bQ h0 h1,?_⟩
 rw[aP _ (by omega) (by omega)]
 obtain⟨w1,w2,w3⟩:=O.gF h0 (by omega) (VI ((ps[q.toNat]'(by omega))+1))
 have hL:Vars (dS h (o.at q 1) (VI ((ps[q.toNat]'(by omega))+1))) [(b,[o.v]),(b',[w.v,VI q])]:= .cons (V.fr w3 hb) (by simpa using Wa) (.cons (V'.fr w3 hb') (by simp) .nil)
 refine⟨w1,hL,fun h2 e2 _=> ?_⟩
 subst e2
 rw[<-ig]at w2
 have e:ps.set q.toNat ((ps[q.toNat]'(by omega))+1)=bump ps q.toNat:=by unfold bump;rw[bA (by omega)]
 rw[e]at w2
 exact HK _ _ hL.head w2 w3
theorem LS{S S':aK}{h:Heap}{g w:Sl}{aI:aE}{rs:aH}(G:dE S h g aI)(H:bE S' h w rs)(p n:Int)(K:aL)(HK:∀t h',cM h' (Iv h.size h'.size) t (qH aI rs p n).1->Fr No h h'->K (.tuple #[t.v,VB (qH aI rs p n).2]) h'):aG aB 163 #[.agg #[g.v],.agg #[w.v,VI p],VI n] h K:=by
 refine ajF g w p n h K fun b1 b2 h2 fw eY f2 cR=> ?_
 have f2:=f2.aM
 have no:qH aI rs p n=([],false)->∀h',Fr No h h'->K (.tuple #[aD.v,VB false]) h':=fun e h' f=>by
  have:=HK aD h' (by rw[e];exact Ow.nil _ _ _ _) f
  rw[e]at this
  exact this
 refine Fx (G.no f2) (H.no f2) p n 2000 _ fun h3 f3=>⟨_,rfl,cR.aC f3,fun e=> ?_,fun e=> ?_⟩
 ·exact no (by unfold qH;rw[aF (by rw[bU e];simp)]) _ (f2.aA f3)
 have e:=bS e
 have e2:qH aI rs p n=match runT aI KX n.toNat (List.replicate aI.length 0) (rs,p)with
  |none=>([],false)
  |some (t,_)=>(t,true):=by unfold qH;exact aJ e
 rw[bK,cA]at e
 have W:=eD e.1
 have Vb:=bD W.cN
 have iR:=f2.aA f3
 have z03:=iR.size
 have hL:=cR.aC f3
 have l2:b2<h3.size:=hL.head.lt
 have l1:b1<h3.size:=hL.tail.head.lt
 have fj:Fr No h3 h3:=Fr.refl _ _
 have cp:∀{h1:Heap}{K:aL},Fr No h3 h1->(∀t h2,cM h2 (Iv h1.size h2.size) t rs->Fr No h1 h2->K (.agg #[t.v,VI p]) h2)->aG aB 110 #[.agg #[w.v,VI p]] h1 K:=fun f HK=>jR ((H.no iR).no f) p (by have:=W.len;simp only at this;omega) _ HK
 have mk:∀{h1:Heap}{K:aL},Fr No h3 h1->(∀t h2,cM h2 (Iv h1.size h2.size) t (List.replicate aI.length 0)->Fr No h1 h2->K t.v h2)->j5 aB (Instr.makeSlice mW (VI (g.n:Int)) (VI (g.n:Int))) h1 K:=fun _ HK=>fO gH (fun k=>_<=k) (fun _ h=>h) .i64 .i64 g.n g.n (aY _) (by rw[G.len];omega) fun t h2 n2 c2 o2 f2 m2 _=>HK t h2 (Ow.gS (by
  have e:(List.replicate g.n [VI 0]).flatten=(List.replicate aI.length (0:Int)).map VI:=by rw[G.len];simp[kT]
  rw[e]at o2;exact o2)) f2
 refine⟨fun bN xw xp bO xo h'=>xp=p/\∃i1 j1 i2 j2,cM h' (Iv i1 j1) xw rs/\cM h' (Iv i2 j2) xo (List.replicate aI.length 0)/\(j1<=i2\/j2<=i1)/\(bN<i1\/j1<=bN)/\(bN<i2\/j2<=bN)/\(bO<i1\/j1<=bO)/\(bO<i2\/j2<=bO)/\h3.size<=i1/\h3.size<=i2/\h3.size<=bN/\h3.size<=bO/\j1<=h'.size/\j2<=h'.size/\bN≠bO/\Fr No h3 h',?_,?_⟩
 ·refine⟨?_,?_,?_,?_⟩
  ·refine cp fj fun u_1 qG fI Wb=>⟨u_1,_,rfl,hL.aC Wb,?_⟩
   replace hL:=hL.aC Wb
   have af1:=Wb.size
   replace fj:=fj.aA Wb
   refine⟨?_,?_,?_⟩
   ·refine mk fj fun u_2 Wc Pn Sm=>⟨u_2,rfl,hL.aC Sm,?_⟩
    replace hL:=hL.aC Sm
    have af2:=Sm.size
    replace fI:=fI.no Sm
    replace fj:=fj.aA Sm
    refine⟨?_,?_⟩
    ·intro lK Po We aam aan Pp hL
     have aao:lK<We.size:=(hL.tail).head.lt
     have aap:Po<We.size:=(hL).head.lt
     have aaq:lK≠Po:=hL.ne (lK,_) cE
     replace Pp:=Pp.aM
     have af3:=Pp.size
     replace fI:=fI.no Pp
     replace Pn:=Pn.no Pp
     replace fj:=fj.aA Pp
     exact⟨rfl,h3.size,qG.size,qG.size,Wc.size,fI,Pn,by omega,by omega,by omega,by omega,by omega,by omega,by omega,by omega,by omega,by omega,by omega,by omega,fj⟩
    ·intro NJ Pq vZ aar aas Pr hL
     have aat:NJ<vZ.size:=(hL.tail).head.lt
     have aau:Pq<vZ.size:=(hL).head.lt
     have aav:NJ≠Pq:=hL.ne (NJ,_) cE
     replace Pr:=Pr.aM
     have af4:=Pr.size
     replace fI:=fI.no Pr
     replace Pn:=Pn.no Pr
     replace fj:=fj.aA Pr
     exact⟨rfl,h3.size,qG.size,qG.size,Wc.size,fI,Pn,by omega,by omega,by omega,by omega,by omega,by omega,by omega,by omega,by omega,by omega,by omega,by omega,fj⟩
   ·intro Ui uR aaw Sn hL
    have aax:Ui<uR.size:=(hL).head.lt
    replace Sn:=Sn.aM
    have af5:=Sn.size
    replace fI:=fI.no Sn
    replace fj:=fj.aA Sn
    refine⟨?_,?_⟩
    ·refine mk fj fun u_6 aay o_6 Sr=>⟨u_6,rfl,hL.aC Sr,?_⟩
     replace hL:=hL.aC Sr
     have af6:=Sr.size
     replace fI:=fI.no Sr
     replace fj:=fj.aA Sr
     intro tW aaA Wg Ps hL
     have Wi:tW<aaA.size:=(hL).head.lt
     replace Ps:=Ps.dI (lo:=qG.size) (hi:=uR.size) ⟨⟨by omega,by omega⟩,trivial⟩
     have af7:=Ps.size
     replace fI:=fI.iv Ps (by omega)
     replace o_6:=o_6.iv Ps (by omega)
     replace fj:=fj.aU Ps (by omega)
     exact⟨rfl,h3.size,qG.size,uR.size,aay.size,fI,o_6,by omega,by omega,by omega,by omega,by omega,by omega,by omega,by omega,by omega,by omega,by omega,by omega,fj⟩
    ·intro xD BM Wj Ss hL
     have Wk:xD<BM.size:=(hL).head.lt
     replace Ss:=Ss.aM
     have af8:=Ss.size
     replace fI:=fI.no Ss
     replace fj:=fj.aA Ss
     refine⟨?_,?_⟩
     ·refine mk fj fun u_9 aaB Wm Su=>⟨u_9,rfl,hL.aC Su,?_⟩
      replace hL:=hL.aC Su
      have af9:=Su.size
      replace fI:=fI.no Su
      replace fj:=fj.aA Su
      intro VV Gh hL
      have aaC:=Gh.size
      replace fI:=fI.fr Gh fun k hk aQ=>by have h1:=(fI.aR hk).1;have h2:=h1.1;have h3:=h1.2;simp only[In,aO,aS,aN]at aQ;omega
      replace Wm:=Wm.fr Gh fun k hk aQ=>by have h1:=(Wm.aR hk).1;have h2:=h1.1;have h3:=h1.2;simp only[In,aO,aS,aN]at aQ;omega
      replace fj:=fj.fresh Gh fun k hk=>by simp only[In,aO,aS,aN]at hk;omega
      exact⟨rfl,h3.size,qG.size,BM.size,aaB.size,fI,Wm,by omega,by omega,by omega,by omega,by omega,by omega,by omega,by omega,by omega,by omega,by omega,by omega,fj⟩
     ·intro Jw BN hL
      replace BN:=BN.dI (lo:=qG.size) (hi:=uR.size) ⟨⟨by omega,by omega⟩,trivial⟩
      have aaD:=BN.size
      replace fI:=fI.iv BN (by omega)
      replace fj:=fj.aU BN (by omega)
      refine mk fj fun aaE xA Lx BO=>⟨aaE,rfl,hL.aC BO,?_⟩
      replace hL:=hL.aC BO
      have aaF:=BO.size
      replace fI:=fI.no BO
      replace fj:=fj.aA BO
      intro RX xE hL
      replace xE:=xE.dI (lo:=uR.size) (hi:=BM.size) ⟨⟨by omega,by omega⟩,trivial⟩
      have aaG:=xE.size
      replace fI:=fI.iv xE (by omega)
      replace Lx:=Lx.iv xE (by omega)
      replace fj:=fj.aU xE (by omega)
      exact⟨rfl,h3.size,qG.size,Jw.size,xA.size,fI,Lx,by omega,by omega,by omega,by omega,by omega,by omega,by omega,by omega,by omega,by omega,by omega,by omega,fj⟩
   ·intro Dq oD Wn BP hL
    have Wo:Dq<oD.size:=(hL).head.lt
    replace BP:=BP.aM
    have aaH:=BP.size
    replace fI:=fI.no BP
    replace fj:=fj.aA BP
    refine⟨?_,?_⟩
    ·refine mk fj fun aaI F0 Ly BR=>⟨aaI,rfl,hL.aC BR,?_⟩
     replace hL:=hL.aC BR
     have aaJ:=BR.size
     replace fI:=fI.no BR
     replace fj:=fj.aA BR
     intro oE vU Wp xF hL
     have Wq:oE<vU.size:=(hL).head.lt
     replace xF:=xF.dI (lo:=qG.size) (hi:=oD.size) ⟨⟨by omega,by omega⟩,trivial⟩
     have aaK:=xF.size
     replace fI:=fI.iv xF (by omega)
     replace Ly:=Ly.iv xF (by omega)
     replace fj:=fj.aU xF (by omega)
     exact⟨rfl,h3.size,qG.size,oD.size,F0.size,fI,Ly,by omega,by omega,by omega,by omega,by omega,by omega,by omega,by omega,by omega,by omega,by omega,by omega,fj⟩
    ·intro nG vV Wr BS hL
     have Ww:nG<vV.size:=(hL).head.lt
     replace BS:=BS.aM
     have aaL:=BS.size
     replace fI:=fI.no BS
     replace fj:=fj.aA BS
     refine⟨?_,?_⟩
     ·refine mk fj fun aaM BJ Gi BT=>⟨aaM,rfl,hL.aC BT,?_⟩
      replace hL:=hL.aC BT
      have aaN:=BT.size
      replace fI:=fI.no BT
      replace fj:=fj.aA BT
      intro Gc Gj hL
      have aaO:=Gj.size
      replace fI:=fI.fr Gj fun k hk aQ=>by have h1:=(fI.aR hk).1;have h2:=h1.1;have h3:=h1.2;simp only[In,aO,aS,aN]at aQ;omega
      replace Gi:=Gi.fr Gj fun k hk aQ=>by have h1:=(Gi.aR hk).1;have h2:=h1.1;have h3:=h1.2;simp only[In,aO,aS,aN]at aQ;omega
      replace fj:=fj.fresh Gj fun k hk=>by simp only[In,aO,aS,aN]at hk;omega
      exact⟨rfl,h3.size,qG.size,vV.size,BJ.size,fI,Gi,by omega,by omega,by omega,by omega,by omega,by omega,by omega,by omega,by omega,by omega,by omega,by omega,fj⟩
     ·intro Lz BU hL
      replace BU:=BU.dI (lo:=oD.size) (hi:=vV.size) ⟨⟨by omega,by omega⟩,trivial⟩
      have aaP:=BU.size
      replace fI:=fI.iv BU (by omega)
      replace fj:=fj.aU BU (by omega)
      refine mk fj fun aaQ JB LA BV=>⟨aaQ,rfl,hL.aC BV,?_⟩
      replace hL:=hL.aC BV
      have aaR:=BV.size
      replace fI:=fI.no BV
      replace fj:=fj.aA BV
      intro Sv xG hL
      replace xG:=xG.dI (lo:=qG.size) (hi:=oD.size) ⟨⟨by omega,by omega⟩,trivial⟩
      have aaS:=xG.size
      replace fI:=fI.iv xG (by omega)
      replace LA:=LA.iv xG (by omega)
      replace fj:=fj.aU xG (by omega)
      exact⟨rfl,h3.size,qG.size,Lz.size,JB.size,fI,LA,by omega,by omega,by omega,by omega,by omega,by omega,by omega,by omega,by omega,by omega,by omega,by omega,fj⟩
  ·refine mk fj fun aaT l9 dG Gk=>⟨aaT,rfl,hL.aC Gk,?_⟩
   replace hL:=hL.aC Gk
   have aaU:=Gk.size
   replace fj:=fj.aA Gk
   refine⟨?_,?_,?_⟩
   ·refine cp fj fun aaV Gl xH BW=>⟨aaV,_,rfl,hL.aC BW,?_⟩
    replace hL:=hL.aC BW
    have aaW:=BW.size
    replace dG:=dG.no BW
    replace fj:=fj.aA BW
    refine⟨?_,?_⟩
    ·intro uS zm Gm Wx Wy xI hL
     have Wz:uS<Gm.size:=(hL.tail).head.lt
     have WA:zm<Gm.size:=(hL).head.lt
     have WB:uS≠zm:=hL.ne (uS,_) cE
     replace xI:=xI.aM
     have aaX:=xI.size
     replace dG:=dG.no xI
     replace xH:=xH.no xI
     replace fj:=fj.aA xI
     exact⟨rfl,l9.size,Gl.size,h3.size,l9.size,xH,dG,by omega,by omega,by omega,by omega,by omega,by omega,by omega,by omega,by omega,by omega,by omega,by omega,fj⟩
    ·intro uT zn Gn WC WD xJ hL
     have WE:uT<Gn.size:=(hL.tail).head.lt
     have WG:zn<Gn.size:=(hL).head.lt
     have WH:uT≠zn:=hL.ne (uT,_) cE
     replace xJ:=xJ.aM
     have aaY:=xJ.size
     replace dG:=dG.no xJ
     replace xH:=xH.no xJ
     replace fj:=fj.aA xJ
     exact⟨rfl,l9.size,Gl.size,h3.size,l9.size,xH,dG,by omega,by omega,by omega,by omega,by omega,by omega,by omega,by omega,by omega,by omega,by omega,by omega,fj⟩
   ·intro aaZ Dr WI BX hL
    have WJ:aaZ<Dr.size:=(hL).head.lt
    replace BX:=BX.aM
    have aa0:=BX.size
    replace dG:=dG.no BX
    replace fj:=fj.aA BX
    refine⟨?_,?_⟩
    ·refine cp fj fun aa1 LB LC BZ=>⟨aa1,_,rfl,hL.aC BZ,?_⟩
     replace hL:=hL.aC BZ
     have aa2:=BZ.size
     replace dG:=dG.no BZ
     replace fj:=fj.aA BZ
     intro aa3 aa4 WL xK hL
     have WM:aa3<aa4.size:=(hL).head.lt
     replace xK:=xK.dI (lo:=l9.size) (hi:=Dr.size) ⟨⟨by omega,by omega⟩,trivial⟩
     have aa5:=xK.size
     replace dG:=dG.iv xK (by omega)
     replace LC:=LC.iv xK (by omega)
     replace fj:=fj.aU xK (by omega)
     exact⟨rfl,Dr.size,LB.size,h3.size,l9.size,LC,dG,by omega,by omega,by omega,by omega,by omega,by omega,by omega,by omega,by omega,by omega,by omega,by omega,fj⟩
    ·intro aa6 Sx WN B3 hL
     have WQ:aa6<Sx.size:=(hL).head.lt
     replace B3:=B3.aM
     have aa7:=B3.size
     replace dG:=dG.no B3
     replace fj:=fj.aA B3
     refine cp fj fun aa8 aa9 Gp B4=>⟨aa8,_,rfl,hL.aC B4,?_⟩
     replace hL:=hL.aC B4
     have aba:=B4.size
     replace dG:=dG.no B4
     replace fj:=fj.aA B4
     intro am8 Gq hL
     have abb:=Gq.size
     replace dG:=dG.fr Gq fun k hk aQ=>by have h1:=(dG.aR hk).1;have h2:=h1.1;have h3:=h1.2;simp only[In,aO,aS,aN]at aQ;omega
     replace Gp:=Gp.fr Gq fun k hk aQ=>by have h1:=(Gp.aR hk).1;have h2:=h1.1;have h3:=h1.2;simp only[In,aO,aS,aN]at aQ;omega
     replace fj:=fj.fresh Gq fun k hk=>by simp only[In,aO,aS,aN]at hk;omega
     exact⟨rfl,Sx.size,aa9.size,h3.size,l9.size,Gp,dG,by omega,by omega,by omega,by omega,by omega,by omega,by omega,by omega,by omega,by omega,by omega,by omega,fj⟩
   ·intro abc LD WR B5 hL
    have WS:abc<LD.size:=(hL).head.lt
    replace B5:=B5.aM
    have abd:=B5.size
    replace dG:=dG.no B5
    replace fj:=fj.aA B5
    refine⟨?_,?_⟩
    ·refine cp fj fun abe abf LF B7=>⟨abe,_,rfl,hL.aC B7,?_⟩
     replace hL:=hL.aC B7
     have abg:=B7.size
     replace dG:=dG.no B7
     replace fj:=fj.aA B7
     intro abh abj WT xL hL
     have WU:abh<abj.size:=(hL).head.lt
     replace xL:=xL.dI (lo:=l9.size) (hi:=LD.size) ⟨⟨by omega,by omega⟩,trivial⟩
     have abk:=xL.size
     replace dG:=dG.iv xL (by omega)
     replace LF:=LF.iv xL (by omega)
     replace fj:=fj.aU xL (by omega)
     exact⟨rfl,LD.size,abf.size,h3.size,l9.size,LF,dG,by omega,by omega,by omega,by omega,by omega,by omega,by omega,by omega,by omega,by omega,by omega,by omega,fj⟩
    ·intro abl Sy WV B8 hL
     have WW:abl<Sy.size:=(hL).head.lt
     replace B8:=B8.aM
     have abm:=B8.size
     replace dG:=dG.no B8
     replace fj:=fj.aA B8
     refine cp fj fun abn abo Gr B9=>⟨abn,_,rfl,hL.aC B9,?_⟩
     replace hL:=hL.aC B9
     have abp:=B9.size
     replace dG:=dG.no B9
     replace fj:=fj.aA B9
     intro am9 Gs hL
     have abq:=Gs.size
     replace dG:=dG.fr Gs fun k hk aQ=>by have h1:=(dG.aR hk).1;have h2:=h1.1;have h3:=h1.2;simp only[In,aO,aS,aN]at aQ;omega
     replace Gr:=Gr.fr Gs fun k hk aQ=>by have h1:=(Gr.aR hk).1;have h2:=h1.1;have h3:=h1.2;simp only[In,aO,aS,aN]at aQ;omega
     replace fj:=fj.fresh Gs fun k hk=>by simp only[In,aO,aS,aN]at hk;omega
     exact⟨rfl,Sy.size,abo.size,h3.size,l9.size,Gr,dG,by omega,by omega,by omega,by omega,by omega,by omega,by omega,by omega,by omega,by omega,by omega,by omega,fj⟩
  ·intro abr nn WX Gt hL
   have WY:abr<nn.size:=(hL).head.lt
   replace Gt:=Gt.aM
   have abt:=Gt.size
   replace fj:=fj.aA Gt
   refine⟨?_,?_,?_⟩
   ·refine cp fj fun abu Ca gX Gu=>⟨abu,_,rfl,hL.aC Gu,?_⟩
    replace hL:=hL.aC Gu
    have abv:=Gu.size
    replace fj:=fj.aA Gu
    refine⟨?_,?_⟩
    ·refine mk fj fun abw abx LG Cb=>⟨abw,rfl,hL.aC Cb,?_⟩
     replace hL:=hL.aC Cb
     have aby:=Cb.size
     replace gX:=gX.no Cb
     replace fj:=fj.aA Cb
     intro abz abA WZ xM hL
     have W4:abz<abA.size:=(hL).head.lt
     replace xM:=xM.dI (lo:=h3.size) (hi:=nn.size) ⟨⟨by omega,by omega⟩,trivial⟩
     have abB:=xM.size
     replace gX:=gX.iv xM (by omega)
     replace LG:=LG.iv xM (by omega)
     replace fj:=fj.aU xM (by omega)
     exact⟨rfl,nn.size,Ca.size,Ca.size,abx.size,gX,LG,by omega,by omega,by omega,by omega,by omega,by omega,by omega,by omega,by omega,by omega,by omega,by omega,fj⟩
    ·intro abC LH Xa Cc hL
     have Xb:abC<LH.size:=(hL).head.lt
     replace Cc:=Cc.aM
     have abD:=Cc.size
     replace gX:=gX.no Cc
     replace fj:=fj.aA Cc
     refine⟨?_,?_⟩
     ·refine mk fj fun abE abF Gv Cd=>⟨abE,rfl,hL.aC Cd,?_⟩
      replace hL:=hL.aC Cd
      have abG:=Cd.size
      replace gX:=gX.no Cd
      replace fj:=fj.aA Cd
      intro ana Gw hL
      have abH:=Gw.size
      replace gX:=gX.fr Gw fun k hk aQ=>by have h1:=(gX.aR hk).1;have h2:=h1.1;have h3:=h1.2;simp only[In,aO,aS,aN]at aQ;omega
      replace Gv:=Gv.fr Gw fun k hk aQ=>by have h1:=(Gv.aR hk).1;have h2:=h1.1;have h3:=h1.2;simp only[In,aO,aS,aN]at aQ;omega
      replace fj:=fj.fresh Gw fun k hk=>by simp only[In,aO,aS,aN]at hk;omega
      exact⟨rfl,nn.size,Ca.size,LH.size,abF.size,gX,Gv,by omega,by omega,by omega,by omega,by omega,by omega,by omega,by omega,by omega,by omega,by omega,by omega,fj⟩
     ·intro abI Ce hL
      replace Ce:=Ce.dI (lo:=h3.size) (hi:=nn.size) ⟨⟨by omega,by omega⟩,trivial⟩
      have abJ:=Ce.size
      replace gX:=gX.iv Ce (by omega)
      replace fj:=fj.aU Ce (by omega)
      refine mk fj fun abK abL LI Cf=>⟨abK,rfl,hL.aC Cf,?_⟩
      replace hL:=hL.aC Cf
      have abM:=Cf.size
      replace gX:=gX.no Cf
      replace fj:=fj.aA Cf
      intro anb xP hL
      replace xP:=xP.dI (lo:=Ca.size) (hi:=LH.size) ⟨⟨by omega,by omega⟩,trivial⟩
      have abN:=xP.size
      replace gX:=gX.iv xP (by omega)
      replace LI:=LI.iv xP (by omega)
      replace fj:=fj.aU xP (by omega)
      exact⟨rfl,nn.size,Ca.size,abI.size,abL.size,gX,LI,by omega,by omega,by omega,by omega,by omega,by omega,by omega,by omega,by omega,by omega,by omega,by omega,fj⟩
   ·refine mk fj fun abO LJ k8 Gx=>⟨abO,rfl,hL.aC Gx,?_⟩
    replace hL:=hL.aC Gx
    have abP:=Gx.size
    replace fj:=fj.aA Gx
    refine⟨?_,?_⟩
    ·refine cp fj fun abQ abR LK Cg=>⟨abQ,_,rfl,hL.aC Cg,?_⟩
     replace hL:=hL.aC Cg
     have abS:=Cg.size
     replace k8:=k8.no Cg
     replace fj:=fj.aA Cg
     intro abT abU Xc xQ hL
     have Xd:abT<abU.size:=(hL).head.lt
     replace xQ:=xQ.dI (lo:=h3.size) (hi:=nn.size) ⟨⟨by omega,by omega⟩,trivial⟩
     have abV:=xQ.size
     replace k8:=k8.iv xQ (by omega)
     replace LK:=LK.iv xQ (by omega)
     replace fj:=fj.aU xQ (by omega)
     exact⟨rfl,LJ.size,abR.size,nn.size,LJ.size,LK,k8,by omega,by omega,by omega,by omega,by omega,by omega,by omega,by omega,by omega,by omega,by omega,by omega,fj⟩
    ·intro abW Sz Xe Ch hL
     have Xf:abW<Sz.size:=(hL).head.lt
     replace Ch:=Ch.aM
     have abX:=Ch.size
     replace k8:=k8.no Ch
     replace fj:=fj.aA Ch
     refine cp fj fun abY abZ Gy Ci=>⟨abY,_,rfl,hL.aC Ci,?_⟩
     replace hL:=hL.aC Ci
     have ab0:=Ci.size
     replace k8:=k8.no Ci
     replace fj:=fj.aA Ci
     intro ane Gz hL
     have ab1:=Gz.size
     replace k8:=k8.fr Gz fun k hk aQ=>by have h1:=(k8.aR hk).1;have h2:=h1.1;have h3:=h1.2;simp only[In,aO,aS,aN]at aQ;omega
     replace Gy:=Gy.fr Gz fun k hk aQ=>by have h1:=(Gy.aR hk).1;have h2:=h1.1;have h3:=h1.2;simp only[In,aO,aS,aN]at aQ;omega
     replace fj:=fj.fresh Gz fun k hk=>by simp only[In,aO,aS,aN]at hk;omega
     exact⟨rfl,Sz.size,abZ.size,nn.size,LJ.size,Gy,k8,by omega,by omega,by omega,by omega,by omega,by omega,by omega,by omega,by omega,by omega,by omega,by omega,fj⟩
   ·intro ab2 Cj Xg GA hL
    have Xh:ab2<Cj.size:=(hL).head.lt
    replace GA:=GA.aM
    have ab3:=GA.size
    replace fj:=fj.aA GA
    refine⟨?_,?_⟩
    ·refine cp fj fun ab4 LM k9 GB=>⟨ab4,_,rfl,hL.aC GB,?_⟩
     replace hL:=hL.aC GB
     have ab5:=GB.size
     replace fj:=fj.aA GB
     refine⟨?_,?_⟩
     ·refine mk fj fun ab6 ab7 GC Ck=>⟨ab6,rfl,hL.aC Ck,?_⟩
      replace hL:=hL.aC Ck
      have ab8:=Ck.size
      replace k9:=k9.no Ck
      replace fj:=fj.aA Ck
      intro anf GD hL
      have ab9:=GD.size
      replace k9:=k9.fr GD fun k hk aQ=>by have h1:=(k9.aR hk).1;have h2:=h1.1;have h3:=h1.2;simp only[In,aO,aS,aN]at aQ;omega
      replace GC:=GC.fr GD fun k hk aQ=>by have h1:=(GC.aR hk).1;have h2:=h1.1;have h3:=h1.2;simp only[In,aO,aS,aN]at aQ;omega
      replace fj:=fj.fresh GD fun k hk=>by simp only[In,aO,aS,aN]at hk;omega
      exact⟨rfl,Cj.size,LM.size,LM.size,ab7.size,k9,GC,by omega,by omega,by omega,by omega,by omega,by omega,by omega,by omega,by omega,by omega,by omega,by omega,fj⟩
     ·intro aca Cm hL
      replace Cm:=Cm.dI (lo:=h3.size) (hi:=nn.size) ⟨⟨by omega,by omega⟩,trivial⟩
      have acb:=Cm.size
      replace k9:=k9.iv Cm (by omega)
      replace fj:=fj.aU Cm (by omega)
      refine mk fj fun acd ace LN Cn=>⟨acd,rfl,hL.aC Cn,?_⟩
      replace hL:=hL.aC Cn
      have acf:=Cn.size
      replace k9:=k9.no Cn
      replace fj:=fj.aA Cn
      intro ang xR hL
      replace xR:=xR.dI (lo:=nn.size) (hi:=Cj.size) ⟨⟨by omega,by omega⟩,trivial⟩
      have acg:=xR.size
      replace k9:=k9.iv xR (by omega)
      replace LN:=LN.iv xR (by omega)
      replace fj:=fj.aU xR (by omega)
      exact⟨rfl,Cj.size,LM.size,aca.size,ace.size,k9,LN,by omega,by omega,by omega,by omega,by omega,by omega,by omega,by omega,by omega,by omega,by omega,by omega,fj⟩
    ·refine mk fj fun ach SA xS GF=>⟨ach,rfl,hL.aC GF,?_⟩
     replace hL:=hL.aC GF
     have aci:=GF.size
     replace fj:=fj.aA GF
     refine cp fj fun acj ack GG Co=>⟨acj,_,rfl,hL.aC Co,?_⟩
     replace hL:=hL.aC Co
     have acm:=Co.size
     replace xS:=xS.no Co
     replace fj:=fj.aA Co
     intro anh GH hL
     have acn:=GH.size
     replace xS:=xS.fr GH fun k hk aQ=>by have h1:=(xS.aR hk).1;have h2:=h1.1;have h3:=h1.2;simp only[In,aO,aS,aN]at aQ;omega
     replace GG:=GG.fr GH fun k hk aQ=>by have h1:=(GG.aR hk).1;have h2:=h1.1;have h3:=h1.2;simp only[In,aO,aS,aN]at aQ;omega
     replace fj:=fj.fresh GH fun k hk=>by simp only[In,aO,aS,aN]at hk;omega
     exact⟨rfl,SA.size,ack.size,Cj.size,SA.size,GG,xS,by omega,by omega,by omega,by omega,by omega,by omega,by omega,by omega,by omega,by omega,by omega,by omega,fj⟩
  ·intro aco jg Xi GI hL
   have Xj:aco<jg.size:=(hL).head.lt
   replace GI:=GI.aM
   have acp:=GI.size
   replace fj:=fj.aA GI
   refine⟨?_,?_,?_⟩
   ·refine cp fj fun acq su gY GJ=>⟨acq,_,rfl,hL.aC GJ,?_⟩
    replace hL:=hL.aC GJ
    have acr:=GJ.size
    replace fj:=fj.aA GJ
    refine⟨?_,?_⟩
    ·refine mk fj fun acs SB LO Cq=>⟨acs,rfl,hL.aC Cq,?_⟩
     replace hL:=hL.aC Cq
     have acu:=Cq.size
     replace gY:=gY.no Cq
     replace fj:=fj.aA Cq
     intro acv SC Xk xT hL
     have Xl:acv<SC.size:=(hL).head.lt
     replace xT:=xT.dI (lo:=h3.size) (hi:=jg.size) ⟨⟨by omega,by omega⟩,trivial⟩
     have acw:=xT.size
     replace gY:=gY.iv xT (by omega)
     replace LO:=LO.iv xT (by omega)
     replace fj:=fj.aU xT (by omega)
     exact⟨rfl,jg.size,su.size,su.size,SB.size,gY,LO,by omega,by omega,by omega,by omega,by omega,by omega,by omega,by omega,by omega,by omega,by omega,by omega,fj⟩
    ·intro acx Cr Xm Cs hL
     have Xn:acx<Cr.size:=(hL).head.lt
     replace Cs:=Cs.aM
     have acy:=Cs.size
     replace gY:=gY.no Cs
     replace fj:=fj.aA Cs
     refine⟨?_,?_⟩
     ·refine mk fj fun acz SD GK Ct=>⟨acz,rfl,hL.aC Ct,?_⟩
      replace hL:=hL.aC Ct
      have acA:=Ct.size
      replace gY:=gY.no Ct
      replace fj:=fj.aA Ct
      intro aga GM hL
      have acB:=GM.size
      replace gY:=gY.fr GM fun k hk aQ=>by have h1:=(gY.aR hk).1;have h2:=h1.1;have h3:=h1.2;simp only[In,aO,aS,aN]at aQ;omega
      replace GK:=GK.fr GM fun k hk aQ=>by have h1:=(GK.aR hk).1;have h2:=h1.1;have h3:=h1.2;simp only[In,aO,aS,aN]at aQ;omega
      replace fj:=fj.fresh GM fun k hk=>by simp only[In,aO,aS,aN]at hk;omega
      exact⟨rfl,jg.size,su.size,Cr.size,SD.size,gY,GK,by omega,by omega,by omega,by omega,by omega,by omega,by omega,by omega,by omega,by omega,by omega,by omega,fj⟩
     ·intro SE Cu hL
      replace Cu:=Cu.dI (lo:=su.size) (hi:=Cr.size) ⟨⟨by omega,by omega⟩,trivial⟩
      have acC:=Cu.size
      replace gY:=gY.iv Cu (by omega)
      replace fj:=fj.aU Cu (by omega)
      refine mk fj fun acD SG LP Cv=>⟨acD,rfl,hL.aC Cv,?_⟩
      replace hL:=hL.aC Cv
      have acE:=Cv.size
      replace gY:=gY.no Cv
      replace fj:=fj.aA Cv
      intro agb xU hL
      replace xU:=xU.dI (lo:=h3.size) (hi:=jg.size) ⟨⟨by omega,by omega⟩,trivial⟩
      have acF:=xU.size
      replace gY:=gY.iv xU (by omega)
      replace LP:=LP.iv xU (by omega)
      replace fj:=fj.aU xU (by omega)
      exact⟨rfl,jg.size,su.size,SE.size,SG.size,gY,LP,by omega,by omega,by omega,by omega,by omega,by omega,by omega,by omega,by omega,by omega,by omega,by omega,fj⟩
   ·refine mk fj fun acG Cw lc GN=>⟨acG,rfl,hL.aC GN,?_⟩
    replace hL:=hL.aC GN
    have acH:=GN.size
    replace fj:=fj.aA GN
    refine⟨?_,?_⟩
    ·refine cp fj fun acI SH LQ Cx=>⟨acI,_,rfl,hL.aC Cx,?_⟩
     replace hL:=hL.aC Cx
     have acJ:=Cx.size
     replace lc:=lc.no Cx
     replace fj:=fj.aA Cx
     intro acK SI Xo xV hL
     have Xp:acK<SI.size:=(hL).head.lt
     replace xV:=xV.dI (lo:=h3.size) (hi:=jg.size) ⟨⟨by omega,by omega⟩,trivial⟩
     have acL:=xV.size
     replace lc:=lc.iv xV (by omega)
     replace LQ:=LQ.iv xV (by omega)
     replace fj:=fj.aU xV (by omega)
     exact⟨rfl,Cw.size,SH.size,jg.size,Cw.size,LQ,lc,by omega,by omega,by omega,by omega,by omega,by omega,by omega,by omega,by omega,by omega,by omega,by omega,fj⟩
    ·intro acM JC Xq Cy hL
     have Xr:acM<JC.size:=(hL).head.lt
     replace Cy:=Cy.aM
     have acN:=Cy.size
     replace lc:=lc.no Cy
     replace fj:=fj.aA Cy
     refine cp fj fun acO SJ GO Cz=>⟨acO,_,rfl,hL.aC Cz,?_⟩
     replace hL:=hL.aC Cz
     have acP:=Cz.size
     replace lc:=lc.no Cz
     replace fj:=fj.aA Cz
     intro agc GP hL
     have acQ:=GP.size
     replace lc:=lc.fr GP fun k hk aQ=>by have h1:=(lc.aR hk).1;have h2:=h1.1;have h3:=h1.2;simp only[In,aO,aS,aN]at aQ;omega
     replace GO:=GO.fr GP fun k hk aQ=>by have h1:=(GO.aR hk).1;have h2:=h1.1;have h3:=h1.2;simp only[In,aO,aS,aN]at aQ;omega
     replace fj:=fj.fresh GP fun k hk=>by simp only[In,aO,aS,aN]at hk;omega
     exact⟨rfl,JC.size,SJ.size,jg.size,Cw.size,GO,lc,by omega,by omega,by omega,by omega,by omega,by omega,by omega,by omega,by omega,by omega,by omega,by omega,fj⟩
   ·intro acR sv Xs GQ hL
    have Xt:acR<sv.size:=(hL).head.lt
    replace GQ:=GQ.aM
    have acS:=GQ.size
    replace fj:=fj.aA GQ
    refine⟨?_,?_⟩
    ·refine cp fj fun acT CA ld GS=>⟨acT,_,rfl,hL.aC GS,?_⟩
     replace hL:=hL.aC GS
     have acU:=GS.size
     replace fj:=fj.aA GS
     refine⟨?_,?_⟩
     ·refine mk fj fun acV SK GU CB=>⟨acV,rfl,hL.aC CB,?_⟩
      replace hL:=hL.aC CB
      have acW:=CB.size
      replace ld:=ld.no CB
      replace fj:=fj.aA CB
      intro agd GV hL
      have acX:=GV.size
      replace ld:=ld.fr GV fun k hk aQ=>by have h1:=(ld.aR hk).1;have h2:=h1.1;have h3:=h1.2;simp only[In,aO,aS,aN]at aQ;omega
      replace GU:=GU.fr GV fun k hk aQ=>by have h1:=(GU.aR hk).1;have h2:=h1.1;have h3:=h1.2;simp only[In,aO,aS,aN]at aQ;omega
      replace fj:=fj.fresh GV fun k hk=>by simp only[In,aO,aS,aN]at hk;omega
      exact⟨rfl,sv.size,CA.size,CA.size,SK.size,ld,GU,by omega,by omega,by omega,by omega,by omega,by omega,by omega,by omega,by omega,by omega,by omega,by omega,fj⟩
     ·intro SL CC hL
      replace CC:=CC.dI (lo:=jg.size) (hi:=sv.size) ⟨⟨by omega,by omega⟩,trivial⟩
      have acY:=CC.size
      replace ld:=ld.iv CC (by omega)
      replace fj:=fj.aU CC (by omega)
      refine mk fj fun acZ SM LR CD=>⟨acZ,rfl,hL.aC CD,?_⟩
      replace hL:=hL.aC CD
      have ac0:=CD.size
      replace ld:=ld.no CD
      replace fj:=fj.aA CD
      intro age xW hL
      replace xW:=xW.dI (lo:=h3.size) (hi:=jg.size) ⟨⟨by omega,by omega⟩,trivial⟩
      have ac1:=xW.size
      replace ld:=ld.iv xW (by omega)
      replace LR:=LR.iv xW (by omega)
      replace fj:=fj.aU xW (by omega)
      exact⟨rfl,sv.size,CA.size,SL.size,SM.size,ld,LR,by omega,by omega,by omega,by omega,by omega,by omega,by omega,by omega,by omega,by omega,by omega,by omega,fj⟩
    ·refine mk fj fun ac2 JD xX GW=>⟨ac2,rfl,hL.aC GW,?_⟩
     replace hL:=hL.aC GW
     have ac3:=GW.size
     replace fj:=fj.aA GW
     refine cp fj fun ac4 SN GY CE=>⟨ac4,_,rfl,hL.aC CE,?_⟩
     replace hL:=hL.aC CE
     have ac5:=CE.size
     replace xX:=xX.no CE
     replace fj:=fj.aA CE
     intro agf GZ hL
     have ac6:=GZ.size
     replace xX:=xX.fr GZ fun k hk aQ=>by have h1:=(xX.aR hk).1;have h2:=h1.1;have h3:=h1.2;simp only[In,aO,aS,aN]at aQ;omega
     replace GY:=GY.fr GZ fun k hk aQ=>by have h1:=(GY.aR hk).1;have h2:=h1.1;have h3:=h1.2;simp only[In,aO,aS,aN]at aQ;omega
     replace fj:=fj.fresh GZ fun k hk=>by simp only[In,aO,aS,aN]at hk;omega
     exact⟨rfl,JD.size,SN.size,sv.size,JD.size,GY,xX,by omega,by omega,by omega,by omega,by omega,by omega,by omega,by omega,by omega,by omega,by omega,by omega,fj⟩
 rintro bN x1 x2 bO x3 CF ⟨rfl,i1,j1,i2,j2,o1,o2,d12,dN1,dN2,dO1,dO2,e1,e2',e3,e4,e5,e6,fH,f134⟩ np
 have f0:=iR.aA f134
 have anj:=f134.size
 have lO:bO<CF.size:=np.head.lt
 have lN:bN<CF.size:=np.tail.head.lt
 have ac7:dE (fun k=>k<h3.size) CF g aI:=(G.no iR).low.no f134
 have xN:¬x1.own bN:=fun hk=>by have h1:=(o1.aR hk).1.1;have h2:=(o1.aR hk).1.2;omega
 have xO:¬x3.own bO:=fun hk=>by have h1:=(o2.aR hk).1.1;have h2:=(o2.aR hk).1.2;omega
 have x1O:¬x1.own bO:=fun hk=>by have h1:=(o1.aR hk).1.1;have h2:=(o1.aR hk).1.2;omega
 have x3N:¬x3.own bN:=fun hk=>by have h1:=(o2.aR hk).1.1;have h2:=(o2.aR hk).1.2;omega
 have MO:∀k,x1.own k->¬x3.own k:=fun k h1 h3=>by have a1:=(o1.aR h1).1.1;have a2:=(o1.aR h1).1.2;have a3:=(o2.aR h3).1.1;have a4:=(o2.aR h3).1.2;omega
 have x1g:∀k,x1.own k->h3.size<=k/\k<CF.size:=fun k hk=>⟨by have:=(o1.aR hk).1.1;omega,(o1.aR hk).2⟩
 have x3g:∀k,x3.own k->h3.size<=k/\k<CF.size:=fun k hk=>⟨by have:=(o2.aR hk).1.1;omega,(o2.aR hk).2⟩
 --what the ac8 region and the other one are off
 have tP:∀k,(k=bN\/x1.own k)\/(k=bO\/x3.own k)->h3.size<=k:=fun k hk=>by
  rcases hk with(rfl|hk)|(rfl|hk)
  ·omega
  ·exact(x1g k hk).1
  ·omega
  ·exact(x3g k hk).1
 refine QU (s0:=(rs,x2)) (F:=fun k=>k=bN\/x1.own k) (S:=fun k=>k<h3.size) KX
  (fun N t h'=>∃o:Sl,cC h' bO [o.v]/\cM h' (fun k=>h3.size<=k) o t/\∀k,o.own k->x3.own k\/N<=k) (fun k=>k=bO\/x3.own k)
  ac7 np.tail.head (o1.mono fun k hk _=> .inr hk) (fun k hk=>⟨fun h=>by have:=tP k (.inl h);omega,fun h=>by have:=tP k (.inr h);omega⟩) (.inl rfl) xN W n (by omega) (by omega) _ (List.replicate aI.length 0)
  (fun k hk=>by rcases hk with rfl|hk;exact lN;exact(x1g k hk).2)
  (fun k hk=>⟨fun h=>by
   rcases hk with rfl|hk<;>rcases h with rfl|h
   ·exact fH rfl
   ·exact x1O h
   ·exact x3N hk
   ·exact MO k h hk,by rcases hk with rfl|hk;exact lO;exact(x3g k hk).2⟩)
  (fun N hN=>⟨x3,np.head,o2.mono fun k _ hk=>by have:=hk.1;omega,fun k hk=> .inl hk⟩)
  (fun N t h1 h2 U ⟨o,v1,v2,v3⟩ f hU=>⟨o,v1.fr f fun h=>(hU _ h).1 (.inl rfl),v2.fr f fun k hk aQ=>by
   rcases v3 k hk with h|h
   ·exact(hU k aQ).1 (.inr h)
   ·have:=(hU k aQ).2;omega,v3⟩)
  (fun N t s s' h1 K hN hN2 ⟨o,v1,v2,v3⟩ V O W hs hm HK=> ?_) _ (fun hr N t h9 q hN ⟨o,v1,v2,v3⟩ v9 f9=> ?_) fun t' s' hr N h9 hN ⟨o,v1,v2,v3⟩ o9 W9 v9 f9=> ?_
 ·obtain⟨m,hm,hr⟩:=hm
  have hl:=CG m 0 _ _ _ _ (fun x hx=>by simp only[uF]at hx;omega) hr
  have ob:¬o.own bO:=fun hk=>by
   rcases v3 _ hk with h|h
   ·exact xO h
   ·omega
  have ob':¬o.own bN:=fun hk=>by
   rcases v3 _ hk with h|h
   ·exact x3N h
   ·omega
  have W':=W.step hs
  have ht:t.length=aI.length:=by rw[hl.1];simp
  refine ac9 v1 V fH v2 ob ob' W'.lo (by rw[ht];exact W'.hi) (fun x hx=>by have:=hl.2 x hx;omega) s.2 K fun h2 v w1 w2 w4=>HK h2 v ⟨o,w1,w2,v3⟩ (w4.mono fun k _ hk=>(v3 k hk).imp .inr id)
 ·have gM:Vars h9 [(bO,[o.v]),(bN,[x1.v,VI q]),(b2,[w.v,VI x2]),(b1,[g.v])]:= .cons v1 (fun p hp=>by
   have:=np.ne
   simp only[aO,aS,aN]at hp
   rcases hp with rfl|rfl|rfl<;>simp only<;>omega) (.cons v9 (fun p hp=>by
   simp only[aO,aS,aN]at hp
   rcases hp with rfl|rfl<;>simp only<;>omega) (np.tail.tail.fr f9 fun p hp hk=>by
   have:=tP _ hk
   simp only[aO,aS,aN]at hp
   rcases hp with rfl|rfl<;>simp only at this<;>omega))
  refine⟨o,x1,q,false,rfl,gM,fun _=> ?_,fun e=>by simp at e⟩
  rw[hr]at e2
  exact no e2 h9 (f0.fresh f9 fun k hk=>by have:=tP k hk;omega)
 ·have gM:Vars h9 [(bO,[o.v]),(bN,[x1.v,VI s'.2]),(b2,[w.v,VI x2]),(b1,[g.v])]:= .cons v1 (fun p hp=>by
   simp only[aO,aS,aN]at hp
   rcases hp with rfl|rfl|rfl<;>simp only<;>omega) (.cons v9 (fun p hp=>by
   simp only[aO,aS,aN]at hp
   rcases hp with rfl|rfl<;>simp only<;>omega) (np.tail.tail.fr f9 fun p hp hk=>by
   have:=tP _ hk
   simp only[aO,aS,aN]at hp
   rcases hp with rfl|rfl<;>simp only at this<;>omega))
  refine⟨o,x1,s'.2,true,rfl,gM,fun e=>by simp at e,fun _=> ?_⟩
  rw[hr]at e2
  have:=HK o h9 (by rw[e2];exact v2.mono fun k hk hF=>⟨by omega,(v2.aR hk).2⟩) (f0.fresh f9 fun k hk=>by have:=tP k hk;omega)
  rw[e2]at this
  exact this
def Ha(P:Program)(JE:Heap)(ku:Nat)(sA:Sl)(sB:Int)(tW:Nat)(mc:Sl)(me:Int)(lK:Nat)(oH:Sl)(oI:Int)(nH:Nat)(oF:Sl)(oG:Int)(cO:Sl)(cP:Int)(lL:Nat)(lM:Nat)(eH:Sl)(K:aL):Prop:=
 ∀(xD:Nat)(Ga:Heap),JE.size<=xD->Fr (In [ku]) JE Ga->Vars Ga [(xD,[(Sl.v sA),(VI sB)]),(tW,[(Sl.v mc),(VI me)]),(lK,[(Sl.v oH),(VI oI)]),(nH,[(Sl.v oF),(VI oG)]),(ku,[(Sl.v cO),(VI cP)]),(lL,[(Sl.v cO),(VI cP)]),(lM,[(Sl.v eH)])]->
 K (Value.tuple #[(VI 0),(Value.agg #[(Sl.v cO),(VI cP)]),(VI 0)]) Ga
def Hb(P:Program)(iJ:Int)(sC:Int)(ku:Nat)(LU:Heap)(nG:Nat)(xY:Sl)(xZ:Int)(oE:Nat)(ya:Sl)(yb:Int)(lK:Nat)(oH:Sl)(oI:Int)(nH:Nat)(oF:Sl)(oG:Int)(cO:Sl)(cP:Int)(lL:Nat)(lM:Nat)(eH:Sl)(K:aL):Prop:=
 ((decide (2000<(aX (iJ+sC))))=true->
 ∀(ada:Heap),Fr (In [ku]) LU ada->Vars ada [(nG,[(Sl.v xY),(VI xZ)]),(oE,[(Sl.v ya),(VI yb)]),(lK,[(Sl.v oH),(VI oI)]),(nH,[(Sl.v oF),(VI oG)]),(ku,[(Sl.v cO),(VI cP)]),(lL,[(Sl.v cO),(VI cP)]),(lM,[(Sl.v eH)])]->
 K (Value.tuple #[(VI 0),(Value.agg #[(Sl.v cO),(VI cP)]),(VI 0)]) ada)/\
 ((decide (2000<(aX (iJ+sC))))=false->
 ∀(adb:Heap),Fr (In [ku]) LU adb->Vars adb [(nG,[(Sl.v xY),(VI xZ)]),(oE,[(Sl.v ya),(VI yb)]),(lK,[(Sl.v oH),(VI oI)]),(nH,[(Sl.v oF),(VI oG)]),(ku,[(Sl.v ya),(VI yb)]),(lL,[(Sl.v cO),(VI cP)]),(lM,[(Sl.v eH)])]->
 K (Value.tuple #[(VI iJ),(Value.agg #[(Sl.v ya),(VI yb)]),(VI sC)]) adb)
def CH(P:Program)(sD:Bool)(ku:Nat)(vZ:Heap)(lK:Nat)(oH:Sl)(oI:Int)(nH:Nat)(oF:Sl)(oG:Int)(cO:Sl)(cP:Int)(lL:Nat)(lM:Nat)(eH:Sl)(K:aL):Prop:=
 ((! sD)=true->
 ∀(Gb:Heap),Fr (In [ku]) vZ Gb->Vars Gb [(lK,[(Sl.v oH),(VI oI)]),(nH,[(Sl.v oF),(VI oG)]),(ku,[(Sl.v cO),(VI cP)]),(lL,[(Sl.v cO),(VI cP)]),(lM,[(Sl.v eH)])]->
 K (Value.tuple #[(VI 0),(Value.agg #[(Sl.v cO),(VI cP)]),(VI 0)]) Gb)/\
 ((! sD)=false->
 aG P 227 #[(Value.agg #[(Sl.v eH)]),(Value.agg #[(Sl.v oF),(VI oG)]),(VI 2000)] vZ fun anm vU=>∃sC:Int,anm=(VI sC)/\Vars vU [(lK,[(Sl.v oH),(VI oI)]),(nH,[(Sl.v oF),(VI oG)]),(ku,[(Sl.v aD),(VI 0)]),(lL,[(Sl.v cO),(VI cP)]),(lM,[(Sl.v eH)])]/\
 ((decide (sC=0))=true->
 ∀(vV:Heap),Fr (In [ku]) vU vV->Vars vV [(lK,[(Sl.v oH),(VI oI)]),(nH,[(Sl.v oF),(VI oG)]),(ku,[(Sl.v cO),(VI cP)]),(lL,[(Sl.v cO),(VI cP)]),(lM,[(Sl.v eH)])]->
 K (Value.tuple #[(VI 0),(Value.agg #[(Sl.v cO),(VI cP)]),(VI 0)]) vV)/\
 ((decide (sC=0))=false->
 ∃J_3:Nat->Sl->Int->Nat->Sl->Int->Heap->Prop,((∀(uS:Nat)(BJ:Heap),vU.size<=uS->Fr (In []) vU BJ->Vars BJ [(uS,[(Sl.v aD),(VI 0)]),(lK,[(Sl.v oH),(VI oI)]),(nH,[(Sl.v oF),(VI oG)]),(ku,[(Sl.v aD),(VI 0)]),(lL,[(Sl.v cO),(VI cP)]),(lM,[(Sl.v eH)])]->
 ∀(zm:Nat)(Jx:Heap),BJ.size<=zm->Fr (In []) BJ Jx->Vars Jx [(zm,[(Sl.v aD),(VI 0)]),(uS,[(Sl.v aD),(VI 0)]),(lK,[(Sl.v oH),(VI oI)]),(nH,[(Sl.v oF),(VI oG)]),(ku,[(Sl.v aD),(VI 0)]),(lL,[(Sl.v cO),(VI cP)]),(lM,[(Sl.v eH)])]->
 ∀(Gc:Heap),Fr (In [uS]) Jx Gc->Vars Gc [(zm,[(Sl.v aD),(VI 0)]),(uS,[(Sl.v cO),(VI cP)]),(lK,[(Sl.v oH),(VI oI)]),(nH,[(Sl.v oF),(VI oG)]),(ku,[(Sl.v aD),(VI 0)]),(lL,[(Sl.v cO),(VI cP)]),(lM,[(Sl.v eH)])]->
 ∀(Lz:Heap),Fr (In [zm]) Gc Lz->Vars Lz [(zm,[(Sl.v cO),(VI cP)]),(uS,[(Sl.v cO),(VI cP)]),(lK,[(Sl.v oH),(VI oI)]),(nH,[(Sl.v oF),(VI oG)]),(ku,[(Sl.v aD),(VI 0)]),(lL,[(Sl.v cO),(VI cP)]),(lM,[(Sl.v eH)])]->
 J_3 uS cO cP zm cO cP Lz)/\
 (∀(uT:Nat)(JB:Heap),vU.size<=uT->Fr (In []) vU JB->Vars JB [(uT,[(Sl.v aD),(VI 0)]),(lK,[(Sl.v oH),(VI oI)]),(nH,[(Sl.v oF),(VI oG)]),(ku,[(Sl.v aD),(VI 0)]),(lL,[(Sl.v cO),(VI cP)]),(lM,[(Sl.v eH)])]->
 ∀(zn:Nat)(Sv:Heap),JB.size<=zn->Fr (In []) JB Sv->Vars Sv [(zn,[(Sl.v aD),(VI 0)]),(uT,[(Sl.v aD),(VI 0)]),(lK,[(Sl.v oH),(VI oI)]),(nH,[(Sl.v oF),(VI oG)]),(ku,[(Sl.v aD),(VI 0)]),(lL,[(Sl.v cO),(VI cP)]),(lM,[(Sl.v eH)])]->
 ∀(l9:Heap),Fr (In [zn]) Sv l9->Vars l9 [(zn,[(Sl.v cO),(VI cP)]),(uT,[(Sl.v aD),(VI 0)]),(lK,[(Sl.v oH),(VI oI)]),(nH,[(Sl.v oF),(VI oG)]),(ku,[(Sl.v aD),(VI 0)]),(lL,[(Sl.v cO),(VI cP)]),(lM,[(Sl.v eH)])]->
 ∀(Gl:Heap),Fr (In [uT]) l9 Gl->Vars Gl [(zn,[(Sl.v cO),(VI cP)]),(uT,[(Sl.v cO),(VI cP)]),(lK,[(Sl.v oH),(VI oI)]),(nH,[(Sl.v oF),(VI oG)]),(ku,[(Sl.v aD),(VI 0)]),(lL,[(Sl.v cO),(VI cP)]),(lM,[(Sl.v eH)])]->
 J_3 zn cO cP uT cO cP Gl))/\
 ∀(oE:Nat)(x_9:Sl)(Pt:Int)(nG:Nat)(ade:Sl)(adf:Int)(adg:Heap),J_3 oE x_9 Pt nG ade adf adg->Vars adg [(nG,[(Sl.v ade),(VI adf)]),(oE,[(Sl.v x_9),(VI Pt)]),(lK,[(Sl.v oH),(VI oI)]),(nH,[(Sl.v oF),(VI oG)]),(ku,[(Sl.v aD),(VI 0)]),(lL,[(Sl.v cO),(VI cP)]),(lM,[(Sl.v eH)])]->
 ∃J_4:Nat->Int->Sl->Int->Heap->Prop,(∃n0:Nat,J_4 n0 0 ade adf adg)/\
 ∀(n_2:Nat)(NK:Int)(SP:Sl)(SQ:Int)(Xu:Heap),J_4 n_2 NK SP SQ Xu->Vars Xu [(nG,[(Sl.v SP),(VI SQ)]),(oE,[(Sl.v x_9),(VI Pt)]),(lK,[(Sl.v oH),(VI oI)]),(nH,[(Sl.v oF),(VI oG)]),(ku,[(Sl.v aD),(VI 0)]),(lL,[(Sl.v cO),(VI cP)]),(lM,[(Sl.v eH)])]->
 ((decide (NK<sC))=true->
 aG P 177 #[(Value.agg #[(Sl.v eH)]),(Value.agg #[(Sl.v SP),(VI SQ)])] Xu fun anp agk=>∃SR:Sl,∃SS:Int,∃agl:Bool,anp=(Value.tuple #[(Value.agg #[(Sl.v SR),(VI SS)]),(VB agl)])/\Vars agk [(nG,[(Sl.v SP),(VI SQ)]),(oE,[(Sl.v x_9),(VI Pt)]),(lK,[(Sl.v oH),(VI oI)]),(nH,[(Sl.v oF),(VI oG)]),(ku,[(Sl.v aD),(VI 0)]),(lL,[(Sl.v cO),(VI cP)]),(lM,[(Sl.v eH)])]/\
 ∀(Gm:Heap),Fr (In [nG]) agk Gm->Vars Gm [(nG,[(Sl.v SR),(VI SS)]),(oE,[(Sl.v x_9),(VI Pt)]),(lK,[(Sl.v oH),(VI oI)]),(nH,[(Sl.v oF),(VI oG)]),(ku,[(Sl.v aD),(VI 0)]),(lL,[(Sl.v cO),(VI cP)]),(lM,[(Sl.v eH)])]->
 ∃m:Nat,m<n_2/\J_4 m (aX (NK+1)) SR SS Gm)/\
 ((decide (NK<sC))=false->
 ∃RC:Nat->Int->Sl->Int->Sl->Int->Heap->Prop,(∃n0:Nat,RC n0 0 SP SQ x_9 Pt Xu)/\
 ∀(n_3:Nat)(iJ:Int)(xY:Sl)(xZ:Int)(ya:Sl)(yb:Int)(adh:Heap),RC n_3 iJ xY xZ ya yb adh->Vars adh [(nG,[(Sl.v xY),(VI xZ)]),(oE,[(Sl.v ya),(VI yb)]),(lK,[(Sl.v oH),(VI oI)]),(nH,[(Sl.v oF),(VI oG)]),(ku,[(Sl.v aD),(VI 0)]),(lL,[(Sl.v cO),(VI cP)]),(lM,[(Sl.v eH)])]->
 aG P 226 #[(Value.agg #[(Sl.v ya),(VI yb)]),(Value.agg #[(Sl.v xY),(VI xZ)])] adh fun anq LU=>∃SU:Bool,anq=(VB SU)/\Vars LU [(nG,[(Sl.v xY),(VI xZ)]),(oE,[(Sl.v ya),(VI yb)]),(lK,[(Sl.v oH),(VI oI)]),(nH,[(Sl.v oF),(VI oG)]),(ku,[(Sl.v aD),(VI 0)]),(lL,[(Sl.v cO),(VI cP)]),(lM,[(Sl.v eH)])]/\
 ((! SU)=true->
 ((decide (iJ<=2000))=true->
 aG P 177 #[(Value.agg #[(Sl.v eH)]),(Value.agg #[(Sl.v ya),(VI yb)])] LU fun anr agm=>∃JF:Sl,∃JG:Int,∃agn:Bool,anr=(Value.tuple #[(Value.agg #[(Sl.v JF),(VI JG)]),(VB agn)])/\Vars agm [(nG,[(Sl.v xY),(VI xZ)]),(oE,[(Sl.v ya),(VI yb)]),(lK,[(Sl.v oH),(VI oI)]),(nH,[(Sl.v oF),(VI oG)]),(ku,[(Sl.v aD),(VI 0)]),(lL,[(Sl.v cO),(VI cP)]),(lM,[(Sl.v eH)])]/\
 ∀(Gn:Heap),Fr (In [oE]) agm Gn->Vars Gn [(nG,[(Sl.v xY),(VI xZ)]),(oE,[(Sl.v JF),(VI JG)]),(lK,[(Sl.v oH),(VI oI)]),(nH,[(Sl.v oF),(VI oG)]),(ku,[(Sl.v aD),(VI 0)]),(lL,[(Sl.v cO),(VI cP)]),(lM,[(Sl.v eH)])]->
 aG P 177 #[(Value.agg #[(Sl.v eH)]),(Value.agg #[(Sl.v xY),(VI xZ)])] Gn fun ans Dr=>∃LV:Sl,∃LW:Int,∃adi:Bool,ans=(Value.tuple #[(Value.agg #[(Sl.v LV),(VI LW)]),(VB adi)])/\Vars Dr [(nG,[(Sl.v xY),(VI xZ)]),(oE,[(Sl.v JF),(VI JG)]),(lK,[(Sl.v oH),(VI oI)]),(nH,[(Sl.v oF),(VI oG)]),(ku,[(Sl.v aD),(VI 0)]),(lL,[(Sl.v cO),(VI cP)]),(lM,[(Sl.v eH)])]/\
 ∀(LB:Heap),Fr (In [nG]) Dr LB->Vars LB [(nG,[(Sl.v LV),(VI LW)]),(oE,[(Sl.v JF),(VI JG)]),(lK,[(Sl.v oH),(VI oI)]),(nH,[(Sl.v oF),(VI oG)]),(ku,[(Sl.v aD),(VI 0)]),(lL,[(Sl.v cO),(VI cP)]),(lM,[(Sl.v eH)])]->
 ∃m:Nat,m<n_3/\RC m (aX (iJ+1)) LV LW JF JG LB)/\
 ((decide (iJ<=2000))=false->
 Hb P iJ sC ku LU nG xY xZ oE ya yb lK oH oI nH oF oG cO cP lL lM eH K))/\
 ((! SU)=false->
 Hb P iJ sC ku LU nG xY xZ oE ya yb lK oH oI nH oF oG cO cP lL lM eH K))))
def ago(P:Program)(eH:Sl)(cO:Sl)(cP:Int)(h:Heap)(K:aL):Prop:=
 ∀(lM:Nat)(lL:Nat)(ku:Nat)(TW:Heap),h.size<=lM->h.size<=lL->h.size<=ku->Fr (In []) h TW->Vars TW [(ku,[(Sl.v aD),(VI 0)]),(lL,[(Sl.v cO),(VI cP)]),(lM,[(Sl.v eH)])]->
 ∃J_1:Nat->Sl->Int->Nat->Sl->Int->Heap->Prop,((∀(Po:Nat)(qG:Heap),TW.size<=Po->Fr (In []) TW qG->Vars qG [(Po,[(Sl.v aD),(VI 0)]),(ku,[(Sl.v aD),(VI 0)]),(lL,[(Sl.v cO),(VI cP)]),(lM,[(Sl.v eH)])]->
 ∀(NJ:Nat)(Wc:Heap),qG.size<=NJ->Fr (In []) qG Wc->Vars Wc [(NJ,[(Sl.v aD),(VI 0)]),(Po,[(Sl.v aD),(VI 0)]),(ku,[(Sl.v aD),(VI 0)]),(lL,[(Sl.v cO),(VI cP)]),(lM,[(Sl.v eH)])]->
 ∀(h_6:Heap),Fr (In [Po]) Wc h_6->Vars h_6 [(NJ,[(Sl.v aD),(VI 0)]),(Po,[(Sl.v cO),(VI cP)]),(ku,[(Sl.v aD),(VI 0)]),(lL,[(Sl.v cO),(VI cP)]),(lM,[(Sl.v eH)])]->
 ∀(h_7:Heap),Fr (In [NJ]) h_6 h_7->Vars h_7 [(NJ,[(Sl.v cO),(VI cP)]),(Po,[(Sl.v cO),(VI cP)]),(ku,[(Sl.v aD),(VI 0)]),(lL,[(Sl.v cO),(VI cP)]),(lM,[(Sl.v eH)])]->
 J_1 Po cO cP NJ cO cP h_7)/\
 (∀(Pq:Nat)(h_8:Heap),TW.size<=Pq->Fr (In []) TW h_8->Vars h_8 [(Pq,[(Sl.v aD),(VI 0)]),(ku,[(Sl.v aD),(VI 0)]),(lL,[(Sl.v cO),(VI cP)]),(lM,[(Sl.v eH)])]->
 ∀(Ui:Nat)(We:Heap),h_8.size<=Ui->Fr (In []) h_8 We->Vars We [(Ui,[(Sl.v aD),(VI 0)]),(Pq,[(Sl.v aD),(VI 0)]),(ku,[(Sl.v aD),(VI 0)]),(lL,[(Sl.v cO),(VI cP)]),(lM,[(Sl.v eH)])]->
 ∀(adj:Heap),Fr (In [Ui]) We adj->Vars adj [(Ui,[(Sl.v cO),(VI cP)]),(Pq,[(Sl.v aD),(VI 0)]),(ku,[(Sl.v aD),(VI 0)]),(lL,[(Sl.v cO),(VI cP)]),(lM,[(Sl.v eH)])]->
 ∀(adk:Heap),Fr (In [Pq]) adj adk->Vars adk [(Ui,[(Sl.v cO),(VI cP)]),(Pq,[(Sl.v cO),(VI cP)]),(ku,[(Sl.v aD),(VI 0)]),(lL,[(Sl.v cO),(VI cP)]),(lM,[(Sl.v eH)])]->
 J_1 Ui cO cP Pq cO cP adk))/\
 ∀(nH:Nat)(x_1:Sl)(x_2:Int)(lK:Nat)(x_3:Sl)(x_4:Int)(adl:Heap),J_1 nH x_1 x_2 lK x_3 x_4 adl->Vars adl [(lK,[(Sl.v x_3),(VI x_4)]),(nH,[(Sl.v x_1),(VI x_2)]),(ku,[(Sl.v aD),(VI 0)]),(lL,[(Sl.v cO),(VI cP)]),(lM,[(Sl.v eH)])]->
 ∃J_2:Nat->Bool->Int->Sl->Int->Sl->Int->Heap->Prop,(∃n0:Nat,J_2 n0 false 1 x_3 x_4 x_1 x_2 adl)/\
 ∀(n_1:Nat)(sD:Bool)(NL:Int)(oH:Sl)(oI:Int)(oF:Sl)(oG:Int)(vZ:Heap),J_2 n_1 sD NL oH oI oF oG vZ->Vars vZ [(lK,[(Sl.v oH),(VI oI)]),(nH,[(Sl.v oF),(VI oG)]),(ku,[(Sl.v aD),(VI 0)]),(lL,[(Sl.v cO),(VI cP)]),(lM,[(Sl.v eH)])]->
 ((decide ((aX (2*NL))<=4000))=true->
 ((! sD)=true->
 aG P 177 #[(Value.agg #[(Sl.v eH)]),(Value.agg #[(Sl.v oF),(VI oG)])] vZ fun Zh uR=>∃mc:Sl,∃me:Int,∃SV:Bool,Zh=(Value.tuple #[(Value.agg #[(Sl.v mc),(VI me)]),(VB SV)])/\Vars uR [(lK,[(Sl.v oH),(VI oI)]),(nH,[(Sl.v oF),(VI oG)]),(ku,[(Sl.v aD),(VI 0)]),(lL,[(Sl.v cO),(VI cP)]),(lM,[(Sl.v eH)])]/\
 ∀(tW:Nat)(adm:Heap),uR.size<=tW->Fr (In []) uR adm->Vars adm [(tW,[(Sl.v mc),(VI me)]),(lK,[(Sl.v oH),(VI oI)]),(nH,[(Sl.v oF),(VI oG)]),(ku,[(Sl.v aD),(VI 0)]),(lL,[(Sl.v cO),(VI cP)]),(lM,[(Sl.v eH)])]->
 aG P 177 #[(Value.agg #[(Sl.v eH)]),(Value.agg #[(Sl.v oH),(VI oI)])] adm fun Zi JE=>∃sA:Sl,∃sB:Int,∃SW:Bool,Zi=(Value.tuple #[(Value.agg #[(Sl.v sA),(VI sB)]),(VB SW)])/\Vars JE [(tW,[(Sl.v mc),(VI me)]),(lK,[(Sl.v oH),(VI oI)]),(nH,[(Sl.v oF),(VI oG)]),(ku,[(Sl.v aD),(VI 0)]),(lL,[(Sl.v cO),(VI cP)]),(lM,[(Sl.v eH)])]/\
 ((! SV)=true->
 Ha P JE ku sA sB tW mc me lK oH oI nH oF oG cO cP lL lM eH K)/\
 ((! SV)=false->
 ((! SW)=true->
 Ha P JE ku sA sB tW mc me lK oH oI nH oF oG cO cP lL lM eH K)/\
 ((! SW)=false->
 ∀(xD:Nat)(BM:Heap),JE.size<=xD->Fr (In []) JE BM->Vars BM [(xD,[(Sl.v sA),(VI sB)]),(tW,[(Sl.v mc),(VI me)]),(lK,[(Sl.v oH),(VI oI)]),(nH,[(Sl.v oF),(VI oG)]),(ku,[(Sl.v aD),(VI 0)]),(lL,[(Sl.v cO),(VI cP)]),(lM,[(Sl.v eH)])]->
 aG P 177 #[(Value.agg #[(Sl.v eH)]),(Value.agg #[(Sl.v sA),(VI sB)])] BM fun Zj SX=>∃yV:Sl,∃yW:Int,∃SY:Bool,Zj=(Value.tuple #[(Value.agg #[(Sl.v yV),(VI yW)]),(VB SY)])/\Vars SX [(xD,[(Sl.v sA),(VI sB)]),(tW,[(Sl.v mc),(VI me)]),(lK,[(Sl.v oH),(VI oI)]),(nH,[(Sl.v oF),(VI oG)]),(ku,[(Sl.v aD),(VI 0)]),(lL,[(Sl.v cO),(VI cP)]),(lM,[(Sl.v eH)])]/\
 ((! SY)=true->
 ∀(Dq:Nat)(xA:Heap),SX.size<=Dq->Fr (In [ku]) SX xA->Vars xA [(Dq,[(Sl.v yV),(VI yW)]),(xD,[(Sl.v sA),(VI sB)]),(tW,[(Sl.v mc),(VI me)]),(lK,[(Sl.v oH),(VI oI)]),(nH,[(Sl.v oF),(VI oG)]),(ku,[(Sl.v cO),(VI cP)]),(lL,[(Sl.v cO),(VI cP)]),(lM,[(Sl.v eH)])]->
 K (Value.tuple #[(VI 0),(Value.agg #[(Sl.v cO),(VI cP)]),(VI 0)]) xA)/\
 ((! SY)=false->
 ∀(Dq:Nat)(oD:Heap),SX.size<=Dq->Fr (In [lK,nH]) SX oD->Vars oD [(Dq,[(Sl.v yV),(VI yW)]),(xD,[(Sl.v sA),(VI sB)]),(tW,[(Sl.v mc),(VI me)]),(lK,[(Sl.v yV),(VI yW)]),(nH,[(Sl.v mc),(VI me)]),(ku,[(Sl.v aD),(VI 0)]),(lL,[(Sl.v cO),(VI cP)]),(lM,[(Sl.v eH)])]->
 aG P 226 #[(Value.agg #[(Sl.v mc),(VI me)]),(Value.agg #[(Sl.v yV),(VI yW)])] oD fun anC F0=>∃Yt:Bool,anC=(VB Yt)/\Vars F0 [(Dq,[(Sl.v yV),(VI yW)]),(xD,[(Sl.v sA),(VI sB)]),(tW,[(Sl.v mc),(VI me)]),(lK,[(Sl.v yV),(VI yW)]),(nH,[(Sl.v mc),(VI me)]),(ku,[(Sl.v aD),(VI 0)]),(lL,[(Sl.v cO),(VI cP)]),(lM,[(Sl.v eH)])]/\
 ∃m:Nat,m<n_1/\J_2 m Yt (aX (NL+1)) yV yW mc me F0))))/\
 ((! sD)=false->
 CH P sD ku vZ lK oH oI nH oF oG cO cP lL lM eH K))/\
 ((decide ((aX (2*NL))<=4000))=false->
 CH P sD ku vZ lK oH oI nH oF oG cO cP lL lM eH K)
theorem anD(eH:Sl)(cO:Sl)(cP:Int)(h:Heap)(K:aL)(H:ago aB eH cO cP h K):aG aB 181 #[(Value.agg #[(Sl.v eH)]),(Value.agg #[(Sl.v cO),(VI cP)])] h K:=aj6 eH cO cP h K H
theorem mM{S S':aK}{h:Heap}{g w:Sl}{aI:aE}{s:St}(G:dE S h g aI)(H:bE S' h w s.1)(W:iV aI s){p:Int}(hp:p=s.2)(K:aL)(HK:∀(t:Sl) h',bE (fun k=>S' k\/h.size<=k) h' t ((dH aI s).getD s).1->Fr No h h'->K (.tuple #[.agg #[t.v,VI ((dH aI s).getD s).2],VB (dH aI s).isSome]) h'):aG aB 177 #[.agg #[g.v],.agg #[w.v,VI p]] h K:=by
 subst hp
 refine rG G H W _ (fun hn h' f=> ?_) (fun s' hs t h' o f=> ?_)
 ·have:=HK w h' (by rw[hn];exact(H.no f).mono fun k hk=> .inl hk) f
  rw[hn]at this
  exact this
 ·have:=HK t h' (by rw[hs];exact dK.mono o.fW fun k hk=> .inr hk.1) f
  rw[hs]at this
  exact this
theorem qh{g:aE}{s:St}(W:iV g s):∀{n:Nat}{t:St},sq g s n=some t->iV g t
 |0,t,h=>by rw[sq]at h;cases h;exact W
 |n+1,t,h=>by
  rw[sq]at h
  cases hn:sq g s n with
  |none=>rw[hn]at h;cases h
  |some u=>rw[hn]at h;exact(qh W hn).step h
theorem CI{g:aE}{s0:St}:∀(f n:Nat)(s:St),f+n=2001->sq g s0 n=some s->(∀j,1<=j->j<n->sq g s0 j≠some s0)->((cF g (lJ s0.1 s0.2) 1 f (n:Int) () s).1=0/\∀j,1<=j->j<=2000->sq g s0 j≠some s0)\/∃a:Nat,(cF g (lJ s0.1 s0.2) 1 f (n:Int) () s).1=(a:Int)/\1<=a/\a<=2000/\sq g s0 a=some s0/\∀j,1<=j->j<a->sq g s0 j≠some s0
 |0,n,s,hn,hs,hj=> .inl ⟨rfl,fun j h1 h2=>hj j h1 (by omega)⟩
 |f+1,n,s,hn,hs,hj=>by
  rw[cF]
  have stop:dH g s=none->(1<=n->s≠s0)->∀j,1<=j->j<=2000->sq g s0 j≠some s0:=fun he fH j h1 h2 hc=>by
   by_cases h3:j<n
   ·exact hj j h1 h3 hc
   ·by_cases h4:j=n
    ·rw[h4,hs]at hc
     exact fH (by omega) (bF hc)
    ·have:sq g s0 (n+1)=none:=by rw[sq,hs];exact he
     have:=Ae this (j-(n+1))
     rw[show n+1+(j-(n+1))=j by omega]at this
     rw[this]at hc;cases hc
  have next:∀s',dH g s=some s'->(1<=n->s≠s0)->(∀j,1<=j->j<n+1->sq g s0 j≠some s0):=fun s' he fH j h1 h2=>by
   by_cases h3:j<n
   ·exact hj j h1 h3
   ·have:j=n:=by omega
    subst this
    rw[hs]
    exact fun hc=>fH (by omega) (bF hc)
  by_cases h1:(1:Int)<=(n:Int)
  ·rw[aJ h1]
   by_cases h2:(lJ s0.1 s0.2 () s).1=true
   ·rw[aJ h2]
    have e:s=s0:=by
     simp only[lJ,aT]at h2
     exact Prod.ext h2.2.symm h2.1.symm
    exact .inr ⟨n,rfl,by omega,by omega,by rw[hs,e],hj⟩
   ·rw[aF h2]
    have fH:s≠s0:=fun e=>h2 (by simp[lJ,e])
    cases he:dH g s with
    |none=>exact .inl ⟨rfl,stop he fun _=>fH⟩
    |some s'=>
     have:=CI f (n+1) s' (by omega) (by rw[sq,hs];exact he) (next s' he fun _=>fH)
     simpa using this
  ·rw[aF h1]
   cases he:dH g s with
   |none=>exact .inl ⟨rfl,stop he fun h=>absurd h (by omega)⟩
   |some s'=>
    have:=CI f (n+1) s' (by omega) (by rw[sq,hs];exact he) (next s' he fun h=>absurd h (by omega))
    simpa using this
theorem EJ{g:aE}{s0 s:St}{m n a:Nat}(R:vN g s0 m n)(ha:m<=a)(hs:sq g s0 a=some s):((cF g (lJ s.1 s.2) 1 2001 0 () s).1=0/\2000<n-m)\/((cF g (lJ s.1 s.2) 1 2001 0 () s).1=((n-m:Nat):Int)/\n-m<=2000):=by
 have wF:=R.lt
 have key:∀j,sq g s j=sq g s0 (a+j):=fun j=>by rw[Bu,hs];rfl
 have adn:∀j,1<=j->(sq g s j=some s↔j%(n-m)=0):=fun j hj=>by
  rw[key,<-hs]
  have:=R.iff (a:=a) (b:=a+j) (by omega)
  rw[show a+j-a=j by omega]at this
  constructor
  ·intro h;exact(this.1 h.symm).2
  ·intro h;exact(this.2 ⟨ha,h⟩).symm
 rcases CI (g:=g) (s0:=s) 2001 0 s rfl rfl (fun j h1 h2=>by omega)with⟨h1,h2⟩|⟨b,h1,h2,h3,h4,h5⟩
 ·refine .inl ⟨h1,?_⟩
  by_cases hc:n-m<=2000
  ·exact absurd ((adn (n-m) (by omega)).2 (Nat.mod_self _)) (h2 (n-m) (by omega) hc)
  ·omega
 ·have hb:=(adn b h2).1 h4
  have hle:n-m<=b:=by
   by_cases hc:n-m<=b
   ·exact hc
   ·rw[Nat.mod_eq_of_lt (by omega)]at hb;omega
  have heq:n-m=b:=by
   by_cases hc:n-m<b
   ·exact absurd ((adn (n-m) (by omega)).2 (Nat.mod_self _)) (h5 (n-m) (by omega) hc)
   ·omega
  exact .inr ⟨h1.trans (by rw[heq]),by omega⟩
theorem JH{S':aK}{h:Heap}{g w:Sl}{aI:aE}{rs:aH}{p:Int}{m n:Nat}(R:vN aI (rs,p) m n){K:aL}(HN:(∀m k,vN aI (rs,p) m k->2000<k)->∀h',Fr No h h'->K (.tuple #[VI 0,.agg #[w.v,VI p],VI 0]) h')(HS:∀m k s,vN aI (rs,p) m k->k<=2000->sq aI (rs,p) m=some s->∀t h',bE (fun k=>S' k\/h.size<=k) h' t s.1->Fr No h h'->K (.tuple #[VI m,.agg #[t.v,VI s.2],VI ((k:Int)-m)]) h'){b1 b2 b3 b4 b5 b13 b14:Nat}(jY:h.size<=b3){X:Heap}(fX:Fr (fun k=>h.size<=k) h X){x5 x7 x15 x17:Sl}{x6 x8 x16:Int}{i:Nat}{s:St}(hs:sq aI (rs,p) i=some s)(hi:i=m\/i=2001/\2000<n)(Q:bE (fun k=>(S' k/\k<h.size)\/(h.size<=k/\k≠b3)) X x17 s.1)(zP:i<=2001)(Be:n-m<=2000):Hb aB (i:Int) ((n-m:Nat):Int) b3 X b14 x15 x16 b13 x17 s.2 b5 x5 x6 b4 x7 x8 w p b2 b1 g K:=by
 have wF:=R.lt
 unfold Hb
 rw[aP _ (by omega) (by omega)]
 have yP:∀{Y:Heap},Fr (In [b3]) X Y->Fr No h Y:=fun f=>(fX.trans (f.mono fun k _ hk=>by simp[In]at hk;omega)).mono fun k hk aQ=>absurd aQ (by omega)
 refine⟨fun e Y fY hL=> ?_,fun e Y fY hL=> ?_⟩
 ·simp only[aT]at e
  refine HN (fun m' k' R'=> ?_) Y (yP fY)
  obtain⟨rfl,rfl⟩:=R.ZV R'
  rcases hi with rfl|⟨_,h2⟩
  ·omega
  ·exact h2
 ·simp only[aW]at e
  rcases hi with rfl|⟨rfl,h2⟩
  ·have:=HS i n s R (by omega) hs x17 Y ((Q.fr fY fun k hk aQ=>by simp[In]at aQ;rcases hk with hk|hk<;>omega).mono fun k hk=>by rcases hk with hk|hk;exact .inl hk.1;exact .inr hk.1) (yP fY)
   rw[show((n-i:Nat):Int)=(n:Int)-i by omega]
   exact this
  ·omega
set_option maxHeartbeats 4000000 in
theorem SZ{S S':aK}{h:Heap}{g w:Sl}{aI:aE}{rs:aH}{p:Int}(G:dE S h g aI)(H:bE S' h w rs)(W:iV aI (rs,p)){K:aL}(HN:(∀m k,vN aI (rs,p) m k->2000<k)->∀h',Fr No h h'->K (.tuple #[VI 0,.agg #[w.v,VI p],VI 0]) h')(HS:∀m k s,vN aI (rs,p) m k->k<=2000->sq aI (rs,p) m=some s->∀t h',bE (fun k=>S' k\/h.size<=k) h' t s.1->Fr No h h'->K (.tuple #[VI m,.agg #[t.v,VI s.2],VI ((k:Int)-m)]) h'){b1 b2 b3 b4 b5:Nat}(hb:h.size<=b1/\h.size<=b2/\h.size<=b3/\h.size<=b4/\h.size<=b5){X:Heap}(fX:Fr (fun k=>h.size<=k) h X){T:aK}{x5 x7:Sl}{x6:Int}{a:Nat}{s:St}(met:Bool)(hs:sq aI (rs,p) a=some s)(Q:bE T X x7 s.1)(anF:met=true->1<=a/\sq aI (rs,p) a=sq aI (rs,p) (2*a))(hL:Vars X [(b5,[x5.v,VI x6]),(b4,[x7.v,VI s.2]),(b3,[aD.v,VI 0]),(b2,[w.v,VI p]),(b1,[g.v])])(hT:(!met)=true->∀h':Heap,Fr (In [b3]) X h'->K (.tuple #[VI 0,.agg #[w.v,VI p],VI 0]) h'):CH aB met b3 X b5 x5 x6 b4 x7 s.2 w p b2 b1 g K:=by
 unfold CH
 obtain⟨fw,eY,jY,Kj,TY⟩:=hb
 have zX:=fX.size
 have wl:=W.len
 have G0:dE (fun k=>S k/\k<h.size) h g aI:=G.wH
 have H0:bE (fun k=>S' k/\k<h.size) h w rs:=dK.lt H
 refine⟨fun e h' f _=>hT e h' f,?_⟩
 intro e
 have hm:=anF (by simpa using e)
 obtain⟨m,n,hn,R⟩:=ZU (g:=aI) (s:=(rs,p)) (2*a) (a:=a) (by omega) hm.2 (by rw[hs];exact fun h=>by cases h)
 have wF:=R.lt
 have hma:m<=a:=((R.iff (a:=a) (b:=2*a) (by omega)).1 hm.2).1
 have Ws:iV aI s:=qh W hs
 have GX:dE (fun k=>S k/\k<h.size) X g aI:=G0.fr fX fun k hk aQ=>by omega
 have Ta:∀{Y:Heap},Fr (fun k=>h.size<=k) h Y->Fr No h Y:=fun f=>f.mono fun k hk aQ=>absurd aQ (by omega)
 have up:∀{Y Z:Heap}{l:List Nat},(∀k,k∈l->h.size<=k)->Fr (In l) Y Z->Fr (fun k=>h.size<=k) Y Z:=fun hl f=>f.mono fun k _ hk=>hl k hk
 have all:=R.all
 refine Ou GX (show bE T X x7 (s.1,s.2).1 from Q) s.2 Ws _ fun h29 f29=>⟨_,rfl,hL.aC f29,fun e1 h30 f30 amj=> ?_,fun e1=> ?_⟩
 ·have Tb:=fX.trans f29.aC
  refine HN (fun m' k' R'=> ?_) h30 (Ta (Tb.trans (f30.mono fun k _ hk=>by simp[In]at hk;omega)))
  obtain⟨rfl,rfl⟩:=R.ZV R'
  simp only[aT]at e1
  rcases EJ R hma hs with⟨_,h2⟩|⟨h1,h2⟩
  ·omega
  ·rw[show((s.1,s.2):St)=s from rfl]at e1;rw[h1]at e1;omega
 simp only[aW]at e1
 have Be:(cF aI (lJ s.1 s.2) 1 2001 0 () (s.1,s.2)).1=((n-m:Nat):Int)/\n-m<=2000:=by
  rcases EJ R hma hs with⟨h1,h2⟩|h
  ·exact absurd h1 e1
  ·exact h
 rw[Be.1]
 have Be:=Be.2
 have Tb:=fX.trans f29.aC
 have z29:=Tb.size
 have atn:=hL.aC f29
 refine⟨fun b13 x9 QX b14 QZ TZ h'=>x9=w/\QX=p/\QZ=w/\TZ=p/\h29.size<=b13/\h29.size<=b14/\Fr (fun k=>h.size<=k) h h',⟨fun b15 h31 ado f31 Ve b16 Zu anG f32 anH h33 f33 anI h34 f34 Zv=> ?_,fun b17 h35 adp f35 afl b18 h36 anJ f36 Vg h37 f37 Q0 h38 f38 anK=> ?_⟩,?_⟩
 ·have:=f31.size
  exact⟨rfl,rfl,rfl,rfl,ado,by omega,(((Tb.trans f31.aM.aC).trans f32.aM.aC).trans (f33.mono fun k _ hk=>by simp[In]at hk;omega)).trans (f34.mono fun k _ hk=>by simp[In]at hk;omega)⟩
 ·have:=f35.size
  exact⟨rfl,rfl,rfl,rfl,by omega,adp,(((Tb.trans f35.aM.aC).trans f36.aM.aC).trans (f37.mono fun k _ hk=>by simp[In]at hk;omega)).trans (f38.mono fun k _ hk=>by simp[In]at hk;omega)⟩
 rintro b13 x9 QX b14 QZ TZ Oz ⟨rfl,rfl,rfl,rfl,att,atu,f39⟩ Q3
 have z39:=f39.size
 have l14:b14<Oz.size:=Q3.head.lt
 have l13:b13<Oz.size:=Q3.tail.head.lt
 have l3:b3<Oz.size:=Q3.tail.tail.tail.tail.head.lt
 have inc:∀{k:Nat},((S' k/\k<h.size)\/Oz.size<=k)->(S' k/\k<h.size)\/(h.size<=k/\k≠b3):=fun hk=>by
  rcases hk with hk|hk
  ·exact .inl hk
  ·exact .inr (by omega)
 have H39:bE (fun k=>(S' k/\k<h.size)\/Oz.size<=k) Oz QZ rs:=(H0.fr f39 fun k hk aQ=>by omega).mono fun k hk=> .inl hk
 refine⟨fun n2 i x q h'=>∃(j:Nat)(t:St),i=(j:Int)/\n2+j=n-m/\sq aI (rs,TZ) j=some t/\q=t.2/\bE (fun k=>(S' k/\k<h.size)\/Oz.size<=k) h' x t.1/\Fr (fun k=>h.size<=k) h h'/\Oz.size<=h'.size,⟨n-m,0,(rs,TZ),rfl,rfl,rfl,rfl,H39,f39,aY _⟩,?_⟩
 rintro n2 i x q h40 ⟨j,t,rfl,ej,hj,rfl,Q40,f40,z40⟩ anM
 have Wt:iV aI t:=qh W hj
 have G40:dE (fun k=>S k/\k<h.size) h40 g aI:=G0.fr f40 fun k hk aQ=>by omega
 refine⟨fun e2=> ?_,fun e2=> ?_⟩
 ·simp only[aT]at e2
  refine mM G40 Q40 Wt rfl _ fun y h41 Y41 f41=>⟨y,_,_,rfl,anM.aC f41,fun h42 f42 amq=> ?_⟩
  have z41:=f41.size
  rw[aP _ (by omega) (by omega)]
  have Qd:dH aI t≠none:=fun hh=>all (j+1) (by rw[sq,hj];exact hh)
  obtain⟨t',ht'⟩:=Option.ne_none_iff_exists'.1 Qd
  rw[ht']at Y41⊢
  simp only[Option.getD_some]at Y41⊢
  refine⟨n2-1,by omega,j+1,t',by omega,by omega,by rw[sq,hj];exact ht',rfl,(Y41.fr f42 fun k hk aQ=>by simp[In]at aQ;rcases hk with(hk|hk)|hk<;>omega).mono fun k hk=>by rcases hk with hk|hk;exact hk;exact .inr (by omega),(f40.trans f41.aC).trans (f42.mono fun k _ hk=>by simp[In]at hk;omega),by have:=f42.size;omega⟩
 simp only[aW]at e2
 have ej2:j=n-m:=by omega
 subst ej2
 have H40:bE (fun k=>(S' k/\k<h.size)\/Oz.size<=k) h40 QZ rs:=(H0.fr f40 fun k hk aQ=>by omega).mono fun k hk=> .inl hk
 refine⟨fun n3 st y q2 z q3 h'=>∃(i:Nat)(u v:St),st=(i:Int)/\n3+i=2001/\sq aI (rs,TZ) i=some u/\sq aI (rs,TZ) (i+(n-m))=some v/\q3=u.2/\q2=v.2/\bE (fun k=>(S' k/\k<h.size)\/Oz.size<=k) h' z u.1/\bE (fun k=>(S' k/\k<h.size)\/Oz.size<=k) h' y v.1/\(∀j,j<i->j<m)/\Fr (fun k=>h.size<=k) h h'/\Oz.size<=h'.size,⟨2001,0,(rs,TZ),t,rfl,rfl,rfl,by rw[iM];exact hj,rfl,rfl,H40,Q40,fun j hj=>by omega,f40,z40⟩,?_⟩
 rintro n3 st y q2 z q3 h43 ⟨i,u,v,rfl,en3,hu,hv,rfl,rfl,Z43,Y43,anO,f43,z43⟩ agr
 have Wu:iV aI u:=qh W hu
 have Wv:iV aI v:=qh W hv
 have CJ:(u.2=v.2/\u.1=v.1)↔m<=i:=by
  have h1:=R.iff (a:=i) (b:=i+(n-m)) (by omega)
  rw[hu,hv,show i+(n-m)-i=n-m by omega,Nat.mod_self]at h1
  constructor
  ·intro hh;exact(h1.1 (congrArg some (Prod.ext hh.2 hh.1))).1
  ·intro hh
   have:=bF (h1.2 ⟨hh,rfl⟩)
   rw[this];exact⟨rfl,rfl⟩
 refine A9 Z43 Y43 u.2 v.2 _ fun h44 f44=>⟨_,rfl,agr.aC f44,fun e3=>⟨fun e4=> ?_,fun e4=> ?_⟩,fun e3=> ?_⟩
 ·have anP:=agr.aC f44
  have z44:=f44.size
  simp only[gE,aW,CJ]at e3
  simp only[aT]at e4
  have ags:=f43.trans f44.aC
  have G44:dE (fun k=>S k/\k<h.size) h44 g aI:=G0.fr ags fun k hk aQ=>by omega
  refine mM G44 (Z43.no f44) Wu rfl _ fun z' h45 Z45 f45=>⟨z',_,_,rfl,anP.aC f45,fun h46 f46 anR=> ?_⟩
  have z45:=f45.size
  have agt:=(ags.trans f45.aC).trans (f46.mono fun k _ hk=>by simp[In]at hk;omega)
  have z46:=f46.size
  have G46:dE (fun k=>S k/\k<h.size) h46 g aI:=G0.fr agt fun k hk aQ=>by omega
  have Y46:=((Y43.no f44).no f45).fr f46 fun k hk aQ=>by simp[In]at aQ;rcases hk with hk|hk<;>omega
  refine mM G46 Y46 Wv rfl _ fun y' h47 Y47 f47=>⟨y',_,_,rfl,anR.aC f47,fun h48 f48 atF=> ?_⟩
  have z47:=f47.size
  have z48:=f48.size
  have hsu:dH aI u≠none:=fun hh=>all (i+1) (by rw[sq,hu];exact hh)
  have hsv:dH aI v≠none:=fun hh=>all (i+(n-m)+1) (by rw[sq,hv];exact hh)
  obtain⟨u',hu'⟩:=Option.ne_none_iff_exists'.1 hsu
  obtain⟨v',X2⟩:=Option.ne_none_iff_exists'.1 hsv
  rw[hu']at Z45⊢
  rw[X2]at Y47⊢
  simp only[Option.getD_some]at Z45 Y47⊢
  rw[aP _ (by omega) (by omega)]
  refine⟨n3-1,by omega,i+1,u',v',by omega,by omega,by rw[sq,hu];exact hu',by rw[show i+1+(n-m)=i+(n-m)+1 by omega,sq,hv];exact X2,rfl,rfl,?_,?_,fun j hj=>by omega,?_,by omega⟩
  ·have a1:=(Z45.fr f46 fun k hk aQ=>by simp[In]at aQ;rcases hk with(hk|hk)|hk<;>omega).no f47
   exact(a1.fr f48 fun k hk aQ=>by simp[In]at aQ;rcases hk with(hk|hk)|hk<;>omega).mono fun k hk=>by rcases hk with hk|hk;exact hk;exact .inr (by omega)
  ·exact(Y47.fr f48 fun k hk aQ=>by simp[In]at aQ;rcases hk with(hk|hk)|hk<;>omega).mono fun k hk=>by rcases hk with hk|hk;exact hk;exact .inr (by omega)
  ·exact(agt.trans f47.aC).trans (f48.mono fun k _ hk=>by simp[In]at hk;omega)
 ·simp only[gE,aW,CJ]at e3
  simp only[aW]at e4
  exact JH R HN HS jY (f43.trans f44.aC) hu (.inr ⟨by omega,by omega⟩) ((Z43.no f44).mono fun k hk=>inc hk) (by omega) Be
 ·simp only[uM,aT,CJ]at e3
  have him:i=m:=by
   by_cases hc:m<i
   ·have:=anO m hc;omega
   ·omega
  exact JH R HN HS jY (f43.trans f44.aC) hu (.inl him) ((Z43.no f44).mono fun k hk=>inc hk) (by omega) Be
set_option maxHeartbeats 4000000 in
theorem LX{S S':aK}{h:Heap}{g w:Sl}{aI:aE}{rs:aH}{p:Int}(G:dE S h g aI)(H:bE S' h w rs)(W:iV aI (rs,p))(K:aL)(HN:(∀m k,vN aI (rs,p) m k->2000<k)->∀h',Fr No h h'->K (.tuple #[VI 0,.agg #[w.v,VI p],VI 0]) h')(HS:∀m k s,vN aI (rs,p) m k->k<=2000->sq aI (rs,p) m=some s->∀t h',bE (fun k=>S' k\/h.size<=k) h' t s.1->Fr No h h'->K (.tuple #[VI m,.agg #[t.v,VI s.2],VI ((k:Int)-m)]) h'):aG aB 181 #[.agg #[g.v],.agg #[w.v,VI p]] h K:=by
 refine anD g w p h K ?_
 unfold ago
 intro b1 b2 b3 h3 fw eY jY f3 dA
 have f3:=f3.aM
 have z3:=f3.size
 have G0:dE (fun k=>S k/\k<h.size) h g aI:=G.wH
 have H0:bE (fun k=>S' k/\k<h.size) h w rs:=dK.lt H
 have Ta:∀{Y:Heap},Fr (fun k=>h.size<=k) h Y->Fr No h Y:=fun f=>f.mono fun k hk aQ=>absurd aQ (by omega)
 refine⟨fun b4 x1 x2 b5 x3 x4 h'=>x1=w/\x2=p/\x3=w/\x4=p/\h3.size<=b4/\h3.size<=b5/\Fr (fun k=>h.size<=k) h h',⟨fun b15 h31 ado f31 Ve b16 Zu anG f32 anH h33 f33 anI h34 f34 Zv=> ?_,fun b17 h35 adp f35 afl b18 h36 anJ f36 Vg h37 f37 Q0 h38 f38 anK=> ?_⟩,?_⟩
 ·have:=f31.size
  exact⟨rfl,rfl,rfl,rfl,ado,by omega,(((f3.aC.trans f31.aM.aC).trans f32.aM.aC).trans (f33.mono fun k _ hk=>by simp[In]at hk;omega)).trans (f34.mono fun k _ hk=>by simp[In]at hk;omega)⟩
 ·have:=f35.size
  exact⟨rfl,rfl,rfl,rfl,by omega,adp,(((f3.aC.trans f35.aM.aC).trans f36.aM.aC).trans (f37.mono fun k _ hk=>by simp[In]at hk;omega)).trans (f38.mono fun k _ hk=>by simp[In]at hk;omega)⟩
 rintro b4 x1 x2 b5 x3 x4 iC ⟨rfl,rfl,rfl,rfl,Kj,TY,f12⟩ qI
 have z12:=f12.size
 have l5:b5<iC.size:=qI.head.lt
 have l4:b4<iC.size:=qI.tail.head.lt
 have l3:b3<iC.size:=qI.tail.tail.head.lt
 have H12:bE (fun k=>(S' k/\k<h.size)\/iC.size<=k) iC x3 rs:=(H0.fr f12 fun k hk aQ=>by omega).mono fun k hk=> .inl hk
 refine⟨fun n met U9 x5 x6 x7 x8 h'=>∃(a:Nat)(s t:St),U9=(a:Int)+1/\n+a=2000/\sq aI (rs,x4) a=some s/\sq aI (rs,x4) (2*a)=some t/\x8=s.2/\x6=t.2/\bE (fun k=>(S' k/\k<h.size)\/iC.size<=k) h' x7 s.1/\bE (fun k=>(S' k/\k<h.size)\/iC.size<=k) h' x5 t.1/\(met=true->1<=a/\s=t)/\(met=false->∀j,1<=j->j<=a->sq aI (rs,x4) j≠sq aI (rs,x4) (2*j))/\Fr (fun k=>h.size<=k) h h'/\iC.size<=h'.size,⟨2000,0,(rs,x4),(rs,x4),rfl,rfl,rfl,rfl,rfl,rfl,H12,H12,fun e=>(by cases e),fun _ j h1 h2=>by omega,f12,aY _⟩,?_⟩
 rintro n met U9 x5 x6 x7 x8 tO ⟨a,s,t,rfl,en,hs,ht,rfl,rfl,Q13,P13,hm1,hm0,f13,z13⟩ Fv
 have Ws:iV aI s:=qh W hs
 have Wt:iV aI t:=qh W ht
 have bad:∀{X Y:Heap},(∀m k,vN aI (rs,x4) m k->2000<k)->Fr (fun k=>h.size<=k) h X->Fr (In [b3]) X Y->K (.tuple #[VI 0,.agg #[x3.v,VI x4],VI 0]) Y:=fun hN f1 f2=>HN hN _ (Ta (f1.trans (f2.mono fun k _ hk=>by simp[In]at hk;omega)))
 have Yu:((!met)=true->∀h':Heap,Fr (In [b3]) tO h'->K (.tuple #[VI 0,.agg #[x3.v,VI x4],VI 0]) h')->CH aB met b3 tO b5 x5 t.2 b4 x7 s.2 x3 x4 b2 b1 g K:=SZ G H W HN HS ⟨fw,eY,jY,by omega,by omega⟩ f13 met hs Q13 (fun e=>by obtain⟨h1,h2⟩:=hm1 e;exact⟨h1,by rw[hs,ht,h2]⟩) Fv
 rw[aP (2*((a:Int)+1)) (by omega) (by omega)]
 refine⟨fun e=>⟨fun e2=> ?_,fun e2=>Yu fun e3=>absurd (e2.symm.trans e3) (by decide)⟩,fun e=>Yu fun e2 h53 f53=> ?_⟩
 ·simp only[aT]at e
  have hmf:met=false:=by simpa using e2
  have G13:dE (fun k=>S k/\k<h.size) tO g aI:=G0.fr f13 fun k hk aQ=>by omega
  refine mM G13 Q13 Ws rfl _ fun y K1 Y14 f14=>⟨y,_,_,rfl,Fv.aC f14,fun b10 Ud afk f16 Dm=> ?_⟩
  have f16:=f16.aM
  have z14:=f14.size
  have z16:=f16.size
  have Xv:=(f13.trans f14.aC).trans f16.aC
  have G16:dE (fun k=>S k/\k<h.size) Ud g aI:=G0.fr Xv fun k hk aQ=>by omega
  refine mM G16 ((P13.no f14).no f16) Wt rfl _ fun z h17 Z17 f17=>⟨z,_,_,rfl,Dm.aC f17,fun e3=> ?_,fun e3=>⟨fun e4=> ?_,fun e4 b11 K3 agu f19 wY=> ?_⟩⟩
  ·have hz:sq aI (rs,x4) (a+1)=none:=by
    rw[sq,hs]
    cases h5:dH aI s with
    |none=>exact h5
    |some s'=>rw[h5]at e3;cases e3
   unfold Ha
   exact fun b11 h28 agu f28 Pg=>bad (fun m k R=>absurd hz (R.all _)) (Xv.trans f17.aC) f28
  ·have hz:sq aI (rs,x4) (2*a+1)=none:=by
    rw[sq,ht]
    cases h5:dH aI t with
    |none=>exact h5
    |some s'=>rw[h5]at e4;cases e4
   unfold Ha
   exact fun b11 h28 agu f28 Pg=>bad (fun m k R=>absurd hz (R.all _)) (Xv.trans f17.aC) f28
  have f19:=f19.aM
  have z17:=f17.size
  have z19:=f19.size
  have adr:=(Xv.trans f17.aC).trans f19.aC
  obtain⟨s',Kt⟩:∃s',dH aI s=some s':=by
   cases h5:dH aI s with
   |none=>rw[h5]at e3;cases e3
   |some s'=>exact⟨s',rfl⟩
  obtain⟨t',ht'⟩:∃t',dH aI t=some t':=by
   cases h5:dH aI t with
   |none=>rw[h5]at e4;cases e4
   |some s'=>exact⟨s',rfl⟩
  have W':=Wt.step ht'
  rw[Kt]at Y14 wY⊢
  rw[ht']at Z17 wY⊢
  simp only[Option.getD_some]at Y14 Z17 wY⊢
  have G19:dE (fun k=>S k/\k<h.size) K3 g aI:=G0.fr adr fun k hk aQ=>by omega
  refine mM G19 (Z17.no f19) W' rfl _ fun z2 ZL Z21 f21=>⟨z2,_,_,rfl,wY.aC f21,fun e5 b12 h24 anZ f24 atN=> ?_,fun e5 b12 vC anZ f26 uG=> ?_⟩
  ·have hz:sq aI (rs,x4) (2*a+2)=none:=by
    rw[sq,sq,ht]
    show(dH aI t).bind _=none
    rw[ht']
    cases h5:dH aI t' with
    |none=>exact h5
    |some s'=>rw[h5]at e5;cases e5
   exact bad (fun m k R=>absurd hz (R.all _)) (adr.trans f21.aC) f24
  obtain⟨t2,ht2⟩:∃t2,dH aI t'=some t2:=by
   cases h5:dH aI t' with
   |none=>rw[h5]at e5;cases e5
   |some s'=>exact⟨s',rfl⟩
  rw[ht2]at Z21 uG⊢
  simp only[Option.getD_some]at Z21 uG⊢
  have z21:=f21.size
  have z26:=f26.size
  have off:∀k,((S' k/\k<h.size)\/iC.size<=k)->¬In [b5,b4] k:=fun k hk aQ=>by
   simp only[In,aO,aS,aN]at aQ
   rcases hk with hk|hk<;>rcases aQ with rfl|rfl<;>omega
  have Y26:bE (fun k=>(S' k/\k<h.size)\/iC.size<=k) vC y s'.1:=(((((Y14.no f16).no f17).no f19).no f21).mono fun k hk=>by rcases hk with hk|hk;exact hk;exact .inr (by omega)).fr f26 off
  have Z26:bE (fun k=>(S' k/\k<h.size)\/iC.size<=k) vC z2 t2.1:=(Z21.mono fun k hk=>by rcases hk with(hk|hk)|hk;exact hk;exact .inr (by omega);exact .inr (by omega)).fr f26 off
  have KW:=(adr.trans f21.aC).trans (f26.mono fun k _ hk=>by simp only[In,aO,aS,aN]at hk;omega)
  refine A9 Y26 Z26 s'.2 t2.2 _ fun Vc f27=>⟨_,rfl,uG.aC f27,?_⟩
  have z27:=f27.size
  have Zz:sq aI (rs,x4) (a+1)=some s':=by rw[sq,hs];exact Kt
  have ht1:sq aI (rs,x4) (2*(a+1))=some t2:=by
   rw[show 2*(a+1)=2*a+1+1 by omega,sq,sq,ht]
   show((dH aI t).bind _)=_
   rw[ht'];exact ht2
  rw[aP _ (by omega) (by omega)]
  refine⟨n-1,by omega,a+1,s',t2,by omega,by omega,Zz,ht1,rfl,rfl,Y26.no f27,Z26.no f27,fun e6=> ?_,fun e6 j h1 h2=> ?_,KW.trans f27.aC,by omega⟩
  ·simp only[aT]at e6
   exact⟨by omega,Prod.ext e6.2 e6.1⟩
  ·simp only[aW]at e6
   by_cases hj:j<=a
   ·exact hm0 hmf j h1 hj
   ·have:j=a+1:=by omega
    subst this
    rw[Zz,ht1]
    exact fun hh=>by
     have:=bF hh
     rw[this]at e6
     exact e6 ⟨rfl,rfl⟩
 ·simp only[aW]at e
  have hmf:met=false:=by simpa using e2
  have ha:a=2000:=by omega
  refine bad (fun m k R=> ?_) f13 f53
  obtain⟨j,j1,j2,_,j4⟩:=R.meets
  by_cases hc:k<=2000
  ·exact absurd j4 (hm0 hmf j j1 (by omega))
  ·omega
def fG(g:aE)(rs:aH)(p:Int):Int×Int×Bool:=if fS g rs p then Je g (rs,p)else(0,0,false)
theorem zo{S S':aK}{h:Heap}{g w:Sl}{aI:aE}{rs:aH}(G:dE S h g aI)(H:bE S' h w rs)(p:Int)(K:aL)(HK:∀h',Fr No h h'->K (.tuple #[VI (fG aI rs p).1,VI (fG aI rs p).2.1,VB (fG aI rs p).2.2]) h'):aG aB 136 #[.agg #[g.v],.agg #[w.v,VI p]] h K:=by
 unfold fG at HK
 refine ajd g w p h K fun b1 b2 h2 fw eY f2 cR=> ?_
 have f2:=f2.aM
 refine gJ (G.no f2) (H.no f2) p _ fun h3 f3=>⟨_,rfl,cR.aC f3,fun e=> ?_,fun e=> ?_⟩
 ·simp only[gE]at e
  rw[e]at HK
  exact HK h3 (f2.trans f3)
 simp only[uM]at e
 rw[aJ e]at HK
 have W:=eD e
 have iR:=f2.trans f3
 refine LX (G.no iR) (H.no iR) W _ (fun hN h4 f4=>⟨_,w,p,_,rfl,(cR.aC f3).aC f4,fun _ b3 h6 jY f6 kU=> ?_,fun e1=>by simp at e1⟩) (fun m k s R hk hs t h4 T4 f4=>⟨_,t,s.2,_,rfl,(cR.aC f3).aC f4,fun e1=> ?_,fun _ b3 h6 jY f6 kU=> ?_⟩)
 ·have:=HK h6 ((iR.trans f4).trans f6.aM)
  rw[Nr hN]at this
  exact this
 ·have:=R.lt
  simp only[aT]at e1
  omega
 ·have:=HK h6 ((iR.trans f4).trans f6.aM)
  rw[Jf R hk]at this
  exact this
theorem LY{S S':aK}{h:Heap}{g w:Sl}{aI:aE}{rs:aH}(G:dE S h g aI)(H:bE S' h w rs)(p:Int)(K:aL)(HK:∀h',Fr No h h'->K (.tuple #[VI (fG aI rs p).1,VI (fG aI rs p).2.1,VB (fG aI rs p).2.2]) h'):aG aB 157 #[.agg #[g.v],.agg #[w.v,VI p]] h K:=by
 unfold fG at HK
 refine v157 g w p h K fun b1 b2 h2 fw eY f2 cR=> ?_
 have f2:=f2.aM
 refine rC (G.no f2) (H.no f2) p _ fun h3 f3=>⟨_,rfl,cR.aC f3,fun e=> ?_,fun e=> ?_⟩
 ·simp only[gE]at e
  rw[e]at HK
  exact HK h3 (f2.trans f3)
 simp only[uM]at e
 rw[aJ e]at HK
 have iR:=f2.trans f3
 exact Ry (G.no iR) (H.no iR) (eD e) _ fun h4 f4=>⟨_,_,_,rfl,(cR.aC f3).aC f4,HK h4 (iR.trans f4)⟩
theorem nq{g:aE}{rs:aH}(p:Int)(m:Nat):∀k,dZ g rs p (m+k)=dZ g rs (dZ g rs p m) k
 |0=>rfl
 |k+1=>by rw[<-kP,dZ,nq p m k];rfl
theorem Pu{g:aE}{rs:aH}{p:Int}{i d i' d':Nat}(L:yN g rs p i d)(L':yN g rs p i' d'):i=i'/\d=d':=by
 have a1:=L.d1
 have a2:=L'.d1
 have e:i+d=i'+d':=by
  rcases tg (i+d) (i'+d')with h|h|h
  ·exact absurd L.eq (L'.inj i (i+d) (by omega) h)
  ·exact h
  ·exact absurd L'.eq (L.inj i' (i'+d') (by omega) h)
 have e2:i=i':=by
  rcases tg i i' with h|h|h
  ·exact absurd (L.eq.trans (by rw[e];exact L'.eq.symm)) (L.inj i i' h (by omega))
  ·exact h
  ·exact absurd (L'.eq.trans (by rw[<-e];exact L.eq.symm)) (L.inj i' i h (by omega))
 exact⟨e2,by omega⟩
noncomputable def Uj(g:aE)(rs:aH)(p:Int):aH×Bool:=
 @dite _ (0<=dZ g rs p g.length/\∃t:Nat×Nat,yN g rs p t.1 t.2) (Classical.propDecidable _) (fun h=>((List.range (Classical.choose h.2).2).map fun r=>dZ g rs p ((Classical.choose h.2).1+r),true)) fun _=>([],false)
theorem CK{g:aE}{rs:aH}{p:Int}(h:dZ g rs p g.length<0):Uj g rs p=([],false):=by
 unfold Uj
 rw[dif_neg (fun h2=>by have:=h2.1;omega)]
theorem CL{g:aE}{rs:aH}{p:Int}(h:0<=dZ g rs p g.length){i d:Nat}(L:yN g rs p i d):Uj g rs p=((List.range d).map fun r=>dZ g rs p (i+r),true):=by
 have h2:0<=dZ g rs p g.length/\∃t:Nat×Nat,yN g rs p t.1 t.2:=⟨h,(i,d),L⟩
 unfold Uj
 rw[dif_pos h2]
 obtain⟨e1,e2⟩:=Pu L (zA h2.2)
 rw[<-e1,<-e2]
noncomputable def uU(g:aE)(rs:aH)(p:Int):aH×Bool:=if fS g rs p then Uj g rs p else([],false)
theorem LZ{S S':aK}{h:Heap}{g w:Sl}{aI:aE}{rs:aH}{a:Int}(G:dE S h g aI)(H:bE S' h w rs)(W:iV aI (rs,a)){p:Int}(h0:0<=p)(h1:p<(aI.length:Int)){D:Nat}(D1:1<=D)(hD:dZ aI rs p D=p)(hDm:D<=aI.length)(hp:0<=dZ aI rs p aI.length)(K:aL)
 (HS:∀d t h',1<=d->dZ aI rs p d=p->(∀j,1<=j->j<d->dZ aI rs p j≠p)->bE (fun _=>True) h' t ((List.range d).map fun r=>dZ aI rs p r)->Fr No h h'->K t.v h'):aG aB 231 #[.agg #[g.v],w.v,VI p] h K:=by
 refine alb g w p h K fun b1 h2 fw f2 cR=> ?_
 have f2:=f2.aM
 have l1:b1<h2.size:=cR.head.lt
 have z2:=f2.size
 have Vb:=bD W.cN
 refine bC gH (fun k=>h2.size<=k) (fun _ h=>h) 1 (by omega) [VI p] rfl rfl fun t h4 n4 c4 o4 f4 m4 _=>⟨t,rfl,cR.aC f4,?_⟩
 have z4:=f4.size
 have jZ:=f2.aA f4
 refine oS (G.no jZ) (H.no jZ) W h0 h1 _ fun h5 f5=>⟨_,rfl,(cR.aC f4).aC f5,?_⟩
 have z5:=f5.size
 have uE:=jZ.aA f5
 refine⟨fun n x q h'=>∃m,1<=m/\m<=D/\n=D-m/\q=dZ aI rs p m/\(∀j,1<=j->j<m->dZ aI rs p j≠p)/\cM h' (fun k=>h2.size<=k) x ((List.range m).map fun r=>dZ aI rs p r)/\Fr No h h'/\h2.size<=h'.size,⟨D-1,1,aY _,D1,rfl,rfl,fun j a b=>by omega,by show Ow _ _ _ _ _ _;simpa[dZ]using Ow.no o4 f5,uE,by omega⟩,?_⟩
 rintro n x q h6 ⟨m,m1,m2,rfl,rfl,mj,o6,f6,z6⟩ kU
 refine⟨fun e=> ?_,fun e=> ?_⟩
 ·have e:=bU e
  simp only[aW]at e
  have lI:m≠D:=fun h=>e (by rw[h];exact hD)
  refine bC gH (fun k=>h6.size<=k) (fun _ h=>h) 1 (by omega) [VI (dZ aI rs p m)] rfl rfl fun u h7 n7 c7 o7 f7 m7 _=>⟨u,rfl,kU.aC f7,?_⟩
  have z7:=f7.size
  have r7:bE u.own h7 u [dZ aI rs p m]:=o7.rd
  have hxn:x.n=m:=by have:=bE.len (Ow.fW o6:bE _ h6 x _);simpa using this
  have off:∀p,p∈[(b1,[g.v])]->¬(h2.size<=p.1):=fun p hp=>by
   simp only[aO,aS,aN]at hp
   subst hp
   show¬(h2.size<=b1)
   omega
  refine cV gH (Ow.no o6 f7) (fun k hk=>by omega) r7 (gr _) (by have:=r7.len;simp at this;omega) fun y h8 n8 o8 f8 d8=>⟨y,rfl,(kU.aC f7).fr f8 (fun p hp hk=>off p hp (o6.aR hk).1),?_⟩
  have z8:=f8.size
  have FB:Fr No h h8:=(f6.aA f7).fresh f8 fun k hk=>by have:=(o6.aR hk).1;omega
  refine oS (G.no FB) (H.no FB) W (Bd W h0 h1 hp _) (mY W h0 h1 _).2 _ fun h9 f9=>⟨_,rfl,((kU.aC f7).fr f8 (fun p hp hk=>off p hp (o6.aR hk).1)).aC f9,?_⟩
  have z9:=f9.size
  rw[<-cQ]at o8
  refine⟨D-(m+1),by omega,m+1,by omega,by omega,rfl,rfl,fun j a b=> ?_,?_,FB.aA f9,by omega⟩
  ·by_cases hj:j<m
   ·exact mj j a hj
   ·obtain rfl:j=m:=by omega
    exact e
  ·rw[pY,cQ,bJ,jb]
   exact Ow.no o8 f9
 ·have e:=bS e
  simp only[aT]at e
  exact HS m x h6 m1 e mj ((Ow.fW o6:bE _ h6 x _).mono fun _ _=>trivial) f6
theorem Ds{S S':aK}{h:Heap}{g w:Sl}{aI:aE}{rs:aH}{p:Int}(G:dE S h g aI)(H:bE S' h w rs)(W:iV aI (rs,p))(K:aL)(HK:∀t h',bE (fun _=>True) h' t (Uj aI rs p).1->Fr No h h'->K (.tuple #[t.v,VB (Uj aI rs p).2]) h'):aG aB 184 #[.agg #[g.v],.agg #[w.v,VI p]] h K:=by
 have h0:0<=p:=W.lo
 have h1:p<(aI.length:Int):=W.hi
 refine aka g w p h K fun b1 b2 h2 fw eY f2 cR=> ?_
 have f2:=f2.aM
 refine OB (G.no f2) (H.no f2) W h0 h1 _ (fun hn h3 f3=>⟨aD,false,rfl,cR.aC f3,fun _=> ?_,fun e=>by simp at e⟩) fun hn t xs h3 hx r3 f3=>⟨t,true,rfl,cR.aC f3,fun e=>by simp at e,fun _=> ?_⟩
 ·rw[CK hn]at HK
  exact HK aD h3 ((Ow.nil _ _ _ _:cM h3 (fun _=>True) aD []).fW) (f2.aA f3)
 refine⟨fun n q h'=>∃m,m<=aI.length/\n=aI.length-m/\q=dZ aI rs p m/\(∀j,j<m->dZ aI rs p j∉xs)/\Fr No h h'/\bE (fun _=>True) h' t xs,⟨aI.length,0,by omega,rfl,rfl,fun j hj=>by omega,f2.aA f3,r3⟩,?_⟩
 rintro n q h4 ⟨m,hm,rfl,rfl,mj,f4,r4⟩ fi
 refine Vh r4 _ _ ⟨_,rfl,fi,fun e=> ?_,fun e=> ?_⟩
 ·have e:=bU e
  simp only[aW]at e
  have Ki:m<aI.length:=by
   by_cases hx2:m<aI.length
   ·exact hx2
   ·obtain rfl:m=aI.length:=by omega
    exact absurd ((hx _).2 ⟨_,aY _,rfl⟩) e
  refine oS (G.no f4) (H.no f4) W (Bd W h0 h1 hn _) (mY W h0 h1 _).2 _ fun h6 f6=>⟨_,rfl,fi.aC f6,aI.length-(m+1),by omega,m+1,by omega,rfl,rfl,fun j hj=> ?_,f4.aA f6,r4.no f6⟩
  by_cases KY:j<m
  ·exact mj j KY
  ·obtain rfl:j=m:=by omega
   exact e
 ·have e:=bS e
  simp only[aT]at e
  obtain⟨k0,hk0,ek0⟩:=(hx _).1 e
  obtain⟨i9,d9,c1,c2,c3⟩:=vG W h0 h1 hn
  have Be:dZ aI rs p (m+d9)=dZ aI rs p m:=by
   have e1:=oR ek0 d9
   have e2:=vF c3 (k0-i9) 1
   rw[show i9+(k0-i9)=k0 by omega,fE]at e2
   rw[<-e1,e2,ek0]
  refine LZ (G.no f4) (H.no f4) W (Bd W h0 h1 hn m) (mY W h0 h1 m).2 (D:=d9) c1 (by rw[<-nq];exact Be) (by omega) (by rw[<-nq];exact Bd W h0 h1 hn _) _ fun d t2 h7 d1 dd dj r7 f7=>⟨t2,rfl,fi.aC f7,?_⟩
  have L:yN aI rs p m d:=⟨d1,by rw[nq];exact dd.symm,fun a b ab bm ee=>by
   by_cases ha:a<m
   ·refine mj a ha ((hx _).2 ⟨a+(b-a)*aI.length,?_,?_⟩)
    ·have:1*aI.length<=(b-a)*aI.length:=oh _ (by omega)
     omega
    ·have:=vF (g:=aI) (rs:=rs) (p:=p) (i:=a) (d:=b-a) (by rw[show a+(b-a)=b by omega];exact ee) 0 aI.length
     simpa using this
   ·have e1:=oR ee (m+d-b)
    rw[show b+(m+d-b)=m+d by omega,nq p m d,dd]at e1
    refine dj (a+(m+d-b)-m) (by omega) (by omega) ?_
    rw[<-nq,show m+(a+(m+d-b)-m)=a+(m+d-b) by omega]
    exact e1⟩
  rw[CL hn L]at HK
  refine HK t2 h7 ?_ (f4.aA f7)
  simp only[nq]
  exact r7
theorem yc{S S':aK}{h:Heap}{g w:Sl}{aI:aE}{rs:aH}(G:dE S h g aI)(H:bE S' h w rs)(p:Int)(K:aL)(HK:∀t h',bE (fun _=>True) h' t (uU aI rs p).1->Fr No h h'->K (.tuple #[t.v,VB (uU aI rs p).2]) h'):aG aB 159 #[.agg #[g.v],.agg #[w.v,VI p]] h K:=by
 refine v159 g w p h K fun b1 b2 h2 fw eY f2 cR=> ?_
 have f2:=f2.aM
 refine rC (G.no f2) (H.no f2) p _ fun h3 f3=>⟨_,rfl,cR.aC f3,fun e=> ?_,fun e=> ?_⟩
 ·have er:uU aI rs p=([],false):=by unfold uU;rw[aF (by rw[bU e];simp)]
  rw[er]at HK
  exact HK aD h3 ((Ow.nil _ _ _ _:cM h3 (fun _=>True) aD []).fW) (f2.aA f3)
 have e:=bS e
 have W:=eD e
 have er:uU aI rs p=Uj aI rs p:=by unfold uU;rw[aJ e]
 rw[er]at HK
 have iR:=f2.aA f3
 refine FD (G.no iR) (H.no iR) W W.lo W.hi _ (fun hn h4 f4=>⟨aD,false,rfl,(cR.aC f3).aC f4,?_⟩) fun hn i d t h4 L _ r4 f4=>⟨t,true,rfl,(cR.aC f3).aC f4,?_⟩
 ·rw[CK hn]at HK
  exact HK aD h4 ((Ow.nil _ _ _ _:cM h4 (fun _=>True) aD []).fW) (iR.aA f4)
 ·rw[CL hn L]at HK
  exact HK t h4 r4 (iR.aA f4)
theorem yd{S S':aK}{h:Heap}{g w:Sl}{aI:aE}{rs:aH}(G:dE S h g aI)(H:bE S' h w rs)(p:Int)(K:aL)(HK:∀t h',bE (fun _=>True) h' t (uU aI rs p).1->Fr No h h'->K (.tuple #[t.v,VB (uU aI rs p).2]) h'):aG aB 138 #[.agg #[g.v],.agg #[w.v,VI p]] h K:=by
 refine v138 g w p h K fun b1 b2 h2 fw eY f2 cR=> ?_
 have f2:=f2.aM
 refine gJ (G.no f2) (H.no f2) p _ fun h3 f3=>⟨_,rfl,cR.aC f3,fun e=> ?_,fun e=> ?_⟩
 ·have er:uU aI rs p=([],false):=by unfold uU;rw[aF (by rw[bU e];simp)]
  rw[er]at HK
  exact HK aD h3 ((Ow.nil _ _ _ _:cM h3 (fun _=>True) aD []).fW) (f2.aA f3)
 have e:=bS e
 have W:=eD e
 have er:uU aI rs p=Uj aI rs p:=by unfold uU;rw[aJ e]
 rw[er]at HK
 have iR:=f2.aA f3
 exact Ds (G.no iR) (H.no iR) W _ fun t h4 r4 f4=>⟨t,_,rfl,(cR.aC f3).aC f4,HK t h4 r4 (iR.aA f4)⟩
def nV(g:aE)(s:Int):aH:=(List.range g.length).map fun(i:Nat)=>if(i:Int)=s then 0 else((g.getD i []).length:Int)-1
def sE(g:aE)(s:Int):aH×Bool:=if rK g s=true then(nV g s,true)else([],false)
theorem pq(g:aE)(s:Int):(nV g s).length=g.length:=by simp[nV]
theorem ye{g:aE}{s:Int}{i:Nat}(h:i<g.length):(nV g s)[i]'(by rw[pq];exact h)=if(i:Int)=s then 0 else(g[i].length:Int)-1:=by
 unfold nV
 rw[bV,kO,bH h]
theorem JI{g:aE}{s:Int}(h:rK g s=true):∀x,x∈nV g s->0<=x/\x<=5:=fun x hx=>by
 obtain⟨i,hi,rfl⟩:=vE hx
 have jH:i<g.length:=by rw[<-pq g s];exact hi
 unfold rK at h
 rw[bK,bK,cA]at h
 rw[ye jH]
 split
 ·exact⟨by omega,by omega⟩
 ·rename_i fH
  have:=KZ h.1.2.1 h.2 jH fH (by omega)
  have:=(bL h.1.1 (bI jH)).1
  omega
theorem L1{S:aK}{h:Heap}{g:Sl}{aI:aE}(G:dE S h g aI)(hg:aZ aI=true)(s:Int)(K:aL)(HK:∀t h',cM h' (Iv h.size h'.size) t (nV aI s)->Fr No h h'->K t.v h'):aG aB 215 #[.agg #[g.v],VI s] h K:=by
 have gl:=bD hg
 have gn:=G.len
 refine akQ g s h K fun b1 h1 fw f1 cU=> ?_
 have f1:=f1.aM
 have z1:=f1.size
 have fl:=pq aI s
 have l1:b1<h1.size:=cU.head.lt
 refine bC gH (fun k=>h1.size<=k) (fun _ h=>h) 0 (by omega) [] rfl rfl fun o h2 n2 c2 o2 f2 m2 _=>⟨o,rfl,cU.aC f2,?_⟩
 refine⟨fun n x i h'=>0<=i/\i+n=(aI.length:Int)/\cM h' (fun k=>h1.size<=k) x ((nV aI s).take i.toNat)/\Fr (fun k=>h1.size<=k) h1 h',⟨aI.length,by omega,by omega,by show Ow _ _ _ _ _ _;simpa using o2,f2.aC⟩,?_⟩
 rintro n x i h3 ⟨i0,i1,o3,f3⟩ dA
 have F3:Fr No h h3:=f1.fresh f3 fun k hk=>by omega
 have z3:=f3.size
 have G3:=G.no F3
 refine⟨fun e=> ?_,fun e=> ?_⟩
 ·have hi:=G3.lt e
  have zP:i.toNat<aI.length:=by omega
  obtain⟨si,c1,r1⟩:=G3.get i0 hi
  have rn:=r1.len
  have hk:=(bL hg (bI zP)).1
  have ex:=ye (s:=s) zP
  have et:=fJ (nV aI s) i0 (by omega)
  have ei:((i.toNat:Nat):Int)=i:=by omega
  refine⟨G3.bQ i0 hi,si,c1,fun e2=> ?_,fun e2=> ?_⟩
  ·simp only[aT]at e2
   refine oQ (F:=fun k=>h1.size<=k) o3 (fun k hk=>by omega) dA (fun p hp=>by simp at hp;subst hp;show¬h1.size<=b1;omega) (by rw[fD];omega) _ fun t h4 o4 f4 fi=> ?_
   rw[aP _ (by omega) (by omega)]
   refine⟨n-1,by omega,by omega,by omega,?_,f3.trans f4⟩
   rw[et,ex,ei,aJ e2]
   exact o4
  ·simp only[aW]at e2
   rw[rn,aP _ (by omega) (by omega),aP _ (by omega) (by omega)]
   refine oQ (F:=fun k=>h1.size<=k) o3 (fun k hk=>by omega) dA (fun p hp=>by simp at hp;subst hp;show¬h1.size<=b1;omega) (by rw[fD];omega) _ fun t h4 o4 f4 fi=> ?_
   refine⟨n-1,by omega,by omega,by omega,?_,f3.trans f4⟩
   rw[et,ex,ei,aF e2]
   exact o4
 ·simp only[aW]at e
  rw[cW (by omega)]at o3
  exact HK x h3 (o3.mono fun k FR hk=>⟨by omega,(Ow.aR o3 FR).2⟩) F3
theorem Tc{S:aK}{h:Heap}{g:Sl}{aI:aE}(G:dE S h g aI)(hg:aZ aI=true)(s:Int)(K:aL)(HK:∀t h',cM h' (Iv h.size h'.size) t (nV aI s)->Fr No h h'->K t.v h'):aG aB 188 #[.agg #[g.v],VI s] h K:=by
 have gl:=bD hg
 have gn:=G.len
 refine aki g s h K fun b1 h1 fw f1 cU=> ?_
 have f1:=f1.aM
 have z1:=f1.size
 have fl:=pq aI s
 have l1:b1<h1.size:=cU.head.lt
 refine⟨fun n x i h'=>0<=i/\i+n=(aI.length:Int)/\cM h' (fun k=>h1.size<=k) x ((nV aI s).take i.toNat)/\Fr (fun k=>h1.size<=k) h1 h',⟨aI.length,by omega,by omega,Ow.nil _ _ _ _,Fr.refl _ _⟩,?_⟩
 rintro n x i h3 ⟨i0,i1,o3,f3⟩ dA
 have F3:Fr No h h3:=f1.fresh f3 fun k hk=>by omega
 have z3:=f3.size
 have G3:=G.no F3
 refine⟨fun e=> ?_,fun e=> ?_⟩
 ·have hi:=G3.lt e
  have zP:i.toNat<aI.length:=by omega
  obtain⟨si,c1,r1⟩:=G3.get i0 hi
  have rn:=r1.len
  have hk:=(bL hg (bI zP)).1
  have ex:=ye (s:=s) zP
  have et:=fJ (nV aI s) i0 (by omega)
  have ei:((i.toNat:Nat):Int)=i:=by omega
  refine⟨G3.bQ i0 hi,si,c1,fun y h'=>y=(if i=s then 0 else(aI[i.toNat].length:Int)-1)/\h'=h3,⟨fun e2=> ?_,fun e2=> ?_⟩,?_⟩
  ·simp only[aT]at e2
   exact⟨by rw[aJ e2],rfl⟩
  ·simp only[aW]at e2
   rw[rn,aP _ (by omega) (by omega),aF e2]
   exact⟨rfl,rfl⟩
  rintro y h4 ⟨rfl,rfl⟩ fi
  refine oQ (F:=fun k=>h1.size<=k) o3 (fun k hk=>by omega) dA (fun p hp=>by simp at hp;subst hp;show¬h1.size<=b1;omega) (by rw[fD];omega) _ fun t h5 o5 f5 iU=> ?_
  rw[aP _ (by omega) (by omega)]
  refine⟨n-1,by omega,by omega,by omega,?_,f3.trans f5⟩
  rw[et,ex,ei]
  exact o5
 ·simp only[aW]at e
  rw[cW (by omega)]at o3
  exact HK x h3 (o3.mono fun k FR hk=>⟨by omega,(Ow.aR o3 FR).2⟩) F3
theorem L2{S:aK}{h:Heap}{g:Sl}{aI:aE}(G:dE S h g aI)(s:Int)(K:aL)(HK:∀t h',cM h' (Iv h.size h'.size) t (sE aI s).1->Fr No h h'->K (.tuple #[t.v,VB (sE aI s).2]) h'):aG aB 166 #[.agg #[g.v],VI s] h K:=by
 refine ajK g s h K fun b1 h1 fw f1 cU=> ?_
 have f1:=f1.aM
 refine OK (G.no f1) s _ fun h2 f2=>⟨_,rfl,cU.aC f2,fun e=> ?_,fun e=> ?_⟩
 ·unfold sE at HK
  rw[aF (by simpa using e)]at HK
  exact HK aD h2 (Ow.nil _ _ _ _) (f1.aA f2)
 ·have e':rK aI s=true:=by simpa using e
  unfold sE at HK
  rw[aJ e']at HK
  have z:=(f1.aA f2).size
  refine L1 ((G.no f1).no f2) (by unfold rK at e';rw[bK,bK]at e';exact e'.1.1) s _ fun t h3 o3 f3=>⟨t,rfl,(cU.aC f2).aC f3,?_⟩
  exact HK t h3 (o3.TU z (aY _)) ((f1.aA f2).aA f3)
theorem zp{S:aK}{h:Heap}{g:Sl}{aI:aE}(G:dE S h g aI)(s:Int)(K:aL)(HK:∀t h',cM h' (Iv h.size h'.size) t (sE aI s).1->Fr No h h'->K (.tuple #[t.v,VB (sE aI s).2]) h'):aG aB 140 #[.agg #[g.v],VI s] h K:=by
 refine ajj g s h K fun b1 h1 fw f1 cU=> ?_
 have f1:=f1.aM
 refine Re (G.no f1) s _ fun h2 f2=>⟨_,rfl,cU.aC f2,fun e=> ?_,fun e=> ?_⟩
 ·unfold sE at HK
  rw[aF (by simpa using e)]at HK
  exact HK aD h2 (Ow.nil _ _ _ _) (f1.aA f2)
 ·have e':rK aI s=true:=by simpa using e
  unfold sE at HK
  rw[aJ e']at HK
  have z:=(f1.aA f2).size
  refine Tc ((G.no f1).no f2) (by unfold rK at e';rw[bK,bK]at e';exact e'.1.1) s _ fun t h3 o3 f3=>⟨t,rfl,(cU.aC f2).aC f3,?_⟩
  exact HK t h3 (o3.TU z (aY _)) ((f1.aA f2).aA f3)
def kG(b:Nat):Nat->Nat
 |0=>1
 |n+1=>kG b n*b
def bX(b:Nat):Nat->Nat
 |0=>1
 |n+1=>bX b n+kG b (n+1)
theorem v7(b:Nat):∀n,bX b (n+1)=b*bX b n+1
 |0=>by simp[bX,kG,Nat.add_comm]
 |n+1=>by
  have e:=v7 b n
  show bX b (n+1)+kG b (n+1)*b=b*(bX b n+kG b (n+1))+1
  rw[e,Nat.mul_add,qe _ b]
  omega
theorem iK:∀b,b<4->∀d,d<7->kG b d<=bX b d/\bX b d<=1093:=by decide
def iu(b:Nat)(x:Nat):Nat:=if x=0\/b=0 then 0 else iu b ((x-1)/b)+1
termination_by x
decreasing_by
 rename_i h
 have:=Nat.div_le_self (x-1) b
 omega
theorem pt(b:Nat):iu b 0=0:=by rw[iu];simp
theorem L3{b x:Nat}(hb:b≠0)(hx:x≠0):iu b x=iu b ((x-1)/b)+1:=by
 rw[iu,aF (by omega)]
theorem Td{b x r:Nat}(h1:1<=r)(h2:r<=b):iu b (x*b+r)=iu b x+1:=by
 rw[L3 (by omega) (by omega)]
 congr 2
 rw[show x*b+r-1=(r-1)+x*b by omega,Nat.add_mul_div_right _ _ (by omega),Nat.div_eq_of_lt (by omega),iM]
theorem Te{b:Nat}(hb:b≠0):∀{d x:Nat},x<bX b d->iu b x<=d
 |0,x,h=>by
  have:x=0:=by rw[bX]at h;omega
  subst this
  rw[pt];exact aY _
 |d+1,x,h=>by
  by_cases e:x=0
  ·subst e;rw[pt];exact Nat.zero_le _
  ·rw[L3 hb e]
   have:(x-1)/b<bX b d:=by
    rw[Nat.div_lt_iff_lt_mul (by omega),qe]
    rw[v7]at h
    omega
   have:=Te hb this
   omega
def Pv(f:Nat->Nat)(b:Int):Nat->aH->Nat
 |_,[]=>0
 |i,r::rs=>f i*(b-r).toNat+Pv f b (i+1) rs
theorem JJ(f:Nat->Nat)(b v:Int):∀(rs:aH)(i x:Nat)(h:x<rs.length),Pv f b i (rs.set x v)+f (i+x)*(b-rs[x]).toNat=Pv f b i rs+f (i+x)*(b-v).toNat
 |r::rs,i,0,h=>by simp only[List.set_cons_zero,Pv,List.getElem_cons_zero,Nat.add_zero];omega
 |r::rs,i,x+1,h=>by
  have ih:=JJ f b v rs (i+1) x (by simpa using h)
  rw[show i+1+x=i+(x+1) by omega]at ih
  simp only[List.set_cons_succ,Pv,List.getElem_cons_succ]
  omega
def wE(b d:Nat)(a:Int):Nat:=if a<0 then 0 else(b+2)^(d+2)-(b+2)^(d+1-iu b a.toNat)
def JK(b d:Nat)(rs:aH)(a:Int):Nat:=Pv (fun x=>(b+2)^(d+1-iu b x)) b 0 rs+wE b d a
def zq(b:Nat)(a r:Int):Int:=if 0<r then a*b+r else if a=0 then-1 else(a-1)/b
def Tf(b first:Nat):Nat->aH->Int->aH×Int
 |0,rs,a=>(rs,a)
 |n+1,rs,a=>if 0<=a/\a<first then
  Tf b first n (rs.set a.toNat ((rs.getD a.toNat 0+1)%(b+1))) (zq b a ((rs.getD a.toNat 0+1)%(b+1)))
  else(rs,a)
theorem NM(b first:Nat)(n:Nat)(rs:aH)(a:Int)(h:¬(0<=a/\a<first)):Tf b first n rs a=(rs,a):=by
 cases n with
 |zero=>rfl
 |succ n=>rw[Tf,aF h]
theorem Tg{b d:Nat}(hb:0<b){rs:aH}(hl:rs.length=bX b (d-1))(hd:0<d)(hr:∀r,r∈rs->0<=r/\r<=b){a:Int}(h0:0<=a)(h1:a<bX b (d-1)){r:Int}(e:r=(rs.getD a.toNat 0+1)%(b+1)):
 0<=r/\r<=b/\(∀x,x∈rs.set a.toNat r->0<=x/\x<=b)/\JK b d (rs.set a.toNat r) (zq b a r)<JK b d rs a/\iu b a.toNat<d/\
 (0<r->iu b (a*b+r).toNat=iu b a.toNat+1/\0<a*b+r/\a*b+r<=bX b d)/\(¬0<r->a≠0->iu b a.toNat=iu b ((a-1)/b).toNat+1/\0<=(a-1)/b/\(a-1)/b<a):=by
 have ha:a.toNat<rs.length:=by omega
 have eg:rs.getD a.toNat 0=rs[a.toNat]:=by rw[eG,dT ha,Option.getD_some]
 have hq:=hr _ (bI ha)
 rw[eg]at e
 have r0:0<=r:=by rw[e];exact Int.emod_nonneg _ (by omega)
 have r1:r<b+1:=by rw[e];exact Int.emod_lt_of_pos _ (by omega)
 have hm:∀x,x∈rs.set a.toNat r->0<=x/\x<=b:=fun x hx=>by
  rcases rJ hx with hx|rfl
  ·exact hr x hx
  ·exact⟨r0,by omega⟩
 have lv:iu b a.toNat<d:=by
  have:=Te (b:=b) (by omega) (d:=d-1) (x:=a.toNat) (by omega)
  omega
 have ps:=JJ (fun x=>(b+2)^(d+1-iu b x)) b r rs 0 a.toNat ha
 simp only[iM]at ps
 obtain⟨A,hA⟩:∃A:Nat,a=A:=⟨a.toNat,by omega⟩
 obtain⟨R,hR⟩:∃R:Nat,r=R:=⟨r.toNat,by omega⟩
 have ZD:0<r->iu b (a*b+r).toNat=iu b a.toNat+1/\0<a*b+r/\a*b+r<=bX b d:=fun h=>by
  have e1:a*b+r=((A*b+R:Nat):Int):=by rw[hA,hR];simp
  rw[e1]
  refine⟨?_,by omega,?_⟩
  ·rw[Int.toNat_natCast,Td (by omega) (by omega),hA,Int.toNat_natCast]
  ·have e2:bX b d=b*bX b (d-1)+1:=by rw[<-v7,Nat.sub_add_cancel hd]
   have:A+1<=bX b (d-1):=by omega
   have:=Nat.mul_le_mul_left b this
   have e3:b*(A+1)=A*b+b:=by rw[Nat.mul_add,fE,qe]
   omega
 have hup:¬0<r->a≠0->iu b a.toNat=iu b ((a-1)/b).toNat+1/\0<=(a-1)/b/\(a-1)/b<a:=fun h fH=>by
  have e1:(a-1)/b=(((A-1)/b:Nat):Int):=by rw[hA,show(A:Int)-1=((A-1:Nat):Int) by omega];exact(Int.natCast_ediv _ _).symm
  rw[e1,Int.toNat_natCast,show a.toNat=A by omega]
  have:=Nat.div_le_self (A-1) b
  have hl:=L3 (b:=b) (x:=A) (by omega) (by omega)
  generalize (A-1)/b=q at*
  exact⟨hl,by omega,by omega⟩
 refine⟨r0,by omega,hm,?_,lv,ZD,hup⟩
 have W:∀k,k<=d+1->(b+2)^(k+1)=(b+2)^k*b+2*(b+2)^k:=fun k _=>by rw[Nat.pow_succ,Nat.mul_add,qe 2]
 have P:∀k,0<(b+2)^k:=fun k=>Nat.pow_pos (by omega)
 have M:∀k,k<=d+2->(b+2)^k<=(b+2)^(d+2):=fun k hk=>Ah (by omega) hk
 unfold JK
 by_cases h:0<r
 ·obtain⟨g1,g2,g3⟩:=ZD h
  have er:r=rs[a.toNat]+1:=by
   by_cases hh:rs[a.toNat]=b
   ·rw[hh,Int.emod_self]at e;omega
   ·rw[e,Int.emod_eq_of_lt (by omega) (by omega)]
  have e4:(b-rs[a.toNat]:Int).toNat=(b-r:Int).toNat+1:=by omega
  rw[e4,Nat.mul_add,fE]at ps
  have:wE b d (zq b a r)=(b+2)^(d+2)-(b+2)^(d+1-(iu b a.toNat+1)):=by
   unfold zq wE
   rw[aJ h,aF (by omega),g1]
  have w0:wE b d a=(b+2)^(d+2)-(b+2)^(d+1-iu b a.toNat):=by unfold wE;rw[aF (by omega)]
  have m1:=M (d+1-iu b a.toNat) (by omega)
  have m2:=M (d+1-(iu b a.toNat+1)) (by omega)
  have p1:=P (d+1-(iu b a.toNat+1))
  rw[this,w0]
  omega
 ·have er:rs[a.toNat]=b:=by
   by_cases hh:rs[a.toNat]=b
   ·exact hh
   ·rw[Int.emod_eq_of_lt (by omega) (by omega)]at e;omega
  have e4:(b-rs[a.toNat]:Int).toNat=0:=by omega
  have e5:(b-r:Int).toNat=b:=by omega
  rw[e4,e5,Nat.mul_zero]at ps
  have w0:wE b d a=(b+2)^(d+2)-(b+2)^(d+1-iu b a.toNat):=by unfold wE;rw[aF (by omega)]
  have q1:=P (d+1-iu b a.toNat)
  by_cases ha0:a=0
  ·have:wE b d (zq b a r)=0:=by unfold zq wE;rw[aF h,aJ ha0,aJ (by omega)]
   rw[this,w0]
   have l0:iu b a.toNat=0:=by rw[ha0];exact pt b
   have w1:(b+2)^(d+2)=_:=W (d+1) (by omega)
   rw[l0]at ps q1⊢
   rw[Nat.sub_zero]at ps q1⊢
   omega
  ·obtain⟨g1,g2,g3⟩:=hup h ha0
   have:wE b d (zq b a r)=(b+2)^(d+2)-(b+2)^(d+1-iu b a.toNat+1):=by
    unfold zq wE
    rw[aF h,aF ha0,aF (by omega),show d+1-iu b ((a-1)/b).toNat=d+1-iu b a.toNat+1 by omega]
   rw[this,w0]
   have w1:=W (d+1-iu b a.toNat) (by omega)
   have m1:=M (d+1-iu b a.toNat+1) (by omega)
   omega
def Yw(b d:Nat)(rs:aH):aH×Int:=Tf b (bX b (d-1)) (JK b d rs 0) rs 0
def qi(b d:Nat):Nat->aH->aH×aH
 |0,rs=>(rs,[])
 |n+1,rs=>((Yw b d (qi b d n rs).1).1,(qi b d n rs).2++[if(Yw b d (qi b d n rs).1).2= -1 then 0 else 1])
def tX(b d k n:Int):Bool:=decide (2<=b/\b<=3/\1<=d/\d<=6)&&decide ((bX b.toNat d.toNat:Int)<=130)&&decide (0<=k/\k<=b/\0<=n/\n<=200)
def CM(b d k n:Int):Int×Bool:=if tX b d k n=true then((qi b.toNat d.toNat n.toNat (List.replicate (bX b.toNat (d.toNat-1)) k)).2.sum,true)else(0,false)
def Dj(a b:Sl):Prop:=∀k,a.own k->¬b.own k
structure nI(lo:Nat)(h:Heap)(b1:Nat)(f3 f4 f5 f6:Sl)(rs es ts vs:aH):Prop where
 r:cM h (fun k=>lo<=k) f3 rs
 e:cM h (fun k=>lo<=k) f4 es
 t:cM h (fun k=>lo<=k) f5 ts
 v:cM h (fun k=>lo<=k) f6 vs
 re:Dj f3 f4
 rt:Dj f3 f5
 rv:Dj f3 f6
 et:Dj f4 f5
 ev:Dj f4 f6
 tv:Dj f5 f6
 nr:¬f3.own b1
 ne:¬f4.own b1
 nt:¬f5.own b1
 nv:¬f6.own b1
 lb:lo<=b1
 hb:b1<h.size
theorem Dj.symm{a b:Sl}(H:Dj a b):Dj b a:=fun k hb ha=>H k ha hb
theorem nI.Th{lo:Nat}{h:Heap}{b1:Nat}{f3 f4 f5 f6:Sl}{rs es ts vs:aH}(S:nI lo h b1 f3 f4 f5 f6 rs es ts vs):nI lo h b1 f3 f5 f4 f6 rs ts es vs:=⟨S.r,S.t,S.e,S.v,S.rt,S.re,S.rv,S.et.symm,S.tv,S.ev,S.nr,S.nt,S.ne,S.nv,S.lb,S.hb⟩
theorem nI.kv{lo:Nat}{h:Heap}{b1:Nat}{f3 f4 f5 f6:Sl}{rs es ts vs:aH}(S:nI lo h b1 f3 f4 f5 f6 rs es ts vs):nI lo h b1 f4 f3 f5 f6 es rs ts vs:=⟨S.e,S.r,S.t,S.v,S.re.symm,S.et,S.ev,S.rt,S.rv,S.tv,S.ne,S.nr,S.nt,S.nv,S.lb,S.hb⟩
theorem nI.sF{lo:Nat}{h:Heap}{b1:Nat}{f3 f4 f5 f6:Sl}{rs es ts vs:aH}(S:nI lo h b1 f3 f4 f5 f6 rs es ts vs):nI lo h b1 f6 f4 f5 f3 vs es ts rs:=⟨S.v,S.e,S.t,S.r,S.ev.symm,S.tv.symm,S.rv.symm,S.et,S.re.symm,S.rt.symm,S.nv,S.ne,S.nt,S.nr,S.lb,S.hb⟩
theorem nI.no{lo:Nat}{h h':Heap}{b1:Nat}{f3 f4 f5 f6:Sl}{rs es ts vs:aH}(S:nI lo h b1 f3 f4 f5 f6 rs es ts vs)(f:Fr No h h'):nI lo h' b1 f3 f4 f5 f6 rs es ts vs:=⟨Ow.no S.r f,Ow.no S.e f,Ow.no S.t f,Ow.no S.v f,S.re,S.rt,S.rv,S.et,S.ev,S.tv,S.nr,S.ne,S.nt,S.nv,S.lb,fp S.hb f.size⟩
theorem nI.box{lo:Nat}{h h':Heap}{b1:Nat}{f3 f4 f5 f6:Sl}{rs es ts vs:aH}(S:nI lo h b1 f3 f4 f5 f6 rs es ts vs)(f:Fr (fun k=>k=b1) h h'):nI lo h' b1 f3 f4 f5 f6 rs es ts vs:=⟨Ow.fr S.r f fun k hk e=>S.nr (e▸hk),Ow.fr S.e f fun k hk e=>S.ne (e▸hk),Ow.fr S.t f fun k hk e=>S.nt (e▸hk),Ow.fr S.v f fun k hk e=>S.nv (e▸hk),S.re,S.rt,S.rv,S.et,S.ev,S.tv,S.nr,S.ne,S.nt,S.nv,S.lb,fp S.hb f.size⟩
theorem nI.Pw{lo:Nat}{h h':Heap}{b1:Nat}{f3 f4 f5 f6:Sl}{rs es ts vs:aH}(S:nI lo h b1 f3 f4 f5 f6 rs es ts vs){B:List Nat}(f:Fr (In B) h h')(hB:∀b,b∈B->b=b1):nI lo h' b1 f3 f4 f5 f6 rs es ts vs:=S.box (f.mono fun k _ hk=>hB k hk)
theorem nI.JL{lo:Nat}{h:Heap}{b1:Nat}{f3 f4 f5 f6:Sl}{rs es ts vs:aH}(S:nI lo h b1 f3 f4 f5 f6 rs es ts vs){i:Int}(h0:0<=i)(h1:i<(rs.length:Int))(v:Int):
 fq f3 i/\bG h (f3.at i 1)=some (VI (rs.getD i.toNat 0))/\fC h (f3.at i 1)/\nI lo (Mx.dS h (f3.at i 1) (VI v)) b1 f3 f4 f5 f6 (rs.set i.toNat v) es ts vs/\Fr f3.own h (Mx.dS h (f3.at i 1) (VI v)):=by
 have hn:f3.n=rs.length:=by have:=S.r.rd.len;simpa using this.symm
 obtain⟨w1,w2,w3⟩:=S.r.gF h0 (by omega) (VI v)
 have R:bE f3.own h f3 rs:=S.r.rd
 have eg:rs.getD i.toNat 0=rs[i.toNat]'(by omega):=by rw[eG,dT (by omega),Option.getD_some]
 refine⟨R.bQ h0 h1,by rw[eg];exact R.get h0 h1,w1,⟨?_,S.e.fr w3 fun k hk aQ=>S.re k aQ hk,S.t.fr w3 fun k hk aQ=>S.rt k aQ hk,S.v.fr w3 fun k hk aQ=>S.rv k aQ hk,S.re,S.rt,S.rv,S.et,S.ev,S.tv,S.nr,S.ne,S.nt,S.nv,S.lb,fp S.hb w3.size⟩,w3⟩
 show Ow _ _ _ _ _ _
 rw[<-ig]at w2
 exact w2
theorem nI.Hc{lo:Nat}{h:Heap}{b1:Nat}{f3 f4 f5 f6:Sl}{rs es ts vs:aH}(S:nI lo h b1 f3 f4 f5 f6 rs es ts vs)(yM:lo<=h.size){T:aK}{x:Sl}{v:Int}(X:bE T h x [v])(hn:rs.length<=1000){K:aL}
 (HK:∀t h',nI lo h' b1 t f4 f5 f6 (rs++[v]) es ts vs->Fr f3.own h h'->(∀k,t.own k->f3.own k\/h.size<=k)->K t.v h'):j5 aB (cD mW mW mW f3.v x.v) h K:=by
 have h3:f3.n=rs.length:=by have:=S.r.rd.len;simpa using this.symm
 have hx:x.n=1:=by have:=X.len;simpa using this
 refine cV gH S.r (fun k hk=>by omega) X (gr _) (by omega) fun t h' n' o' f' w'=>HK t h' ?_ f' w'
 have dj:∀{s:Sl}{l:aH},cM h (fun k=>lo<=k) s l->Dj f3 s->Dj t s:=fun O D k hk hs=>by
  rcases w' k hk with hk|hk
  ·exact D k hk hs
  ·have:=(O.aR hs).2;omega
 refine⟨by show Ow _ _ _ _ _ _;rw[cQ];exact o',S.e.fr f' fun k hk aQ=>S.re k aQ hk,S.t.fr f' fun k hk aQ=>S.rt k aQ hk,S.v.fr f' fun k hk aQ=>S.rv k aQ hk,dj S.e S.re,dj S.t S.rt,dj S.v S.rv,S.et,S.ev,S.tv,fun hk=> ?_,S.ne,S.nt,S.nv,S.lb,fp S.hb f'.size⟩
 rcases w' _ hk with hk|hk
 ·exact S.nr hk
 ·have:=S.hb;omega
theorem iy{h:Heap}(v:Int){K:aL}(HK:∀x h',cM h' (fun k=>h.size<=k) x [v]->Fr No h h'->K x.v h'):j5 aB (Instr.buildSlice mW 1 #[(0,VI v)]) h K:=
 bC gH (fun k=>h.size<=k) (fun _ h=>h) 1 (by omega) [VI v] rfl rfl fun x h' n c o f m _=>HK x h' (by show Ow _ _ _ _ _ _;simpa using o) f
theorem JM{b d:Nat}(hb:0<b)(hd:0<d):∀(n:Nat){rs:aH}{a:Int},rs.length=bX b (d-1)->(∀r,r∈rs->0<=r/\r<=(b:Int))->(Tf b (bX b (d-1)) n rs a).1.length=bX b (d-1)/\∀r,r∈(Tf b (bX b (d-1)) n rs a).1->0<=r/\r<=(b:Int)
 |0,rs,a,hl,hr=>⟨hl,hr⟩
 |n+1,rs,a,hl,hr=>by
  rw[Tf]
  by_cases h:0<=a/\a<(bX b (d-1):Nat)
  ·rw[aJ h]
   obtain⟨_,_,s3,_⟩:=Tg hb hl hd hr h.1 h.2 rfl
   exact JM hb hd n (by rw[bY];exact hl) s3
  ·rw[aF h]
   exact⟨hl,hr⟩
theorem we(b:Nat):∀d,1<=bX b d
 |0=>aY _
 |d+1=>by rw[bX];have:=we b d;omega
theorem yf{b d:Nat}(hb:b<4)(hd:d<7){h:Heap}(K:aL)(HK:K (VI (bX b d)) h):aG aB 268 #[VI b,VI d] h K:=by
 refine alU b d h K ⟨fun n all lev i h'=>∃j:Nat,i=j/\n+j=d/\all=(bX b j:Nat)/\lev=(kG b j:Nat)/\h'=h,⟨d,0,rfl,by omega,rfl,rfl,rfl⟩,?_⟩
 rintro n all lev i h' ⟨j,rfl,hn,rfl,rfl,rfl⟩ hL
 have hs:=iK b hb j (by omega)
 refine⟨fun e=> ?_,fun e=> ?_⟩
 ·simp only[aT]at e
  have hs2:=iK b hb (j+1) (by omega)
  have e1:((kG b j:Nat):Int)*(b:Int)=((kG b (j+1):Nat):Int):=by rw[kG];simp
  have e2:bX b (j+1)=bX b j+kG b (j+1):=rfl
  rw[e1,aP ((kG b (j+1):Nat):Int) (by omega) (by omega),aP _ (by omega) (by omega),aP _ (by omega) (by omega)]
  exact⟨n-1,by omega,j+1,by omega,by omega,by omega,rfl,rfl⟩
 ·simp only[aW]at e
  have:j=d:=by omega
  subst this
  exact HK
theorem Dt{h:Heap}(b d:Int)(K:aL)(HK:K (VB (decide (2<=b/\b<=3/\1<=d/\d<=6)&&decide ((bX b.toNat d.toNat:Int)<=130))) h):aG aB 266 #[VI b,VI d] h K:=by
 refine alQ b d h K (fV _ _ _ h _ ⟨_,rfl,.nil,fun e=> ?_,fun e=> ?_⟩)
 ·have e:=cA.1 e
  refine fV _ _ _ h _ ⟨_,rfl,.nil,fun e2=> ?_,fun e2=> ?_⟩
  ·have e2:=cA.1 e2
   obtain⟨B,rfl⟩:∃B:Nat,b=B:=⟨b.toNat,by omega⟩
   obtain⟨D,rfl⟩:∃D:Nat,d=D:=⟨d.toNat,by omega⟩
   refine yf (by omega) (by omega) _ ⟨_,rfl,.nil,?_⟩
   rw[kk (show 2<=(B:Int)/\(B:Int)<=3/\1<=(D:Int)/\(D:Int)<=6 by omega),fc]at HK
   exact HK
  ·rw[gU (show¬(2<=b/\b<=3/\1<=d/\d<=6)from fun h=>by simp at e2;omega),gI]at HK
   exact HK
 ·rw[gU (show¬(2<=b/\b<=3/\1<=d/\d<=6)from fun h=>by simp at e;omega),gI]at HK
  exact HK
theorem nI.toT{lo:Nat}{h:Heap}{b1:Nat}{f3 f4 f5 f6:Sl}{rs es ts vs:aH}(S:nI lo h b1 f3 f4 f5 f6 rs es ts vs):nI lo h b1 f5 f3 f4 f6 ts rs es vs:=S.Th.kv
theorem nI.ofT{lo:Nat}{h:Heap}{b1:Nat}{f3 f4 f5 f6:Sl}{rs es ts vs:aH}(S:nI lo h b1 f5 f3 f4 f6 ts rs es vs):nI lo h b1 f3 f4 f5 f6 rs es ts vs:=S.kv.Th
theorem jr{h h':Heap}{b1:Nat}{cs:List Value}{T:aK}(hL:Vars h [(b1,cs)])(f:Fr T h h')(hT:¬T b1):Vars h' [(b1,cs)]:=hL.fr f fun p hp=>by
 simp only[eO]at hp
 subst hp
 exact hT
def Yy(b d lo:Nat)(h2:Heap)(b1:Nat)(f3 f4 f5 f6:Sl)(rs es ts:aH)(sp:Prop)(n:Nat)(a lv:Int)(h':Heap):Prop:=
 ∃vO sP,JK b d vO a<=n/\Tf b (bX b (d-1)) n vO a=Yw b d rs/\vO.length=bX b (d-1)/\(∀r,r∈vO->0<=r/\r<=(b:Int))/\sP.length=d+1/\nI lo h' b1 f3 f4 f5 f6 vO es ts sP/\Fr (fun k=>lo<=k) h2 h'/\ -1<=a/\a<=(bX b d:Int)/\(0<=a->lv=(iu b a.toNat:Int))/\(sp->a<0->lv<0)
theorem Ti{b first n:Nat}{rs:aH}{a:Int}{R:aH×Int}{ph:Nat}(hn:ph<n)(h0:0<=a)(h1:a<(first:Int))(H:Tf b first n rs a=R):Tf b first (n-1) (rs.set a.toNat ((rs.getD a.toNat 0+1)%((b:Int)+1))) (zq b a ((rs.getD a.toNat 0+1)%((b:Int)+1)))=R:=by
 obtain⟨m,rfl⟩:∃m,n=m+1:=⟨n-1,by omega⟩
 rw[Tf,aJ ⟨h0,h1⟩]at H
 exact H
def Du(b d:Nat)(rs:aH):Int:=if(Yw b d rs).2= -1 then 0 else 1
set_option maxHeartbeats 4000000 in
theorem Xw{b d:Nat}(hb:2<=b/\b<=3)(hd:1<=d/\d<=6){lo:Nat}{h:Heap}(yM:lo<=h.size){b1:Nat}{f3 f4 f5 f6:Sl}{rs es ts vs:aH}(hL:Vars h [(b1,[VI b,VI d,f3.v,f4.v,f5.v,f6.v])])(S:nI lo h b1 f3 f4 f5 f6 rs es ts vs)(hl:rs.length=bX b (d-1))(hr:∀r,r∈rs->0<=r/\r<=(b:Int))(hv:vs.length=d+1)(he:es.length<=300)(ht:ts.length<=300)(K:aL)
 (HK:∀h' t u ws sP,Vars h' [(b1,[VI b,VI d,f3.v,t.v,u.v,f6.v])]->nI lo h' b1 f3 t u f6 (Yw b d rs).1 (es++[Du b d rs]) ws sP->ws.length=ts.length+1->sP.length=d+1->Fr (fun k=>lo<=k) h h'->K (.tuple #[]) h'):aG aB 269 #[VP b1 0] h K:=by
 have hs:=iK b (by omega) d (by omega)
 have Zz:=iK b (by omega) (d-1) (by omega)
 refine alV b1 b d f3 f4 f5 f6 h K hL ?_
 unfold ae5 pk
 rw[show aX ((d:Int)-1)=((d-1:Nat):Int)from by rw[aP _ (by omega) (by omega)];omega]
 refine yf (by omega) (by omega) _ ⟨_,rfl,hL,?_⟩
 obtain⟨a1,a2,a3,S1,f1⟩:=S.sF.JL (i:=0) (by omega) (by omega) (aX (vs.getD (0:Int).toNat 0+1))
 refine⟨a1,_,a2,a1,a3,jr hL f1 S.nv,fun h2 e2 cR=> ?_⟩
 subst e2
 have S1:=S1.sF
 have F1:Fr (fun k=>lo<=k) h _:=f1.mono fun k _ hk=>(S.v.aR hk).1
 refine⟨fun n a lv st h'=>Yy b d lo _ b1 f3 f4 f5 f6 rs es ts False n a lv h',⟨JK b d rs 0,rs,_,aY _,rfl,hl,hr,by rw[bY];exact hv,S1,Fr.refl _ _,by omega,by omega,fun _=>by simp[pt],fun h=>h.elim⟩,?_⟩
 rintro n a lv st h3 ⟨vO,sP,i1,i2,i3,i4,i5,S3,Zn,i6,i7,i8,_⟩ dA
 refine⟨fun e1=>⟨fun e2=> ?_,fun e2=> ?_⟩,fun e1=> ?_⟩
 ·simp only[aT,gE,aW]at e1 e2
  have h0:0<=a:=by omega
  obtain⟨r,Fy⟩:∃r,r=(vO.getD a.toNat 0+1)%((b:Int)+1):=⟨_,rfl⟩
  obtain⟨s0,s1,s3,s4,s5,s6,s7⟩:=Tg (by omega) i3 (by omega) i4 h0 e2 Fy
  have hq:0<=vO.getD a.toNat 0/\vO.getD a.toNat 0<=b:=by
   have hi:a.toNat<vO.length:=by omega
   have:vO.getD a.toNat 0=vO[a.toNat]:=by rw[eG,dT hi,Option.getD_some]
   rw[this];exact i4 _ (bI hi)
  have ev:Int.tmod (aX (vO.getD a.toNat 0+1)) (aX ((b:Int)+1))=r:=by
   rw[aP _ (by omega) (by omega),aP _ (by omega) (by omega),Hd (by omega),Fy]
  obtain⟨c1,c2,c3,S4,f4'⟩:=S3.JL h0 (by omega) r
  refine⟨c1,_,c2,by rw[aP _ (by omega) (by omega)];omega,c1,?_⟩
  rw[ev]
  refine⟨c3,jr dA f4' S3.nr,fun h4 e4 fi=> ?_⟩
  subst e4
  have G:=Ti (fp s4 i1) h0 e2 i2
  rw[<-Fy]at G
  obtain⟨d1,d2,_,_,_⟩:=S4.JL h0 (by rw[bY];omega) 0
  have eg:(vO.set a.toNat r).getD a.toNat 0=r:=by
   rw[eG,List.getElem?_set_self (by omega),Option.getD_some]
  rw[eg]at d2
  have F4:Fr (fun k=>lo<=k) _ _:=Zn.trans (f4'.mono fun k _ hk=>(S3.r.aR hk).1)
  have l1:=i8 h0
  refine⟨fun x1 x2 h'=>x1=zq b a r/\ -1<=x1/\x1<=(bX b d:Int)/\(0<=x1->x2=(iu b x1.toNat:Int)/\x2<=d)/\h'=Mx.dS h3 (f3.at a 1) (VI r),⟨d1,r,d2,fun e3=> ?_,fun e3=>⟨fun e5=> ?_,fun e5=> ?_⟩⟩,?_⟩
  ·simp only[aT]at e3
   obtain⟨t1,t2,t3⟩:=s6 e3
   have hab:0<=a*(b:Int):=Int.mul_nonneg h0 (by omega)
   have Tj:zq b a r=a*b+r:=by unfold zq;rw[aJ e3]
   rw[Tj]
   generalize a*(b:Int)=q at*
   rw[aP q (by omega) (by omega),aP (q+r) (by omega) (by omega),aP (lv+1) (by omega) (by omega)]
   exact⟨rfl,by omega,by omega,fun _=>⟨by rw[t1];omega,by omega⟩,rfl⟩
  ·simp only[aT,aW]at e3 e5
   have Tj:zq b a r= -1:=by unfold zq;rw[aF e3,aJ e5]
   rw[Tj]
   exact⟨rfl,by omega,by omega,fun h=>by omega,rfl⟩
  ·simp only[aW]at e3 e5
   obtain⟨t1,t2,t3⟩:=s7 e3 e5
   have Tj:zq b a r=(a-1)/b:=by unfold zq;rw[aF e3,aF e5]
   rw[Tj,aP (a-1) (by omega) (by omega),Int.tdiv_eq_ediv_of_nonneg (by omega),aP (lv-1) (by omega) (by omega),aP _ (by omega) (by omega)]
   exact⟨by omega,rfl,by omega,by omega,fun _=>⟨by omega,by omega⟩,rfl⟩
  rintro x1 x2 h5 ⟨rfl,x3,x4,x5,rfl⟩ iU
  refine⟨fun e3=> ?_,fun e3=> ?_⟩
  ·simp only[gE,aW]at e3
   obtain⟨y1,y2⟩:=x5 (by omega)
   obtain⟨g1,g2,g3,S5,f5'⟩:=S4.sF.JL (i:=x2) (by omega) (by omega) (aX (sP.getD x2.toNat 0+1))
   refine⟨g1,_,g2,g1,g3,jr iU f5' S4.nv,fun h6 e6 kU=> ?_⟩
   subst e6
   exact⟨n-1,by omega,_,_,by omega,G,by rw[bY];exact i3,s3,by rw[bY];exact i5,S5.sF,F4.trans (f5'.mono fun k _ hk=>(S4.v.aR hk).1),x3,x4,fun h=>(x5 h).1,fun h=>h.elim⟩
  ·simp only[uM,aT]at e3
   exact⟨n-1,by omega,_,_,by omega,G,by rw[bY];exact i3,s3,i5,S4,F4,x3,x4,fun h=>by omega,fun h=>h.elim⟩
 all_goals
  have adt:¬(0<=a/\a<(bX b (d-1):Int)):=by
   first
   |(simp only[aW]at e2;omega)
   |(simp only[uM,aT]at e1;omega)
  rw[NM _ _ _ _ _ adt]at i2
  have p1:=we b (d-1)
  have eE:Du b d rs=if a= -1 then 0 else 1:=by unfold Du;rw[<-i2]
  have eR:(Yw b d rs).1=vO:=by rw[<-i2]
  have z3:lo<=h3.size:=Nat.le_of_lt (Nat.lt_of_le_of_lt S3.lb S3.hb)
  have F3:=F1.trans Zn
  have fin:∀h' t u,Vars h' [(b1,[VI b,VI d,f3.v,t.v,u.v,f6.v])]->nI lo h' b1 f3 t u f6 vO (es++[Du b d rs]) (ts++[st]) sP->Fr (fun k=>lo<=k) h3 h'->K (.tuple #[]) h':=fun h' t u V S' f=>HK h' t u _ _ V (by rw[eR];exact S') (by simp) i5 (F3.trans f)
  refine⟨fun x h'=>x=Du b d rs/\h'=h3,⟨fun e=>⟨by simp only[aT]at e;rw[eE,aJ e],rfl⟩,fun e=>⟨by simp only[aW]at e;rw[eE,aF e],rfl⟩⟩,?_⟩
  rintro x _ ⟨rfl,rfl⟩ fi
  have box:∀{X Y:Heap},Fr (In [b1,b1]) X Y->Fr (fun k=>lo<=k) X Y:=fun f=>f.mono fun k _ hk=>by simp[In]at hk;have:=S3.lb;omega
  refine⟨?_,?_⟩
  ·refine iy _ fun x5 h5 o5 f5=>⟨x5,rfl,fi.aC f5,?_⟩
   have S5:=S3.no f5
   have z5:=f5.size
   refine⟨?_,?_⟩
   ·refine S5.kv.Hc (by omega) o5.rd (by omega) fun t h6 S6 f6 w6=>⟨t,rfl,jr (fi.aC f5) f6 S5.ne,?_⟩
    have z6:=f6.size
    refine iy _ fun x7 h7 o7 f7=>⟨x7,rfl,(jr (fi.aC f5) f6 S5.ne).aC f7,?_⟩
    have S7:=S6.kv.no f7
    have z7:=f7.size
    refine S7.toT.Hc (by omega) o7.rd (by omega) fun u h8 S8 f8 w8=>⟨u,rfl,jr ((jr (fi.aC f5) f6 S5.ne).aC f7) f8 S7.nt,fun h9 f9 gM=> ?_⟩
    refine fin h9 t u gM (S8.ofT.Pw f9 (by simp)) ((((f5.aC.trans (f6.mono fun k _ hk=>(S5.e.aR hk).1)).trans f7.aC).trans (f8.mono fun k _ hk=>(S7.t.aR hk).1)).trans (box f9))
   ·refine iy _ fun x7 h7 o7 f7=>⟨x7,rfl,(fi.aC f5).aC f7,?_⟩
    have z7:=f7.size
    have S7:=S5.no f7
    refine S7.kv.Hc (by omega) (Ow.no o5 f7).rd (by omega) fun t h6 S6 f6 w6=>⟨t,rfl,jr ((fi.aC f5).aC f7) f6 S7.ne,?_⟩
    have z6:=f6.size
    have o6:=Ow.fr o7 f6 fun k hk aQ=>by have h1:=(o7.aR hk).1;have h2:=(S5.e.aR aQ).2;omega
    refine S6.kv.toT.Hc (by omega) o6.rd (by omega) fun u h8 S8 f8 w8=>⟨u,rfl,jr (jr ((fi.aC f5).aC f7) f6 S7.ne) f8 S6.kv.nt,fun h9 f9 gM=> ?_⟩
    refine fin h9 t u gM (S8.ofT.Pw f9 (by simp)) ((((f5.aC.trans f7.aC).trans (f6.mono fun k _ hk=>(S7.e.aR hk).1)).trans (f8.mono fun k _ hk=>(S6.kv.t.aR hk).1)).trans (box f9))
  ·refine iy _ fun x7 h7 o7 f7=>⟨x7,rfl,fi.aC f7,?_⟩
   have z7:=f7.size
   refine iy _ fun x5 h5 o5 f5=>⟨x5,rfl,(fi.aC f7).aC f5,?_⟩
   have z5:=f5.size
   have S5:=(S3.no f7).no f5
   refine S5.kv.Hc (by omega) o5.rd (by omega) fun t h6 S6 f6 w6=>⟨t,rfl,jr ((fi.aC f7).aC f5) f6 S5.ne,?_⟩
   have z6:=f6.size
   have o6:=Ow.fr (Ow.no o7 f5) f6 fun k hk aQ=>by have h1:=(o7.aR hk).1;have h2:=(S3.e.aR aQ).2;omega
   refine S6.kv.toT.Hc (by omega) o6.rd (by omega) fun u h8 S8 f8 w8=>⟨u,rfl,jr (jr ((fi.aC f7).aC f5) f6 S5.ne) f8 S6.kv.nt,fun h9 f9 gM=> ?_⟩
   refine fin h9 t u gM (S8.ofT.Pw f9 (by simp)) ((((f7.aC.trans f5.aC).trans (f6.mono fun k _ hk=>(S5.e.aR hk).1)).trans (f8.mono fun k _ hk=>(S6.kv.t.aR hk).1)).trans (box f9))
set_option maxHeartbeats 4000000 in
theorem Xx{b d:Nat}(hb:2<=b/\b<=3)(hd:1<=d/\d<=6){lo:Nat}{h:Heap}(yM:lo<=h.size){b1:Nat}{f3 f4 f5 f6:Sl}{rs es ts vs:aH}(hL:Vars h [(b1,[VI b,VI d,VI (bX b (d-1):Nat),f3.v,f4.v,f5.v,f6.v])])(S:nI lo h b1 f3 f4 f5 f6 rs es ts vs)(hl:rs.length=bX b (d-1))(hr:∀r,r∈rs->0<=r/\r<=(b:Int))(hv:vs.length=d+1)(he:es.length<=300)(ht:ts.length<=300)(K:aL)
 (HK:∀h' t u ws sP,Vars h' [(b1,[VI b,VI d,VI (bX b (d-1):Nat),f3.v,t.v,u.v,f6.v])]->nI lo h' b1 f3 t u f6 (Yw b d rs).1 (es++[Du b d rs]) ws sP->ws.length=ts.length+1->sP.length=d+1->Fr (fun k=>lo<=k) h h'->K (.tuple #[]) h'):aG aB 240 #[VP b1 0] h K:=by
 have hs:=iK b (by omega) d (by omega)
 have Zz:=iK b (by omega) (d-1) (by omega)
 refine alp b1 b d (bX b (d-1):Nat) f3 f4 f5 f6 h K hL ?_
 unfold ae3 pk
 obtain⟨a1,a2,a3,S1,f1⟩:=S.sF.JL (i:=0) (by omega) (by omega) (aX (vs.getD (0:Int).toNat 0+1))
 refine⟨a1,_,a2,a1,a3,jr hL f1 S.nv,fun h2 e2 cR=> ?_⟩
 subst e2
 have S1:=S1.sF
 have F1:Fr (fun k=>lo<=k) h _:=f1.mono fun k _ hk=>(S.v.aR hk).1
 refine⟨fun n a lv st h'=>Yy b d lo _ b1 f3 f4 f5 f6 rs es ts True n a lv h',⟨JK b d rs 0,rs,_,aY _,rfl,hl,hr,by rw[bY];exact hv,S1,Fr.refl _ _,by omega,by omega,fun _=>by simp[pt],fun _ h=>by omega⟩,?_⟩
 rintro n a lv st h3 ⟨vO,sP,i1,i2,i3,i4,i5,S3,Zn,i6,i7,i8,i9⟩ dA
 refine⟨fun e1=>⟨fun e2=> ?_,fun e2=> ?_⟩,fun e1=> ?_⟩
 ·simp only[aT]at e1 e2
  have h0:0<=a:=e1
  obtain⟨r,Fy⟩:∃r,r=(vO.getD a.toNat 0+1)%((b:Int)+1):=⟨_,rfl⟩
  obtain⟨s0,s1,s3,s4,s5,s6,s7⟩:=Tg (by omega) i3 (by omega) i4 h0 e2 Fy
  have hq:0<=vO.getD a.toNat 0/\vO.getD a.toNat 0<=b:=by
   have hi:a.toNat<vO.length:=by omega
   have:vO.getD a.toNat 0=vO[a.toNat]:=by rw[eG,dT hi,Option.getD_some]
   rw[this];exact i4 _ (bI hi)
  have ev:Int.tmod (aX (vO.getD a.toNat 0+1)) (aX ((b:Int)+1))=r:=by
   rw[aP _ (by omega) (by omega),aP _ (by omega) (by omega),Hd (by omega),Fy]
  obtain⟨c1,c2,c3,S4,f4'⟩:=S3.JL h0 (by omega) r
  refine⟨c1,_,c2,by rw[aP _ (by omega) (by omega)];omega,c1,?_⟩
  rw[ev]
  refine⟨c3,jr dA f4' S3.nr,fun h4 e4 fi=> ?_⟩
  subst e4
  have G:=Ti (fp s4 i1) h0 e2 i2
  rw[<-Fy]at G
  obtain⟨d1,d2,_,_,_⟩:=S4.JL h0 (by rw[bY];omega) 0
  have eg:(vO.set a.toNat r).getD a.toNat 0=r:=by
   rw[eG,List.getElem?_set_self (by omega),Option.getD_some]
  rw[eg]at d2
  have F4:Fr (fun k=>lo<=k) _ _:=Zn.trans (f4'.mono fun k _ hk=>(S3.r.aR hk).1)
  have l1:=i8 h0
  refine⟨fun x1 x2 h'=>x1=zq b a r/\ -1<=x1/\x1<=(bX b d:Int)/\(0<=x1->x2=(iu b x1.toNat:Int)/\x2<=d)/\(x1<0->x2<0)/\h'=Mx.dS h3 (f3.at a 1) (VI r),⟨d1,r,d2,fun e3=> ?_,fun e3=>⟨fun e5=> ?_,fun e5=> ?_⟩⟩,?_⟩
  ·simp only[aT]at e3
   obtain⟨t1,t2,t3⟩:=s6 e3
   have hab:0<=a*(b:Int):=Int.mul_nonneg h0 (by omega)
   have Tj:zq b a r=a*b+r:=by unfold zq;rw[aJ e3]
   rw[Tj]
   generalize a*(b:Int)=q at*
   rw[aP q (by omega) (by omega),aP (q+r) (by omega) (by omega),aP (lv+1) (by omega) (by omega)]
   exact⟨rfl,by omega,by omega,fun _=>⟨by rw[t1];omega,by omega⟩,fun h=>by omega,rfl⟩
  ·simp only[aT,aW]at e3 e5
   have Tj:zq b a r= -1:=by unfold zq;rw[aF e3,aJ e5]
   have l0:iu b a.toNat=0:=by rw[e5];exact pt b
   rw[Tj,aP (lv-1) (by omega) (by omega)]
   exact⟨rfl,by omega,by omega,fun h=>by omega,fun _=>by omega,rfl⟩
  ·simp only[aW]at e3 e5
   obtain⟨t1,t2,t3⟩:=s7 e3 e5
   have Tj:zq b a r=(a-1)/b:=by unfold zq;rw[aF e3,aF e5]
   rw[Tj,aP (a-1) (by omega) (by omega),Int.tdiv_eq_ediv_of_nonneg (by omega),aP (lv-1) (by omega) (by omega),aP _ (by omega) (by omega)]
   exact⟨by omega,rfl,by omega,by omega,fun _=>⟨by omega,by omega⟩,fun h=>by omega,rfl⟩
  rintro x1 x2 h5 ⟨rfl,x3,x4,x5,x6,rfl⟩ iU
  refine⟨fun e3=> ?_,fun e3=> ?_⟩
  ·simp only[aT]at e3
   have Rb:0<=zq b a r:=by
    by_cases hh:0<=zq b a r
    ·exact hh
    ·have:=x6 (by omega);omega
   obtain⟨y1,y2⟩:=x5 Rb
   obtain⟨g1,g2,g3,S5,f5'⟩:=S4.sF.JL (i:=x2) (by omega) (by omega) (aX (sP.getD x2.toNat 0+1))
   refine⟨g1,_,g2,g1,g3,jr iU f5' S4.nv,fun h6 e6 kU=> ?_⟩
   subst e6
   exact⟨n-1,by omega,_,_,by omega,G,by rw[bY];exact i3,s3,by rw[bY];exact i5,S5.sF,F4.trans (f5'.mono fun k _ hk=>(S4.v.aR hk).1),x3,x4,fun h=>(x5 h).1,fun _=>x6⟩
  ·simp only[aW]at e3
   exact⟨n-1,by omega,_,_,by omega,G,by rw[bY];exact i3,s3,i5,S4,F4,x3,x4,fun h=>by have:=x5 h;omega,fun _=>x6⟩
 all_goals
  have adt:¬(0<=a/\a<(bX b (d-1):Int)):=by
   first
   |(simp only[aW]at e2;omega)
   |(simp only[aW]at e1;omega)
  rw[NM _ _ _ _ _ adt]at i2
  have p1:=we b (d-1)
  have eE:Du b d rs=if a= -1 then 0 else 1:=by unfold Du;rw[<-i2]
  have eR:(Yw b d rs).1=vO:=by rw[<-i2]
  have z3:lo<=h3.size:=Nat.le_of_lt (Nat.lt_of_le_of_lt S3.lb S3.hb)
  have F3:=F1.trans Zn
  have fin:∀h' t u,Vars h' [(b1,[VI b,VI d,VI (bX b (d-1):Nat),f3.v,t.v,u.v,f6.v])]->nI lo h' b1 f3 t u f6 vO (es++[Du b d rs]) (ts++[st]) sP->Fr (fun k=>lo<=k) h3 h'->K (.tuple #[]) h':=fun h' t u V S' f=>HK h' t u _ _ V (by rw[eR];exact S') (by simp) i5 (F3.trans f)
  refine⟨fun x h'=>x=Du b d rs/\h'=h3,⟨fun e=>⟨by simp only[aT]at e;rw[eE,aF (by omega)],rfl⟩,fun e=>⟨by simp only[aW]at e;rw[eE,aJ (by omega)],rfl⟩⟩,?_⟩
  rintro x _ ⟨rfl,rfl⟩ fi
  have box:∀{X Y:Heap},Fr (In [b1]) X Y->Fr (fun k=>lo<=k) X Y:=fun f=>f.mono fun k _ hk=>by simp[In]at hk;have:=S3.lb;omega
  refine iy _ fun x5 h5 o5 f5=>⟨x5,rfl,fi.aC f5,?_⟩
  have S5:=S3.no f5
  have z5:=f5.size
  refine S5.kv.Hc (by omega) o5.rd (by omega) fun t h6 S6 f6 w6=>⟨t,rfl,jr (fi.aC f5) f6 S5.ne,fun h7 f7 jQ=> ?_⟩
  have z6:=f6.size
  have z7:=f7.size
  have S7:=S6.kv.Pw f7 (by simp)
  refine iy _ fun x8 h8 o8 f8=>⟨x8,rfl,jQ.aC f8,?_⟩
  have z8:=f8.size
  have S8:=S7.no f8
  refine S8.toT.Hc (by omega) o8.rd (by omega) fun u h9 S9 f9 w9=>⟨u,rfl,jr (jQ.aC f8) f9 S8.nt,fun fa f10 ft=> ?_⟩
  exact fin fa t u ft (S9.ofT.Pw f10 (by simp)) (((((f5.aC.trans (f6.mono fun k _ hk=>(S5.e.aR hk).1)).trans (box f7)).trans f8.aC).trans (f9.mono fun k _ hk=>(S8.t.aR hk).1)).trans (box f10))
theorem Yz{S:aK}{h:Heap}{s:Sl}{xs:aH}(H:bE S h s xs)(hb:∀x,x∈xs->0<=x/\x<=20)(hn:xs.length<=1000)(K:aL)(HK:K (VI xs.sum) h):aG aB 172 #[s.v] h K:=by
 refine ajT s h K ⟨fun n t i h'=>h'=h/\0<=i/\i+n=(xs.length:Int)/\t=(xs.take i.toNat).sum/\0<=t/\t<=20*i,⟨xs.length,rfl,by omega,by omega,by simp,by omega,by omega⟩,?_⟩
 rintro n t i _ ⟨rfl,i0,i1,e1,t0,t1⟩ hL
 refine⟨fun e=> ?_,fun e=> ?_⟩
 ·have hi:=H.lt e
  have hx:=hb _ (bI (show i.toNat<xs.length by omega))
  refine⟨H.bQ i0 hi,_,H.get i0 hi,?_⟩
  rw[H.succ i0 hi,aP _ (by omega) (by omega)]
  refine⟨n-1,by omega,rfl,by omega,by omega,?_,by omega,by omega⟩
  rw[fJ xs i0 hi,List.sum_append,e1]
  simp
 ·have hi:=H.ge e
  rw[cW (by omega)]at e1
  rw[e1]
  exact HK
theorem Xy{S:aK}{h:Heap}{s:Sl}{xs:aH}(H:bE S h s xs)(hb:∀x,x∈xs->0<=x/\x<=20)(hn:xs.length<=1000)(K:aL)(HK:K (VI xs.sum) h):aG aB 190 #[s.v] h K:=by
 refine akm s h K ⟨fun n t i h'=>h'=h/\0<=i/\i+n=(xs.length:Int)/\t=(xs.take i.toNat).sum/\0<=t/\t<=20*i,⟨xs.length,rfl,by omega,by omega,by simp,by omega,by omega⟩,?_⟩
 rintro n t i _ ⟨rfl,i0,i1,e1,t0,t1⟩ hL
 refine⟨fun e=> ?_,fun e=> ?_⟩
 ·have hi:=H.lt e
  have hx:=hb _ (bI (show i.toNat<xs.length by omega))
  refine⟨H.bQ i0 hi,_,H.get i0 hi,?_⟩
  rw[H.succ i0 hi,aP _ (by omega) (by omega)]
  refine⟨n-1,by omega,rfl,by omega,by omega,?_,by omega,by omega⟩
  rw[fJ xs i0 hi,List.sum_append,e1]
  simp
 ·have hi:=H.ge e
  rw[cW (by omega)]at e1
  rw[e1]
  exact HK
theorem tz{b d:Nat}(hb:0<b)(hd:0<d):∀(n:Nat){rs:aH},rs.length=bX b (d-1)->(∀r,r∈rs->0<=r/\r<=(b:Int))->(qi b d n rs).1.length=bX b (d-1)/\(∀r,r∈(qi b d n rs).1->0<=r/\r<=(b:Int))/\(qi b d n rs).2.length=n/\∀x,x∈(qi b d n rs).2->0<=x/\x<=1
 |0,rs,hl,hr=>⟨hl,hr,rfl,fun x hx=>by simp[qi]at hx⟩
 |n+1,rs,hl,hr=>by
  obtain⟨a1,a2,a3,a4⟩:=tz hb hd n hl hr
  obtain⟨b1,b2⟩:=JM hb hd (JK b d (qi b d n rs).1 0) (a:=0) a1 a2
  refine⟨b1,b2,by simp[qi,a3],fun x hx=> ?_⟩
  simp only[qi,gG,eO]at hx
  rcases hx with hx|rfl
  ·exact a4 x hx
  ·split<;>omega
theorem Aj{b d k n:Int}(h:tX b d k n=true):∃B D N:Nat,b=B/\d=D/\n=N/\(2<=B/\B<=3)/\(1<=D/\D<=6)/\bX B D<=130/\(0<=k/\k<=B)/\N<=200:=by
 unfold tX at h
 simp only[bK,aT]at h
 obtain⟨⟨h1,h2⟩,h3⟩:=h
 exact⟨b.toNat,d.toNat,n.toNat,by omega,by omega,by omega,by omega,by omega,by omega,by omega,by omega⟩
theorem pu{b k:Int}{m:Nat}(h:0<=k/\k<=b):∀r,r∈List.replicate m k->0<=r/\r<=b:=fun r hr=>by rw[List.eq_of_mem_replicate hr];exact h
theorem JN{b d:Nat}(hb:2<=b)(hd:1<=d)(h:bX b d<=130):bX b (d-1)<=100:=by
 have e:bX b d=b*bX b (d-1)+1:=by rw[<-v7,Nat.sub_add_cancel hd]
 have:=oh (bX b (d-1)) hb
 omega
theorem ky{h:Heap}{n:Int}{m:Nat}(e:n=m)(hm:m<=100000){K:aL}(HK:∀x h',cM h' (fun k=>h.size<=k) x (List.replicate m 0)->Fr No h h'->K x.v h'):j5 aB (Instr.makeSlice mW (VI n) (VI n)) h K:=by
 subst e
 refine fO gH (fun k=>_<=k) (fun _ h=>h) .i64 .i64 m m (aY _) (by omega) fun t h2 n2 c2 o2 f2 m2 _=>HK t h2 ?_ f2
 have e:(List.replicate m [VI 0]).flatten=(List.replicate m (0:Int)).map VI:=by simp[kT]
 show Ow _ _ _ _ _ _
 rw[e]at o2;exact o2
set_option maxHeartbeats 4000000 in
theorem L4{h:Heap}(b d k n:Int)(K:aL)(HN:tX b d k n=false->K (.tuple #[.pointer none,VB false]) h)
 (HY:tX b d k n=true->∀b1 h' f3 f4 f5 f6,Vars h' [(b1,[VI b,VI d,Sl.v f3,Sl.v f4,Sl.v f5,Sl.v f6])]->cM h' (fun k=>h.size<=k) f4 (qi b.toNat d.toNat n.toNat (List.replicate (bX b.toNat (d.toNat-1)) k)).2->Fr No h h'->K (.tuple #[VP b1 0,VB true]) h'):aG aB 221 #[VI b,VI d,VI k,VI n] h K:=by
 refine ak1 b d k n h K (Dt b d _ ⟨_,rfl,.nil,fun e=>HN ?_,fun e=> ?_⟩)
 ·unfold tX
  rw[gE]at e
  rw[e,gI]
 simp only[uM,bK,aT]at e
 refine fV _ _ _ h _ ⟨_,rfl,.nil,fun e2=>HN ?_,fun e2=> ?_⟩
 ·unfold tX
  rw[gU (p:=0<=k/\k<=b/\0<=n/\n<=200) (fun h=>by simp at e2;omega),Bool.and_false]
 have e2:0<=k/\k<=b:=by simpa using e2
 refine fV _ _ _ h _ ⟨_,rfl,.nil,fun e3=>HN ?_,fun e3=> ?_⟩
 ·unfold tX
  rw[gU (p:=0<=k/\k<=b/\0<=n/\n<=200) (fun h=>by simp at e3;omega),Bool.and_false]
 have e3:0<=n/\n<=200:=by simpa using e3
 have ha:tX b d k n=true:=by unfold tX;simp only[bK,aT];omega
 replace HY:=HY ha
 obtain⟨B,D,N,rfl,rfl,rfl,q1,q2,q3,q4,q5⟩:=Aj ha
 simp only[Int.toNat_natCast]at HY
 have hi:=JN q1.1 q2.1 q3
 have hp:=we B (D-1)
 have ed:aX ((D:Int)-1)=((D-1:Nat):Int):=by rw[aP _ (by omega) (by omega)];omega
 have ev:aX ((D:Int)+1)=((D+1:Nat):Int):=by rw[aP _ (by omega) (by omega)];omega
 have YA:∀{X:Heap}{K:aL},K (VI (bX B (D-1):Nat)) X->aG aB 268 #[VI B,VI (aX ((D:Int)-1))] X K:=fun H=>by rw[ed];exact yf (by omega) (by omega) _ H
 have key:∀{J:Nat->Int->Int->Sl->Sl->Sl->Sl->Heap->Prop},(∀{X:Heap}{r v:Sl},Fr No h X->cM X (fun k=>h.size<=k) r (List.replicate (bX B (D-1)) k)->cM X (fun k=>h.size<=k) v (List.replicate (D+1) 0)->Dj r v->∀b1 h',X.size<=b1->Fr (In []) X h'->Vars h' [(b1,[VI B,VI D,r.v,aD.v,aD.v,v.v])]->J b1 B D r aD aD v h')->
  (∀{X:Heap}{x:Sl}{T:aK},Fr No h X->bE T X x [k]->aG aB 267 #[x.v,VI (bX B (D-1):Nat)] X fun rv h6=>∃t:Sl,rv=t.v/\Vars h6 []/\j5 aB (Instr.makeSlice mW (VI (aX ((D:Int)+1))) (VI (aX ((D:Int)+1)))) h6 fun rv h7=>∃t2:Sl,rv=t2.v/\Vars h7 []/\∀b2 h8,h7.size<=b2->Fr (In []) h7 h8->Vars h8 [(b2,[VI B,VI D,t.v,aD.v,aD.v,t2.v])]->J b2 B D t aD aD t2 h8)/\
  (∀{X:Heap}{x v:Sl}{T:aK},Fr No h X->bE T X x [k]->cM X (fun k=>h.size<=k) v (List.replicate (D+1) 0)->aG aB 267 #[x.v,VI (bX B (D-1):Nat)] X fun rv h6=>∃t:Sl,rv=t.v/\Vars h6 []/\∀b2 h8,h6.size<=b2->Fr (In []) h6 h8->Vars h8 [(b2,[VI B,VI D,t.v,aD.v,aD.v,v.v])]->J b2 B D t aD aD v h8):=by
  intro J fin
  refine⟨fun fX X0=> ?_,fun fX X0 V0=> ?_⟩
  ·have zX:=fX.size
   refine Bf k X0 _ hp hi _ fun r h6 o6 f6=>⟨r,rfl,.nil,ky ev (by omega) fun v h7 o7 f7=>⟨v,rfl,.nil,fin ((fX.aA f6).aA f7) ((Ow.no o6 f7).mono fun k _ hk=>by have:=hk.1;omega) (o7.mono fun k _ hk=>by have:=f6.size;omega) fun k hk aQ=> ?_⟩⟩
   have h1:=(o6.aR hk).1
   have h2:=(o7.aR aQ).1
   unfold Iv at h1
   omega
  ·have zX:=fX.size
   refine Bf k X0 _ hp hi _ fun r h6 o6 f6=>⟨r,rfl,.nil,fin (fX.aA f6) (o6.mono fun k _ hk=>by have:=hk.1;omega) (Ow.no V0 f6) fun k hk aQ=> ?_⟩
   have h1:=(o6.aR hk).1
   have h2:=(V0.aR aQ).2
   unfold Iv at h1
   omega
 refine⟨fun b1 x1 x2 x3 x4 x5 x6 h'=>x1=(B:Int)/\x2=(D:Int)/\x4=aD/\x5=aD/\nI h.size h' b1 x3 aD aD x6 (List.replicate (bX B (D-1)) k) [] [] (List.replicate (D+1) 0)/\Fr No h h',?_,?_⟩
 ·obtain⟨RM,MR⟩:=key (J:=fun b1 x1 x2 x3 x4 x5 x6 h'=>x1=(B:Int)/\x2=(D:Int)/\x4=aD/\x5=aD/\nI h.size h' b1 x3 aD aD x6 (List.replicate (bX B (D-1)) k) [] [] (List.replicate (D+1) 0)/\Fr No h h') fun{X r v} fX r0 v0 dj b1 h' hb f V=>by
   have f:=f.aM
   have zX:=fX.size
   exact⟨rfl,rfl,rfl,rfl,⟨Ow.no r0 f,Ow.nil _ _ _ _,Ow.nil _ _ _ _,Ow.no v0 f,fun k _ h=>eK k h,fun k _ h=>eK k h,dj,fun k h=>absurd h (eK k),fun k h=>absurd h (eK k),fun k h=>absurd h (eK k),fun hk=>by have:=(r0.aR hk).2;omega,eK _,eK _,fun hk=>by have:=(v0.aR hk).2;omega,by omega,V.head.lt⟩,fX.aA f⟩
  have up:∀{X Y:Heap}{v:Sl},Fr No h X->cM Y (fun k=>X.size<=k) v (List.replicate (D+1) 0)->cM Y (fun k=>h.size<=k) v (List.replicate (D+1) 0):=fun f o=>o.mono fun k _ hk=>by have:=f.size;omega
  have r0:=Fr.refl No h
  refine⟨?_,?_,?_⟩
  ·refine iy _ fun x h4 o4 f4=>⟨x,rfl,.nil,YA ⟨_,rfl,.nil,RM f4 o4.rd,ky ev (by omega) fun v h9 o9 f9=>⟨v,rfl,.nil,MR (f4.aA f9) (Ow.no o4 f9).rd (up f4 o9)⟩⟩,ky ev (by omega) fun v h9 o9 f9=>⟨v,rfl,.nil,YA ⟨_,rfl,.nil,MR (f4.aA f9) (Ow.no o4 f9).rd (up f4 o9)⟩⟩⟩
  ·refine YA ⟨_,rfl,.nil,iy _ fun x h4 o4 f4=>⟨x,rfl,.nil,RM f4 o4.rd,ky ev (by omega) fun v h9 o9 f9=>⟨v,rfl,.nil,MR (f4.aA f9) (Ow.no o4 f9).rd (up f4 o9)⟩⟩,ky ev (by omega) fun v h9 o9 f9=>⟨v,rfl,.nil,iy _ fun x h4 o4 f4=>⟨x,rfl,.nil,MR (f9.aA f4) o4.rd (up r0 (Ow.no o9 f4))⟩⟩⟩
  ·refine ky ev (by omega) fun v h9 o9 f9=>⟨v,rfl,.nil,iy _ fun x h4 o4 f4=>⟨x,rfl,.nil,YA ⟨_,rfl,.nil,MR (f9.aA f4) o4.rd (up r0 (Ow.no o9 f4))⟩⟩,YA ⟨_,rfl,.nil,iy _ fun x h4 o4 f4=>⟨x,rfl,.nil,MR (f9.aA f4) o4.rd (up r0 (Ow.no o9 f4))⟩⟩⟩
 rintro b1 _ _ f3 _ _ f6 h3 ⟨rfl,rfl,rfl,rfl,S3,F3⟩ dA
 have hrr:=pu (m:=bX B (D-1)) q4
 refine⟨fun m i x1 x2 x3 x4 x5 x6 h'=>∃(j:Nat)(ts vs:aH),i=j/\m+j=N/\x1=(B:Int)/\x2=(D:Int)/\nI h.size h' b1 x3 x4 x5 x6 (qi B D j (List.replicate (bX B (D-1)) k)).1 (qi B D j (List.replicate (bX B (D-1)) k)).2 ts vs/\ts.length=j/\vs.length=D+1/\Fr (fun k=>h.size<=k) h h',⟨N,0,[],_,rfl,by omega,rfl,rfl,S3,rfl,by simp,F3.aC⟩,?_⟩
 rintro m i _ _ x3 x4 x5 x6 h4 ⟨j,ts,vs,rfl,hm,rfl,rfl,S4,t4,v4,F4⟩ fi
 obtain⟨c1,c2,c3,c4⟩:=tz (b:=B) (d:=D) (by omega) (by omega) j (rs:=List.replicate (bX B (D-1)) k) (by simp) hrr
 refine⟨fun e4=> ?_,fun e4=> ?_⟩
 ·simp only[aT]at e4
  refine Xw q1 q2 (by have:=S4.lb;have:=S4.hb;omega) fi S4 c1 c2 v4 (by omega) (by omega) _ fun h5 t u ws sP V5 S5 l5 l6 f5=>⟨_,_,_,_,_,_,V5,m-1,by omega,j+1,ws,sP,?_,by omega,rfl,rfl,S5,by omega,l6,F4.trans f5⟩
  rw[aP _ (by omega) (by omega)];omega
 ·simp only[aW]at e4
  have:j=N:=by omega
  subst this
  exact HY b1 h4 x3 x4 x5 x6 fi S4.e (F4.mono fun k hk aQ=>absurd aQ (by omega))
theorem He{h:Heap}(b d k n:Int)(K:aL)(HN:tX b d k n=false->K (.tuple #[aD.v,VB false]) h)
 (HY:tX b d k n=true->∀t h',cM h' (fun k=>h.size<=k) t (qi b.toNat d.toNat n.toNat (List.replicate (bX b.toNat (d.toNat-1)) k)).2->Fr No h h'->K (.tuple #[t.v,VB true]) h'):aG aB 171 #[VI b,VI d,VI k,VI n] h K:=by
 refine v171 b d k n h K (L4 b d k n _ (fun e=>⟨none,false,rfl,.nil,fun _=>HN e,fun e=>by cases e⟩) fun e b1 h' f3 f4 f5 f6 V O f=>⟨some ⟨b1,0,none⟩,true,rfl,.nil,fun e=>(by cases e),fun _=>⟨b1,b,d,f3,f4,f5,f6,rfl,V,HY e f4 h' O f⟩⟩)
theorem JO{h:Heap}(b d k n:Int)(K:aL)(HK:∀h',Fr No h h'->K (.tuple #[VI (CM b d k n).1,VB (CM b d k n).2]) h'):aG aB 117 #[VI b,VI d,VI k,VI n] h K:=by
 refine v117 b d k n h K (He b d k n _ (fun e=>⟨aD,false,rfl,.nil,?_⟩) fun e t h' O f=>⟨t,true,rfl,.nil,?_⟩)
 ·unfold CM at HK
  rw[aF (by rw[e];decide)]at HK
  exact Yz (S:=fun _=>True) (xs:=[]) (dK.nil (fun _=>True) h 1) (fun x hx=>by simp at hx) (by simp) _ ⟨_,rfl,.nil,HK h (Fr.refl _ _)⟩
 ·unfold CM at HK
  rw[aJ e]at HK
  obtain⟨B,D,N,rfl,rfl,rfl,q1,q2,q3,q4,q5⟩:=Aj e
  simp only[Int.toNat_natCast]at O HK
  obtain⟨c1,c2,c3,c4⟩:=tz (b:=B) (d:=D) (by omega) (by omega) N (rs:=List.replicate (bX B (D-1)) k) (by simp) (pu q4)
  exact Yz O.rd (fun x hx=>by have:=c4 x hx;omega) (by omega) _ ⟨_,rfl,.nil,HK h' f⟩
theorem EK{h:Heap}(b d:Int)(K:aL)(HN:(decide (2<=b/\b<=3/\1<=d/\d<=6)&&decide ((bX b.toNat d.toNat:Int)<=130))=false->K (VI 0) h)(HY:(decide (2<=b/\b<=3/\1<=d/\d<=6)&&decide ((bX b.toNat d.toNat:Int)<=130))=true->K (VI (bX b.toNat d.toNat)) h):aG aB 238 #[VI b,VI d] h K:=by
 refine alm b d h K (eM _ _ _ h _ ⟨_,rfl,.nil,fun e=>HN ?_,fun e=> ?_⟩)
 ·rw[gU (show¬(2<=b/\b<=3/\1<=d/\d<=6)from fun h=>by simp at e;omega),gI]
 have e:2<=b/\b<=3:=by simpa using e
 refine eM _ _ _ h _ ⟨_,rfl,.nil,fun e2=>HN ?_,fun e2=> ?_⟩
 ·rw[gU (show¬(2<=b/\b<=3/\1<=d/\d<=6)from fun h=>by simp at e2;omega),gI]
 have e2:1<=d/\d<=6:=by simpa using e2
 obtain⟨B,rfl⟩:∃B:Nat,b=B:=⟨b.toNat,by omega⟩
 obtain⟨D,rfl⟩:∃D:Nat,d=D:=⟨d.toNat,by omega⟩
 rw[kk (show 2<=(B:Int)/\(B:Int)<=3/\1<=(D:Int)/\(D:Int)<=6 by omega),fc]at HN HY
 simp only[Int.toNat_natCast,aW,aT]at HN HY
 refine⟨fun n all lev i h'=>∃j:Nat,i=j/\n+j=D/\all=(bX B j:Nat)/\lev=(kG B j:Nat)/\h'=h,⟨D,0,rfl,by omega,rfl,rfl,rfl⟩,?_⟩
 rintro n all lev i h' ⟨j,rfl,hn,rfl,rfl,rfl⟩ hL
 have hs:=iK B (by omega) j (by omega)
 refine⟨fun e3=> ?_,fun e3=> ?_⟩
 ·simp only[aT]at e3
  have hs2:=iK B (by omega) (j+1) (by omega)
  have e1:((kG B j:Nat):Int)*(B:Int)=((kG B (j+1):Nat):Int):=by rw[kG];simp
  have e2:bX B (j+1)=bX B j+kG B (j+1):=rfl
  rw[e1,aP ((kG B (j+1):Nat):Int) (by omega) (by omega),aP _ (by omega) (by omega),aP _ (by omega) (by omega)]
  exact⟨n-1,by omega,j+1,by omega,by omega,by omega,rfl,rfl⟩
 ·simp only[aW]at e3
  have:j=D:=by omega
  subst this
  refine⟨fun e4=>HN ?_,fun e4=>HY ?_⟩
  ·simp only[aT]at e4;omega
  ·simp only[aW]at e4;omega
theorem yg{b d:Nat}(hb:b<4)(hd:d<7){h:Heap}(K:aL)(HK:K (VI (kG b d)) h):aG aB 273 #[VI b,VI d] h K:=by
 refine al1 b d h K ⟨fun n i p h'=>∃j:Nat,i=n/\n+j=d/\p=(kG b j:Nat)/\h'=h,⟨d,0,rfl,by omega,rfl,rfl⟩,?_⟩
 rintro n _ p h' ⟨j,rfl,hn,rfl,rfl⟩ hL
 have hs:=iK b hb j (by omega)
 refine⟨fun e=> ?_,fun e=> ?_⟩
 ·simp only[aT]at e
  have hs2:=iK b hb (j+1) (by omega)
  have e1:((kG b j:Nat):Int)*(b:Int)=((kG b (j+1):Nat):Int):=by rw[kG];simp
  rw[e1,aP ((kG b (j+1):Nat):Int) (by omega) (by omega),aP _ (by omega) (by omega)]
  exact⟨n-1,by omega,j+1,by omega,by omega,rfl,rfl⟩
 ·simp only[aW]at e
  have:j=d:=by omega
  subst this
  exact HK
theorem Px{h:Heap}(b d k n:Int)(K:aL)(HK:K (VB (tX b d k n)) h):aG aB 189 #[VI b,VI d,VI k,VI n] h K:=by
 refine akk b d k n h K (EK b d _ (fun e=>⟨0,rfl,.nil,fun e2=>by simp at e2,fun _=> ?_⟩) fun e=>⟨_,rfl,.nil,fun e2=> ?_,fun e2=> ?_⟩)
 ·unfold tX at HK
  rw[e,gI]at HK
  exact HK
 ·unfold tX at HK
  rw[e,fc]at HK
  refine eM _ _ _ h _ ⟨_,rfl,.nil,fun e3=>eM _ _ _ h _ ⟨_,rfl,.nil,?_⟩,fun e3=> ?_⟩
  ·have e3:0<=k/\k<=b:=by simpa using e3
   have:(decide (0<=n)&&decide (n<=200))=decide (0<=k/\k<=b/\0<=n/\n<=200):=by
    rw[<-Bool.decide_and]
    exact vD.2 ⟨fun h=>⟨e3.1,e3.2,h⟩,fun h=>h.2.2⟩
   rw[this]
   exact HK
  ·rw[gU (fun h=>by simp at e3;omega)]at HK
   exact HK
 ·have:=we b.toNat d.toNat
  simp only[aW]at e2
  omega
set_option maxHeartbeats 4000000 in
theorem Py{b d:Nat}(hb:2<=b/\b<=3)(hd:1<=d/\d<=6)(hn:bX b d<=130)(k:Int){h:Heap}(K:aL)
 (HK:∀b1 h' f3 f6,Vars h' [(b1,[VI b,VI d,VI (bX b (d-1):Nat),Sl.v f3,aD.v,aD.v,Sl.v f6])]->nI h.size h' b1 f3 aD aD f6 (List.replicate (bX b (d-1)) k) [] [] (List.replicate (d+1) 0)->Fr No h h'->K (VP b1 0) h'):aG aB 239 #[VI b,VI d,VI k] h K:=by
 have hi:=JN hb.1 hd.1 hn
 have en:bX b d=bX b (d-1)+kG b d:=by
  have:d=(d-1)+1:=by omega
  rw[this];rfl
 have ev:aX ((d:Int)+1)=((d+1:Nat):Int):=by rw[aP _ (by omega) (by omega)];omega
 have ei:aX (((bX b d:Nat):Int)-((kG b d:Nat):Int))=((bX b (d-1):Nat):Int):=by rw[aP _ (by omega) (by omega)];omega
 have YA:∀{X:Heap}{K:aL},K (VI (bX b d:Nat)) X->aG aB 238 #[VI b,VI d] X K:=fun H=>EK b d _ (fun e=>by
  rw[kk (show 2<=(b:Int)/\(b:Int)<=3/\1<=(d:Int)/\(d:Int)<=6 by omega),fc]at e
  simp only[Int.toNat_natCast,aW]at e
  omega) fun _=>H
 refine alo b d k h K ⟨fun b1 x1 x2 x3 x4 x5 x6 x7 h'=>x1=(b:Int)/\x2=(d:Int)/\x3=(bX b (d-1):Nat)/\x4=aD/\x5=aD/\x6=aD/\nI h.size h' b1 aD aD aD x7 [] [] [] (List.replicate (d+1) 0)/\Fr No h h',?_,?_⟩
 ·have fin:∀{X:Heap}{v:Sl},Fr No h X->cM X (fun k=>h.size<=k) v (List.replicate (d+1) 0)->∀b1 h',X.size<=b1->Fr (In []) X h'->Vars h' [(b1,[VI b,VI d,VI (aX (((bX b d:Nat):Int)-((kG b d:Nat):Int))),aD.v,aD.v,aD.v,v.v])]->(b:Int)=b/\(d:Int)=d/\aX (((bX b d:Nat):Int)-((kG b d:Nat):Int))=(bX b (d-1):Nat)/\aD=aD/\aD=aD/\aD=aD/\nI h.size h' b1 aD aD aD v [] [] [] (List.replicate (d+1) 0)/\Fr No h h':=fun{X v} fX v0 b1 h' hb f V=>by
   have f:=f.aM
   have zX:=fX.size
   exact⟨rfl,rfl,ei,rfl,rfl,rfl,⟨Ow.nil _ _ _ _,Ow.nil _ _ _ _,Ow.nil _ _ _ _,Ow.no v0 f,fun k h=>absurd h (eK k),fun k h=>absurd h (eK k),fun k h=>absurd h (eK k),fun k h=>absurd h (eK k),fun k h=>absurd h (eK k),fun k h=>absurd h (eK k),eK _,eK _,eK _,fun hk=>by have:=(v0.aR hk).2;omega,by omega,V.head.lt⟩,fX.aA f⟩
  refine⟨YA ⟨_,rfl,.nil,yg (by omega) (by omega) _ ⟨_,rfl,.nil,ky ev (by omega) fun v h3 o3 f3=>⟨v,rfl,.nil,fin f3 o3⟩⟩,ky ev (by omega) fun v h3 o3 f3=>⟨v,rfl,.nil,yg (by omega) (by omega) _ ⟨_,rfl,.nil,fin f3 o3⟩⟩⟩,ky ev (by omega) fun v h3 o3 f3=>⟨v,rfl,.nil,YA ⟨_,rfl,.nil,yg (by omega) (by omega) _ ⟨_,rfl,.nil,fin f3 o3⟩⟩⟩⟩
 rintro b1 _ _ _ _ _ _ f6 h2 ⟨rfl,rfl,rfl,rfl,rfl,rfl,S2,F2⟩ cR
 refine⟨fun m i x1 x2 x3 x4 x5 x6 x7 h'=>∃j:Nat,i=j/\m+j=bX b (d-1)/\x1=(b:Int)/\x2=(d:Int)/\x3=(bX b (d-1):Nat)/\x5=aD/\x6=aD/\nI h.size h' b1 x4 aD aD x7 (List.replicate j k) [] [] (List.replicate (d+1) 0)/\Fr (fun k=>h.size<=k) h h',⟨bX b (d-1),0,rfl,by omega,rfl,rfl,rfl,rfl,rfl,S2,F2.aC⟩,?_⟩
 rintro m i _ _ _ x4 _ _ x7 h3 ⟨j,rfl,hm,rfl,rfl,rfl,rfl,rfl,S3,F3⟩ dA
 have z3:h.size<=h3.size:=F3.size
 refine⟨fun e=> ?_,fun e=> ?_⟩
 ·simp only[aT]at e
  refine iy _ fun x h4 o4 f4=>⟨x,rfl,dA.aC f4,?_⟩
  have S4:=S3.no f4
  have z4:=f4.size
  refine S4.Hc (by omega) o4.rd (by simp;omega) fun t h5 S5 f5 w5=>⟨t,rfl,jr (dA.aC f4) f5 S4.nr,fun h6 f6 kU=>⟨m-1,by omega,j+1,?_,by omega,rfl,rfl,rfl,rfl,rfl,?_,?_⟩⟩
  ·rw[aP _ (by omega) (by omega)];omega
  ·have:=S5.Pw f6 (by simp)
   rw[<-List.replicate_succ']at this
   exact this
  ·exact((F3.trans f4.aC).trans (f5.mono fun k _ hk=>(S4.r.aR hk).1)).trans (f6.mono fun k _ hk=>by simp[In]at hk;have:=S3.lb;omega)
 ·simp only[aW]at e
  have:j=bX b (d-1):=by omega
  subst this
  exact HK b1 h3 x4 x7 dA S3 (F3.mono fun k hk aQ=>absurd aQ (by omega))
theorem adu{B D N:Nat}(q1:2<=B/\B<=3)(q2:1<=D/\D<=6)(q3:bX B D<=130){k:Int}(q4:0<=k/\k<=B)(q5:N<=200){h:Heap}(K:aL)
 (HK:∀b1 h' f3 f4 f5 f6,Vars h' [(b1,[VI B,VI D,VI (bX B (D-1):Nat),Sl.v f3,Sl.v f4,Sl.v f5,Sl.v f6])]->cM h' (fun k=>h.size<=k) f4 (qi B D N (List.replicate (bX B (D-1)) k)).2->Fr No h h'->K (VP b1 0) h'):aG aB 191 #[VI B,VI D,VI k,VI N] h K:=by
 refine ako B D k N h K (Py q1 q2 q3 k _ fun b1 h3 f3 f6 V3 S3 F3=>⟨some ⟨b1,0,none⟩,rfl,.nil,?_⟩)
 have hrr:=pu (m:=bX B (D-1)) q4
 have z3:=F3.size
 refine⟨fun m i h'=>∃(j:Nat)(x4 x5 x6 x7:Sl)(ts vs:aH),i=j/\m+j=N/\Vars h' [(b1,[VI B,VI D,VI (bX B (D-1):Nat),x4.v,x5.v,x6.v,x7.v])]/\nI h.size h' b1 x4 x5 x6 x7 (qi B D j (List.replicate (bX B (D-1)) k)).1 (qi B D j (List.replicate (bX B (D-1)) k)).2 ts vs/\ts.length=j/\vs.length=D+1/\Fr (fun k=>h.size<=k) h h',⟨N,0,f3,aD,aD,f6,[],_,rfl,by omega,V3,S3,rfl,by simp,F3.aC⟩,?_⟩
 rintro m i h4 ⟨j,x4,x5,x6,x7,ts,vs,rfl,hm,fi,S4,t4,v4,F4⟩ _
 obtain⟨c1,c2,c3,c4⟩:=tz (b:=B) (d:=D) (by omega) (by omega) j (rs:=List.replicate (bX B (D-1)) k) (by simp) hrr
 refine⟨fun e4=> ?_,fun e4=> ?_⟩
 ·simp only[aT]at e4
  refine Xx q1 q2 (by have:=S4.lb;have:=S4.hb;omega) fi S4 c1 c2 v4 (by omega) (by omega) _ fun h5 t u ws sP V5 S5 l5 l6 f5=>⟨.nil,m-1,by omega,j+1,x4,t,u,x7,ws,sP,?_,by omega,V5,S5,by omega,l6,F4.trans f5⟩
  rw[aP _ (by omega) (by omega)];omega
 ·simp only[aW]at e4
  have:j=N:=by omega
  subst this
  exact HK b1 h4 x4 x5 x6 x7 fi S4.e (F4.mono fun k hk aQ=>absurd aQ (by omega))
theorem yh{h:Heap}(b d k n:Int)(K:aL)(HK:∀h',Fr No h h'->K (.tuple #[VI (CM b d k n).1,VB (CM b d k n).2]) h'):aG aB 141 #[VI b,VI d,VI k,VI n] h K:=by
 refine v141 b d k n h K (Px b d k n _ ⟨_,rfl,.nil,fun e=> ?_,fun e=> ?_⟩)
 ·unfold CM at HK
  rw[aF (by simpa using e)]at HK
  exact HK h (Fr.refl _ _)
 ·have e:tX b d k n=true:=by simpa using e
  unfold CM at HK
  rw[aJ e]at HK
  obtain⟨B,D,N,rfl,rfl,rfl,q1,q2,q3,q4,q5⟩:=Aj e
  simp only[Int.toNat_natCast]at HK
  obtain⟨c1,c2,c3,c4⟩:=tz (b:=B) (d:=D) (by omega) (by omega) N (rs:=List.replicate (bX B (D-1)) k) (by simp) (pu q4)
  refine adu q1 q2 q3 q4 q5 _ fun b1 h2 f3 f4 f5 f6 V O f=>⟨some ⟨b1,0,none⟩,rfl,.nil,b1,_,_,_,f3,f4,f5,f6,rfl,V,Xy O.rd (fun x hx=>by have:=c4 x hx;omega) (by omega) _ ⟨_,rfl,V,HK h2 f⟩⟩
def mG(B C i:Nat):Nat:=(B.testBit i).toNat+2*(C.testBit i).toNat
def nxG(i r:Nat):Nat:=if r=0 then i+121 else if r=1 then i+1 else if r=2 then i-121 else i-1
def inG(i:Nat):Bool:=Nat.ble 121 i&&Nat.ble i 14519&& !(Nat.beq (i%121) 0)&& !(Nat.beq (i%121) 120)
def qz:Nat->Nat->Nat->Nat->Nat->Option (Nat×Nat×Nat)
 |0,_,_,_,_=>none
 |n+1,A,B,C,i=>bif A.testBit i then
  bif inG i then qz n A (B^^^2^i) (bif B.testBit i then C^^^2^i else C) (nxG i ((mG B C i+1)%4))else none
  else some (i,B,C)
def Tk(n:Nat)(b:Bool):Nat:=bif b then 2^n-1 else 0
def pw(b:Bool):Nat:=Tk 14641 b
def gq(k:Nat):Nat->Option (Nat×Nat×Nat×List Nat)
 |0=>some (0,pw (k.testBit 0),pw (k.testBit 1),[])
 |n+1=>match gq k n with
  |none=>none
  |some (A,B,C,l)=>match qz 1000 A B C 7320 with
   |none=>none
   |some (i,B',C')=>some (A^^^2^i,B',C',l++[i])
def okG(k:Nat):Bool:=(gq k 250).isSome
theorem NN(B C i:Nat):mG B C i<4:=by
 unfold mG
 have h1:=Bool.toNat_lt (B.testBit i)
 have h2:=Bool.toNat_lt (C.testBit i)
 omega
theorem nu(B i j:Nat):(B^^^2^i).testBit j=if j=i then !B.testBit j else B.testBit j:=by
 rw[Nat.testBit_xor,Nat.testBit_two_pow]
 by_cases h:j=i
 ·subst h;simp
 ·rw[aF h,gU (fun e=>h e.symm)];simp
theorem yi(B C i j:Nat):mG (B^^^2^i) (bif B.testBit i then C^^^2^i else C) j=if j=i then(mG B C i+1)%4 else mG B C j:=by
 unfold mG
 by_cases h:j=i
 ·subst h
  rw[aJ rfl,nu,aJ rfl]
  cases hB:B.testBit j
  ·cases hC:C.testBit j<;>simp[hC]
  ·rw[cond_true,nu,aJ rfl]
   cases hC:C.testBit j<;>simp
 ·rw[aF h,nu,aF h]
  cases hB:B.testBit i
  ·rfl
  ·rw[cond_true,nu,aF h]
theorem Tl{i:Nat}(h:inG i=true):121<=i/\i<=14519/\i%121≠0/\i%121≠120:=by
 unfold inG at h
 simp only[bK,gE,Nat.ble_eq]at h
 exact⟨h.1.1.1,h.1.1.2,fun e=>by rw[e]at h;exact absurd h.1.2 (by decide),fun e=>by rw[e]at h;exact absurd h.2 (by decide)⟩
theorem Tm(n:Nat)(b:Bool){i:Nat}(h:i<n):(Tk n b).testBit i=b:=by
 unfold Tk
 cases b
 ·simp
 ·rw[cond_true,Nat.testBit_two_pow_sub_one]
  simp[h]
theorem JP(b:Bool){i:Nat}(h:i<14641):(pw b).testBit i=b:=Tm 14641 b h
theorem JQ{k i:Nat}(hk:k<4)(h:i<14641):mG (pw (k.testBit 0)) (pw (k.testBit 1)) i=k:=by
 unfold mG
 rw[JP _ h,JP _ h]
 rcases(by omega:k=0\/k=1\/k=2\/k=3)with rfl|rfl|rfl|rfl<;>decide
theorem CN{k:Nat}:∀{m:Nat}(d:Nat),(gq k (m+d)).isSome=true->(gq k m).isSome=true
 |m,0,h=>h
 |m,d+1,h=>by
  refine CN d ?_
  rw[show m+(d+1)=(m+d)+1 by omega,gq]at h
  cases hc:gq k (m+d)with
  |none=>rw[hc]at h;exact h
  |some x=>rfl
theorem Xz:∀k,k<4->okG k=true:=by
 have h0:okG 0=true:=by decide+kernel
 have h1:okG 1=true:=by decide+kernel
 have h2:okG 2=true:=by decide+kernel
 have h3:okG 3=true:=by decide+kernel
 intro k hk
 rcases(by omega:k=0\/k=1\/k=2\/k=3)with rfl|rfl|rfl|rfl
 ·exact h0
 ·exact h1
 ·exact h2
 ·exact h3
theorem nW{k n:Nat}(hk:k<4)(hn:n<=250):∃A B C l,gq k n=some (A,B,C,l):=by
 have h:=CN (k:=k) (m:=n) (250-n) (by rw[Nat.add_sub_cancel' hn];exact Xz k hk)
 obtain⟨⟨A,B,C,l⟩,h⟩:=E3.1 h
 exact⟨A,B,C,l,h⟩
theorem nX{k n A B C:Nat}{l:List Nat}(h:gq k n=some (A,B,C,l)){A' B' C':Nat}{l':List Nat}(h':gq k (n+1)=some (A',B',C',l')):∃i,qz 1000 A B C 7320=some (i,B',C')/\A'=A^^^2^i/\l'=l++[i]:=by
 rw[gq,h]at h'
 (try simp only at h')
 cases hw:qz 1000 A B C 7320 with
 |none=>rw[hw]at h';cases h'
 |some x=>
  obtain⟨i,B1,C1⟩:=x
  rw[hw]at h'
  (try simp only[dD,fL]at h')
  obtain⟨rfl,rfl,rfl,rfl⟩:=h'
  exact⟨i,rfl,rfl,rfl⟩
theorem jN{k:Nat}:∀{n A B C:Nat}{l:List Nat},gq k n=some (A,B,C,l)->l.length=n
 |0,A,B,C,l,h=>by
  rw[gq]at h
  simp only[dD,fL]at h
  rw[<-h.2.2.2];rfl
 |n+1,A,B,C,l,h=>by
  cases hc:gq k n with
  |none=>rw[gq,hc]at h;cases h
  |some x=>
   obtain⟨A0,B0,C0,l0⟩:=x
   obtain⟨i,_,_,e⟩:=nX hc h
   rw[e,bT,jN hc];rfl
theorem uV{n A B C i:Nat}{R:Nat×Nat×Nat}(h:qz n A B C i=some R)(ht:A.testBit i=true):inG i=true/\∃m,n=m+1/\qz m A (B^^^2^i) (bif B.testBit i then C^^^2^i else C) (nxG i ((mG B C i+1)%4))=some R:=by
 cases n with
 |zero=>cases h
 |succ m=>
  rw[qz,ht,cond_true]at h
  cases hi:inG i with
  |false=>rw[hi]at h;cases h
  |true=>rw[hi]at h;exact⟨rfl,m,rfl,h⟩
theorem yj{n A B C i:Nat}{R:Nat×Nat×Nat}(h:qz n A B C i=some R)(ht:A.testBit i=false):R=(i,B,C):=by
 cases n with
 |zero=>cases h
 |succ m=>
  rw[qz,ht,cond_false]at h
  exact(bF h).symm
def cH(x y:Int):Nat:=((x+60)*121+(y+60)).toNat
abbrev iz(x:Int):Prop:= -60<=x/\x<=60
theorem EL{x y u v:Int}(hx:iz x)(hy:iz y)(hu:iz u)(hv:iz v)(h:cH x y=cH u v):x=u/\y=v:=by
 unfold cH at h
 unfold iz at*
 omega
def mvX(x r:Int):Int:=if r=0 then x+1 else if r=2 then x-1 else x
def mvY(y r:Int):Int:=if r=1 then y+1 else if r=0 then y else if r=2 then y else y-1
theorem JR{x y:Int}{i r:Nat}(hx:iz x)(hy:iz y)(e:cH x y=i)(h:inG i=true)(hr:r<4):iz (mvX x r)/\iz (mvY y r)/\cH (mvX x r) (mvY y r)=nxG i r:=by
 obtain⟨h1,h2,h3,h4⟩:=Tl h
 unfold cH at*
 unfold iz at*
 have k1:x≠ -60:=fun hh=>by omega
 have k2:x≠60:=fun hh=>by omega
 have k3:y≠ -60:=fun hh=>by omega
 have k4:y≠60:=fun hh=>by omega
 unfold mvX mvY nxG
 rcases(by omega:r=0\/r=1\/r=2\/r=3)with rfl|rfl|rfl|rfl
 ·simp;omega
 ·simp;omega
 ·simp;omega
 ·simp;omega
def sG(n k:Int):aH×Bool:=if 1<=n/\n<=250/\0<=k/\k<=3 then match gq k.toNat n.toNat with
 |some (_,_,_,l)=>([((l.getLastD 0:Nat):Int)/121-60,((l.getLastD 0:Nat):Int)%121-60],true)
 |none=>([],false)
 else([],false)
structure qj(P:Program)(kt:TypeId)(f0 f1:Field):Prop where
 und:P.underlying kt=some (.struct #[f0,f1])
 i0:P.underlying f0.type=some (.int .i64)
 i1:P.underlying f1.type=some (.int .i64)
 n0:f0.name≠ "_"
 n1:f1.name≠ "_"
 o0:f0.offset=0
 o1:f1.offset=1
 st:P.stoodInHeld kt=false
def KV(x y:Int):Value:= .agg #[VI x,VI y]
theorem tA{P:Program}{t:TypeId}(h:P.underlying t=some (.int .i64)){cs:Array Value}{i:Nat}{v:Value}(hv:cs[i]?=some v)(w:World):(part t cs i).run P w= .ok v w:=by
 unfold part isAgg
 simp only[jM,run_underlying h,Result.andThen,Sem.run_pure]
 simp[hv]
theorem L5{P:Program}{kt:TypeId}{f0 f1:Field}(T:qj P kt f0 f1)(x y u v:Int)(w:World):(Op.equal kt (KV x y) (KV u v)).run P w= .ok (decide (x=u/\y=v)) w:=by
 have key:∀d,(Op.equalIn (d+2) kt (KV x y) (KV u v)).run P w= .ok (decide (x=u/\y=v)) w:=fun d=>by
  have e:∀(t:TypeId)(a b:Int),P.underlying t=some (.int .i64)->(Op.equalIn (d+1) t (VI a) (VI b)).run P w= .ok (a==b) w:=fun t a b h=>by
   unfold Op.equalIn
   simp[jM,run_underlying h,Result.andThen,VI]
  have p0:∀a b:Int,(part f0.type #[VI a,VI b] f0.offset).run P w= .ok (VI a) w:=fun a b=>by rw[T.o0];exact tA T.i0 rfl w
  have p1:∀a b:Int,(part f1.type #[VI a,VI b] f1.offset).run P w= .ok (VI b) w:=fun a b=>by rw[T.o1];exact tA T.i1 rfl w
  unfold Op.equalIn
  simp only[jM,run_underlying T.und,Result.andThen,KV,run_program,T.st]
  by_cases h0:x=u
  ·by_cases h1:y=v
   ·simp[h0,h1,T.n0,T.n1,Sem.run_pure,jM,Result.andThen,p0,p1,e _ _ _ T.i0,e _ _ _ T.i1]
   ·simp[h0,h1,T.n0,T.n1,Sem.run_pure,jM,Result.andThen,p0,p1,e _ _ _ T.i0,e _ _ _ T.i1]
  ·simp[h0,T.n0,T.n1,Sem.run_pure,jM,Result.andThen,p0,p1,e _ _ _ T.i0,e _ _ _ T.i1]
 exact key 9998
theorem jC{P:Program}{kt:TypeId}{f0 f1:Field}(T:qj P kt f0 f1)(em:Bool)(x y:Int)(w:World):(Instr.checkKey em 10000 kt (KV x y)).run P w= .ok () w:=by
 have e:∀(d:Nat)(t:TypeId)(a:Int),P.underlying t=some (.int .i64)->(Instr.checkKey em (d+1) t (VI a)).run P w= .ok () w:=fun d t a h=>by
  unfold Instr.checkKey
  simp[jM,run_underlying h,Result.andThen,VI]
 have p0:∀a b:Int,(part f0.type #[VI a,VI b] f0.offset).run P w= .ok (VI a) w:=fun a b=>by rw[T.o0];exact tA T.i0 rfl w
 have p1:∀a b:Int,(part f1.type #[VI a,VI b] f1.offset).run P w= .ok (VI b) w:=fun a b=>by rw[T.o1];exact tA T.i1 rfl w
 have key:∀d,(Instr.checkKey em (d+2) kt (KV x y)).run P w= .ok () w:=fun d=>by
  unfold Instr.checkKey
  simp only[jM,run_underlying T.und,Result.andThen,KV]
  simp[jM,Result.andThen,T.n0,T.n1,p0,p1,e d _ _ T.i0,e d _ _ T.i1]
 exact key 9998
def wg(h:Heap)(b:Nat)(gv:List ((Int×Int)×Int)):Prop:=∃(es:Array MapEntry)(clock:Nat),h[b]?=some (.map es clock)/\es.toList.map (fun e=>(e.key,e.val))=gv.map fun q=>(KV q.1.1 q.1.2,VI q.2)
theorem wg.lt{h:Heap}{b:Nat}{gv:List ((Int×Int)×Int)}(M:wg h b gv):b<h.size:=by
 obtain⟨es,c,hb,_⟩:=M
 exact(AE.1 hb).1
theorem wg.fr{h h':Heap}{b:Nat}{gv:List ((Int×Int)×Int)}{T:aK}(M:wg h b gv)(f:Fr T h h')(hT:¬T b):wg h' b gv:=by
 have hl:=M.lt
 obtain⟨es,c,hb,e⟩:=M
 exact⟨es,c,by rw[f.same b hl hT];exact hb,e⟩
def jh:List ((Int×Int)×Int)->Int->Int->Option (Nat×Int)
 |[],_,_=>none
 |q::r,x,y=>if x=q.1.1/\y=q.1.2 then some (0,q.2)else(jh r x y).map fun p=>(p.1+1,p.2)
theorem agC{P:Program}{kt:TypeId}{f0 f1:Field}(T:qj P kt f0 f1)(x y:Int)(w:World):∀(l:List MapEntry)(gv:List ((Int×Int)×Int))(i:Nat),l.map (fun e=>(e.key,e.val))=gv.map (fun q=>(KV q.1.1 q.1.2,VI q.2))->(Instr.findAsking kt (KV x y) l i).run P w= .ok ((jh gv x y).map fun p=>(i+p.1,VI p.2)) w
 |[],[],i,_=>by simp[Instr.findAsking,jh]
 |[],q::r,i,h=>by simp at h
 |e::l,[],i,h=>by simp at h
 |e::l,q::r,i,h=>by
  simp only[bJ,rA,fL]at h
  obtain⟨⟨h1,h2⟩,h3⟩:=h
  unfold Instr.findAsking jh
  simp only[jM,h1,L5 T,Result.andThen]
  by_cases hq:x=q.1.1/\y=q.1.2
  ·simp[hq,h2,Sem.run_pure]
  ·rw[aF (by simpa using hq),aF hq,agC T x y w l r (i+1) h3]
   simp[Option.map_map,Function.comp_def,kP,Nat.add_comm 1]
theorem Hf{kt:TypeDesc}{x y:Int}(hk:∀k,kt≠ .int k):∀(l:List MapEntry)(i:Nat),l≠[]->(∀e,e∈l->∃u v,e.key=KV u v)->Instr.findNow kt (KV x y) l i=none
 |[],_,h,_=>absurd rfl h
 |e::l,i,_,h=>by
  obtain⟨u,v,he⟩:=h e cE
  unfold Instr.findNow
  have:Instr.sameNow kt (KV x y) e.key=none:=by rw[he];cases kt<;>rfl
  rw[this]
theorem kz{P:Program}{kt:TypeId}{f0 f1:Field}(T:qj P kt f0 f1)(x y:Int)(w:World){l:List MapEntry}{gv:List ((Int×Int)×Int)}(h:l.map (fun e=>(e.key,e.val))=gv.map (fun q=>(KV q.1.1 q.1.2,VI q.2))):(Instr.findKey kt (KV x y) l).run P w= .ok ((jh gv x y).map fun p=>(p.1,VI p.2)) w:=by
 unfold Instr.findKey
 simp only[jM,run_underlying T.und,Result.andThen]
 by_cases hl:l=[]
 ·subst hl
  have:gv=[]:=by cases gv with
   |nil=>rfl
   |cons q r=>simp at h
  subst this
  rfl
 ·rw[Hf (fun k hk=>by cases hk) l 0 hl fun e he=>by
   have:(e.key,e.val)∈l.map (fun e=>(e.key,e.val)):=dN.2 ⟨e,he,rfl⟩
   rw[h]at this
   obtain⟨q,_,hq⟩:=dN.1 this
   exact⟨_,_,(pT hq).1.symm⟩]
  have:=agC T x y w l gv 0 h
  simp only[iM]at this
  exact this
theorem JS{P:Program}{t kt et:TypeId}{f0 f1:Field}{h:Heap}{b:Nat}{gv:List ((Int×Int)×Int)}{x y:Int}(T:qj P kt f0 f1)(hm:P.underlying t=some (.map kt et))(hz:qW P et=some (VI 0))(M:wg h b gv){K:Value->Prop}(HK:K (.tuple #[VI (((jh gv x y).map (·.2)).getD 0),VB (jh gv x y).isSome])):Da P (Instr.lookup t (.map (some b)) (KV x y) true) h K:=by
 obtain⟨es,c,hb,e⟩:=M
 refine⟨_,fun w hw=> ?_,HK⟩
 subst hw
 have hzr:(zeroValue et).run P w= .ok (VI 0) w:=by
  unfold qW at hz
  cases hi:P.info? et with
  |none=>rw[hi]at hz;simp at hz
  |some i=>
   rw[hi]at hz
   simp only[Option.bind_some]at hz
   unfold zeroValue
   rw[aV (fA hi w)]
   simp[hz,pure,Sem.run]
 unfold Instr.lookup
 simp only[jM,run_underlying hm,Result.andThen,MapKept.run_getObj_map hb,jC T,kz T x y w e]
 cases hs:jh gv x y with
 |none=>simp[jC T,kz T x y w e,hs,Sem.run,pure,hzr,Result.andThen]
 |some p=>simp[jC T,kz T x y w e,hs,Sem.run,pure,Result.andThen]
theorem Dv(x y:Int):Instr.sameBits 10000 (KV x y) (KV x y)=true:=by
 have key:∀d,Instr.sameBits (d+1) (KV x y) (KV x y)=true:=fun d=>by simp[Instr.sameBits,KV,VI]
 exact key 9999
theorem Tp{P:Program}{t kt et:TypeId}{f0 f1:Field}{h:Heap}{b:Nat}{gv:List ((Int×Int)×Int)}{x y v:Int}(T:qj P kt f0 f1)(hm:P.underlying t=some (.map kt et))(M:wg h b gv){j:Nat}{r:Int}(hf:jh gv x y=some (j,r)){K:aL}(HK:∀u h',wg h' b (gv.set j ((x,y),v))->Fr (In [b]) h h'->K u h'):Hz P (Instr.mapUpdate t (.map (some b)) (KV x y) (VI v)) h K:=by
 have hl:=M.lt
 obtain⟨es,c,hb,e⟩:=M
 have hkj:∀(gv:List ((Int×Int)×Int))(j:Nat),jh gv x y=some (j,r)->∃h:j<gv.length,gv[j].1=(x,y):=by
  intro gv
  induction gv with
  |nil=>intro j h;cases h
  |cons q l ih=>
   intro j h
   unfold jh at h
   split at h
   ·rename_i hq
    obtain⟨rfl,_⟩:=pT (bF h)
    exact⟨by simp,by simp[hq]⟩
   ·cases hl:jh l x y with
    |none=>rw[hl]at h;cases h
    |some p=>
     rw[hl]at h
     obtain⟨p1,p2⟩:=p
     simp only[Option.map_some,dD,fL]at h
     obtain⟨rfl,rfl⟩:=h
     obtain⟨a,b⟩:=ih p1 hl
     exact⟨by simpa using a,by simpa using b⟩
 obtain⟨hj,hq⟩:=hkj gv j hf
 have hlen:es.toList.length=gv.length:=by have:=congrArg List.length e;simpa using this
 have KY:j<es.size:=by have:es.toList.length=es.size:=Array.length_toList;omega
 have hk:es[j].key=KV x y:=by
  have:(es.toList.map (fun e=>(e.key,e.val)))[j]'(by simpa using KY)=(gv.map fun q=>(KV q.1.1 q.1.2,VI q.2))[j]'(by simpa using hj):=by simp only[e]
  simp only[bV,Array.getElem_toList,fL,hq]at this
  exact this.1
 refine⟨fun w hw=> ?_⟩
 subst hw
 refine⟨{w with heap:=w.heap.setIfInBounds b (.map (es.modify j fun e=>{e with key:=KV x y,val:=VI v}) c)},?_,⟨rfl,rfl,rfl⟩,HK _ _ ⟨es.modify j fun e=>{e with key:=KV x y,val:=VI v},c,?_,?_⟩ ⟨by simp,fun i hi fH=> ?_⟩⟩
 ·unfold Instr.mapUpdate
  simp only[jM,run_underlying hm,Result.andThen,MapKept.run_getObj_map hb,jC T,kz T x y w e,hf,Option.map_some]
  have:((es[j]?).map (·.key)).getD (KV x y)=KV x y:=by rw[Array.getElem?_eq_getElem KY];simp[hk]
  simp only[this,Instr.keyThatStays,Dv,jE,Sem.run_pure,MapKept.run_setObj_map _ hb]
 ·simp only
  rw[Bv,aJ rfl,aJ hl]
 ·rw[Array.toList_modify]
  apply List.ext_getElem?
  intro i
  have ei:=congrArg (fun l=>l[i]?) e
  simp only[zT]at ei⊢
  rw[List.getElem?_modify,tf]
  by_cases hij:j=i
  ·subst hij
   rw[aJ rfl,aJ hj,dT (by omega)]
   simp
  ·rw[aF hij,<-ei]
   cases es.toList[i]?<;>simp[hij]
 ·simp only
  rw[Bv,aF (fun hh=>fH (by simp[In,hh]))]
theorem Tq{P:Program}{t kt et:TypeId}{f0 f1:Field}{h:Heap}{b:Nat}{gv:List ((Int×Int)×Int)}{x y v:Int}(T:qj P kt f0 f1)(hm:P.underlying t=some (.map kt et))(M:wg h b gv)(hf:jh gv x y=none){K:aL}(HK:∀u h',wg h' b (gv++[((x,y),v)])->Fr (In [b]) h h'->K u h'):Hz P (Instr.mapUpdate t (.map (some b)) (KV x y) (VI v)) h K:=by
 have hl:=M.lt
 obtain⟨es,c,hb,e⟩:=M
 refine⟨fun w hw=> ?_⟩
 subst hw
 refine⟨{w with heap:=w.heap.setIfInBounds b (.map (es.push {key:=KV x y,val:=VI v,born:=c}) (c+1))},?_,⟨rfl,rfl,rfl⟩,HK _ _ ⟨es.push {key:=KV x y,val:=VI v,born:=c},c+1,?_,?_⟩ ⟨by simp,fun j hj fH=> ?_⟩⟩
 ·unfold Instr.mapUpdate
  simp only[jM,run_underlying hm,Result.andThen,MapKept.run_getObj_map hb,jC T,kz T x y w e,hf,Option.map_none,MapKept.run_setObj_map _ hb]
 ·simp only
  rw[Bv,aJ rfl,aJ hl]
 ·rw[Array.toList_push,cQ,cQ,e]
  rfl
 ·simp only
  rw[Bv,aF (fun hh=>fH (by simp[In,hh]))]
theorem Hg{P:Program}{t:TypeId}{h:Heap}{K:aL}(HK:∀h',wg h' h.size []->Fr No h h'->h.size<h'.size->K (.map (some h.size)) h'):j5 P (Instr.makeMap t none) h K:=by
 refine⟨fun w hw=> ?_⟩
 subst hw
 refine⟨_,_,run_makeMap_plain w t,⟨rfl,rfl,rfl⟩,HK _ ⟨#[],0,?_,rfl⟩ (Fr.push w.heap _) ?_⟩
 ·show(w.heap.push _)[w.heap.size]?=_
  simp
 ·show w.heap.size<(w.heap.push _).size
  simp
def uW(gv:List ((Int×Int)×Int))(x y:Int):Option Int:=(jh gv x y).map (·.2)
theorem jT(q:(Int×Int)×Int)(r:List ((Int×Int)×Int))(x y:Int):uW (q::r) x y=if x=q.1.1/\y=q.1.2 then some q.2 else uW r x y:=by
 unfold uW
 rw[jh]
 split
 ·rfl
 ·rw[Option.map_map];rfl
theorem JT{x y v:Int}:∀{gv:List ((Int×Int)×Int)}{j:Nat}{r:Int},jh gv x y=some (j,r)->∀u z,uW (gv.set j ((x,y),v)) u z=if u=x/\z=y then some v else uW gv u z
 |[],_,_,h=>by cases h
 |q::l,j,r,h=>fun u z=>by
  rw[jh]at h
  split at h
  ·rename_i hq
   obtain⟨rfl,_⟩:=pT (bF h)
   rw[List.set_cons_zero,jT,jT]
   (try simp only)
   by_cases hu:u=x/\z=y
   ·rw[aJ hu,aJ hu]
   ·rw[aF hu,aF hu,aF (by rw[<-hq.1,<-hq.2];exact hu)]
  ·rename_i hq
   cases hl:jh l x y with
   |none=>rw[hl]at h;cases h
   |some p=>
    rw[hl]at h
    obtain⟨p1,p2⟩:=p
    simp only[Option.map_some,dD,fL]at h
    obtain⟨rfl,rfl⟩:=h
    rw[List.set_cons_succ,jT,jT,JT hl]
    by_cases hu:u=x/\z=y
    ·rw[aJ hu,aF (by rw[hu.1,hu.2];exact hq),aJ hu]
    ·rw[aF hu,aF hu]
theorem JU{x y v:Int}:∀{gv:List ((Int×Int)×Int)},uW gv x y=none->∀u z,uW (gv++[((x,y),v)]) u z=if u=x/\z=y then some v else uW gv u z
 |[],_=>fun u z=>by
  rw[List.nil_append,jT]
 |q::l,h=>fun u z=>by
  rw[jT]at h
  split at h
  ·cases h
  ·rename_i hq
   rw[List.cons_append,jT,jT,JU h]
   by_cases hu:u=x/\z=y
   ·rw[aJ hu,aF (by rw[hu.1,hu.2];exact hq),aJ hu]
   ·rw[aF hu,aF hu]
def CO(gv:List ((Int×Int)×Int))(A B C:Nat):Prop:=∀x y,uW gv x y=if iz x/\iz y/\A.testBit (cH x y)=true then some (mG B C (cH x y):Int)else none
theorem NO{x y:Int}(hx:iz x)(hy:iz y):cH x y<14641:=by
 unfold cH iz at*
 omega
theorem CO.first(k:Nat):CO [] 0 (pw (k.testBit 0)) (pw (k.testBit 1)):=fun x y=>by
 rw[Nat.zero_testBit,aF (by simp)]
 rfl
theorem CO.set{gv:List ((Int×Int)×Int)}{A B C:Nat}(R:CO gv A B C){x y:Int}(hx:iz x)(hy:iz y){j:Nat}{r:Int}(hf:jh gv x y=some (j,r)):CO (gv.set j ((x,y),(((mG B C (cH x y)+1)%4:Nat):Int))) A (B^^^2^cH x y) (bif B.testBit (cH x y)then C^^^2^cH x y else C):=fun u z=>by
 rw[JT hf,R u z]
 have hA:A.testBit (cH x y)=true:=by
  have:=R x y
  unfold uW at this
  rw[hf]at this
  by_cases hb:A.testBit (cH x y)=true
  ·exact hb
  ·rw[aF (fun h=>hb h.2.2)]at this;cases this
 rw[yi]
 by_cases hu:u=x/\z=y
 ·obtain⟨rfl,rfl⟩:=hu
  rw[aJ ⟨rfl,rfl⟩,aJ ⟨hx,hy,hA⟩,aJ rfl]
 ·rw[aF hu]
  by_cases hh:iz u/\iz z/\A.testBit (cH u z)=true
  ·rw[aJ hh,aJ hh,aF (fun e=>hu (EL hh.1 hh.2.1 hx hy e))]
  ·rw[aF hh,aF hh]
def qA(k A B C:Nat):Prop:=∀i,i<14641->A.testBit i=false->mG B C i=k
theorem qA.first{k:Nat}(hk:k<4):qA k 0 (pw (k.testBit 0)) (pw (k.testBit 1)):=fun _ h _=>JQ hk h
theorem qA.step{k A B C i:Nat}(R:qA k A B C)(hA:A.testBit i=true):qA k A (B^^^2^i) (bif B.testBit i then C^^^2^i else C):=fun j hj h=>by
 rw[yi,aF (fun e=>by rw[e,hA]at h;cases h)]
 exact R j hj h
theorem qA.grow{k A B C i:Nat}(R:qA k A B C):qA k (A^^^2^i) B C\/A.testBit i=true:=by
 by_cases hA:A.testBit i=true
 ·exact .inr hA
 ·refine .inl fun j hj h=>R j hj ?_
  rw[nu]at h
  split at h
  ·rename_i e;rw[e]at h;simp[hA]at h
  ·exact h
theorem CO.new{gv:List ((Int×Int)×Int)}{A B C k:Nat}(R:CO gv A B C)(R2:qA k A B C){x y:Int}(hx:iz x)(hy:iz y)(hA:A.testBit (cH x y)=false):uW gv x y=none/\CO (gv++[((x,y),(k:Int))]) (A^^^2^cH x y) B C:=by
 have hn:uW gv x y=none:=by rw[R x y,aF (fun h=>by rw[hA]at h;cases h.2.2)]
 refine⟨hn,fun u z=> ?_⟩
 rw[JU hn,R u z,nu]
 by_cases hu:u=x/\z=y
 ·obtain⟨rfl,rfl⟩:=hu
  rw[aJ ⟨rfl,rfl⟩,aJ ⟨hx,hy,by simp[hA]⟩,R2 _ (NO hx hy) hA]
 ·rw[aF hu]
  by_cases hf:iz u/\iz z
  ·rw[aF (c:=cH u z=cH x y) (fun e=>hu (EL hf.1 hf.2 hx hy e))]
  ·rw[aF (fun h=>hf ⟨h.1,h.2.1⟩),aF (fun h=>hf ⟨h.1,h.2.1⟩)]
theorem wh{x y:Int}(hx:iz x)(hy:iz y):((cH x y:Nat):Int)/121-60=x/\((cH x y:Nat):Int)%121-60=y:=by
 unfold cH iz at*
 omega
def kA(l:List Nat):List Value:=(l.map fun i:Nat=>[VI ((i:Int)/121-60),VI ((i:Int)%121-60)]).flatten
theorem qk:∀l:List Nat,(kA l).length=l.length*2
 |[]=>rfl
 |i::l=>by
  have:=qk l
  unfold kA at*
  simp only[bJ,List.flatten_cons,bT,List.length_cons,List.length_nil,this]
  omega
theorem JW(l:List Nat)(i:Nat):kA (l++[i])=kA l++[VI ((i:Int)/121-60),VI ((i:Int)%121-60)]:=by
 unfold kA
 rw[cQ,List.flatten_append]
 simp
theorem CP:∀{l:List Nat}{j:Nat}(h:j<l.length),(kA l)[j*2]?=some (VI ((l[j]:Int)/121-60))/\(kA l)[j*2+1]?=some (VI ((l[j]:Int)%121-60))
 |i::l,0,h=>⟨rfl,rfl⟩
 |i::l,j+1,h=>by
  have:=CP (l:=l) (j:=j) (by simpa using h)
  have e:kA (i::l)=VI ((i:Int)/121-60)::VI ((i:Int)%121-60)::kA l:=rfl
  rw[e,show(j+1)*2=j*2+1+1 by omega,show j*2+1+1+1=(j*2+1)+1+1 by omega]
  simp only[List.getElem?_cons_succ,List.getElem_cons_succ]
  exact this
def YB(P:Program)(kt:TypeId):Bool:=match P.underlying kt with
 |some (.struct fs)=>match fs.toList with
  |[f0,f1]=>(match P.underlying f0.type with|some (.int .i64)=>true|_=>false)&&(match P.underlying f1.type with|some (.int .i64)=>true|_=>false)&& !(f0.name== "_")&& !(f1.name== "_")&&Nat.beq f0.offset 0&&Nat.beq f1.offset 1&& !P.stoodInHeld kt
  |_=>false
 |_=>false
theorem L6{P:Program}{kt:TypeId}(h:YB P kt=true):∃f0 f1,qj P kt f0 f1:=by
 unfold YB at h
 split at h
 ·rename_i fs hu
  split at h
  ·rename_i f0 f1 hf
   simp only[bK,gE]at h
   obtain⟨⟨⟨⟨⟨⟨h1,h2⟩,h3⟩,h4⟩,h5⟩,h6⟩,h7⟩:=h
   refine⟨f0,f1,?_,?_,?_,by simpa using h3,by simpa using h4,fo h5,fo h6,h7⟩
   ·rw[hu]
    congr 2
    apply Array.ext'
    exact hf
   ·split at h1
    ·assumption
    ·cases h1
   ·split at h2
    ·assumption
    ·cases h2
  ·cases h
 ·cases h
@[reducible] def tCe:TypeId:=220
@[reducible] def an1:TypeId:=222
@[reducible] def tCm:TypeId:=221
theorem agD:qF aB an1=some (tCe,2,16,[VI 0,VI 0]):=by kernel_rfl
theorem adw:∃f0 f1,qj aB tCe f0 f1:=L6 (by kernel_rfl)
theorem adx{x y:Int}{r:Nat}(hx:iz x)(hy:iz y)(hr:r<4){h:Heap}(K:aL)(HK:∀h',Fr No h h'->K (.agg #[VI (mvX x r),VI (mvY y r)]) h'):aG aB 265 #[.agg #[VI x,VI y],VI r] h K:=by
 unfold iz at hx hy
 refine alO x y r h K ⟨fun e b1 b2 h3 _ _ f3 _=> ?_,fun e=>⟨fun e2 b1 b2 h3 _ _ f3 _=> ?_,fun e2=>⟨fun e3 b1 b2 h3 _ _ f3 _=> ?_,fun e3 b1 b2 h3 _ _ f3 _=> ?_⟩⟩⟩
 ·simp only[aT]at e
  rw[aP _ (by omega) (by omega)]
  have:=HK h3 f3.aM
  rw[e]at this
  exact this
 ·simp only[aT]at e2
  rw[aP _ (by omega) (by omega)]
  have:=HK h3 f3.aM
  rw[e2]at this
  exact this
 ·simp only[aT]at e3
  rw[aP _ (by omega) (by omega)]
  have:=HK h3 f3.aM
  rw[e3]at this
  exact this
 ·simp only[aW]at e e2 e3
  rw[aP _ (by omega) (by omega)]
  have:=HK h3 f3.aM
  have e5:(r:Int)=3:=by omega
  rw[e5]at this
  exact this
set_option maxHeartbeats 4000000 in
theorem ady{N k:Nat}(hN:N<=250)(hk:k<4){h:Heap}(K:aL)
 (HK:∀b1 m s st h' A B C l,gq k N=some (A,B,C,l)->Vars h' [(b1,[.map m,Sl.v s,VI st])]->Ow h' (fun q=>h.size<=q) tCe 2 s (kA l)->Fr No h h'->K (VP b1 0) h'):aG aB 264 #[VI N,VI k,VI 4,.func (.func 265) #[] #[]] h K:=by
 obtain⟨c0,c1,CT⟩:=adw
 have hm:Tryz.prog.underlying tCm=some (.map tCe tI):=by kernel_rfl
 have hz:qW aB tI=some (VI 0):=by kernel_rfl
 refine alM N k 4 _ h K (Hg fun h1 M1 f1 z1=>⟨some h.size,rfl,.nil,fun b1 h2 fw f2 cR=> ?_⟩)
 have f2:=f2.aM
 have z2:=f2.size
 have l1:b1<h2.size:=cR.head.lt
 have M2:=M1.fr f2 fun h=>h
 refine⟨fun n t x1 x2 x3 h'=>∃(j A B C:Nat)(l:List Nat)(gv:List ((Int×Int)×Int)),t=j/\n+j=N/\gq k j=some (A,B,C,l)/\x1=some h.size/\wg h' h.size gv/\CO gv A B C/\qA k A B C/\Ow h' (fun q=>h.size<q/\q≠b1) tCe 2 x2 (kA l)/\Fr (fun q=>h.size<=q) h h',
  ⟨N,0,_,_,_,_,[],rfl,by omega,rfl,rfl,M2,CO.first k,qA.first hk,Ow.nil _ _ _ _,(f1.aA f2).aC⟩,?_⟩
 rintro n t _ x2 x3 h3 ⟨j,A,B,C,l,gv,rfl,hn,hc,rfl,M3,R3,T3,O3,F3⟩ dA
 have z3:=F3.size
 have l3:b1<h3.size:=dA.head.lt
 have ll:=jN hc
 refine⟨fun e=> ?_,fun e=> ?_⟩
 ·simp only[aT]at e
  intro b2 h5 eY f5 iU
  have f5:=f5.aM
  have z5:=f5.size
  obtain⟨A',B',C',l',TT⟩:=nW (k:=k) (n:=j+1) hk (by omega)
  obtain⟨i9,hw,rfl,rfl⟩:=nX hc TT
  have hM:wg h5 h.size gv:=M3.fr f5 fun h=>h
  refine⟨fun m x y x6 x7 x8 h'=>∃(B2 C2:Nat)(gv:List ((Int×Int)×Int)),qz m A B2 C2 (cH x y)=some (i9,B',C')/\iz x/\iz y/\x6=some h.size/\x7=x2/\wg h' h.size gv/\CO gv A B2 C2/\qA k A B2 C2/\Ow h' (fun q=>h.size<q/\q≠b1) tCe 2 x2 (kA l)/\b2<h'.size/\Fr (fun q=>h.size<=q) h h',
   ⟨1000,B,C,gv,hw,by decide,by decide,rfl,rfl,hM,R3,T3,Ow.no O3 f5,iU.head.lt,F3.trans f5.aC⟩,?_⟩
  rintro m x y _ x7 x8 h6 ⟨B2,C2,XA,hw2,hx,hy,rfl,rfl,M6,R6,T6,O6,l6,F6⟩ kU
  have v6:=R6 x y
  have XB:∀{X Y:Heap},Fr (In [h.size]) X Y->∀p,p∈[(b2,[VI x,VI y]),(b1,[Value.map (some h.size),x7.v,VI x8])]->¬In [h.size] p.1:=fun _ p hp hk=>by
   simp only[In,eO]at hk
   simp only[aO,aS,aN]at hp
   rcases hp with rfl|rfl
   ·simp only at hk;omega
   ·simp only at hk;omega
  have z6:=F6.size
  refine JS CT hm hz M6 ⟨_,_,rfl,fun e2=> ?_,fun e2=> ?_⟩
  ·have hf:jh XA x y=none:=by simpa using e2
   have hA:A.testBit (cH x y)=false:=by
    unfold uW at v6
    rw[hf]at v6
    cases hb:A.testBit (cH x y)with
    |false=>rfl
    |true=>rw[aJ ⟨hx,hy,hb⟩]at v6;cases v6
   have hR:=yj hw2 hA
   simp only[fL]at hR
   obtain⟨rfl,rfl,rfl⟩:=hR
   obtain⟨_,R7⟩:=R6.new T6 hx hy hA
   refine Tq CT hm M6 hf fun u h7 M7 f7=>⟨kU.fr f7 (XB f7),?_⟩
   have z7:=f7.size
   have jQ:=kU.fr f7 (XB f7)
   have O7:=Ow.fr O6 f7 fun q hq js=>by have:=(O6.aR hq).1.1;simp only[In,eO]at js;omega
   refine bC agD (fun q=>h7.size<=q) (fun _ h=>h) 1 (by omega) [VI x,VI y] rfl rfl fun s h8 n8 c8 o8 f8 m8 _=>⟨s,rfl,jQ.aC f8,?_⟩
   have z8:=f8.size
   have l7:b1<h8.size:=(jQ.aC f8).tail.head.lt
   have sl:x7.n=l.length:=by have:=O7.rd.len;rw[qk]at this;omega
   refine cV agD (Ow.no O7 f8) (fun q hq=>⟨by omega,by omega⟩) o8.rd rfl (by omega) fun t9 h9 n9 o9 f9 w9=> ?_
   have an2:∀p,p∈[(b2,[VI x,VI y]),(b1,[Value.map (some h.size),x7.v,VI x8])]->¬x7.own p.1:=fun p hp hk=>by
    simp only[aO,aS,aN]at hp
    rcases hp with rfl|rfl
    ·have:=(O3.aR hk).2;simp only at this;omega
    ·exact(O7.aR hk).1.2 rfl
   refine⟨t9,rfl,(jQ.aC f8).fr f9 an2,fun fa f10 ft=> ?_⟩
   have z9:=f9.size
   have mo:∀{q:Nat},In [b1] q->h.size<q:=fun hq=>by simp only[In,eO]at hq;omega
   have M10:=((M7.fr f8 fun h=>h).fr f9 fun hq=>by have:=(O7.aR hq).1.1;omega).fr f10 fun hq=>by have:=mo hq;omega
   refine⟨n-1,by omega,j+1,_,_,_,_,_,?_,by omega,TT,rfl,M10,R7,?_,?_,?_⟩
   ·rw[aP _ (by omega) (by omega)];omega
   ·rcases T6.grow (i:=cH x y)with hh|hh
    ·exact hh
    ·rw[hA]at hh;cases hh
   ·rw[JW,(wh hx hy).1,(wh hx hy).2]
    exact Ow.fr o9 f10 fun q hq js=>by simp only[In,eO]at js;exact(o9.aR hq).1.2 js
   ·refine(((F6.trans (f7.mono fun q _ hq=>by simp only[In,eO]at hq;omega)).trans f8.aC).trans (f9.mono fun q _ hq=>by have:=(O7.aR hq).1.1;omega)).trans (f10.mono fun q _ hq=>by have:=mo hq;omega)
  ·obtain⟨p,hf⟩:∃p,jh XA x y=some p:=by
    cases hf:jh XA x y with
    |none=>rw[hf]at e2;cases e2
    |some p=>exact⟨p,rfl⟩
   obtain⟨jj,rr⟩:=p
   have hA:A.testBit (cH x y)=true:=by
    unfold uW at v6
    rw[hf]at v6
    cases hb:A.testBit (cH x y)with
    |true=>rfl
    |false=>rw[aF (fun h=>by rw[hb]at h;cases h.2.2)]at v6;cases v6
   have hrr:rr=(mG B2 C2 (cH x y):Int):=by
    unfold uW at v6
    rw[hf,aJ ⟨hx,hy,hA⟩]at v6
    exact bF v6
   subst hrr
   obtain⟨hi,m',rfl,hw3⟩:=uV hw2 hA
   have wF:=NN B2 C2 (cH x y)
   have et:Int.tmod (aX (((Option.map (fun p:Nat×Int=>p.2) (jh XA x y)).getD 0)+1)) 4=(((mG B2 C2 (cH x y)+1)%4:Nat):Int):=by
    rw[hf]
    simp only[Option.map_some,Option.getD_some]
    rw[aP _ (by omega) (by omega),Hd (by omega)]
    omega
   rw[et]
   obtain⟨g1,g2,g3⟩:=JR (r:=(mG B2 C2 (cH x y)+1)%4) hx hy rfl hi (by omega)
   refine⟨by omega,Tp CT hm M6 hf fun u h7 M7 f7=>⟨kU.fr f7 (XB f7),?_⟩⟩
   have z7:=f7.size
   have jQ:=kU.fr f7 (XB f7)
   have O7:=Ow.fr O6 f7 fun q hq js=>by have:=(O6.aR hq).1.1;simp only[In,eO]at js;omega
   refine adx hx hy (by omega) _ fun h8 f8=>⟨_,_,rfl,jQ.aC f8,fun fa f10 ft=>⟨m',by omega,_,_,_,by rw[g3];exact hw3,g1,g2,rfl,rfl,?_,R6.set hx hy hf,T6.step hA,?_,ft.head.lt,?_⟩⟩
   ·exact(M7.fr f8 fun h=>h).fr f10 fun hq=>by simp only[In,aO,aS,aN]at hq;omega
   ·refine Ow.fr (Ow.no O7 f8) f10 fun q hq js=> ?_
    simp only[In,aO,aS,aN]at js
    have h1:=(O3.aR hq)
    rcases js with rfl|rfl
    ·exact h1.1.2 rfl
    ·have:=h1.2;omega
   ·exact((F6.trans (f7.mono fun q _ hq=>by simp only[In,eO]at hq;omega)).trans f8.aC).trans (f10.mono fun q _ hq=>by simp only[In,aO,aS,aN]at hq;omega)
 ·simp only[aW]at e
  have:j=N:=by omega
  subst this
  exact HK b1 _ x2 x3 h3 A B C l hc dA (O3.mono fun q _ hq=>by omega) (F3.mono fun q hq js=>absurd js (by omega))
theorem XC{h:Heap}(n k:Int)(K:aL)(HN:¬(0<=n/\n<=250/\0<=k/\k<=3)->K (.tuple #[.pointer none,VB false]) h)
 (HY:0<=n/\n<=250/\0<=k/\k<=3->∀b1 m s st h' A B C l,gq k.toNat n.toNat=some (A,B,C,l)->Vars h' [(b1,[.map m,Sl.v s,VI st])]->Ow h' (fun q=>h.size<=q) tCe 2 s (kA l)->Fr No h h'->K (.tuple #[VP b1 0,VB true]) h'):aG aB 220 #[VI n,VI k] h K:=by
 refine akZ n k h K (fV _ _ _ h _ ⟨_,rfl,.nil,fun e=>HN fun hh=> ?_,fun e=> ?_⟩)
 ·simp at e;omega
 have e:0<=n/\n<=250:=by simpa using e
 refine fV _ _ _ h _ ⟨_,rfl,.nil,fun e2=>HN fun hh=> ?_,fun e2=> ?_⟩
 ·simp at e2;omega
 have e2:0<=k/\k<=3:=by simpa using e2
 replace HY:=HY ⟨e.1,e.2,e2⟩
 obtain⟨N,rfl⟩:∃N:Nat,n=N:=⟨n.toNat,by omega⟩
 obtain⟨k,rfl⟩:∃k':Nat,k=k':=⟨k.toNat,by omega⟩
 refine ady (by omega) (by omega) _ fun b1 m s st h' A B C l hc V O f=>⟨some ⟨b1,0,none⟩,rfl,.nil,HY b1 m s st h' A B C l hc V O f⟩
theorem EM{N k A B C:Nat}{l:List Nat}(hN:1<=N/\N<=250)(hk:k<4)(hc:gq k N=some (A,B,C,l)):∃h:N-1<l.length,sG N k=([((l[N-1]:Nat):Int)/121-60,((l[N-1]:Nat):Int)%121-60],true):=by
 have ll:=jN hc
 refine⟨by omega,?_⟩
 unfold sG
 rw[aJ (by omega),Int.toNat_natCast,Int.toNat_natCast,hc]
 have:l.getLastD 0=l[N-1]'(by omega):=by
  have e1:l.getLast?=some (l[N-1]'(by omega)):=by
   rw[List.getLast?_eq_getElem?,show l.length-1=N-1 by omega]
   exact dT _
  rw[List.getLastD_eq_getLast?,e1]
  rfl
 simp only[this]
theorem Hh{h:Heap}(n k:Int)(K:aL)(HK:∀t h',cM h' (fun q=>h.size<=q) t (sG n k).1->Fr No h h'->K (.tuple #[t.v,VB (sG n k).2]) h'):aG aB 170 #[VI n,VI k] h K:=by
 have no:¬(1<=n/\n<=250/\0<=k/\k<=3)->∀h',Fr No h h'->K (.tuple #[aD.v,VB false]) h':=fun hn h' f=>by
  unfold sG at HK
  rw[aF hn]at HK
  exact HK aD h' (Ow.nil _ _ _ _) f
 refine ajQ n k h K (XC n k _ (fun hn=>⟨none,false,rfl,.nil,fun _=>no (fun h=>hn (by omega)) h (Fr.refl _ _),fun e=>by cases e⟩) fun hy b1 m s st h1 A B C l hc V O f1=>⟨some ⟨b1,0,none⟩,true,rfl,.nil,fun e=>(by cases e),fun _=>⟨fun e=> ?_,fun e=> ?_⟩⟩)
 ·simp only[aT]at e
  exact no (by omega) h1 f1
 ·simp only[aW]at e
  obtain⟨N,rfl⟩:∃N:Nat,n=N:=⟨n.toNat,by omega⟩
  obtain⟨k,rfl⟩:∃k':Nat,k=k':=⟨k.toNat,by omega⟩
  rw[Int.toNat_natCast,Int.toNat_natCast]at hc
  obtain⟨hl,eg⟩:=EM (by omega) (by omega) hc
  have sl:s.n=l.length:=by have:=O.rd.len;rw[qk]at this;omega
  have ll:=jN hc
  rw[aP _ (by omega) (by omega)]
  have ei:(((N:Int)-1)).toNat=N-1:=by omega
  rw[eg]at HK
  obtain⟨q1,q2⟩:=CP hl
  have z1:=f1.size
  refine⟨b1,m,s,st,rfl,V,O.bQ (by omega) (by omega),((l[N-1]:Nat):Int)/121-60,((l[N-1]:Nat):Int)%121-60,?_,fun b2 h3 eY f3 dA=> ?_⟩
  ·obtain⟨g,o,ma,ha,_,_,hat,_⟩:=O.E6 (i:=(N:Int)-1) (by omega) (by omega)
   have cl:=qk l
   have cell:∀j v,(kA l)[j]?=some v->bG h1 (⟨g,o+j,none⟩:Addr)=some v:=fun j v hv=>by
    obtain⟨hj,e1⟩:=AJ.1 hv
    obtain⟨a,h1,_,h2⟩:=O.rd.cell j hj
    rw[ha]at h1
    have h1:=bF h1
    subst h1
    rw[iZ]at h2
    rw[h2,e1]
   intro j hj
   rw[hat,ei,iZ,kP]
   rcases(by simp at hj;omega:j=0\/j=1)with rfl|rfl
   ·exact cell _ _ q1
   ·exact cell _ _ q2
  ·refine bC gH (fun q=>h3.size<=q) (fun _ h=>h) 2 (by omega) [VI (((l[N-1]:Nat):Int)/121-60),VI (((l[N-1]:Nat):Int)%121-60)] rfl rfl fun t h4 n4 c4 o4 f4 m4 _=>⟨t,rfl,dA.aC f4,?_⟩
   have z3:=f3.aM.size
   exact HK t h4 (by show Ow _ _ _ _ _ _;exact o4.mono fun q _ hq=>by omega) ((f1.aA f3.aM).aA f4)
theorem L7{x y:Int}(hx:iz x)(hy:iz y){h:Heap}(K:aL)(HK:K (VI (cH x y:Nat)) h):aG aB 241 #[VI x,VI y] h K:=by
 refine alq x y h K ?_
 unfold ae4 pk
 unfold iz at hx hy
 rw[aP (x+60) (by omega) (by omega),aP ((x+60)*121) (by omega) (by omega),aP ((x+60)*121+y) (by omega) (by omega),aP _ (by omega) (by omega)]
 have e:((cH x y:Nat):Int)=(x+60)*121+y+60:=by unfold cH;omega
 rw[<-e]
 exact HK
theorem Tr{x y:Int}{r:Nat}(hx:iz x)(hy:iz y)(hr:r<4){h:Heap}(K:aL)(HK:K (.tuple #[VI (mvX x r),VI (mvY y r)]) h):aG aB 242 #[VI x,VI y,VI r] h K:=by
 unfold iz at hx hy
 refine als x y r h K ⟨fun e=> ?_,fun e=>⟨fun e2=> ?_,fun e2=>⟨fun e3=> ?_,fun e3=> ?_⟩⟩⟩
 ·simp only[aT]at e
  rw[aP _ (by omega) (by omega)]
  rw[e]at HK
  exact HK
 ·simp only[aT]at e2
  rw[aP _ (by omega) (by omega)]
  rw[e2]at HK
  exact HK
 ·simp only[aT]at e3
  rw[aP _ (by omega) (by omega)]
  rw[e3]at HK
  exact HK
 ·simp only[aW]at e e2 e3
  rw[aP _ (by omega) (by omega)]
  have e5:(r:Int)=3:=by omega
  rw[e5]at HK
  exact HK
def qC(l:List Nat):aE:=l.map fun i:Nat=>[(i:Int)/121-60,(i:Int)%121-60]
theorem L8(l:List Nat)(i:Nat):qC (l++[i])=qC l++[[(i:Int)/121-60,(i:Int)%121-60]]:=by simp[qC]
def GrL(gl:List Bool)(A:Nat):Prop:=gl.length=14641/\∀j,j<14641->gl.getD j false=A.testBit j
def RoL(rl:aH)(B C:Nat):Prop:=rl.length=14641/\∀j,j<14641->rl.getD j 0=(mG B C j:Int)
theorem yk{α:Type}{l:List α}{i j:Nat}{v d:α}(hi:i<l.length):(l.set i v).getD j d=if j=i then v else l.getD j d:=by
 rw[eG,eG,tf]
 by_cases h:i=j
 ·subst h;rw[aJ rfl,aJ hi,aJ rfl,Option.getD_some]
 ·rw[aF h,aF (fun e=>h e.symm)]
theorem GrL.grow{gl:List Bool}{A i:Nat}(G:GrL gl A)(hi:i<14641)(hA:A.testBit i=false):GrL (gl.set i true) (A^^^2^i):=⟨by rw[bY];exact G.1,fun j hj=>by
 rw[yk (by rw[G.1];exact hi),nu]
 by_cases h:j=i
 ·subst h;rw[aJ rfl,aJ rfl,hA];rfl
 ·rw[aF h,aF h];exact G.2 j hj⟩
theorem RoL.turn{rl:aH}{B C i:Nat}(R:RoL rl B C)(hi:i<14641):RoL (rl.set i (((mG B C i+1)%4:Nat):Int)) (B^^^2^i) (bif B.testBit i then C^^^2^i else C):=⟨by rw[bY];exact R.1,fun j hj=>by
 rw[yk (by rw[R.1];exact hi),yi]
 by_cases h:j=i
 ·rw[aJ h,aJ h]
 ·rw[aF h,aF h];exact R.2 j hj⟩
theorem JX{h:Heap}{n:Int}{m:Nat}(e:n=m)(hm:m<=100000){K:aL}(HK:∀x h',Ow h' (fun k=>h.size<=k) tB 1 x ((List.replicate m false).map VB)->Fr No h h'->K x.v h'):j5 aB (Instr.makeSlice tBs (VI n) (VI n)) h K:=by
 subst e
 refine fO rBs (fun k=>_<=k) (fun _ h=>h) .i64 .i64 m m (aY _) (by omega) fun t h2 n2 c2 o2 f2 m2 _=>HK t h2 ?_ f2
 have e:(List.replicate m [VB false]).flatten=(List.replicate m false).map VB:=by simp[kT]
 rw[e]at o2;exact o2
set_option maxHeartbeats 8000000 in
theorem adz{N k:Nat}(hN:N<=250)(hk:k<4){h:Heap}(K:aL)
 (HK:∀b1 x1 x2 x3 st h' A B C l,gq k N=some (A,B,C,l)->Vars h' [(b1,[Sl.v x1,Sl.v x2,Sl.v x3,VI st])]->ia h' (fun q=>h.size<=q) x3 (qC l)->Fr No h h'->K (VP b1 0) h'):aG aB 193 #[VI N,VI k] h K:=by
 refine v193 N k h K ⟨fun b1 x1 x2 x3 x4 h'=>x3=aD/\Ow h' (fun q=>h.size<=q/\q<b1) tB 1 x1 ((List.replicate 14641 false).map VB)/\cM h' (fun q=>h.size<=q/\q<b1) x2 (List.replicate 14641 0)/\Dj x1 x2/\Fr No h h'/\h.size<=b1,?_,?_⟩
 ·refine⟨JX (m:=14641) rfl (by omega) fun g h1 o1 f1=>⟨g,rfl,.nil,ky (m:=14641) rfl (by omega) fun r h2 o2 f2=>⟨r,rfl,.nil,fun b1 h3 hb f3 hL=> ?_⟩⟩,ky (m:=14641) rfl (by omega) fun r h1 o1 f1=>⟨r,rfl,.nil,JX (m:=14641) rfl (by omega) fun g h2 o2 f2=>⟨g,rfl,.nil,fun b1 h3 hb f3 hL=> ?_⟩⟩⟩
  ·have f3:=f3.aM
   have z1:=f1.size
   have z2:=f2.size
   refine⟨rfl,(Ow.no (Ow.no o1 f2) f3).mono fun q hq _=>⟨(o1.aR hq).1,by have:=(o1.aR hq).2;omega⟩,(Ow.no o2 f3).mono fun q hq _=>⟨by have:=(o2.aR hq).1;omega,by have:=(o2.aR hq).2;omega⟩,fun q hq js=>by have:=(o1.aR hq).2;have:=(o2.aR js).1;omega,(f1.aA f2).aA f3,by omega⟩
  ·have f3:=f3.aM
   have z1:=f1.size
   have z2:=f2.size
   refine⟨rfl,(Ow.no o2 f3).mono fun q hq _=>⟨by have:=(o2.aR hq).1;omega,by have:=(o2.aR hq).2;omega⟩,(Ow.no (Ow.no o1 f2) f3).mono fun q hq _=>⟨(o1.aR hq).1,by have:=(o1.aR hq).2;omega⟩,fun q hq js=>by have:=(o2.aR hq).1;have:=(o1.aR js).2;omega,(f1.aA f2).aA f3,by omega⟩
 rintro b1 g r _ x4 h7 ⟨rfl,G7,R7,dj,F7,hb⟩ jQ
 have rn:r.n=14641:=by have:=R7.rd.len;rw[bB,jd]at this;omega
 have gb:¬g.own b1:=fun hk=>by have:=(G7.aR hk).1.2;omega
 have rb:¬r.own b1:=fun hk=>by have:=(R7.aR hk).1.2;omega
 have lb7:=jQ.head.lt
 refine⟨fun m i h'=>∃rl:aH,0<=i/\i+m=14641/\rl.length=14641/\(∀j,j<i.toNat->rl.getD j 0=(k:Int))/\cM h' (fun q=>h.size<=q/\q<b1) r rl/\Ow h' (fun q=>h.size<=q/\q<b1) tB 1 g ((List.replicate 14641 false).map VB)/\Fr (fun q=>h.size<=q) h h',⟨14641,_,by omega,by omega,jd,fun j hj=>absurd hj (by simp),R7,G7,F7.aC⟩,?_⟩
 rintro m i h8 ⟨rl,i0,i1,i2,i3,R8,G8,F8⟩ gZ
 refine⟨fun e=> ?_,fun e=> ?_⟩
 ·simp only[aT]at e
  obtain⟨w1,w2,w3⟩:=R8.gF i0 e (VI k)
  refine⟨R8.bQ i0 e,w1,jr gZ w3 rb,fun h9 e9 gM=>⟨m-1,by omega,rl.set i.toNat k,?_,?_,by rw[bY];exact i2,fun j hj=> ?_,?_,?_,?_⟩⟩
  ·rw[aP _ (by omega) (by omega)];omega
  ·rw[aP _ (by omega) (by omega)];omega
  ·rw[aP _ (by omega) (by omega)]at hj
   rw[yk (by omega)]
   split
   ·rfl
   ·exact i3 j (by omega)
  ·subst e9;show Ow _ _ _ _ _ _;rw[ig];exact w2
  ·subst e9;exact Ow.fr G8 w3 fun q hq js=>dj q hq js
  ·subst e9;exact F8.trans (w3.mono fun q _ hq=>(R8.aR hq).1.1)
 simp only[aW]at e
 have hR0:RoL rl (pw (k.testBit 0)) (pw (k.testBit 1)):=⟨i2,fun j hj=>by rw[i3 j (by omega),JQ hk hj]⟩
 have hG0:GrL (List.replicate 14641 false) 0:=⟨jd,fun j hj=>by rw[Nat.zero_testBit,eG,List.getElem?_replicate];split<;>rfl⟩
 refine⟨fun n n0 y5 y6 y7 y8 h'=>∃(j A B C:Nat)(l:List Nat)(gl:List Bool)(rl:aH),n0=(N:Int)-j/\n+j=N/\gq k j=some (A,B,C,l)/\y5=g/\y6=r/\GrL gl A/\RoL rl B C/\cM h' (fun q=>h.size<=q/\q<b1) r rl/\Ow h' (fun q=>h.size<=q/\q<b1) tB 1 g (gl.map VB)/\ia h' (fun q=>b1+1<=q) y7 (qC l)/\Fr (fun q=>h.size<=q) h h',
  ⟨N,0,0,pw (k.testBit 0),pw (k.testBit 1),[],_,_,(Int.sub_zero _).symm,Nat.add_zero _,rfl,rfl,rfl,hG0,hR0,R8,G8,dO.nil _ _ _ _,F8⟩,?_⟩
 rintro n _ y5 y6 y7 y8 fa ⟨j,A,B,C,l,gl,rl,rfl,hn,hc,rfl,rfl,hG,hR,R10,Hx,X10,qK⟩ ft
 have ll:=jN hc
 refine⟨fun e2=> ?_,fun e2=> ?_⟩
 ·simp only[aT]at e2
  obtain⟨A',B',C',l',TT⟩:=nW (k:=k) (n:=j+1) hk (by omega)
  obtain⟨i9,hw,rfl,rfl⟩:=nX hc TT
  refine⟨fun m x y z9 zM Uc z12 h'=>∃(B2 C2:Nat)(rl:aH),qz m A B2 C2 (cH x y)=some (i9,B',C')/\iz x/\iz y/\z9=y5/\zM=y6/\Uc=y7/\RoL rl B2 C2/\cM h' (fun q=>h.size<=q/\q<b1) y6 rl/\Ow h' (fun q=>h.size<=q/\q<b1) tB 1 y5 (gl.map VB)/\ia h' (fun q=>b1+1<=q) y7 (qC l)/\Fr (fun q=>h.size<=q) h h',
   ⟨1000,B,C,rl,hw,by decide,by decide,rfl,rfl,rfl,hR,R10,Hx,X10,qK⟩,?_⟩
  rintro m x y z9 zM Uc z12 jq ⟨B2,C2,rl2,hw2,hx,hy,rfl,rfl,rfl,hR2,VO,XD,X11,F11⟩ iN
  have hi:=NO hx hy
  have atT:=F11.size
  have atU:=iN.head.lt
  have gR:=XD.rd
  have gi:((cH x y:Nat):Int)<((gl.length:Nat):Int):=by rw[hG.1];omega
  have cg:=al9 gR (i:=(cH x y:Nat)) (by omega) gi
  have egl:gl[((cH x y:Nat):Int).toNat]'(by rw[hG.1];omega)=A.testBit (cH x y):=by
   have:=hG.2 _ hi
   rw[eG,dT (by rw[hG.1];exact hi),Option.getD_some]at this
   exact this
  rw[egl]at cg
  have agG:fq z9 ((cH x y:Nat):Int):=dK.bQ gR (by omega) (by rw[bB];exact gi)
  refine L7 hx hy _ ⟨_,rfl,iN,agG,_,cg,fun e3=> ?_,fun e3=> ?_⟩
  ·obtain⟨Y6,m',rfl,hw3⟩:=uV hw2 e3
   have wF:=NN B2 C2 (cH x y)
   have rR:bE zM.own jq zM rl2:=VO.rd
   have ri:((cH x y:Nat):Int)<(rl2.length:Int):=by rw[hR2.1];omega
   have cr:=rR.get (i:=(cH x y:Nat)) (by omega) ri
   have erl:rl2[((cH x y:Nat):Int).toNat]'(by rw[hR2.1];omega)=(mG B2 C2 (cH x y):Int):=by
    have:=hR2.2 _ hi
    rw[eG,dT (by rw[hR2.1];exact hi),Option.getD_some]at this
    exact this
   rw[erl]at cr
   have et:Int.tmod (aX ((mG B2 C2 (cH x y):Int)+1)) 4=(((mG B2 C2 (cH x y)+1)%4:Nat):Int):=by
    rw[aP _ (by omega) (by omega),Hd (by omega)]
    omega
   have rnb:fq zM ((cH x y:Nat):Int):=rR.bQ (by omega) ri
   have rn2:zM.n=rl2.length:=by have:=rR.len;exact this
   obtain⟨w1,w2,w3⟩:=VO.gF (i:=(cH x y:Nat)) (by omega) (by omega) (VI (((mG B2 C2 (cH x y)+1)%4:Nat):Int))
   refine L7 hx hy _ ⟨_,rfl,iN,rnb,_,cr,rnb,?_⟩
   rw[et]
   refine⟨w1,jr iN w3 rb,fun K1 e14 Ph=> ?_⟩
   subst e14
   rw[<-ig,Int.toNat_natCast]at w2
   have Yq:cM _ (fun q=>h.size<=q/\q<b1) zM (rl2.set (cH x y) (((mG B2 C2 (cH x y)+1)%4:Nat):Int)):=w2
   have agH:bE zM.own _ zM _:=Yq.rd
   have agI:=agH.get (i:=(cH x y:Nat)) (by omega) (by rw[bY];exact ri)
   simp only[Int.toNat_natCast,List.getElem_set_self]at agI
   obtain⟨g1,g2,g3⟩:=JR (r:=(mG B2 C2 (cH x y)+1)%4) hx hy rfl Y6 (by omega)
   refine⟨agH.bQ (by omega) (by rw[bY];exact ri),_,agI,Tr hx hy (by omega) _ ⟨_,_,rfl,Ph,fun Ud f16 Dm=> ?_⟩⟩
   have XE:∀{q:Nat},In [b1] q->q=b1:=fun hq=>by simpa[In]using hq
   refine⟨m',by omega,_,_,_,by rw[g3];exact hw3,g1,g2,rfl,rfl,rfl,hR2.turn hi,?_,?_,?_,?_⟩
   ·exact Ow.fr Yq f16 fun q hq js=>rb (XE js▸hq)
   ·exact Ow.fr (Ow.fr XD w3 fun q hq js=>dj q hq js) f16 fun q hq js=>gb (XE js▸hq)
   ·exact(X11.fr w3 fun q _ hq js=>by have:=(VO.aR js).1.2;omega).fr f16 fun q _ hq js=>by have:=XE js;omega
   ·exact(F11.trans (w3.mono fun q _ hq=>(VO.aR hq).1.1)).trans (f16.mono fun q _ hq=>by have:=XE hq;omega)
  ·have hE:=yj hw2 e3
   simp only[fL]at hE
   obtain⟨rfl,rfl,rfl⟩:=hE
   obtain⟨w1,w2,w3⟩:=XD.gF (i:=(cH x y:Nat)) (by omega) (by have:=ama gR;omega) (VB true)
   refine L7 hx hy _ ⟨_,rfl,iN,agG,w1,jr iN w3 gb,fun h18 e18 adA=> ?_⟩
   subst e18
   rw[<-ig,Int.toNat_natCast]at w2
   have X18:=X11.fr w3 fun q _ hq js=>by have:=(XD.aR js).1.2;omega
   have z18:=w3.size
   refine bC gH (fun q=>_<=q) (fun _ h=>h) 2 (by omega) [VI x,VI y] rfl rfl fun s K3 n19 c19 o19 f19 m19 _=>⟨s,rfl,adA.aC f19,?_⟩
   have z19:=f19.size
   have X19:ia K3 (Iv (b1+1) (Mx.dS jq (z9.at ((cH x y:Nat):Int) 1) (VB true)).size) Uc (qC l):=(X18.mono fun q hq js=>⟨js,hq⟩).no f19
   refine jz (ys:=[x,y]) X19 (by show Ow _ _ _ _ _ _;exact o19) (by omega) z19 (adA.aC f19) (fun p hp=>by simp only[eO]at hp;subst hp;exact pO _) (by simp[qC];omega) _ fun t ZL X21 f21 afy=> ?_
   have z21:=f21.size
   intro Kn f22 at3
   have XE:∀{q:Nat},In [b1] q->q=b1:=fun hq=>by simpa[In]using hq
   refine⟨n-1,by omega,j+1,_,_,_,_,_,_,?_,by omega,TT,rfl,rfl,hG.grow hi e3,hR2,?_,?_,?_,?_⟩
   ·rw[aP _ (by omega) (by omega)];omega
   ·exact Ow.fr (Ow.fr (Ow.no (Ow.fr VO w3 fun q hq js=>dj q js hq) f19) f21 fun q hq js=>by have:=(VO.aR hq).1.2;omega) f22 fun q hq js=>rb (XE js▸hq)
   ·exact Ow.fr (Ow.fr (Ow.no w2 f19) f21 fun q hq js=>by have:=(XD.aR hq).1.2;omega) f22 fun q hq js=>gb (XE js▸hq)
   ·rw[L8,(wh hx hy).1,(wh hx hy).2]
    exact X21.fr f22 fun q _ hq js=>by have:=XE js;omega
   ·exact(((F11.trans (w3.mono fun q _ hq=>(XD.aR hq).1.1)).trans f19.aC).trans (f21.mono fun q _ hq=>by omega)).trans (f22.mono fun q _ hq=>by have:=XE hq;omega)
 ·simp only[aW]at e2
  have:j=N:=by omega
  subst this
  exact HK b1 y5 y6 y7 y8 fa A B C l hc ft (X10.mono fun q _ hq=>by omega) (qK.mono fun q hq js=>absurd js (by omega))
theorem Pz{h:Heap}(n k:Int)(K:aL)(HK:K (VB (decide (0<=n/\n<=250/\0<=k/\k<=3))) h):aG aB 192 #[VI n,VI k] h K:=by
 refine akq n k h K (eM _ _ _ h _ ⟨_,rfl,.nil,fun e=>eM _ _ _ h _ ⟨_,rfl,.nil,?_⟩,fun e=> ?_⟩)
 ·have e:0<=n/\n<=250:=by simpa using e
  have:(decide (0<=k)&&decide (k<=3))=decide (0<=n/\n<=250/\0<=k/\k<=3):=by
   rw[<-Bool.decide_and]
   exact vD.2 ⟨fun h=>⟨e.1,e.2,h⟩,fun h=>h.2.2⟩
  rw[this]
  exact HK
 ·rw[gU (fun h=>by simp at e;omega)]at HK
  exact HK
theorem wj{h:Heap}(n k:Int)(K:aL)(HK:∀t h',bE (fun _=>True) h' t (sG n k).1->Fr No h h'->K (.tuple #[t.v,VB (sG n k).2]) h'):aG aB 142 #[VI n,VI k] h K:=by
 have no:¬(1<=n/\n<=250/\0<=k/\k<=3)->∀h',Fr No h h'->K (.tuple #[aD.v,VB false]) h':=fun hn h' f=>by
  unfold sG at HK
  rw[aF hn]at HK
  exact HK aD h' (dK.nil _ _ _) f
 refine ajm n k h K (Pz n k _ ⟨_,rfl,.nil,fun e=>no (by simp at e;omega) h (Fr.refl _ _),fun e=>⟨fun e2=> ?_,fun e2=> ?_⟩⟩)
 ·simp only[aT]at e2
  exact no (by omega) h (Fr.refl _ _)
 have e:0<=n/\n<=250/\0<=k/\k<=3:=by simpa using e
 simp only[aW]at e2
 obtain⟨N,rfl⟩:∃N:Nat,n=N:=⟨n.toNat,by omega⟩
 obtain⟨k,rfl⟩:∃k':Nat,k=k':=⟨k.toNat,by omega⟩
 refine adz (by omega) (by omega) _ fun b1 x1 x2 x3 st h' A B C l hc V X f=>⟨some ⟨b1,0,none⟩,rfl,.nil,b1,x1,x2,x3,st,rfl,V,?_⟩
 obtain⟨hl,eg⟩:=EM (by omega) (by omega) hc
 have ll:=jN hc
 have Rd:=X.rd
 have rl:(qC l).length=l.length:=by simp[qC]
 rw[aP _ (by omega) (by omega)]
 have ei:((N:Int)-1).toNat=N-1:=by omega
 obtain⟨si,c1,r1⟩:=Rd.get (i:=(N:Int)-1) (by omega) (by omega)
 have er:(qC l)[((N:Int)-1).toNat]'(by omega)=[((l[N-1]:Nat):Int)/121-60,((l[N-1]:Nat):Int)%121-60]:=by simp[qC,ei]
 rw[er]at r1
 rw[eg]at HK
 exact⟨Rd.bQ (by omega) (by omega),si,c1,HK si h' (r1.mono fun _ _=>trivial) f⟩
end Go.Proofs.YtcnfcnoooecchaaGreatDoor
