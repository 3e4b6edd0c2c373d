import Derived.Test.YtcnfcnoooecchaaGreatDoorDeskAfterK2
set_option linter.unusedVariables false
set_option linter.unusedSimpArgs false
namespace Go.Proofs.YtcnfcnoooecchaaGreatDoor
open Go Go.Mx
theorem zB{g:List (List Int)}:∀(m k:Nat)(t:List Int)(s:St)(t':List Int)(s':St),(∀x,x∈t->0<=x/\x<=(k:Int))->runT g HZ m t s=some (t',s')->t'.length=t.length/\∀x,x∈t'->0<=x/\x<=((k+m:Nat):Int)
 |0,k,t,s,t',s',hk,h=>by
  simp only[runT,Option.some.injEq,Prod.mk.injEq]at h
  rw[<-h.1]
  exact⟨rfl,by simpa using hk⟩
 |m+1,k,t,s,t',s',hk,h=>by
  rw[runT]at h
  split at h
  ·cases h
  ·rename_i s2 hs
   have:=zB m (k+1) _ _ _ _ (xW (i:=s2.2.toNat) hk) h
   rw[show k+(m+1)=k+1+m by omega]
   exact⟨this.1.trans (oY _ _),this.2⟩
theorem Py(g:List (List Int))(rs:List Int)(p n:Int):(og g rs p n).1.length<=8:=by
 unfold og
 split
 ·rename_i h
  rw[Bool.and_eq_true,aZ]at h
  have W:=cG h.1
  have:=aO W.bE
  split
  ·simp
  ·rename_i t s hs
   have:=(zB n.toNat 0 _ _ _ _ (fun x hx=>by simp only[List.mem_replicate]at hx;omega) hs).1
   simp at this
   simp only
   omega
 ·simp
theorem ZU{F:Nat->Prop}{b b':Nat}{h:Heap}{o w:Sl}{ps:List Int}{q:Int}(V:dD h b [o.v])(V':dD h b' [w.v,VI q])(SB:b'≠b)(O:bM h F o ps)(hb:¬o.own b)(hb':¬o.own b')(h0:0<=q)(h1:q<(ps.length:Int))(hv:∀x,x∈ps->0<=x/\x<=1000000)(x:Int)(K:Value->Heap->Prop)
 (HK:∀h' v,dD h' b [o.v]->bM h' F o (bump ps q.toNat)->Fr o.own h h'->K v h'):fD Tryz.prog (.func (.func 209) #[] #[VP b 0,VP b' 0]) [VI x] h K:=by
 have R:aP F h o ps:=O.eQ
 have hl:=R.len
 have hm:=hv _ (List.getElem_mem (show q.toNat<ps.length by omega))
 refine ahl x b o b' w q h K (.cons V (by simpa using SB) (.cons V' (by simp) .nil)) ⟨R.bB h0 h1,_,R.get h0 h1,R.bB h0 h1,?_⟩
 rw[aH _ (by omega) (by omega)]
 obtain⟨w1,w2,w3⟩:=O.eX h0 (by omega) (VI ((ps[q.toNat]'(by omega))+1))
 have hL:Vars (cL h (o.at q 1) (VI ((ps[q.toNat]'(by omega))+1))) [(b,[o.v]),(b',[w.v,VI q])]:= .cons (V.fr w3 hb) (by simpa using SB) (.cons (V'.fr w3 hb') (by simp) .nil)
 refine⟨w1,hL,fun h2 e2 _=> ?_⟩
 subst e2
 rw[<-List.map_set]at w2
 have e:ps.set q.toNat ((ps[q.toNat]'(by omega))+1)=bump ps q.toNat:=by unfold bump;rw[aN (by omega)]
 rw[e]at w2
 exact HK _ _ hL.head w2 w3
theorem I7{S S':Nat->Prop}{h:Heap}{g w:Sl}{aD:List (List Int)}{rs:List Int}(G:bL S h g aD)(H:aP S' h w rs)(p n:Int)(K:Value->Heap->Prop)(HK:∀t h',bM h' (Iv h.size h'.size) t (og aD rs p n).1->Fr No h h'->K (.tuple #[t.v,VB (og aD rs p n).2]) h'):aE Tryz.prog 163 #[.agg #[g.v],.agg #[w.v,VI p],VI n] h K:=by
 refine agk g w p n h K fun b1 b2 h2 dT dC f2 bW=> ?_
 have f2:=f2.aF
 have no:og aD rs p n=([],false)->∀h',Fr No h h'->K (.tuple #[aC.v,VB false]) h':=fun e h' f=>by
  have:=HK aC h' (by rw[e];exact Ow.nil _ _ _ _) f
  rw[e]at this
  exact this
 refine CE (G.no f2) (H.no f2) p n 2000 _ fun h3 f3=>⟨_,rfl,bW.aB f3,fun e=> ?_,fun e=> ?_⟩
 ·exact no (by unfold og;rw[if_neg (by rw[aX e];simp)]) _ (f2.aA f3)
 have e:=aW e
 have e2:og aD rs p n=match runT aD HZ n.toNat (List.replicate aD.length 0) (rs,p)with
  |none=>([],false)
  |some (t,_)=>(t,true):=by unfold og;exact if_pos e
 rw[Bool.and_eq_true,aZ]at e
 have W:=cG e.1
 have RC:=aO W.bE
 have gI:=f2.aA f3
 have z03:=gI.size
 have hL:=bW.aB f3
 have l2:b2<h3.size:=hL.head.lt
 have l1:b1<h3.size:=hL.tail.head.lt
 have fj:Fr No h3 h3:=Fr.refl _ _
 have cp:∀{h1:Heap}{K:Value->Heap->Prop},Fr No h3 h1->(∀t h2,bM h2 (Iv h1.size h2.size) t rs->Fr No h1 h2->K (.agg #[t.v,VI p]) h2)->aE Tryz.prog 110 #[.agg #[w.v,VI p]] h1 K:=fun f HK=>iq ((H.no gI).no f) p (by have:=W.len;simp only at this;omega) _ HK
 have mk:∀{h1:Heap}{K:Value->Heap->Prop},Fr No h3 h1->(∀t h2,bM h2 (Iv h1.size h2.size) t (List.replicate aD.length 0)->Fr No h1 h2->K t.v h2)->jU Tryz.prog (Instr.makeSlice qD (VI (g.n:Int)) (VI (g.n:Int))) h1 K:=fun _ HK=>eB fy (fun k=>_<=k) (fun _ h=>h) .i64 .i64 g.n g.n (Nat.le_refl _) (by rw[G.len];omega) fun t h2 n2 c2 o2 f2 m2 _=>HK t h2 (Ow.ga (by
  have e:(List.replicate g.n [VI 0]).flatten=(List.replicate aD.length (0:Int)).map VI:=by rw[G.len];simp[List.flatten_replicate_singleton]
  rw[e]at o2;exact o2)) f2
 refine⟨fun bN xw xp bO xo h'=>xp=p/\∃i1 j1 i2 j2,bM h' (Iv i1 j1) xw rs/\bM h' (Iv i2 j2) xo (List.replicate aD.length 0)/\(j1<=i2\/j2<=i1)/\(bN<i1\/j1<=bN)/\(bN<i2\/j2<=bN)/\(bO<i1\/j1<=bO)/\(bO<i2\/j2<=bO)/\h3.size<=i1/\h3.size<=i2/\h3.size<=bN/\h3.size<=bO/\j1<=h'.size/\j2<=h'.size/\bN≠bO/\Fr No h3 h',?_,?_⟩
 ·refine⟨?_,?_,?_,?_⟩
  ·refine cp fj fun u_1 oe dX SC=>⟨u_1,_,rfl,hL.aB SC,?_⟩
   replace hL:=hL.aB SC
   have acK:=SC.size
   replace fj:=fj.aA SC
   refine⟨?_,?_,?_⟩
   ·refine mk fj fun u_2 SD Mc Pb=>⟨u_2,rfl,hL.aB Pb,?_⟩
    replace hL:=hL.aB Pb
    have acL:=Pb.size
    replace dX:=dX.no Pb
    replace fj:=fj.aA Pb
    refine⟨?_,?_⟩
    ·intro jN Md SE WZ Xa Me hL
     have Xb:jN<SE.size:=(hL.tail).head.lt
     have Xc:Md<SE.size:=(hL).head.lt
     have Xd:jN≠Md:=hL.ne (jN,_) List.mem_cons_self
     replace Me:=Me.aF
     have acM:=Me.size
     replace dX:=dX.no Me
     replace Mc:=Mc.no Me
     replace fj:=fj.aA Me
     exact⟨rfl,h3.size,oe.size,oe.size,SD.size,dX,Mc,by omega,by omega,by omega,by omega,by omega,by omega,by omega,by omega,by omega,by omega,by omega,by omega,fj⟩
    ·intro KM Mf ta Xe Xf Mg hL
     have Xg:KM<ta.size:=(hL.tail).head.lt
     have Xh:Mf<ta.size:=(hL).head.lt
     have Xi:KM≠Mf:=hL.ne (KM,_) List.mem_cons_self
     replace Mg:=Mg.aF
     have acN:=Mg.size
     replace dX:=dX.no Mg
     replace Mc:=Mc.no Mg
     replace fj:=fj.aA Mg
     exact⟨rfl,h3.size,oe.size,oe.size,SD.size,dX,Mc,by omega,by omega,by omega,by omega,by omega,by omega,by omega,by omega,by omega,by omega,by omega,by omega,fj⟩
   ·intro QE rC Xj Pc hL
    have Xk:QE<rC.size:=(hL).head.lt
    replace Pc:=Pc.aF
    have acO:=Pc.size
    replace dX:=dX.no Pc
    replace fj:=fj.aA Pc
    refine⟨?_,?_⟩
    ·refine mk fj fun u_6 Xl Xm Pd=>⟨u_6,rfl,hL.aB Pd,?_⟩
     replace hL:=hL.aB Pd
     have acP:=Pd.size
     replace dX:=dX.no Pd
     replace fj:=fj.aA Pd
     intro qp Xn SG Mh hL
     have SH:qp<Xn.size:=(hL).head.lt
     replace Mh:=Mh.cB (lo:=oe.size) (hi:=rC.size) ⟨⟨by omega,by omega⟩,trivial⟩
     have acQ:=Mh.size
     replace dX:=dX.iv Mh (by omega)
     replace Xm:=Xm.iv Mh (by omega)
     replace fj:=fj.aJ Mh (by omega)
     exact⟨rfl,h3.size,oe.size,rC.size,Xl.size,dX,Xm,by omega,by omega,by omega,by omega,by omega,by omega,by omega,by omega,by omega,by omega,by omega,by omega,fj⟩
    ·intro uv yD SI Pe hL
     have SJ:uv<yD.size:=(hL).head.lt
     replace Pe:=Pe.aF
     have acR:=Pe.size
     replace dX:=dX.no Pe
     replace fj:=fj.aA Pe
     refine⟨?_,?_⟩
     ·refine mk fj fun u_9 Xo SK Pf=>⟨u_9,rfl,hL.aB Pf,?_⟩
      replace hL:=hL.aB Pf
      have acS:=Pf.size
      replace dX:=dX.no Pf
      replace fj:=fj.aA Pf
      intro Sv Dn hL
      have Xp:=Dn.size
      replace dX:=dX.fr Dn fun k hk aI=>by have h1:=(dX.aG hk).1;have h2:=h1.1;have h3:=h1.2;simp only[In,List.mem_cons,List.not_mem_nil,or_false]at aI;omega
      replace SK:=SK.fr Dn fun k hk aI=>by have h1:=(SK.aG hk).1;have h2:=h1.1;have h3:=h1.2;simp only[In,List.mem_cons,List.not_mem_nil,or_false]at aI;omega
      replace fj:=fj.fresh Dn fun k hk=>by simp only[In,List.mem_cons,List.not_mem_nil,or_false]at hk;omega
      exact⟨rfl,h3.size,oe.size,yD.size,Xo.size,dX,SK,by omega,by omega,by omega,by omega,by omega,by omega,by omega,by omega,by omega,by omega,by omega,by omega,fj⟩
     ·intro Gd yE hL
      replace yE:=yE.cB (lo:=oe.size) (hi:=rC.size) ⟨⟨by omega,by omega⟩,trivial⟩
      have Xq:=yE.size
      replace dX:=dX.iv yE (by omega)
      replace fj:=fj.aJ yE (by omega)
      refine mk fj fun Xr uq IH yF=>⟨Xr,rfl,hL.aB yF,?_⟩
      replace hL:=hL.aB yF
      have Xs:=yF.size
      replace dX:=dX.no yF
      replace fj:=fj.aA yF
      intro OR uw hL
      replace uw:=uw.cB (lo:=rC.size) (hi:=yD.size) ⟨⟨by omega,by omega⟩,trivial⟩
      have Xt:=uw.size
      replace dX:=dX.iv uw (by omega)
      replace IH:=IH.iv uw (by omega)
      replace fj:=fj.aJ uw (by omega)
      exact⟨rfl,h3.size,oe.size,Gd.size,uq.size,dX,IH,by omega,by omega,by omega,by omega,by omega,by omega,by omega,by omega,by omega,by omega,by omega,by omega,fj⟩
   ·intro Am l8 SL yG hL
    have SM:Am<l8.size:=(hL).head.lt
    replace yG:=yG.aF
    have Xu:=yG.size
    replace dX:=dX.no yG
    replace fj:=fj.aA yG
    refine⟨?_,?_⟩
    ·refine mk fj fun Xv De II yH=>⟨Xv,rfl,hL.aB yH,?_⟩
     replace hL:=hL.aB yH
     have Xw:=yH.size
     replace dX:=dX.no yH
     replace fj:=fj.aA yH
     intro l9 sW SN ux hL
     have SO:l9<sW.size:=(hL).head.lt
     replace ux:=ux.cB (lo:=oe.size) (hi:=l8.size) ⟨⟨by omega,by omega⟩,trivial⟩
     have Xx:=ux.size
     replace dX:=dX.iv ux (by omega)
     replace II:=II.iv ux (by omega)
     replace fj:=fj.aJ ux (by omega)
     exact⟨rfl,h3.size,oe.size,l8.size,De.size,dX,II,by omega,by omega,by omega,by omega,by omega,by omega,by omega,by omega,by omega,by omega,by omega,by omega,fj⟩
    ·intro lg sX SP yI hL
     have SQ:lg<sX.size:=(hL).head.lt
     replace yI:=yI.aF
     have Xy:=yI.size
     replace dX:=dX.no yI
     replace fj:=fj.aA yI
     refine⟨?_,?_⟩
     ·refine mk fj fun Xz yA Dp yJ=>⟨Xz,rfl,hL.aB yJ,?_⟩
      replace hL:=hL.aB yJ
      have XA:=yJ.size
      replace dX:=dX.no yJ
      replace fj:=fj.aA yJ
      intro Dh Dq hL
      have XB:=Dq.size
      replace dX:=dX.fr Dq fun k hk aI=>by have h1:=(dX.aG hk).1;have h2:=h1.1;have h3:=h1.2;simp only[In,List.mem_cons,List.not_mem_nil,or_false]at aI;omega
      replace Dp:=Dp.fr Dq fun k hk aI=>by have h1:=(Dp.aG hk).1;have h2:=h1.1;have h3:=h1.2;simp only[In,List.mem_cons,List.not_mem_nil,or_false]at aI;omega
      replace fj:=fj.fresh Dq fun k hk=>by simp only[In,List.mem_cons,List.not_mem_nil,or_false]at hk;omega
      exact⟨rfl,h3.size,oe.size,sX.size,yA.size,dX,Dp,by omega,by omega,by omega,by omega,by omega,by omega,by omega,by omega,by omega,by omega,by omega,by omega,fj⟩
     ·intro IJ yK hL
      replace yK:=yK.cB (lo:=l8.size) (hi:=sX.size) ⟨⟨by omega,by omega⟩,trivial⟩
      have XC:=yK.size
      replace dX:=dX.iv yK (by omega)
      replace fj:=fj.aJ yK (by omega)
      refine mk fj fun XD Gi IK yL=>⟨XD,rfl,hL.aB yL,?_⟩
      replace hL:=hL.aB yL
      have XE:=yL.size
      replace dX:=dX.no yL
      replace fj:=fj.aA yL
      intro Pg uy hL
      replace uy:=uy.cB (lo:=oe.size) (hi:=l8.size) ⟨⟨by omega,by omega⟩,trivial⟩
      have XF:=uy.size
      replace dX:=dX.iv uy (by omega)
      replace IK:=IK.iv uy (by omega)
      replace fj:=fj.aJ uy (by omega)
      exact⟨rfl,h3.size,oe.size,IJ.size,Gi.size,dX,IK,by omega,by omega,by omega,by omega,by omega,by omega,by omega,by omega,by omega,by omega,by omega,by omega,fj⟩
  ·refine mk fj fun XG j6 bY Dr=>⟨XG,rfl,hL.aB Dr,?_⟩
   replace hL:=hL.aB Dr
   have XH:=Dr.size
   replace fj:=fj.aA Dr
   refine⟨?_,?_,?_⟩
   ·refine cp fj fun XI Ds uz yM=>⟨XI,_,rfl,hL.aB yM,?_⟩
    replace hL:=hL.aB yM
    have XJ:=yM.size
    replace bY:=bY.no yM
    replace fj:=fj.aA yM
    refine⟨?_,?_⟩
    ·intro rD vT Dt SR SS uA hL
     have SU:rD<Dt.size:=(hL.tail).head.lt
     have SV:vT<Dt.size:=(hL).head.lt
     have SW:rD≠vT:=hL.ne (rD,_) List.mem_cons_self
     replace uA:=uA.aF
     have XK:=uA.size
     replace bY:=bY.no uA
     replace uz:=uz.no uA
     replace fj:=fj.aA uA
     exact⟨rfl,j6.size,Ds.size,h3.size,j6.size,uz,bY,by omega,by omega,by omega,by omega,by omega,by omega,by omega,by omega,by omega,by omega,by omega,by omega,fj⟩
    ·intro rF vU Du SX SY uB hL
     have SZ:rF<Du.size:=(hL.tail).head.lt
     have S0:vU<Du.size:=(hL).head.lt
     have Ta:rF≠vU:=hL.ne (rF,_) List.mem_cons_self
     replace uB:=uB.aF
     have XL:=uB.size
     replace bY:=bY.no uB
     replace uz:=uz.no uB
     replace fj:=fj.aA uB
     exact⟨rfl,j6.size,Ds.size,h3.size,j6.size,uz,bY,by omega,by omega,by omega,by omega,by omega,by omega,by omega,by omega,by omega,by omega,by omega,by omega,fj⟩
   ·intro XM Ao Tb yN hL
    have Tc:XM<Ao.size:=(hL).head.lt
    replace yN:=yN.aF
    have XN:=yN.size
    replace bY:=bY.no yN
    replace fj:=fj.aA yN
    refine⟨?_,?_⟩
    ·refine cp fj fun XO IL IM yO=>⟨XO,_,rfl,hL.aB yO,?_⟩
     replace hL:=hL.aB yO
     have XP:=yO.size
     replace bY:=bY.no yO
     replace fj:=fj.aA yO
     intro XQ XR Td uC hL
     have Te:XQ<XR.size:=(hL).head.lt
     replace uC:=uC.cB (lo:=j6.size) (hi:=Ao.size) ⟨⟨by omega,by omega⟩,trivial⟩
     have XS:=uC.size
     replace bY:=bY.iv uC (by omega)
     replace IM:=IM.iv uC (by omega)
     replace fj:=fj.aJ uC (by omega)
     exact⟨rfl,Ao.size,IL.size,h3.size,j6.size,IM,bY,by omega,by omega,by omega,by omega,by omega,by omega,by omega,by omega,by omega,by omega,by omega,by omega,fj⟩
    ·intro XT Ph Tf yP hL
     have Tg:XT<Ph.size:=(hL).head.lt
     replace yP:=yP.aF
     have XU:=yP.size
     replace bY:=bY.no yP
     replace fj:=fj.aA yP
     refine cp fj fun XV XW Dv yQ=>⟨XV,_,rfl,hL.aB yQ,?_⟩
     replace hL:=hL.aB yQ
     have XX:=yQ.size
     replace bY:=bY.no yQ
     replace fj:=fj.aA yQ
     intro ajN Dw hL
     have XY:=Dw.size
     replace bY:=bY.fr Dw fun k hk aI=>by have h1:=(bY.aG hk).1;have h2:=h1.1;have h3:=h1.2;simp only[In,List.mem_cons,List.not_mem_nil,or_false]at aI;omega
     replace Dv:=Dv.fr Dw fun k hk aI=>by have h1:=(Dv.aG hk).1;have h2:=h1.1;have h3:=h1.2;simp only[In,List.mem_cons,List.not_mem_nil,or_false]at aI;omega
     replace fj:=fj.fresh Dw fun k hk=>by simp only[In,List.mem_cons,List.not_mem_nil,or_false]at hk;omega
     exact⟨rfl,Ph.size,XW.size,h3.size,j6.size,Dv,bY,by omega,by omega,by omega,by omega,by omega,by omega,by omega,by omega,by omega,by omega,by omega,by omega,fj⟩
   ·intro XZ IP Th yR hL
    have Ti:XZ<IP.size:=(hL).head.lt
    replace yR:=yR.aF
    have X1:=yR.size
    replace bY:=bY.no yR
    replace fj:=fj.aA yR
    refine⟨?_,?_⟩
    ·refine cp fj fun X2 X3 IQ yS=>⟨X2,_,rfl,hL.aB yS,?_⟩
     replace hL:=hL.aB yS
     have X4:=yS.size
     replace bY:=bY.no yS
     replace fj:=fj.aA yS
     intro X5 X6 Tj uD hL
     have Tk:X5<X6.size:=(hL).head.lt
     replace uD:=uD.cB (lo:=j6.size) (hi:=IP.size) ⟨⟨by omega,by omega⟩,trivial⟩
     have X7:=uD.size
     replace bY:=bY.iv uD (by omega)
     replace IQ:=IQ.iv uD (by omega)
     replace fj:=fj.aJ uD (by omega)
     exact⟨rfl,IP.size,X3.size,h3.size,j6.size,IQ,bY,by omega,by omega,by omega,by omega,by omega,by omega,by omega,by omega,by omega,by omega,by omega,by omega,fj⟩
    ·intro X8 Pj Tl yT hL
     have Tm:X8<Pj.size:=(hL).head.lt
     replace yT:=yT.aF
     have X9:=yT.size
     replace bY:=bY.no yT
     replace fj:=fj.aA yT
     refine cp fj fun Ya Yb Dx yU=>⟨Ya,_,rfl,hL.aB yU,?_⟩
     replace hL:=hL.aB yU
     have Yc:=yU.size
     replace bY:=bY.no yU
     replace fj:=fj.aA yU
     intro ajO Dy hL
     have Yd:=Dy.size
     replace bY:=bY.fr Dy fun k hk aI=>by have h1:=(bY.aG hk).1;have h2:=h1.1;have h3:=h1.2;simp only[In,List.mem_cons,List.not_mem_nil,or_false]at aI;omega
     replace Dx:=Dx.fr Dy fun k hk aI=>by have h1:=(Dx.aG hk).1;have h2:=h1.1;have h3:=h1.2;simp only[In,List.mem_cons,List.not_mem_nil,or_false]at aI;omega
     replace fj:=fj.fresh Dy fun k hk=>by simp only[In,List.mem_cons,List.not_mem_nil,or_false]at hk;omega
     exact⟨rfl,Pj.size,Yb.size,h3.size,j6.size,Dx,bY,by omega,by omega,by omega,by omega,by omega,by omega,by omega,by omega,by omega,by omega,by omega,by omega,fj⟩
  ·intro Ye kX Tp Dz hL
   have Tq:Ye<kX.size:=(hL).head.lt
   replace Dz:=Dz.aF
   have Yf:=Dz.size
   replace fj:=fj.aA Dz
   refine⟨?_,?_,?_⟩
   ·refine cp fj fun Yg yV fw DA=>⟨Yg,_,rfl,hL.aB DA,?_⟩
    replace hL:=hL.aB DA
    have Yh:=DA.size
    replace fj:=fj.aA DA
    refine⟨?_,?_⟩
    ·refine mk fj fun Yi Yj IR yW=>⟨Yi,rfl,hL.aB yW,?_⟩
     replace hL:=hL.aB yW
     have Yk:=yW.size
     replace fw:=fw.no yW
     replace fj:=fj.aA yW
     intro Yl Ym Tr uE hL
     have Tt:Yl<Ym.size:=(hL).head.lt
     replace uE:=uE.cB (lo:=h3.size) (hi:=kX.size) ⟨⟨by omega,by omega⟩,trivial⟩
     have Yn:=uE.size
     replace fw:=fw.iv uE (by omega)
     replace IR:=IR.iv uE (by omega)
     replace fj:=fj.aJ uE (by omega)
     exact⟨rfl,kX.size,yV.size,yV.size,Yj.size,fw,IR,by omega,by omega,by omega,by omega,by omega,by omega,by omega,by omega,by omega,by omega,by omega,by omega,fj⟩
    ·intro Yo IU Tu yX hL
     have Tw:Yo<IU.size:=(hL).head.lt
     replace yX:=yX.aF
     have Yp:=yX.size
     replace fw:=fw.no yX
     replace fj:=fj.aA yX
     refine⟨?_,?_⟩
     ·refine mk fj fun Yq Yr DB yY=>⟨Yq,rfl,hL.aB yY,?_⟩
      replace hL:=hL.aB yY
      have Ys:=yY.size
      replace fw:=fw.no yY
      replace fj:=fj.aA yY
      intro ajP DC hL
      have Yt:=DC.size
      replace fw:=fw.fr DC fun k hk aI=>by have h1:=(fw.aG hk).1;have h2:=h1.1;have h3:=h1.2;simp only[In,List.mem_cons,List.not_mem_nil,or_false]at aI;omega
      replace DB:=DB.fr DC fun k hk aI=>by have h1:=(DB.aG hk).1;have h2:=h1.1;have h3:=h1.2;simp only[In,List.mem_cons,List.not_mem_nil,or_false]at aI;omega
      replace fj:=fj.fresh DC fun k hk=>by simp only[In,List.mem_cons,List.not_mem_nil,or_false]at hk;omega
      exact⟨rfl,kX.size,yV.size,IU.size,Yr.size,fw,DB,by omega,by omega,by omega,by omega,by omega,by omega,by omega,by omega,by omega,by omega,by omega,by omega,fj⟩
     ·intro Yu yZ hL
      replace yZ:=yZ.cB (lo:=h3.size) (hi:=kX.size) ⟨⟨by omega,by omega⟩,trivial⟩
      have Yw:=yZ.size
      replace fw:=fw.iv yZ (by omega)
      replace fj:=fj.aJ yZ (by omega)
      refine mk fj fun Yy Yz IV y0=>⟨Yy,rfl,hL.aB y0,?_⟩
      replace hL:=hL.aB y0
      have YA:=y0.size
      replace fw:=fw.no y0
      replace fj:=fj.aA y0
      intro ajQ uF hL
      replace uF:=uF.cB (lo:=yV.size) (hi:=IU.size) ⟨⟨by omega,by omega⟩,trivial⟩
      have YB:=uF.size
      replace fw:=fw.iv uF (by omega)
      replace IV:=IV.iv uF (by omega)
      replace fj:=fj.aJ uF (by omega)
      exact⟨rfl,kX.size,yV.size,Yu.size,Yz.size,fw,IV,by omega,by omega,by omega,by omega,by omega,by omega,by omega,by omega,by omega,by omega,by omega,by omega,fj⟩
   ·refine mk fj fun YC IW js DD=>⟨YC,rfl,hL.aB DD,?_⟩
    replace hL:=hL.aB DD
    have YD:=DD.size
    replace fj:=fj.aA DD
    refine⟨?_,?_⟩
    ·refine cp fj fun YE YF IX y9=>⟨YE,_,rfl,hL.aB y9,?_⟩
     replace hL:=hL.aB y9
     have YG:=y9.size
     replace js:=js.no y9
     replace fj:=fj.aA y9
     intro YH YI Tx uG hL
     have Ty:YH<YI.size:=(hL).head.lt
     replace uG:=uG.cB (lo:=h3.size) (hi:=kX.size) ⟨⟨by omega,by omega⟩,trivial⟩
     have YJ:=uG.size
     replace js:=js.iv uG (by omega)
     replace IX:=IX.iv uG (by omega)
     replace fj:=fj.aJ uG (by omega)
     exact⟨rfl,IW.size,YF.size,kX.size,IW.size,IX,js,by omega,by omega,by omega,by omega,by omega,by omega,by omega,by omega,by omega,by omega,by omega,by omega,fj⟩
    ·intro YK Pk Tz za hL
     have TA:YK<Pk.size:=(hL).head.lt
     replace za:=za.aF
     have YL:=za.size
     replace js:=js.no za
     replace fj:=fj.aA za
     refine cp fj fun YM YN DE zc=>⟨YM,_,rfl,hL.aB zc,?_⟩
     replace hL:=hL.aB zc
     have YO:=zc.size
     replace js:=js.no zc
     replace fj:=fj.aA zc
     intro ajR DF hL
     have YP:=DF.size
     replace js:=js.fr DF fun k hk aI=>by have h1:=(js.aG hk).1;have h2:=h1.1;have h3:=h1.2;simp only[In,List.mem_cons,List.not_mem_nil,or_false]at aI;omega
     replace DE:=DE.fr DF fun k hk aI=>by have h1:=(DE.aG hk).1;have h2:=h1.1;have h3:=h1.2;simp only[In,List.mem_cons,List.not_mem_nil,or_false]at aI;omega
     replace fj:=fj.fresh DF fun k hk=>by simp only[In,List.mem_cons,List.not_mem_nil,or_false]at hk;omega
     exact⟨rfl,Pk.size,YN.size,kX.size,IW.size,DE,js,by omega,by omega,by omega,by omega,by omega,by omega,by omega,by omega,by omega,by omega,by omega,by omega,fj⟩
   ·intro YQ zd TB DG hL
    have TC:YQ<zd.size:=(hL).head.lt
    replace DG:=DG.aF
    have YR:=DG.size
    replace fj:=fj.aA DG
    refine⟨?_,?_⟩
    ·refine cp fj fun YS IY jt DH=>⟨YS,_,rfl,hL.aB DH,?_⟩
     replace hL:=hL.aB DH
     have YT:=DH.size
     replace fj:=fj.aA DH
     refine⟨?_,?_⟩
     ·refine mk fj fun YU YV DI ze=>⟨YU,rfl,hL.aB ze,?_⟩
      replace hL:=hL.aB ze
      have YW:=ze.size
      replace jt:=jt.no ze
      replace fj:=fj.aA ze
      intro ajS DJ hL
      have YX:=DJ.size
      replace jt:=jt.fr DJ fun k hk aI=>by have h1:=(jt.aG hk).1;have h2:=h1.1;have h3:=h1.2;simp only[In,List.mem_cons,List.not_mem_nil,or_false]at aI;omega
      replace DI:=DI.fr DJ fun k hk aI=>by have h1:=(DI.aG hk).1;have h2:=h1.1;have h3:=h1.2;simp only[In,List.mem_cons,List.not_mem_nil,or_false]at aI;omega
      replace fj:=fj.fresh DJ fun k hk=>by simp only[In,List.mem_cons,List.not_mem_nil,or_false]at hk;omega
      exact⟨rfl,zd.size,IY.size,IY.size,YV.size,jt,DI,by omega,by omega,by omega,by omega,by omega,by omega,by omega,by omega,by omega,by omega,by omega,by omega,fj⟩
     ·intro YY zf hL
      replace zf:=zf.cB (lo:=h3.size) (hi:=kX.size) ⟨⟨by omega,by omega⟩,trivial⟩
      have YZ:=zf.size
      replace jt:=jt.iv zf (by omega)
      replace fj:=fj.aJ zf (by omega)
      refine mk fj fun Y0 Y1 IZ zg=>⟨Y0,rfl,hL.aB zg,?_⟩
      replace hL:=hL.aB zg
      have Y2:=zg.size
      replace jt:=jt.no zg
      replace fj:=fj.aA zg
      intro ajT uH hL
      replace uH:=uH.cB (lo:=kX.size) (hi:=zd.size) ⟨⟨by omega,by omega⟩,trivial⟩
      have Y3:=uH.size
      replace jt:=jt.iv uH (by omega)
      replace IZ:=IZ.iv uH (by omega)
      replace fj:=fj.aJ uH (by omega)
      exact⟨rfl,zd.size,IY.size,YY.size,Y1.size,jt,IZ,by omega,by omega,by omega,by omega,by omega,by omega,by omega,by omega,by omega,by omega,by omega,by omega,fj⟩
    ·refine mk fj fun Y4 Pl uI DK=>⟨Y4,rfl,hL.aB DK,?_⟩
     replace hL:=hL.aB DK
     have Y5:=DK.size
     replace fj:=fj.aA DK
     refine cp fj fun Y6 Y7 DL zh=>⟨Y6,_,rfl,hL.aB zh,?_⟩
     replace hL:=hL.aB zh
     have Y8:=zh.size
     replace uI:=uI.no zh
     replace fj:=fj.aA zh
     intro ajU DM hL
     have Y9:=DM.size
     replace uI:=uI.fr DM fun k hk aI=>by have h1:=(uI.aG hk).1;have h2:=h1.1;have h3:=h1.2;simp only[In,List.mem_cons,List.not_mem_nil,or_false]at aI;omega
     replace DL:=DL.fr DM fun k hk aI=>by have h1:=(DL.aG hk).1;have h2:=h1.1;have h3:=h1.2;simp only[In,List.mem_cons,List.not_mem_nil,or_false]at aI;omega
     replace fj:=fj.fresh DM fun k hk=>by simp only[In,List.mem_cons,List.not_mem_nil,or_false]at hk;omega
     exact⟨rfl,Pl.size,Y7.size,zd.size,Pl.size,DL,uI,by omega,by omega,by omega,by omega,by omega,by omega,by omega,by omega,by omega,by omega,by omega,by omega,fj⟩
  ·intro Za gE TD DN hL
   have TE:Za<gE.size:=(hL).head.lt
   replace DN:=DN.aF
   have Zb:=DN.size
   replace fj:=fj.aA DN
   refine⟨?_,?_,?_⟩
   ·refine cp fj fun Zc py fx DO=>⟨Zc,_,rfl,hL.aB DO,?_⟩
    replace hL:=hL.aB DO
    have Zd:=DO.size
    replace fj:=fj.aA DO
    refine⟨?_,?_⟩
    ·refine mk fj fun Ze Pm I3 zi=>⟨Ze,rfl,hL.aB zi,?_⟩
     replace hL:=hL.aB zi
     have Zf:=zi.size
     replace fx:=fx.no zi
     replace fj:=fj.aA zi
     intro Zg Pn TF uJ hL
     have TG:Zg<Pn.size:=(hL).head.lt
     replace uJ:=uJ.cB (lo:=h3.size) (hi:=gE.size) ⟨⟨by omega,by omega⟩,trivial⟩
     have Zh:=uJ.size
     replace fx:=fx.iv uJ (by omega)
     replace I3:=I3.iv uJ (by omega)
     replace fj:=fj.aJ uJ (by omega)
     exact⟨rfl,gE.size,py.size,py.size,Pm.size,fx,I3,by omega,by omega,by omega,by omega,by omega,by omega,by omega,by omega,by omega,by omega,by omega,by omega,fj⟩
    ·intro Zi zj TH zk hL
     have TI:Zi<zj.size:=(hL).head.lt
     replace zk:=zk.aF
     have Zj:=zk.size
     replace fx:=fx.no zk
     replace fj:=fj.aA zk
     refine⟨?_,?_⟩
     ·refine mk fj fun Zk Po DP zm=>⟨Zk,rfl,hL.aB zm,?_⟩
      replace hL:=hL.aB zm
      have Zl:=zm.size
      replace fx:=fx.no zm
      replace fj:=fj.aA zm
      intro acT DQ hL
      have Zm:=DQ.size
      replace fx:=fx.fr DQ fun k hk aI=>by have h1:=(fx.aG hk).1;have h2:=h1.1;have h3:=h1.2;simp only[In,List.mem_cons,List.not_mem_nil,or_false]at aI;omega
      replace DP:=DP.fr DQ fun k hk aI=>by have h1:=(DP.aG hk).1;have h2:=h1.1;have h3:=h1.2;simp only[In,List.mem_cons,List.not_mem_nil,or_false]at aI;omega
      replace fj:=fj.fresh DQ fun k hk=>by simp only[In,List.mem_cons,List.not_mem_nil,or_false]at hk;omega
      exact⟨rfl,gE.size,py.size,zj.size,Po.size,fx,DP,by omega,by omega,by omega,by omega,by omega,by omega,by omega,by omega,by omega,by omega,by omega,by omega,fj⟩
     ·intro Pp zn hL
      replace zn:=zn.cB (lo:=py.size) (hi:=zj.size) ⟨⟨by omega,by omega⟩,trivial⟩
      have Zn:=zn.size
      replace fx:=fx.iv zn (by omega)
      replace fj:=fj.aJ zn (by omega)
      refine mk fj fun Zo Pq I4 zo=>⟨Zo,rfl,hL.aB zo,?_⟩
      replace hL:=hL.aB zo
      have Zp:=zo.size
      replace fx:=fx.no zo
      replace fj:=fj.aA zo
      intro acU uK hL
      replace uK:=uK.cB (lo:=h3.size) (hi:=gE.size) ⟨⟨by omega,by omega⟩,trivial⟩
      have Zq:=uK.size
      replace fx:=fx.iv uK (by omega)
      replace I4:=I4.iv uK (by omega)
      replace fj:=fj.aJ uK (by omega)
      exact⟨rfl,gE.size,py.size,Pp.size,Pq.size,fx,I4,by omega,by omega,by omega,by omega,by omega,by omega,by omega,by omega,by omega,by omega,by omega,by omega,fj⟩
   ·refine mk fj fun Zr zp ju DR=>⟨Zr,rfl,hL.aB DR,?_⟩
    replace hL:=hL.aB DR
    have Zs:=DR.size
    replace fj:=fj.aA DR
    refine⟨?_,?_⟩
    ·refine cp fj fun Zt Pr I5 zq=>⟨Zt,_,rfl,hL.aB zq,?_⟩
     replace hL:=hL.aB zq
     have Zu:=zq.size
     replace ju:=ju.no zq
     replace fj:=fj.aA zq
     intro Zv Ps TJ uL hL
     have TK:Zv<Ps.size:=(hL).head.lt
     replace uL:=uL.cB (lo:=h3.size) (hi:=gE.size) ⟨⟨by omega,by omega⟩,trivial⟩
     have Zw:=uL.size
     replace ju:=ju.iv uL (by omega)
     replace I5:=I5.iv uL (by omega)
     replace fj:=fj.aJ uL (by omega)
     exact⟨rfl,zp.size,Pr.size,gE.size,zp.size,I5,ju,by omega,by omega,by omega,by omega,by omega,by omega,by omega,by omega,by omega,by omega,by omega,by omega,fj⟩
    ·intro Zx Gj TL zr hL
     have TM:Zx<Gj.size:=(hL).head.lt
     replace zr:=zr.aF
     have Zy:=zr.size
     replace ju:=ju.no zr
     replace fj:=fj.aA zr
     refine cp fj fun Zz Pt DS zt=>⟨Zz,_,rfl,hL.aB zt,?_⟩
     replace hL:=hL.aB zt
     have ZA:=zt.size
     replace ju:=ju.no zt
     replace fj:=fj.aA zt
     intro acV DT hL
     have ZB:=DT.size
     replace ju:=ju.fr DT fun k hk aI=>by have h1:=(ju.aG hk).1;have h2:=h1.1;have h3:=h1.2;simp only[In,List.mem_cons,List.not_mem_nil,or_false]at aI;omega
     replace DS:=DS.fr DT fun k hk aI=>by have h1:=(DS.aG hk).1;have h2:=h1.1;have h3:=h1.2;simp only[In,List.mem_cons,List.not_mem_nil,or_false]at aI;omega
     replace fj:=fj.fresh DT fun k hk=>by simp only[In,List.mem_cons,List.not_mem_nil,or_false]at hk;omega
     exact⟨rfl,Gj.size,Pt.size,gE.size,zp.size,DS,ju,by omega,by omega,by omega,by omega,by omega,by omega,by omega,by omega,by omega,by omega,by omega,by omega,fj⟩
   ·intro ZC pz TN DU hL
    have TO:ZC<pz.size:=(hL).head.lt
    replace DU:=DU.aF
    have ZD:=DU.size
    replace fj:=fj.aA DU
    refine⟨?_,?_⟩
    ·refine cp fj fun ZE zu jv DV=>⟨ZE,_,rfl,hL.aB DV,?_⟩
     replace hL:=hL.aB DV
     have ZF:=DV.size
     replace fj:=fj.aA DV
     refine⟨?_,?_⟩
     ·refine mk fj fun ZG Pu DW zw=>⟨ZG,rfl,hL.aB zw,?_⟩
      replace hL:=hL.aB zw
      have ZH:=zw.size
      replace jv:=jv.no zw
      replace fj:=fj.aA zw
      intro acW DX hL
      have ZI:=DX.size
      replace jv:=jv.fr DX fun k hk aI=>by have h1:=(jv.aG hk).1;have h2:=h1.1;have h3:=h1.2;simp only[In,List.mem_cons,List.not_mem_nil,or_false]at aI;omega
      replace DW:=DW.fr DX fun k hk aI=>by have h1:=(DW.aG hk).1;have h2:=h1.1;have h3:=h1.2;simp only[In,List.mem_cons,List.not_mem_nil,or_false]at aI;omega
      replace fj:=fj.fresh DX fun k hk=>by simp only[In,List.mem_cons,List.not_mem_nil,or_false]at hk;omega
      exact⟨rfl,pz.size,zu.size,zu.size,Pu.size,jv,DW,by omega,by omega,by omega,by omega,by omega,by omega,by omega,by omega,by omega,by omega,by omega,by omega,fj⟩
     ·intro Pv zx hL
      replace zx:=zx.cB (lo:=gE.size) (hi:=pz.size) ⟨⟨by omega,by omega⟩,trivial⟩
      have ZJ:=zx.size
      replace jv:=jv.iv zx (by omega)
      replace fj:=fj.aJ zx (by omega)
      refine mk fj fun ZK Pw I6 zy=>⟨ZK,rfl,hL.aB zy,?_⟩
      replace hL:=hL.aB zy
      have ZL:=zy.size
      replace jv:=jv.no zy
      replace fj:=fj.aA zy
      intro acX uM hL
      replace uM:=uM.cB (lo:=h3.size) (hi:=gE.size) ⟨⟨by omega,by omega⟩,trivial⟩
      have ZM:=uM.size
      replace jv:=jv.iv uM (by omega)
      replace I6:=I6.iv uM (by omega)
      replace fj:=fj.aJ uM (by omega)
      exact⟨rfl,pz.size,zu.size,Pv.size,Pw.size,jv,I6,by omega,by omega,by omega,by omega,by omega,by omega,by omega,by omega,by omega,by omega,by omega,by omega,fj⟩
    ·refine mk fj fun ZN Gk uN DY=>⟨ZN,rfl,hL.aB DY,?_⟩
     replace hL:=hL.aB DY
     have ZO:=DY.size
     replace fj:=fj.aA DY
     refine cp fj fun ZP Px DZ zz=>⟨ZP,_,rfl,hL.aB zz,?_⟩
     replace hL:=hL.aB zz
     have ZQ:=zz.size
     replace uN:=uN.no zz
     replace fj:=fj.aA zz
     intro acY D5 hL
     have ZR:=D5.size
     replace uN:=uN.fr D5 fun k hk aI=>by have h1:=(uN.aG hk).1;have h2:=h1.1;have h3:=h1.2;simp only[In,List.mem_cons,List.not_mem_nil,or_false]at aI;omega
     replace DZ:=DZ.fr D5 fun k hk aI=>by have h1:=(DZ.aG hk).1;have h2:=h1.1;have h3:=h1.2;simp only[In,List.mem_cons,List.not_mem_nil,or_false]at aI;omega
     replace fj:=fj.fresh D5 fun k hk=>by simp only[In,List.mem_cons,List.not_mem_nil,or_false]at hk;omega
     exact⟨rfl,Gk.size,Px.size,pz.size,Gk.size,DZ,uN,by omega,by omega,by omega,by omega,by omega,by omega,by omega,by omega,by omega,by omega,by omega,by omega,fj⟩
 rintro bN x1 x2 bO x3 zA ⟨rfl,i1,j1,i2,j2,o1,o2,d12,dN1,dN2,dO1,dO2,e1,e2',e3,e4,e5,e6,eA,f134⟩ kY
 have f0:=gI.aA f134
 have ajW:=f134.size
 have lO:bO<zA.size:=kY.head.lt
 have lN:bN<zA.size:=kY.tail.head.lt
 have ZS:bL (fun k=>k<h3.size) zA g aD:=(G.no gI).low.no f134
 have xN:¬x1.own bN:=fun hk=>by have h1:=(o1.aG hk).1.1;have h2:=(o1.aG hk).1.2;omega
 have xO:¬x3.own bO:=fun hk=>by have h1:=(o2.aG hk).1.1;have h2:=(o2.aG hk).1.2;omega
 have x1O:¬x1.own bO:=fun hk=>by have h1:=(o1.aG hk).1.1;have h2:=(o1.aG hk).1.2;omega
 have x3N:¬x3.own bN:=fun hk=>by have h1:=(o2.aG hk).1.1;have h2:=(o2.aG hk).1.2;omega
 have J6:∀k,x1.own k->¬x3.own k:=fun k h1 h3=>by have a1:=(o1.aG h1).1.1;have a2:=(o1.aG h1).1.2;have a3:=(o2.aG h3).1.1;have a4:=(o2.aG h3).1.2;omega
 have x1g:∀k,x1.own k->h3.size<=k/\k<zA.size:=fun k hk=>⟨by have:=(o1.aG hk).1.1;omega,(o1.aG hk).2⟩
 have x3g:∀k,x3.own k->h3.size<=k/\k<zA.size:=fun k hk=>⟨by have:=(o2.aG hk).1.1;omega,(o2.aG hk).2⟩
 --what the ZT region and the other one are off
 have qh:∀k,(k=bN\/x1.own k)\/(k=bO\/x3.own k)->h3.size<=k:=fun k hk=>by
  rcases hk with(rfl|hk)|(rfl|hk)
  ·omega
  ·exact(x1g k hk).1
  ·omega
  ·exact(x3g k hk).1
 refine NS (s0:=(rs,x2)) (F:=fun k=>k=bN\/x1.own k) (S:=fun k=>k<h3.size) HZ
  (fun N t h'=>∃o:Sl,dD h' bO [o.v]/\bM h' (fun k=>h3.size<=k) o t/\∀k,o.own k->x3.own k\/N<=k) (fun k=>k=bO\/x3.own k)
  ZS kY.tail.head (o1.mono fun k hk _=> .inr hk) (fun k hk=>⟨fun h=>by have:=qh k (.inl h);omega,fun h=>by have:=qh k (.inr h);omega⟩) (.inl rfl) xN W n (by omega) (by omega) _ (List.replicate aD.length 0)
  (fun k hk=>by rcases hk with rfl|hk;exact lN;exact(x1g k hk).2)
  (fun k hk=>⟨fun h=>by
   rcases hk with rfl|hk<;>rcases h with rfl|h
   ·exact eA rfl
   ·exact x1O h
   ·exact x3N hk
   ·exact J6 k h hk,by rcases hk with rfl|hk;exact lO;exact(x3g k hk).2⟩)
  (fun N hN=>⟨x3,kY.head,o2.mono fun k _ hk=>by have:=hk.1;omega,fun k hk=> .inl hk⟩)
  (fun N t h1 h2 U ⟨o,v1,v2,v3⟩ f hU=>⟨o,v1.fr f fun h=>(hU _ h).1 (.inl rfl),v2.fr f fun k hk aI=>by
   rcases v3 k hk with h|h
   ·exact(hU k aI).1 (.inr h)
   ·have:=(hU k aI).2;omega,v3⟩)
  (fun N t s s' h1 K hN hN2 ⟨o,v1,v2,v3⟩ V O W hs hm HK=> ?_) _ (fun hr N t h9 q hN ⟨o,v1,v2,v3⟩ v9 f9=> ?_) fun t' s' hr N h9 hN ⟨o,v1,v2,v3⟩ o9 W9 v9 f9=> ?_
 ·obtain⟨m,hm,hr⟩:=hm
  have hl:=zB m 0 _ _ _ _ (fun x hx=>by simp only[List.mem_replicate]at hx;omega) hr
  have ob:¬o.own bO:=fun hk=>by
   rcases v3 _ hk with h|h
   ·exact xO h
   ·omega
  have ob':¬o.own bN:=fun hk=>by
   rcases v3 _ hk with h|h
   ·exact x3N h
   ·omega
  have W':=W.step hs
  have ht:t.length=aD.length:=by rw[hl.1];simp
  refine ZU v1 V eA v2 ob ob' W'.lo (by rw[ht];exact W'.hi) (fun x hx=>by have:=hl.2 x hx;omega) s.2 K fun h2 v w1 w2 w4=>HK h2 v ⟨o,w1,w2,v3⟩ (w4.mono fun k _ hk=>(v3 k hk).imp .inr id)
 ·have fS:Vars h9 [(bO,[o.v]),(bN,[x1.v,VI q]),(b2,[w.v,VI x2]),(b1,[g.v])]:= .cons v1 (fun p hp=>by
   have:=kY.ne
   simp only[List.mem_cons,List.not_mem_nil,or_false]at hp
   rcases hp with rfl|rfl|rfl<;>simp only<;>omega) (.cons v9 (fun p hp=>by
   simp only[List.mem_cons,List.not_mem_nil,or_false]at hp
   rcases hp with rfl|rfl<;>simp only<;>omega) (kY.tail.tail.fr f9 fun p hp hk=>by
   have:=qh _ hk
   simp only[List.mem_cons,List.not_mem_nil,or_false]at hp
   rcases hp with rfl|rfl<;>simp only at this<;>omega))
  refine⟨o,x1,q,false,rfl,fS,fun _=> ?_,fun e=>by simp at e⟩
  rw[hr]at e2
  exact no e2 h9 (f0.fresh f9 fun k hk=>by have:=qh k hk;omega)
 ·have fS:Vars h9 [(bO,[o.v]),(bN,[x1.v,VI s'.2]),(b2,[w.v,VI x2]),(b1,[g.v])]:= .cons v1 (fun p hp=>by
   simp only[List.mem_cons,List.not_mem_nil,or_false]at hp
   rcases hp with rfl|rfl|rfl<;>simp only<;>omega) (.cons v9 (fun p hp=>by
   simp only[List.mem_cons,List.not_mem_nil,or_false]at hp
   rcases hp with rfl|rfl<;>simp only<;>omega) (kY.tail.tail.fr f9 fun p hp hk=>by
   have:=qh _ hk
   simp only[List.mem_cons,List.not_mem_nil,or_false]at hp
   rcases hp with rfl|rfl<;>simp only at this<;>omega))
  refine⟨o,x1,s'.2,true,rfl,fS,fun e=>by simp at e,fun _=> ?_⟩
  rw[hr]at e2
  have:=HK o h9 (by rw[e2];exact v2.mono fun k hk hF=>⟨by omega,(v2.aG hk).2⟩) (f0.fresh f9 fun k hk=>by have:=qh k hk;omega)
  rw[e2]at this
  exact this
def Ea(P:Program)(Gl:Heap)(iQ:Nat)(pA:Sl)(pB:Int)(qp:Nat)(ka:Sl)(kb:Int)(jN:Nat)(mc:Sl)(me:Int)(lh:Nat)(ma:Sl)(mb:Int)(bJ:Sl)(bK:Int)(jO:Nat)(jP:Nat)(cV:Sl)(K:Value->Heap->Prop):Prop:=
 ∀(uv:Nat)(Df:Heap),Gl.size<=uv->Fr (In [iQ]) Gl Df->Vars Df [(uv,[(Sl.v pA),(VI pB)]),(qp,[(Sl.v ka),(VI kb)]),(jN,[(Sl.v mc),(VI me)]),(lh,[(Sl.v ma),(VI mb)]),(iQ,[(Sl.v bJ),(VI bK)]),(jO,[(Sl.v bJ),(VI bK)]),(jP,[(Sl.v cV)])]->
 K (Value.tuple #[(VI 0),(Value.agg #[(Sl.v bJ),(VI bK)]),(VI 0)]) Df
def Eb(P:Program)(fV:Int)(pC:Int)(iQ:Nat)(I9:Heap)(lg:Nat)(uO:Sl)(uP:Int)(l9:Nat)(uQ:Sl)(uR:Int)(jN:Nat)(mc:Sl)(me:Int)(lh:Nat)(ma:Sl)(mb:Int)(bJ:Sl)(bK:Int)(jO:Nat)(jP:Nat)(cV:Sl)(K:Value->Heap->Prop):Prop:=
 ((decide (2000<(aL (fV+pC))))=true->
 ∀(ZV:Heap),Fr (In [iQ]) I9 ZV->Vars ZV [(lg,[(Sl.v uO),(VI uP)]),(l9,[(Sl.v uQ),(VI uR)]),(jN,[(Sl.v mc),(VI me)]),(lh,[(Sl.v ma),(VI mb)]),(iQ,[(Sl.v bJ),(VI bK)]),(jO,[(Sl.v bJ),(VI bK)]),(jP,[(Sl.v cV)])]->
 K (Value.tuple #[(VI 0),(Value.agg #[(Sl.v bJ),(VI bK)]),(VI 0)]) ZV)/\
 ((decide (2000<(aL (fV+pC))))=false->
 ∀(ZW:Heap),Fr (In [iQ]) I9 ZW->Vars ZW [(lg,[(Sl.v uO),(VI uP)]),(l9,[(Sl.v uQ),(VI uR)]),(jN,[(Sl.v mc),(VI me)]),(lh,[(Sl.v ma),(VI mb)]),(iQ,[(Sl.v uQ),(VI uR)]),(jO,[(Sl.v bJ),(VI bK)]),(jP,[(Sl.v cV)])]->
 K (Value.tuple #[(VI fV),(Value.agg #[(Sl.v uQ),(VI uR)]),(VI pC)]) ZW)
def zC(P:Program)(pD:Bool)(iQ:Nat)(ta:Heap)(jN:Nat)(mc:Sl)(me:Int)(lh:Nat)(ma:Sl)(mb:Int)(bJ:Sl)(bK:Int)(jO:Nat)(jP:Nat)(cV:Sl)(K:Value->Heap->Prop):Prop:=
 ((! pD)=true->
 ∀(Dg:Heap),Fr (In [iQ]) ta Dg->Vars Dg [(jN,[(Sl.v mc),(VI me)]),(lh,[(Sl.v ma),(VI mb)]),(iQ,[(Sl.v bJ),(VI bK)]),(jO,[(Sl.v bJ),(VI bK)]),(jP,[(Sl.v cV)])]->
 K (Value.tuple #[(VI 0),(Value.agg #[(Sl.v bJ),(VI bK)]),(VI 0)]) Dg)/\
 ((! pD)=false->
 aE P 227 #[(Value.agg #[(Sl.v cV)]),(Value.agg #[(Sl.v ma),(VI mb)]),(VI 2000)] ta fun ajZ sW=>∃pC:Int,ajZ=(VI pC)/\Vars sW [(jN,[(Sl.v mc),(VI me)]),(lh,[(Sl.v ma),(VI mb)]),(iQ,[(Sl.v aC),(VI 0)]),(jO,[(Sl.v bJ),(VI bK)]),(jP,[(Sl.v cV)])]/\
 ((decide (pC=0))=true->
 ∀(sX:Heap),Fr (In [iQ]) sW sX->Vars sX [(jN,[(Sl.v mc),(VI me)]),(lh,[(Sl.v ma),(VI mb)]),(iQ,[(Sl.v bJ),(VI bK)]),(jO,[(Sl.v bJ),(VI bK)]),(jP,[(Sl.v cV)])]->
 K (Value.tuple #[(VI 0),(Value.agg #[(Sl.v bJ),(VI bK)]),(VI 0)]) sX)/\
 ((decide (pC=0))=false->
 ∃J_3:Nat->Sl->Int->Nat->Sl->Int->Heap->Prop,((∀(rD:Nat)(yA:Heap),sW.size<=rD->Fr (In []) sW yA->Vars yA [(rD,[(Sl.v aC),(VI 0)]),(jN,[(Sl.v mc),(VI me)]),(lh,[(Sl.v ma),(VI mb)]),(iQ,[(Sl.v aC),(VI 0)]),(jO,[(Sl.v bJ),(VI bK)]),(jP,[(Sl.v cV)])]->
 ∀(vT:Nat)(Ge:Heap),yA.size<=vT->Fr (In []) yA Ge->Vars Ge [(vT,[(Sl.v aC),(VI 0)]),(rD,[(Sl.v aC),(VI 0)]),(jN,[(Sl.v mc),(VI me)]),(lh,[(Sl.v ma),(VI mb)]),(iQ,[(Sl.v aC),(VI 0)]),(jO,[(Sl.v bJ),(VI bK)]),(jP,[(Sl.v cV)])]->
 ∀(Dh:Heap),Fr (In [rD]) Ge Dh->Vars Dh [(vT,[(Sl.v aC),(VI 0)]),(rD,[(Sl.v bJ),(VI bK)]),(jN,[(Sl.v mc),(VI me)]),(lh,[(Sl.v ma),(VI mb)]),(iQ,[(Sl.v aC),(VI 0)]),(jO,[(Sl.v bJ),(VI bK)]),(jP,[(Sl.v cV)])]->
 ∀(IJ:Heap),Fr (In [vT]) Dh IJ->Vars IJ [(vT,[(Sl.v bJ),(VI bK)]),(rD,[(Sl.v bJ),(VI bK)]),(jN,[(Sl.v mc),(VI me)]),(lh,[(Sl.v ma),(VI mb)]),(iQ,[(Sl.v aC),(VI 0)]),(jO,[(Sl.v bJ),(VI bK)]),(jP,[(Sl.v cV)])]->
 J_3 rD bJ bK vT bJ bK IJ)/\
 (∀(rF:Nat)(Gi:Heap),sW.size<=rF->Fr (In []) sW Gi->Vars Gi [(rF,[(Sl.v aC),(VI 0)]),(jN,[(Sl.v mc),(VI me)]),(lh,[(Sl.v ma),(VI mb)]),(iQ,[(Sl.v aC),(VI 0)]),(jO,[(Sl.v bJ),(VI bK)]),(jP,[(Sl.v cV)])]->
 ∀(vU:Nat)(Pg:Heap),Gi.size<=vU->Fr (In []) Gi Pg->Vars Pg [(vU,[(Sl.v aC),(VI 0)]),(rF,[(Sl.v aC),(VI 0)]),(jN,[(Sl.v mc),(VI me)]),(lh,[(Sl.v ma),(VI mb)]),(iQ,[(Sl.v aC),(VI 0)]),(jO,[(Sl.v bJ),(VI bK)]),(jP,[(Sl.v cV)])]->
 ∀(j6:Heap),Fr (In [vU]) Pg j6->Vars j6 [(vU,[(Sl.v bJ),(VI bK)]),(rF,[(Sl.v aC),(VI 0)]),(jN,[(Sl.v mc),(VI me)]),(lh,[(Sl.v ma),(VI mb)]),(iQ,[(Sl.v aC),(VI 0)]),(jO,[(Sl.v bJ),(VI bK)]),(jP,[(Sl.v cV)])]->
 ∀(Ds:Heap),Fr (In [rF]) j6 Ds->Vars Ds [(vU,[(Sl.v bJ),(VI bK)]),(rF,[(Sl.v bJ),(VI bK)]),(jN,[(Sl.v mc),(VI me)]),(lh,[(Sl.v ma),(VI mb)]),(iQ,[(Sl.v aC),(VI 0)]),(jO,[(Sl.v bJ),(VI bK)]),(jP,[(Sl.v cV)])]->
 J_3 vU bJ bK rF bJ bK Ds))/\
 ∀(l9:Nat)(x_9:Sl)(Mi:Int)(lg:Nat)(ZX:Sl)(ZY:Int)(ZZ:Heap),J_3 l9 x_9 Mi lg ZX ZY ZZ->Vars ZZ [(lg,[(Sl.v ZX),(VI ZY)]),(l9,[(Sl.v x_9),(VI Mi)]),(jN,[(Sl.v mc),(VI me)]),(lh,[(Sl.v ma),(VI mb)]),(iQ,[(Sl.v aC),(VI 0)]),(jO,[(Sl.v bJ),(VI bK)]),(jP,[(Sl.v cV)])]->
 ∃J_4:Nat->Int->Sl->Int->Heap->Prop,(∃n0:Nat,J_4 n0 0 ZX ZY ZZ)/\
 ∀(n_2:Nat)(KO:Int)(Pz:Sl)(PA:Int)(TP:Heap),J_4 n_2 KO Pz PA TP->Vars TP [(lg,[(Sl.v Pz),(VI PA)]),(l9,[(Sl.v x_9),(VI Mi)]),(jN,[(Sl.v mc),(VI me)]),(lh,[(Sl.v ma),(VI mb)]),(iQ,[(Sl.v aC),(VI 0)]),(jO,[(Sl.v bJ),(VI bK)]),(jP,[(Sl.v cV)])]->
 ((decide (KO<pC))=true->
 aE P 177 #[(Value.agg #[(Sl.v cV)]),(Value.agg #[(Sl.v Pz),(VI PA)])] TP fun aj2 ac2=>∃PB:Sl,∃PC:Int,∃ac3:Bool,aj2=(Value.tuple #[(Value.agg #[(Sl.v PB),(VI PC)]),(VB ac3)])/\Vars ac2 [(lg,[(Sl.v Pz),(VI PA)]),(l9,[(Sl.v x_9),(VI Mi)]),(jN,[(Sl.v mc),(VI me)]),(lh,[(Sl.v ma),(VI mb)]),(iQ,[(Sl.v aC),(VI 0)]),(jO,[(Sl.v bJ),(VI bK)]),(jP,[(Sl.v cV)])]/\
 ∀(Dt:Heap),Fr (In [lg]) ac2 Dt->Vars Dt [(lg,[(Sl.v PB),(VI PC)]),(l9,[(Sl.v x_9),(VI Mi)]),(jN,[(Sl.v mc),(VI me)]),(lh,[(Sl.v ma),(VI mb)]),(iQ,[(Sl.v aC),(VI 0)]),(jO,[(Sl.v bJ),(VI bK)]),(jP,[(Sl.v cV)])]->
 ∃m:Nat,m<n_2/\J_4 m (aL (KO+1)) PB PC Dt)/\
 ((decide (KO<pC))=false->
 ∃OB:Nat->Int->Sl->Int->Sl->Int->Heap->Prop,(∃n0:Nat,OB n0 0 Pz PA x_9 Mi TP)/\
 ∀(n_3:Nat)(fV:Int)(uO:Sl)(uP:Int)(uQ:Sl)(uR:Int)(Z8:Heap),OB n_3 fV uO uP uQ uR Z8->Vars Z8 [(lg,[(Sl.v uO),(VI uP)]),(l9,[(Sl.v uQ),(VI uR)]),(jN,[(Sl.v mc),(VI me)]),(lh,[(Sl.v ma),(VI mb)]),(iQ,[(Sl.v aC),(VI 0)]),(jO,[(Sl.v bJ),(VI bK)]),(jP,[(Sl.v cV)])]->
 aE P 226 #[(Value.agg #[(Sl.v uQ),(VI uR)]),(Value.agg #[(Sl.v uO),(VI uP)])] Z8 fun aj3 I9=>∃PD:Bool,aj3=(VB PD)/\Vars I9 [(lg,[(Sl.v uO),(VI uP)]),(l9,[(Sl.v uQ),(VI uR)]),(jN,[(Sl.v mc),(VI me)]),(lh,[(Sl.v ma),(VI mb)]),(iQ,[(Sl.v aC),(VI 0)]),(jO,[(Sl.v bJ),(VI bK)]),(jP,[(Sl.v cV)])]/\
 ((! PD)=true->
 ((decide (fV<=2000))=true->
 aE P 177 #[(Value.agg #[(Sl.v cV)]),(Value.agg #[(Sl.v uQ),(VI uR)])] I9 fun aj4 ac4=>∃Gm:Sl,∃Gn:Int,∃ac5:Bool,aj4=(Value.tuple #[(Value.agg #[(Sl.v Gm),(VI Gn)]),(VB ac5)])/\Vars ac4 [(lg,[(Sl.v uO),(VI uP)]),(l9,[(Sl.v uQ),(VI uR)]),(jN,[(Sl.v mc),(VI me)]),(lh,[(Sl.v ma),(VI mb)]),(iQ,[(Sl.v aC),(VI 0)]),(jO,[(Sl.v bJ),(VI bK)]),(jP,[(Sl.v cV)])]/\
 ∀(Du:Heap),Fr (In [l9]) ac4 Du->Vars Du [(lg,[(Sl.v uO),(VI uP)]),(l9,[(Sl.v Gm),(VI Gn)]),(jN,[(Sl.v mc),(VI me)]),(lh,[(Sl.v ma),(VI mb)]),(iQ,[(Sl.v aC),(VI 0)]),(jO,[(Sl.v bJ),(VI bK)]),(jP,[(Sl.v cV)])]->
 aE P 177 #[(Value.agg #[(Sl.v cV)]),(Value.agg #[(Sl.v uO),(VI uP)])] Du fun aj5 Ao=>∃Ja:Sl,∃Jb:Int,∃Z9:Bool,aj5=(Value.tuple #[(Value.agg #[(Sl.v Ja),(VI Jb)]),(VB Z9)])/\Vars Ao [(lg,[(Sl.v uO),(VI uP)]),(l9,[(Sl.v Gm),(VI Gn)]),(jN,[(Sl.v mc),(VI me)]),(lh,[(Sl.v ma),(VI mb)]),(iQ,[(Sl.v aC),(VI 0)]),(jO,[(Sl.v bJ),(VI bK)]),(jP,[(Sl.v cV)])]/\
 ∀(IL:Heap),Fr (In [lg]) Ao IL->Vars IL [(lg,[(Sl.v Ja),(VI Jb)]),(l9,[(Sl.v Gm),(VI Gn)]),(jN,[(Sl.v mc),(VI me)]),(lh,[(Sl.v ma),(VI mb)]),(iQ,[(Sl.v aC),(VI 0)]),(jO,[(Sl.v bJ),(VI bK)]),(jP,[(Sl.v cV)])]->
 ∃m:Nat,m<n_3/\OB m (aL (fV+1)) Ja Jb Gm Gn IL)/\
 ((decide (fV<=2000))=false->
 Eb P fV pC iQ I9 lg uO uP l9 uQ uR jN mc me lh ma mb bJ bK jO jP cV K))/\
 ((! PD)=false->
 Eb P fV pC iQ I9 lg uO uP l9 uQ uR jN mc me lh ma mb bJ bK jO jP cV K))))
def ac6(P:Program)(cV:Sl)(bJ:Sl)(bK:Int)(h:Heap)(K:Value->Heap->Prop):Prop:=
 ∀(jP:Nat)(jO:Nat)(iQ:Nat)(Qv:Heap),h.size<=jP->h.size<=jO->h.size<=iQ->Fr (In []) h Qv->Vars Qv [(iQ,[(Sl.v aC),(VI 0)]),(jO,[(Sl.v bJ),(VI bK)]),(jP,[(Sl.v cV)])]->
 ∃J_1:Nat->Sl->Int->Nat->Sl->Int->Heap->Prop,((∀(Md:Nat)(oe:Heap),Qv.size<=Md->Fr (In []) Qv oe->Vars oe [(Md,[(Sl.v aC),(VI 0)]),(iQ,[(Sl.v aC),(VI 0)]),(jO,[(Sl.v bJ),(VI bK)]),(jP,[(Sl.v cV)])]->
 ∀(KM:Nat)(SD:Heap),oe.size<=KM->Fr (In []) oe SD->Vars SD [(KM,[(Sl.v aC),(VI 0)]),(Md,[(Sl.v aC),(VI 0)]),(iQ,[(Sl.v aC),(VI 0)]),(jO,[(Sl.v bJ),(VI bK)]),(jP,[(Sl.v cV)])]->
 ∀(h_6:Heap),Fr (In [Md]) SD h_6->Vars h_6 [(KM,[(Sl.v aC),(VI 0)]),(Md,[(Sl.v bJ),(VI bK)]),(iQ,[(Sl.v aC),(VI 0)]),(jO,[(Sl.v bJ),(VI bK)]),(jP,[(Sl.v cV)])]->
 ∀(h_7:Heap),Fr (In [KM]) h_6 h_7->Vars h_7 [(KM,[(Sl.v bJ),(VI bK)]),(Md,[(Sl.v bJ),(VI bK)]),(iQ,[(Sl.v aC),(VI 0)]),(jO,[(Sl.v bJ),(VI bK)]),(jP,[(Sl.v cV)])]->
 J_1 Md bJ bK KM bJ bK h_7)/\
 (∀(Mf:Nat)(h_8:Heap),Qv.size<=Mf->Fr (In []) Qv h_8->Vars h_8 [(Mf,[(Sl.v aC),(VI 0)]),(iQ,[(Sl.v aC),(VI 0)]),(jO,[(Sl.v bJ),(VI bK)]),(jP,[(Sl.v cV)])]->
 ∀(QE:Nat)(SE:Heap),h_8.size<=QE->Fr (In []) h_8 SE->Vars SE [(QE,[(Sl.v aC),(VI 0)]),(Mf,[(Sl.v aC),(VI 0)]),(iQ,[(Sl.v aC),(VI 0)]),(jO,[(Sl.v bJ),(VI bK)]),(jP,[(Sl.v cV)])]->
 ∀(aaa:Heap),Fr (In [QE]) SE aaa->Vars aaa [(QE,[(Sl.v bJ),(VI bK)]),(Mf,[(Sl.v aC),(VI 0)]),(iQ,[(Sl.v aC),(VI 0)]),(jO,[(Sl.v bJ),(VI bK)]),(jP,[(Sl.v cV)])]->
 ∀(aab:Heap),Fr (In [Mf]) aaa aab->Vars aab [(QE,[(Sl.v bJ),(VI bK)]),(Mf,[(Sl.v bJ),(VI bK)]),(iQ,[(Sl.v aC),(VI 0)]),(jO,[(Sl.v bJ),(VI bK)]),(jP,[(Sl.v cV)])]->
 J_1 QE bJ bK Mf bJ bK aab))/\
 ∀(lh:Nat)(x_1:Sl)(x_2:Int)(jN:Nat)(x_3:Sl)(x_4:Int)(aac:Heap),J_1 lh x_1 x_2 jN x_3 x_4 aac->Vars aac [(jN,[(Sl.v x_3),(VI x_4)]),(lh,[(Sl.v x_1),(VI x_2)]),(iQ,[(Sl.v aC),(VI 0)]),(jO,[(Sl.v bJ),(VI bK)]),(jP,[(Sl.v cV)])]->
 ∃J_2:Nat->Bool->Int->Sl->Int->Sl->Int->Heap->Prop,(∃n0:Nat,J_2 n0 false 1 x_3 x_4 x_1 x_2 aac)/\
 ∀(n_1:Nat)(pD:Bool)(KP:Int)(mc:Sl)(me:Int)(ma:Sl)(mb:Int)(ta:Heap),J_2 n_1 pD KP mc me ma mb ta->Vars ta [(jN,[(Sl.v mc),(VI me)]),(lh,[(Sl.v ma),(VI mb)]),(iQ,[(Sl.v aC),(VI 0)]),(jO,[(Sl.v bJ),(VI bK)]),(jP,[(Sl.v cV)])]->
 ((decide ((aL (2*KP))<=4000))=true->
 ((! pD)=true->
 aE P 177 #[(Value.agg #[(Sl.v cV)]),(Value.agg #[(Sl.v ma),(VI mb)])] ta fun VK rC=>∃ka:Sl,∃kb:Int,∃PE:Bool,VK=(Value.tuple #[(Value.agg #[(Sl.v ka),(VI kb)]),(VB PE)])/\Vars rC [(jN,[(Sl.v mc),(VI me)]),(lh,[(Sl.v ma),(VI mb)]),(iQ,[(Sl.v aC),(VI 0)]),(jO,[(Sl.v bJ),(VI bK)]),(jP,[(Sl.v cV)])]/\
 ∀(qp:Nat)(aad:Heap),rC.size<=qp->Fr (In []) rC aad->Vars aad [(qp,[(Sl.v ka),(VI kb)]),(jN,[(Sl.v mc),(VI me)]),(lh,[(Sl.v ma),(VI mb)]),(iQ,[(Sl.v aC),(VI 0)]),(jO,[(Sl.v bJ),(VI bK)]),(jP,[(Sl.v cV)])]->
 aE P 177 #[(Value.agg #[(Sl.v cV)]),(Value.agg #[(Sl.v mc),(VI me)])] aad fun VM Gl=>∃pA:Sl,∃pB:Int,∃PF:Bool,VM=(Value.tuple #[(Value.agg #[(Sl.v pA),(VI pB)]),(VB PF)])/\Vars Gl [(qp,[(Sl.v ka),(VI kb)]),(jN,[(Sl.v mc),(VI me)]),(lh,[(Sl.v ma),(VI mb)]),(iQ,[(Sl.v aC),(VI 0)]),(jO,[(Sl.v bJ),(VI bK)]),(jP,[(Sl.v cV)])]/\
 ((! PE)=true->
 Ea P Gl iQ pA pB qp ka kb jN mc me lh ma mb bJ bK jO jP cV K)/\
 ((! PE)=false->
 ((! PF)=true->
 Ea P Gl iQ pA pB qp ka kb jN mc me lh ma mb bJ bK jO jP cV K)/\
 ((! PF)=false->
 ∀(uv:Nat)(yD:Heap),Gl.size<=uv->Fr (In []) Gl yD->Vars yD [(uv,[(Sl.v pA),(VI pB)]),(qp,[(Sl.v ka),(VI kb)]),(jN,[(Sl.v mc),(VI me)]),(lh,[(Sl.v ma),(VI mb)]),(iQ,[(Sl.v aC),(VI 0)]),(jO,[(Sl.v bJ),(VI bK)]),(jP,[(Sl.v cV)])]->
 aE P 177 #[(Value.agg #[(Sl.v cV)]),(Value.agg #[(Sl.v pA),(VI pB)])] yD fun VN PG=>∃vD:Sl,∃vE:Int,∃PH:Bool,VN=(Value.tuple #[(Value.agg #[(Sl.v vD),(VI vE)]),(VB PH)])/\Vars PG [(uv,[(Sl.v pA),(VI pB)]),(qp,[(Sl.v ka),(VI kb)]),(jN,[(Sl.v mc),(VI me)]),(lh,[(Sl.v ma),(VI mb)]),(iQ,[(Sl.v aC),(VI 0)]),(jO,[(Sl.v bJ),(VI bK)]),(jP,[(Sl.v cV)])]/\
 ((! PH)=true->
 ∀(Am:Nat)(uq:Heap),PG.size<=Am->Fr (In [iQ]) PG uq->Vars uq [(Am,[(Sl.v vD),(VI vE)]),(uv,[(Sl.v pA),(VI pB)]),(qp,[(Sl.v ka),(VI kb)]),(jN,[(Sl.v mc),(VI me)]),(lh,[(Sl.v ma),(VI mb)]),(iQ,[(Sl.v bJ),(VI bK)]),(jO,[(Sl.v bJ),(VI bK)]),(jP,[(Sl.v cV)])]->
 K (Value.tuple #[(VI 0),(Value.agg #[(Sl.v bJ),(VI bK)]),(VI 0)]) uq)/\
 ((! PH)=false->
 ∀(Am:Nat)(l8:Heap),PG.size<=Am->Fr (In [jN,lh]) PG l8->Vars l8 [(Am,[(Sl.v vD),(VI vE)]),(uv,[(Sl.v pA),(VI pB)]),(qp,[(Sl.v ka),(VI kb)]),(jN,[(Sl.v vD),(VI vE)]),(lh,[(Sl.v ka),(VI kb)]),(iQ,[(Sl.v aC),(VI 0)]),(jO,[(Sl.v bJ),(VI bK)]),(jP,[(Sl.v cV)])]->
 aE P 226 #[(Value.agg #[(Sl.v ka),(VI kb)]),(Value.agg #[(Sl.v vD),(VI vE)])] l8 fun ake De=>∃UU:Bool,ake=(VB UU)/\Vars De [(Am,[(Sl.v vD),(VI vE)]),(uv,[(Sl.v pA),(VI pB)]),(qp,[(Sl.v ka),(VI kb)]),(jN,[(Sl.v vD),(VI vE)]),(lh,[(Sl.v ka),(VI kb)]),(iQ,[(Sl.v aC),(VI 0)]),(jO,[(Sl.v bJ),(VI bK)]),(jP,[(Sl.v cV)])]/\
 ∃m:Nat,m<n_1/\J_2 m UU (aL (KP+1)) vD vE ka kb De))))/\
 ((! pD)=false->
 zC P pD iQ ta jN mc me lh ma mb bJ bK jO jP cV K))/\
 ((decide ((aL (2*KP))<=4000))=false->
 zC P pD iQ ta jN mc me lh ma mb bJ bK jO jP cV K)
theorem akf(cV:Sl)(bJ:Sl)(bK:Int)(h:Heap)(K:Value->Heap->Prop)(H:ac6 Tryz.prog cV bJ bK h K):aE Tryz.prog 181 #[(Value.agg #[(Sl.v cV)]),(Value.agg #[(Sl.v bJ),(VI bK)])] h K:=agL cV bJ bK h K H
theorem kB{S S':Nat->Prop}{h:Heap}{g w:Sl}{aD:List (List Int)}{s:St}(G:bL S h g aD)(H:aP S' h w s.1)(W:gu aD s){p:Int}(hp:p=s.2)(K:Value->Heap->Prop)(HK:∀(t:Sl) h',aP (fun k=>S' k\/h.size<=k) h' t ((cA aD s).getD s).1->Fr No h h'->K (.tuple #[.agg #[t.v,VI ((cA aD s).getD s).2],VB (cA aD s).isSome]) h'):aE Tryz.prog 177 #[.agg #[g.v],.agg #[w.v,VI p]] h K:=by
 subst hp
 refine oX G H W _ (fun hn h' f=> ?_) (fun s' hs t h' o f=> ?_)
 ·have:=HK w h' (by rw[hn];exact(H.no f).mono fun k hk=> .inl hk) f
  rw[hn]at this
  exact this
 ·have:=HK t h' (by rw[hs];exact cW.mono o.eQ fun k hk=> .inr hk.1) f
  rw[hs]at this
  exact this
theorem nK{g:List (List Int)}{s:St}(W:gu g s):∀{n:Nat}{t:St},sq g s n=some t->gu g t
 |0,t,h=>by rw[sq]at h;cases h;exact W
 |n+1,t,h=>by
  rw[sq]at h
  cases hn:sq g s n with
  |none=>rw[hn]at h;cases h
  |some u=>rw[hn]at h;exact(nK W hn).step h
theorem zD{g:List (List Int)}{s0:St}:∀(f n:Nat)(s:St),f+n=2001->sq g s0 n=some s->(∀j,1<=j->j<n->sq g s0 j≠some s0)->((bG g (jL s0.1 s0.2) 1 f (n:Int) () s).1=0/\∀j,1<=j->j<=2000->sq g s0 j≠some s0)\/∃a:Nat,(bG g (jL s0.1 s0.2) 1 f (n:Int) () s).1=(a:Int)/\1<=a/\a<=2000/\sq g s0 a=some s0/\∀j,1<=j->j<a->sq g s0 j≠some s0
 |0,n,s,hn,hs,hj=> .inl ⟨rfl,fun j h1 h2=>hj j h1 (by omega)⟩
 |f+1,n,s,hn,hs,hj=>by
  rw[bG]
  have stop:cA g s=none->(1<=n->s≠s0)->∀j,1<=j->j<=2000->sq g s0 j≠some s0:=fun he eA j h1 h2 hc=>by
   by_cases h3:j<n
   ·exact hj j h1 h3 hc
   ·by_cases h4:j=n
    ·rw[h4,hs]at hc
     exact eA (by omega) (Option.some.inj hc)
    ·have:sq g s0 (n+1)=none:=by rw[sq,hs];exact he
     have:=wL this (j-(n+1))
     rw[show n+1+(j-(n+1))=j by omega]at this
     rw[this]at hc;cases hc
  have next:∀s',cA g s=some s'->(1<=n->s≠s0)->(∀j,1<=j->j<n+1->sq g s0 j≠some s0):=fun s' he eA j h1 h2=>by
   by_cases h3:j<n
   ·exact hj j h1 h3
   ·have:j=n:=by omega
    subst this
    rw[hs]
    exact fun hc=>eA (by omega) (Option.some.inj hc)
  by_cases h1:(1:Int)<=(n:Int)
  ·rw[if_pos h1]
   by_cases h2:(jL s0.1 s0.2 () s).1=true
   ·rw[if_pos h2]
    have e:s=s0:=by
     simp only[jL,decide_eq_true_eq]at h2
     exact Prod.ext h2.2.symm h2.1.symm
    exact .inr ⟨n,rfl,by omega,by omega,by rw[hs,e],hj⟩
   ·rw[if_neg h2]
    have eA:s≠s0:=fun e=>h2 (by simp[jL,e])
    cases he:cA g s with
    |none=>exact .inl ⟨rfl,stop he fun _=>eA⟩
    |some s'=>
     have:=zD f (n+1) s' (by omega) (by rw[sq,hs];exact he) (next s' he fun _=>eA)
     simpa using this
  ·rw[if_neg h1]
   cases he:cA g s with
   |none=>exact .inl ⟨rfl,stop he fun h=>absurd h (by omega)⟩
   |some s'=>
    have:=zD f (n+1) s' (by omega) (by rw[sq,hs];exact he) (next s' he fun h=>absurd h (by omega))
    simpa using this
theorem BN{g:List (List Int)}{s0 s:St}{m n a:Nat}(R:sP g s0 m n)(ha:m<=a)(hs:sq g s0 a=some s):((bG g (jL s.1 s.2) 1 2001 0 () s).1=0/\2000<n-m)\/((bG g (jL s.1 s.2) 1 2001 0 () s).1=((n-m:Nat):Int)/\n-m<=2000):=by
 have tE:=R.lt
 have key:∀j,sq g s j=sq g s0 (a+j):=fun j=>by rw[ym,hs];rfl
 have aae:∀j,1<=j->(sq g s j=some s↔j%(n-m)=0):=fun j hj=>by
  rw[key,<-hs]
  have:=R.iff (a:=a) (b:=a+j) (by omega)
  rw[show a+j-a=j by omega]at this
  constructor
  ·intro h;exact(this.1 h.symm).2
  ·intro h;exact(this.2 ⟨ha,h⟩).symm
 rcases zD (g:=g) (s0:=s) 2001 0 s rfl rfl (fun j h1 h2=>by omega)with⟨h1,h2⟩|⟨b,h1,h2,h3,h4,h5⟩
 ·refine .inl ⟨h1,?_⟩
  by_cases hc:n-m<=2000
  ·exact absurd ((aae (n-m) (by omega)).2 (Nat.mod_self _)) (h2 (n-m) (by omega) hc)
  ·omega
 ·have hb:=(aae b h2).1 h4
  have hle:n-m<=b:=by
   by_cases hc:n-m<=b
   ·exact hc
   ·rw[Nat.mod_eq_of_lt (by omega)]at hb;omega
  have heq:n-m=b:=by
   by_cases hc:n-m<b
   ·exact absurd ((aae (n-m) (by omega)).2 (Nat.mod_self _)) (h5 (n-m) (by omega) hc)
   ·omega
  exact .inr ⟨h1.trans (by rw[heq]),by omega⟩
theorem Gp{S':Nat->Prop}{h:Heap}{g w:Sl}{aD:List (List Int)}{rs:List Int}{p:Int}{m n:Nat}(R:sP aD (rs,p) m n){K:Value->Heap->Prop}(HN:(∀m k,sP aD (rs,p) m k->2000<k)->∀h',Fr No h h'->K (.tuple #[VI 0,.agg #[w.v,VI p],VI 0]) h')(HS:∀m k s,sP aD (rs,p) m k->k<=2000->sq aD (rs,p) m=some s->∀t h',aP (fun k=>S' k\/h.size<=k) h' t s.1->Fr No h h'->K (.tuple #[VI m,.agg #[t.v,VI s.2],VI ((k:Int)-m)]) h'){b1 b2 b3 b4 b5 b13 b14:Nat}(iE:h.size<=b3){X:Heap}(fX:Fr (fun k=>h.size<=k) h X){x5 x7 x15 x17:Sl}{x6 x8 x16:Int}{i:Nat}{s:St}(hs:sq aD (rs,p) i=some s)(hi:i=m\/i=2001/\2000<n)(Q:aP (fun k=>(S' k/\k<h.size)\/(h.size<=k/\k≠b3)) X x17 s.1)(wB:i<=2001)(xZ:n-m<=2000):Eb Tryz.prog (i:Int) ((n-m:Nat):Int) b3 X b14 x15 x16 b13 x17 s.2 b5 x5 x6 b4 x7 x8 w p b2 b1 g K:=by
 have tE:=R.lt
 unfold Eb
 rw[aH _ (by omega) (by omega)]
 have vy:∀{Y:Heap},Fr (In [b3]) X Y->Fr No h Y:=fun f=>(fX.trans (f.mono fun k _ hk=>by simp[In]at hk;omega)).mono fun k hk aI=>absurd aI (by omega)
 refine⟨fun e Y fY hL=> ?_,fun e Y fY hL=> ?_⟩
 ·simp only[decide_eq_true_eq]at e
  refine HN (fun m' k' R'=> ?_) Y (vy fY)
  obtain⟨rfl,rfl⟩:=R.WB R'
  rcases hi with rfl|⟨_,h2⟩
  ·omega
  ·exact h2
 ·simp only[decide_eq_false_iff_not]at e
  rcases hi with rfl|⟨rfl,h2⟩
  ·have:=HS i n s R (by omega) hs x17 Y ((Q.fr fY fun k hk aI=>by simp[In]at aI;rcases hk with hk|hk<;>omega).mono fun k hk=>by rcases hk with hk|hk;exact .inl hk.1;exact .inr hk.1) (vy fY)
   rw[show((n-i:Nat):Int)=(n:Int)-i by omega]
   exact this
  ·omega
set_option maxHeartbeats 4000000 in
theorem PI{S S':Nat->Prop}{h:Heap}{g w:Sl}{aD:List (List Int)}{rs:List Int}{p:Int}(G:bL S h g aD)(H:aP S' h w rs)(W:gu aD (rs,p)){K:Value->Heap->Prop}(HN:(∀m k,sP aD (rs,p) m k->2000<k)->∀h',Fr No h h'->K (.tuple #[VI 0,.agg #[w.v,VI p],VI 0]) h')(HS:∀m k s,sP aD (rs,p) m k->k<=2000->sq aD (rs,p) m=some s->∀t h',aP (fun k=>S' k\/h.size<=k) h' t s.1->Fr No h h'->K (.tuple #[VI m,.agg #[t.v,VI s.2],VI ((k:Int)-m)]) h'){b1 b2 b3 b4 b5:Nat}(hb:h.size<=b1/\h.size<=b2/\h.size<=b3/\h.size<=b4/\h.size<=b5){X:Heap}(fX:Fr (fun k=>h.size<=k) h X){T:Nat->Prop}{x5 x7:Sl}{x6:Int}{a:Nat}{s:St}(met:Bool)(hs:sq aD (rs,p) a=some s)(Q:aP T X x7 s.1)(akh:met=true->1<=a/\sq aD (rs,p) a=sq aD (rs,p) (2*a))(hL:Vars X [(b5,[x5.v,VI x6]),(b4,[x7.v,VI s.2]),(b3,[aC.v,VI 0]),(b2,[w.v,VI p]),(b1,[g.v])])(hT:(!met)=true->∀h':Heap,Fr (In [b3]) X h'->K (.tuple #[VI 0,.agg #[w.v,VI p],VI 0]) h'):zC Tryz.prog met b3 X b5 x5 x6 b4 x7 s.2 w p b2 b1 g K:=by
 unfold zC
 obtain⟨dT,dC,iE,Ha,Qx⟩:=hb
 have zX:=fX.size
 have wl:=W.len
 have G0:bL (fun k=>S k/\k<h.size) h g aD:=G.xm
 have H0:aP (fun k=>S' k/\k<h.size) h w rs:=cW.lt H
 refine⟨fun e h' f _=>hT e h' f,?_⟩
 intro e
 have hm:=akh (by simpa using e)
 obtain⟨m,n,hn,R⟩:=WA (g:=aD) (s:=(rs,p)) (2*a) (a:=a) (by omega) hm.2 (by rw[hs];exact fun h=>by cases h)
 have tE:=R.lt
 have hma:m<=a:=((R.iff (a:=a) (b:=2*a) (by omega)).1 hm.2).1
 have Ws:gu aD s:=nK W hs
 have GX:bL (fun k=>S k/\k<h.size) X g aD:=G0.fr fX fun k hk aI=>by omega
 have PJ:∀{Y:Heap},Fr (fun k=>h.size<=k) h Y->Fr No h Y:=fun f=>f.mono fun k hk aI=>absurd aI (by omega)
 have up:∀{Y Z:Heap}{l:List Nat},(∀k,k∈l->h.size<=k)->Fr (In l) Y Z->Fr (fun k=>h.size<=k) Y Z:=fun hl f=>f.mono fun k _ hk=>hl k hk
 have all:=R.all
 refine Ls GX (show aP T X x7 (s.1,s.2).1 from Q) s.2 Ws _ fun h29 f29=>⟨_,rfl,hL.aB f29,fun e1 h30 f30 ai0=> ?_,fun e1=> ?_⟩
 ·have PK:=fX.trans f29.aB
  refine HN (fun m' k' R'=> ?_) h30 (PJ (PK.trans (f30.mono fun k _ hk=>by simp[In]at hk;omega)))
  obtain⟨rfl,rfl⟩:=R.WB R'
  simp only[decide_eq_true_eq]at e1
  rcases BN R hma hs with⟨_,h2⟩|⟨h1,h2⟩
  ·omega
  ·rw[show((s.1,s.2):St)=s from rfl]at e1;rw[h1]at e1;omega
 simp only[decide_eq_false_iff_not]at e1
 have xZ:(bG aD (jL s.1 s.2) 1 2001 0 () (s.1,s.2)).1=((n-m:Nat):Int)/\n-m<=2000:=by
  rcases BN R hma hs with⟨h1,h2⟩|h
  ·exact absurd h1 e1
  ·exact h
 rw[xZ.1]
 have xZ:=xZ.2
 have PK:=fX.trans f29.aB
 have z29:=PK.size
 have apN:=hL.aB f29
 refine⟨fun b13 x9 NV b14 NX Qy h'=>x9=w/\NV=p/\NX=w/\Qy=p/\h29.size<=b13/\h29.size<=b14/\Fr (fun k=>h.size<=k) h h',⟨fun b15 h31 aaf f31 RG b16 Wb aki f32 akj h33 f33 akk h34 f34 Wc=> ?_,fun b17 h35 aag f35 ab4 b18 h36 akl f36 RI h37 f37 NY h38 f38 akm=> ?_⟩,?_⟩
 ·have:=f31.size
  exact⟨rfl,rfl,rfl,rfl,aaf,by omega,(((PK.trans f31.aF.aB).trans f32.aF.aB).trans (f33.mono fun k _ hk=>by simp[In]at hk;omega)).trans (f34.mono fun k _ hk=>by simp[In]at hk;omega)⟩
 ·have:=f35.size
  exact⟨rfl,rfl,rfl,rfl,by omega,aag,(((PK.trans f35.aF.aB).trans f36.aF.aB).trans (f37.mono fun k _ hk=>by simp[In]at hk;omega)).trans (f38.mono fun k _ hk=>by simp[In]at hk;omega)⟩
 rintro b13 x9 NV b14 NX Qy Lx ⟨rfl,rfl,rfl,rfl,apS,apT,f39⟩ N3
 have z39:=f39.size
 have l14:b14<Lx.size:=N3.head.lt
 have l13:b13<Lx.size:=N3.tail.head.lt
 have l3:b3<Lx.size:=N3.tail.tail.tail.tail.head.lt
 have inc:∀{k:Nat},((S' k/\k<h.size)\/Lx.size<=k)->(S' k/\k<h.size)\/(h.size<=k/\k≠b3):=fun hk=>by
  rcases hk with hk|hk
  ·exact .inl hk
  ·exact .inr (by omega)
 have H39:aP (fun k=>(S' k/\k<h.size)\/Lx.size<=k) Lx NX rs:=(H0.fr f39 fun k hk aI=>by omega).mono fun k hk=> .inl hk
 refine⟨fun n2 i x q h'=>∃(j:Nat)(t:St),i=(j:Int)/\n2+j=n-m/\sq aD (rs,Qy) j=some t/\q=t.2/\aP (fun k=>(S' k/\k<h.size)\/Lx.size<=k) h' x t.1/\Fr (fun k=>h.size<=k) h h'/\Lx.size<=h'.size,⟨n-m,0,(rs,Qy),rfl,rfl,rfl,rfl,H39,f39,Nat.le_refl _⟩,?_⟩
 rintro n2 i x q h40 ⟨j,t,rfl,ej,hj,rfl,Q40,f40,z40⟩ akn
 have Wt:gu aD t:=nK W hj
 have G40:bL (fun k=>S k/\k<h.size) h40 g aD:=G0.fr f40 fun k hk aI=>by omega
 refine⟨fun e2=> ?_,fun e2=> ?_⟩
 ·simp only[decide_eq_true_eq]at e2
  refine kB G40 Q40 Wt rfl _ fun y h41 Y41 f41=>⟨y,_,_,rfl,akn.aB f41,fun h42 f42 ai7=> ?_⟩
  have z41:=f41.size
  rw[aH _ (by omega) (by omega)]
  have M0:cA aD t≠none:=fun hh=>all (j+1) (by rw[sq,hj];exact hh)
  obtain⟨t',ht'⟩:=Option.ne_none_iff_exists'.1 M0
  rw[ht']at Y41⊢
  simp only[Option.getD_some]at Y41⊢
  refine⟨n2-1,by omega,j+1,t',by omega,by omega,by rw[sq,hj];exact ht',rfl,(Y41.fr f42 fun k hk aI=>by simp[In]at aI;rcases hk with(hk|hk)|hk<;>omega).mono fun k hk=>by rcases hk with hk|hk;exact hk;exact .inr (by omega),(f40.trans f41.aB).trans (f42.mono fun k _ hk=>by simp[In]at hk;omega),by have:=f42.size;omega⟩
 simp only[decide_eq_false_iff_not]at e2
 have ej2:j=n-m:=by omega
 subst ej2
 have H40:aP (fun k=>(S' k/\k<h.size)\/Lx.size<=k) h40 NX rs:=(H0.fr f40 fun k hk aI=>by omega).mono fun k hk=> .inl hk
 refine⟨fun n3 st y q2 z q3 h'=>∃(i:Nat)(u v:St),st=(i:Int)/\n3+i=2001/\sq aD (rs,Qy) i=some u/\sq aD (rs,Qy) (i+(n-m))=some v/\q3=u.2/\q2=v.2/\aP (fun k=>(S' k/\k<h.size)\/Lx.size<=k) h' z u.1/\aP (fun k=>(S' k/\k<h.size)\/Lx.size<=k) h' y v.1/\(∀j,j<i->j<m)/\Fr (fun k=>h.size<=k) h h'/\Lx.size<=h'.size,⟨2001,0,(rs,Qy),t,rfl,rfl,rfl,by rw[Nat.zero_add];exact hj,rfl,rfl,H40,Q40,fun j hj=>by omega,f40,z40⟩,?_⟩
 rintro n3 st y q2 z q3 h43 ⟨i,u,v,rfl,en3,hu,hv,rfl,rfl,Z43,Y43,akp,f43,z43⟩ ac9
 have Wu:gu aD u:=nK W hu
 have Wv:gu aD v:=nK W hv
 have zE:(u.2=v.2/\u.1=v.1)↔m<=i:=by
  have h1:=R.iff (a:=i) (b:=i+(n-m)) (by omega)
  rw[hu,hv,show i+(n-m)-i=n-m by omega,Nat.mod_self]at h1
  constructor
  ·intro hh;exact(h1.1 (congrArg some (Prod.ext hh.2 hh.1))).1
  ·intro hh
   have:=Option.some.inj (h1.2 ⟨hh,rfl⟩)
   rw[this];exact⟨rfl,rfl⟩
 refine xV Z43 Y43 u.2 v.2 _ fun h44 f44=>⟨_,rfl,ac9.aB f44,fun e3=>⟨fun e4=> ?_,fun e4=> ?_⟩,fun e3=> ?_⟩
 ·have akq:=ac9.aB f44
  have z44:=f44.size
  simp only[Bool.not_eq_true',decide_eq_false_iff_not,zE]at e3
  simp only[decide_eq_true_eq]at e4
  have ada:=f43.trans f44.aB
  have G44:bL (fun k=>S k/\k<h.size) h44 g aD:=G0.fr ada fun k hk aI=>by omega
  refine kB G44 (Z43.no f44) Wu rfl _ fun z' h45 Z45 f45=>⟨z',_,_,rfl,akq.aB f45,fun h46 f46 aks=> ?_⟩
  have z45:=f45.size
  have adb:=(ada.trans f45.aB).trans (f46.mono fun k _ hk=>by simp[In]at hk;omega)
  have z46:=f46.size
  have G46:bL (fun k=>S k/\k<h.size) h46 g aD:=G0.fr adb fun k hk aI=>by omega
  have Y46:=((Y43.no f44).no f45).fr f46 fun k hk aI=>by simp[In]at aI;rcases hk with hk|hk<;>omega
  refine kB G46 Y46 Wv rfl _ fun y' h47 Y47 f47=>⟨y',_,_,rfl,aks.aB f47,fun h48 f48 ap3=> ?_⟩
  have z47:=f47.size
  have z48:=f48.size
  have hsu:cA aD u≠none:=fun hh=>all (i+1) (by rw[sq,hu];exact hh)
  have hsv:cA aD v≠none:=fun hh=>all (i+(n-m)+1) (by rw[sq,hv];exact hh)
  obtain⟨u',hu'⟩:=Option.ne_none_iff_exists'.1 hsu
  obtain⟨v',hv'⟩:=Option.ne_none_iff_exists'.1 hsv
  rw[hu']at Z45⊢
  rw[hv']at Y47⊢
  simp only[Option.getD_some]at Z45 Y47⊢
  rw[aH _ (by omega) (by omega)]
  refine⟨n3-1,by omega,i+1,u',v',by omega,by omega,by rw[sq,hu];exact hu',by rw[show i+1+(n-m)=i+(n-m)+1 by omega,sq,hv];exact hv',rfl,rfl,?_,?_,fun j hj=>by omega,?_,by omega⟩
  ·have a1:=(Z45.fr f46 fun k hk aI=>by simp[In]at aI;rcases hk with(hk|hk)|hk<;>omega).no f47
   exact(a1.fr f48 fun k hk aI=>by simp[In]at aI;rcases hk with(hk|hk)|hk<;>omega).mono fun k hk=>by rcases hk with hk|hk;exact hk;exact .inr (by omega)
  ·exact(Y47.fr f48 fun k hk aI=>by simp[In]at aI;rcases hk with(hk|hk)|hk<;>omega).mono fun k hk=>by rcases hk with hk|hk;exact hk;exact .inr (by omega)
  ·exact(adb.trans f47.aB).trans (f48.mono fun k _ hk=>by simp[In]at hk;omega)
 ·simp only[Bool.not_eq_true',decide_eq_false_iff_not,zE]at e3
  simp only[decide_eq_false_iff_not]at e4
  exact Gp R HN HS iE (f43.trans f44.aB) hu (.inr ⟨by omega,by omega⟩) ((Z43.no f44).mono fun k hk=>inc hk) (by omega) xZ
 ·simp only[Bool.not_eq_false',decide_eq_true_eq,zE]at e3
  have him:i=m:=by
   by_cases hc:m<i
   ·have:=akp m hc;omega
   ·omega
  exact Gp R HN HS iE (f43.trans f44.aB) hu (.inl him) ((Z43.no f44).mono fun k hk=>inc hk) (by omega) xZ
set_option maxHeartbeats 4000000 in
theorem Jc{S S':Nat->Prop}{h:Heap}{g w:Sl}{aD:List (List Int)}{rs:List Int}{p:Int}(G:bL S h g aD)(H:aP S' h w rs)(W:gu aD (rs,p))(K:Value->Heap->Prop)(HN:(∀m k,sP aD (rs,p) m k->2000<k)->∀h',Fr No h h'->K (.tuple #[VI 0,.agg #[w.v,VI p],VI 0]) h')(HS:∀m k s,sP aD (rs,p) m k->k<=2000->sq aD (rs,p) m=some s->∀t h',aP (fun k=>S' k\/h.size<=k) h' t s.1->Fr No h h'->K (.tuple #[VI m,.agg #[t.v,VI s.2],VI ((k:Int)-m)]) h'):aE Tryz.prog 181 #[.agg #[g.v],.agg #[w.v,VI p]] h K:=by
 refine akf g w p h K ?_
 unfold ac6
 intro b1 b2 b3 h3 dT dC iE f3 cF
 have f3:=f3.aF
 have z3:=f3.size
 have G0:bL (fun k=>S k/\k<h.size) h g aD:=G.xm
 have H0:aP (fun k=>S' k/\k<h.size) h w rs:=cW.lt H
 have PJ:∀{Y:Heap},Fr (fun k=>h.size<=k) h Y->Fr No h Y:=fun f=>f.mono fun k hk aI=>absurd aI (by omega)
 refine⟨fun b4 x1 x2 b5 x3 x4 h'=>x1=w/\x2=p/\x3=w/\x4=p/\h3.size<=b4/\h3.size<=b5/\Fr (fun k=>h.size<=k) h h',⟨fun b15 h31 aaf f31 RG b16 Wb aki f32 akj h33 f33 akk h34 f34 Wc=> ?_,fun b17 h35 aag f35 ab4 b18 h36 akl f36 RI h37 f37 NY h38 f38 akm=> ?_⟩,?_⟩
 ·have:=f31.size
  exact⟨rfl,rfl,rfl,rfl,aaf,by omega,(((f3.aB.trans f31.aF.aB).trans f32.aF.aB).trans (f33.mono fun k _ hk=>by simp[In]at hk;omega)).trans (f34.mono fun k _ hk=>by simp[In]at hk;omega)⟩
 ·have:=f35.size
  exact⟨rfl,rfl,rfl,rfl,by omega,aag,(((f3.aB.trans f35.aF.aB).trans f36.aF.aB).trans (f37.mono fun k _ hk=>by simp[In]at hk;omega)).trans (f38.mono fun k _ hk=>by simp[In]at hk;omega)⟩
 rintro b4 x1 x2 b5 x3 x4 gQ ⟨rfl,rfl,rfl,rfl,Ha,Qx,f12⟩ qk
 have z12:=f12.size
 have l5:b5<gQ.size:=qk.head.lt
 have l4:b4<gQ.size:=qk.tail.head.lt
 have l3:b3<gQ.size:=qk.tail.tail.head.lt
 have H12:aP (fun k=>(S' k/\k<h.size)\/gQ.size<=k) gQ x3 rs:=(H0.fr f12 fun k hk aI=>by omega).mono fun k hk=> .inl hk
 refine⟨fun n met UI x5 x6 x7 x8 h'=>∃(a:Nat)(s t:St),UI=(a:Int)+1/\n+a=2000/\sq aD (rs,x4) a=some s/\sq aD (rs,x4) (2*a)=some t/\x8=s.2/\x6=t.2/\aP (fun k=>(S' k/\k<h.size)\/gQ.size<=k) h' x7 s.1/\aP (fun k=>(S' k/\k<h.size)\/gQ.size<=k) h' x5 t.1/\(met=true->1<=a/\s=t)/\(met=false->∀j,1<=j->j<=a->sq aD (rs,x4) j≠sq aD (rs,x4) (2*j))/\Fr (fun k=>h.size<=k) h h'/\gQ.size<=h'.size,⟨2000,0,(rs,x4),(rs,x4),rfl,rfl,rfl,rfl,rfl,rfl,H12,H12,fun e=>(by cases e),fun _ j h1 h2=>by omega,f12,Nat.le_refl _⟩,?_⟩
 rintro n met UI x5 x6 x7 x8 qE ⟨a,s,t,rfl,en,hs,ht,rfl,rfl,Q13,P13,hm1,hm0,f13,z13⟩ Lq
 have Ws:gu aD s:=nK W hs
 have Wt:gu aD t:=nK W ht
 have bad:∀{X Y:Heap},(∀m k,sP aD (rs,x4) m k->2000<k)->Fr (fun k=>h.size<=k) h X->Fr (In [b3]) X Y->K (.tuple #[VI 0,.agg #[x3.v,VI x4],VI 0]) Y:=fun hN f1 f2=>HN hN _ (PJ (f1.trans (f2.mono fun k _ hk=>by simp[In]at hk;omega)))
 have UW:((!met)=true->∀h':Heap,Fr (In [b3]) qE h'->K (.tuple #[VI 0,.agg #[x3.v,VI x4],VI 0]) h')->zC Tryz.prog met b3 qE b5 x5 t.2 b4 x7 s.2 x3 x4 b2 b1 g K:=PI G H W HN HS ⟨dT,dC,iE,by omega,by omega⟩ f13 met hs Q13 (fun e=>by obtain⟨h1,h2⟩:=hm1 e;exact⟨h1,by rw[hs,ht,h2]⟩) Lq
 rw[aH (2*((a:Int)+1)) (by omega) (by omega)]
 refine⟨fun e=>⟨fun e2=> ?_,fun e2=>UW fun e3=>absurd (e2.symm.trans e3) (by decide)⟩,fun e=>UW fun e2 h53 f53=> ?_⟩
 ·simp only[decide_eq_true_eq]at e
  have hmf:met=false:=by simpa using e2
  have G13:bL (fun k=>S k/\k<h.size) qE g aD:=G0.fr f13 fun k hk aI=>by omega
  refine kB G13 Q13 Ws rfl _ fun y KJ Y14 f14=>⟨y,_,_,rfl,Lq.aB f14,fun b10 WT ab3 f16 Jd=> ?_⟩
  have f16:=f16.aF
  have z14:=f14.size
  have z16:=f16.size
  have TQ:=(f13.trans f14.aB).trans f16.aB
  have G16:bL (fun k=>S k/\k<h.size) WT g aD:=G0.fr TQ fun k hk aI=>by omega
  refine kB G16 ((P13.no f14).no f16) Wt rfl _ fun z h17 Z17 f17=>⟨z,_,_,rfl,Jd.aB f17,fun e3=> ?_,fun e3=>⟨fun e4=> ?_,fun e4 b11 L7 ade f19 zF=> ?_⟩⟩
  ·have hz:sq aD (rs,x4) (a+1)=none:=by
    rw[sq,hs]
    cases h5:cA aD s with
    |none=>exact h5
    |some s'=>rw[h5]at e3;cases e3
   unfold Ea
   exact fun b11 h28 ade f28 L5=>bad (fun m k R=>absurd hz (R.all _)) (TQ.trans f17.aB) f28
  ·have hz:sq aD (rs,x4) (2*a+1)=none:=by
    rw[sq,ht]
    cases h5:cA aD t with
    |none=>exact h5
    |some s'=>rw[h5]at e4;cases e4
   unfold Ea
   exact fun b11 h28 ade f28 L5=>bad (fun m k R=>absurd hz (R.all _)) (TQ.trans f17.aB) f28
  have f19:=f19.aF
  have z17:=f17.size
  have z19:=f19.size
  have aai:=(TQ.trans f17.aB).trans f19.aB
  obtain⟨s',Hl⟩:∃s',cA aD s=some s':=by
   cases h5:cA aD s with
   |none=>rw[h5]at e3;cases e3
   |some s'=>exact⟨s',rfl⟩
  obtain⟨t',ht'⟩:∃t',cA aD t=some t':=by
   cases h5:cA aD t with
   |none=>rw[h5]at e4;cases e4
   |some s'=>exact⟨s',rfl⟩
  have W':=Wt.step ht'
  rw[Hl]at Y14 zF⊢
  rw[ht']at Z17 zF⊢
  simp only[Option.getD_some]at Y14 Z17 zF⊢
  have G19:bL (fun k=>S k/\k<h.size) L7 g aD:=G0.fr aai fun k hk aI=>by omega
  refine kB G19 (Z17.no f19) W' rfl _ fun z2 h21 Z21 f21=>⟨z2,_,_,rfl,zF.aB f21,fun e5 b12 h24 akz f24 aqb=> ?_,fun e5 b12 vv akz f26 tV=> ?_⟩
  ·have hz:sq aD (rs,x4) (2*a+2)=none:=by
    rw[sq,sq,ht]
    show(cA aD t).bind _=none
    rw[ht']
    cases h5:cA aD t' with
    |none=>exact h5
    |some s'=>rw[h5]at e5;cases e5
   exact bad (fun m k R=>absurd hz (R.all _)) (aai.trans f21.aB) f24
  obtain⟨t2,ht2⟩:∃t2,cA aD t'=some t2:=by
   cases h5:cA aD t' with
   |none=>rw[h5]at e5;cases e5
   |some s'=>exact⟨s',rfl⟩
  rw[ht2]at Z21 tV⊢
  simp only[Option.getD_some]at Z21 tV⊢
  have z21:=f21.size
  have z26:=f26.size
  have off:∀k,((S' k/\k<h.size)\/gQ.size<=k)->¬In [b5,b4] k:=fun k hk aI=>by
   simp only[In,List.mem_cons,List.not_mem_nil,or_false]at aI
   rcases hk with hk|hk<;>rcases aI with rfl|rfl<;>omega
  have Y26:aP (fun k=>(S' k/\k<h.size)\/gQ.size<=k) vv y s'.1:=(((((Y14.no f16).no f17).no f19).no f21).mono fun k hk=>by rcases hk with hk|hk;exact hk;exact .inr (by omega)).fr f26 off
  have Z26:aP (fun k=>(S' k/\k<h.size)\/gQ.size<=k) vv z2 t2.1:=(Z21.mono fun k hk=>by rcases hk with(hk|hk)|hk;exact hk;exact .inr (by omega);exact .inr (by omega)).fr f26 off
  have HX:=(aai.trans f21.aB).trans (f26.mono fun k _ hk=>by simp only[In,List.mem_cons,List.not_mem_nil,or_false]at hk;omega)
  refine xV Y26 Z26 s'.2 t2.2 _ fun RE f27=>⟨_,rfl,tV.aB f27,?_⟩
  have z27:=f27.size
  have Wg:sq aD (rs,x4) (a+1)=some s':=by rw[sq,hs];exact Hl
  have ht1:sq aD (rs,x4) (2*(a+1))=some t2:=by
   rw[show 2*(a+1)=2*a+1+1 by omega,sq,sq,ht]
   show((cA aD t).bind _)=_
   rw[ht'];exact ht2
  rw[aH _ (by omega) (by omega)]
  refine⟨n-1,by omega,a+1,s',t2,by omega,by omega,Wg,ht1,rfl,rfl,Y26.no f27,Z26.no f27,fun e6=> ?_,fun e6 j h1 h2=> ?_,HX.trans f27.aB,by omega⟩
  ·simp only[decide_eq_true_eq]at e6
   exact⟨by omega,Prod.ext e6.2 e6.1⟩
  ·simp only[decide_eq_false_iff_not]at e6
   by_cases hj:j<=a
   ·exact hm0 hmf j h1 hj
   ·have:j=a+1:=by omega
    subst this
    rw[Wg,ht1]
    exact fun hh=>by
     have:=Option.some.inj hh
     rw[this]at e6
     exact e6 ⟨rfl,rfl⟩
 ·simp only[decide_eq_false_iff_not]at e
  have hmf:met=false:=by simpa using e2
  have ha:a=2000:=by omega
  refine bad (fun m k R=> ?_) f13 f53
  obtain⟨j,j1,j2,_,j4⟩:=R.meets
  by_cases hc:k<=2000
  ·exact absurd j4 (hm0 hmf j j1 (by omega))
  ·omega
def dW(g:List (List Int))(rs:List Int)(p:Int):Int×Int×Bool:=if eW g rs p then FL g (rs,p)else(0,0,false)
theorem vV{S S':Nat->Prop}{h:Heap}{g w:Sl}{aD:List (List Int)}{rs:List Int}(G:bL S h g aD)(H:aP S' h w rs)(p:Int)(K:Value->Heap->Prop)(HK:∀h',Fr No h h'->K (.tuple #[VI (dW aD rs p).1,VI (dW aD rs p).2.1,VB (dW aD rs p).2.2]) h'):aE Tryz.prog 136 #[.agg #[g.v],.agg #[w.v,VI p]] h K:=by
 unfold dW at HK
 refine afR g w p h K fun b1 b2 h2 dT dC f2 bW=> ?_
 have f2:=f2.aF
 refine fi (G.no f2) (H.no f2) p _ fun h3 f3=>⟨_,rfl,bW.aB f3,fun e=> ?_,fun e=> ?_⟩
 ·simp only[Bool.not_eq_true']at e
  rw[e]at HK
  exact HK h3 (f2.trans f3)
 simp only[Bool.not_eq_false']at e
 rw[if_pos e]at HK
 have W:=cG e
 have gI:=f2.trans f3
 refine Jc (G.no gI) (H.no gI) W _ (fun hN h4 f4=>⟨_,w,p,_,rfl,(bW.aB f3).aB f4,fun _ b3 h6 iE f6 iY=> ?_,fun e1=>by simp at e1⟩) (fun m k s R hk hs t h4 T4 f4=>⟨_,t,s.2,_,rfl,(bW.aB f3).aB f4,fun e1=> ?_,fun _ b3 h6 iE f6 iY=> ?_⟩)
 ·have:=HK h6 ((gI.trans f4).trans f6.aF)
  rw[Kt hN]at this
  exact this
 ·have:=R.lt
  simp only[decide_eq_true_eq]at e1
  omega
 ·have:=HK h6 ((gI.trans f4).trans f6.aF)
  rw[FM R hk]at this
  exact this
theorem Je{S S':Nat->Prop}{h:Heap}{g w:Sl}{aD:List (List Int)}{rs:List Int}(G:bL S h g aD)(H:aP S' h w rs)(p:Int)(K:Value->Heap->Prop)(HK:∀h',Fr No h h'->K (.tuple #[VI (dW aD rs p).1,VI (dW aD rs p).2.1,VB (dW aD rs p).2.2]) h'):aE Tryz.prog 157 #[.agg #[g.v],.agg #[w.v,VI p]] h K:=by
 unfold dW at HK
 refine v157 g w p h K fun b1 b2 h2 dT dC f2 bW=> ?_
 have f2:=f2.aF
 refine sB (G.no f2) (H.no f2) p _ fun h3 f3=>⟨_,rfl,bW.aB f3,fun e=> ?_,fun e=> ?_⟩
 ·simp only[Bool.not_eq_true']at e
  rw[e]at HK
  exact HK h3 (f2.trans f3)
 simp only[Bool.not_eq_false']at e
 rw[if_pos e]at HK
 have gI:=f2.trans f3
 exact Ox (G.no gI) (H.no gI) (cG e) _ fun h4 f4=>⟨_,_,_,rfl,(bW.aB f3).aB f4,HK h4 (gI.trans f4)⟩
theorem kZ{g:List (List Int)}{rs:List Int}(p:Int)(m:Nat):∀k,cR g rs p (m+k)=cR g rs (cR g rs p m) k
 |0=>rfl
 |k+1=>by rw[<-Nat.add_assoc,cR,kZ p m k];rfl
theorem Mj{g:List (List Int)}{rs:List Int}{p:Int}{i d i' d':Nat}(L:vw g rs p i d)(L':vw g rs p i' d'):i=i'/\d=d':=by
 have a1:=L.d1
 have a2:=L'.d1
 have e:i+d=i'+d':=by
  rcases Nat.lt_trichotomy (i+d) (i'+d')with h|h|h
  ·exact absurd L.eq (L'.inj i (i+d) (by omega) h)
  ·exact h
  ·exact absurd L'.eq (L.inj i' (i'+d') (by omega) h)
 have e2:i=i':=by
  rcases Nat.lt_trichotomy i i' with h|h|h
  ·exact absurd (L.eq.trans (by rw[e];exact L'.eq.symm)) (L.inj i i' h (by omega))
  ·exact h
  ·exact absurd (L'.eq.trans (by rw[<-e];exact L.eq.symm)) (L.inj i' i h (by omega))
 exact⟨e2,by omega⟩
noncomputable def QF(g:List (List Int))(rs:List Int)(p:Int):List Int×Bool:=
 @dite _ (0<=cR g rs p g.length/\∃t:Nat×Nat,vw g rs p t.1 t.2) (Classical.propDecidable _) (fun h=>((List.range (Classical.choose h.2).2).map fun r=>cR g rs p ((Classical.choose h.2).1+r),true)) fun _=>([],false)
theorem zG{g:List (List Int)}{rs:List Int}{p:Int}(h:cR g rs p g.length<0):QF g rs p=([],false):=by
 unfold QF
 rw[dif_neg (fun h2=>by have:=h2.1;omega)]
theorem zH{g:List (List Int)}{rs:List Int}{p:Int}(h:0<=cR g rs p g.length){i d:Nat}(L:vw g rs p i d):QF g rs p=((List.range d).map fun r=>cR g rs p (i+r),true):=by
 have h2:0<=cR g rs p g.length/\∃t:Nat×Nat,vw g rs p t.1 t.2:=⟨h,(i,d),L⟩
 unfold QF
 rw[dif_pos h2]
 obtain⟨e1,e2⟩:=Mj L (Classical.choose_spec h2.2)
 rw[<-e1,<-e2]
noncomputable def rG(g:List (List Int))(rs:List Int)(p:Int):List Int×Bool:=if eW g rs p then QF g rs p else([],false)
theorem Jf{S S':Nat->Prop}{h:Heap}{g w:Sl}{aD:List (List Int)}{rs:List Int}{a:Int}(G:bL S h g aD)(H:aP S' h w rs)(W:gu aD (rs,a)){p:Int}(h0:0<=p)(h1:p<(aD.length:Int)){D:Nat}(D1:1<=D)(hD:cR aD rs p D=p)(hDm:D<=aD.length)(hp:0<=cR aD rs p aD.length)(K:Value->Heap->Prop)
 (HS:∀d t h',1<=d->cR aD rs p d=p->(∀j,1<=j->j<d->cR aD rs p j≠p)->aP (fun _=>True) h' t ((List.range d).map fun r=>cR aD rs p r)->Fr No h h'->K t.v h'):aE Tryz.prog 231 #[.agg #[g.v],w.v,VI p] h K:=by
 refine ahQ g w p h K fun b1 h2 dT f2 bW=> ?_
 have f2:=f2.aF
 have l1:b1<h2.size:=bW.head.lt
 have z2:=f2.size
 have RC:=aO W.bE
 refine aQ fy (fun k=>h2.size<=k) (fun _ h=>h) 1 (by omega) [VI p] rfl rfl fun t h4 n4 c4 o4 f4 m4 _=>⟨t,rfl,bW.aB f4,?_⟩
 have z4:=f4.size
 have jR:=f2.aA f4
 refine mu (G.no jR) (H.no jR) W h0 h1 _ fun h5 f5=>⟨_,rfl,(bW.aB f4).aB f5,?_⟩
 have z5:=f5.size
 have qX:=jR.aA f5
 refine⟨fun n x q h'=>∃m,1<=m/\m<=D/\n=D-m/\q=cR aD rs p m/\(∀j,1<=j->j<m->cR aD rs p j≠p)/\bM h' (fun k=>h2.size<=k) x ((List.range m).map fun r=>cR aD rs p r)/\Fr No h h'/\h2.size<=h'.size,⟨D-1,1,Nat.le_refl _,D1,rfl,rfl,fun j a b=>by omega,by show Ow _ _ _ _ _ _;simpa[cR]using Ow.no o4 f5,qX,by omega⟩,?_⟩
 rintro n x q h6 ⟨m,m1,m2,rfl,rfl,mj,o6,f6,z6⟩ iY
 refine⟨fun e=> ?_,fun e=> ?_⟩
 ·have e:=aX e
  simp only[decide_eq_false_iff_not]at e
  have jK:m≠D:=fun h=>e (by rw[h];exact hD)
  refine aQ fy (fun k=>h6.size<=k) (fun _ h=>h) 1 (by omega) [VI (cR aD rs p m)] rfl rfl fun u h7 n7 c7 o7 f7 m7 _=>⟨u,rfl,iY.aB f7,?_⟩
  have z7:=f7.size
  have r7:aP u.own h7 u [cR aD rs p m]:=o7.rd
  have hxn:x.n=m:=by have:=aP.len (Ow.eQ o6:aP _ h6 x _);simpa using this
  have off:∀p,p∈[(b1,[g.v])]->¬(h2.size<=p.1):=fun p hp=>by
   simp only[List.mem_cons,List.not_mem_nil,or_false]at hp
   subst hp
   show¬(h2.size<=b1)
   omega
  refine bQ fy (Ow.no o6 f7) (fun k hk=>by omega) r7 (fc _) (by have:=r7.len;simp at this;omega) fun y h8 n8 o8 f8 d8=>⟨y,rfl,(iY.aB f7).fr f8 (fun p hp hk=>off p hp (o6.aG hk).1),?_⟩
  have z8:=f8.size
  have Bm:Fr No h h8:=(f6.aA f7).fresh f8 fun k hk=>by have:=(o6.aG hk).1;omega
  refine mu (G.no Bm) (H.no Bm) W (xY W h0 h1 hp _) (kM W h0 h1 _).2 _ fun h9 f9=>⟨_,rfl,((iY.aB f7).fr f8 (fun p hp hk=>off p hp (o6.aG hk).1)).aB f9,?_⟩
  have z9:=f9.size
  rw[<-List.map_append]at o8
  refine⟨D-(m+1),by omega,m+1,by omega,by omega,rfl,rfl,fun j a b=> ?_,?_,Bm.aA f9,by omega⟩
  ·by_cases hj:j<m
   ·exact mj j a hj
   ·obtain rfl:j=m:=by omega
    exact e
  ·rw[List.range_succ,List.map_append,List.map_cons,List.map_nil]
   exact Ow.no o8 f9
 ·have e:=aW e
  simp only[decide_eq_true_eq]at e
  exact HS m x h6 m1 e mj ((Ow.eQ o6:aP _ h6 x _).mono fun _ _=>trivial) f6
theorem Ap{S S':Nat->Prop}{h:Heap}{g w:Sl}{aD:List (List Int)}{rs:List Int}{p:Int}(G:bL S h g aD)(H:aP S' h w rs)(W:gu aD (rs,p))(K:Value->Heap->Prop)(HK:∀t h',aP (fun _=>True) h' t (QF aD rs p).1->Fr No h h'->K (.tuple #[t.v,VB (QF aD rs p).2]) h'):aE Tryz.prog 184 #[.agg #[g.v],.agg #[w.v,VI p]] h K:=by
 have h0:0<=p:=W.lo
 have h1:p<(aD.length:Int):=W.hi
 refine agP g w p h K fun b1 b2 h2 dT dC f2 bW=> ?_
 have f2:=f2.aF
 refine Lz (G.no f2) (H.no f2) W h0 h1 _ (fun hn h3 f3=>⟨aC,false,rfl,bW.aB f3,fun _=> ?_,fun e=>by simp at e⟩) fun hn t xs h3 hx r3 f3=>⟨t,true,rfl,bW.aB f3,fun e=>by simp at e,fun _=> ?_⟩
 ·rw[zG hn]at HK
  exact HK aC h3 ((Ow.nil _ _ _ _:bM h3 (fun _=>True) aC []).eQ) (f2.aA f3)
 refine⟨fun n q h'=>∃m,m<=aD.length/\n=aD.length-m/\q=cR aD rs p m/\(∀j,j<m->cR aD rs p j∉xs)/\Fr No h h'/\aP (fun _=>True) h' t xs,⟨aD.length,0,by omega,rfl,rfl,fun j hj=>by omega,f2.aA f3,r3⟩,?_⟩
 rintro n q h4 ⟨m,hm,rfl,rfl,mj,f4,r4⟩ dJ
 refine RJ r4 _ _ ⟨_,rfl,dJ,fun e=> ?_,fun e=> ?_⟩
 ·have e:=aX e
  simp only[decide_eq_false_iff_not]at e
  have JW:m<aD.length:=by
   by_cases hx2:m<aD.length
   ·exact hx2
   ·obtain rfl:m=aD.length:=by omega
    exact absurd ((hx _).2 ⟨_,Nat.le_refl _,rfl⟩) e
  refine mu (G.no f4) (H.no f4) W (xY W h0 h1 hn _) (kM W h0 h1 _).2 _ fun h6 f6=>⟨_,rfl,dJ.aB f6,aD.length-(m+1),by omega,m+1,by omega,rfl,rfl,fun j hj=> ?_,f4.aA f6,r4.no f6⟩
  by_cases H8:j<m
  ·exact mj j H8
  ·obtain rfl:j=m:=by omega
   exact e
 ·have e:=aW e
  simp only[decide_eq_true_eq]at e
  obtain⟨k0,hk0,ek0⟩:=(hx _).1 e
  obtain⟨i9,d9,c1,c2,c3⟩:=sE W h0 h1 hn
  have xZ:cR aD rs p (m+d9)=cR aD rs p m:=by
   have e1:=mr ek0 d9
   have e2:=sD c3 (k0-i9) 1
   rw[show i9+(k0-i9)=k0 by omega,Nat.mul_one]at e2
   rw[<-e1,e2,ek0]
  refine Jf (G.no f4) (H.no f4) W (xY W h0 h1 hn m) (kM W h0 h1 m).2 (D:=d9) c1 (by rw[<-kZ];exact xZ) (by omega) (by rw[<-kZ];exact xY W h0 h1 hn _) _ fun d t2 h7 d1 dd dj r7 f7=>⟨t2,rfl,dJ.aB f7,?_⟩
  have L:vw aD rs p m d:=⟨d1,by rw[kZ];exact dd.symm,fun a b ab bm ee=>by
   by_cases ha:a<m
   ·refine mj a ha ((hx _).2 ⟨a+(b-a)*aD.length,?_,?_⟩)
    ·have:1*aD.length<=(b-a)*aD.length:=Nat.mul_le_mul_right _ (by omega)
     omega
    ·have:=sD (g:=aD) (rs:=rs) (p:=p) (i:=a) (d:=b-a) (by rw[show a+(b-a)=b by omega];exact ee) 0 aD.length
     simpa using this
   ·have e1:=mr ee (m+d-b)
    rw[show b+(m+d-b)=m+d by omega,kZ p m d,dd]at e1
    refine dj (a+(m+d-b)-m) (by omega) (by omega) ?_
    rw[<-kZ,show m+(a+(m+d-b)-m)=a+(m+d-b) by omega]
    exact e1⟩
  rw[zH hn L]at HK
  refine HK t2 h7 ?_ (f4.aA f7)
  simp only[kZ]
  exact r7
theorem uS{S S':Nat->Prop}{h:Heap}{g w:Sl}{aD:List (List Int)}{rs:List Int}(G:bL S h g aD)(H:aP S' h w rs)(p:Int)(K:Value->Heap->Prop)(HK:∀t h',aP (fun _=>True) h' t (rG aD rs p).1->Fr No h h'->K (.tuple #[t.v,VB (rG aD rs p).2]) h'):aE Tryz.prog 159 #[.agg #[g.v],.agg #[w.v,VI p]] h K:=by
 refine v159 g w p h K fun b1 b2 h2 dT dC f2 bW=> ?_
 have f2:=f2.aF
 refine sB (G.no f2) (H.no f2) p _ fun h3 f3=>⟨_,rfl,bW.aB f3,fun e=> ?_,fun e=> ?_⟩
 ·have er:rG aD rs p=([],false):=by unfold rG;rw[if_neg (by rw[aX e];simp)]
  rw[er]at HK
  exact HK aC h3 ((Ow.nil _ _ _ _:bM h3 (fun _=>True) aC []).eQ) (f2.aA f3)
 have e:=aW e
 have W:=cG e
 have er:rG aD rs p=QF aD rs p:=by unfold rG;rw[if_pos e]
 rw[er]at HK
 have gI:=f2.aA f3
 refine CJ (G.no gI) (H.no gI) W W.lo W.hi _ (fun hn h4 f4=>⟨aC,false,rfl,(bW.aB f3).aB f4,?_⟩) fun hn i d t h4 L _ r4 f4=>⟨t,true,rfl,(bW.aB f3).aB f4,?_⟩
 ·rw[zG hn]at HK
  exact HK aC h4 ((Ow.nil _ _ _ _:bM h4 (fun _=>True) aC []).eQ) (gI.aA f4)
 ·rw[zH hn L]at HK
  exact HK t h4 r4 (gI.aA f4)
theorem uT{S S':Nat->Prop}{h:Heap}{g w:Sl}{aD:List (List Int)}{rs:List Int}(G:bL S h g aD)(H:aP S' h w rs)(p:Int)(K:Value->Heap->Prop)(HK:∀t h',aP (fun _=>True) h' t (rG aD rs p).1->Fr No h h'->K (.tuple #[t.v,VB (rG aD rs p).2]) h'):aE Tryz.prog 138 #[.agg #[g.v],.agg #[w.v,VI p]] h K:=by
 refine v138 g w p h K fun b1 b2 h2 dT dC f2 bW=> ?_
 have f2:=f2.aF
 refine fi (G.no f2) (H.no f2) p _ fun h3 f3=>⟨_,rfl,bW.aB f3,fun e=> ?_,fun e=> ?_⟩
 ·have er:rG aD rs p=([],false):=by unfold rG;rw[if_neg (by rw[aX e];simp)]
  rw[er]at HK
  exact HK aC h3 ((Ow.nil _ _ _ _:bM h3 (fun _=>True) aC []).eQ) (f2.aA f3)
 have e:=aW e
 have W:=cG e
 have er:rG aD rs p=QF aD rs p:=by unfold rG;rw[if_pos e]
 rw[er]at HK
 have gI:=f2.aA f3
 exact Ap (G.no gI) (H.no gI) W _ fun t h4 r4 f4=>⟨t,_,rfl,(bW.aB f3).aB f4,HK t h4 r4 (gI.aA f4)⟩
def lF(g:List (List Int))(s:Int):List Int:=(List.range g.length).map fun(i:Nat)=>if(i:Int)=s then 0 else((g.getD i []).length:Int)-1
def pE(g:List (List Int))(s:Int):List Int×Bool:=if oZ g s=true then(lF g s,true)else([],false)
theorem mO(g:List (List Int))(s:Int):(lF g s).length=g.length:=by simp[lF]
theorem uU{g:List (List Int)}{s:Int}{i:Nat}(h:i<g.length):(lF g s)[i]'(by rw[mO];exact h)=if(i:Int)=s then 0 else(g[i].length:Int)-1:=by
 unfold lF
 rw[List.getElem_map,List.getElem_range,aR h]
theorem Gq{g:List (List Int)}{s:Int}(h:oZ g s=true):∀x,x∈lF g s->0<=x/\x<=5:=fun x hx=>by
 obtain⟨i,hi,rfl⟩:=List.getElem_of_mem hx
 have gH:i<g.length:=by rw[<-mO g s];exact hi
 unfold oZ at h
 rw[Bool.and_eq_true,Bool.and_eq_true,aZ]at h
 rw[uU gH]
 split
 ·exact⟨by omega,by omega⟩
 ·rename_i eA
  have:=H9 h.1.2.1 h.2 gH eA (by omega)
  have:=(aT h.1.1 (List.getElem_mem gH)).1
  omega
theorem Jg{S:Nat->Prop}{h:Heap}{g:Sl}{aD:List (List Int)}(G:bL S h g aD)(hg:aM aD=true)(s:Int)(K:Value->Heap->Prop)(HK:∀t h',bM h' (Iv h.size h'.size) t (lF aD s)->Fr No h h'->K t.v h'):aE Tryz.prog 215 #[.agg #[g.v],VI s] h K:=by
 have gl:=aO hg
 have gn:=G.len
 refine ahv g s h K fun b1 h1 dT f1 bF=> ?_
 have f1:=f1.aF
 have z1:=f1.size
 have fl:=mO aD s
 have l1:b1<h1.size:=bF.head.lt
 refine aQ fy (fun k=>h1.size<=k) (fun _ h=>h) 0 (by omega) [] rfl rfl fun o h2 n2 c2 o2 f2 m2 _=>⟨o,rfl,bF.aB f2,?_⟩
 refine⟨fun n x i h'=>0<=i/\i+n=(aD.length:Int)/\bM h' (fun k=>h1.size<=k) x ((lF aD s).take i.toNat)/\Fr (fun k=>h1.size<=k) h1 h',⟨aD.length,by omega,by omega,by show Ow _ _ _ _ _ _;simpa using o2,f2.aB⟩,?_⟩
 rintro n x i h3 ⟨i0,i1,o3,f3⟩ cF
 have F3:Fr No h h3:=f1.fresh f3 fun k hk=>by omega
 have z3:=f3.size
 have G3:=G.no F3
 refine⟨fun e=> ?_,fun e=> ?_⟩
 ·have hi:=G3.lt e
  have wB:i.toNat<aD.length:=by omega
  obtain⟨si,c1,r1⟩:=G3.get i0 hi
  have rn:=r1.len
  have hk:=(aT hg (List.getElem_mem wB)).1
  have ex:=uU (s:=s) wB
  have et:=dY (lF aD s) i0 (by omega)
  have ei:((i.toNat:Nat):Int)=i:=by omega
  refine⟨G3.bB i0 hi,si,c1,fun e2=> ?_,fun e2=> ?_⟩
  ·simp only[decide_eq_true_eq]at e2
   refine mq (F:=fun k=>h1.size<=k) o3 (fun k hk=>by omega) cF (fun p hp=>by simp at hp;subst hp;show¬h1.size<=b1;omega) (by rw[List.length_take];omega) _ fun t h4 o4 f4 dJ=> ?_
   rw[aH _ (by omega) (by omega)]
   refine⟨n-1,by omega,by omega,by omega,?_,f3.trans f4⟩
   rw[et,ex,ei,if_pos e2]
   exact o4
  ·simp only[decide_eq_false_iff_not]at e2
   rw[rn,aH _ (by omega) (by omega),aH _ (by omega) (by omega)]
   refine mq (F:=fun k=>h1.size<=k) o3 (fun k hk=>by omega) cF (fun p hp=>by simp at hp;subst hp;show¬h1.size<=b1;omega) (by rw[List.length_take];omega) _ fun t h4 o4 f4 dJ=> ?_
   refine⟨n-1,by omega,by omega,by omega,?_,f3.trans f4⟩
   rw[et,ex,ei,if_neg e2]
   exact o4
 ·simp only[decide_eq_false_iff_not]at e
  rw[List.take_of_length_le (by omega)]at o3
  exact HK x h3 (o3.mono fun k C7 hk=>⟨by omega,(Ow.aG o3 C7).2⟩) F3
theorem PL{S:Nat->Prop}{h:Heap}{g:Sl}{aD:List (List Int)}(G:bL S h g aD)(hg:aM aD=true)(s:Int)(K:Value->Heap->Prop)(HK:∀t h',bM h' (Iv h.size h'.size) t (lF aD s)->Fr No h h'->K t.v h'):aE Tryz.prog 188 #[.agg #[g.v],VI s] h K:=by
 have gl:=aO hg
 have gn:=G.len
 refine agX g s h K fun b1 h1 dT f1 bF=> ?_
 have f1:=f1.aF
 have z1:=f1.size
 have fl:=mO aD s
 have l1:b1<h1.size:=bF.head.lt
 refine⟨fun n x i h'=>0<=i/\i+n=(aD.length:Int)/\bM h' (fun k=>h1.size<=k) x ((lF aD s).take i.toNat)/\Fr (fun k=>h1.size<=k) h1 h',⟨aD.length,by omega,by omega,Ow.nil _ _ _ _,Fr.refl _ _⟩,?_⟩
 rintro n x i h3 ⟨i0,i1,o3,f3⟩ cF
 have F3:Fr No h h3:=f1.fresh f3 fun k hk=>by omega
 have z3:=f3.size
 have G3:=G.no F3
 refine⟨fun e=> ?_,fun e=> ?_⟩
 ·have hi:=G3.lt e
  have wB:i.toNat<aD.length:=by omega
  obtain⟨si,c1,r1⟩:=G3.get i0 hi
  have rn:=r1.len
  have hk:=(aT hg (List.getElem_mem wB)).1
  have ex:=uU (s:=s) wB
  have et:=dY (lF aD s) i0 (by omega)
  have ei:((i.toNat:Nat):Int)=i:=by omega
  refine⟨G3.bB i0 hi,si,c1,fun y h'=>y=(if i=s then 0 else(aD[i.toNat].length:Int)-1)/\h'=h3,⟨fun e2=> ?_,fun e2=> ?_⟩,?_⟩
  ·simp only[decide_eq_true_eq]at e2
   exact⟨by rw[if_pos e2],rfl⟩
  ·simp only[decide_eq_false_iff_not]at e2
   rw[rn,aH _ (by omega) (by omega),if_neg e2]
   exact⟨rfl,rfl⟩
  rintro y h4 ⟨rfl,rfl⟩ dJ
  refine mq (F:=fun k=>h1.size<=k) o3 (fun k hk=>by omega) cF (fun p hp=>by simp at hp;subst hp;show¬h1.size<=b1;omega) (by rw[List.length_take];omega) _ fun t h5 o5 f5 gr=> ?_
  rw[aH _ (by omega) (by omega)]
  refine⟨n-1,by omega,by omega,by omega,?_,f3.trans f5⟩
  rw[et,ex,ei]
  exact o5
 ·simp only[decide_eq_false_iff_not]at e
  rw[List.take_of_length_le (by omega)]at o3
  exact HK x h3 (o3.mono fun k C7 hk=>⟨by omega,(Ow.aG o3 C7).2⟩) F3
theorem Jh{S:Nat->Prop}{h:Heap}{g:Sl}{aD:List (List Int)}(G:bL S h g aD)(s:Int)(K:Value->Heap->Prop)(HK:∀t h',bM h' (Iv h.size h'.size) t (pE aD s).1->Fr No h h'->K (.tuple #[t.v,VB (pE aD s).2]) h'):aE Tryz.prog 166 #[.agg #[g.v],VI s] h K:=by
 refine agp g s h K fun b1 h1 dT f1 bF=> ?_
 have f1:=f1.aF
 refine LI (G.no f1) s _ fun h2 f2=>⟨_,rfl,bF.aB f2,fun e=> ?_,fun e=> ?_⟩
 ·unfold pE at HK
  rw[if_neg (by simpa using e)]at HK
  exact HK aC h2 (Ow.nil _ _ _ _) (f1.aA f2)
 ·have e':oZ aD s=true:=by simpa using e
  unfold pE at HK
  rw[if_pos e']at HK
  have z:=(f1.aA f2).size
  refine Jg ((G.no f1).no f2) (by unfold oZ at e';rw[Bool.and_eq_true,Bool.and_eq_true]at e';exact e'.1.1) s _ fun t h3 o3 f3=>⟨t,rfl,(bF.aB f2).aB f3,?_⟩
  exact HK t h3 (o3.Qt z (Nat.le_refl _)) ((f1.aA f2).aA f3)
theorem vW{S:Nat->Prop}{h:Heap}{g:Sl}{aD:List (List Int)}(G:bL S h g aD)(s:Int)(K:Value->Heap->Prop)(HK:∀t h',bM h' (Iv h.size h'.size) t (pE aD s).1->Fr No h h'->K (.tuple #[t.v,VB (pE aD s).2]) h'):aE Tryz.prog 140 #[.agg #[g.v],VI s] h K:=by
 refine afX g s h K fun b1 h1 dT f1 bF=> ?_
 have f1:=f1.aF
 refine Od (G.no f1) s _ fun h2 f2=>⟨_,rfl,bF.aB f2,fun e=> ?_,fun e=> ?_⟩
 ·unfold pE at HK
  rw[if_neg (by simpa using e)]at HK
  exact HK aC h2 (Ow.nil _ _ _ _) (f1.aA f2)
 ·have e':oZ aD s=true:=by simpa using e
  unfold pE at HK
  rw[if_pos e']at HK
  have z:=(f1.aA f2).size
  refine PL ((G.no f1).no f2) (by unfold oZ at e';rw[Bool.and_eq_true,Bool.and_eq_true]at e';exact e'.1.1) s _ fun t h3 o3 f3=>⟨t,rfl,(bF.aB f2).aB f3,?_⟩
  exact HK t h3 (o3.Qt z (Nat.le_refl _)) ((f1.aA f2).aA f3)
def ja(b:Nat):Nat->Nat
 |0=>1
 |n+1=>ja b n*b
def bC(b:Nat):Nat->Nat
 |0=>1
 |n+1=>bC b n+ja b (n+1)
theorem td(b:Nat):∀n,bC b (n+1)=b*bC b n+1
 |0=>by simp[bC,ja,Nat.add_comm]
 |n+1=>by
  have e:=td b n
  show bC b (n+1)+ja b (n+1)*b=b*(bC b n+ja b (n+1))+1
  rw[e,Nat.mul_add,Nat.mul_comm _ b]
  omega
theorem fW:∀b,b<4->∀d,d<7->ja b d<=bC b d/\bC b d<=1093:=by decide
def fM(b:Nat)(x:Nat):Nat:=if x=0\/b=0 then 0 else fM b ((x-1)/b)+1
termination_by x
decreasing_by
 rename_i h
 have:=Nat.div_le_self (x-1) b
 omega
theorem mP(b:Nat):fM b 0=0:=by rw[fM];simp
theorem Ji{b x:Nat}(hb:b≠0)(hx:x≠0):fM b x=fM b ((x-1)/b)+1:=by
 rw[fM,if_neg (by omega)]
theorem PN{b x r:Nat}(h1:1<=r)(h2:r<=b):fM b (x*b+r)=fM b x+1:=by
 rw[Ji (by omega) (by omega)]
 congr 2
 rw[show x*b+r-1=(r-1)+x*b by omega,Nat.add_mul_div_right _ _ (by omega),Nat.div_eq_of_lt (by omega),Nat.zero_add]
theorem PO{b:Nat}(hb:b≠0):∀{d x:Nat},x<bC b d->fM b x<=d
 |0,x,h=>by
  have:x=0:=by rw[bC]at h;omega
  subst this
  rw[mP];exact Nat.le_refl _
 |d+1,x,h=>by
  by_cases e:x=0
  ·subst e;rw[mP];exact Nat.zero_le _
  ·rw[Ji hb e]
   have:(x-1)/b<bC b d:=by
    rw[Nat.div_lt_iff_lt_mul (by omega),Nat.mul_comm]
    rw[td]at h
    omega
   have:=PO hb this
   omega
def Mk(f:Nat->Nat)(b:Int):Nat->List Int->Nat
 |_,[]=>0
 |i,r::rs=>f i*(b-r).toNat+Mk f b (i+1) rs
theorem Gr(f:Nat->Nat)(b v:Int):∀(rs:List Int)(i x:Nat)(h:x<rs.length),Mk f b i (rs.set x v)+f (i+x)*(b-rs[x]).toNat=Mk f b i rs+f (i+x)*(b-v).toNat
 |r::rs,i,0,h=>by simp only[List.set_cons_zero,Mk,List.getElem_cons_zero,Nat.add_zero];omega
 |r::rs,i,x+1,h=>by
  have ih:=Gr f b v rs (i+1) x (by simpa using h)
  rw[show i+1+x=i+(x+1) by omega]at ih
  simp only[List.set_cons_succ,Mk,List.getElem_cons_succ]
  omega
def wE(b d:Nat)(a:Int):Nat:=if a<0 then 0 else(b+2)^(d+2)-(b+2)^(d+1-fM b a.toNat)
def Gs(b d:Nat)(rs:List Int)(a:Int):Nat:=Mk (fun x=>(b+2)^(d+1-fM b x)) b 0 rs+wE b d a
def vX(b:Nat)(a r:Int):Int:=if 0<r then a*b+r else if a=0 then-1 else(a-1)/b
def PP(b first:Nat):Nat->List Int->Int->List Int×Int
 |0,rs,a=>(rs,a)
 |n+1,rs,a=>if 0<=a/\a<first then
  PP b first n (rs.set a.toNat ((rs.getD a.toNat 0+1)%(b+1))) (vX b a ((rs.getD a.toNat 0+1)%(b+1)))
  else(rs,a)
theorem KR(b first:Nat)(n:Nat)(rs:List Int)(a:Int)(h:¬(0<=a/\a<first)):PP b first n rs a=(rs,a):=by
 cases n with
 |zero=>rfl
 |succ n=>rw[PP,if_neg h]
theorem PQ{b d:Nat}(hb:0<b){rs:List Int}(hl:rs.length=bC b (d-1))(hd:0<d)(hr:∀r,r∈rs->0<=r/\r<=b){a:Int}(h0:0<=a)(h1:a<bC b (d-1)){r:Int}(e:r=(rs.getD a.toNat 0+1)%(b+1)):
 0<=r/\r<=b/\(∀x,x∈rs.set a.toNat r->0<=x/\x<=b)/\Gs b d (rs.set a.toNat r) (vX b a r)<Gs b d rs a/\fM b a.toNat<d/\
 (0<r->fM b (a*b+r).toNat=fM b a.toNat+1/\0<a*b+r/\a*b+r<=bC b d)/\(¬0<r->a≠0->fM b a.toNat=fM b ((a-1)/b).toNat+1/\0<=(a-1)/b/\(a-1)/b<a):=by
 have ha:a.toNat<rs.length:=by omega
 have eg:rs.getD a.toNat 0=rs[a.toNat]:=by rw[List.getD_eq_getElem?_getD,List.getElem?_eq_getElem ha,Option.getD_some]
 have hq:=hr _ (List.getElem_mem ha)
 rw[eg]at e
 have r0:0<=r:=by rw[e];exact Int.emod_nonneg _ (by omega)
 have r1:r<b+1:=by rw[e];exact Int.emod_lt_of_pos _ (by omega)
 have hm:∀x,x∈rs.set a.toNat r->0<=x/\x<=b:=fun x hx=>by
  rcases List.mem_or_eq_of_mem_set hx with hx|rfl
  ·exact hr x hx
  ·exact⟨r0,by omega⟩
 have lv:fM b a.toNat<d:=by
  have:=PO (b:=b) (by omega) (d:=d-1) (x:=a.toNat) (by omega)
  omega
 have ps:=Gr (fun x=>(b+2)^(d+1-fM b x)) b r rs 0 a.toNat ha
 simp only[Nat.zero_add]at ps
 obtain⟨A,hA⟩:∃A:Nat,a=A:=⟨a.toNat,by omega⟩
 obtain⟨R,hR⟩:∃R:Nat,r=R:=⟨r.toNat,by omega⟩
 have Wl:0<r->fM b (a*b+r).toNat=fM b a.toNat+1/\0<a*b+r/\a*b+r<=bC b d:=fun h=>by
  have e1:a*b+r=((A*b+R:Nat):Int):=by rw[hA,hR];simp
  rw[e1]
  refine⟨?_,by omega,?_⟩
  ·rw[Int.toNat_natCast,PN (by omega) (by omega),hA,Int.toNat_natCast]
  ·have e2:bC b d=b*bC b (d-1)+1:=by rw[<-td,Nat.sub_add_cancel hd]
   have:A+1<=bC b (d-1):=by omega
   have:=Nat.mul_le_mul_left b this
   have e3:b*(A+1)=A*b+b:=by rw[Nat.mul_add,Nat.mul_one,Nat.mul_comm]
   omega
 have hup:¬0<r->a≠0->fM b a.toNat=fM b ((a-1)/b).toNat+1/\0<=(a-1)/b/\(a-1)/b<a:=fun h eA=>by
  have e1:(a-1)/b=(((A-1)/b:Nat):Int):=by rw[hA,show(A:Int)-1=((A-1:Nat):Int) by omega];exact(Int.natCast_ediv _ _).symm
  rw[e1,Int.toNat_natCast,show a.toNat=A by omega]
  have:=Nat.div_le_self (A-1) b
  have hl:=Ji (b:=b) (x:=A) (by omega) (by omega)
  generalize (A-1)/b=q at*
  exact⟨hl,by omega,by omega⟩
 refine⟨r0,by omega,hm,?_,lv,Wl,hup⟩
 have W:∀k,k<=d+1->(b+2)^(k+1)=(b+2)^k*b+2*(b+2)^k:=fun k _=>by rw[Nat.pow_succ,Nat.mul_add,Nat.mul_comm 2]
 have P:∀k,0<(b+2)^k:=fun k=>Nat.pow_pos (by omega)
 have M:∀k,k<=d+2->(b+2)^k<=(b+2)^(d+2):=fun k hk=>Nat.pow_le_pow_right (by omega) hk
 unfold Gs
 by_cases h:0<r
 ·obtain⟨g1,g2,g3⟩:=Wl h
  have er:r=rs[a.toNat]+1:=by
   by_cases hh:rs[a.toNat]=b
   ·rw[hh,Int.emod_self]at e;omega
   ·rw[e,Int.emod_eq_of_lt (by omega) (by omega)]
  have e4:(b-rs[a.toNat]:Int).toNat=(b-r:Int).toNat+1:=by omega
  rw[e4,Nat.mul_add,Nat.mul_one]at ps
  have:wE b d (vX b a r)=(b+2)^(d+2)-(b+2)^(d+1-(fM b a.toNat+1)):=by
   unfold vX wE
   rw[if_pos h,if_neg (by omega),g1]
  have w0:wE b d a=(b+2)^(d+2)-(b+2)^(d+1-fM b a.toNat):=by unfold wE;rw[if_neg (by omega)]
  have m1:=M (d+1-fM b a.toNat) (by omega)
  have m2:=M (d+1-(fM b a.toNat+1)) (by omega)
  have p1:=P (d+1-(fM b a.toNat+1))
  rw[this,w0]
  omega
 ·have er:rs[a.toNat]=b:=by
   by_cases hh:rs[a.toNat]=b
   ·exact hh
   ·rw[Int.emod_eq_of_lt (by omega) (by omega)]at e;omega
  have e4:(b-rs[a.toNat]:Int).toNat=0:=by omega
  have e5:(b-r:Int).toNat=b:=by omega
  rw[e4,e5,Nat.mul_zero]at ps
  have w0:wE b d a=(b+2)^(d+2)-(b+2)^(d+1-fM b a.toNat):=by unfold wE;rw[if_neg (by omega)]
  have q1:=P (d+1-fM b a.toNat)
  by_cases ha0:a=0
  ·have:wE b d (vX b a r)=0:=by unfold vX wE;rw[if_neg h,if_pos ha0,if_pos (by omega)]
   rw[this,w0]
   have l0:fM b a.toNat=0:=by rw[ha0];exact mP b
   have w1:(b+2)^(d+2)=_:=W (d+1) (by omega)
   rw[l0]at ps q1⊢
   rw[Nat.sub_zero]at ps q1⊢
   omega
  ·obtain⟨g1,g2,g3⟩:=hup h ha0
   have:wE b d (vX b a r)=(b+2)^(d+2)-(b+2)^(d+1-fM b a.toNat+1):=by
    unfold vX wE
    rw[if_neg h,if_neg ha0,if_neg (by omega),show d+1-fM b ((a-1)/b).toNat=d+1-fM b a.toNat+1 by omega]
   rw[this,w0]
   have w1:=W (d+1-fM b a.toNat) (by omega)
   have m1:=M (d+1-fM b a.toNat+1) (by omega)
   omega
def UX(b d:Nat)(rs:List Int):List Int×Int:=PP b (bC b (d-1)) (Gs b d rs 0) rs 0
def nL(b d:Nat):Nat->List Int->List Int×List Int
 |0,rs=>(rs,[])
 |n+1,rs=>((UX b d (nL b d n rs).1).1,(nL b d n rs).2++[if(UX b d (nL b d n rs).1).2= -1 then 0 else 1])
def qt(b d k n:Int):Bool:=decide (2<=b/\b<=3/\1<=d/\d<=6)&&decide ((bC b.toNat d.toNat:Int)<=130)&&decide (0<=k/\k<=b/\0<=n/\n<=200)
def zI(b d k n:Int):Int×Bool:=if qt b d k n=true then((nL b.toNat d.toNat n.toNat (List.replicate (bC b.toNat (d.toNat-1)) k)).2.sum,true)else(0,false)
def Dj(a b:Sl):Prop:=∀k,a.own k->¬b.own k
structure li(lo:Nat)(h:Heap)(b1:Nat)(f3 f4 f5 f6:Sl)(rs es ts vs:List Int):Prop where
 r:bM h (fun k=>lo<=k) f3 rs
 e:bM h (fun k=>lo<=k) f4 es
 t:bM h (fun k=>lo<=k) f5 ts
 v:bM h (fun k=>lo<=k) f6 vs
 re:Dj f3 f4
 rt:Dj f3 f5
 rv:Dj f3 f6
 et:Dj f4 f5
 ev:Dj f4 f6
 tv:Dj f5 f6
 nr:¬f3.own b1
 ne:¬f4.own b1
 nt:¬f5.own b1
 nv:¬f6.own b1
 lb:lo<=b1
 hb:b1<h.size
theorem Dj.symm{a b:Sl}(H:Dj a b):Dj b a:=fun k hb ha=>H k ha hb
theorem li.PR{lo:Nat}{h:Heap}{b1:Nat}{f3 f4 f5 f6:Sl}{rs es ts vs:List Int}(S:li lo h b1 f3 f4 f5 f6 rs es ts vs):li lo h b1 f3 f5 f4 f6 rs ts es vs:=⟨S.r,S.t,S.e,S.v,S.rt,S.re,S.rv,S.et.symm,S.tv,S.ev,S.nr,S.nt,S.ne,S.nv,S.lb,S.hb⟩
theorem li.iR{lo:Nat}{h:Heap}{b1:Nat}{f3 f4 f5 f6:Sl}{rs es ts vs:List Int}(S:li lo h b1 f3 f4 f5 f6 rs es ts vs):li lo h b1 f4 f3 f5 f6 es rs ts vs:=⟨S.e,S.r,S.t,S.v,S.re.symm,S.et,S.ev,S.rt,S.rv,S.tv,S.ne,S.nr,S.nt,S.nv,S.lb,S.hb⟩
theorem li.pF{lo:Nat}{h:Heap}{b1:Nat}{f3 f4 f5 f6:Sl}{rs es ts vs:List Int}(S:li lo h b1 f3 f4 f5 f6 rs es ts vs):li lo h b1 f6 f4 f5 f3 vs es ts rs:=⟨S.v,S.e,S.t,S.r,S.ev.symm,S.tv.symm,S.rv.symm,S.et,S.re.symm,S.rt.symm,S.nv,S.ne,S.nt,S.nr,S.lb,S.hb⟩
theorem li.no{lo:Nat}{h h':Heap}{b1:Nat}{f3 f4 f5 f6:Sl}{rs es ts vs:List Int}(S:li lo h b1 f3 f4 f5 f6 rs es ts vs)(f:Fr No h h'):li lo h' b1 f3 f4 f5 f6 rs es ts vs:=⟨Ow.no S.r f,Ow.no S.e f,Ow.no S.t f,Ow.no S.v f,S.re,S.rt,S.rv,S.et,S.ev,S.tv,S.nr,S.ne,S.nt,S.nv,S.lb,Nat.lt_of_lt_of_le S.hb f.size⟩
theorem li.box{lo:Nat}{h h':Heap}{b1:Nat}{f3 f4 f5 f6:Sl}{rs es ts vs:List Int}(S:li lo h b1 f3 f4 f5 f6 rs es ts vs)(f:Fr (fun k=>k=b1) h h'):li lo h' b1 f3 f4 f5 f6 rs es ts vs:=⟨Ow.fr S.r f fun k hk e=>S.nr (e▸hk),Ow.fr S.e f fun k hk e=>S.ne (e▸hk),Ow.fr S.t f fun k hk e=>S.nt (e▸hk),Ow.fr S.v f fun k hk e=>S.nv (e▸hk),S.re,S.rt,S.rv,S.et,S.ev,S.tv,S.nr,S.ne,S.nt,S.nv,S.lb,Nat.lt_of_lt_of_le S.hb f.size⟩
theorem li.Ml{lo:Nat}{h h':Heap}{b1:Nat}{f3 f4 f5 f6:Sl}{rs es ts vs:List Int}(S:li lo h b1 f3 f4 f5 f6 rs es ts vs){B:List Nat}(f:Fr (In B) h h')(hB:∀b,b∈B->b=b1):li lo h' b1 f3 f4 f5 f6 rs es ts vs:=S.box (f.mono fun k _ hk=>hB k hk)
theorem li.Gt{lo:Nat}{h:Heap}{b1:Nat}{f3 f4 f5 f6:Sl}{rs es ts vs:List Int}(S:li lo h b1 f3 f4 f5 f6 rs es ts vs){i:Int}(h0:0<=i)(h1:i<(rs.length:Int))(v:Int):
 dS f3 i/\aS h (f3.at i 1)=some (VI (rs.getD i.toNat 0))/\dU h (f3.at i 1)/\li lo (Mx.cL h (f3.at i 1) (VI v)) b1 f3 f4 f5 f6 (rs.set i.toNat v) es ts vs/\Fr f3.own h (Mx.cL h (f3.at i 1) (VI v)):=by
 have hn:f3.n=rs.length:=by have:=S.r.rd.len;simpa using this.symm
 obtain⟨w1,w2,w3⟩:=S.r.eX h0 (by omega) (VI v)
 have R:aP f3.own h f3 rs:=S.r.rd
 have eg:rs.getD i.toNat 0=rs[i.toNat]'(by omega):=by rw[List.getD_eq_getElem?_getD,List.getElem?_eq_getElem (by omega),Option.getD_some]
 refine⟨R.bB h0 h1,by rw[eg];exact R.get h0 h1,w1,⟨?_,S.e.fr w3 fun k hk aI=>S.re k aI hk,S.t.fr w3 fun k hk aI=>S.rt k aI hk,S.v.fr w3 fun k hk aI=>S.rv k aI hk,S.re,S.rt,S.rv,S.et,S.ev,S.tv,S.nr,S.ne,S.nt,S.nv,S.lb,Nat.lt_of_lt_of_le S.hb w3.size⟩,w3⟩
 show Ow _ _ _ _ _ _
 rw[<-List.map_set]at w2
 exact w2
theorem li.Ec{lo:Nat}{h:Heap}{b1:Nat}{f3 f4 f5 f6:Sl}{rs es ts vs:List Int}(S:li lo h b1 f3 f4 f5 f6 rs es ts vs)(wv:lo<=h.size){T:Nat->Prop}{x:Sl}{v:Int}(X:aP T h x [v])(hn:rs.length<=1000){K:Value->Heap->Prop}
 (HK:∀t h',li lo h' b1 t f4 f5 f6 (rs++[v]) es ts vs->Fr f3.own h h'->(∀k,t.own k->f3.own k\/h.size<=k)->K t.v h'):jU Tryz.prog (bP qD qD qD f3.v x.v) h K:=by
 have h3:f3.n=rs.length:=by have:=S.r.rd.len;simpa using this.symm
 have hx:x.n=1:=by have:=X.len;simpa using this
 refine bQ fy S.r (fun k hk=>by omega) X (fc _) (by omega) fun t h' n' o' f' w'=>HK t h' ?_ f' w'
 have dj:∀{s:Sl}{l:List Int},bM h (fun k=>lo<=k) s l->Dj f3 s->Dj t s:=fun O D k hk hs=>by
  rcases w' k hk with hk|hk
  ·exact D k hk hs
  ·have:=(O.aG hs).2;omega
 refine⟨by show Ow _ _ _ _ _ _;rw[List.map_append];exact o',S.e.fr f' fun k hk aI=>S.re k aI hk,S.t.fr f' fun k hk aI=>S.rt k aI hk,S.v.fr f' fun k hk aI=>S.rv k aI hk,dj S.e S.re,dj S.t S.rt,dj S.v S.rv,S.et,S.ev,S.tv,fun hk=> ?_,S.ne,S.nt,S.nv,S.lb,Nat.lt_of_lt_of_le S.hb f'.size⟩
 rcases w' _ hk with hk|hk
 ·exact S.nr hk
 ·have:=S.hb;omega
theorem fO{h:Heap}(v:Int){K:Value->Heap->Prop}(HK:∀x h',bM h' (fun k=>h.size<=k) x [v]->Fr No h h'->K x.v h'):jU Tryz.prog (Instr.buildSlice qD 1 #[(0,VI v)]) h K:=
 aQ fy (fun k=>h.size<=k) (fun _ h=>h) 1 (by omega) [VI v] rfl rfl fun x h' n c o f m _=>HK x h' (by show Ow _ _ _ _ _ _;simpa using o) f
theorem Gu{b d:Nat}(hb:0<b)(hd:0<d):∀(n:Nat){rs:List Int}{a:Int},rs.length=bC b (d-1)->(∀r,r∈rs->0<=r/\r<=(b:Int))->(PP b (bC b (d-1)) n rs a).1.length=bC b (d-1)/\∀r,r∈(PP b (bC b (d-1)) n rs a).1->0<=r/\r<=(b:Int)
 |0,rs,a,hl,hr=>⟨hl,hr⟩
 |n+1,rs,a,hl,hr=>by
  rw[PP]
  by_cases h:0<=a/\a<(bC b (d-1):Nat)
  ·rw[if_pos h]
   obtain⟨_,_,s3,_⟩:=PQ hb hl hd hr h.1 h.2 rfl
   exact Gu hb hd n (by rw[List.length_set];exact hl) s3
  ·rw[if_neg h]
   exact⟨hl,hr⟩
theorem tf(b:Nat):∀d,1<=bC b d
 |0=>Nat.le_refl _
 |d+1=>by rw[bC];have:=tf b d;omega
theorem uV{b d:Nat}(hb:b<4)(hd:d<7){h:Heap}(K:Value->Heap->Prop)(HK:K (VI (bC b d)) h):aE Tryz.prog 268 #[VI b,VI d] h K:=by
 refine aiz b d h K ⟨fun n all lev i h'=>∃j:Nat,i=j/\n+j=d/\all=(bC b j:Nat)/\lev=(ja b j:Nat)/\h'=h,⟨d,0,rfl,by omega,rfl,rfl,rfl⟩,?_⟩
 rintro n all lev i h' ⟨j,rfl,hn,rfl,rfl,rfl⟩ hL
 have hs:=fW b hb j (by omega)
 refine⟨fun e=> ?_,fun e=> ?_⟩
 ·simp only[decide_eq_true_eq]at e
  have hs2:=fW b hb (j+1) (by omega)
  have e1:((ja b j:Nat):Int)*(b:Int)=((ja b (j+1):Nat):Int):=by rw[ja];simp
  have e2:bC b (j+1)=bC b j+ja b (j+1):=rfl
  rw[e1,aH ((ja b (j+1):Nat):Int) (by omega) (by omega),aH _ (by omega) (by omega),aH _ (by omega) (by omega)]
  exact⟨n-1,by omega,j+1,by omega,by omega,by omega,rfl,rfl⟩
 ·simp only[decide_eq_false_iff_not]at e
  have:j=d:=by omega
  subst this
  exact HK
theorem Aq{h:Heap}(b d:Int)(K:Value->Heap->Prop)(HK:K (VB (decide (2<=b/\b<=3/\1<=d/\d<=6)&&decide ((bC b.toNat d.toNat:Int)<=130))) h):aE Tryz.prog 266 #[VI b,VI d] h K:=by
 refine aiv b d h K (eJ _ _ _ h _ ⟨_,rfl,.nil,fun e=> ?_,fun e=> ?_⟩)
 ·have e:=aZ.1 e
  refine eJ _ _ _ h _ ⟨_,rfl,.nil,fun e2=> ?_,fun e2=> ?_⟩
  ·have e2:=aZ.1 e2
   obtain⟨B,rfl⟩:∃B:Nat,b=B:=⟨b.toNat,by omega⟩
   obtain⟨D,rfl⟩:∃D:Nat,d=D:=⟨d.toNat,by omega⟩
   refine uV (by omega) (by omega) _ ⟨_,rfl,.nil,?_⟩
   rw[decide_eq_true (show 2<=(B:Int)/\(B:Int)<=3/\1<=(D:Int)/\(D:Int)<=6 by omega),Bool.true_and]at HK
   exact HK
  ·rw[decide_eq_false (show¬(2<=b/\b<=3/\1<=d/\d<=6)from fun h=>by simp at e2;omega),Bool.false_and]at HK
   exact HK
 ·rw[decide_eq_false (show¬(2<=b/\b<=3/\1<=d/\d<=6)from fun h=>by simp at e;omega),Bool.false_and]at HK
  exact HK
theorem li.toT{lo:Nat}{h:Heap}{b1:Nat}{f3 f4 f5 f6:Sl}{rs es ts vs:List Int}(S:li lo h b1 f3 f4 f5 f6 rs es ts vs):li lo h b1 f5 f3 f4 f6 ts rs es vs:=S.PR.iR
theorem li.ofT{lo:Nat}{h:Heap}{b1:Nat}{f3 f4 f5 f6:Sl}{rs es ts vs:List Int}(S:li lo h b1 f5 f3 f4 f6 ts rs es vs):li lo h b1 f3 f4 f5 f6 rs es ts vs:=S.iR.PR
theorem gN{h h':Heap}{b1:Nat}{cs:List Value}{T:Nat->Prop}(hL:Vars h [(b1,cs)])(f:Fr T h h')(hT:¬T b1):Vars h' [(b1,cs)]:=hL.fr f fun p hp=>by
 simp only[List.mem_singleton]at hp
 subst hp
 exact hT
def UY(b d lo:Nat)(h2:Heap)(b1:Nat)(f3 f4 f5 f6:Sl)(rs es ts:List Int)(sp:Prop)(n:Nat)(a lv:Int)(h':Heap):Prop:=
 ∃sQ pP,Gs b d sQ a<=n/\PP b (bC b (d-1)) n sQ a=UX b d rs/\sQ.length=bC b (d-1)/\(∀r,r∈sQ->0<=r/\r<=(b:Int))/\pP.length=d+1/\li lo h' b1 f3 f4 f5 f6 sQ es ts pP/\Fr (fun k=>lo<=k) h2 h'/\ -1<=a/\a<=(bC b d:Int)/\(0<=a->lv=(fM b a.toNat:Int))/\(sp->a<0->lv<0)
theorem PS{b first n:Nat}{rs:List Int}{a:Int}{R:List Int×Int}{ph:Nat}(hn:ph<n)(h0:0<=a)(h1:a<(first:Int))(H:PP b first n rs a=R):PP b first (n-1) (rs.set a.toNat ((rs.getD a.toNat 0+1)%((b:Int)+1))) (vX b a ((rs.getD a.toNat 0+1)%((b:Int)+1)))=R:=by
 obtain⟨m,rfl⟩:∃m,n=m+1:=⟨n-1,by omega⟩
 rw[PP,if_pos ⟨h0,h1⟩]at H
 exact H
def Ar(b d:Nat)(rs:List Int):Int:=if(UX b d rs).2= -1 then 0 else 1
set_option maxHeartbeats 4000000 in
theorem TR{b d:Nat}(hb:2<=b/\b<=3)(hd:1<=d/\d<=6){lo:Nat}{h:Heap}(wv:lo<=h.size){b1:Nat}{f3 f4 f5 f6:Sl}{rs es ts vs:List Int}(hL:Vars h [(b1,[VI b,VI d,f3.v,f4.v,f5.v,f6.v])])(S:li lo h b1 f3 f4 f5 f6 rs es ts vs)(hl:rs.length=bC b (d-1))(hr:∀r,r∈rs->0<=r/\r<=(b:Int))(hv:vs.length=d+1)(he:es.length<=300)(ht:ts.length<=300)(K:Value->Heap->Prop)
 (HK:∀h' t u ws pP,Vars h' [(b1,[VI b,VI d,f3.v,t.v,u.v,f6.v])]->li lo h' b1 f3 t u f6 (UX b d rs).1 (es++[Ar b d rs]) ws pP->ws.length=ts.length+1->pP.length=d+1->Fr (fun k=>lo<=k) h h'->K (.tuple #[]) h'):aE Tryz.prog 269 #[VP b1 0] h K:=by
 have hs:=fW b (by omega) d (by omega)
 have Wg:=fW b (by omega) (d-1) (by omega)
 refine aiA b1 b d f3 f4 f5 f6 h K hL ?_
 unfold abO pk
 rw[show aL ((d:Int)-1)=((d-1:Nat):Int)from by rw[aH _ (by omega) (by omega)];omega]
 refine uV (by omega) (by omega) _ ⟨_,rfl,hL,?_⟩
 obtain⟨a1,a2,a3,S1,f1⟩:=S.pF.Gt (i:=0) (by omega) (by omega) (aL (vs.getD (0:Int).toNat 0+1))
 refine⟨a1,_,a2,a1,a3,gN hL f1 S.nv,fun h2 e2 bW=> ?_⟩
 subst e2
 have S1:=S1.pF
 have F1:Fr (fun k=>lo<=k) h _:=f1.mono fun k _ hk=>(S.v.aG hk).1
 refine⟨fun n a lv st h'=>UY b d lo _ b1 f3 f4 f5 f6 rs es ts False n a lv h',⟨Gs b d rs 0,rs,_,Nat.le_refl _,rfl,hl,hr,by rw[List.length_set];exact hv,S1,Fr.refl _ _,by omega,by omega,fun _=>by simp[mP],fun h=>h.elim⟩,?_⟩
 rintro n a lv st h3 ⟨sQ,pP,i1,i2,i3,i4,i5,S3,VV,i6,i7,i8,_⟩ cF
 refine⟨fun e1=>⟨fun e2=> ?_,fun e2=> ?_⟩,fun e1=> ?_⟩
 ·simp only[decide_eq_true_eq,Bool.not_eq_true',decide_eq_false_iff_not]at e1 e2
  have h0:0<=a:=by omega
  obtain⟨r,CF⟩:∃r,r=(sQ.getD a.toNat 0+1)%((b:Int)+1):=⟨_,rfl⟩
  obtain⟨s0,s1,s3,s4,s5,s6,s7⟩:=PQ (by omega) i3 (by omega) i4 h0 e2 CF
  have hq:0<=sQ.getD a.toNat 0/\sQ.getD a.toNat 0<=b:=by
   have hi:a.toNat<sQ.length:=by omega
   have:sQ.getD a.toNat 0=sQ[a.toNat]:=by rw[List.getD_eq_getElem?_getD,List.getElem?_eq_getElem hi,Option.getD_some]
   rw[this];exact i4 _ (List.getElem_mem hi)
  have ev:Int.tmod (aL (sQ.getD a.toNat 0+1)) (aL ((b:Int)+1))=r:=by
   rw[aH _ (by omega) (by omega),aH _ (by omega) (by omega),Int.tmod_eq_emod_of_nonneg (by omega),CF]
  obtain⟨c1,c2,c3,S4,f4'⟩:=S3.Gt h0 (by omega) r
  refine⟨c1,_,c2,by rw[aH _ (by omega) (by omega)];omega,c1,?_⟩
  rw[ev]
  refine⟨c3,gN cF f4' S3.nr,fun h4 e4 dJ=> ?_⟩
  subst e4
  have G:=PS (Nat.lt_of_lt_of_le s4 i1) h0 e2 i2
  rw[<-CF]at G
  obtain⟨d1,d2,_,_,_⟩:=S4.Gt h0 (by rw[List.length_set];omega) 0
  have eg:(sQ.set a.toNat r).getD a.toNat 0=r:=by
   rw[List.getD_eq_getElem?_getD,List.getElem?_set_self (by omega),Option.getD_some]
  rw[eg]at d2
  have F4:Fr (fun k=>lo<=k) _ _:=VV.trans (f4'.mono fun k _ hk=>(S3.r.aG hk).1)
  have l1:=i8 h0
  refine⟨fun x1 x2 h'=>x1=vX b a r/\ -1<=x1/\x1<=(bC b d:Int)/\(0<=x1->x2=(fM b x1.toNat:Int)/\x2<=d)/\h'=Mx.cL h3 (f3.at a 1) (VI r),⟨d1,r,d2,fun e3=> ?_,fun e3=>⟨fun e5=> ?_,fun e5=> ?_⟩⟩,?_⟩
  ·simp only[decide_eq_true_eq]at e3
   obtain⟨t1,t2,t3⟩:=s6 e3
   have hab:0<=a*(b:Int):=Int.mul_nonneg h0 (by omega)
   have PT:vX b a r=a*b+r:=by unfold vX;rw[if_pos e3]
   rw[PT]
   generalize a*(b:Int)=q at*
   rw[aH q (by omega) (by omega),aH (q+r) (by omega) (by omega),aH (lv+1) (by omega) (by omega)]
   exact⟨rfl,by omega,by omega,fun _=>⟨by rw[t1];omega,by omega⟩,rfl⟩
  ·simp only[decide_eq_true_eq,decide_eq_false_iff_not]at e3 e5
   have PT:vX b a r= -1:=by unfold vX;rw[if_neg e3,if_pos e5]
   rw[PT]
   exact⟨rfl,by omega,by omega,fun h=>by omega,rfl⟩
  ·simp only[decide_eq_false_iff_not]at e3 e5
   obtain⟨t1,t2,t3⟩:=s7 e3 e5
   have PT:vX b a r=(a-1)/b:=by unfold vX;rw[if_neg e3,if_neg e5]
   rw[PT,aH (a-1) (by omega) (by omega),Int.tdiv_eq_ediv_of_nonneg (by omega),aH (lv-1) (by omega) (by omega),aH _ (by omega) (by omega)]
   exact⟨by omega,rfl,by omega,by omega,fun _=>⟨by omega,by omega⟩,rfl⟩
  rintro x1 x2 h5 ⟨rfl,x3,x4,x5,rfl⟩ gr
  refine⟨fun e3=> ?_,fun e3=> ?_⟩
  ·simp only[Bool.not_eq_true',decide_eq_false_iff_not]at e3
   obtain⟨y1,y2⟩:=x5 (by omega)
   obtain⟨g1,g2,g3,S5,f5'⟩:=S4.pF.Gt (i:=x2) (by omega) (by omega) (aL (pP.getD x2.toNat 0+1))
   refine⟨g1,_,g2,g1,g3,gN gr f5' S4.nv,fun h6 e6 iY=> ?_⟩
   subst e6
   exact⟨n-1,by omega,_,_,by omega,G,by rw[List.length_set];exact i3,s3,by rw[List.length_set];exact i5,S5.pF,F4.trans (f5'.mono fun k _ hk=>(S4.v.aG hk).1),x3,x4,fun h=>(x5 h).1,fun h=>h.elim⟩
  ·simp only[Bool.not_eq_false',decide_eq_true_eq]at e3
   exact⟨n-1,by omega,_,_,by omega,G,by rw[List.length_set];exact i3,s3,i5,S4,F4,x3,x4,fun h=>by omega,fun h=>h.elim⟩
 all_goals
  have aak:¬(0<=a/\a<(bC b (d-1):Int)):=by
   first
   |(simp only[decide_eq_false_iff_not]at e2;omega)
   |(simp only[Bool.not_eq_false',decide_eq_true_eq]at e1;omega)
  rw[KR _ _ _ _ _ aak]at i2
  have p1:=tf b (d-1)
  have eE:Ar b d rs=if a= -1 then 0 else 1:=by unfold Ar;rw[<-i2]
  have eR:(UX b d rs).1=sQ:=by rw[<-i2]
  have z3:lo<=h3.size:=Nat.le_of_lt (Nat.lt_of_le_of_lt S3.lb S3.hb)
  have F3:=F1.trans VV
  have fin:∀h' t u,Vars h' [(b1,[VI b,VI d,f3.v,t.v,u.v,f6.v])]->li lo h' b1 f3 t u f6 sQ (es++[Ar b d rs]) (ts++[st]) pP->Fr (fun k=>lo<=k) h3 h'->K (.tuple #[]) h':=fun h' t u V S' f=>HK h' t u _ _ V (by rw[eR];exact S') (by simp) i5 (F3.trans f)
  refine⟨fun x h'=>x=Ar b d rs/\h'=h3,⟨fun e=>⟨by simp only[decide_eq_true_eq]at e;rw[eE,if_pos e],rfl⟩,fun e=>⟨by simp only[decide_eq_false_iff_not]at e;rw[eE,if_neg e],rfl⟩⟩,?_⟩
  rintro x _ ⟨rfl,rfl⟩ dJ
  have box:∀{X Y:Heap},Fr (In [b1,b1]) X Y->Fr (fun k=>lo<=k) X Y:=fun f=>f.mono fun k _ hk=>by simp[In]at hk;have:=S3.lb;omega
  refine⟨?_,?_⟩
  ·refine fO _ fun x5 h5 o5 f5=>⟨x5,rfl,dJ.aB f5,?_⟩
   have S5:=S3.no f5
   have z5:=f5.size
   refine⟨?_,?_⟩
   ·refine S5.iR.Ec (by omega) o5.rd (by omega) fun t h6 S6 f6 w6=>⟨t,rfl,gN (dJ.aB f5) f6 S5.ne,?_⟩
    have z6:=f6.size
    refine fO _ fun x7 h7 o7 f7=>⟨x7,rfl,(gN (dJ.aB f5) f6 S5.ne).aB f7,?_⟩
    have S7:=S6.iR.no f7
    have z7:=f7.size
    refine S7.toT.Ec (by omega) o7.rd (by omega) fun u h8 S8 f8 w8=>⟨u,rfl,gN ((gN (dJ.aB f5) f6 S5.ne).aB f7) f8 S7.nt,fun h9 f9 fS=> ?_⟩
    refine fin h9 t u fS (S8.ofT.Ml f9 (by simp)) ((((f5.aB.trans (f6.mono fun k _ hk=>(S5.e.aG hk).1)).trans f7.aB).trans (f8.mono fun k _ hk=>(S7.t.aG hk).1)).trans (box f9))
   ·refine fO _ fun x7 h7 o7 f7=>⟨x7,rfl,(dJ.aB f5).aB f7,?_⟩
    have z7:=f7.size
    have S7:=S5.no f7
    refine S7.iR.Ec (by omega) (Ow.no o5 f7).rd (by omega) fun t h6 S6 f6 w6=>⟨t,rfl,gN ((dJ.aB f5).aB f7) f6 S7.ne,?_⟩
    have z6:=f6.size
    have o6:=Ow.fr o7 f6 fun k hk aI=>by have h1:=(o7.aG hk).1;have h2:=(S5.e.aG aI).2;omega
    refine S6.iR.toT.Ec (by omega) o6.rd (by omega) fun u h8 S8 f8 w8=>⟨u,rfl,gN (gN ((dJ.aB f5).aB f7) f6 S7.ne) f8 S6.iR.nt,fun h9 f9 fS=> ?_⟩
    refine fin h9 t u fS (S8.ofT.Ml f9 (by simp)) ((((f5.aB.trans f7.aB).trans (f6.mono fun k _ hk=>(S7.e.aG hk).1)).trans (f8.mono fun k _ hk=>(S6.iR.t.aG hk).1)).trans (box f9))
  ·refine fO _ fun x7 h7 o7 f7=>⟨x7,rfl,dJ.aB f7,?_⟩
   have z7:=f7.size
   refine fO _ fun x5 h5 o5 f5=>⟨x5,rfl,(dJ.aB f7).aB f5,?_⟩
   have z5:=f5.size
   have S5:=(S3.no f7).no f5
   refine S5.iR.Ec (by omega) o5.rd (by omega) fun t h6 S6 f6 w6=>⟨t,rfl,gN ((dJ.aB f7).aB f5) f6 S5.ne,?_⟩
   have z6:=f6.size
   have o6:=Ow.fr (Ow.no o7 f5) f6 fun k hk aI=>by have h1:=(o7.aG hk).1;have h2:=(S3.e.aG aI).2;omega
   refine S6.iR.toT.Ec (by omega) o6.rd (by omega) fun u h8 S8 f8 w8=>⟨u,rfl,gN (gN ((dJ.aB f7).aB f5) f6 S5.ne) f8 S6.iR.nt,fun h9 f9 fS=> ?_⟩
   refine fin h9 t u fS (S8.ofT.Ml f9 (by simp)) ((((f7.aB.trans f5.aB).trans (f6.mono fun k _ hk=>(S5.e.aG hk).1)).trans (f8.mono fun k _ hk=>(S6.iR.t.aG hk).1)).trans (box f9))
set_option maxHeartbeats 4000000 in
theorem TS{b d:Nat}(hb:2<=b/\b<=3)(hd:1<=d/\d<=6){lo:Nat}{h:Heap}(wv:lo<=h.size){b1:Nat}{f3 f4 f5 f6:Sl}{rs es ts vs:List Int}(hL:Vars h [(b1,[VI b,VI d,VI (bC b (d-1):Nat),f3.v,f4.v,f5.v,f6.v])])(S:li lo h b1 f3 f4 f5 f6 rs es ts vs)(hl:rs.length=bC b (d-1))(hr:∀r,r∈rs->0<=r/\r<=(b:Int))(hv:vs.length=d+1)(he:es.length<=300)(ht:ts.length<=300)(K:Value->Heap->Prop)
 (HK:∀h' t u ws pP,Vars h' [(b1,[VI b,VI d,VI (bC b (d-1):Nat),f3.v,t.v,u.v,f6.v])]->li lo h' b1 f3 t u f6 (UX b d rs).1 (es++[Ar b d rs]) ws pP->ws.length=ts.length+1->pP.length=d+1->Fr (fun k=>lo<=k) h h'->K (.tuple #[]) h'):aE Tryz.prog 240 #[VP b1 0] h K:=by
 have hs:=fW b (by omega) d (by omega)
 have Wg:=fW b (by omega) (d-1) (by omega)
 refine ah3 b1 b d (bC b (d-1):Nat) f3 f4 f5 f6 h K hL ?_
 unfold abM pk
 obtain⟨a1,a2,a3,S1,f1⟩:=S.pF.Gt (i:=0) (by omega) (by omega) (aL (vs.getD (0:Int).toNat 0+1))
 refine⟨a1,_,a2,a1,a3,gN hL f1 S.nv,fun h2 e2 bW=> ?_⟩
 subst e2
 have S1:=S1.pF
 have F1:Fr (fun k=>lo<=k) h _:=f1.mono fun k _ hk=>(S.v.aG hk).1
 refine⟨fun n a lv st h'=>UY b d lo _ b1 f3 f4 f5 f6 rs es ts True n a lv h',⟨Gs b d rs 0,rs,_,Nat.le_refl _,rfl,hl,hr,by rw[List.length_set];exact hv,S1,Fr.refl _ _,by omega,by omega,fun _=>by simp[mP],fun _ h=>by omega⟩,?_⟩
 rintro n a lv st h3 ⟨sQ,pP,i1,i2,i3,i4,i5,S3,VV,i6,i7,i8,i9⟩ cF
 refine⟨fun e1=>⟨fun e2=> ?_,fun e2=> ?_⟩,fun e1=> ?_⟩
 ·simp only[decide_eq_true_eq]at e1 e2
  have h0:0<=a:=e1
  obtain⟨r,CF⟩:∃r,r=(sQ.getD a.toNat 0+1)%((b:Int)+1):=⟨_,rfl⟩
  obtain⟨s0,s1,s3,s4,s5,s6,s7⟩:=PQ (by omega) i3 (by omega) i4 h0 e2 CF
  have hq:0<=sQ.getD a.toNat 0/\sQ.getD a.toNat 0<=b:=by
   have hi:a.toNat<sQ.length:=by omega
   have:sQ.getD a.toNat 0=sQ[a.toNat]:=by rw[List.getD_eq_getElem?_getD,List.getElem?_eq_getElem hi,Option.getD_some]
   rw[this];exact i4 _ (List.getElem_mem hi)
  have ev:Int.tmod (aL (sQ.getD a.toNat 0+1)) (aL ((b:Int)+1))=r:=by
   rw[aH _ (by omega) (by omega),aH _ (by omega) (by omega),Int.tmod_eq_emod_of_nonneg (by omega),CF]
  obtain⟨c1,c2,c3,S4,f4'⟩:=S3.Gt h0 (by omega) r
  refine⟨c1,_,c2,by rw[aH _ (by omega) (by omega)];omega,c1,?_⟩
  rw[ev]
  refine⟨c3,gN cF f4' S3.nr,fun h4 e4 dJ=> ?_⟩
  subst e4
  have G:=PS (Nat.lt_of_lt_of_le s4 i1) h0 e2 i2
  rw[<-CF]at G
  obtain⟨d1,d2,_,_,_⟩:=S4.Gt h0 (by rw[List.length_set];omega) 0
  have eg:(sQ.set a.toNat r).getD a.toNat 0=r:=by
   rw[List.getD_eq_getElem?_getD,List.getElem?_set_self (by omega),Option.getD_some]
  rw[eg]at d2
  have F4:Fr (fun k=>lo<=k) _ _:=VV.trans (f4'.mono fun k _ hk=>(S3.r.aG hk).1)
  have l1:=i8 h0
  refine⟨fun x1 x2 h'=>x1=vX b a r/\ -1<=x1/\x1<=(bC b d:Int)/\(0<=x1->x2=(fM b x1.toNat:Int)/\x2<=d)/\(x1<0->x2<0)/\h'=Mx.cL h3 (f3.at a 1) (VI r),⟨d1,r,d2,fun e3=> ?_,fun e3=>⟨fun e5=> ?_,fun e5=> ?_⟩⟩,?_⟩
  ·simp only[decide_eq_true_eq]at e3
   obtain⟨t1,t2,t3⟩:=s6 e3
   have hab:0<=a*(b:Int):=Int.mul_nonneg h0 (by omega)
   have PT:vX b a r=a*b+r:=by unfold vX;rw[if_pos e3]
   rw[PT]
   generalize a*(b:Int)=q at*
   rw[aH q (by omega) (by omega),aH (q+r) (by omega) (by omega),aH (lv+1) (by omega) (by omega)]
   exact⟨rfl,by omega,by omega,fun _=>⟨by rw[t1];omega,by omega⟩,fun h=>by omega,rfl⟩
  ·simp only[decide_eq_true_eq,decide_eq_false_iff_not]at e3 e5
   have PT:vX b a r= -1:=by unfold vX;rw[if_neg e3,if_pos e5]
   have l0:fM b a.toNat=0:=by rw[e5];exact mP b
   rw[PT,aH (lv-1) (by omega) (by omega)]
   exact⟨rfl,by omega,by omega,fun h=>by omega,fun _=>by omega,rfl⟩
  ·simp only[decide_eq_false_iff_not]at e3 e5
   obtain⟨t1,t2,t3⟩:=s7 e3 e5
   have PT:vX b a r=(a-1)/b:=by unfold vX;rw[if_neg e3,if_neg e5]
   rw[PT,aH (a-1) (by omega) (by omega),Int.tdiv_eq_ediv_of_nonneg (by omega),aH (lv-1) (by omega) (by omega),aH _ (by omega) (by omega)]
   exact⟨by omega,rfl,by omega,by omega,fun _=>⟨by omega,by omega⟩,fun h=>by omega,rfl⟩
  rintro x1 x2 h5 ⟨rfl,x3,x4,x5,x6,rfl⟩ gr
  refine⟨fun e3=> ?_,fun e3=> ?_⟩
  ·simp only[decide_eq_true_eq]at e3
   have Ob:0<=vX b a r:=by
    by_cases hh:0<=vX b a r
    ·exact hh
    ·have:=x6 (by omega);omega
   obtain⟨y1,y2⟩:=x5 Ob
   obtain⟨g1,g2,g3,S5,f5'⟩:=S4.pF.Gt (i:=x2) (by omega) (by omega) (aL (pP.getD x2.toNat 0+1))
   refine⟨g1,_,g2,g1,g3,gN gr f5' S4.nv,fun h6 e6 iY=> ?_⟩
   subst e6
   exact⟨n-1,by omega,_,_,by omega,G,by rw[List.length_set];exact i3,s3,by rw[List.length_set];exact i5,S5.pF,F4.trans (f5'.mono fun k _ hk=>(S4.v.aG hk).1),x3,x4,fun h=>(x5 h).1,fun _=>x6⟩
  ·simp only[decide_eq_false_iff_not]at e3
   exact⟨n-1,by omega,_,_,by omega,G,by rw[List.length_set];exact i3,s3,i5,S4,F4,x3,x4,fun h=>by have:=x5 h;omega,fun _=>x6⟩
 all_goals
  have aak:¬(0<=a/\a<(bC b (d-1):Int)):=by
   first
   |(simp only[decide_eq_false_iff_not]at e2;omega)
   |(simp only[decide_eq_false_iff_not]at e1;omega)
  rw[KR _ _ _ _ _ aak]at i2
  have p1:=tf b (d-1)
  have eE:Ar b d rs=if a= -1 then 0 else 1:=by unfold Ar;rw[<-i2]
  have eR:(UX b d rs).1=sQ:=by rw[<-i2]
  have z3:lo<=h3.size:=Nat.le_of_lt (Nat.lt_of_le_of_lt S3.lb S3.hb)
  have F3:=F1.trans VV
  have fin:∀h' t u,Vars h' [(b1,[VI b,VI d,VI (bC b (d-1):Nat),f3.v,t.v,u.v,f6.v])]->li lo h' b1 f3 t u f6 sQ (es++[Ar b d rs]) (ts++[st]) pP->Fr (fun k=>lo<=k) h3 h'->K (.tuple #[]) h':=fun h' t u V S' f=>HK h' t u _ _ V (by rw[eR];exact S') (by simp) i5 (F3.trans f)
  refine⟨fun x h'=>x=Ar b d rs/\h'=h3,⟨fun e=>⟨by simp only[decide_eq_true_eq]at e;rw[eE,if_neg (by omega)],rfl⟩,fun e=>⟨by simp only[decide_eq_false_iff_not]at e;rw[eE,if_pos (by omega)],rfl⟩⟩,?_⟩
  rintro x _ ⟨rfl,rfl⟩ dJ
  have box:∀{X Y:Heap},Fr (In [b1]) X Y->Fr (fun k=>lo<=k) X Y:=fun f=>f.mono fun k _ hk=>by simp[In]at hk;have:=S3.lb;omega
  refine fO _ fun x5 h5 o5 f5=>⟨x5,rfl,dJ.aB f5,?_⟩
  have S5:=S3.no f5
  have z5:=f5.size
  refine S5.iR.Ec (by omega) o5.rd (by omega) fun t h6 S6 f6 w6=>⟨t,rfl,gN (dJ.aB f5) f6 S5.ne,fun h7 f7 jC=> ?_⟩
  have z6:=f6.size
  have z7:=f7.size
  have S7:=S6.iR.Ml f7 (by simp)
  refine fO _ fun x8 h8 o8 f8=>⟨x8,rfl,jC.aB f8,?_⟩
  have z8:=f8.size
  have S8:=S7.no f8
  refine S8.toT.Ec (by omega) o8.rd (by omega) fun u h9 S9 f9 w9=>⟨u,rfl,gN (jC.aB f8) f9 S8.nt,fun dV f10 dN=> ?_⟩
  exact fin dV t u dN (S9.ofT.Ml f10 (by simp)) (((((f5.aB.trans (f6.mono fun k _ hk=>(S5.e.aG hk).1)).trans (box f7)).trans f8.aB).trans (f9.mono fun k _ hk=>(S8.t.aG hk).1)).trans (box f10))
theorem UZ{S:Nat->Prop}{h:Heap}{s:Sl}{xs:List Int}(H:aP S h s xs)(hb:∀x,x∈xs->0<=x/\x<=20)(hn:xs.length<=1000)(K:Value->Heap->Prop)(HK:K (VI xs.sum) h):aE Tryz.prog 172 #[s.v] h K:=by
 refine agy s h K ⟨fun n t i h'=>h'=h/\0<=i/\i+n=(xs.length:Int)/\t=(xs.take i.toNat).sum/\0<=t/\t<=20*i,⟨xs.length,rfl,by omega,by omega,by simp,by omega,by omega⟩,?_⟩
 rintro n t i _ ⟨rfl,i0,i1,e1,t0,t1⟩ hL
 refine⟨fun e=> ?_,fun e=> ?_⟩
 ·have hi:=H.lt e
  have hx:=hb _ (List.getElem_mem (show i.toNat<xs.length by omega))
  refine⟨H.bB i0 hi,_,H.get i0 hi,?_⟩
  rw[H.succ i0 hi,aH _ (by omega) (by omega)]
  refine⟨n-1,by omega,rfl,by omega,by omega,?_,by omega,by omega⟩
  rw[dY xs i0 hi,List.sum_append,e1]
  simp
 ·have hi:=H.ge e
  rw[List.take_of_length_le (by omega)]at e1
  rw[e1]
  exact HK
theorem TT{S:Nat->Prop}{h:Heap}{s:Sl}{xs:List Int}(H:aP S h s xs)(hb:∀x,x∈xs->0<=x/\x<=20)(hn:xs.length<=1000)(K:Value->Heap->Prop)(HK:K (VI xs.sum) h):aE Tryz.prog 190 #[s.v] h K:=by
 refine ag1 s h K ⟨fun n t i h'=>h'=h/\0<=i/\i+n=(xs.length:Int)/\t=(xs.take i.toNat).sum/\0<=t/\t<=20*i,⟨xs.length,rfl,by omega,by omega,by simp,by omega,by omega⟩,?_⟩
 rintro n t i _ ⟨rfl,i0,i1,e1,t0,t1⟩ hL
 refine⟨fun e=> ?_,fun e=> ?_⟩
 ·have hi:=H.lt e
  have hx:=hb _ (List.getElem_mem (show i.toNat<xs.length by omega))
  refine⟨H.bB i0 hi,_,H.get i0 hi,?_⟩
  rw[H.succ i0 hi,aH _ (by omega) (by omega)]
  refine⟨n-1,by omega,rfl,by omega,by omega,?_,by omega,by omega⟩
  rw[dY xs i0 hi,List.sum_append,e1]
  simp
 ·have hi:=H.ge e
  rw[List.take_of_length_le (by omega)]at e1
  rw[e1]
  exact HK
theorem p5{b d:Nat}(hb:0<b)(hd:0<d):∀(n:Nat){rs:List Int},rs.length=bC b (d-1)->(∀r,r∈rs->0<=r/\r<=(b:Int))->(nL b d n rs).1.length=bC b (d-1)/\(∀r,r∈(nL b d n rs).1->0<=r/\r<=(b:Int))/\(nL b d n rs).2.length=n/\∀x,x∈(nL b d n rs).2->0<=x/\x<=1
 |0,rs,hl,hr=>⟨hl,hr,rfl,fun x hx=>by simp[nL]at hx⟩
 |n+1,rs,hl,hr=>by
  obtain⟨a1,a2,a3,a4⟩:=p5 hb hd n hl hr
  obtain⟨b1,b2⟩:=Gu hb hd (Gs b d (nL b d n rs).1 0) (a:=0) a1 a2
  refine⟨b1,b2,by simp[nL,a3],fun x hx=> ?_⟩
  simp only[nL,List.mem_append,List.mem_singleton]at hx
  rcases hx with hx|rfl
  ·exact a4 x hx
  ·split<;>omega
theorem wO{b d k n:Int}(h:qt b d k n=true):∃B D N:Nat,b=B/\d=D/\n=N/\(2<=B/\B<=3)/\(1<=D/\D<=6)/\bC B D<=130/\(0<=k/\k<=B)/\N<=200:=by
 unfold qt at h
 simp only[Bool.and_eq_true,decide_eq_true_eq]at h
 obtain⟨⟨h1,h2⟩,h3⟩:=h
 exact⟨b.toNat,d.toNat,n.toNat,by omega,by omega,by omega,by omega,by omega,by omega,by omega,by omega⟩
theorem mQ{b k:Int}{m:Nat}(h:0<=k/\k<=b):∀r,r∈List.replicate m k->0<=r/\r<=b:=fun r hr=>by rw[List.eq_of_mem_replicate hr];exact h
theorem Gv{b d:Nat}(hb:2<=b)(hd:1<=d)(h:bC b d<=130):bC b (d-1)<=100:=by
 have e:bC b d=b*bC b (d-1)+1:=by rw[<-td,Nat.sub_add_cancel hd]
 have:=Nat.mul_le_mul_right (bC b (d-1)) hb
 omega
theorem iS{h:Heap}{n:Int}{m:Nat}(e:n=m)(hm:m<=100000){K:Value->Heap->Prop}(HK:∀x h',bM h' (fun k=>h.size<=k) x (List.replicate m 0)->Fr No h h'->K x.v h'):jU Tryz.prog (Instr.makeSlice qD (VI n) (VI n)) h K:=by
 subst e
 refine eB fy (fun k=>_<=k) (fun _ h=>h) .i64 .i64 m m (Nat.le_refl _) (by omega) fun t h2 n2 c2 o2 f2 m2 _=>HK t h2 ?_ f2
 have e:(List.replicate m [VI 0]).flatten=(List.replicate m (0:Int)).map VI:=by simp[List.flatten_replicate_singleton]
 show Ow _ _ _ _ _ _
 rw[e]at o2;exact o2
set_option maxHeartbeats 4000000 in
theorem Jj{h:Heap}(b d k n:Int)(K:Value->Heap->Prop)(HN:qt b d k n=false->K (.tuple #[.pointer none,VB false]) h)
 (HY:qt b d k n=true->∀b1 h' f3 f4 f5 f6,Vars h' [(b1,[VI b,VI d,Sl.v f3,Sl.v f4,Sl.v f5,Sl.v f6])]->bM h' (fun k=>h.size<=k) f4 (nL b.toNat d.toNat n.toNat (List.replicate (bC b.toNat (d.toNat-1)) k)).2->Fr No h h'->K (.tuple #[VP b1 0,VB true]) h'):aE Tryz.prog 221 #[VI b,VI d,VI k,VI n] h K:=by
 refine ahG b d k n h K (Aq b d _ ⟨_,rfl,.nil,fun e=>HN ?_,fun e=> ?_⟩)
 ·unfold qt
  rw[Bool.not_eq_true']at e
  rw[e,Bool.false_and]
 simp only[Bool.not_eq_false',Bool.and_eq_true,decide_eq_true_eq]at e
 refine eJ _ _ _ h _ ⟨_,rfl,.nil,fun e2=>HN ?_,fun e2=> ?_⟩
 ·unfold qt
  rw[decide_eq_false (p:=0<=k/\k<=b/\0<=n/\n<=200) (fun h=>by simp at e2;omega),Bool.and_false]
 have e2:0<=k/\k<=b:=by simpa using e2
 refine eJ _ _ _ h _ ⟨_,rfl,.nil,fun e3=>HN ?_,fun e3=> ?_⟩
 ·unfold qt
  rw[decide_eq_false (p:=0<=k/\k<=b/\0<=n/\n<=200) (fun h=>by simp at e3;omega),Bool.and_false]
 have e3:0<=n/\n<=200:=by simpa using e3
 have ha:qt b d k n=true:=by unfold qt;simp only[Bool.and_eq_true,decide_eq_true_eq];omega
 replace HY:=HY ha
 obtain⟨B,D,N,rfl,rfl,rfl,q1,q2,q3,q4,q5⟩:=wO ha
 simp only[Int.toNat_natCast]at HY
 have hi:=Gv q1.1 q2.1 q3
 have hp:=tf B (D-1)
 have ed:aL ((D:Int)-1)=((D-1:Nat):Int):=by rw[aH _ (by omega) (by omega)];omega
 have ev:aL ((D:Int)+1)=((D+1:Nat):Int):=by rw[aH _ (by omega) (by omega)];omega
 have U0:∀{X:Heap}{K:Value->Heap->Prop},K (VI (bC B (D-1):Nat)) X->aE Tryz.prog 268 #[VI B,VI (aL ((D:Int)-1))] X K:=fun H=>by rw[ed];exact uV (by omega) (by omega) _ H
 have key:∀{J:Nat->Int->Int->Sl->Sl->Sl->Sl->Heap->Prop},(∀{X:Heap}{r v:Sl},Fr No h X->bM X (fun k=>h.size<=k) r (List.replicate (bC B (D-1)) k)->bM X (fun k=>h.size<=k) v (List.replicate (D+1) 0)->Dj r v->∀b1 h',X.size<=b1->Fr (In []) X h'->Vars h' [(b1,[VI B,VI D,r.v,aC.v,aC.v,v.v])]->J b1 B D r aC aC v h')->
  (∀{X:Heap}{x:Sl}{T:Nat->Prop},Fr No h X->aP T X x [k]->aE Tryz.prog 267 #[x.v,VI (bC B (D-1):Nat)] X fun rv h6=>∃t:Sl,rv=t.v/\Vars h6 []/\jU Tryz.prog (Instr.makeSlice qD (VI (aL ((D:Int)+1))) (VI (aL ((D:Int)+1)))) h6 fun rv h7=>∃t2:Sl,rv=t2.v/\Vars h7 []/\∀b2 h8,h7.size<=b2->Fr (In []) h7 h8->Vars h8 [(b2,[VI B,VI D,t.v,aC.v,aC.v,t2.v])]->J b2 B D t aC aC t2 h8)/\
  (∀{X:Heap}{x v:Sl}{T:Nat->Prop},Fr No h X->aP T X x [k]->bM X (fun k=>h.size<=k) v (List.replicate (D+1) 0)->aE Tryz.prog 267 #[x.v,VI (bC B (D-1):Nat)] X fun rv h6=>∃t:Sl,rv=t.v/\Vars h6 []/\∀b2 h8,h6.size<=b2->Fr (In []) h6 h8->Vars h8 [(b2,[VI B,VI D,t.v,aC.v,aC.v,v.v])]->J b2 B D t aC aC v h8):=by
  intro J fin
  refine⟨fun fX X0=> ?_,fun fX X0 V0=> ?_⟩
  ·have zX:=fX.size
   refine ya k X0 _ hp hi _ fun r h6 o6 f6=>⟨r,rfl,.nil,iS ev (by omega) fun v h7 o7 f7=>⟨v,rfl,.nil,fin ((fX.aA f6).aA f7) ((Ow.no o6 f7).mono fun k _ hk=>by have:=hk.1;omega) (o7.mono fun k _ hk=>by have:=f6.size;omega) fun k hk aI=> ?_⟩⟩
   have h1:=(o6.aG hk).1
   have h2:=(o7.aG aI).1
   unfold Iv at h1
   omega
  ·have zX:=fX.size
   refine ya k X0 _ hp hi _ fun r h6 o6 f6=>⟨r,rfl,.nil,fin (fX.aA f6) (o6.mono fun k _ hk=>by have:=hk.1;omega) (Ow.no V0 f6) fun k hk aI=> ?_⟩
   have h1:=(o6.aG hk).1
   have h2:=(V0.aG aI).2
   unfold Iv at h1
   omega
 refine⟨fun b1 x1 x2 x3 x4 x5 x6 h'=>x1=(B:Int)/\x2=(D:Int)/\x4=aC/\x5=aC/\li h.size h' b1 x3 aC aC x6 (List.replicate (bC B (D-1)) k) [] [] (List.replicate (D+1) 0)/\Fr No h h',?_,?_⟩
 ·obtain⟨RM,MR⟩:=key (J:=fun b1 x1 x2 x3 x4 x5 x6 h'=>x1=(B:Int)/\x2=(D:Int)/\x4=aC/\x5=aC/\li h.size h' b1 x3 aC aC x6 (List.replicate (bC B (D-1)) k) [] [] (List.replicate (D+1) 0)/\Fr No h h') fun{X r v} fX r0 v0 dj b1 h' hb f V=>by
   have f:=f.aF
   have zX:=fX.size
   exact⟨rfl,rfl,rfl,rfl,⟨Ow.no r0 f,Ow.nil _ _ _ _,Ow.nil _ _ _ _,Ow.no v0 f,fun k _ h=>cX k h,fun k _ h=>cX k h,dj,fun k h=>absurd h (cX k),fun k h=>absurd h (cX k),fun k h=>absurd h (cX k),fun hk=>by have:=(r0.aG hk).2;omega,cX _,cX _,fun hk=>by have:=(v0.aG hk).2;omega,by omega,V.head.lt⟩,fX.aA f⟩
  have up:∀{X Y:Heap}{v:Sl},Fr No h X->bM Y (fun k=>X.size<=k) v (List.replicate (D+1) 0)->bM Y (fun k=>h.size<=k) v (List.replicate (D+1) 0):=fun f o=>o.mono fun k _ hk=>by have:=f.size;omega
  have r0:=Fr.refl No h
  refine⟨?_,?_,?_⟩
  ·refine fO _ fun x h4 o4 f4=>⟨x,rfl,.nil,U0 ⟨_,rfl,.nil,RM f4 o4.rd,iS ev (by omega) fun v h9 o9 f9=>⟨v,rfl,.nil,MR (f4.aA f9) (Ow.no o4 f9).rd (up f4 o9)⟩⟩,iS ev (by omega) fun v h9 o9 f9=>⟨v,rfl,.nil,U0 ⟨_,rfl,.nil,MR (f4.aA f9) (Ow.no o4 f9).rd (up f4 o9)⟩⟩⟩
  ·refine U0 ⟨_,rfl,.nil,fO _ fun x h4 o4 f4=>⟨x,rfl,.nil,RM f4 o4.rd,iS ev (by omega) fun v h9 o9 f9=>⟨v,rfl,.nil,MR (f4.aA f9) (Ow.no o4 f9).rd (up f4 o9)⟩⟩,iS ev (by omega) fun v h9 o9 f9=>⟨v,rfl,.nil,fO _ fun x h4 o4 f4=>⟨x,rfl,.nil,MR (f9.aA f4) o4.rd (up r0 (Ow.no o9 f4))⟩⟩⟩
  ·refine iS ev (by omega) fun v h9 o9 f9=>⟨v,rfl,.nil,fO _ fun x h4 o4 f4=>⟨x,rfl,.nil,U0 ⟨_,rfl,.nil,MR (f9.aA f4) o4.rd (up r0 (Ow.no o9 f4))⟩⟩,U0 ⟨_,rfl,.nil,fO _ fun x h4 o4 f4=>⟨x,rfl,.nil,MR (f9.aA f4) o4.rd (up r0 (Ow.no o9 f4))⟩⟩⟩
 rintro b1 _ _ f3 _ _ f6 h3 ⟨rfl,rfl,rfl,rfl,S3,F3⟩ cF
 have hrr:=mQ (m:=bC B (D-1)) q4
 refine⟨fun m i x1 x2 x3 x4 x5 x6 h'=>∃(j:Nat)(ts vs:List Int),i=j/\m+j=N/\x1=(B:Int)/\x2=(D:Int)/\li h.size h' b1 x3 x4 x5 x6 (nL B D j (List.replicate (bC B (D-1)) k)).1 (nL B D j (List.replicate (bC B (D-1)) k)).2 ts vs/\ts.length=j/\vs.length=D+1/\Fr (fun k=>h.size<=k) h h',⟨N,0,[],_,rfl,by omega,rfl,rfl,S3,rfl,by simp,F3.aB⟩,?_⟩
 rintro m i _ _ x3 x4 x5 x6 h4 ⟨j,ts,vs,rfl,hm,rfl,rfl,S4,t4,v4,F4⟩ dJ
 obtain⟨c1,c2,c3,c4⟩:=p5 (b:=B) (d:=D) (by omega) (by omega) j (rs:=List.replicate (bC B (D-1)) k) (by simp) hrr
 refine⟨fun e4=> ?_,fun e4=> ?_⟩
 ·simp only[decide_eq_true_eq]at e4
  refine TR q1 q2 (by have:=S4.lb;have:=S4.hb;omega) dJ S4 c1 c2 v4 (by omega) (by omega) _ fun h5 t u ws pP V5 S5 l5 l6 f5=>⟨_,_,_,_,_,_,V5,m-1,by omega,j+1,ws,pP,?_,by omega,rfl,rfl,S5,by omega,l6,F4.trans f5⟩
  rw[aH _ (by omega) (by omega)];omega
 ·simp only[decide_eq_false_iff_not]at e4
  have:j=N:=by omega
  subst this
  exact HY b1 h4 x3 x4 x5 x6 dJ S4.e (F4.mono fun k hk aI=>absurd aI (by omega))
theorem Ed{h:Heap}(b d k n:Int)(K:Value->Heap->Prop)(HN:qt b d k n=false->K (.tuple #[aC.v,VB false]) h)
 (HY:qt b d k n=true->∀t h',bM h' (fun k=>h.size<=k) t (nL b.toNat d.toNat n.toNat (List.replicate (bC b.toNat (d.toNat-1)) k)).2->Fr No h h'->K (.tuple #[t.v,VB true]) h'):aE Tryz.prog 171 #[VI b,VI d,VI k,VI n] h K:=by
 refine v171 b d k n h K (Jj b d k n _ (fun e=>⟨none,false,rfl,.nil,fun _=>HN e,fun e=>by cases e⟩) fun e b1 h' f3 f4 f5 f6 V O f=>⟨some ⟨b1,0,none⟩,true,rfl,.nil,fun e=>(by cases e),fun _=>⟨b1,b,d,f3,f4,f5,f6,rfl,V,HY e f4 h' O f⟩⟩)
theorem Gw{h:Heap}(b d k n:Int)(K:Value->Heap->Prop)(HK:∀h',Fr No h h'->K (.tuple #[VI (zI b d k n).1,VB (zI b d k n).2]) h'):aE Tryz.prog 117 #[VI b,VI d,VI k,VI n] h K:=by
 refine v117 b d k n h K (Ed b d k n _ (fun e=>⟨aC,false,rfl,.nil,?_⟩) fun e t h' O f=>⟨t,true,rfl,.nil,?_⟩)
 ·unfold zI at HK
  rw[if_neg (by rw[e];decide)]at HK
  exact UZ (S:=fun _=>True) (xs:=[]) (cW.nil (fun _=>True) h 1) (fun x hx=>by simp at hx) (by simp) _ ⟨_,rfl,.nil,HK h (Fr.refl _ _)⟩
 ·unfold zI at HK
  rw[if_pos e]at HK
  obtain⟨B,D,N,rfl,rfl,rfl,q1,q2,q3,q4,q5⟩:=wO e
  simp only[Int.toNat_natCast]at O HK
  obtain⟨c1,c2,c3,c4⟩:=p5 (b:=B) (d:=D) (by omega) (by omega) N (rs:=List.replicate (bC B (D-1)) k) (by simp) (mQ q4)
  exact UZ O.rd (fun x hx=>by have:=c4 x hx;omega) (by omega) _ ⟨_,rfl,.nil,HK h' f⟩
theorem BO{h:Heap}(b d:Int)(K:Value->Heap->Prop)(HN:(decide (2<=b/\b<=3/\1<=d/\d<=6)&&decide ((bC b.toNat d.toNat:Int)<=130))=false->K (VI 0) h)(HY:(decide (2<=b/\b<=3/\1<=d/\d<=6)&&decide ((bC b.toNat d.toNat:Int)<=130))=true->K (VI (bC b.toNat d.toNat)) h):aE Tryz.prog 238 #[VI b,VI d] h K:=by
 refine ah0 b d h K (cY _ _ _ h _ ⟨_,rfl,.nil,fun e=>HN ?_,fun e=> ?_⟩)
 ·rw[decide_eq_false (show¬(2<=b/\b<=3/\1<=d/\d<=6)from fun h=>by simp at e;omega),Bool.false_and]
 have e:2<=b/\b<=3:=by simpa using e
 refine cY _ _ _ h _ ⟨_,rfl,.nil,fun e2=>HN ?_,fun e2=> ?_⟩
 ·rw[decide_eq_false (show¬(2<=b/\b<=3/\1<=d/\d<=6)from fun h=>by simp at e2;omega),Bool.false_and]
 have e2:1<=d/\d<=6:=by simpa using e2
 obtain⟨B,rfl⟩:∃B:Nat,b=B:=⟨b.toNat,by omega⟩
 obtain⟨D,rfl⟩:∃D:Nat,d=D:=⟨d.toNat,by omega⟩
 rw[decide_eq_true (show 2<=(B:Int)/\(B:Int)<=3/\1<=(D:Int)/\(D:Int)<=6 by omega),Bool.true_and]at HN HY
 simp only[Int.toNat_natCast,decide_eq_false_iff_not,decide_eq_true_eq]at HN HY
 refine⟨fun n all lev i h'=>∃j:Nat,i=j/\n+j=D/\all=(bC B j:Nat)/\lev=(ja B j:Nat)/\h'=h,⟨D,0,rfl,by omega,rfl,rfl,rfl⟩,?_⟩
 rintro n all lev i h' ⟨j,rfl,hn,rfl,rfl,rfl⟩ hL
 have hs:=fW B (by omega) j (by omega)
 refine⟨fun e3=> ?_,fun e3=> ?_⟩
 ·simp only[decide_eq_true_eq]at e3
  have hs2:=fW B (by omega) (j+1) (by omega)
  have e1:((ja B j:Nat):Int)*(B:Int)=((ja B (j+1):Nat):Int):=by rw[ja];simp
  have e2:bC B (j+1)=bC B j+ja B (j+1):=rfl
  rw[e1,aH ((ja B (j+1):Nat):Int) (by omega) (by omega),aH _ (by omega) (by omega),aH _ (by omega) (by omega)]
  exact⟨n-1,by omega,j+1,by omega,by omega,by omega,rfl,rfl⟩
 ·simp only[decide_eq_false_iff_not]at e3
  have:j=D:=by omega
  subst this
  refine⟨fun e4=>HN ?_,fun e4=>HY ?_⟩
  ·simp only[decide_eq_true_eq]at e4;omega
  ·simp only[decide_eq_false_iff_not]at e4;omega
theorem uW{b d:Nat}(hb:b<4)(hd:d<7){h:Heap}(K:Value->Heap->Prop)(HK:K (VI (ja b d)) h):aE Tryz.prog 273 #[VI b,VI d] h K:=by
 refine aiG b d h K ⟨fun n i p h'=>∃j:Nat,i=n/\n+j=d/\p=(ja b j:Nat)/\h'=h,⟨d,0,rfl,by omega,rfl,rfl⟩,?_⟩
 rintro n _ p h' ⟨j,rfl,hn,rfl,rfl⟩ hL
 have hs:=fW b hb j (by omega)
 refine⟨fun e=> ?_,fun e=> ?_⟩
 ·simp only[decide_eq_true_eq]at e
  have hs2:=fW b hb (j+1) (by omega)
  have e1:((ja b j:Nat):Int)*(b:Int)=((ja b (j+1):Nat):Int):=by rw[ja];simp
  rw[e1,aH ((ja b (j+1):Nat):Int) (by omega) (by omega),aH _ (by omega) (by omega)]
  exact⟨n-1,by omega,j+1,by omega,by omega,rfl,rfl⟩
 ·simp only[decide_eq_false_iff_not]at e
  have:j=d:=by omega
  subst this
  exact HK
theorem Mm{h:Heap}(b d k n:Int)(K:Value->Heap->Prop)(HK:K (VB (qt b d k n)) h):aE Tryz.prog 189 #[VI b,VI d,VI k,VI n] h K:=by
 refine agZ b d k n h K (BO b d _ (fun e=>⟨0,rfl,.nil,fun e2=>by simp at e2,fun _=> ?_⟩) fun e=>⟨_,rfl,.nil,fun e2=> ?_,fun e2=> ?_⟩)
 ·unfold qt at HK
  rw[e,Bool.false_and]at HK
  exact HK
 ·unfold qt at HK
  rw[e,Bool.true_and]at HK
  refine cY _ _ _ h _ ⟨_,rfl,.nil,fun e3=>cY _ _ _ h _ ⟨_,rfl,.nil,?_⟩,fun e3=> ?_⟩
  ·have e3:0<=k/\k<=b:=by simpa using e3
   have:(decide (0<=n)&&decide (n<=200))=decide (0<=k/\k<=b/\0<=n/\n<=200):=by
    rw[<-Bool.decide_and]
    exact decide_eq_decide.2 ⟨fun h=>⟨e3.1,e3.2,h⟩,fun h=>h.2.2⟩
   rw[this]
   exact HK
  ·rw[decide_eq_false (fun h=>by simp at e3;omega)]at HK
   exact HK
 ·have:=tf b.toNat d.toNat
  simp only[decide_eq_false_iff_not]at e2
  omega
set_option maxHeartbeats 4000000 in
theorem Mn{b d:Nat}(hb:2<=b/\b<=3)(hd:1<=d/\d<=6)(hn:bC b d<=130)(k:Int){h:Heap}(K:Value->Heap->Prop)
 (HK:∀b1 h' f3 f6,Vars h' [(b1,[VI b,VI d,VI (bC b (d-1):Nat),Sl.v f3,aC.v,aC.v,Sl.v f6])]->li h.size h' b1 f3 aC aC f6 (List.replicate (bC b (d-1)) k) [] [] (List.replicate (d+1) 0)->Fr No h h'->K (VP b1 0) h'):aE Tryz.prog 239 #[VI b,VI d,VI k] h K:=by
 have hi:=Gv hb.1 hd.1 hn
 have en:bC b d=bC b (d-1)+ja b d:=by
  have:d=(d-1)+1:=by omega
  rw[this];rfl
 have ev:aL ((d:Int)+1)=((d+1:Nat):Int):=by rw[aH _ (by omega) (by omega)];omega
 have ei:aL (((bC b d:Nat):Int)-((ja b d:Nat):Int))=((bC b (d-1):Nat):Int):=by rw[aH _ (by omega) (by omega)];omega
 have U0:∀{X:Heap}{K:Value->Heap->Prop},K (VI (bC b d:Nat)) X->aE Tryz.prog 238 #[VI b,VI d] X K:=fun H=>BO b d _ (fun e=>by
  rw[decide_eq_true (show 2<=(b:Int)/\(b:Int)<=3/\1<=(d:Int)/\(d:Int)<=6 by omega),Bool.true_and]at e
  simp only[Int.toNat_natCast,decide_eq_false_iff_not]at e
  omega) fun _=>H
 refine ah2 b d k h K ⟨fun b1 x1 x2 x3 x4 x5 x6 x7 h'=>x1=(b:Int)/\x2=(d:Int)/\x3=(bC b (d-1):Nat)/\x4=aC/\x5=aC/\x6=aC/\li h.size h' b1 aC aC aC x7 [] [] [] (List.replicate (d+1) 0)/\Fr No h h',?_,?_⟩
 ·have fin:∀{X:Heap}{v:Sl},Fr No h X->bM X (fun k=>h.size<=k) v (List.replicate (d+1) 0)->∀b1 h',X.size<=b1->Fr (In []) X h'->Vars h' [(b1,[VI b,VI d,VI (aL (((bC b d:Nat):Int)-((ja b d:Nat):Int))),aC.v,aC.v,aC.v,v.v])]->(b:Int)=b/\(d:Int)=d/\aL (((bC b d:Nat):Int)-((ja b d:Nat):Int))=(bC b (d-1):Nat)/\aC=aC/\aC=aC/\aC=aC/\li h.size h' b1 aC aC aC v [] [] [] (List.replicate (d+1) 0)/\Fr No h h':=fun{X v} fX v0 b1 h' hb f V=>by
   have f:=f.aF
   have zX:=fX.size
   exact⟨rfl,rfl,ei,rfl,rfl,rfl,⟨Ow.nil _ _ _ _,Ow.nil _ _ _ _,Ow.nil _ _ _ _,Ow.no v0 f,fun k h=>absurd h (cX k),fun k h=>absurd h (cX k),fun k h=>absurd h (cX k),fun k h=>absurd h (cX k),fun k h=>absurd h (cX k),fun k h=>absurd h (cX k),cX _,cX _,cX _,fun hk=>by have:=(v0.aG hk).2;omega,by omega,V.head.lt⟩,fX.aA f⟩
  refine⟨U0 ⟨_,rfl,.nil,uW (by omega) (by omega) _ ⟨_,rfl,.nil,iS ev (by omega) fun v h3 o3 f3=>⟨v,rfl,.nil,fin f3 o3⟩⟩,iS ev (by omega) fun v h3 o3 f3=>⟨v,rfl,.nil,uW (by omega) (by omega) _ ⟨_,rfl,.nil,fin f3 o3⟩⟩⟩,iS ev (by omega) fun v h3 o3 f3=>⟨v,rfl,.nil,U0 ⟨_,rfl,.nil,uW (by omega) (by omega) _ ⟨_,rfl,.nil,fin f3 o3⟩⟩⟩⟩
 rintro b1 _ _ _ _ _ _ f6 h2 ⟨rfl,rfl,rfl,rfl,rfl,rfl,S2,F2⟩ bW
 refine⟨fun m i x1 x2 x3 x4 x5 x6 x7 h'=>∃j:Nat,i=j/\m+j=bC b (d-1)/\x1=(b:Int)/\x2=(d:Int)/\x3=(bC b (d-1):Nat)/\x5=aC/\x6=aC/\li h.size h' b1 x4 aC aC x7 (List.replicate j k) [] [] (List.replicate (d+1) 0)/\Fr (fun k=>h.size<=k) h h',⟨bC b (d-1),0,rfl,by omega,rfl,rfl,rfl,rfl,rfl,S2,F2.aB⟩,?_⟩
 rintro m i _ _ _ x4 _ _ x7 h3 ⟨j,rfl,hm,rfl,rfl,rfl,rfl,rfl,S3,F3⟩ cF
 have z3:h.size<=h3.size:=F3.size
 refine⟨fun e=> ?_,fun e=> ?_⟩
 ·simp only[decide_eq_true_eq]at e
  refine fO _ fun x h4 o4 f4=>⟨x,rfl,cF.aB f4,?_⟩
  have S4:=S3.no f4
  have z4:=f4.size
  refine S4.Ec (by omega) o4.rd (by simp;omega) fun t h5 S5 f5 w5=>⟨t,rfl,gN (cF.aB f4) f5 S4.nr,fun h6 f6 iY=>⟨m-1,by omega,j+1,?_,by omega,rfl,rfl,rfl,rfl,rfl,?_,?_⟩⟩
  ·rw[aH _ (by omega) (by omega)];omega
  ·have:=S5.Ml f6 (by simp)
   rw[<-List.replicate_succ']at this
   exact this
  ·exact((F3.trans f4.aB).trans (f5.mono fun k _ hk=>(S4.r.aG hk).1)).trans (f6.mono fun k _ hk=>by simp[In]at hk;have:=S3.lb;omega)
 ·simp only[decide_eq_false_iff_not]at e
  have:j=bC b (d-1):=by omega
  subst this
  exact HK b1 h3 x4 x7 cF S3 (F3.mono fun k hk aI=>absurd aI (by omega))
theorem aal{B D N:Nat}(q1:2<=B/\B<=3)(q2:1<=D/\D<=6)(q3:bC B D<=130){k:Int}(q4:0<=k/\k<=B)(q5:N<=200){h:Heap}(K:Value->Heap->Prop)
 (HK:∀b1 h' f3 f4 f5 f6,Vars h' [(b1,[VI B,VI D,VI (bC B (D-1):Nat),Sl.v f3,Sl.v f4,Sl.v f5,Sl.v f6])]->bM h' (fun k=>h.size<=k) f4 (nL B D N (List.replicate (bC B (D-1)) k)).2->Fr No h h'->K (VP b1 0) h'):aE Tryz.prog 191 #[VI B,VI D,VI k,VI N] h K:=by
 refine ag3 B D k N h K (Mn q1 q2 q3 k _ fun b1 h3 f3 f6 V3 S3 F3=>⟨some ⟨b1,0,none⟩,rfl,.nil,?_⟩)
 have hrr:=mQ (m:=bC B (D-1)) q4
 have z3:=F3.size
 refine⟨fun m i h'=>∃(j:Nat)(x4 x5 x6 x7:Sl)(ts vs:List Int),i=j/\m+j=N/\Vars h' [(b1,[VI B,VI D,VI (bC B (D-1):Nat),x4.v,x5.v,x6.v,x7.v])]/\li h.size h' b1 x4 x5 x6 x7 (nL B D j (List.replicate (bC B (D-1)) k)).1 (nL B D j (List.replicate (bC B (D-1)) k)).2 ts vs/\ts.length=j/\vs.length=D+1/\Fr (fun k=>h.size<=k) h h',⟨N,0,f3,aC,aC,f6,[],_,rfl,by omega,V3,S3,rfl,by simp,F3.aB⟩,?_⟩
 rintro m i h4 ⟨j,x4,x5,x6,x7,ts,vs,rfl,hm,dJ,S4,t4,v4,F4⟩ _
 obtain⟨c1,c2,c3,c4⟩:=p5 (b:=B) (d:=D) (by omega) (by omega) j (rs:=List.replicate (bC B (D-1)) k) (by simp) hrr
 refine⟨fun e4=> ?_,fun e4=> ?_⟩
 ·simp only[decide_eq_true_eq]at e4
  refine TS q1 q2 (by have:=S4.lb;have:=S4.hb;omega) dJ S4 c1 c2 v4 (by omega) (by omega) _ fun h5 t u ws pP V5 S5 l5 l6 f5=>⟨.nil,m-1,by omega,j+1,x4,t,u,x7,ws,pP,?_,by omega,V5,S5,by omega,l6,F4.trans f5⟩
  rw[aH _ (by omega) (by omega)];omega
 ·simp only[decide_eq_false_iff_not]at e4
  have:j=N:=by omega
  subst this
  exact HK b1 h4 x4 x5 x6 x7 dJ S4.e (F4.mono fun k hk aI=>absurd aI (by omega))
theorem uX{h:Heap}(b d k n:Int)(K:Value->Heap->Prop)(HK:∀h',Fr No h h'->K (.tuple #[VI (zI b d k n).1,VB (zI b d k n).2]) h'):aE Tryz.prog 141 #[VI b,VI d,VI k,VI n] h K:=by
 refine v141 b d k n h K (Mm b d k n _ ⟨_,rfl,.nil,fun e=> ?_,fun e=> ?_⟩)
 ·unfold zI at HK
  rw[if_neg (by simpa using e)]at HK
  exact HK h (Fr.refl _ _)
 ·have e:qt b d k n=true:=by simpa using e
  unfold zI at HK
  rw[if_pos e]at HK
  obtain⟨B,D,N,rfl,rfl,rfl,q1,q2,q3,q4,q5⟩:=wO e
  simp only[Int.toNat_natCast]at HK
  obtain⟨c1,c2,c3,c4⟩:=p5 (b:=B) (d:=D) (by omega) (by omega) N (rs:=List.replicate (bC B (D-1)) k) (by simp) (mQ q4)
  refine aal q1 q2 q3 q4 q5 _ fun b1 h2 f3 f4 f5 f6 V O f=>⟨some ⟨b1,0,none⟩,rfl,.nil,b1,_,_,_,f3,f4,f5,f6,rfl,V,TT O.rd (fun x hx=>by have:=c4 x hx;omega) (by omega) _ ⟨_,rfl,V,HK h2 f⟩⟩
def ku(B C i:Nat):Nat:=(B.testBit i).toNat+2*(C.testBit i).toNat
def nxG(i r:Nat):Nat:=if r=0 then i+121 else if r=1 then i+1 else if r=2 then i-121 else i-1
def inG(i:Nat):Bool:=Nat.ble 121 i&&Nat.ble i 14519&& !(Nat.beq (i%121) 0)&& !(Nat.beq (i%121) 120)
def nW:Nat->Nat->Nat->Nat->Nat->Option (Nat×Nat×Nat)
 |0,_,_,_,_=>none
 |n+1,A,B,C,i=>bif A.testBit i then
  bif inG i then nW n A (B^^^2^i) (bif B.testBit i then C^^^2^i else C) (nxG i ((ku B C i+1)%4))else none
  else some (i,B,C)
def PU(n:Nat)(b:Bool):Nat:=bif b then 2^n-1 else 0
def mR(b:Bool):Nat:=PU 14641 b
def eO(k:Nat):Nat->Option (Nat×Nat×Nat×List Nat)
 |0=>some (0,mR (k.testBit 0),mR (k.testBit 1),[])
 |n+1=>match eO k n with
  |none=>none
  |some (A,B,C,l)=>match nW 1000 A B C 7320 with
   |none=>none
   |some (i,B',C')=>some (A^^^2^i,B',C',l++[i])
def okG(k:Nat):Bool:=(eO k 250).isSome
theorem KS(B C i:Nat):ku B C i<4:=by
 unfold ku
 have h1:=Bool.toNat_lt (B.testBit i)
 have h2:=Bool.toNat_lt (C.testBit i)
 omega
theorem k7(B i j:Nat):(B^^^2^i).testBit j=if j=i then !B.testBit j else B.testBit j:=by
 rw[Nat.testBit_xor,Nat.testBit_two_pow]
 by_cases h:j=i
 ·subst h;simp
 ·rw[if_neg h,decide_eq_false (fun e=>h e.symm)];simp
theorem uY(B C i j:Nat):ku (B^^^2^i) (bif B.testBit i then C^^^2^i else C) j=if j=i then(ku B C i+1)%4 else ku B C j:=by
 unfold ku
 by_cases h:j=i
 ·subst h
  rw[if_pos rfl,k7,if_pos rfl]
  cases hB:B.testBit j
  ·cases hC:C.testBit j<;>simp[hC]
  ·rw[cond_true,k7,if_pos rfl]
   cases hC:C.testBit j<;>simp
 ·rw[if_neg h,k7,if_neg h]
  cases hB:B.testBit i
  ·rfl
  ·rw[cond_true,k7,if_neg h]
theorem PV{i:Nat}(h:inG i=true):121<=i/\i<=14519/\i%121≠0/\i%121≠120:=by
 unfold inG at h
 simp only[Bool.and_eq_true,Bool.not_eq_true',Nat.ble_eq]at h
 exact⟨h.1.1.1,h.1.1.2,fun e=>by rw[e]at h;exact absurd h.1.2 (by decide),fun e=>by rw[e]at h;exact absurd h.2 (by decide)⟩
theorem PW(n:Nat)(b:Bool){i:Nat}(h:i<n):(PU n b).testBit i=b:=by
 unfold PU
 cases b
 ·simp
 ·rw[cond_true,Nat.testBit_two_pow_sub_one]
  simp[h]
theorem Gx(b:Bool){i:Nat}(h:i<14641):(mR b).testBit i=b:=PW 14641 b h
theorem Gy{k i:Nat}(hk:k<4)(h:i<14641):ku (mR (k.testBit 0)) (mR (k.testBit 1)) i=k:=by
 unfold ku
 rw[Gx _ h,Gx _ h]
 rcases(by omega:k=0\/k=1\/k=2\/k=3)with rfl|rfl|rfl|rfl<;>decide
theorem zJ{k:Nat}:∀{m:Nat}(d:Nat),(eO k (m+d)).isSome=true->(eO k m).isSome=true
 |m,0,h=>h
 |m,d+1,h=>by
  refine zJ d ?_
  rw[show m+(d+1)=(m+d)+1 by omega,eO]at h
  cases hc:eO k (m+d)with
  |none=>rw[hc]at h;exact h
  |some x=>rfl
theorem TU:∀k,k<4->okG k=true:=by
 have h0:okG 0=true:=by decide+kernel
 have h1:okG 1=true:=by decide+kernel
 have h2:okG 2=true:=by decide+kernel
 have h3:okG 3=true:=by decide+kernel
 intro k hk
 rcases(by omega:k=0\/k=1\/k=2\/k=3)with rfl|rfl|rfl|rfl
 ·exact h0
 ·exact h1
 ·exact h2
 ·exact h3
theorem lG{k n:Nat}(hk:k<4)(hn:n<=250):∃A B C l,eO k n=some (A,B,C,l):=by
 have h:=zJ (k:=k) (m:=n) (250-n) (by rw[Nat.add_sub_cancel' hn];exact TU k hk)
 obtain⟨⟨A,B,C,l⟩,h⟩:=Option.isSome_iff_exists.1 h
 exact⟨A,B,C,l,h⟩
theorem lH{k n A B C:Nat}{l:List Nat}(h:eO k n=some (A,B,C,l)){A' B' C':Nat}{l':List Nat}(h':eO k (n+1)=some (A',B',C',l')):∃i,nW 1000 A B C 7320=some (i,B',C')/\A'=A^^^2^i/\l'=l++[i]:=by
 rw[eO,h]at h'
 (try simp only at h')
 cases hw:nW 1000 A B C 7320 with
 |none=>rw[hw]at h';cases h'
 |some x=>
  obtain⟨i,B1,C1⟩:=x
  rw[hw]at h'
  (try simp only[Option.some.injEq,Prod.mk.injEq]at h')
  obtain⟨rfl,rfl,rfl,rfl⟩:=h'
  exact⟨i,rfl,rfl,rfl⟩
theorem ij{k:Nat}:∀{n A B C:Nat}{l:List Nat},eO k n=some (A,B,C,l)->l.length=n
 |0,A,B,C,l,h=>by
  rw[eO]at h
  simp only[Option.some.injEq,Prod.mk.injEq]at h
  rw[<-h.2.2.2];rfl
 |n+1,A,B,C,l,h=>by
  cases hc:eO k n with
  |none=>rw[eO,hc]at h;cases h
  |some x=>
   obtain⟨A0,B0,C0,l0⟩:=x
   obtain⟨i,_,_,e⟩:=lH hc h
   rw[e,List.length_append,ij hc];rfl
theorem rH{n A B C i:Nat}{R:Nat×Nat×Nat}(h:nW n A B C i=some R)(ht:A.testBit i=true):inG i=true/\∃m,n=m+1/\nW m A (B^^^2^i) (bif B.testBit i then C^^^2^i else C) (nxG i ((ku B C i+1)%4))=some R:=by
 cases n with
 |zero=>cases h
 |succ m=>
  rw[nW,ht,cond_true]at h
  cases hi:inG i with
  |false=>rw[hi]at h;cases h
  |true=>rw[hi]at h;exact⟨rfl,m,rfl,h⟩
theorem uZ{n A B C i:Nat}{R:Nat×Nat×Nat}(h:nW n A B C i=some R)(ht:A.testBit i=false):R=(i,B,C):=by
 cases n with
 |zero=>cases h
 |succ m=>
  rw[nW,ht,cond_false]at h
  exact(Option.some.inj h).symm
def bI(x y:Int):Nat:=((x+60)*121+(y+60)).toNat
abbrev fP(x:Int):Prop:= -60<=x/\x<=60
theorem BP{x y u v:Int}(hx:fP x)(hy:fP y)(hu:fP u)(hv:fP v)(h:bI x y=bI u v):x=u/\y=v:=by
 unfold bI at h
 unfold fP at*
 omega
def mvX(x r:Int):Int:=if r=0 then x+1 else if r=2 then x-1 else x
def mvY(y r:Int):Int:=if r=1 then y+1 else if r=0 then y else if r=2 then y else y-1
theorem Gz{x y:Int}{i r:Nat}(hx:fP x)(hy:fP y)(e:bI x y=i)(h:inG i=true)(hr:r<4):fP (mvX x r)/\fP (mvY y r)/\bI (mvX x r) (mvY y r)=nxG i r:=by
 obtain⟨h1,h2,h3,h4⟩:=PV h
 unfold bI at*
 unfold fP at*
 have k1:x≠ -60:=fun hh=>by omega
 have k2:x≠60:=fun hh=>by omega
 have k3:y≠ -60:=fun hh=>by omega
 have k4:y≠60:=fun hh=>by omega
 unfold mvX mvY nxG
 rcases(by omega:r=0\/r=1\/r=2\/r=3)with rfl|rfl|rfl|rfl
 ·simp;omega
 ·simp;omega
 ·simp;omega
 ·simp;omega
def pG(n k:Int):List Int×Bool:=if 1<=n/\n<=250/\0<=k/\k<=3 then match eO k.toNat n.toNat with
 |some (_,_,_,l)=>([((l.getLastD 0:Nat):Int)/121-60,((l.getLastD 0:Nat):Int)%121-60],true)
 |none=>([],false)
 else([],false)
structure nM(P:Program)(kt:TypeId)(f0 f1:Field):Prop where
 und:P.underlying kt=some (.struct #[f0,f1])
 i0:P.underlying f0.type=some (.int .i64)
 i1:P.underlying f1.type=some (.int .i64)
 n0:f0.name≠ "_"
 n1:f1.name≠ "_"
 o0:f0.offset=0
 o1:f1.offset=1
 st:P.stoodInHeld kt=false
def KV(x y:Int):Value:= .agg #[VI x,VI y]
theorem p7{P:Program}{t:TypeId}(h:P.underlying t=some (.int .i64)){cs:Array Value}{i:Nat}{v:Value}(hv:cs[i]?=some v)(w:World):(part t cs i).run P w= .ok v w:=by
 unfold part isAgg
 simp only[Sem.run_bind,run_underlying h,Result.andThen,Sem.run_pure]
 simp[hv]
theorem Jk{P:Program}{kt:TypeId}{f0 f1:Field}(T:nM P kt f0 f1)(x y u v:Int)(w:World):(Op.equal kt (KV x y) (KV u v)).run P w= .ok (decide (x=u/\y=v)) w:=by
 have key:∀d,(Op.equalIn (d+2) kt (KV x y) (KV u v)).run P w= .ok (decide (x=u/\y=v)) w:=fun d=>by
  have e:∀(t:TypeId)(a b:Int),P.underlying t=some (.int .i64)->(Op.equalIn (d+1) t (VI a) (VI b)).run P w= .ok (a==b) w:=fun t a b h=>by
   unfold Op.equalIn
   simp[Sem.run_bind,run_underlying h,Result.andThen,VI]
  have p0:∀a b:Int,(part f0.type #[VI a,VI b] f0.offset).run P w= .ok (VI a) w:=fun a b=>by rw[T.o0];exact p7 T.i0 rfl w
  have p1:∀a b:Int,(part f1.type #[VI a,VI b] f1.offset).run P w= .ok (VI b) w:=fun a b=>by rw[T.o1];exact p7 T.i1 rfl w
  unfold Op.equalIn
  simp only[Sem.run_bind,run_underlying T.und,Result.andThen,KV,run_program,T.st]
  by_cases h0:x=u
  ·by_cases h1:y=v
   ·simp[h0,h1,T.n0,T.n1,Sem.run_pure,Sem.run_bind,Result.andThen,p0,p1,e _ _ _ T.i0,e _ _ _ T.i1]
   ·simp[h0,h1,T.n0,T.n1,Sem.run_pure,Sem.run_bind,Result.andThen,p0,p1,e _ _ _ T.i0,e _ _ _ T.i1]
  ·simp[h0,T.n0,T.n1,Sem.run_pure,Sem.run_bind,Result.andThen,p0,p1,e _ _ _ T.i0,e _ _ _ T.i1]
 exact key 9998
theorem gZ{P:Program}{kt:TypeId}{f0 f1:Field}(T:nM P kt f0 f1)(em:Bool)(x y:Int)(w:World):(Instr.checkKey em 10000 kt (KV x y)).run P w= .ok () w:=by
 have e:∀(d:Nat)(t:TypeId)(a:Int),P.underlying t=some (.int .i64)->(Instr.checkKey em (d+1) t (VI a)).run P w= .ok () w:=fun d t a h=>by
  unfold Instr.checkKey
  simp[Sem.run_bind,run_underlying h,Result.andThen,VI]
 have p0:∀a b:Int,(part f0.type #[VI a,VI b] f0.offset).run P w= .ok (VI a) w:=fun a b=>by rw[T.o0];exact p7 T.i0 rfl w
 have p1:∀a b:Int,(part f1.type #[VI a,VI b] f1.offset).run P w= .ok (VI b) w:=fun a b=>by rw[T.o1];exact p7 T.i1 rfl w
 have key:∀d,(Instr.checkKey em (d+2) kt (KV x y)).run P w= .ok () w:=fun d=>by
  unfold Instr.checkKey
  simp only[Sem.run_bind,run_underlying T.und,Result.andThen,KV]
  simp[Sem.run_bind,Result.andThen,T.n0,T.n1,p0,p1,e d _ _ T.i0,e d _ _ T.i1]
 exact key 9998
def tg(h:Heap)(b:Nat)(eY:List ((Int×Int)×Int)):Prop:=∃(es:Array MapEntry)(clock:Nat),h[b]?=some (.map es clock)/\es.toList.map (fun e=>(e.key,e.val))=eY.map fun q=>(KV q.1.1 q.1.2,VI q.2)
theorem tg.lt{h:Heap}{b:Nat}{eY:List ((Int×Int)×Int)}(M:tg h b eY):b<h.size:=by
 obtain⟨es,c,hb,_⟩:=M
 exact(Array.getElem?_eq_some_iff.1 hb).1
theorem tg.fr{h h':Heap}{b:Nat}{eY:List ((Int×Int)×Int)}{T:Nat->Prop}(M:tg h b eY)(f:Fr T h h')(hT:¬T b):tg h' b eY:=by
 have hl:=M.lt
 obtain⟨es,c,hb,e⟩:=M
 exact⟨es,c,by rw[f.same b hl hT];exact hb,e⟩
def gF:List ((Int×Int)×Int)->Int->Int->Option (Nat×Int)
 |[],_,_=>none
 |q::r,x,y=>if x=q.1.1/\y=q.1.2 then some (0,q.2)else(gF r x y).map fun p=>(p.1+1,p.2)
theorem adm{P:Program}{kt:TypeId}{f0 f1:Field}(T:nM P kt f0 f1)(x y:Int)(w:World):∀(l:List MapEntry)(eY:List ((Int×Int)×Int))(i:Nat),l.map (fun e=>(e.key,e.val))=eY.map (fun q=>(KV q.1.1 q.1.2,VI q.2))->(Instr.findAsking kt (KV x y) l i).run P w= .ok ((gF eY x y).map fun p=>(i+p.1,VI p.2)) w
 |[],[],i,_=>by simp[Instr.findAsking,gF]
 |[],q::r,i,h=>by simp at h
 |e::l,[],i,h=>by simp at h
 |e::l,q::r,i,h=>by
  simp only[List.map_cons,List.cons.injEq,Prod.mk.injEq]at h
  obtain⟨⟨h1,h2⟩,h3⟩:=h
  unfold Instr.findAsking gF
  simp only[Sem.run_bind,h1,Jk T,Result.andThen]
  by_cases hq:x=q.1.1/\y=q.1.2
  ·simp[hq,h2,Sem.run_pure]
  ·rw[if_neg (by simpa using hq),if_neg hq,adm T x y w l r (i+1) h3]
   simp[Option.map_map,Function.comp_def,Nat.add_assoc,Nat.add_comm 1]
theorem Ee{kt:TypeDesc}{x y:Int}(hk:∀k,kt≠ .int k):∀(l:List MapEntry)(i:Nat),l≠[]->(∀e,e∈l->∃u v,e.key=KV u v)->Instr.findNow kt (KV x y) l i=none
 |[],_,h,_=>absurd rfl h
 |e::l,i,_,h=>by
  obtain⟨u,v,he⟩:=h e List.mem_cons_self
  unfold Instr.findNow
  have:Instr.sameNow kt (KV x y) e.key=none:=by rw[he];cases kt<;>rfl
  rw[this]
theorem iT{P:Program}{kt:TypeId}{f0 f1:Field}(T:nM P kt f0 f1)(x y:Int)(w:World){l:List MapEntry}{eY:List ((Int×Int)×Int)}(h:l.map (fun e=>(e.key,e.val))=eY.map (fun q=>(KV q.1.1 q.1.2,VI q.2))):(Instr.findKey kt (KV x y) l).run P w= .ok ((gF eY x y).map fun p=>(p.1,VI p.2)) w:=by
 unfold Instr.findKey
 simp only[Sem.run_bind,run_underlying T.und,Result.andThen]
 by_cases hl:l=[]
 ·subst hl
  have:eY=[]:=by cases eY with
   |nil=>rfl
   |cons q r=>simp at h
  subst this
  rfl
 ·rw[Ee (fun k hk=>by cases hk) l 0 hl fun e he=>by
   have:(e.key,e.val)∈l.map (fun e=>(e.key,e.val)):=List.mem_map.2 ⟨e,he,rfl⟩
   rw[h]at this
   obtain⟨q,_,hq⟩:=List.mem_map.1 this
   exact⟨_,_,(Prod.mk.inj hq).1.symm⟩]
  have:=adm T x y w l eY 0 h
  simp only[Nat.zero_add]at this
  exact this
theorem GA{P:Program}{t kt et:TypeId}{f0 f1:Field}{h:Heap}{b:Nat}{eY:List ((Int×Int)×Int)}{x y:Int}(T:nM P kt f0 f1)(hm:P.underlying t=some (.map kt et))(hz:oG P et=some (VI 0))(M:tg h b eY){K:Value->Prop}(HK:K (.tuple #[VI (((gF eY x y).map (·.2)).getD 0),VB (gF eY x y).isSome])):zZ P (Instr.lookup t (.map (some b)) (KV x y) true) h K:=by
 obtain⟨es,c,hb,e⟩:=M
 refine⟨_,fun w hw=> ?_,HK⟩
 subst hw
 have hzr:(zeroValue et).run P w= .ok (VI 0) w:=by
  unfold oG at hz
  cases hi:P.info? et with
  |none=>rw[hi]at hz;simp at hz
  |some i=>
   rw[hi]at hz
   simp only[Option.bind_some]at hz
   unfold zeroValue
   rw[aK (dR hi w)]
   simp[hz,pure,Sem.run]
 unfold Instr.lookup
 simp only[Sem.run_bind,run_underlying hm,Result.andThen,MapKept.run_getObj_map hb,gZ T,iT T x y w e]
 cases hs:gF eY x y with
 |none=>simp[gZ T,iT T x y w e,hs,Sem.run,pure,hzr,Result.andThen]
 |some p=>simp[gZ T,iT T x y w e,hs,Sem.run,pure,Result.andThen]
theorem At(x y:Int):Instr.sameBits 10000 (KV x y) (KV x y)=true:=by
 have key:∀d,Instr.sameBits (d+1) (KV x y) (KV x y)=true:=fun d=>by simp[Instr.sameBits,KV,VI]
 exact key 9999
theorem PX{P:Program}{t kt et:TypeId}{f0 f1:Field}{h:Heap}{b:Nat}{eY:List ((Int×Int)×Int)}{x y v:Int}(T:nM P kt f0 f1)(hm:P.underlying t=some (.map kt et))(M:tg h b eY){j:Nat}{r:Int}(hf:gF eY x y=some (j,r)){K:Value->Heap->Prop}(HK:∀u h',tg h' b (eY.set j ((x,y),v))->Fr (In [b]) h h'->K u h'):Aw P (Instr.mapUpdate t (.map (some b)) (KV x y) (VI v)) h K:=by
 have hl:=M.lt
 obtain⟨es,c,hb,e⟩:=M
 have hkj:∀(eY:List ((Int×Int)×Int))(j:Nat),gF eY x y=some (j,r)->∃h:j<eY.length,eY[j].1=(x,y):=by
  intro eY
  induction eY with
  |nil=>intro j h;cases h
  |cons q l ih=>
   intro j h
   unfold gF at h
   split at h
   ·rename_i hq
    obtain⟨rfl,_⟩:=Prod.mk.inj (Option.some.inj h)
    exact⟨by simp,by simp[hq]⟩
   ·cases hl:gF l x y with
    |none=>rw[hl]at h;cases h
    |some p=>
     rw[hl]at h
     obtain⟨p1,p2⟩:=p
     simp only[Option.map_some,Option.some.injEq,Prod.mk.injEq]at h
     obtain⟨rfl,rfl⟩:=h
     obtain⟨a,b⟩:=ih p1 hl
     exact⟨by simpa using a,by simpa using b⟩
 obtain⟨hj,hq⟩:=hkj eY j hf
 have hlen:es.toList.length=eY.length:=by have:=congrArg List.length e;simpa using this
 have H8:j<es.size:=by have:es.toList.length=es.size:=Array.length_toList;omega
 have hk:es[j].key=KV x y:=by
  have:(es.toList.map (fun e=>(e.key,e.val)))[j]'(by simpa using H8)=(eY.map fun q=>(KV q.1.1 q.1.2,VI q.2))[j]'(by simpa using hj):=by simp only[e]
  simp only[List.getElem_map,Array.getElem_toList,Prod.mk.injEq,hq]at this
  exact this.1
 refine⟨fun w hw=> ?_⟩
 subst hw
 refine⟨{w with heap:=w.heap.setIfInBounds b (.map (es.modify j fun e=>{e with key:=KV x y,val:=VI v}) c)},?_,⟨rfl,rfl,rfl⟩,HK _ _ ⟨es.modify j fun e=>{e with key:=KV x y,val:=VI v},c,?_,?_⟩ ⟨by simp,fun i hi eA=> ?_⟩⟩
 ·unfold Instr.mapUpdate
  simp only[Sem.run_bind,run_underlying hm,Result.andThen,MapKept.run_getObj_map hb,gZ T,iT T x y w e,hf,Option.map_some]
  have:((es[j]?).map (·.key)).getD (KV x y)=KV x y:=by rw[Array.getElem?_eq_getElem H8];simp[hk]
  simp only[this,Instr.keyThatStays,At,if_true,Sem.run_pure,MapKept.run_setObj_map _ hb]
 ·simp only
  rw[Array.getElem?_setIfInBounds,if_pos rfl,if_pos hl]
 ·rw[Array.toList_modify]
  apply List.ext_getElem?
  intro i
  have ei:=congrArg (fun l=>l[i]?) e
  simp only[List.getElem?_map]at ei⊢
  rw[List.getElem?_modify,List.getElem?_set]
  by_cases Uu:j=i
  ·subst Uu
   rw[if_pos rfl,if_pos hj,List.getElem?_eq_getElem (by omega)]
   simp
  ·rw[if_neg Uu,<-ei]
   cases es.toList[i]?<;>simp[Uu]
 ·simp only
  rw[Array.getElem?_setIfInBounds,if_neg (fun hh=>eA (by simp[In,hh]))]
theorem PY{P:Program}{t kt et:TypeId}{f0 f1:Field}{h:Heap}{b:Nat}{eY:List ((Int×Int)×Int)}{x y v:Int}(T:nM P kt f0 f1)(hm:P.underlying t=some (.map kt et))(M:tg h b eY)(hf:gF eY x y=none){K:Value->Heap->Prop}(HK:∀u h',tg h' b (eY++[((x,y),v)])->Fr (In [b]) h h'->K u h'):Aw P (Instr.mapUpdate t (.map (some b)) (KV x y) (VI v)) h K:=by
 have hl:=M.lt
 obtain⟨es,c,hb,e⟩:=M
 refine⟨fun w hw=> ?_⟩
 subst hw
 refine⟨{w with heap:=w.heap.setIfInBounds b (.map (es.push {key:=KV x y,val:=VI v,born:=c}) (c+1))},?_,⟨rfl,rfl,rfl⟩,HK _ _ ⟨es.push {key:=KV x y,val:=VI v,born:=c},c+1,?_,?_⟩ ⟨by simp,fun j hj eA=> ?_⟩⟩
 ·unfold Instr.mapUpdate
  simp only[Sem.run_bind,run_underlying hm,Result.andThen,MapKept.run_getObj_map hb,gZ T,iT T x y w e,hf,Option.map_none,MapKept.run_setObj_map _ hb]
 ·simp only
  rw[Array.getElem?_setIfInBounds,if_pos rfl,if_pos hl]
 ·rw[Array.toList_push,List.map_append,List.map_append,e]
  rfl
 ·simp only
  rw[Array.getElem?_setIfInBounds,if_neg (fun hh=>eA (by simp[In,hh]))]
theorem Ef{P:Program}{t:TypeId}{h:Heap}{K:Value->Heap->Prop}(HK:∀h',tg h' h.size []->Fr No h h'->h.size<h'.size->K (.map (some h.size)) h'):jU P (Instr.makeMap t none) h K:=by
 refine⟨fun w hw=> ?_⟩
 subst hw
 refine⟨_,_,run_makeMap_plain w t,⟨rfl,rfl,rfl⟩,HK _ ⟨#[],0,?_,rfl⟩ (Fr.push w.heap _) ?_⟩
 ·show(w.heap.push _)[w.heap.size]?=_
  simp
 ·show w.heap.size<(w.heap.push _).size
  simp
def rJ(eY:List ((Int×Int)×Int))(x y:Int):Option Int:=(gF eY x y).map (·.2)
theorem iy(q:(Int×Int)×Int)(r:List ((Int×Int)×Int))(x y:Int):rJ (q::r) x y=if x=q.1.1/\y=q.1.2 then some q.2 else rJ r x y:=by
 unfold rJ
 rw[gF]
 split
 ·rfl
 ·rw[Option.map_map];rfl
theorem GB{x y v:Int}:∀{eY:List ((Int×Int)×Int)}{j:Nat}{r:Int},gF eY x y=some (j,r)->∀u z,rJ (eY.set j ((x,y),v)) u z=if u=x/\z=y then some v else rJ eY u z
 |[],_,_,h=>by cases h
 |q::l,j,r,h=>fun u z=>by
  rw[gF]at h
  split at h
  ·rename_i hq
   obtain⟨rfl,_⟩:=Prod.mk.inj (Option.some.inj h)
   rw[List.set_cons_zero,iy,iy]
   (try simp only)
   by_cases hu:u=x/\z=y
   ·rw[if_pos hu,if_pos hu]
   ·rw[if_neg hu,if_neg hu,if_neg (by rw[<-hq.1,<-hq.2];exact hu)]
  ·rename_i hq
   cases hl:gF l x y with
   |none=>rw[hl]at h;cases h
   |some p=>
    rw[hl]at h
    obtain⟨p1,p2⟩:=p
    simp only[Option.map_some,Option.some.injEq,Prod.mk.injEq]at h
    obtain⟨rfl,rfl⟩:=h
    rw[List.set_cons_succ,iy,iy,GB hl]
    by_cases hu:u=x/\z=y
    ·rw[if_pos hu,if_neg (by rw[hu.1,hu.2];exact hq),if_pos hu]
    ·rw[if_neg hu,if_neg hu]
theorem GC{x y v:Int}:∀{eY:List ((Int×Int)×Int)},rJ eY x y=none->∀u z,rJ (eY++[((x,y),v)]) u z=if u=x/\z=y then some v else rJ eY u z
 |[],_=>fun u z=>by
  rw[List.nil_append,iy]
 |q::l,h=>fun u z=>by
  rw[iy]at h
  split at h
  ·cases h
  ·rename_i hq
   rw[List.cons_append,iy,iy,GC h]
   by_cases hu:u=x/\z=y
   ·rw[if_pos hu,if_neg (by rw[hu.1,hu.2];exact hq),if_pos hu]
   ·rw[if_neg hu,if_neg hu]
def zK(eY:List ((Int×Int)×Int))(A B C:Nat):Prop:=∀x y,rJ eY x y=if fP x/\fP y/\A.testBit (bI x y)=true then some (ku B C (bI x y):Int)else none
theorem KT{x y:Int}(hx:fP x)(hy:fP y):bI x y<14641:=by
 unfold bI fP at*
 omega
theorem zK.first(k:Nat):zK [] 0 (mR (k.testBit 0)) (mR (k.testBit 1)):=fun x y=>by
 rw[Nat.zero_testBit,if_neg (by simp)]
 rfl
theorem zK.set{eY:List ((Int×Int)×Int)}{A B C:Nat}(R:zK eY A B C){x y:Int}(hx:fP x)(hy:fP y){j:Nat}{r:Int}(hf:gF eY x y=some (j,r)):zK (eY.set j ((x,y),(((ku B C (bI x y)+1)%4:Nat):Int))) A (B^^^2^bI x y) (bif B.testBit (bI x y)then C^^^2^bI x y else C):=fun u z=>by
 rw[GB hf,R u z]
 have hA:A.testBit (bI x y)=true:=by
  have:=R x y
  unfold rJ at this
  rw[hf]at this
  by_cases hb:A.testBit (bI x y)=true
  ·exact hb
  ·rw[if_neg (fun h=>hb h.2.2)]at this;cases this
 rw[uY]
 by_cases hu:u=x/\z=y
 ·obtain⟨rfl,rfl⟩:=hu
  rw[if_pos ⟨rfl,rfl⟩,if_pos ⟨hx,hy,hA⟩,if_pos rfl]
 ·rw[if_neg hu]
  by_cases hh:fP u/\fP z/\A.testBit (bI u z)=true
  ·rw[if_pos hh,if_pos hh,if_neg (fun e=>hu (BP hh.1 hh.2.1 hx hy e))]
  ·rw[if_neg hh,if_neg hh]
def nX(k A B C:Nat):Prop:=∀i,i<14641->A.testBit i=false->ku B C i=k
theorem nX.first{k:Nat}(hk:k<4):nX k 0 (mR (k.testBit 0)) (mR (k.testBit 1)):=fun _ h _=>Gy hk h
theorem nX.step{k A B C i:Nat}(R:nX k A B C)(hA:A.testBit i=true):nX k A (B^^^2^i) (bif B.testBit i then C^^^2^i else C):=fun j hj h=>by
 rw[uY,if_neg (fun e=>by rw[e,hA]at h;cases h)]
 exact R j hj h
theorem nX.grow{k A B C i:Nat}(R:nX k A B C):nX k (A^^^2^i) B C\/A.testBit i=true:=by
 by_cases hA:A.testBit i=true
 ·exact .inr hA
 ·refine .inl fun j hj h=>R j hj ?_
  rw[k7]at h
  split at h
  ·rename_i e;rw[e]at h;simp[hA]at h
  ·exact h
theorem zK.new{eY:List ((Int×Int)×Int)}{A B C k:Nat}(R:zK eY A B C)(R2:nX k A B C){x y:Int}(hx:fP x)(hy:fP y)(hA:A.testBit (bI x y)=false):rJ eY x y=none/\zK (eY++[((x,y),(k:Int))]) (A^^^2^bI x y) B C:=by
 have hn:rJ eY x y=none:=by rw[R x y,if_neg (fun h=>by rw[hA]at h;cases h.2.2)]
 refine⟨hn,fun u z=> ?_⟩
 rw[GC hn,R u z,k7]
 by_cases hu:u=x/\z=y
 ·obtain⟨rfl,rfl⟩:=hu
  rw[if_pos ⟨rfl,rfl⟩,if_pos ⟨hx,hy,by simp[hA]⟩,R2 _ (KT hx hy) hA]
 ·rw[if_neg hu]
  by_cases hf:fP u/\fP z
  ·rw[if_neg (c:=bI u z=bI x y) (fun e=>hu (BP hf.1 hf.2 hx hy e))]
  ·rw[if_neg (fun h=>hf ⟨h.1,h.2.1⟩),if_neg (fun h=>hf ⟨h.1,h.2.1⟩)]
theorem ti{x y:Int}(hx:fP x)(hy:fP y):((bI x y:Nat):Int)/121-60=x/\((bI x y:Nat):Int)%121-60=y:=by
 unfold bI fP at*
 omega
def iU(l:List Nat):List Value:=(l.map fun i:Nat=>[VI ((i:Int)/121-60),VI ((i:Int)%121-60)]).flatten
theorem nN:∀l:List Nat,(iU l).length=l.length*2
 |[]=>rfl
 |i::l=>by
  have:=nN l
  unfold iU at*
  simp only[List.map_cons,List.flatten_cons,List.length_append,List.length_cons,List.length_nil,this]
  omega
theorem GD(l:List Nat)(i:Nat):iU (l++[i])=iU l++[VI ((i:Int)/121-60),VI ((i:Int)%121-60)]:=by
 unfold iU
 rw[List.map_append,List.flatten_append]
 simp
theorem zM:∀{l:List Nat}{j:Nat}(h:j<l.length),(iU l)[j*2]?=some (VI ((l[j]:Int)/121-60))/\(iU l)[j*2+1]?=some (VI ((l[j]:Int)%121-60))
 |i::l,0,h=>⟨rfl,rfl⟩
 |i::l,j+1,h=>by
  have:=zM (l:=l) (j:=j) (by simpa using h)
  have e:iU (i::l)=VI ((i:Int)/121-60)::VI ((i:Int)%121-60)::iU l:=rfl
  rw[e,show(j+1)*2=j*2+1+1 by omega,show j*2+1+1+1=(j*2+1)+1+1 by omega]
  simp only[List.getElem?_cons_succ,List.getElem_cons_succ]
  exact this
def U1(P:Program)(kt:TypeId):Bool:=match P.underlying kt with
 |some (.struct fs)=>match fs.toList with
  |[f0,f1]=>(match P.underlying f0.type with|some (.int .i64)=>true|_=>false)&&(match P.underlying f1.type with|some (.int .i64)=>true|_=>false)&& !(f0.name== "_")&& !(f1.name== "_")&&Nat.beq f0.offset 0&&Nat.beq f1.offset 1&& !P.stoodInHeld kt
  |_=>false
 |_=>false
theorem Jl{P:Program}{kt:TypeId}(h:U1 P kt=true):∃f0 f1,nM P kt f0 f1:=by
 unfold U1 at h
 split at h
 ·rename_i fs hu
  split at h
  ·rename_i f0 f1 hf
   simp only[Bool.and_eq_true,Bool.not_eq_true']at h
   obtain⟨⟨⟨⟨⟨⟨h1,h2⟩,h3⟩,h4⟩,h5⟩,h6⟩,h7⟩:=h
   refine⟨f0,f1,?_,?_,?_,by simpa using h3,by simpa using h4,Nat.eq_of_beq_eq_true h5,Nat.eq_of_beq_eq_true h6,h7⟩
   ·rw[hu]
    congr 2
    apply Array.ext'
    exact hf
   ·split at h1
    ·assumption
    ·cases h1
   ·split at h2
    ·assumption
    ·cases h2
  ·cases h
 ·cases h
@[reducible] def tCe:TypeId:=220
@[reducible] def akB:TypeId:=222
@[reducible] def tCm:TypeId:=221
theorem adn:nh Tryz.prog akB=some (tCe,2,16,[VI 0,VI 0]):=by kernel_rfl
theorem aan:∃f0 f1,nM Tryz.prog tCe f0 f1:=Jl (by kernel_rfl)
theorem aao{x y:Int}{r:Nat}(hx:fP x)(hy:fP y)(hr:r<4){h:Heap}(K:Value->Heap->Prop)(HK:∀h',Fr No h h'->K (.agg #[VI (mvX x r),VI (mvY y r)]) h'):aE Tryz.prog 265 #[.agg #[VI x,VI y],VI r] h K:=by
 unfold fP at hx hy
 refine ait x y r h K ⟨fun e b1 b2 h3 _ _ f3 _=> ?_,fun e=>⟨fun e2 b1 b2 h3 _ _ f3 _=> ?_,fun e2=>⟨fun e3 b1 b2 h3 _ _ f3 _=> ?_,fun e3 b1 b2 h3 _ _ f3 _=> ?_⟩⟩⟩
 ·simp only[decide_eq_true_eq]at e
  rw[aH _ (by omega) (by omega)]
  have:=HK h3 f3.aF
  rw[e]at this
  exact this
 ·simp only[decide_eq_true_eq]at e2
  rw[aH _ (by omega) (by omega)]
  have:=HK h3 f3.aF
  rw[e2]at this
  exact this
 ·simp only[decide_eq_true_eq]at e3
  rw[aH _ (by omega) (by omega)]
  have:=HK h3 f3.aF
  rw[e3]at this
  exact this
 ·simp only[decide_eq_false_iff_not]at e e2 e3
  rw[aH _ (by omega) (by omega)]
  have:=HK h3 f3.aF
  have e5:(r:Int)=3:=by omega
  rw[e5]at this
  exact this
set_option maxHeartbeats 4000000 in
theorem aap{N k:Nat}(hN:N<=250)(hk:k<4){h:Heap}(K:Value->Heap->Prop)
 (HK:∀b1 m s st h' A B C l,eO k N=some (A,B,C,l)->Vars h' [(b1,[.map m,Sl.v s,VI st])]->Ow h' (fun q=>h.size<=q) tCe 2 s (iU l)->Fr No h h'->K (VP b1 0) h'):aE Tryz.prog 264 #[VI N,VI k,VI 4,.func (.func 265) #[] #[]] h K:=by
 obtain⟨c0,c1,CT⟩:=aan
 have hm:Tryz.prog.underlying tCm=some (.map tCe tI):=by kernel_rfl
 have hz:oG Tryz.prog tI=some (VI 0):=by kernel_rfl
 refine air N k 4 _ h K (Ef fun h1 M1 f1 z1=>⟨some h.size,rfl,.nil,fun b1 h2 dT f2 bW=> ?_⟩)
 have f2:=f2.aF
 have z2:=f2.size
 have l1:b1<h2.size:=bW.head.lt
 have M2:=M1.fr f2 fun h=>h
 refine⟨fun n t x1 x2 x3 h'=>∃(j A B C:Nat)(l:List Nat)(eY:List ((Int×Int)×Int)),t=j/\n+j=N/\eO k j=some (A,B,C,l)/\x1=some h.size/\tg h' h.size eY/\zK eY A B C/\nX k A B C/\Ow h' (fun q=>h.size<q/\q≠b1) tCe 2 x2 (iU l)/\Fr (fun q=>h.size<=q) h h',
  ⟨N,0,_,_,_,_,[],rfl,by omega,rfl,rfl,M2,zK.first k,nX.first hk,Ow.nil _ _ _ _,(f1.aA f2).aB⟩,?_⟩
 rintro n t _ x2 x3 h3 ⟨j,A,B,C,l,eY,rfl,hn,hc,rfl,M3,R3,T3,O3,F3⟩ cF
 have z3:=F3.size
 have l3:b1<h3.size:=cF.head.lt
 have ll:=ij hc
 refine⟨fun e=> ?_,fun e=> ?_⟩
 ·simp only[decide_eq_true_eq]at e
  intro b2 h5 dC f5 gr
  have f5:=f5.aF
  have z5:=f5.size
  obtain⟨A',B',C',l',Qs⟩:=lG (k:=k) (n:=j+1) hk (by omega)
  obtain⟨i9,hw,rfl,rfl⟩:=lH hc Qs
  have hM:tg h5 h.size eY:=M3.fr f5 fun h=>h
  refine⟨fun m x y x6 x7 x8 h'=>∃(B2 C2:Nat)(eY:List ((Int×Int)×Int)),nW m A B2 C2 (bI x y)=some (i9,B',C')/\fP x/\fP y/\x6=some h.size/\x7=x2/\tg h' h.size eY/\zK eY A B2 C2/\nX k A B2 C2/\Ow h' (fun q=>h.size<q/\q≠b1) tCe 2 x2 (iU l)/\b2<h'.size/\Fr (fun q=>h.size<=q) h h',
   ⟨1000,B,C,eY,hw,by decide,by decide,rfl,rfl,hM,R3,T3,Ow.no O3 f5,gr.head.lt,F3.trans f5.aB⟩,?_⟩
  rintro m x y _ x7 x8 h6 ⟨B2,C2,TV,hw2,hx,hy,rfl,rfl,M6,R6,T6,O6,l6,F6⟩ iY
  have v6:=R6 x y
  have TW:∀{X Y:Heap},Fr (In [h.size]) X Y->∀p,p∈[(b2,[VI x,VI y]),(b1,[Value.map (some h.size),x7.v,VI x8])]->¬In [h.size] p.1:=fun _ p hp hk=>by
   simp only[In,List.mem_singleton]at hk
   simp only[List.mem_cons,List.not_mem_nil,or_false]at hp
   rcases hp with rfl|rfl
   ·simp only at hk;omega
   ·simp only at hk;omega
  have z6:=F6.size
  refine GA CT hm hz M6 ⟨_,_,rfl,fun e2=> ?_,fun e2=> ?_⟩
  ·have hf:gF TV x y=none:=by simpa using e2
   have hA:A.testBit (bI x y)=false:=by
    unfold rJ at v6
    rw[hf]at v6
    cases hb:A.testBit (bI x y)with
    |false=>rfl
    |true=>rw[if_pos ⟨hx,hy,hb⟩]at v6;cases v6
   have hR:=uZ hw2 hA
   simp only[Prod.mk.injEq]at hR
   obtain⟨rfl,rfl,rfl⟩:=hR
   obtain⟨_,R7⟩:=R6.new T6 hx hy hA
   refine PY CT hm M6 hf fun u h7 M7 f7=>⟨iY.fr f7 (TW f7),?_⟩
   have z7:=f7.size
   have jC:=iY.fr f7 (TW f7)
   have O7:=Ow.fr O6 f7 fun q hq gO=>by have:=(O6.aG hq).1.1;simp only[In,List.mem_singleton]at gO;omega
   refine aQ adn (fun q=>h7.size<=q) (fun _ h=>h) 1 (by omega) [VI x,VI y] rfl rfl fun s h8 n8 c8 o8 f8 m8 _=>⟨s,rfl,jC.aB f8,?_⟩
   have z8:=f8.size
   have l7:b1<h8.size:=(jC.aB f8).tail.head.lt
   have sl:x7.n=l.length:=by have:=O7.rd.len;rw[nN]at this;omega
   refine bQ adn (Ow.no O7 f8) (fun q hq=>⟨by omega,by omega⟩) o8.rd rfl (by omega) fun t9 h9 n9 o9 f9 w9=> ?_
   have akC:∀p,p∈[(b2,[VI x,VI y]),(b1,[Value.map (some h.size),x7.v,VI x8])]->¬x7.own p.1:=fun p hp hk=>by
    simp only[List.mem_cons,List.not_mem_nil,or_false]at hp
    rcases hp with rfl|rfl
    ·have:=(O3.aG hk).2;simp only at this;omega
    ·exact(O7.aG hk).1.2 rfl
   refine⟨t9,rfl,(jC.aB f8).fr f9 akC,fun dV f10 dN=> ?_⟩
   have z9:=f9.size
   have mo:∀{q:Nat},In [b1] q->h.size<q:=fun hq=>by simp only[In,List.mem_singleton]at hq;omega
   have M10:=((M7.fr f8 fun h=>h).fr f9 fun hq=>by have:=(O7.aG hq).1.1;omega).fr f10 fun hq=>by have:=mo hq;omega
   refine⟨n-1,by omega,j+1,_,_,_,_,_,?_,by omega,Qs,rfl,M10,R7,?_,?_,?_⟩
   ·rw[aH _ (by omega) (by omega)];omega
   ·rcases T6.grow (i:=bI x y)with hh|hh
    ·exact hh
    ·rw[hA]at hh;cases hh
   ·rw[GD,(ti hx hy).1,(ti hx hy).2]
    exact Ow.fr o9 f10 fun q hq gO=>by simp only[In,List.mem_singleton]at gO;exact(o9.aG hq).1.2 gO
   ·refine(((F6.trans (f7.mono fun q _ hq=>by simp only[In,List.mem_singleton]at hq;omega)).trans f8.aB).trans (f9.mono fun q _ hq=>by have:=(O7.aG hq).1.1;omega)).trans (f10.mono fun q _ hq=>by have:=mo hq;omega)
  ·obtain⟨p,hf⟩:∃p,gF TV x y=some p:=by
    cases hf:gF TV x y with
    |none=>rw[hf]at e2;cases e2
    |some p=>exact⟨p,rfl⟩
   obtain⟨jj,rr⟩:=p
   have hA:A.testBit (bI x y)=true:=by
    unfold rJ at v6
    rw[hf]at v6
    cases hb:A.testBit (bI x y)with
    |true=>rfl
    |false=>rw[if_neg (fun h=>by rw[hb]at h;cases h.2.2)]at v6;cases v6
   have hrr:rr=(ku B2 C2 (bI x y):Int):=by
    unfold rJ at v6
    rw[hf,if_pos ⟨hx,hy,hA⟩]at v6
    exact Option.some.inj v6
   subst hrr
   obtain⟨hi,m',rfl,hw3⟩:=rH hw2 hA
   have tE:=KS B2 C2 (bI x y)
   have et:Int.tmod (aL (((Option.map (fun p:Nat×Int=>p.2) (gF TV x y)).getD 0)+1)) 4=(((ku B2 C2 (bI x y)+1)%4:Nat):Int):=by
    rw[hf]
    simp only[Option.map_some,Option.getD_some]
    rw[aH _ (by omega) (by omega),Int.tmod_eq_emod_of_nonneg (by omega)]
    omega
   rw[et]
   obtain⟨g1,g2,g3⟩:=Gz (r:=(ku B2 C2 (bI x y)+1)%4) hx hy rfl hi (by omega)
   refine⟨by omega,PX CT hm M6 hf fun u h7 M7 f7=>⟨iY.fr f7 (TW f7),?_⟩⟩
   have z7:=f7.size
   have jC:=iY.fr f7 (TW f7)
   have O7:=Ow.fr O6 f7 fun q hq gO=>by have:=(O6.aG hq).1.1;simp only[In,List.mem_singleton]at gO;omega
   refine aao hx hy (by omega) _ fun h8 f8=>⟨_,_,rfl,jC.aB f8,fun dV f10 dN=>⟨m',by omega,_,_,_,by rw[g3];exact hw3,g1,g2,rfl,rfl,?_,R6.set hx hy hf,T6.step hA,?_,dN.head.lt,?_⟩⟩
   ·exact(M7.fr f8 fun h=>h).fr f10 fun hq=>by simp only[In,List.mem_cons,List.not_mem_nil,or_false]at hq;omega
   ·refine Ow.fr (Ow.no O7 f8) f10 fun q hq gO=> ?_
    simp only[In,List.mem_cons,List.not_mem_nil,or_false]at gO
    have h1:=(O3.aG hq)
    rcases gO with rfl|rfl
    ·exact h1.1.2 rfl
    ·have:=h1.2;omega
   ·exact((F6.trans (f7.mono fun q _ hq=>by simp only[In,List.mem_singleton]at hq;omega)).trans f8.aB).trans (f10.mono fun q _ hq=>by simp only[In,List.mem_cons,List.not_mem_nil,or_false]at hq;omega)
 ·simp only[decide_eq_false_iff_not]at e
  have:j=N:=by omega
  subst this
  exact HK b1 _ x2 x3 h3 A B C l hc cF (O3.mono fun q _ hq=>by omega) (F3.mono fun q hq gO=>absurd gO (by omega))
theorem TX{h:Heap}(n k:Int)(K:Value->Heap->Prop)(HN:¬(0<=n/\n<=250/\0<=k/\k<=3)->K (.tuple #[.pointer none,VB false]) h)
 (HY:0<=n/\n<=250/\0<=k/\k<=3->∀b1 m s st h' A B C l,eO k.toNat n.toNat=some (A,B,C,l)->Vars h' [(b1,[.map m,Sl.v s,VI st])]->Ow h' (fun q=>h.size<=q) tCe 2 s (iU l)->Fr No h h'->K (.tuple #[VP b1 0,VB true]) h'):aE Tryz.prog 220 #[VI n,VI k] h K:=by
 refine ahE n k h K (eJ _ _ _ h _ ⟨_,rfl,.nil,fun e=>HN fun hh=> ?_,fun e=> ?_⟩)
 ·simp at e;omega
 have e:0<=n/\n<=250:=by simpa using e
 refine eJ _ _ _ h _ ⟨_,rfl,.nil,fun e2=>HN fun hh=> ?_,fun e2=> ?_⟩
 ·simp at e2;omega
 have e2:0<=k/\k<=3:=by simpa using e2
 replace HY:=HY ⟨e.1,e.2,e2⟩
 obtain⟨N,rfl⟩:∃N:Nat,n=N:=⟨n.toNat,by omega⟩
 obtain⟨k,rfl⟩:∃k':Nat,k=k':=⟨k.toNat,by omega⟩
 refine aap (by omega) (by omega) _ fun b1 m s st h' A B C l hc V O f=>⟨some ⟨b1,0,none⟩,rfl,.nil,HY b1 m s st h' A B C l hc V O f⟩
theorem BR{N k A B C:Nat}{l:List Nat}(hN:1<=N/\N<=250)(hk:k<4)(hc:eO k N=some (A,B,C,l)):∃h:N-1<l.length,pG N k=([((l[N-1]:Nat):Int)/121-60,((l[N-1]:Nat):Int)%121-60],true):=by
 have ll:=ij hc
 refine⟨by omega,?_⟩
 unfold pG
 rw[if_pos (by omega),Int.toNat_natCast,Int.toNat_natCast,hc]
 have:l.getLastD 0=l[N-1]'(by omega):=by
  have e1:l.getLast?=some (l[N-1]'(by omega)):=by
   rw[List.getLast?_eq_getElem?,show l.length-1=N-1 by omega]
   exact List.getElem?_eq_getElem _
  rw[List.getLastD_eq_getLast?,e1]
  rfl
 simp only[this]
theorem Eg{h:Heap}(n k:Int)(K:Value->Heap->Prop)(HK:∀t h',bM h' (fun q=>h.size<=q) t (pG n k).1->Fr No h h'->K (.tuple #[t.v,VB (pG n k).2]) h'):aE Tryz.prog 170 #[VI n,VI k] h K:=by
 have no:¬(1<=n/\n<=250/\0<=k/\k<=3)->∀h',Fr No h h'->K (.tuple #[aC.v,VB false]) h':=fun hn h' f=>by
  unfold pG at HK
  rw[if_neg hn]at HK
  exact HK aC h' (Ow.nil _ _ _ _) f
 refine agv n k h K (TX n k _ (fun hn=>⟨none,false,rfl,.nil,fun _=>no (fun h=>hn (by omega)) h (Fr.refl _ _),fun e=>by cases e⟩) fun hy b1 m s st h1 A B C l hc V O f1=>⟨some ⟨b1,0,none⟩,true,rfl,.nil,fun e=>(by cases e),fun _=>⟨fun e=> ?_,fun e=> ?_⟩⟩)
 ·simp only[decide_eq_true_eq]at e
  exact no (by omega) h1 f1
 ·simp only[decide_eq_false_iff_not]at e
  obtain⟨N,rfl⟩:∃N:Nat,n=N:=⟨n.toNat,by omega⟩
  obtain⟨k,rfl⟩:∃k':Nat,k=k':=⟨k.toNat,by omega⟩
  rw[Int.toNat_natCast,Int.toNat_natCast]at hc
  obtain⟨hl,eg⟩:=BR (by omega) (by omega) hc
  have sl:s.n=l.length:=by have:=O.rd.len;rw[nN]at this;omega
  have ll:=ij hc
  rw[aH _ (by omega) (by omega)]
  have ei:(((N:Int)-1)).toNat=N-1:=by omega
  rw[eg]at HK
  obtain⟨q1,q2⟩:=zM hl
  have z1:=f1.size
  refine⟨b1,m,s,st,rfl,V,O.bB (by omega) (by omega),((l[N-1]:Nat):Int)/121-60,((l[N-1]:Nat):Int)%121-60,?_,fun b2 h3 dC f3 cF=> ?_⟩
  ·obtain⟨g,o,j8,ha,_,_,Re,_⟩:=O.Ce (i:=(N:Int)-1) (by omega) (by omega)
   have cl:=nN l
   have cell:∀j v,(iU l)[j]?=some v->aS h1 (⟨g,o+j,none⟩:Addr)=some v:=fun j v hv=>by
    obtain⟨hj,e1⟩:=List.getElem?_eq_some_iff.1 hv
    obtain⟨a,h1,_,h2⟩:=O.rd.cell j hj
    rw[ha]at h1
    have h1:=Option.some.inj h1
    subst h1
    rw[gz]at h2
    rw[h2,e1]
   intro j hj
   rw[Re,ei,gz,Nat.add_assoc]
   rcases(by simp at hj;omega:j=0\/j=1)with rfl|rfl
   ·exact cell _ _ q1
   ·exact cell _ _ q2
  ·refine aQ fy (fun q=>h3.size<=q) (fun _ h=>h) 2 (by omega) [VI (((l[N-1]:Nat):Int)/121-60),VI (((l[N-1]:Nat):Int)%121-60)] rfl rfl fun t h4 n4 c4 o4 f4 m4 _=>⟨t,rfl,cF.aB f4,?_⟩
   have z3:=f3.aF.size
   exact HK t h4 (by show Ow _ _ _ _ _ _;exact o4.mono fun q _ hq=>by omega) ((f1.aA f3.aF).aA f4)
theorem Jm{x y:Int}(hx:fP x)(hy:fP y){h:Heap}(K:Value->Heap->Prop)(HK:K (VI (bI x y:Nat)) h):aE Tryz.prog 241 #[VI x,VI y] h K:=by
 refine ah4 x y h K ?_
 unfold abN pk
 unfold fP at hx hy
 rw[aH (x+60) (by omega) (by omega),aH ((x+60)*121) (by omega) (by omega),aH ((x+60)*121+y) (by omega) (by omega),aH _ (by omega) (by omega)]
 have e:((bI x y:Nat):Int)=(x+60)*121+y+60:=by unfold bI;omega
 rw[<-e]
 exact HK
theorem PZ{x y:Int}{r:Nat}(hx:fP x)(hy:fP y)(hr:r<4){h:Heap}(K:Value->Heap->Prop)(HK:K (.tuple #[VI (mvX x r),VI (mvY y r)]) h):aE Tryz.prog 242 #[VI x,VI y,VI r] h K:=by
 unfold fP at hx hy
 refine ah6 x y r h K ⟨fun e=> ?_,fun e=>⟨fun e2=> ?_,fun e2=>⟨fun e3=> ?_,fun e3=> ?_⟩⟩⟩
 ·simp only[decide_eq_true_eq]at e
  rw[aH _ (by omega) (by omega)]
  rw[e]at HK
  exact HK
 ·simp only[decide_eq_true_eq]at e2
  rw[aH _ (by omega) (by omega)]
  rw[e2]at HK
  exact HK
 ·simp only[decide_eq_true_eq]at e3
  rw[aH _ (by omega) (by omega)]
  rw[e3]at HK
  exact HK
 ·simp only[decide_eq_false_iff_not]at e e2 e3
  rw[aH _ (by omega) (by omega)]
  have e5:(r:Int)=3:=by omega
  rw[e5]at HK
  exact HK
def nY(l:List Nat):List (List Int):=l.map fun i:Nat=>[(i:Int)/121-60,(i:Int)%121-60]
theorem Jn(l:List Nat)(i:Nat):nY (l++[i])=nY l++[[(i:Int)/121-60,(i:Int)%121-60]]:=by simp[nY]
def GrL(gl:List Bool)(A:Nat):Prop:=gl.length=14641/\∀j,j<14641->gl.getD j false=A.testBit j
def RoL(rl:List Int)(B C:Nat):Prop:=rl.length=14641/\∀j,j<14641->rl.getD j 0=(ku B C j:Int)
theorem u1{α:Type}{l:List α}{i j:Nat}{v d:α}(hi:i<l.length):(l.set i v).getD j d=if j=i then v else l.getD j d:=by
 rw[List.getD_eq_getElem?_getD,List.getD_eq_getElem?_getD,List.getElem?_set]
 by_cases h:i=j
 ·subst h;rw[if_pos rfl,if_pos hi,if_pos rfl,Option.getD_some]
 ·rw[if_neg h,if_neg (fun e=>h e.symm)]
theorem GrL.grow{gl:List Bool}{A i:Nat}(G:GrL gl A)(hi:i<14641)(hA:A.testBit i=false):GrL (gl.set i true) (A^^^2^i):=⟨by rw[List.length_set];exact G.1,fun j hj=>by
 rw[u1 (by rw[G.1];exact hi),k7]
 by_cases h:j=i
 ·subst h;rw[if_pos rfl,if_pos rfl,hA];rfl
 ·rw[if_neg h,if_neg h];exact G.2 j hj⟩
theorem RoL.turn{rl:List Int}{B C i:Nat}(R:RoL rl B C)(hi:i<14641):RoL (rl.set i (((ku B C i+1)%4:Nat):Int)) (B^^^2^i) (bif B.testBit i then C^^^2^i else C):=⟨by rw[List.length_set];exact R.1,fun j hj=>by
 rw[u1 (by rw[R.1];exact hi),uY]
 by_cases h:j=i
 ·rw[if_pos h,if_pos h]
 ·rw[if_neg h,if_neg h];exact R.2 j hj⟩
theorem GF{h:Heap}{n:Int}{m:Nat}(e:n=m)(hm:m<=100000){K:Value->Heap->Prop}(HK:∀x h',Ow h' (fun k=>h.size<=k) tB 1 x ((List.replicate m false).map VB)->Fr No h h'->K x.v h'):jU Tryz.prog (Instr.makeSlice tBs (VI n) (VI n)) h K:=by
 subst e
 refine eB rBs (fun k=>_<=k) (fun _ h=>h) .i64 .i64 m m (Nat.le_refl _) (by omega) fun t h2 n2 c2 o2 f2 m2 _=>HK t h2 ?_ f2
 have e:(List.replicate m [VB false]).flatten=(List.replicate m false).map VB:=by simp[List.flatten_replicate_singleton]
 rw[e]at o2;exact o2
set_option maxHeartbeats 8000000 in
theorem aaq{N k:Nat}(hN:N<=250)(hk:k<4){h:Heap}(K:Value->Heap->Prop)
 (HK:∀b1 x1 x2 x3 st h' A B C l,eO k N=some (A,B,C,l)->Vars h' [(b1,[Sl.v x1,Sl.v x2,Sl.v x3,VI st])]->fQ h' (fun q=>h.size<=q) x3 (nY l)->Fr No h h'->K (VP b1 0) h'):aE Tryz.prog 193 #[VI N,VI k] h K:=by
 refine v193 N k h K ⟨fun b1 x1 x2 x3 x4 h'=>x3=aC/\Ow h' (fun q=>h.size<=q/\q<b1) tB 1 x1 ((List.replicate 14641 false).map VB)/\bM h' (fun q=>h.size<=q/\q<b1) x2 (List.replicate 14641 0)/\Dj x1 x2/\Fr No h h'/\h.size<=b1,?_,?_⟩
 ·refine⟨GF (m:=14641) rfl (by omega) fun g h1 o1 f1=>⟨g,rfl,.nil,iS (m:=14641) rfl (by omega) fun r h2 o2 f2=>⟨r,rfl,.nil,fun b1 h3 hb f3 hL=> ?_⟩⟩,iS (m:=14641) rfl (by omega) fun r h1 o1 f1=>⟨r,rfl,.nil,GF (m:=14641) rfl (by omega) fun g h2 o2 f2=>⟨g,rfl,.nil,fun b1 h3 hb f3 hL=> ?_⟩⟩⟩
  ·have f3:=f3.aF
   have z1:=f1.size
   have z2:=f2.size
   refine⟨rfl,(Ow.no (Ow.no o1 f2) f3).mono fun q hq _=>⟨(o1.aG hq).1,by have:=(o1.aG hq).2;omega⟩,(Ow.no o2 f3).mono fun q hq _=>⟨by have:=(o2.aG hq).1;omega,by have:=(o2.aG hq).2;omega⟩,fun q hq gO=>by have:=(o1.aG hq).2;have:=(o2.aG gO).1;omega,(f1.aA f2).aA f3,by omega⟩
  ·have f3:=f3.aF
   have z1:=f1.size
   have z2:=f2.size
   refine⟨rfl,(Ow.no o2 f3).mono fun q hq _=>⟨by have:=(o2.aG hq).1;omega,by have:=(o2.aG hq).2;omega⟩,(Ow.no (Ow.no o1 f2) f3).mono fun q hq _=>⟨(o1.aG hq).1,by have:=(o1.aG hq).2;omega⟩,fun q hq gO=>by have:=(o2.aG hq).1;have:=(o1.aG gO).2;omega,(f1.aA f2).aA f3,by omega⟩
 rintro b1 g r _ x4 h7 ⟨rfl,G7,R7,dj,F7,hb⟩ jC
 have rn:r.n=14641:=by have:=R7.rd.len;rw[List.length_map,List.length_replicate]at this;omega
 have gb:¬g.own b1:=fun hk=>by have:=(G7.aG hk).1.2;omega
 have rb:¬r.own b1:=fun hk=>by have:=(R7.aG hk).1.2;omega
 have lb7:=jC.head.lt
 refine⟨fun m i h'=>∃rl:List Int,0<=i/\i+m=14641/\rl.length=14641/\(∀j,j<i.toNat->rl.getD j 0=(k:Int))/\bM h' (fun q=>h.size<=q/\q<b1) r rl/\Ow h' (fun q=>h.size<=q/\q<b1) tB 1 g ((List.replicate 14641 false).map VB)/\Fr (fun q=>h.size<=q) h h',⟨14641,_,by omega,by omega,List.length_replicate,fun j hj=>absurd hj (by simp),R7,G7,F7.aB⟩,?_⟩
 rintro m i h8 ⟨rl,i0,i1,i2,i3,R8,G8,F8⟩ fA
 refine⟨fun e=> ?_,fun e=> ?_⟩
 ·simp only[decide_eq_true_eq]at e
  obtain⟨w1,w2,w3⟩:=R8.eX i0 e (VI k)
  refine⟨R8.bB i0 e,w1,gN fA w3 rb,fun h9 e9 fS=>⟨m-1,by omega,rl.set i.toNat k,?_,?_,by rw[List.length_set];exact i2,fun j hj=> ?_,?_,?_,?_⟩⟩
  ·rw[aH _ (by omega) (by omega)];omega
  ·rw[aH _ (by omega) (by omega)];omega
  ·rw[aH _ (by omega) (by omega)]at hj
   rw[u1 (by omega)]
   split
   ·rfl
   ·exact i3 j (by omega)
  ·subst e9;show Ow _ _ _ _ _ _;rw[List.map_set];exact w2
  ·subst e9;exact Ow.fr G8 w3 fun q hq gO=>dj q hq gO
  ·subst e9;exact F8.trans (w3.mono fun q _ hq=>(R8.aG hq).1.1)
 simp only[decide_eq_false_iff_not]at e
 have hR0:RoL rl (mR (k.testBit 0)) (mR (k.testBit 1)):=⟨i2,fun j hj=>by rw[i3 j (by omega),Gy hk hj]⟩
 have hG0:GrL (List.replicate 14641 false) 0:=⟨List.length_replicate,fun j hj=>by rw[Nat.zero_testBit,List.getD_eq_getElem?_getD,List.getElem?_replicate];split<;>rfl⟩
 refine⟨fun n n0 y5 y6 y7 y8 h'=>∃(j A B C:Nat)(l:List Nat)(gl:List Bool)(rl:List Int),n0=(N:Int)-j/\n+j=N/\eO k j=some (A,B,C,l)/\y5=g/\y6=r/\GrL gl A/\RoL rl B C/\bM h' (fun q=>h.size<=q/\q<b1) r rl/\Ow h' (fun q=>h.size<=q/\q<b1) tB 1 g (gl.map VB)/\fQ h' (fun q=>b1+1<=q) y7 (nY l)/\Fr (fun q=>h.size<=q) h h',
  ⟨N,0,0,mR (k.testBit 0),mR (k.testBit 1),[],_,_,(Int.sub_zero _).symm,Nat.add_zero _,rfl,rfl,rfl,hG0,hR0,R8,G8,dI.nil _ _ _ _,F8⟩,?_⟩
 rintro n _ y5 y6 y7 y8 dV ⟨j,A,B,C,l,gl,rl,rfl,hn,hc,rfl,rfl,hG,hR,R10,He,X10,oq⟩ dN
 have ll:=ij hc
 refine⟨fun e2=> ?_,fun e2=> ?_⟩
 ·simp only[decide_eq_true_eq]at e2
  obtain⟨A',B',C',l',Qs⟩:=lG (k:=k) (n:=j+1) hk (by omega)
  obtain⟨i9,hw,rfl,rfl⟩:=lH hc Qs
  refine⟨fun m x y z9 Ah QB z12 h'=>∃(B2 C2:Nat)(rl:List Int),nW m A B2 C2 (bI x y)=some (i9,B',C')/\fP x/\fP y/\z9=y5/\Ah=y6/\QB=y7/\RoL rl B2 C2/\bM h' (fun q=>h.size<=q/\q<b1) y6 rl/\Ow h' (fun q=>h.size<=q/\q<b1) tB 1 y5 (gl.map VB)/\fQ h' (fun q=>b1+1<=q) y7 (nY l)/\Fr (fun q=>h.size<=q) h h',
   ⟨1000,B,C,rl,hw,by decide,by decide,rfl,rfl,rfl,hR,R10,He,X10,oq⟩,?_⟩
  rintro m x y z9 Ah QB z12 gP ⟨B2,C2,rl2,hw2,hx,hy,rfl,rfl,rfl,hR2,Sn,TY,X11,F11⟩ iC
  have hi:=KT hx hy
  have aqg:=F11.size
  have aqh:=iC.head.lt
  have gR:=TY.rd
  have gi:((bI x y:Nat):Int)<((gl.length:Nat):Int):=by rw[hG.1];omega
  have cg:=aiR gR (i:=(bI x y:Nat)) (by omega) gi
  have egl:gl[((bI x y:Nat):Int).toNat]'(by rw[hG.1];omega)=A.testBit (bI x y):=by
   have:=hG.2 _ hi
   rw[List.getD_eq_getElem?_getD,List.getElem?_eq_getElem (by rw[hG.1];exact hi),Option.getD_some]at this
   exact this
  rw[egl]at cg
  have adr:dS z9 ((bI x y:Nat):Int):=cW.bB gR (by omega) (by rw[List.length_map];exact gi)
  refine Jm hx hy _ ⟨_,rfl,iC,adr,_,cg,fun e3=> ?_,fun e3=> ?_⟩
  ·obtain⟨Vy,m',rfl,hw3⟩:=rH hw2 e3
   have tE:=KS B2 C2 (bI x y)
   have rR:aP Ah.own gP Ah rl2:=Sn.rd
   have ri:((bI x y:Nat):Int)<(rl2.length:Int):=by rw[hR2.1];omega
   have cr:=rR.get (i:=(bI x y:Nat)) (by omega) ri
   have erl:rl2[((bI x y:Nat):Int).toNat]'(by rw[hR2.1];omega)=(ku B2 C2 (bI x y):Int):=by
    have:=hR2.2 _ hi
    rw[List.getD_eq_getElem?_getD,List.getElem?_eq_getElem (by rw[hR2.1];exact hi),Option.getD_some]at this
    exact this
   rw[erl]at cr
   have et:Int.tmod (aL ((ku B2 C2 (bI x y):Int)+1)) 4=(((ku B2 C2 (bI x y)+1)%4:Nat):Int):=by
    rw[aH _ (by omega) (by omega),Int.tmod_eq_emod_of_nonneg (by omega)]
    omega
   have rnb:dS Ah ((bI x y:Nat):Int):=rR.bB (by omega) ri
   have rn2:Ah.n=rl2.length:=by have:=rR.len;exact this
   obtain⟨w1,w2,w3⟩:=Sn.eX (i:=(bI x y:Nat)) (by omega) (by omega) (VI (((ku B2 C2 (bI x y)+1)%4:Nat):Int))
   refine Jm hx hy _ ⟨_,rfl,iC,rnb,_,cr,rnb,?_⟩
   rw[et]
   refine⟨w1,gN iC w3 rb,fun KJ e14 L6=> ?_⟩
   subst e14
   rw[<-List.map_set,Int.toNat_natCast]at w2
   have UR:bM _ (fun q=>h.size<=q/\q<b1) Ah (rl2.set (bI x y) (((ku B2 C2 (bI x y)+1)%4:Nat):Int)):=w2
   have ads:aP Ah.own _ Ah _:=UR.rd
   have adt:=ads.get (i:=(bI x y:Nat)) (by omega) (by rw[List.length_set];exact ri)
   simp only[Int.toNat_natCast,List.getElem_set_self]at adt
   obtain⟨g1,g2,g3⟩:=Gz (r:=(ku B2 C2 (bI x y)+1)%4) hx hy rfl Vy (by omega)
   refine⟨ads.bB (by omega) (by rw[List.length_set];exact ri),_,adt,PZ hx hy (by omega) _ ⟨_,_,rfl,L6,fun WT f16 Jd=> ?_⟩⟩
   have TZ:∀{q:Nat},In [b1] q->q=b1:=fun hq=>by simpa[In]using hq
   refine⟨m',by omega,_,_,_,by rw[g3];exact hw3,g1,g2,rfl,rfl,rfl,hR2.turn hi,?_,?_,?_,?_⟩
   ·exact Ow.fr UR f16 fun q hq gO=>rb (TZ gO▸hq)
   ·exact Ow.fr (Ow.fr TY w3 fun q hq gO=>dj q hq gO) f16 fun q hq gO=>gb (TZ gO▸hq)
   ·exact(X11.fr w3 fun q _ hq gO=>by have:=(Sn.aG gO).1.2;omega).fr f16 fun q _ hq gO=>by have:=TZ gO;omega
   ·exact(F11.trans (w3.mono fun q _ hq=>(Sn.aG hq).1.1)).trans (f16.mono fun q _ hq=>by have:=TZ hq;omega)
  ·have hE:=uZ hw2 e3
   simp only[Prod.mk.injEq]at hE
   obtain⟨rfl,rfl,rfl⟩:=hE
   obtain⟨w1,w2,w3⟩:=TY.eX (i:=(bI x y:Nat)) (by omega) (by have:=aiS gR;omega) (VB true)
   refine Jm hx hy _ ⟨_,rfl,iC,adr,w1,gN iC w3 gb,fun h18 e18 adu=> ?_⟩
   subst e18
   rw[<-List.map_set,Int.toNat_natCast]at w2
   have X18:=X11.fr w3 fun q _ hq gO=>by have:=(TY.aG gO).1.2;omega
   have z18:=w3.size
   refine aQ fy (fun q=>_<=q) (fun _ h=>h) 2 (by omega) [VI x,VI y] rfl rfl fun s L7 n19 c19 o19 f19 m19 _=>⟨s,rfl,adu.aB f19,?_⟩
   have z19:=f19.size
   have X19:fQ L7 (Iv (b1+1) (Mx.cL gP (z9.at ((bI x y:Nat):Int) 1) (VB true)).size) QB (nY l):=(X18.mono fun q hq gO=>⟨gO,hq⟩).no f19
   refine jM (ys:=[x,y]) X19 (by show Ow _ _ _ _ _ _;exact o19) (by omega) z19 (adu.aB f19) (fun p hp=>by simp only[List.mem_singleton]at hp;subst hp;exact Nat.lt_succ_self _) (by simp[nY];omega) _ fun t h21 X21 f21 aqq=> ?_
   have z21:=f21.size
   intro Hc f22 aqr
   have TZ:∀{q:Nat},In [b1] q->q=b1:=fun hq=>by simpa[In]using hq
   refine⟨n-1,by omega,j+1,_,_,_,_,_,_,?_,by omega,Qs,rfl,rfl,hG.grow hi e3,hR2,?_,?_,?_,?_⟩
   ·rw[aH _ (by omega) (by omega)];omega
   ·exact Ow.fr (Ow.fr (Ow.no (Ow.fr Sn w3 fun q hq gO=>dj q gO hq) f19) f21 fun q hq gO=>by have:=(Sn.aG hq).1.2;omega) f22 fun q hq gO=>rb (TZ gO▸hq)
   ·exact Ow.fr (Ow.fr (Ow.no w2 f19) f21 fun q hq gO=>by have:=(TY.aG hq).1.2;omega) f22 fun q hq gO=>gb (TZ gO▸hq)
   ·rw[Jn,(ti hx hy).1,(ti hx hy).2]
    exact X21.fr f22 fun q _ hq gO=>by have:=TZ gO;omega
   ·exact(((F11.trans (w3.mono fun q _ hq=>(TY.aG hq).1.1)).trans f19.aB).trans (f21.mono fun q _ hq=>by omega)).trans (f22.mono fun q _ hq=>by have:=TZ hq;omega)
 ·simp only[decide_eq_false_iff_not]at e2
  have:j=N:=by omega
  subst this
  exact HK b1 y5 y6 y7 y8 dV A B C l hc dN (X10.mono fun q _ hq=>by omega) (oq.mono fun q hq gO=>absurd gO (by omega))
theorem Mo{h:Heap}(n k:Int)(K:Value->Heap->Prop)(HK:K (VB (decide (0<=n/\n<=250/\0<=k/\k<=3))) h):aE Tryz.prog 192 #[VI n,VI k] h K:=by
 refine ag5 n k h K (cY _ _ _ h _ ⟨_,rfl,.nil,fun e=>cY _ _ _ h _ ⟨_,rfl,.nil,?_⟩,fun e=> ?_⟩)
 ·have e:0<=n/\n<=250:=by simpa using e
  have:(decide (0<=k)&&decide (k<=3))=decide (0<=n/\n<=250/\0<=k/\k<=3):=by
   rw[<-Bool.decide_and]
   exact decide_eq_decide.2 ⟨fun h=>⟨e.1,e.2,h⟩,fun h=>h.2.2⟩
  rw[this]
  exact HK
 ·rw[decide_eq_false (fun h=>by simp at e;omega)]at HK
  exact HK
theorem tj{h:Heap}(n k:Int)(K:Value->Heap->Prop)(HK:∀t h',aP (fun _=>True) h' t (pG n k).1->Fr No h h'->K (.tuple #[t.v,VB (pG n k).2]) h'):aE Tryz.prog 142 #[VI n,VI k] h K:=by
 have no:¬(1<=n/\n<=250/\0<=k/\k<=3)->∀h',Fr No h h'->K (.tuple #[aC.v,VB false]) h':=fun hn h' f=>by
  unfold pG at HK
  rw[if_neg hn]at HK
  exact HK aC h' (cW.nil _ _ _) f
 refine af0 n k h K (Mo n k _ ⟨_,rfl,.nil,fun e=>no (by simp at e;omega) h (Fr.refl _ _),fun e=>⟨fun e2=> ?_,fun e2=> ?_⟩⟩)
 ·simp only[decide_eq_true_eq]at e2
  exact no (by omega) h (Fr.refl _ _)
 have e:0<=n/\n<=250/\0<=k/\k<=3:=by simpa using e
 simp only[decide_eq_false_iff_not]at e2
 obtain⟨N,rfl⟩:∃N:Nat,n=N:=⟨n.toNat,by omega⟩
 obtain⟨k,rfl⟩:∃k':Nat,k=k':=⟨k.toNat,by omega⟩
 refine aaq (by omega) (by omega) _ fun b1 x1 x2 x3 st h' A B C l hc V X f=>⟨some ⟨b1,0,none⟩,rfl,.nil,b1,x1,x2,x3,st,rfl,V,?_⟩
 obtain⟨hl,eg⟩:=BR (by omega) (by omega) hc
 have ll:=ij hc
 have Rd:=X.rd
 have rl:(nY l).length=l.length:=by simp[nY]
 rw[aH _ (by omega) (by omega)]
 have ei:((N:Int)-1).toNat=N-1:=by omega
 obtain⟨si,c1,r1⟩:=Rd.get (i:=(N:Int)-1) (by omega) (by omega)
 have er:(nY l)[((N:Int)-1).toNat]'(by omega)=[((l[N-1]:Nat):Int)/121-60,((l[N-1]:Nat):Int)%121-60]:=by simp[nY,ei]
 rw[er]at r1
 rw[eg]at HK
 exact⟨Rd.bB (by omega) (by omega),si,c1,HK si h' (r1.mono fun _ _=>trivial) f⟩
end Go.Proofs.YtcnfcnoooecchaaGreatDoor
