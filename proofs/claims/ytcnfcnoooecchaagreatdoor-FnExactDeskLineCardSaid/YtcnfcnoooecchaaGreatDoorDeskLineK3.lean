import Derived.Test.YtcnfcnoooecchaaGreatDoorDeskLineK2
set_option linter.unusedVariables false
set_option linter.unusedSimpArgs false
namespace Go.Proofs.YtcnfcnoooecchaaGreatDoor
open Go Go.Mx
theorem zx{g:List (List Int)}:∀(m k:Nat)(t:List Int)(s:St)(t':List Int)(s':St),(∀x,x∈t->0<=x/\x<=(k:Int))->runT g H9 m t s=some (t',s')->t'.length=t.length/\∀x,x∈t'->0<=x/\x<=((k+m:Nat):Int)
 |0,k,t,s,t',s',hk,h=>by
  simp only[runT,Option.some.injEq,Prod.mk.injEq]at h
  rw[<-h.1]
  exact⟨rfl,by simpa using hk⟩
 |m+1,k,t,s,t',s',hk,h=>by
  rw[runT]at h
  split at h
  ·cases h
  ·rename_i s2 hs
   have:=zx m (k+1) _ _ _ _ (xT (i:=s2.2.toNat) hk) h
   rw[show k+(m+1)=k+1+m by omega]
   exact⟨this.1.trans (oY _ _),this.2⟩
theorem PQ(g:List (List Int))(rs:List Int)(p n:Int):(od g rs p n).1.length<=8:=by
 unfold od
 split
 ·rename_i h
  rw[Bool.and_eq_true,aZ]at h
  have W:=cG h.1
  have:=aO W.bE
  split
  ·simp
  ·rename_i t s hs
   have:=(zx n.toNat 0 _ _ _ _ (fun x hx=>by simp only[List.mem_replicate]at hx;omega) hs).1
   simp at this
   simp only
   omega
 ·simp
theorem aah{F:Nat->Prop}{b b':Nat}{h:Heap}{o w:Sl}{ps:List Int}{q:Int}(V:dB h b [o.v])(V':dB h b' [w.v,VI q])(SY:b'≠b)(O:bK h F o ps)(hb:¬o.own b)(hb':¬o.own b')(h0:0<=q)(h1:q<(ps.length:Int))(hv:∀x,x∈ps->0<=x/\x<=1000000)(x:Int)(K:Value->Heap->Prop)
 (HK:∀h' v,dB h' b [o.v]->bK h' F o (bump ps q.toNat)->Fr o.own h h'->K v h'):fD Tryz.prog (.func (.func 209) #[] #[VP b 0,VP b' 0]) [VI x] h K:=by
 have R:aP F h o ps:=O.fa
 have hl:=R.len
 have hm:=hv _ (List.getElem_mem (show q.toNat<ps.length by omega))
 refine ahx x b o b' w q h K (.cons V (by simpa using SY) (.cons V' (by simp) .nil)) ⟨R.bB h0 h1,_,R.get h0 h1,R.bB h0 h1,?_⟩
 rw[aH _ (by omega) (by omega)]
 obtain⟨w1,w2,w3⟩:=O.eH h0 (by omega) (VI ((ps[q.toNat]'(by omega))+1))
 have hL:Vars (cK h (o.at q 1) (VI ((ps[q.toNat]'(by omega))+1))) [(b,[o.v]),(b',[w.v,VI q])]:= .cons (V.fr w3 hb) (by simpa using SY) (.cons (V'.fr w3 hb') (by simp) .nil)
 refine⟨w1,hL,fun h2 e2 _=> ?_⟩
 subst e2
 rw[<-List.map_set]at w2
 have e:ps.set q.toNat ((ps[q.toNat]'(by omega))+1)=bump ps q.toNat:=by unfold bump;rw[aN (by omega)]
 rw[e]at w2
 exact HK _ _ hL.head w2 w3
theorem Jc{S S':Nat->Prop}{h:Heap}{g w:Sl}{aD:List (List Int)}{rs:List Int}(G:bF S h g aD)(H:aP S' h w rs)(p n:Int)(K:Value->Heap->Prop)(HK:∀t h',bK h' (Iv h.size h'.size) t (od aD rs p n).1->Fr No h h'->K (.tuple #[t.v,VB (od aD rs p n).2]) h'):aE Tryz.prog 163 #[.agg #[g.v],.agg #[w.v,VI p],VI n] h K:=by
 refine agw g w p n h K fun b1 b2 h2 dM dE f2 bP=> ?_
 have f2:=f2.aF
 have no:od aD rs p n=([],false)->∀h',Fr No h h'->K (.tuple #[aC.v,VB false]) h':=fun e h' f=>by
  have:=HK aC h' (by rw[e];exact Ow.nil _ _ _ _) f
  rw[e]at this
  exact this
 refine Cw (G.no f2) (H.no f2) p n 2000 _ fun h3 f3=>⟨_,rfl,bP.aB f3,fun e=> ?_,fun e=> ?_⟩
 ·exact no (by unfold od;rw[if_neg (by rw[aY e];simp)]) _ (f2.aA f3)
 have e:=aV e
 have e2:od aD rs p n=match runT aD H9 n.toNat (List.replicate aD.length 0) (rs,p)with
  |none=>([],false)
  |some (t,_)=>(t,true):=by unfold od;exact if_pos e
 rw[Bool.and_eq_true,aZ]at e
 have W:=cG e.1
 have R0:=aO W.bE
 have gj:=f2.aA f3
 have z03:=gj.size
 have hL:=bP.aB f3
 have l2:b2<h3.size:=hL.head.lt
 have l1:b1<h3.size:=hL.tail.head.lt
 have fj:Fr No h3 h3:=Fr.refl _ _
 have cp:∀{h1:Heap}{K:Value->Heap->Prop},Fr No h3 h1->(∀t h2,bK h2 (Iv h1.size h2.size) t rs->Fr No h1 h2->K (.agg #[t.v,VI p]) h2)->aE Tryz.prog 110 #[.agg #[w.v,VI p]] h1 K:=fun f HK=>iy ((H.no gj).no f) p (by have:=W.len;simp only at this;omega) _ HK
 have mk:∀{h1:Heap}{K:Value->Heap->Prop},Fr No h3 h1->(∀t h2,bK h2 (Iv h1.size h2.size) t (List.replicate aD.length 0)->Fr No h1 h2->K t.v h2)->kE Tryz.prog (Instr.makeSlice sv (VI (g.n:Int)) (VI (g.n:Int))) h1 K:=fun _ HK=>dK fL (fun k=>_<=k) (fun _ h=>h) .i64 .i64 g.n g.n (Nat.le_refl _) (by rw[G.len];omega) fun t h2 n2 c2 o2 f2 m2 _=>HK t h2 (Ow.gf (by
  have e:(List.replicate g.n [VI 0]).flatten=(List.replicate aD.length (0:Int)).map VI:=by rw[G.len];simp[List.flatten_replicate_singleton]
  rw[e]at o2;exact o2)) f2
 refine⟨fun bN xw xp bO xo h'=>xp=p/\∃i1 j1 i2 j2,bK h' (Iv i1 j1) xw rs/\bK h' (Iv i2 j2) xo (List.replicate aD.length 0)/\(j1<=i2\/j2<=i1)/\(bN<i1\/j1<=bN)/\(bN<i2\/j2<=bN)/\(bO<i1\/j1<=bO)/\(bO<i2\/j2<=bO)/\h3.size<=i1/\h3.size<=i2/\h3.size<=bN/\h3.size<=bO/\j1<=h'.size/\j2<=h'.size/\bN≠bO/\Fr No h3 h',?_,?_⟩
 ·refine⟨?_,?_,?_,?_⟩
  ·refine cp fj fun u_1 pY dZ SZ=>⟨u_1,_,rfl,hL.aB SZ,?_⟩
   replace hL:=hL.aB SZ
   have acY:=SZ.size
   replace fj:=fj.aA SZ
   refine⟨?_,?_,?_⟩
   ·refine mk fj fun u_2 S0 Mm Pt=>⟨u_2,rfl,hL.aB Pt,?_⟩
    replace hL:=hL.aB Pt
    have acZ:=Pt.size
    replace dZ:=dZ.no Pt
    replace fj:=fj.aA Pt
    refine⟨?_,?_⟩
    ·intro jO Mn Ta Xo Xp Mo hL
     have Xq:jO<Ta.size:=(hL.tail).head.lt
     have Xr:Mn<Ta.size:=(hL).head.lt
     have Xs:jO≠Mn:=hL.ne (jO,_) List.mem_cons_self
     replace Mo:=Mo.aF
     have ac0:=Mo.size
     replace dZ:=dZ.no Mo
     replace Mm:=Mm.no Mo
     replace fj:=fj.aA Mo
     exact⟨rfl,h3.size,pY.size,pY.size,S0.size,dZ,Mm,by omega,by omega,by omega,by omega,by omega,by omega,by omega,by omega,by omega,by omega,by omega,by omega,fj⟩
    ·intro KT Mp tg Xt Xu Mq hL
     have Xv:KT<tg.size:=(hL.tail).head.lt
     have Xw:Mp<tg.size:=(hL).head.lt
     have Xx:KT≠Mp:=hL.ne (KT,_) List.mem_cons_self
     replace Mq:=Mq.aF
     have ac1:=Mq.size
     replace dZ:=dZ.no Mq
     replace Mm:=Mm.no Mq
     replace fj:=fj.aA Mq
     exact⟨rfl,h3.size,pY.size,pY.size,S0.size,dZ,Mm,by omega,by omega,by omega,by omega,by omega,by omega,by omega,by omega,by omega,by omega,by omega,by omega,fj⟩
   ·intro QV rm Xy Pu hL
    have Xz:QV<rm.size:=(hL).head.lt
    replace Pu:=Pu.aF
    have ac2:=Pu.size
    replace dZ:=dZ.no Pu
    replace fj:=fj.aA Pu
    refine⟨?_,?_⟩
    ·refine mk fj fun u_6 XA XB Pv=>⟨u_6,rfl,hL.aB Pv,?_⟩
     replace hL:=hL.aB Pv
     have ac3:=Pv.size
     replace dZ:=dZ.no Pv
     replace fj:=fj.aA Pv
     intro qp XC Tb Mr hL
     have Tc:qp<XC.size:=(hL).head.lt
     replace Mr:=Mr.cB (lo:=pY.size) (hi:=rm.size) ⟨⟨by omega,by omega⟩,trivial⟩
     have ac4:=Mr.size
     replace dZ:=dZ.iv Mr (by omega)
     replace XB:=XB.iv Mr (by omega)
     replace fj:=fj.aJ Mr (by omega)
     exact⟨rfl,h3.size,pY.size,rm.size,XA.size,dZ,XB,by omega,by omega,by omega,by omega,by omega,by omega,by omega,by omega,by omega,by omega,by omega,by omega,fj⟩
    ·intro uz yz Td Pw hL
     have Te:uz<yz.size:=(hL).head.lt
     replace Pw:=Pw.aF
     have ac5:=Pw.size
     replace dZ:=dZ.no Pw
     replace fj:=fj.aA Pw
     refine⟨?_,?_⟩
     ·refine mk fj fun u_9 XD Tf Px=>⟨u_9,rfl,hL.aB Px,?_⟩
      replace hL:=hL.aB Px
      have ac6:=Px.size
      replace dZ:=dZ.no Px
      replace fj:=fj.aA Px
      intro SR Df hL
      have XE:=Df.size
      replace dZ:=dZ.fr Df fun k hk aI=>by have h1:=(dZ.aG hk).1;have h2:=h1.1;have h3:=h1.2;simp only[In,List.mem_cons,List.not_mem_nil,or_false]at aI;omega
      replace Tf:=Tf.fr Df fun k hk aI=>by have h1:=(Tf.aG hk).1;have h2:=h1.1;have h3:=h1.2;simp only[In,List.mem_cons,List.not_mem_nil,or_false]at aI;omega
      replace fj:=fj.fresh Df fun k hk=>by simp only[In,List.mem_cons,List.not_mem_nil,or_false]at hk;omega
      exact⟨rfl,h3.size,pY.size,yz.size,XD.size,dZ,Tf,by omega,by omega,by omega,by omega,by omega,by omega,by omega,by omega,by omega,by omega,by omega,by omega,fj⟩
     ·intro Gc yA hL
      replace yA:=yA.cB (lo:=pY.size) (hi:=rm.size) ⟨⟨by omega,by omega⟩,trivial⟩
      have XF:=yA.size
      replace dZ:=dZ.iv yA (by omega)
      replace fj:=fj.aJ yA (by omega)
      refine mk fj fun XG uw IL yB=>⟨XG,rfl,hL.aB yB,?_⟩
      replace hL:=hL.aB yB
      have XH:=yB.size
      replace dZ:=dZ.no yB
      replace fj:=fj.aA yB
      intro Pe uA hL
      replace uA:=uA.cB (lo:=rm.size) (hi:=yz.size) ⟨⟨by omega,by omega⟩,trivial⟩
      have XI:=uA.size
      replace dZ:=dZ.iv uA (by omega)
      replace IL:=IL.iv uA (by omega)
      replace fj:=fj.aJ uA (by omega)
      exact⟨rfl,h3.size,pY.size,Gc.size,uw.size,dZ,IL,by omega,by omega,by omega,by omega,by omega,by omega,by omega,by omega,by omega,by omega,by omega,by omega,fj⟩
   ·intro Ah l9 Tg yC hL
    have Th:Ah<l9.size:=(hL).head.lt
    replace yC:=yC.aF
    have XJ:=yC.size
    replace dZ:=dZ.no yC
    replace fj:=fj.aA yC
    refine⟨?_,?_⟩
    ·refine mk fj fun XK C9 IM yD=>⟨XK,rfl,hL.aB yD,?_⟩
     replace hL:=hL.aB yD
     have XL:=yD.size
     replace dZ:=dZ.no yD
     replace fj:=fj.aA yD
     intro ma sZ Ti uB hL
     have Tj:ma<sZ.size:=(hL).head.lt
     replace uB:=uB.cB (lo:=pY.size) (hi:=l9.size) ⟨⟨by omega,by omega⟩,trivial⟩
     have XM:=uB.size
     replace dZ:=dZ.iv uB (by omega)
     replace IM:=IM.iv uB (by omega)
     replace fj:=fj.aJ uB (by omega)
     exact⟨rfl,h3.size,pY.size,l9.size,C9.size,dZ,IM,by omega,by omega,by omega,by omega,by omega,by omega,by omega,by omega,by omega,by omega,by omega,by omega,fj⟩
    ·intro li ta Tk yE hL
     have Tl:li<ta.size:=(hL).head.lt
     replace yE:=yE.aF
     have XN:=yE.size
     replace dZ:=dZ.no yE
     replace fj:=fj.aA yE
     refine⟨?_,?_⟩
     ·refine mk fj fun XO yw Dg yF=>⟨XO,rfl,hL.aB yF,?_⟩
      replace hL:=hL.aB yF
      have XP:=yF.size
      replace dZ:=dZ.no yF
      replace fj:=fj.aA yF
      intro Dc Dh hL
      have XQ:=Dh.size
      replace dZ:=dZ.fr Dh fun k hk aI=>by have h1:=(dZ.aG hk).1;have h2:=h1.1;have h3:=h1.2;simp only[In,List.mem_cons,List.not_mem_nil,or_false]at aI;omega
      replace Dg:=Dg.fr Dh fun k hk aI=>by have h1:=(Dg.aG hk).1;have h2:=h1.1;have h3:=h1.2;simp only[In,List.mem_cons,List.not_mem_nil,or_false]at aI;omega
      replace fj:=fj.fresh Dh fun k hk=>by simp only[In,List.mem_cons,List.not_mem_nil,or_false]at hk;omega
      exact⟨rfl,h3.size,pY.size,ta.size,yw.size,dZ,Dg,by omega,by omega,by omega,by omega,by omega,by omega,by omega,by omega,by omega,by omega,by omega,by omega,fj⟩
     ·intro IP yG hL
      replace yG:=yG.cB (lo:=l9.size) (hi:=ta.size) ⟨⟨by omega,by omega⟩,trivial⟩
      have XR:=yG.size
      replace dZ:=dZ.iv yG (by omega)
      replace fj:=fj.aJ yG (by omega)
      refine mk fj fun XS Gh IQ yH=>⟨XS,rfl,hL.aB yH,?_⟩
      replace hL:=hL.aB yH
      have XT:=yH.size
      replace dZ:=dZ.no yH
      replace fj:=fj.aA yH
      intro Py uC hL
      replace uC:=uC.cB (lo:=pY.size) (hi:=l9.size) ⟨⟨by omega,by omega⟩,trivial⟩
      have XU:=uC.size
      replace dZ:=dZ.iv uC (by omega)
      replace IQ:=IQ.iv uC (by omega)
      replace fj:=fj.aJ uC (by omega)
      exact⟨rfl,h3.size,pY.size,IP.size,Gh.size,dZ,IQ,by omega,by omega,by omega,by omega,by omega,by omega,by omega,by omega,by omega,by omega,by omega,by omega,fj⟩
  ·refine mk fj fun XV j5 bY Di=>⟨XV,rfl,hL.aB Di,?_⟩
   replace hL:=hL.aB Di
   have XW:=Di.size
   replace fj:=fj.aA Di
   refine⟨?_,?_,?_⟩
   ·refine cp fj fun XX Dm uD yI=>⟨XX,_,rfl,hL.aB yI,?_⟩
    replace hL:=hL.aB yI
    have XY:=yI.size
    replace bY:=bY.no yI
    replace fj:=fj.aA yI
    refine⟨?_,?_⟩
    ·intro rz vT Dn Tm Tp uE hL
     have Tq:rz<Dn.size:=(hL.tail).head.lt
     have Tr:vT<Dn.size:=(hL).head.lt
     have Tt:rz≠vT:=hL.ne (rz,_) List.mem_cons_self
     replace uE:=uE.aF
     have XZ:=uE.size
     replace bY:=bY.no uE
     replace uD:=uD.no uE
     replace fj:=fj.aA uE
     exact⟨rfl,j5.size,Dm.size,h3.size,j5.size,uD,bY,by omega,by omega,by omega,by omega,by omega,by omega,by omega,by omega,by omega,by omega,by omega,by omega,fj⟩
    ·intro rA vU Dp Tu Tw uF hL
     have Tx:rA<Dp.size:=(hL.tail).head.lt
     have Ty:vU<Dp.size:=(hL).head.lt
     have Tz:rA≠vU:=hL.ne (rA,_) List.mem_cons_self
     replace uF:=uF.aF
     have X1:=uF.size
     replace bY:=bY.no uF
     replace uD:=uD.no uF
     replace fj:=fj.aA uF
     exact⟨rfl,j5.size,Dm.size,h3.size,j5.size,uD,bY,by omega,by omega,by omega,by omega,by omega,by omega,by omega,by omega,by omega,by omega,by omega,by omega,fj⟩
   ·intro X2 Ai TA yJ hL
    have TB:X2<Ai.size:=(hL).head.lt
    replace yJ:=yJ.aF
    have X3:=yJ.size
    replace bY:=bY.no yJ
    replace fj:=fj.aA yJ
    refine⟨?_,?_⟩
    ·refine cp fj fun X4 IR IU yK=>⟨X4,_,rfl,hL.aB yK,?_⟩
     replace hL:=hL.aB yK
     have X5:=yK.size
     replace bY:=bY.no yK
     replace fj:=fj.aA yK
     intro X6 X7 TC uG hL
     have TD:X6<X7.size:=(hL).head.lt
     replace uG:=uG.cB (lo:=j5.size) (hi:=Ai.size) ⟨⟨by omega,by omega⟩,trivial⟩
     have X8:=uG.size
     replace bY:=bY.iv uG (by omega)
     replace IU:=IU.iv uG (by omega)
     replace fj:=fj.aJ uG (by omega)
     exact⟨rfl,Ai.size,IR.size,h3.size,j5.size,IU,bY,by omega,by omega,by omega,by omega,by omega,by omega,by omega,by omega,by omega,by omega,by omega,by omega,fj⟩
    ·intro X9 Pz TE yL hL
     have TF:X9<Pz.size:=(hL).head.lt
     replace yL:=yL.aF
     have Ya:=yL.size
     replace bY:=bY.no yL
     replace fj:=fj.aA yL
     refine cp fj fun Yb Yc Dq yM=>⟨Yb,_,rfl,hL.aB yM,?_⟩
     replace hL:=hL.aB yM
     have Yd:=yM.size
     replace bY:=bY.no yM
     replace fj:=fj.aA yM
     intro ajX Dr hL
     have Ye:=Dr.size
     replace bY:=bY.fr Dr fun k hk aI=>by have h1:=(bY.aG hk).1;have h2:=h1.1;have h3:=h1.2;simp only[In,List.mem_cons,List.not_mem_nil,or_false]at aI;omega
     replace Dq:=Dq.fr Dr fun k hk aI=>by have h1:=(Dq.aG hk).1;have h2:=h1.1;have h3:=h1.2;simp only[In,List.mem_cons,List.not_mem_nil,or_false]at aI;omega
     replace fj:=fj.fresh Dr fun k hk=>by simp only[In,List.mem_cons,List.not_mem_nil,or_false]at hk;omega
     exact⟨rfl,Pz.size,Yc.size,h3.size,j5.size,Dq,bY,by omega,by omega,by omega,by omega,by omega,by omega,by omega,by omega,by omega,by omega,by omega,by omega,fj⟩
   ·intro Yf IV TG yN hL
    have TH:Yf<IV.size:=(hL).head.lt
    replace yN:=yN.aF
    have Yg:=yN.size
    replace bY:=bY.no yN
    replace fj:=fj.aA yN
    refine⟨?_,?_⟩
    ·refine cp fj fun Yh Yi IW yO=>⟨Yh,_,rfl,hL.aB yO,?_⟩
     replace hL:=hL.aB yO
     have Yj:=yO.size
     replace bY:=bY.no yO
     replace fj:=fj.aA yO
     intro Yk Yl TI uH hL
     have TJ:Yk<Yl.size:=(hL).head.lt
     replace uH:=uH.cB (lo:=j5.size) (hi:=IV.size) ⟨⟨by omega,by omega⟩,trivial⟩
     have Ym:=uH.size
     replace bY:=bY.iv uH (by omega)
     replace IW:=IW.iv uH (by omega)
     replace fj:=fj.aJ uH (by omega)
     exact⟨rfl,IV.size,Yi.size,h3.size,j5.size,IW,bY,by omega,by omega,by omega,by omega,by omega,by omega,by omega,by omega,by omega,by omega,by omega,by omega,fj⟩
    ·intro Yn PA TK yP hL
     have TL:Yn<PA.size:=(hL).head.lt
     replace yP:=yP.aF
     have Yo:=yP.size
     replace bY:=bY.no yP
     replace fj:=fj.aA yP
     refine cp fj fun Yp Yq Ds yQ=>⟨Yp,_,rfl,hL.aB yQ,?_⟩
     replace hL:=hL.aB yQ
     have Yr:=yQ.size
     replace bY:=bY.no yQ
     replace fj:=fj.aA yQ
     intro ajY Dt hL
     have Ys:=Dt.size
     replace bY:=bY.fr Dt fun k hk aI=>by have h1:=(bY.aG hk).1;have h2:=h1.1;have h3:=h1.2;simp only[In,List.mem_cons,List.not_mem_nil,or_false]at aI;omega
     replace Ds:=Ds.fr Dt fun k hk aI=>by have h1:=(Ds.aG hk).1;have h2:=h1.1;have h3:=h1.2;simp only[In,List.mem_cons,List.not_mem_nil,or_false]at aI;omega
     replace fj:=fj.fresh Dt fun k hk=>by simp only[In,List.mem_cons,List.not_mem_nil,or_false]at hk;omega
     exact⟨rfl,PA.size,Yq.size,h3.size,j5.size,Ds,bY,by omega,by omega,by omega,by omega,by omega,by omega,by omega,by omega,by omega,by omega,by omega,by omega,fj⟩
  ·intro Yt kZ TM Du hL
   have TN:Yt<kZ.size:=(hL).head.lt
   replace Du:=Du.aF
   have Yu:=Du.size
   replace fj:=fj.aA Du
   refine⟨?_,?_,?_⟩
   ·refine cp fj fun Yw yR fy Dv=>⟨Yw,_,rfl,hL.aB Dv,?_⟩
    replace hL:=hL.aB Dv
    have Yy:=Dv.size
    replace fj:=fj.aA Dv
    refine⟨?_,?_⟩
    ·refine mk fj fun Yz YA IX yS=>⟨Yz,rfl,hL.aB yS,?_⟩
     replace hL:=hL.aB yS
     have YB:=yS.size
     replace fy:=fy.no yS
     replace fj:=fj.aA yS
     intro YC YD TO uI hL
     have TP:YC<YD.size:=(hL).head.lt
     replace uI:=uI.cB (lo:=h3.size) (hi:=kZ.size) ⟨⟨by omega,by omega⟩,trivial⟩
     have YE:=uI.size
     replace fy:=fy.iv uI (by omega)
     replace IX:=IX.iv uI (by omega)
     replace fj:=fj.aJ uI (by omega)
     exact⟨rfl,kZ.size,yR.size,yR.size,YA.size,fy,IX,by omega,by omega,by omega,by omega,by omega,by omega,by omega,by omega,by omega,by omega,by omega,by omega,fj⟩
    ·intro YF IY TQ yT hL
     have TR:YF<IY.size:=(hL).head.lt
     replace yT:=yT.aF
     have YG:=yT.size
     replace fy:=fy.no yT
     replace fj:=fj.aA yT
     refine⟨?_,?_⟩
     ·refine mk fj fun YH YI Dw yU=>⟨YH,rfl,hL.aB yU,?_⟩
      replace hL:=hL.aB yU
      have YJ:=yU.size
      replace fy:=fy.no yU
      replace fj:=fj.aA yU
      intro ajZ Dx hL
      have YK:=Dx.size
      replace fy:=fy.fr Dx fun k hk aI=>by have h1:=(fy.aG hk).1;have h2:=h1.1;have h3:=h1.2;simp only[In,List.mem_cons,List.not_mem_nil,or_false]at aI;omega
      replace Dw:=Dw.fr Dx fun k hk aI=>by have h1:=(Dw.aG hk).1;have h2:=h1.1;have h3:=h1.2;simp only[In,List.mem_cons,List.not_mem_nil,or_false]at aI;omega
      replace fj:=fj.fresh Dx fun k hk=>by simp only[In,List.mem_cons,List.not_mem_nil,or_false]at hk;omega
      exact⟨rfl,kZ.size,yR.size,IY.size,YI.size,fy,Dw,by omega,by omega,by omega,by omega,by omega,by omega,by omega,by omega,by omega,by omega,by omega,by omega,fj⟩
     ·intro YL yV hL
      replace yV:=yV.cB (lo:=h3.size) (hi:=kZ.size) ⟨⟨by omega,by omega⟩,trivial⟩
      have YM:=yV.size
      replace fy:=fy.iv yV (by omega)
      replace fj:=fj.aJ yV (by omega)
      refine mk fj fun YN YO IZ yW=>⟨YN,rfl,hL.aB yW,?_⟩
      replace hL:=hL.aB yW
      have YP:=yW.size
      replace fy:=fy.no yW
      replace fj:=fj.aA yW
      intro aj0 uJ hL
      replace uJ:=uJ.cB (lo:=yR.size) (hi:=IY.size) ⟨⟨by omega,by omega⟩,trivial⟩
      have YQ:=uJ.size
      replace fy:=fy.iv uJ (by omega)
      replace IZ:=IZ.iv uJ (by omega)
      replace fj:=fj.aJ uJ (by omega)
      exact⟨rfl,kZ.size,yR.size,YL.size,YO.size,fy,IZ,by omega,by omega,by omega,by omega,by omega,by omega,by omega,by omega,by omega,by omega,by omega,by omega,fj⟩
   ·refine mk fj fun YR I3 jt Dy=>⟨YR,rfl,hL.aB Dy,?_⟩
    replace hL:=hL.aB Dy
    have YS:=Dy.size
    replace fj:=fj.aA Dy
    refine⟨?_,?_⟩
    ·refine cp fj fun YT YU I4 yX=>⟨YT,_,rfl,hL.aB yX,?_⟩
     replace hL:=hL.aB yX
     have YV:=yX.size
     replace jt:=jt.no yX
     replace fj:=fj.aA yX
     intro YW YX TS uK hL
     have TT:YW<YX.size:=(hL).head.lt
     replace uK:=uK.cB (lo:=h3.size) (hi:=kZ.size) ⟨⟨by omega,by omega⟩,trivial⟩
     have YY:=uK.size
     replace jt:=jt.iv uK (by omega)
     replace I4:=I4.iv uK (by omega)
     replace fj:=fj.aJ uK (by omega)
     exact⟨rfl,I3.size,YU.size,kZ.size,I3.size,I4,jt,by omega,by omega,by omega,by omega,by omega,by omega,by omega,by omega,by omega,by omega,by omega,by omega,fj⟩
    ·intro YZ PB TU yY hL
     have TV:YZ<PB.size:=(hL).head.lt
     replace yY:=yY.aF
     have Y0:=yY.size
     replace jt:=jt.no yY
     replace fj:=fj.aA yY
     refine cp fj fun Y1 Y2 Dz yZ=>⟨Y1,_,rfl,hL.aB yZ,?_⟩
     replace hL:=hL.aB yZ
     have Y3:=yZ.size
     replace jt:=jt.no yZ
     replace fj:=fj.aA yZ
     intro aj1 DA hL
     have Y4:=DA.size
     replace jt:=jt.fr DA fun k hk aI=>by have h1:=(jt.aG hk).1;have h2:=h1.1;have h3:=h1.2;simp only[In,List.mem_cons,List.not_mem_nil,or_false]at aI;omega
     replace Dz:=Dz.fr DA fun k hk aI=>by have h1:=(Dz.aG hk).1;have h2:=h1.1;have h3:=h1.2;simp only[In,List.mem_cons,List.not_mem_nil,or_false]at aI;omega
     replace fj:=fj.fresh DA fun k hk=>by simp only[In,List.mem_cons,List.not_mem_nil,or_false]at hk;omega
     exact⟨rfl,PB.size,Y2.size,kZ.size,I3.size,Dz,jt,by omega,by omega,by omega,by omega,by omega,by omega,by omega,by omega,by omega,by omega,by omega,by omega,fj⟩
   ·intro Y5 y0 TW DB hL
    have TX:Y5<y0.size:=(hL).head.lt
    replace DB:=DB.aF
    have Y6:=DB.size
    replace fj:=fj.aA DB
    refine⟨?_,?_⟩
    ·refine cp fj fun Y7 I5 ju DC=>⟨Y7,_,rfl,hL.aB DC,?_⟩
     replace hL:=hL.aB DC
     have Y8:=DC.size
     replace fj:=fj.aA DC
     refine⟨?_,?_⟩
     ·refine mk fj fun Y9 Za DD y9=>⟨Y9,rfl,hL.aB y9,?_⟩
      replace hL:=hL.aB y9
      have Zb:=y9.size
      replace ju:=ju.no y9
      replace fj:=fj.aA y9
      intro aj2 DE hL
      have Zc:=DE.size
      replace ju:=ju.fr DE fun k hk aI=>by have h1:=(ju.aG hk).1;have h2:=h1.1;have h3:=h1.2;simp only[In,List.mem_cons,List.not_mem_nil,or_false]at aI;omega
      replace DD:=DD.fr DE fun k hk aI=>by have h1:=(DD.aG hk).1;have h2:=h1.1;have h3:=h1.2;simp only[In,List.mem_cons,List.not_mem_nil,or_false]at aI;omega
      replace fj:=fj.fresh DE fun k hk=>by simp only[In,List.mem_cons,List.not_mem_nil,or_false]at hk;omega
      exact⟨rfl,y0.size,I5.size,I5.size,Za.size,ju,DD,by omega,by omega,by omega,by omega,by omega,by omega,by omega,by omega,by omega,by omega,by omega,by omega,fj⟩
     ·intro Zd za hL
      replace za:=za.cB (lo:=h3.size) (hi:=kZ.size) ⟨⟨by omega,by omega⟩,trivial⟩
      have Ze:=za.size
      replace ju:=ju.iv za (by omega)
      replace fj:=fj.aJ za (by omega)
      refine mk fj fun Zf Zg I6 zc=>⟨Zf,rfl,hL.aB zc,?_⟩
      replace hL:=hL.aB zc
      have Zh:=zc.size
      replace ju:=ju.no zc
      replace fj:=fj.aA zc
      intro aj3 uL hL
      replace uL:=uL.cB (lo:=kZ.size) (hi:=y0.size) ⟨⟨by omega,by omega⟩,trivial⟩
      have Zi:=uL.size
      replace ju:=ju.iv uL (by omega)
      replace I6:=I6.iv uL (by omega)
      replace fj:=fj.aJ uL (by omega)
      exact⟨rfl,y0.size,I5.size,Zd.size,Zg.size,ju,I6,by omega,by omega,by omega,by omega,by omega,by omega,by omega,by omega,by omega,by omega,by omega,by omega,fj⟩
    ·refine mk fj fun Zj PC uM DF=>⟨Zj,rfl,hL.aB DF,?_⟩
     replace hL:=hL.aB DF
     have Zk:=DF.size
     replace fj:=fj.aA DF
     refine cp fj fun Zl Zm DG zd=>⟨Zl,_,rfl,hL.aB zd,?_⟩
     replace hL:=hL.aB zd
     have Zn:=zd.size
     replace uM:=uM.no zd
     replace fj:=fj.aA zd
     intro aj4 DH hL
     have Zo:=DH.size
     replace uM:=uM.fr DH fun k hk aI=>by have h1:=(uM.aG hk).1;have h2:=h1.1;have h3:=h1.2;simp only[In,List.mem_cons,List.not_mem_nil,or_false]at aI;omega
     replace DG:=DG.fr DH fun k hk aI=>by have h1:=(DG.aG hk).1;have h2:=h1.1;have h3:=h1.2;simp only[In,List.mem_cons,List.not_mem_nil,or_false]at aI;omega
     replace fj:=fj.fresh DH fun k hk=>by simp only[In,List.mem_cons,List.not_mem_nil,or_false]at hk;omega
     exact⟨rfl,PC.size,Zm.size,y0.size,PC.size,DG,uM,by omega,by omega,by omega,by omega,by omega,by omega,by omega,by omega,by omega,by omega,by omega,by omega,fj⟩
  ·intro Zp gE TY DI hL
   have TZ:Zp<gE.size:=(hL).head.lt
   replace DI:=DI.aF
   have Zq:=DI.size
   replace fj:=fj.aA DI
   refine⟨?_,?_,?_⟩
   ·refine cp fj fun Zr pw fA DJ=>⟨Zr,_,rfl,hL.aB DJ,?_⟩
    replace hL:=hL.aB DJ
    have Zs:=DJ.size
    replace fj:=fj.aA DJ
    refine⟨?_,?_⟩
    ·refine mk fj fun Zt PD I7 ze=>⟨Zt,rfl,hL.aB ze,?_⟩
     replace hL:=hL.aB ze
     have Zu:=ze.size
     replace fA:=fA.no ze
     replace fj:=fj.aA ze
     intro Zv PE T7 uN hL
     have Ua:Zv<PE.size:=(hL).head.lt
     replace uN:=uN.cB (lo:=h3.size) (hi:=gE.size) ⟨⟨by omega,by omega⟩,trivial⟩
     have Zw:=uN.size
     replace fA:=fA.iv uN (by omega)
     replace I7:=I7.iv uN (by omega)
     replace fj:=fj.aJ uN (by omega)
     exact⟨rfl,gE.size,pw.size,pw.size,PD.size,fA,I7,by omega,by omega,by omega,by omega,by omega,by omega,by omega,by omega,by omega,by omega,by omega,by omega,fj⟩
    ·intro Zx zf Ub zg hL
     have Uc:Zx<zf.size:=(hL).head.lt
     replace zg:=zg.aF
     have Zy:=zg.size
     replace fA:=fA.no zg
     replace fj:=fj.aA zg
     refine⟨?_,?_⟩
     ·refine mk fj fun Zz PF DK zh=>⟨Zz,rfl,hL.aB zh,?_⟩
      replace hL:=hL.aB zh
      have ZA:=zh.size
      replace fA:=fA.no zh
      replace fj:=fj.aA zh
      intro ac7 DL hL
      have ZB:=DL.size
      replace fA:=fA.fr DL fun k hk aI=>by have h1:=(fA.aG hk).1;have h2:=h1.1;have h3:=h1.2;simp only[In,List.mem_cons,List.not_mem_nil,or_false]at aI;omega
      replace DK:=DK.fr DL fun k hk aI=>by have h1:=(DK.aG hk).1;have h2:=h1.1;have h3:=h1.2;simp only[In,List.mem_cons,List.not_mem_nil,or_false]at aI;omega
      replace fj:=fj.fresh DL fun k hk=>by simp only[In,List.mem_cons,List.not_mem_nil,or_false]at hk;omega
      exact⟨rfl,gE.size,pw.size,zf.size,PF.size,fA,DK,by omega,by omega,by omega,by omega,by omega,by omega,by omega,by omega,by omega,by omega,by omega,by omega,fj⟩
     ·intro PG zi hL
      replace zi:=zi.cB (lo:=pw.size) (hi:=zf.size) ⟨⟨by omega,by omega⟩,trivial⟩
      have ZC:=zi.size
      replace fA:=fA.iv zi (by omega)
      replace fj:=fj.aJ zi (by omega)
      refine mk fj fun ZD PH I9 zj=>⟨ZD,rfl,hL.aB zj,?_⟩
      replace hL:=hL.aB zj
      have ZE:=zj.size
      replace fA:=fA.no zj
      replace fj:=fj.aA zj
      intro ac8 uO hL
      replace uO:=uO.cB (lo:=h3.size) (hi:=gE.size) ⟨⟨by omega,by omega⟩,trivial⟩
      have ZF:=uO.size
      replace fA:=fA.iv uO (by omega)
      replace I9:=I9.iv uO (by omega)
      replace fj:=fj.aJ uO (by omega)
      exact⟨rfl,gE.size,pw.size,PG.size,PH.size,fA,I9,by omega,by omega,by omega,by omega,by omega,by omega,by omega,by omega,by omega,by omega,by omega,by omega,fj⟩
   ·refine mk fj fun ZG zk jv DM=>⟨ZG,rfl,hL.aB DM,?_⟩
    replace hL:=hL.aB DM
    have ZH:=DM.size
    replace fj:=fj.aA DM
    refine⟨?_,?_⟩
    ·refine cp fj fun ZI PI Ja zm=>⟨ZI,_,rfl,hL.aB zm,?_⟩
     replace hL:=hL.aB zm
     have ZJ:=zm.size
     replace jv:=jv.no zm
     replace fj:=fj.aA zm
     intro ZK PJ Ud uP hL
     have Ue:ZK<PJ.size:=(hL).head.lt
     replace uP:=uP.cB (lo:=h3.size) (hi:=gE.size) ⟨⟨by omega,by omega⟩,trivial⟩
     have ZL:=uP.size
     replace jv:=jv.iv uP (by omega)
     replace Ja:=Ja.iv uP (by omega)
     replace fj:=fj.aJ uP (by omega)
     exact⟨rfl,zk.size,PI.size,gE.size,zk.size,Ja,jv,by omega,by omega,by omega,by omega,by omega,by omega,by omega,by omega,by omega,by omega,by omega,by omega,fj⟩
    ·intro ZM Gi Uf zn hL
     have Ug:ZM<Gi.size:=(hL).head.lt
     replace zn:=zn.aF
     have ZN:=zn.size
     replace jv:=jv.no zn
     replace fj:=fj.aA zn
     refine cp fj fun ZO PK DN zo=>⟨ZO,_,rfl,hL.aB zo,?_⟩
     replace hL:=hL.aB zo
     have ZP:=zo.size
     replace jv:=jv.no zo
     replace fj:=fj.aA zo
     intro ac9 DO hL
     have ZQ:=DO.size
     replace jv:=jv.fr DO fun k hk aI=>by have h1:=(jv.aG hk).1;have h2:=h1.1;have h3:=h1.2;simp only[In,List.mem_cons,List.not_mem_nil,or_false]at aI;omega
     replace DN:=DN.fr DO fun k hk aI=>by have h1:=(DN.aG hk).1;have h2:=h1.1;have h3:=h1.2;simp only[In,List.mem_cons,List.not_mem_nil,or_false]at aI;omega
     replace fj:=fj.fresh DO fun k hk=>by simp only[In,List.mem_cons,List.not_mem_nil,or_false]at hk;omega
     exact⟨rfl,Gi.size,PK.size,gE.size,zk.size,DN,jv,by omega,by omega,by omega,by omega,by omega,by omega,by omega,by omega,by omega,by omega,by omega,by omega,fj⟩
   ·intro ZR px Uh DP hL
    have Ui:ZR<px.size:=(hL).head.lt
    replace DP:=DP.aF
    have ZS:=DP.size
    replace fj:=fj.aA DP
    refine⟨?_,?_⟩
    ·refine cp fj fun ZT zp jx DQ=>⟨ZT,_,rfl,hL.aB DQ,?_⟩
     replace hL:=hL.aB DQ
     have ZU:=DQ.size
     replace fj:=fj.aA DQ
     refine⟨?_,?_⟩
     ·refine mk fj fun ZV PL DR zq=>⟨ZV,rfl,hL.aB zq,?_⟩
      replace hL:=hL.aB zq
      have ZW:=zq.size
      replace jx:=jx.no zq
      replace fj:=fj.aA zq
      intro ada DS hL
      have ZX:=DS.size
      replace jx:=jx.fr DS fun k hk aI=>by have h1:=(jx.aG hk).1;have h2:=h1.1;have h3:=h1.2;simp only[In,List.mem_cons,List.not_mem_nil,or_false]at aI;omega
      replace DR:=DR.fr DS fun k hk aI=>by have h1:=(DR.aG hk).1;have h2:=h1.1;have h3:=h1.2;simp only[In,List.mem_cons,List.not_mem_nil,or_false]at aI;omega
      replace fj:=fj.fresh DS fun k hk=>by simp only[In,List.mem_cons,List.not_mem_nil,or_false]at hk;omega
      exact⟨rfl,px.size,zp.size,zp.size,PL.size,jx,DR,by omega,by omega,by omega,by omega,by omega,by omega,by omega,by omega,by omega,by omega,by omega,by omega,fj⟩
     ·intro PN zr hL
      replace zr:=zr.cB (lo:=gE.size) (hi:=px.size) ⟨⟨by omega,by omega⟩,trivial⟩
      have ZY:=zr.size
      replace jx:=jx.iv zr (by omega)
      replace fj:=fj.aJ zr (by omega)
      refine mk fj fun ZZ PO Jb zt=>⟨ZZ,rfl,hL.aB zt,?_⟩
      replace hL:=hL.aB zt
      have Z8:=zt.size
      replace jx:=jx.no zt
      replace fj:=fj.aA zt
      intro adb uQ hL
      replace uQ:=uQ.cB (lo:=h3.size) (hi:=gE.size) ⟨⟨by omega,by omega⟩,trivial⟩
      have Z9:=uQ.size
      replace jx:=jx.iv uQ (by omega)
      replace Jb:=Jb.iv uQ (by omega)
      replace fj:=fj.aJ uQ (by omega)
      exact⟨rfl,px.size,zp.size,PN.size,PO.size,jx,Jb,by omega,by omega,by omega,by omega,by omega,by omega,by omega,by omega,by omega,by omega,by omega,by omega,fj⟩
    ·refine mk fj fun aaa Gj uR DT=>⟨aaa,rfl,hL.aB DT,?_⟩
     replace hL:=hL.aB DT
     have aab:=DT.size
     replace fj:=fj.aA DT
     refine cp fj fun aac PP DU zu=>⟨aac,_,rfl,hL.aB zu,?_⟩
     replace hL:=hL.aB zu
     have aad:=zu.size
     replace uR:=uR.no zu
     replace fj:=fj.aA zu
     intro ade DV hL
     have aae:=DV.size
     replace uR:=uR.fr DV fun k hk aI=>by have h1:=(uR.aG hk).1;have h2:=h1.1;have h3:=h1.2;simp only[In,List.mem_cons,List.not_mem_nil,or_false]at aI;omega
     replace DU:=DU.fr DV fun k hk aI=>by have h1:=(DU.aG hk).1;have h2:=h1.1;have h3:=h1.2;simp only[In,List.mem_cons,List.not_mem_nil,or_false]at aI;omega
     replace fj:=fj.fresh DV fun k hk=>by simp only[In,List.mem_cons,List.not_mem_nil,or_false]at hk;omega
     exact⟨rfl,Gj.size,PP.size,px.size,Gj.size,DU,uR,by omega,by omega,by omega,by omega,by omega,by omega,by omega,by omega,by omega,by omega,by omega,by omega,fj⟩
 rintro bN x1 x2 bO x3 zw ⟨rfl,i1,j1,i2,j2,o1,o2,d12,dN1,dN2,dO1,dO2,e1,e2',e3,e4,e5,e6,eA,f134⟩ k7
 have f0:=gj.aA f134
 have aj6:=f134.size
 have lO:bO<zw.size:=k7.head.lt
 have lN:bN<zw.size:=k7.tail.head.lt
 have aaf:bF (fun k=>k<h3.size) zw g aD:=(G.no gj).low.no f134
 have xN:¬x1.own bN:=fun hk=>by have h1:=(o1.aG hk).1.1;have h2:=(o1.aG hk).1.2;omega
 have xO:¬x3.own bO:=fun hk=>by have h1:=(o2.aG hk).1.1;have h2:=(o2.aG hk).1.2;omega
 have x1O:¬x1.own bO:=fun hk=>by have h1:=(o1.aG hk).1.1;have h2:=(o1.aG hk).1.2;omega
 have x3N:¬x3.own bN:=fun hk=>by have h1:=(o2.aG hk).1.1;have h2:=(o2.aG hk).1.2;omega
 have Kb:∀k,x1.own k->¬x3.own k:=fun k h1 h3=>by have a1:=(o1.aG h1).1.1;have a2:=(o1.aG h1).1.2;have a3:=(o2.aG h3).1.1;have a4:=(o2.aG h3).1.2;omega
 have x1g:∀k,x1.own k->h3.size<=k/\k<zw.size:=fun k hk=>⟨by have:=(o1.aG hk).1.1;omega,(o1.aG hk).2⟩
 have x3g:∀k,x3.own k->h3.size<=k/\k<zw.size:=fun k hk=>⟨by have:=(o2.aG hk).1.1;omega,(o2.aG hk).2⟩
 --what the aag region and the other one are off
 have qh:∀k,(k=bN\/x1.own k)\/(k=bO\/x3.own k)->h3.size<=k:=fun k hk=>by
  rcases hk with(rfl|hk)|(rfl|hk)
  ·omega
  ·exact(x1g k hk).1
  ·omega
  ·exact(x3g k hk).1
 refine Od (s0:=(rs,x2)) (F:=fun k=>k=bN\/x1.own k) (S:=fun k=>k<h3.size) H9
  (fun N t h'=>∃o:Sl,dB h' bO [o.v]/\bK h' (fun k=>h3.size<=k) o t/\∀k,o.own k->x3.own k\/N<=k) (fun k=>k=bO\/x3.own k)
  aaf k7.tail.head (o1.mono fun k hk _=> .inr hk) (fun k hk=>⟨fun h=>by have:=qh k (.inl h);omega,fun h=>by have:=qh k (.inr h);omega⟩) (.inl rfl) xN W n (by omega) (by omega) _ (List.replicate aD.length 0)
  (fun k hk=>by rcases hk with rfl|hk;exact lN;exact(x1g k hk).2)
  (fun k hk=>⟨fun h=>by
   rcases hk with rfl|hk<;>rcases h with rfl|h
   ·exact eA rfl
   ·exact x1O h
   ·exact x3N hk
   ·exact Kb k h hk,by rcases hk with rfl|hk;exact lO;exact(x3g k hk).2⟩)
  (fun N hN=>⟨x3,k7.head,o2.mono fun k _ hk=>by have:=hk.1;omega,fun k hk=> .inl hk⟩)
  (fun N t h1 h2 U ⟨o,v1,v2,v3⟩ f hU=>⟨o,v1.fr f fun h=>(hU _ h).1 (.inl rfl),v2.fr f fun k hk aI=>by
   rcases v3 k hk with h|h
   ·exact(hU k aI).1 (.inr h)
   ·have:=(hU k aI).2;omega,v3⟩)
  (fun N t s s' h1 K hN hN2 ⟨o,v1,v2,v3⟩ V O W hs hm HK=> ?_) _ (fun hr N t h9 q hN ⟨o,v1,v2,v3⟩ v9 f9=> ?_) fun t' s' hr N h9 hN ⟨o,v1,v2,v3⟩ o9 W9 v9 f9=> ?_
 ·obtain⟨m,hm,hr⟩:=hm
  have hl:=zx m 0 _ _ _ _ (fun x hx=>by simp only[List.mem_replicate]at hx;omega) hr
  have ob:¬o.own bO:=fun hk=>by
   rcases v3 _ hk with h|h
   ·exact xO h
   ·omega
  have ob':¬o.own bN:=fun hk=>by
   rcases v3 _ hk with h|h
   ·exact x3N h
   ·omega
  have W':=W.step hs
  have ht:t.length=aD.length:=by rw[hl.1];simp
  refine aah v1 V eA v2 ob ob' W'.lo (by rw[ht];exact W'.hi) (fun x hx=>by have:=hl.2 x hx;omega) s.2 K fun h2 v w1 w2 w4=>HK h2 v ⟨o,w1,w2,v3⟩ (w4.mono fun k _ hk=>(v3 k hk).imp .inr id)
 ·have gh:Vars h9 [(bO,[o.v]),(bN,[x1.v,VI q]),(b2,[w.v,VI x2]),(b1,[g.v])]:= .cons v1 (fun p hp=>by
   have:=k7.ne
   simp only[List.mem_cons,List.not_mem_nil,or_false]at hp
   rcases hp with rfl|rfl|rfl<;>simp only<;>omega) (.cons v9 (fun p hp=>by
   simp only[List.mem_cons,List.not_mem_nil,or_false]at hp
   rcases hp with rfl|rfl<;>simp only<;>omega) (k7.tail.tail.fr f9 fun p hp hk=>by
   have:=qh _ hk
   simp only[List.mem_cons,List.not_mem_nil,or_false]at hp
   rcases hp with rfl|rfl<;>simp only at this<;>omega))
  refine⟨o,x1,q,false,rfl,gh,fun _=> ?_,fun e=>by simp at e⟩
  rw[hr]at e2
  exact no e2 h9 (f0.fresh f9 fun k hk=>by have:=qh k hk;omega)
 ·have gh:Vars h9 [(bO,[o.v]),(bN,[x1.v,VI s'.2]),(b2,[w.v,VI x2]),(b1,[g.v])]:= .cons v1 (fun p hp=>by
   simp only[List.mem_cons,List.not_mem_nil,or_false]at hp
   rcases hp with rfl|rfl|rfl<;>simp only<;>omega) (.cons v9 (fun p hp=>by
   simp only[List.mem_cons,List.not_mem_nil,or_false]at hp
   rcases hp with rfl|rfl<;>simp only<;>omega) (k7.tail.tail.fr f9 fun p hp hk=>by
   have:=qh _ hk
   simp only[List.mem_cons,List.not_mem_nil,or_false]at hp
   rcases hp with rfl|rfl<;>simp only at this<;>omega))
  refine⟨o,x1,s'.2,true,rfl,gh,fun e=>by simp at e,fun _=> ?_⟩
  rw[hr]at e2
  have:=HK o h9 (by rw[e2];exact v2.mono fun k hk hF=>⟨by omega,(v2.aG hk).2⟩) (f0.fresh f9 fun k hk=>by have:=qh k hk;omega)
  rw[e2]at this
  exact this
def DW(P:Program)(Gk:Heap)(iR:Nat)(py:Sl)(pz:Int)(qp:Nat)(j9:Sl)(ka:Int)(jO:Nat)(me:Sl)(mf:Int)(lk:Nat)(mb:Sl)(mc:Int)(bL:Sl)(bM:Int)(jP:Nat)(jQ:Nat)(cW:Sl)(K:Value->Heap->Prop):Prop:=
 ∀(uz:Nat)(Da:Heap),Gk.size<=uz->Fr (In [iR]) Gk Da->Vars Da [(uz,[(Sl.v py),(VI pz)]),(qp,[(Sl.v j9),(VI ka)]),(jO,[(Sl.v me),(VI mf)]),(lk,[(Sl.v mb),(VI mc)]),(iR,[(Sl.v bL),(VI bM)]),(jP,[(Sl.v bL),(VI bM)]),(jQ,[(Sl.v cW)])]->
 K (Value.tuple #[(VI 0),(Value.agg #[(Sl.v bL),(VI bM)]),(VI 0)]) Da
def DX(P:Program)(fW:Int)(pA:Int)(iR:Nat)(Jd:Heap)(li:Nat)(uS:Sl)(uT:Int)(ma:Nat)(uU:Sl)(uV:Int)(jO:Nat)(me:Sl)(mf:Int)(lk:Nat)(mb:Sl)(mc:Int)(bL:Sl)(bM:Int)(jP:Nat)(jQ:Nat)(cW:Sl)(K:Value->Heap->Prop):Prop:=
 ((decide (2000<(aL (fW+pA))))=true->
 ∀(aai:Heap),Fr (In [iR]) Jd aai->Vars aai [(li,[(Sl.v uS),(VI uT)]),(ma,[(Sl.v uU),(VI uV)]),(jO,[(Sl.v me),(VI mf)]),(lk,[(Sl.v mb),(VI mc)]),(iR,[(Sl.v bL),(VI bM)]),(jP,[(Sl.v bL),(VI bM)]),(jQ,[(Sl.v cW)])]->
 K (Value.tuple #[(VI 0),(Value.agg #[(Sl.v bL),(VI bM)]),(VI 0)]) aai)/\
 ((decide (2000<(aL (fW+pA))))=false->
 ∀(aaj:Heap),Fr (In [iR]) Jd aaj->Vars aaj [(li,[(Sl.v uS),(VI uT)]),(ma,[(Sl.v uU),(VI uV)]),(jO,[(Sl.v me),(VI mf)]),(lk,[(Sl.v mb),(VI mc)]),(iR,[(Sl.v uU),(VI uV)]),(jP,[(Sl.v bL),(VI bM)]),(jQ,[(Sl.v cW)])]->
 K (Value.tuple #[(VI fW),(Value.agg #[(Sl.v uU),(VI uV)]),(VI pA)]) aaj)
def zy(P:Program)(pB:Bool)(iR:Nat)(tg:Heap)(jO:Nat)(me:Sl)(mf:Int)(lk:Nat)(mb:Sl)(mc:Int)(bL:Sl)(bM:Int)(jP:Nat)(jQ:Nat)(cW:Sl)(K:Value->Heap->Prop):Prop:=
 ((! pB)=true->
 ∀(Db:Heap),Fr (In [iR]) tg Db->Vars Db [(jO,[(Sl.v me),(VI mf)]),(lk,[(Sl.v mb),(VI mc)]),(iR,[(Sl.v bL),(VI bM)]),(jP,[(Sl.v bL),(VI bM)]),(jQ,[(Sl.v cW)])]->
 K (Value.tuple #[(VI 0),(Value.agg #[(Sl.v bL),(VI bM)]),(VI 0)]) Db)/\
 ((! pB)=false->
 aE P 227 #[(Value.agg #[(Sl.v cW)]),(Value.agg #[(Sl.v mb),(VI mc)]),(VI 2000)] tg fun aj9 sZ=>∃pA:Int,aj9=(VI pA)/\Vars sZ [(jO,[(Sl.v me),(VI mf)]),(lk,[(Sl.v mb),(VI mc)]),(iR,[(Sl.v aC),(VI 0)]),(jP,[(Sl.v bL),(VI bM)]),(jQ,[(Sl.v cW)])]/\
 ((decide (pA=0))=true->
 ∀(ta:Heap),Fr (In [iR]) sZ ta->Vars ta [(jO,[(Sl.v me),(VI mf)]),(lk,[(Sl.v mb),(VI mc)]),(iR,[(Sl.v bL),(VI bM)]),(jP,[(Sl.v bL),(VI bM)]),(jQ,[(Sl.v cW)])]->
 K (Value.tuple #[(VI 0),(Value.agg #[(Sl.v bL),(VI bM)]),(VI 0)]) ta)/\
 ((decide (pA=0))=false->
 ∃J_3:Nat->Sl->Int->Nat->Sl->Int->Heap->Prop,((∀(rz:Nat)(yw:Heap),sZ.size<=rz->Fr (In []) sZ yw->Vars yw [(rz,[(Sl.v aC),(VI 0)]),(jO,[(Sl.v me),(VI mf)]),(lk,[(Sl.v mb),(VI mc)]),(iR,[(Sl.v aC),(VI 0)]),(jP,[(Sl.v bL),(VI bM)]),(jQ,[(Sl.v cW)])]->
 ∀(vT:Nat)(Gd:Heap),yw.size<=vT->Fr (In []) yw Gd->Vars Gd [(vT,[(Sl.v aC),(VI 0)]),(rz,[(Sl.v aC),(VI 0)]),(jO,[(Sl.v me),(VI mf)]),(lk,[(Sl.v mb),(VI mc)]),(iR,[(Sl.v aC),(VI 0)]),(jP,[(Sl.v bL),(VI bM)]),(jQ,[(Sl.v cW)])]->
 ∀(Dc:Heap),Fr (In [rz]) Gd Dc->Vars Dc [(vT,[(Sl.v aC),(VI 0)]),(rz,[(Sl.v bL),(VI bM)]),(jO,[(Sl.v me),(VI mf)]),(lk,[(Sl.v mb),(VI mc)]),(iR,[(Sl.v aC),(VI 0)]),(jP,[(Sl.v bL),(VI bM)]),(jQ,[(Sl.v cW)])]->
 ∀(IP:Heap),Fr (In [vT]) Dc IP->Vars IP [(vT,[(Sl.v bL),(VI bM)]),(rz,[(Sl.v bL),(VI bM)]),(jO,[(Sl.v me),(VI mf)]),(lk,[(Sl.v mb),(VI mc)]),(iR,[(Sl.v aC),(VI 0)]),(jP,[(Sl.v bL),(VI bM)]),(jQ,[(Sl.v cW)])]->
 J_3 rz bL bM vT bL bM IP)/\
 (∀(rA:Nat)(Gh:Heap),sZ.size<=rA->Fr (In []) sZ Gh->Vars Gh [(rA,[(Sl.v aC),(VI 0)]),(jO,[(Sl.v me),(VI mf)]),(lk,[(Sl.v mb),(VI mc)]),(iR,[(Sl.v aC),(VI 0)]),(jP,[(Sl.v bL),(VI bM)]),(jQ,[(Sl.v cW)])]->
 ∀(vU:Nat)(Py:Heap),Gh.size<=vU->Fr (In []) Gh Py->Vars Py [(vU,[(Sl.v aC),(VI 0)]),(rA,[(Sl.v aC),(VI 0)]),(jO,[(Sl.v me),(VI mf)]),(lk,[(Sl.v mb),(VI mc)]),(iR,[(Sl.v aC),(VI 0)]),(jP,[(Sl.v bL),(VI bM)]),(jQ,[(Sl.v cW)])]->
 ∀(j5:Heap),Fr (In [vU]) Py j5->Vars j5 [(vU,[(Sl.v bL),(VI bM)]),(rA,[(Sl.v aC),(VI 0)]),(jO,[(Sl.v me),(VI mf)]),(lk,[(Sl.v mb),(VI mc)]),(iR,[(Sl.v aC),(VI 0)]),(jP,[(Sl.v bL),(VI bM)]),(jQ,[(Sl.v cW)])]->
 ∀(Dm:Heap),Fr (In [rA]) j5 Dm->Vars Dm [(vU,[(Sl.v bL),(VI bM)]),(rA,[(Sl.v bL),(VI bM)]),(jO,[(Sl.v me),(VI mf)]),(lk,[(Sl.v mb),(VI mc)]),(iR,[(Sl.v aC),(VI 0)]),(jP,[(Sl.v bL),(VI bM)]),(jQ,[(Sl.v cW)])]->
 J_3 vU bL bM rA bL bM Dm))/\
 ∀(ma:Nat)(x_9:Sl)(Je:Int)(li:Nat)(aak:Sl)(aal:Int)(aam:Heap),J_3 ma x_9 Je li aak aal aam->Vars aam [(li,[(Sl.v aak),(VI aal)]),(ma,[(Sl.v x_9),(VI Je)]),(jO,[(Sl.v me),(VI mf)]),(lk,[(Sl.v mb),(VI mc)]),(iR,[(Sl.v aC),(VI 0)]),(jP,[(Sl.v bL),(VI bM)]),(jQ,[(Sl.v cW)])]->
 ∃J_4:Nat->Int->Sl->Int->Heap->Prop,(∃n0:Nat,J_4 n0 0 aak aal aam)/\
 ∀(n_2:Nat)(KU:Int)(PR:Sl)(PS:Int)(Uj:Heap),J_4 n_2 KU PR PS Uj->Vars Uj [(li,[(Sl.v PR),(VI PS)]),(ma,[(Sl.v x_9),(VI Je)]),(jO,[(Sl.v me),(VI mf)]),(lk,[(Sl.v mb),(VI mc)]),(iR,[(Sl.v aC),(VI 0)]),(jP,[(Sl.v bL),(VI bM)]),(jQ,[(Sl.v cW)])]->
 ((decide (KU<pA))=true->
 aE P 177 #[(Value.agg #[(Sl.v cW)]),(Value.agg #[(Sl.v PR),(VI PS)])] Uj fun akc adi=>∃PT:Sl,∃PU:Int,∃adj:Bool,akc=(Value.tuple #[(Value.agg #[(Sl.v PT),(VI PU)]),(VB adj)])/\Vars adi [(li,[(Sl.v PR),(VI PS)]),(ma,[(Sl.v x_9),(VI Je)]),(jO,[(Sl.v me),(VI mf)]),(lk,[(Sl.v mb),(VI mc)]),(iR,[(Sl.v aC),(VI 0)]),(jP,[(Sl.v bL),(VI bM)]),(jQ,[(Sl.v cW)])]/\
 ∀(Dn:Heap),Fr (In [li]) adi Dn->Vars Dn [(li,[(Sl.v PT),(VI PU)]),(ma,[(Sl.v x_9),(VI Je)]),(jO,[(Sl.v me),(VI mf)]),(lk,[(Sl.v mb),(VI mc)]),(iR,[(Sl.v aC),(VI 0)]),(jP,[(Sl.v bL),(VI bM)]),(jQ,[(Sl.v cW)])]->
 ∃m:Nat,m<n_2/\J_4 m (aL (KU+1)) PT PU Dn)/\
 ((decide (KU<pA))=false->
 ∃OS:Nat->Int->Sl->Int->Sl->Int->Heap->Prop,(∃n0:Nat,OS n0 0 PR PS x_9 Je Uj)/\
 ∀(n_3:Nat)(fW:Int)(uS:Sl)(uT:Int)(uU:Sl)(uV:Int)(aan:Heap),OS n_3 fW uS uT uU uV aan->Vars aan [(li,[(Sl.v uS),(VI uT)]),(ma,[(Sl.v uU),(VI uV)]),(jO,[(Sl.v me),(VI mf)]),(lk,[(Sl.v mb),(VI mc)]),(iR,[(Sl.v aC),(VI 0)]),(jP,[(Sl.v bL),(VI bM)]),(jQ,[(Sl.v cW)])]->
 aE P 226 #[(Value.agg #[(Sl.v uU),(VI uV)]),(Value.agg #[(Sl.v uS),(VI uT)])] aan fun akd Jd=>∃PV:Bool,akd=(VB PV)/\Vars Jd [(li,[(Sl.v uS),(VI uT)]),(ma,[(Sl.v uU),(VI uV)]),(jO,[(Sl.v me),(VI mf)]),(lk,[(Sl.v mb),(VI mc)]),(iR,[(Sl.v aC),(VI 0)]),(jP,[(Sl.v bL),(VI bM)]),(jQ,[(Sl.v cW)])]/\
 ((! PV)=true->
 ((decide (fW<=2000))=true->
 aE P 177 #[(Value.agg #[(Sl.v cW)]),(Value.agg #[(Sl.v uU),(VI uV)])] Jd fun ake adk=>∃Gl:Sl,∃Gm:Int,∃adl:Bool,ake=(Value.tuple #[(Value.agg #[(Sl.v Gl),(VI Gm)]),(VB adl)])/\Vars adk [(li,[(Sl.v uS),(VI uT)]),(ma,[(Sl.v uU),(VI uV)]),(jO,[(Sl.v me),(VI mf)]),(lk,[(Sl.v mb),(VI mc)]),(iR,[(Sl.v aC),(VI 0)]),(jP,[(Sl.v bL),(VI bM)]),(jQ,[(Sl.v cW)])]/\
 ∀(Dp:Heap),Fr (In [ma]) adk Dp->Vars Dp [(li,[(Sl.v uS),(VI uT)]),(ma,[(Sl.v Gl),(VI Gm)]),(jO,[(Sl.v me),(VI mf)]),(lk,[(Sl.v mb),(VI mc)]),(iR,[(Sl.v aC),(VI 0)]),(jP,[(Sl.v bL),(VI bM)]),(jQ,[(Sl.v cW)])]->
 aE P 177 #[(Value.agg #[(Sl.v cW)]),(Value.agg #[(Sl.v uS),(VI uT)])] Dp fun akf Ai=>∃Jf:Sl,∃Jg:Int,∃aao:Bool,akf=(Value.tuple #[(Value.agg #[(Sl.v Jf),(VI Jg)]),(VB aao)])/\Vars Ai [(li,[(Sl.v uS),(VI uT)]),(ma,[(Sl.v Gl),(VI Gm)]),(jO,[(Sl.v me),(VI mf)]),(lk,[(Sl.v mb),(VI mc)]),(iR,[(Sl.v aC),(VI 0)]),(jP,[(Sl.v bL),(VI bM)]),(jQ,[(Sl.v cW)])]/\
 ∀(IR:Heap),Fr (In [li]) Ai IR->Vars IR [(li,[(Sl.v Jf),(VI Jg)]),(ma,[(Sl.v Gl),(VI Gm)]),(jO,[(Sl.v me),(VI mf)]),(lk,[(Sl.v mb),(VI mc)]),(iR,[(Sl.v aC),(VI 0)]),(jP,[(Sl.v bL),(VI bM)]),(jQ,[(Sl.v cW)])]->
 ∃m:Nat,m<n_3/\OS m (aL (fW+1)) Jf Jg Gl Gm IR)/\
 ((decide (fW<=2000))=false->
 DX P fW pA iR Jd li uS uT ma uU uV jO me mf lk mb mc bL bM jP jQ cW K))/\
 ((! PV)=false->
 DX P fW pA iR Jd li uS uT ma uU uV jO me mf lk mb mc bL bM jP jQ cW K))))
def adm(P:Program)(cW:Sl)(bL:Sl)(bM:Int)(h:Heap)(K:Value->Heap->Prop):Prop:=
 ∀(jQ:Nat)(jP:Nat)(iR:Nat)(h_3:Heap),h.size<=jQ->h.size<=jP->h.size<=iR->Fr (In []) h h_3->Vars h_3 [(iR,[(Sl.v aC),(VI 0)]),(jP,[(Sl.v bL),(VI bM)]),(jQ,[(Sl.v cW)])]->
 ∃J_1:Nat->Sl->Int->Nat->Sl->Int->Heap->Prop,((∀(Mn:Nat)(pY:Heap),h_3.size<=Mn->Fr (In []) h_3 pY->Vars pY [(Mn,[(Sl.v aC),(VI 0)]),(iR,[(Sl.v aC),(VI 0)]),(jP,[(Sl.v bL),(VI bM)]),(jQ,[(Sl.v cW)])]->
 ∀(KT:Nat)(S0:Heap),pY.size<=KT->Fr (In []) pY S0->Vars S0 [(KT,[(Sl.v aC),(VI 0)]),(Mn,[(Sl.v aC),(VI 0)]),(iR,[(Sl.v aC),(VI 0)]),(jP,[(Sl.v bL),(VI bM)]),(jQ,[(Sl.v cW)])]->
 ∀(h_6:Heap),Fr (In [Mn]) S0 h_6->Vars h_6 [(KT,[(Sl.v aC),(VI 0)]),(Mn,[(Sl.v bL),(VI bM)]),(iR,[(Sl.v aC),(VI 0)]),(jP,[(Sl.v bL),(VI bM)]),(jQ,[(Sl.v cW)])]->
 ∀(h_7:Heap),Fr (In [KT]) h_6 h_7->Vars h_7 [(KT,[(Sl.v bL),(VI bM)]),(Mn,[(Sl.v bL),(VI bM)]),(iR,[(Sl.v aC),(VI 0)]),(jP,[(Sl.v bL),(VI bM)]),(jQ,[(Sl.v cW)])]->
 J_1 Mn bL bM KT bL bM h_7)/\
 (∀(Mp:Nat)(h_8:Heap),h_3.size<=Mp->Fr (In []) h_3 h_8->Vars h_8 [(Mp,[(Sl.v aC),(VI 0)]),(iR,[(Sl.v aC),(VI 0)]),(jP,[(Sl.v bL),(VI bM)]),(jQ,[(Sl.v cW)])]->
 ∀(QV:Nat)(Ta:Heap),h_8.size<=QV->Fr (In []) h_8 Ta->Vars Ta [(QV,[(Sl.v aC),(VI 0)]),(Mp,[(Sl.v aC),(VI 0)]),(iR,[(Sl.v aC),(VI 0)]),(jP,[(Sl.v bL),(VI bM)]),(jQ,[(Sl.v cW)])]->
 ∀(aap:Heap),Fr (In [QV]) Ta aap->Vars aap [(QV,[(Sl.v bL),(VI bM)]),(Mp,[(Sl.v aC),(VI 0)]),(iR,[(Sl.v aC),(VI 0)]),(jP,[(Sl.v bL),(VI bM)]),(jQ,[(Sl.v cW)])]->
 ∀(aaq:Heap),Fr (In [Mp]) aap aaq->Vars aaq [(QV,[(Sl.v bL),(VI bM)]),(Mp,[(Sl.v bL),(VI bM)]),(iR,[(Sl.v aC),(VI 0)]),(jP,[(Sl.v bL),(VI bM)]),(jQ,[(Sl.v cW)])]->
 J_1 QV bL bM Mp bL bM aaq))/\
 ∀(lk:Nat)(x_1:Sl)(x_2:Int)(jO:Nat)(x_3:Sl)(x_4:Int)(aar:Heap),J_1 lk x_1 x_2 jO x_3 x_4 aar->Vars aar [(jO,[(Sl.v x_3),(VI x_4)]),(lk,[(Sl.v x_1),(VI x_2)]),(iR,[(Sl.v aC),(VI 0)]),(jP,[(Sl.v bL),(VI bM)]),(jQ,[(Sl.v cW)])]->
 ∃J_2:Nat->Bool->Int->Sl->Int->Sl->Int->Heap->Prop,(∃n0:Nat,J_2 n0 false 1 x_3 x_4 x_1 x_2 aar)/\
 ∀(n_1:Nat)(pB:Bool)(KW:Int)(me:Sl)(mf:Int)(mb:Sl)(mc:Int)(tg:Heap),J_2 n_1 pB KW me mf mb mc tg->Vars tg [(jO,[(Sl.v me),(VI mf)]),(lk,[(Sl.v mb),(VI mc)]),(iR,[(Sl.v aC),(VI 0)]),(jP,[(Sl.v bL),(VI bM)]),(jQ,[(Sl.v cW)])]->
 ((decide ((aL (2*KW))<=4000))=true->
 ((! pB)=true->
 aE P 177 #[(Value.agg #[(Sl.v cW)]),(Value.agg #[(Sl.v mb),(VI mc)])] tg fun akn rm=>∃j9:Sl,∃ka:Int,∃PW:Bool,akn=(Value.tuple #[(Value.agg #[(Sl.v j9),(VI ka)]),(VB PW)])/\Vars rm [(jO,[(Sl.v me),(VI mf)]),(lk,[(Sl.v mb),(VI mc)]),(iR,[(Sl.v aC),(VI 0)]),(jP,[(Sl.v bL),(VI bM)]),(jQ,[(Sl.v cW)])]/\
 ∀(qp:Nat)(aas:Heap),rm.size<=qp->Fr (In []) rm aas->Vars aas [(qp,[(Sl.v j9),(VI ka)]),(jO,[(Sl.v me),(VI mf)]),(lk,[(Sl.v mb),(VI mc)]),(iR,[(Sl.v aC),(VI 0)]),(jP,[(Sl.v bL),(VI bM)]),(jQ,[(Sl.v cW)])]->
 aE P 177 #[(Value.agg #[(Sl.v cW)]),(Value.agg #[(Sl.v me),(VI mf)])] aas fun ako Gk=>∃py:Sl,∃pz:Int,∃PX:Bool,ako=(Value.tuple #[(Value.agg #[(Sl.v py),(VI pz)]),(VB PX)])/\Vars Gk [(qp,[(Sl.v j9),(VI ka)]),(jO,[(Sl.v me),(VI mf)]),(lk,[(Sl.v mb),(VI mc)]),(iR,[(Sl.v aC),(VI 0)]),(jP,[(Sl.v bL),(VI bM)]),(jQ,[(Sl.v cW)])]/\
 ((! PW)=true->
 DW P Gk iR py pz qp j9 ka jO me mf lk mb mc bL bM jP jQ cW K)/\
 ((! PW)=false->
 ((! PX)=true->
 DW P Gk iR py pz qp j9 ka jO me mf lk mb mc bL bM jP jQ cW K)/\
 ((! PX)=false->
 ∀(uz:Nat)(yz:Heap),Gk.size<=uz->Fr (In []) Gk yz->Vars yz [(uz,[(Sl.v py),(VI pz)]),(qp,[(Sl.v j9),(VI ka)]),(jO,[(Sl.v me),(VI mf)]),(lk,[(Sl.v mb),(VI mc)]),(iR,[(Sl.v aC),(VI 0)]),(jP,[(Sl.v bL),(VI bM)]),(jQ,[(Sl.v cW)])]->
 aE P 177 #[(Value.agg #[(Sl.v cW)]),(Value.agg #[(Sl.v py),(VI pz)])] yz fun akp PY=>∃vG:Sl,∃vH:Int,∃PZ:Bool,akp=(Value.tuple #[(Value.agg #[(Sl.v vG),(VI vH)]),(VB PZ)])/\Vars PY [(uz,[(Sl.v py),(VI pz)]),(qp,[(Sl.v j9),(VI ka)]),(jO,[(Sl.v me),(VI mf)]),(lk,[(Sl.v mb),(VI mc)]),(iR,[(Sl.v aC),(VI 0)]),(jP,[(Sl.v bL),(VI bM)]),(jQ,[(Sl.v cW)])]/\
 ((! PZ)=true->
 ∀(Ah:Nat)(uw:Heap),PY.size<=Ah->Fr (In [iR]) PY uw->Vars uw [(Ah,[(Sl.v vG),(VI vH)]),(uz,[(Sl.v py),(VI pz)]),(qp,[(Sl.v j9),(VI ka)]),(jO,[(Sl.v me),(VI mf)]),(lk,[(Sl.v mb),(VI mc)]),(iR,[(Sl.v bL),(VI bM)]),(jP,[(Sl.v bL),(VI bM)]),(jQ,[(Sl.v cW)])]->
 K (Value.tuple #[(VI 0),(Value.agg #[(Sl.v bL),(VI bM)]),(VI 0)]) uw)/\
 ((! PZ)=false->
 ∀(Ah:Nat)(l9:Heap),PY.size<=Ah->Fr (In [jO,lk]) PY l9->Vars l9 [(Ah,[(Sl.v vG),(VI vH)]),(uz,[(Sl.v py),(VI pz)]),(qp,[(Sl.v j9),(VI ka)]),(jO,[(Sl.v vG),(VI vH)]),(lk,[(Sl.v j9),(VI ka)]),(iR,[(Sl.v aC),(VI 0)]),(jP,[(Sl.v bL),(VI bM)]),(jQ,[(Sl.v cW)])]->
 aE P 226 #[(Value.agg #[(Sl.v j9),(VI ka)]),(Value.agg #[(Sl.v vG),(VI vH)])] l9 fun akq C9=>∃Ve:Bool,akq=(VB Ve)/\Vars C9 [(Ah,[(Sl.v vG),(VI vH)]),(uz,[(Sl.v py),(VI pz)]),(qp,[(Sl.v j9),(VI ka)]),(jO,[(Sl.v vG),(VI vH)]),(lk,[(Sl.v j9),(VI ka)]),(iR,[(Sl.v aC),(VI 0)]),(jP,[(Sl.v bL),(VI bM)]),(jQ,[(Sl.v cW)])]/\
 ∃m:Nat,m<n_1/\J_2 m Ve (aL (KW+1)) vG vH j9 ka C9))))/\
 ((! pB)=false->
 zy P pB iR tg jO me mf lk mb mc bL bM jP jQ cW K))/\
 ((decide ((aL (2*KW))<=4000))=false->
 zy P pB iR tg jO me mf lk mb mc bL bM jP jQ cW K)
theorem akr(cW:Sl)(bL:Sl)(bM:Int)(h:Heap)(K:Value->Heap->Prop)(H:adm Tryz.prog cW bL bM h K):aE Tryz.prog 181 #[(Value.agg #[(Sl.v cW)]),(Value.agg #[(Sl.v bL),(VI bM)])] h K:=agX cW bL bM h K H
theorem kC{S S':Nat->Prop}{h:Heap}{g w:Sl}{aD:List (List Int)}{s:St}(G:bF S h g aD)(H:aP S' h w s.1)(W:gv aD s){p:Int}(hp:p=s.2)(K:Value->Heap->Prop)(HK:∀(t:Sl) h',aP (fun k=>S' k\/h.size<=k) h' t ((cA aD s).getD s).1->Fr No h h'->K (.tuple #[.agg #[t.v,VI ((cA aD s).getD s).2],VB (cA aD s).isSome]) h'):aE Tryz.prog 177 #[.agg #[g.v],.agg #[w.v,VI p]] h K:=by
 subst hp
 refine oX G H W _ (fun hn h' f=> ?_) (fun s' hs t h' o f=> ?_)
 ·have:=HK w h' (by rw[hn];exact(H.no f).mono fun k hk=> .inl hk) f
  rw[hn]at this
  exact this
 ·have:=HK t h' (by rw[hs];exact cY.mono o.fa fun k hk=> .inr hk.1) f
  rw[hs]at this
  exact this
theorem nJ{g:List (List Int)}{s:St}(W:gv g s):∀{n:Nat}{t:St},sq g s n=some t->gv g t
 |0,t,h=>by rw[sq]at h;cases h;exact W
 |n+1,t,h=>by
  rw[sq]at h
  cases hn:sq g s n with
  |none=>rw[hn]at h;cases h
  |some u=>rw[hn]at h;exact(nJ W hn).step h
theorem zz{g:List (List Int)}{s0:St}:∀(f n:Nat)(s:St),f+n=2001->sq g s0 n=some s->(∀j,1<=j->j<n->sq g s0 j≠some s0)->((bH g (jM s0.1 s0.2) 1 f (n:Int) () s).1=0/\∀j,1<=j->j<=2000->sq g s0 j≠some s0)\/∃a:Nat,(bH g (jM s0.1 s0.2) 1 f (n:Int) () s).1=(a:Int)/\1<=a/\a<=2000/\sq g s0 a=some s0/\∀j,1<=j->j<a->sq g s0 j≠some s0
 |0,n,s,hn,hs,hj=> .inl ⟨rfl,fun j h1 h2=>hj j h1 (by omega)⟩
 |f+1,n,s,hn,hs,hj=>by
  rw[bH]
  have stop:cA g s=none->(1<=n->s≠s0)->∀j,1<=j->j<=2000->sq g s0 j≠some s0:=fun he eA j h1 h2 hc=>by
   by_cases h3:j<n
   ·exact hj j h1 h3 hc
   ·by_cases h4:j=n
    ·rw[h4,hs]at hc
     exact eA (by omega) (Option.some.inj hc)
    ·have:sq g s0 (n+1)=none:=by rw[sq,hs];exact he
     have:=wK this (j-(n+1))
     rw[show n+1+(j-(n+1))=j by omega]at this
     rw[this]at hc;cases hc
  have next:∀s',cA g s=some s'->(1<=n->s≠s0)->(∀j,1<=j->j<n+1->sq g s0 j≠some s0):=fun s' he eA j h1 h2=>by
   by_cases h3:j<n
   ·exact hj j h1 h3
   ·have:j=n:=by omega
    subst this
    rw[hs]
    exact fun hc=>eA (by omega) (Option.some.inj hc)
  by_cases h1:(1:Int)<=(n:Int)
  ·rw[if_pos h1]
   by_cases h2:(jM s0.1 s0.2 () s).1=true
   ·rw[if_pos h2]
    have e:s=s0:=by
     simp only[jM,decide_eq_true_eq]at h2
     exact Prod.ext h2.2.symm h2.1.symm
    exact .inr ⟨n,rfl,by omega,by omega,by rw[hs,e],hj⟩
   ·rw[if_neg h2]
    have eA:s≠s0:=fun e=>h2 (by simp[jM,e])
    cases he:cA g s with
    |none=>exact .inl ⟨rfl,stop he fun _=>eA⟩
    |some s'=>
     have:=zz f (n+1) s' (by omega) (by rw[sq,hs];exact he) (next s' he fun _=>eA)
     simpa using this
  ·rw[if_neg h1]
   cases he:cA g s with
   |none=>exact .inl ⟨rfl,stop he fun h=>absurd h (by omega)⟩
   |some s'=>
    have:=zz f (n+1) s' (by omega) (by rw[sq,hs];exact he) (next s' he fun h=>absurd h (by omega))
    simpa using this
theorem BI{g:List (List Int)}{s0 s:St}{m n a:Nat}(R:sS g s0 m n)(ha:m<=a)(hs:sq g s0 a=some s):((bH g (jM s.1 s.2) 1 2001 0 () s).1=0/\2000<n-m)\/((bH g (jM s.1 s.2) 1 2001 0 () s).1=((n-m:Nat):Int)/\n-m<=2000):=by
 have rO:=R.lt
 have key:∀j,sq g s j=sq g s0 (a+j):=fun j=>by rw[yi,hs];rfl
 have aat:∀j,1<=j->(sq g s j=some s↔j%(n-m)=0):=fun j hj=>by
  rw[key,<-hs]
  have:=R.iff (a:=a) (b:=a+j) (by omega)
  rw[show a+j-a=j by omega]at this
  constructor
  ·intro h;exact(this.1 h.symm).2
  ·intro h;exact(this.2 ⟨ha,h⟩).symm
 rcases zz (g:=g) (s0:=s) 2001 0 s rfl rfl (fun j h1 h2=>by omega)with⟨h1,h2⟩|⟨b,h1,h2,h3,h4,h5⟩
 ·refine .inl ⟨h1,?_⟩
  by_cases hc:n-m<=2000
  ·exact absurd ((aat (n-m) (by omega)).2 (Nat.mod_self _)) (h2 (n-m) (by omega) hc)
  ·omega
 ·have hb:=(aat b h2).1 h4
  have hle:n-m<=b:=by
   by_cases hc:n-m<=b
   ·exact hc
   ·rw[Nat.mod_eq_of_lt (by omega)]at hb;omega
  have heq:n-m=b:=by
   by_cases hc:n-m<b
   ·exact absurd ((aat (n-m) (by omega)).2 (Nat.mod_self _)) (h5 (n-m) (by omega) hc)
   ·omega
  exact .inr ⟨h1.trans (by rw[heq]),by omega⟩
theorem Gn{S':Nat->Prop}{h:Heap}{g w:Sl}{aD:List (List Int)}{rs:List Int}{p:Int}{m n:Nat}(R:sS aD (rs,p) m n){K:Value->Heap->Prop}(HN:(∀m k,sS aD (rs,p) m k->2000<k)->∀h',Fr No h h'->K (.tuple #[VI 0,.agg #[w.v,VI p],VI 0]) h')(HS:∀m k s,sS aD (rs,p) m k->k<=2000->sq aD (rs,p) m=some s->∀t h',aP (fun k=>S' k\/h.size<=k) h' t s.1->Fr No h h'->K (.tuple #[VI m,.agg #[t.v,VI s.2],VI ((k:Int)-m)]) h'){b1 b2 b3 b4 b5 b13 b14:Nat}(ia:h.size<=b3){X:Heap}(fX:Fr (fun k=>h.size<=k) h X){x5 x7 x15 x17:Sl}{x6 x8 x16:Int}{i:Nat}{s:St}(hs:sq aD (rs,p) i=some s)(hi:i=m\/i=2001/\2000<n)(Q:aP (fun k=>(S' k/\k<h.size)\/(h.size<=k/\k≠b3)) X x17 s.1)(wC:i<=2001)(xW:n-m<=2000):DX Tryz.prog (i:Int) ((n-m:Nat):Int) b3 X b14 x15 x16 b13 x17 s.2 b5 x5 x6 b4 x7 x8 w p b2 b1 g K:=by
 have rO:=R.lt
 unfold DX
 rw[aH _ (by omega) (by omega)]
 have vB:∀{Y:Heap},Fr (In [b3]) X Y->Fr No h Y:=fun f=>(fX.trans (f.mono fun k _ hk=>by simp[In]at hk;omega)).mono fun k hk aI=>absurd aI (by omega)
 refine⟨fun e Y fY hL=> ?_,fun e Y fY hL=> ?_⟩
 ·simp only[decide_eq_true_eq]at e
  refine HN (fun m' k' R'=> ?_) Y (vB fY)
  obtain⟨rfl,rfl⟩:=R.WT R'
  rcases hi with rfl|⟨_,h2⟩
  ·omega
  ·exact h2
 ·simp only[decide_eq_false_iff_not]at e
  rcases hi with rfl|⟨rfl,h2⟩
  ·have:=HS i n s R (by omega) hs x17 Y ((Q.fr fY fun k hk aI=>by simp[In]at aI;rcases hk with hk|hk<;>omega).mono fun k hk=>by rcases hk with hk|hk;exact .inl hk.1;exact .inr hk.1) (vB fY)
   rw[show((n-i:Nat):Int)=(n:Int)-i by omega]
   exact this
  ·omega
set_option maxHeartbeats 4000000 in
theorem P0{S S':Nat->Prop}{h:Heap}{g w:Sl}{aD:List (List Int)}{rs:List Int}{p:Int}(G:bF S h g aD)(H:aP S' h w rs)(W:gv aD (rs,p)){K:Value->Heap->Prop}(HN:(∀m k,sS aD (rs,p) m k->2000<k)->∀h',Fr No h h'->K (.tuple #[VI 0,.agg #[w.v,VI p],VI 0]) h')(HS:∀m k s,sS aD (rs,p) m k->k<=2000->sq aD (rs,p) m=some s->∀t h',aP (fun k=>S' k\/h.size<=k) h' t s.1->Fr No h h'->K (.tuple #[VI m,.agg #[t.v,VI s.2],VI ((k:Int)-m)]) h'){b1 b2 b3 b4 b5:Nat}(hb:h.size<=b1/\h.size<=b2/\h.size<=b3/\h.size<=b4/\h.size<=b5){X:Heap}(fX:Fr (fun k=>h.size<=k) h X){T:Nat->Prop}{x5 x7:Sl}{x6:Int}{a:Nat}{s:St}(met:Bool)(hs:sq aD (rs,p) a=some s)(Q:aP T X x7 s.1)(akt:met=true->1<=a/\sq aD (rs,p) a=sq aD (rs,p) (2*a))(hL:Vars X [(b5,[x5.v,VI x6]),(b4,[x7.v,VI s.2]),(b3,[aC.v,VI 0]),(b2,[w.v,VI p]),(b1,[g.v])])(hT:(!met)=true->∀h':Heap,Fr (In [b3]) X h'->K (.tuple #[VI 0,.agg #[w.v,VI p],VI 0]) h'):zy Tryz.prog met b3 X b5 x5 x6 b4 x7 s.2 w p b2 b1 g K:=by
 unfold zy
 obtain⟨dM,dE,ia,Fi,Og⟩:=hb
 have zX:=fX.size
 have wl:=W.len
 have G0:bF (fun k=>S k/\k<h.size) h g aD:=G.zY
 have H0:aP (fun k=>S' k/\k<h.size) h w rs:=cY.lt H
 refine⟨fun e h' f _=>hT e h' f,?_⟩
 intro e
 have hm:=akt (by simpa using e)
 obtain⟨m,n,hn,R⟩:=WS (g:=aD) (s:=(rs,p)) (2*a) (a:=a) (by omega) hm.2 (by rw[hs];exact fun h=>by cases h)
 have rO:=R.lt
 have hma:m<=a:=((R.iff (a:=a) (b:=2*a) (by omega)).1 hm.2).1
 have Ws:gv aD s:=nJ W hs
 have GX:bF (fun k=>S k/\k<h.size) X g aD:=G0.fr fX fun k hk aI=>by omega
 have P1:∀{Y:Heap},Fr (fun k=>h.size<=k) h Y->Fr No h Y:=fun f=>f.mono fun k hk aI=>absurd aI (by omega)
 have up:∀{Y Z:Heap}{l:List Nat},(∀k,k∈l->h.size<=k)->Fr (In l) Y Z->Fr (fun k=>h.size<=k) Y Z:=fun hl f=>f.mono fun k _ hk=>hl k hk
 have all:=R.all
 refine LF GX (show aP T X x7 (s.1,s.2).1 from Q) s.2 Ws _ fun h29 f29=>⟨_,rfl,hL.aB f29,fun e1 h30 f30 ajb=> ?_,fun e1=> ?_⟩
 ·have P4:=fX.trans f29.aB
  refine HN (fun m' k' R'=> ?_) h30 (P1 (P4.trans (f30.mono fun k _ hk=>by simp[In]at hk;omega)))
  obtain⟨rfl,rfl⟩:=R.WT R'
  simp only[decide_eq_true_eq]at e1
  rcases BI R hma hs with⟨_,h2⟩|⟨h1,h2⟩
  ·omega
  ·rw[show((s.1,s.2):St)=s from rfl]at e1;rw[h1]at e1;omega
 simp only[decide_eq_false_iff_not]at e1
 have xW:(bH aD (jM s.1 s.2) 1 2001 0 () (s.1,s.2)).1=((n-m:Nat):Int)/\n-m<=2000:=by
  rcases BI R hma hs with⟨h1,h2⟩|h
  ·exact absurd h1 e1
  ·exact h
 rw[xW.1]
 have xW:=xW.2
 have P4:=fX.trans f29.aB
 have z29:=P4.size
 have aqn:=hL.aB f29
 refine⟨fun b13 x9 Oh b14 Oj QR h'=>x9=w/\Oh=p/\Oj=w/\QR=p/\h29.size<=b13/\h29.size<=b14/\Fr (fun k=>h.size<=k) h h',⟨fun b15 h31 aau f31 Sb b16 Wq aku f32 akv h33 f33 akw h34 f34 Wr=> ?_,fun b17 h35 aav f35 aci b18 h36 akx f36 Sd h37 f37 Ok h38 f38 aky=> ?_⟩,?_⟩
 ·have:=f31.size
  exact⟨rfl,rfl,rfl,rfl,aau,by omega,(((P4.trans f31.aF.aB).trans f32.aF.aB).trans (f33.mono fun k _ hk=>by simp[In]at hk;omega)).trans (f34.mono fun k _ hk=>by simp[In]at hk;omega)⟩
 ·have:=f35.size
  exact⟨rfl,rfl,rfl,rfl,by omega,aav,(((P4.trans f35.aF.aB).trans f36.aF.aB).trans (f37.mono fun k _ hk=>by simp[In]at hk;omega)).trans (f38.mono fun k _ hk=>by simp[In]at hk;omega)⟩
 rintro b13 x9 Oh b14 Oj QR LI ⟨rfl,rfl,rfl,rfl,aqs,aqt,f39⟩ Om
 have z39:=f39.size
 have l14:b14<LI.size:=Om.head.lt
 have l13:b13<LI.size:=Om.tail.head.lt
 have l3:b3<LI.size:=Om.tail.tail.tail.tail.head.lt
 have inc:∀{k:Nat},((S' k/\k<h.size)\/LI.size<=k)->(S' k/\k<h.size)\/(h.size<=k/\k≠b3):=fun hk=>by
  rcases hk with hk|hk
  ·exact .inl hk
  ·exact .inr (by omega)
 have H39:aP (fun k=>(S' k/\k<h.size)\/LI.size<=k) LI Oj rs:=(H0.fr f39 fun k hk aI=>by omega).mono fun k hk=> .inl hk
 refine⟨fun n2 i x q h'=>∃(j:Nat)(t:St),i=(j:Int)/\n2+j=n-m/\sq aD (rs,QR) j=some t/\q=t.2/\aP (fun k=>(S' k/\k<h.size)\/LI.size<=k) h' x t.1/\Fr (fun k=>h.size<=k) h h'/\LI.size<=h'.size,⟨n-m,0,(rs,QR),rfl,rfl,rfl,rfl,H39,f39,Nat.le_refl _⟩,?_⟩
 rintro n2 i x q h40 ⟨j,t,rfl,ej,hj,rfl,Q40,f40,z40⟩ akz
 have Wt:gv aD t:=nJ W hj
 have G40:bF (fun k=>S k/\k<h.size) h40 g aD:=G0.fr f40 fun k hk aI=>by omega
 refine⟨fun e2=> ?_,fun e2=> ?_⟩
 ·simp only[decide_eq_true_eq]at e2
  refine kC G40 Q40 Wt rfl _ fun y h41 Y41 f41=>⟨y,_,_,rfl,akz.aB f41,fun h42 f42 aji=> ?_⟩
  have z41:=f41.size
  rw[aH _ (by omega) (by omega)]
  have Ni:cA aD t≠none:=fun hh=>all (j+1) (by rw[sq,hj];exact hh)
  obtain⟨t',ht'⟩:=Option.ne_none_iff_exists'.1 Ni
  rw[ht']at Y41⊢
  simp only[Option.getD_some]at Y41⊢
  refine⟨n2-1,by omega,j+1,t',by omega,by omega,by rw[sq,hj];exact ht',rfl,(Y41.fr f42 fun k hk aI=>by simp[In]at aI;rcases hk with(hk|hk)|hk<;>omega).mono fun k hk=>by rcases hk with hk|hk;exact hk;exact .inr (by omega),(f40.trans f41.aB).trans (f42.mono fun k _ hk=>by simp[In]at hk;omega),by have:=f42.size;omega⟩
 simp only[decide_eq_false_iff_not]at e2
 have ej2:j=n-m:=by omega
 subst ej2
 have H40:aP (fun k=>(S' k/\k<h.size)\/LI.size<=k) h40 Oj rs:=(H0.fr f40 fun k hk aI=>by omega).mono fun k hk=> .inl hk
 refine⟨fun n3 st y q2 z q3 h'=>∃(i:Nat)(u v:St),st=(i:Int)/\n3+i=2001/\sq aD (rs,QR) i=some u/\sq aD (rs,QR) (i+(n-m))=some v/\q3=u.2/\q2=v.2/\aP (fun k=>(S' k/\k<h.size)\/LI.size<=k) h' z u.1/\aP (fun k=>(S' k/\k<h.size)\/LI.size<=k) h' y v.1/\(∀j,j<i->j<m)/\Fr (fun k=>h.size<=k) h h'/\LI.size<=h'.size,⟨2001,0,(rs,QR),t,rfl,rfl,rfl,by rw[Nat.zero_add];exact hj,rfl,rfl,H40,Q40,fun j hj=>by omega,f40,z40⟩,?_⟩
 rintro n3 st y q2 z q3 h43 ⟨i,u,v,rfl,en3,hu,hv,rfl,rfl,Z43,Y43,akB,f43,z43⟩ adp
 have Wu:gv aD u:=nJ W hu
 have Wv:gv aD v:=nJ W hv
 have zA:(u.2=v.2/\u.1=v.1)↔m<=i:=by
  have h1:=R.iff (a:=i) (b:=i+(n-m)) (by omega)
  rw[hu,hv,show i+(n-m)-i=n-m by omega,Nat.mod_self]at h1
  constructor
  ·intro hh;exact(h1.1 (congrArg some (Prod.ext hh.2 hh.1))).1
  ·intro hh
   have:=Option.some.inj (h1.2 ⟨hh,rfl⟩)
   rw[this];exact⟨rfl,rfl⟩
 refine xS Z43 Y43 u.2 v.2 _ fun h44 f44=>⟨_,rfl,adp.aB f44,fun e3=>⟨fun e4=> ?_,fun e4=> ?_⟩,fun e3=> ?_⟩
 ·have akC:=adp.aB f44
  have z44:=f44.size
  simp only[Bool.not_eq_true',decide_eq_false_iff_not,zA]at e3
  simp only[decide_eq_true_eq]at e4
  have adq:=f43.trans f44.aB
  have G44:bF (fun k=>S k/\k<h.size) h44 g aD:=G0.fr adq fun k hk aI=>by omega
  refine kC G44 (Z43.no f44) Wu rfl _ fun z' h45 Z45 f45=>⟨z',_,_,rfl,akC.aB f45,fun h46 f46 akE=> ?_⟩
  have z45:=f45.size
  have adr:=(adq.trans f45.aB).trans (f46.mono fun k _ hk=>by simp[In]at hk;omega)
  have z46:=f46.size
  have G46:bF (fun k=>S k/\k<h.size) h46 g aD:=G0.fr adr fun k hk aI=>by omega
  have Y46:=((Y43.no f44).no f45).fr f46 fun k hk aI=>by simp[In]at aI;rcases hk with hk|hk<;>omega
  refine kC G46 Y46 Wv rfl _ fun y' h47 Y47 f47=>⟨y',_,_,rfl,akE.aB f47,fun h48 f48 aqD=> ?_⟩
  have z47:=f47.size
  have z48:=f48.size
  have hsu:cA aD u≠none:=fun hh=>all (i+1) (by rw[sq,hu];exact hh)
  have hsv:cA aD v≠none:=fun hh=>all (i+(n-m)+1) (by rw[sq,hv];exact hh)
  obtain⟨u',hu'⟩:=Option.ne_none_iff_exists'.1 hsu
  obtain⟨v',hv'⟩:=Option.ne_none_iff_exists'.1 hsv
  rw[hu']at Z45⊢
  rw[hv']at Y47⊢
  simp only[Option.getD_some]at Z45 Y47⊢
  rw[aH _ (by omega) (by omega)]
  refine⟨n3-1,by omega,i+1,u',v',by omega,by omega,by rw[sq,hu];exact hu',by rw[show i+1+(n-m)=i+(n-m)+1 by omega,sq,hv];exact hv',rfl,rfl,?_,?_,fun j hj=>by omega,?_,by omega⟩
  ·have a1:=(Z45.fr f46 fun k hk aI=>by simp[In]at aI;rcases hk with(hk|hk)|hk<;>omega).no f47
   exact(a1.fr f48 fun k hk aI=>by simp[In]at aI;rcases hk with(hk|hk)|hk<;>omega).mono fun k hk=>by rcases hk with hk|hk;exact hk;exact .inr (by omega)
  ·exact(Y47.fr f48 fun k hk aI=>by simp[In]at aI;rcases hk with(hk|hk)|hk<;>omega).mono fun k hk=>by rcases hk with hk|hk;exact hk;exact .inr (by omega)
  ·exact(adr.trans f47.aB).trans (f48.mono fun k _ hk=>by simp[In]at hk;omega)
 ·simp only[Bool.not_eq_true',decide_eq_false_iff_not,zA]at e3
  simp only[decide_eq_false_iff_not]at e4
  exact Gn R HN HS ia (f43.trans f44.aB) hu (.inr ⟨by omega,by omega⟩) ((Z43.no f44).mono fun k hk=>inc hk) (by omega) xW
 ·simp only[Bool.not_eq_false',decide_eq_true_eq,zA]at e3
  have him:i=m:=by
   by_cases hc:m<i
   ·have:=akB m hc;omega
   ·omega
  exact Gn R HN HS ia (f43.trans f44.aB) hu (.inl him) ((Z43.no f44).mono fun k hk=>inc hk) (by omega) xW
set_option maxHeartbeats 4000000 in
theorem Jh{S S':Nat->Prop}{h:Heap}{g w:Sl}{aD:List (List Int)}{rs:List Int}{p:Int}(G:bF S h g aD)(H:aP S' h w rs)(W:gv aD (rs,p))(K:Value->Heap->Prop)(HN:(∀m k,sS aD (rs,p) m k->2000<k)->∀h',Fr No h h'->K (.tuple #[VI 0,.agg #[w.v,VI p],VI 0]) h')(HS:∀m k s,sS aD (rs,p) m k->k<=2000->sq aD (rs,p) m=some s->∀t h',aP (fun k=>S' k\/h.size<=k) h' t s.1->Fr No h h'->K (.tuple #[VI m,.agg #[t.v,VI s.2],VI ((k:Int)-m)]) h'):aE Tryz.prog 181 #[.agg #[g.v],.agg #[w.v,VI p]] h K:=by
 refine akr g w p h K ?_
 unfold adm
 intro b1 b2 b3 h3 dM dE ia f3 cF
 have f3:=f3.aF
 have z3:=f3.size
 have G0:bF (fun k=>S k/\k<h.size) h g aD:=G.zY
 have H0:aP (fun k=>S' k/\k<h.size) h w rs:=cY.lt H
 have P1:∀{Y:Heap},Fr (fun k=>h.size<=k) h Y->Fr No h Y:=fun f=>f.mono fun k hk aI=>absurd aI (by omega)
 refine⟨fun b4 x1 x2 b5 x3 x4 h'=>x1=w/\x2=p/\x3=w/\x4=p/\h3.size<=b4/\h3.size<=b5/\Fr (fun k=>h.size<=k) h h',⟨fun b15 h31 aau f31 Sb b16 Wq aku f32 akv h33 f33 akw h34 f34 Wr=> ?_,fun b17 h35 aav f35 aci b18 h36 akx f36 Sd h37 f37 Ok h38 f38 aky=> ?_⟩,?_⟩
 ·have:=f31.size
  exact⟨rfl,rfl,rfl,rfl,aau,by omega,(((f3.aB.trans f31.aF.aB).trans f32.aF.aB).trans (f33.mono fun k _ hk=>by simp[In]at hk;omega)).trans (f34.mono fun k _ hk=>by simp[In]at hk;omega)⟩
 ·have:=f35.size
  exact⟨rfl,rfl,rfl,rfl,by omega,aav,(((f3.aB.trans f35.aF.aB).trans f36.aF.aB).trans (f37.mono fun k _ hk=>by simp[In]at hk;omega)).trans (f38.mono fun k _ hk=>by simp[In]at hk;omega)⟩
 rintro b4 x1 x2 b5 x3 x4 iu ⟨rfl,rfl,rfl,rfl,Fi,Og,f12⟩ q6
 have z12:=f12.size
 have l5:b5<iu.size:=q6.head.lt
 have l4:b4<iu.size:=q6.tail.head.lt
 have l3:b3<iu.size:=q6.tail.tail.head.lt
 have H12:aP (fun k=>(S' k/\k<h.size)\/iu.size<=k) iu x3 rs:=(H0.fr f12 fun k hk aI=>by omega).mono fun k hk=> .inl hk
 refine⟨fun n met U1 x5 x6 x7 x8 h'=>∃(a:Nat)(s t:St),U1=(a:Int)+1/\n+a=2000/\sq aD (rs,x4) a=some s/\sq aD (rs,x4) (2*a)=some t/\x8=s.2/\x6=t.2/\aP (fun k=>(S' k/\k<h.size)\/iu.size<=k) h' x7 s.1/\aP (fun k=>(S' k/\k<h.size)\/iu.size<=k) h' x5 t.1/\(met=true->1<=a/\s=t)/\(met=false->∀j,1<=j->j<=a->sq aD (rs,x4) j≠sq aD (rs,x4) (2*j))/\Fr (fun k=>h.size<=k) h h'/\iu.size<=h'.size,⟨2000,0,(rs,x4),(rs,x4),rfl,rfl,rfl,rfl,rfl,rfl,H12,H12,fun e=>(by cases e),fun _ j h1 h2=>by omega,f12,Nat.le_refl _⟩,?_⟩
 rintro n met U1 x5 x6 x7 x8 sD ⟨a,s,t,rfl,en,hs,ht,rfl,rfl,Q13,P13,hm1,hm0,f13,z13⟩ Oc
 have Ws:gv aD s:=nJ W hs
 have Wt:gv aD t:=nJ W ht
 have bad:∀{X Y:Heap},(∀m k,sS aD (rs,x4) m k->2000<k)->Fr (fun k=>h.size<=k) h X->Fr (In [b3]) X Y->K (.tuple #[VI 0,.agg #[x3.v,VI x4],VI 0]) Y:=fun hN f1 f2=>HN hN _ (P1 (f1.trans (f2.mono fun k _ hk=>by simp[In]at hk;omega)))
 have Vf:((!met)=true->∀h':Heap,Fr (In [b3]) sD h'->K (.tuple #[VI 0,.agg #[x3.v,VI x4],VI 0]) h')->zy Tryz.prog met b3 sD b5 x5 t.2 b4 x7 s.2 x3 x4 b2 b1 g K:=P0 G H W HN HS ⟨dM,dE,ia,by omega,by omega⟩ f13 met hs Q13 (fun e=>by obtain⟨h1,h2⟩:=hm1 e;exact⟨h1,by rw[hs,ht,h2]⟩) Oc
 rw[aH (2*((a:Int)+1)) (by omega) (by omega)]
 refine⟨fun e=>⟨fun e2=> ?_,fun e2=>Vf fun e3=>absurd (e2.symm.trans e3) (by decide)⟩,fun e=>Vf fun e2 h53 f53=> ?_⟩
 ·simp only[decide_eq_true_eq]at e
  have hmf:met=false:=by simpa using e2
  have G13:bF (fun k=>S k/\k<h.size) sD g aD:=G0.fr f13 fun k hk aI=>by omega
  refine kC G13 Q13 Ws rfl _ fun y Xf Y14 f14=>⟨y,_,_,rfl,Oc.aB f14,fun b10 Mh ach f16 zB=> ?_⟩
  have f16:=f16.aF
  have z14:=f14.size
  have z16:=f16.size
  have Ms:=(f13.trans f14.aB).trans f16.aB
  have G16:bF (fun k=>S k/\k<h.size) Mh g aD:=G0.fr Ms fun k hk aI=>by omega
  refine kC G16 ((P13.no f14).no f16) Wt rfl _ fun z Xh Z17 f17=>⟨z,_,_,rfl,zB.aB f17,fun e3=> ?_,fun e3=>⟨fun e4=> ?_,fun e4 b11 KP ads f19 zC=> ?_⟩⟩
  ·have hz:sq aD (rs,x4) (a+1)=none:=by
    rw[sq,hs]
    cases h5:cA aD s with
    |none=>exact h5
    |some s'=>rw[h5]at e3;cases e3
   unfold DW
   exact fun b11 h28 ads f28 Mg=>bad (fun m k R=>absurd hz (R.all _)) (Ms.trans f17.aB) f28
  ·have hz:sq aD (rs,x4) (2*a+1)=none:=by
    rw[sq,ht]
    cases h5:cA aD t with
    |none=>exact h5
    |some s'=>rw[h5]at e4;cases e4
   unfold DW
   exact fun b11 h28 ads f28 Mg=>bad (fun m k R=>absurd hz (R.all _)) (Ms.trans f17.aB) f28
  have f19:=f19.aF
  have z17:=f17.size
  have z19:=f19.size
  have Ji:=(Ms.trans f17.aB).trans f19.aB
  obtain⟨s',Ho⟩:∃s',cA aD s=some s':=by
   cases h5:cA aD s with
   |none=>rw[h5]at e3;cases e3
   |some s'=>exact⟨s',rfl⟩
  obtain⟨t',ht'⟩:∃t',cA aD t=some t':=by
   cases h5:cA aD t with
   |none=>rw[h5]at e4;cases e4
   |some s'=>exact⟨s',rfl⟩
  have W':=Wt.step ht'
  rw[Ho]at Y14 zC⊢
  rw[ht']at Z17 zC⊢
  simp only[Option.getD_some]at Y14 Z17 zC⊢
  have G19:bF (fun k=>S k/\k<h.size) KP g aD:=G0.fr Ji fun k hk aI=>by omega
  refine kC G19 (Z17.no f19) W' rfl _ fun z2 Xk Z21 f21=>⟨z2,_,_,rfl,zC.aB f21,fun e5 b12 h24 akK f24 aqN=> ?_,fun e5 b12 vy akK f26 tY=> ?_⟩
  ·have hz:sq aD (rs,x4) (2*a+2)=none:=by
    rw[sq,sq,ht]
    show(cA aD t).bind _=none
    rw[ht']
    cases h5:cA aD t' with
    |none=>exact h5
    |some s'=>rw[h5]at e5;cases e5
   exact bad (fun m k R=>absurd hz (R.all _)) (Ji.trans f21.aB) f24
  obtain⟨t2,ht2⟩:∃t2,cA aD t'=some t2:=by
   cases h5:cA aD t' with
   |none=>rw[h5]at e5;cases e5
   |some s'=>exact⟨s',rfl⟩
  rw[ht2]at Z21 tY⊢
  simp only[Option.getD_some]at Z21 tY⊢
  have z21:=f21.size
  have z26:=f26.size
  have off:∀k,((S' k/\k<h.size)\/iu.size<=k)->¬In [b5,b4] k:=fun k hk aI=>by
   simp only[In,List.mem_cons,List.not_mem_nil,or_false]at aI
   rcases hk with hk|hk<;>rcases aI with rfl|rfl<;>omega
  have Y26:aP (fun k=>(S' k/\k<h.size)\/iu.size<=k) vy y s'.1:=(((((Y14.no f16).no f17).no f19).no f21).mono fun k hk=>by rcases hk with hk|hk;exact hk;exact .inr (by omega)).fr f26 off
  have Z26:aP (fun k=>(S' k/\k<h.size)\/iu.size<=k) vy z2 t2.1:=(Z21.mono fun k hk=>by rcases hk with(hk|hk)|hk;exact hk;exact .inr (by omega);exact .inr (by omega)).fr f26 off
  have H8:=(Ji.trans f21.aB).trans (f26.mono fun k _ hk=>by simp only[In,List.mem_cons,List.not_mem_nil,or_false]at hk;omega)
  refine xS Y26 Z26 s'.2 t2.2 _ fun R9 f27=>⟨_,rfl,tY.aB f27,?_⟩
  have z27:=f27.size
  have Wz:sq aD (rs,x4) (a+1)=some s':=by rw[sq,hs];exact Ho
  have ht1:sq aD (rs,x4) (2*(a+1))=some t2:=by
   rw[show 2*(a+1)=2*a+1+1 by omega,sq,sq,ht]
   show((cA aD t).bind _)=_
   rw[ht'];exact ht2
  rw[aH _ (by omega) (by omega)]
  refine⟨n-1,by omega,a+1,s',t2,by omega,by omega,Wz,ht1,rfl,rfl,Y26.no f27,Z26.no f27,fun e6=> ?_,fun e6 j h1 h2=> ?_,H8.trans f27.aB,by omega⟩
  ·simp only[decide_eq_true_eq]at e6
   exact⟨by omega,Prod.ext e6.2 e6.1⟩
  ·simp only[decide_eq_false_iff_not]at e6
   by_cases hj:j<=a
   ·exact hm0 hmf j h1 hj
   ·have:j=a+1:=by omega
    subst this
    rw[Wz,ht1]
    exact fun hh=>by
     have:=Option.some.inj hh
     rw[this]at e6
     exact e6 ⟨rfl,rfl⟩
 ·simp only[decide_eq_false_iff_not]at e
  have hmf:met=false:=by simpa using e2
  have ha:a=2000:=by omega
  refine bad (fun m k R=> ?_) f13 f53
  obtain⟨j,j1,j2,_,j4⟩:=R.meets
  by_cases hc:k<=2000
  ·exact absurd j4 (hm0 hmf j j1 (by omega))
  ·omega
def dX(g:List (List Int))(rs:List Int)(p:Int):Int×Int×Bool:=if eC g rs p then FJ g (rs,p)else(0,0,false)
theorem vV{S S':Nat->Prop}{h:Heap}{g w:Sl}{aD:List (List Int)}{rs:List Int}(G:bF S h g aD)(H:aP S' h w rs)(p:Int)(K:Value->Heap->Prop)(HK:∀h',Fr No h h'->K (.tuple #[VI (dX aD rs p).1,VI (dX aD rs p).2.1,VB (dX aD rs p).2.2]) h'):aE Tryz.prog 136 #[.agg #[g.v],.agg #[w.v,VI p]] h K:=by
 unfold dX at HK
 refine af3 g w p h K fun b1 b2 h2 dM dE f2 bP=> ?_
 have f2:=f2.aF
 refine eK (G.no f2) (H.no f2) p _ fun h3 f3=>⟨_,rfl,bP.aB f3,fun e=> ?_,fun e=> ?_⟩
 ·simp only[Bool.not_eq_true']at e
  rw[e]at HK
  exact HK h3 (f2.trans f3)
 simp only[Bool.not_eq_false']at e
 rw[if_pos e]at HK
 have W:=cG e
 have gj:=f2.trans f3
 refine Jh (G.no gj) (H.no gj) W _ (fun hN h4 f4=>⟨_,w,p,_,rfl,(bP.aB f3).aB f4,fun _ b3 h6 ia f6 iN=> ?_,fun e1=>by simp at e1⟩) (fun m k s R hk hs t h4 T4 f4=>⟨_,t,s.2,_,rfl,(bP.aB f3).aB f4,fun e1=> ?_,fun _ b3 h6 ia f6 iN=> ?_⟩)
 ·have:=HK h6 ((gj.trans f4).trans f6.aF)
  rw[Ky hN]at this
  exact this
 ·have:=R.lt
  simp only[decide_eq_true_eq]at e1
  omega
 ·have:=HK h6 ((gj.trans f4).trans f6.aF)
  rw[FK R hk]at this
  exact this
theorem Jj{S S':Nat->Prop}{h:Heap}{g w:Sl}{aD:List (List Int)}{rs:List Int}(G:bF S h g aD)(H:aP S' h w rs)(p:Int)(K:Value->Heap->Prop)(HK:∀h',Fr No h h'->K (.tuple #[VI (dX aD rs p).1,VI (dX aD rs p).2.1,VB (dX aD rs p).2.2]) h'):aE Tryz.prog 157 #[.agg #[g.v],.agg #[w.v,VI p]] h K:=by
 unfold dX at HK
 refine v157 g w p h K fun b1 b2 h2 dM dE f2 bP=> ?_
 have f2:=f2.aF
 refine oS (G.no f2) (H.no f2) p _ fun h3 f3=>⟨_,rfl,bP.aB f3,fun e=> ?_,fun e=> ?_⟩
 ·simp only[Bool.not_eq_true']at e
  rw[e]at HK
  exact HK h3 (f2.trans f3)
 simp only[Bool.not_eq_false']at e
 rw[if_pos e]at HK
 have gj:=f2.trans f3
 exact OO (G.no gj) (H.no gj) (cG e) _ fun h4 f4=>⟨_,_,_,rfl,(bP.aB f3).aB f4,HK h4 (gj.trans f4)⟩
theorem k8{g:List (List Int)}{rs:List Int}(p:Int)(m:Nat):∀k,cT g rs p (m+k)=cT g rs (cT g rs p m) k
 |0=>rfl
 |k+1=>by rw[<-Nat.add_assoc,cT,k8 p m k];rfl
theorem Mt{g:List (List Int)}{rs:List Int}{p:Int}{i d i' d':Nat}(L:vz g rs p i d)(L':vz g rs p i' d'):i=i'/\d=d':=by
 have a1:=L.d1
 have a2:=L'.d1
 have e:i+d=i'+d':=by
  rcases Nat.lt_trichotomy (i+d) (i'+d')with h|h|h
  ·exact absurd L.eq (L'.inj i (i+d) (by omega) h)
  ·exact h
  ·exact absurd L'.eq (L.inj i' (i'+d') (by omega) h)
 have e2:i=i':=by
  rcases Nat.lt_trichotomy i i' with h|h|h
  ·exact absurd (L.eq.trans (by rw[e];exact L'.eq.symm)) (L.inj i i' h (by omega))
  ·exact h
  ·exact absurd (L'.eq.trans (by rw[<-e];exact L.eq.symm)) (L.inj i' i h (by omega))
 exact⟨e2,by omega⟩
noncomputable def QW(g:List (List Int))(rs:List Int)(p:Int):List Int×Bool:=
 @dite _ (0<=cT g rs p g.length/\∃t:Nat×Nat,vz g rs p t.1 t.2) (Classical.propDecidable _) (fun h=>((List.range (Classical.choose h.2).2).map fun r=>cT g rs p ((Classical.choose h.2).1+r),true)) fun _=>([],false)
theorem zD{g:List (List Int)}{rs:List Int}{p:Int}(h:cT g rs p g.length<0):QW g rs p=([],false):=by
 unfold QW
 rw[dif_neg (fun h2=>by have:=h2.1;omega)]
theorem zE{g:List (List Int)}{rs:List Int}{p:Int}(h:0<=cT g rs p g.length){i d:Nat}(L:vz g rs p i d):QW g rs p=((List.range d).map fun r=>cT g rs p (i+r),true):=by
 have h2:0<=cT g rs p g.length/\∃t:Nat×Nat,vz g rs p t.1 t.2:=⟨h,(i,d),L⟩
 unfold QW
 rw[dif_pos h2]
 obtain⟨e1,e2⟩:=Mt L (Classical.choose_spec h2.2)
 rw[<-e1,<-e2]
noncomputable def rB(g:List (List Int))(rs:List Int)(p:Int):List Int×Bool:=if eC g rs p then QW g rs p else([],false)
theorem Jk{S S':Nat->Prop}{h:Heap}{g w:Sl}{aD:List (List Int)}{rs:List Int}{a:Int}(G:bF S h g aD)(H:aP S' h w rs)(W:gv aD (rs,a)){p:Int}(h0:0<=p)(h1:p<(aD.length:Int)){D:Nat}(D1:1<=D)(hD:cT aD rs p D=p)(hDm:D<=aD.length)(hp:0<=cT aD rs p aD.length)(K:Value->Heap->Prop)
 (HS:∀d t h',1<=d->cT aD rs p d=p->(∀j,1<=j->j<d->cT aD rs p j≠p)->aP (fun _=>True) h' t ((List.range d).map fun r=>cT aD rs p r)->Fr No h h'->K t.v h'):aE Tryz.prog 231 #[.agg #[g.v],w.v,VI p] h K:=by
 refine ah2 g w p h K fun b1 h2 dM f2 bP=> ?_
 have f2:=f2.aF
 have l1:b1<h2.size:=bP.head.lt
 have z2:=f2.size
 have R0:=aO W.bE
 refine aS fL (fun k=>h2.size<=k) (fun _ h=>h) 1 (by omega) [VI p] rfl rfl fun t h4 n4 c4 o4 f4 m4 _=>⟨t,rfl,bP.aB f4,?_⟩
 have z4:=f4.size
 have iE:=f2.aA f4
 refine my (G.no iE) (H.no iE) W h0 h1 _ fun h5 f5=>⟨_,rfl,(bP.aB f4).aB f5,?_⟩
 have z5:=f5.size
 have tX:=iE.aA f5
 refine⟨fun n x q h'=>∃m,1<=m/\m<=D/\n=D-m/\q=cT aD rs p m/\(∀j,1<=j->j<m->cT aD rs p j≠p)/\bK h' (fun k=>h2.size<=k) x ((List.range m).map fun r=>cT aD rs p r)/\Fr No h h'/\h2.size<=h'.size,⟨D-1,1,Nat.le_refl _,D1,rfl,rfl,fun j a b=>by omega,by show Ow _ _ _ _ _ _;simpa[cT]using Ow.no o4 f5,tX,by omega⟩,?_⟩
 rintro n x q h6 ⟨m,m1,m2,rfl,rfl,mj,o6,f6,z6⟩ iN
 refine⟨fun e=> ?_,fun e=> ?_⟩
 ·have e:=aY e
  simp only[decide_eq_false_iff_not]at e
  have jL:m≠D:=fun h=>e (by rw[h];exact hD)
  refine aS fL (fun k=>h6.size<=k) (fun _ h=>h) 1 (by omega) [VI (cT aD rs p m)] rfl rfl fun u h7 n7 c7 o7 f7 m7 _=>⟨u,rfl,iN.aB f7,?_⟩
  have z7:=f7.size
  have r7:aP u.own h7 u [cT aD rs p m]:=o7.rd
  have hxn:x.n=m:=by have:=aP.len (Ow.fa o6:aP _ h6 x _);simpa using this
  have off:∀p,p∈[(b1,[g.v])]->¬(h2.size<=p.1):=fun p hp=>by
   simp only[List.mem_cons,List.not_mem_nil,or_false]at hp
   subst hp
   show¬(h2.size<=b1)
   omega
  refine bQ fL (Ow.no o6 f7) (fun k hk=>by omega) r7 (ff _) (by have:=r7.len;simp at this;omega) fun y h8 n8 o8 f8 d8=>⟨y,rfl,(iN.aB f7).fr f8 (fun p hp hk=>off p hp (o6.aG hk).1),?_⟩
  have z8:=f8.size
  have Fk:Fr No h h8:=(f6.aA f7).fresh f8 fun k hk=>by have:=(o6.aG hk).1;omega
  refine my (G.no Fk) (H.no Fk) W (xV W h0 h1 hp _) (kO W h0 h1 _).2 _ fun h9 f9=>⟨_,rfl,((iN.aB f7).fr f8 (fun p hp hk=>off p hp (o6.aG hk).1)).aB f9,?_⟩
  have z9:=f9.size
  rw[<-List.map_append]at o8
  refine⟨D-(m+1),by omega,m+1,by omega,by omega,rfl,rfl,fun j a b=> ?_,?_,Fk.aA f9,by omega⟩
  ·by_cases hj:j<m
   ·exact mj j a hj
   ·obtain rfl:j=m:=by omega
    exact e
  ·rw[List.range_succ,List.map_append,List.map_cons,List.map_nil]
   exact Ow.no o8 f9
 ·have e:=aV e
  simp only[decide_eq_true_eq]at e
  exact HS m x h6 m1 e mj ((Ow.fa o6:aP _ h6 x _).mono fun _ _=>trivial) f6
theorem Aj{S S':Nat->Prop}{h:Heap}{g w:Sl}{aD:List (List Int)}{rs:List Int}{p:Int}(G:bF S h g aD)(H:aP S' h w rs)(W:gv aD (rs,p))(K:Value->Heap->Prop)(HK:∀t h',aP (fun _=>True) h' t (QW aD rs p).1->Fr No h h'->K (.tuple #[t.v,VB (QW aD rs p).2]) h'):aE Tryz.prog 184 #[.agg #[g.v],.agg #[w.v,VI p]] h K:=by
 have h0:0<=p:=W.lo
 have h1:p<(aD.length:Int):=W.hi
 refine ag1 g w p h K fun b1 b2 h2 dM dE f2 bP=> ?_
 have f2:=f2.aF
 refine LK (G.no f2) (H.no f2) W h0 h1 _ (fun hn h3 f3=>⟨aC,false,rfl,bP.aB f3,fun _=> ?_,fun e=>by simp at e⟩) fun hn t xs h3 hx r3 f3=>⟨t,true,rfl,bP.aB f3,fun e=>by simp at e,fun _=> ?_⟩
 ·rw[zD hn]at HK
  exact HK aC h3 ((Ow.nil _ _ _ _:bK h3 (fun _=>True) aC []).fa) (f2.aA f3)
 refine⟨fun n q h'=>∃m,m<=aD.length/\n=aD.length-m/\q=cT aD rs p m/\(∀j,j<m->cT aD rs p j∉xs)/\Fr No h h'/\aP (fun _=>True) h' t xs,⟨aD.length,0,by omega,rfl,rfl,fun j hj=>by omega,f2.aA f3,r3⟩,?_⟩
 rintro n q h4 ⟨m,hm,rfl,rfl,mj,f4,r4⟩ dN
 refine Sf r4 _ _ ⟨_,rfl,dN,fun e=> ?_,fun e=> ?_⟩
 ·have e:=aY e
  simp only[decide_eq_false_iff_not]at e
  have HA:m<aD.length:=by
   by_cases hx2:m<aD.length
   ·exact hx2
   ·obtain rfl:m=aD.length:=by omega
    exact absurd ((hx _).2 ⟨_,Nat.le_refl _,rfl⟩) e
  refine my (G.no f4) (H.no f4) W (xV W h0 h1 hn _) (kO W h0 h1 _).2 _ fun h6 f6=>⟨_,rfl,dN.aB f6,aD.length-(m+1),by omega,m+1,by omega,rfl,rfl,fun j hj=> ?_,f4.aA f6,r4.no f6⟩
  by_cases Ib:j<m
  ·exact mj j Ib
  ·obtain rfl:j=m:=by omega
   exact e
 ·have e:=aV e
  simp only[decide_eq_true_eq]at e
  obtain⟨k0,hk0,ek0⟩:=(hx _).1 e
  obtain⟨i9,d9,c1,c2,c3⟩:=sG W h0 h1 hn
  have xW:cT aD rs p (m+d9)=cT aD rs p m:=by
   have e1:=mw ek0 d9
   have e2:=sF c3 (k0-i9) 1
   rw[show i9+(k0-i9)=k0 by omega,Nat.mul_one]at e2
   rw[<-e1,e2,ek0]
  refine Jk (G.no f4) (H.no f4) W (xV W h0 h1 hn m) (kO W h0 h1 m).2 (D:=d9) c1 (by rw[<-k8];exact xW) (by omega) (by rw[<-k8];exact xV W h0 h1 hn _) _ fun d t2 h7 d1 dd dj r7 f7=>⟨t2,rfl,dN.aB f7,?_⟩
  have L:vz aD rs p m d:=⟨d1,by rw[k8];exact dd.symm,fun a b ab bm ee=>by
   by_cases ha:a<m
   ·refine mj a ha ((hx _).2 ⟨a+(b-a)*aD.length,?_,?_⟩)
    ·have:1*aD.length<=(b-a)*aD.length:=Nat.mul_le_mul_right _ (by omega)
     omega
    ·have:=sF (g:=aD) (rs:=rs) (p:=p) (i:=a) (d:=b-a) (by rw[show a+(b-a)=b by omega];exact ee) 0 aD.length
     simpa using this
   ·have e1:=mw ee (m+d-b)
    rw[show b+(m+d-b)=m+d by omega,k8 p m d,dd]at e1
    refine dj (a+(m+d-b)-m) (by omega) (by omega) ?_
    rw[<-k8,show m+(a+(m+d-b)-m)=a+(m+d-b) by omega]
    exact e1⟩
  rw[zE hn L]at HK
  refine HK t2 h7 ?_ (f4.aA f7)
  simp only[k8]
  exact r7
theorem uW{S S':Nat->Prop}{h:Heap}{g w:Sl}{aD:List (List Int)}{rs:List Int}(G:bF S h g aD)(H:aP S' h w rs)(p:Int)(K:Value->Heap->Prop)(HK:∀t h',aP (fun _=>True) h' t (rB aD rs p).1->Fr No h h'->K (.tuple #[t.v,VB (rB aD rs p).2]) h'):aE Tryz.prog 159 #[.agg #[g.v],.agg #[w.v,VI p]] h K:=by
 refine v159 g w p h K fun b1 b2 h2 dM dE f2 bP=> ?_
 have f2:=f2.aF
 refine oS (G.no f2) (H.no f2) p _ fun h3 f3=>⟨_,rfl,bP.aB f3,fun e=> ?_,fun e=> ?_⟩
 ·have er:rB aD rs p=([],false):=by unfold rB;rw[if_neg (by rw[aY e];simp)]
  rw[er]at HK
  exact HK aC h3 ((Ow.nil _ _ _ _:bK h3 (fun _=>True) aC []).fa) (f2.aA f3)
 have e:=aV e
 have W:=cG e
 have er:rB aD rs p=QW aD rs p:=by unfold rB;rw[if_pos e]
 rw[er]at HK
 have gj:=f2.aA f3
 refine CB (G.no gj) (H.no gj) W W.lo W.hi _ (fun hn h4 f4=>⟨aC,false,rfl,(bP.aB f3).aB f4,?_⟩) fun hn i d t h4 L _ r4 f4=>⟨t,true,rfl,(bP.aB f3).aB f4,?_⟩
 ·rw[zD hn]at HK
  exact HK aC h4 ((Ow.nil _ _ _ _:bK h4 (fun _=>True) aC []).fa) (gj.aA f4)
 ·rw[zE hn L]at HK
  exact HK t h4 r4 (gj.aA f4)
theorem uX{S S':Nat->Prop}{h:Heap}{g w:Sl}{aD:List (List Int)}{rs:List Int}(G:bF S h g aD)(H:aP S' h w rs)(p:Int)(K:Value->Heap->Prop)(HK:∀t h',aP (fun _=>True) h' t (rB aD rs p).1->Fr No h h'->K (.tuple #[t.v,VB (rB aD rs p).2]) h'):aE Tryz.prog 138 #[.agg #[g.v],.agg #[w.v,VI p]] h K:=by
 refine v138 g w p h K fun b1 b2 h2 dM dE f2 bP=> ?_
 have f2:=f2.aF
 refine eK (G.no f2) (H.no f2) p _ fun h3 f3=>⟨_,rfl,bP.aB f3,fun e=> ?_,fun e=> ?_⟩
 ·have er:rB aD rs p=([],false):=by unfold rB;rw[if_neg (by rw[aY e];simp)]
  rw[er]at HK
  exact HK aC h3 ((Ow.nil _ _ _ _:bK h3 (fun _=>True) aC []).fa) (f2.aA f3)
 have e:=aV e
 have W:=cG e
 have er:rB aD rs p=QW aD rs p:=by unfold rB;rw[if_pos e]
 rw[er]at HK
 have gj:=f2.aA f3
 exact Aj (G.no gj) (H.no gj) W _ fun t h4 r4 f4=>⟨t,_,rfl,(bP.aB f3).aB f4,HK t h4 r4 (gj.aA f4)⟩
def lH(g:List (List Int))(s:Int):List Int:=(List.range g.length).map fun(i:Nat)=>if(i:Int)=s then 0 else((g.getD i []).length:Int)-1
def pC(g:List (List Int))(s:Int):List Int×Bool:=if oZ g s=true then(lH g s,true)else([],false)
theorem mP(g:List (List Int))(s:Int):(lH g s).length=g.length:=by simp[lH]
theorem uY{g:List (List Int)}{s:Int}{i:Nat}(h:i<g.length):(lH g s)[i]'(by rw[mP];exact h)=if(i:Int)=s then 0 else(g[i].length:Int)-1:=by
 unfold lH
 rw[List.getElem_map,List.getElem_range,aR h]
theorem Gp{g:List (List Int)}{s:Int}(h:oZ g s=true):∀x,x∈lH g s->0<=x/\x<=5:=fun x hx=>by
 obtain⟨i,hi,rfl⟩:=List.getElem_of_mem hx
 have gH:i<g.length:=by rw[<-mP g s];exact hi
 unfold oZ at h
 rw[Bool.and_eq_true,Bool.and_eq_true,aZ]at h
 rw[uY gH]
 split
 ·exact⟨by omega,by omega⟩
 ·rename_i eA
  have:=Ic h.1.2.1 h.2 gH eA (by omega)
  have:=(aT h.1.1 (List.getElem_mem gH)).1
  omega
theorem Jl{S:Nat->Prop}{h:Heap}{g:Sl}{aD:List (List Int)}(G:bF S h g aD)(hg:aM aD=true)(s:Int)(K:Value->Heap->Prop)(HK:∀t h',bK h' (Iv h.size h'.size) t (lH aD s)->Fr No h h'->K t.v h'):aE Tryz.prog 215 #[.agg #[g.v],VI s] h K:=by
 have gl:=aO hg
 have gn:=G.len
 refine ahH g s h K fun b1 h1 dM f1 bG=> ?_
 have f1:=f1.aF
 have z1:=f1.size
 have fl:=mP aD s
 have l1:b1<h1.size:=bG.head.lt
 refine aS fL (fun k=>h1.size<=k) (fun _ h=>h) 0 (by omega) [] rfl rfl fun o h2 n2 c2 o2 f2 m2 _=>⟨o,rfl,bG.aB f2,?_⟩
 refine⟨fun n x i h'=>0<=i/\i+n=(aD.length:Int)/\bK h' (fun k=>h1.size<=k) x ((lH aD s).take i.toNat)/\Fr (fun k=>h1.size<=k) h1 h',⟨aD.length,by omega,by omega,by show Ow _ _ _ _ _ _;simpa using o2,f2.aB⟩,?_⟩
 rintro n x i h3 ⟨i0,i1,o3,f3⟩ cF
 have F3:Fr No h h3:=f1.fresh f3 fun k hk=>by omega
 have z3:=f3.size
 have G3:=G.no F3
 refine⟨fun e=> ?_,fun e=> ?_⟩
 ·have hi:=G3.lt e
  have wC:i.toNat<aD.length:=by omega
  obtain⟨si,c1,r1⟩:=G3.get i0 hi
  have rn:=r1.len
  have hk:=(aT hg (List.getElem_mem wC)).1
  have ex:=uY (s:=s) wC
  have et:=eB (lH aD s) i0 (by omega)
  have ei:((i.toNat:Nat):Int)=i:=by omega
  refine⟨G3.bB i0 hi,si,c1,fun e2=> ?_,fun e2=> ?_⟩
  ·simp only[decide_eq_true_eq]at e2
   refine mv (F:=fun k=>h1.size<=k) o3 (fun k hk=>by omega) cF (fun p hp=>by simp at hp;subst hp;show¬h1.size<=b1;omega) (by rw[List.length_take];omega) _ fun t h4 o4 f4 dN=> ?_
   rw[aH _ (by omega) (by omega)]
   refine⟨n-1,by omega,by omega,by omega,?_,f3.trans f4⟩
   rw[et,ex,ei,if_pos e2]
   exact o4
  ·simp only[decide_eq_false_iff_not]at e2
   rw[rn,aH _ (by omega) (by omega),aH _ (by omega) (by omega)]
   refine mv (F:=fun k=>h1.size<=k) o3 (fun k hk=>by omega) cF (fun p hp=>by simp at hp;subst hp;show¬h1.size<=b1;omega) (by rw[List.length_take];omega) _ fun t h4 o4 f4 dN=> ?_
   refine⟨n-1,by omega,by omega,by omega,?_,f3.trans f4⟩
   rw[et,ex,ei,if_neg e2]
   exact o4
 ·simp only[decide_eq_false_iff_not]at e
  rw[List.take_of_length_le (by omega)]at o3
  exact HK x h3 (o3.mono fun k CV hk=>⟨by omega,(Ow.aG o3 CV).2⟩) F3
theorem P5{S:Nat->Prop}{h:Heap}{g:Sl}{aD:List (List Int)}(G:bF S h g aD)(hg:aM aD=true)(s:Int)(K:Value->Heap->Prop)(HK:∀t h',bK h' (Iv h.size h'.size) t (lH aD s)->Fr No h h'->K t.v h'):aE Tryz.prog 188 #[.agg #[g.v],VI s] h K:=by
 have gl:=aO hg
 have gn:=G.len
 refine ag9 g s h K fun b1 h1 dM f1 bG=> ?_
 have f1:=f1.aF
 have z1:=f1.size
 have fl:=mP aD s
 have l1:b1<h1.size:=bG.head.lt
 refine⟨fun n x i h'=>0<=i/\i+n=(aD.length:Int)/\bK h' (fun k=>h1.size<=k) x ((lH aD s).take i.toNat)/\Fr (fun k=>h1.size<=k) h1 h',⟨aD.length,by omega,by omega,Ow.nil _ _ _ _,Fr.refl _ _⟩,?_⟩
 rintro n x i h3 ⟨i0,i1,o3,f3⟩ cF
 have F3:Fr No h h3:=f1.fresh f3 fun k hk=>by omega
 have z3:=f3.size
 have G3:=G.no F3
 refine⟨fun e=> ?_,fun e=> ?_⟩
 ·have hi:=G3.lt e
  have wC:i.toNat<aD.length:=by omega
  obtain⟨si,c1,r1⟩:=G3.get i0 hi
  have rn:=r1.len
  have hk:=(aT hg (List.getElem_mem wC)).1
  have ex:=uY (s:=s) wC
  have et:=eB (lH aD s) i0 (by omega)
  have ei:((i.toNat:Nat):Int)=i:=by omega
  refine⟨G3.bB i0 hi,si,c1,fun y h'=>y=(if i=s then 0 else(aD[i.toNat].length:Int)-1)/\h'=h3,⟨fun e2=> ?_,fun e2=> ?_⟩,?_⟩
  ·simp only[decide_eq_true_eq]at e2
   exact⟨by rw[if_pos e2],rfl⟩
  ·simp only[decide_eq_false_iff_not]at e2
   rw[rn,aH _ (by omega) (by omega),if_neg e2]
   exact⟨rfl,rfl⟩
  rintro y h4 ⟨rfl,rfl⟩ dN
  refine mv (F:=fun k=>h1.size<=k) o3 (fun k hk=>by omega) cF (fun p hp=>by simp at hp;subst hp;show¬h1.size<=b1;omega) (by rw[List.length_take];omega) _ fun t h5 o5 f5 ic=> ?_
  rw[aH _ (by omega) (by omega)]
  refine⟨n-1,by omega,by omega,by omega,?_,f3.trans f5⟩
  rw[et,ex,ei]
  exact o5
 ·simp only[decide_eq_false_iff_not]at e
  rw[List.take_of_length_le (by omega)]at o3
  exact HK x h3 (o3.mono fun k CV hk=>⟨by omega,(Ow.aG o3 CV).2⟩) F3
theorem Jm{S:Nat->Prop}{h:Heap}{g:Sl}{aD:List (List Int)}(G:bF S h g aD)(s:Int)(K:Value->Heap->Prop)(HK:∀t h',bK h' (Iv h.size h'.size) t (pC aD s).1->Fr No h h'->K (.tuple #[t.v,VB (pC aD s).2]) h'):aE Tryz.prog 166 #[.agg #[g.v],VI s] h K:=by
 refine agB g s h K fun b1 h1 dM f1 bG=> ?_
 have f1:=f1.aF
 refine LU (G.no f1) s _ fun h2 f2=>⟨_,rfl,bG.aB f2,fun e=> ?_,fun e=> ?_⟩
 ·unfold pC at HK
  rw[if_neg (by simpa using e)]at HK
  exact HK aC h2 (Ow.nil _ _ _ _) (f1.aA f2)
 ·have e':oZ aD s=true:=by simpa using e
  unfold pC at HK
  rw[if_pos e']at HK
  have z:=(f1.aA f2).size
  refine Jl ((G.no f1).no f2) (by unfold oZ at e';rw[Bool.and_eq_true,Bool.and_eq_true]at e';exact e'.1.1) s _ fun t h3 o3 f3=>⟨t,rfl,(bG.aB f2).aB f3,?_⟩
  exact HK t h3 (o3.QO z (Nat.le_refl _)) ((f1.aA f2).aA f3)
theorem vW{S:Nat->Prop}{h:Heap}{g:Sl}{aD:List (List Int)}(G:bF S h g aD)(s:Int)(K:Value->Heap->Prop)(HK:∀t h',bK h' (Iv h.size h'.size) t (pC aD s).1->Fr No h h'->K (.tuple #[t.v,VB (pC aD s).2]) h'):aE Tryz.prog 140 #[.agg #[g.v],VI s] h K:=by
 refine af9 g s h K fun b1 h1 dM f1 bG=> ?_
 have f1:=f1.aF
 refine Oy (G.no f1) s _ fun h2 f2=>⟨_,rfl,bG.aB f2,fun e=> ?_,fun e=> ?_⟩
 ·unfold pC at HK
  rw[if_neg (by simpa using e)]at HK
  exact HK aC h2 (Ow.nil _ _ _ _) (f1.aA f2)
 ·have e':oZ aD s=true:=by simpa using e
  unfold pC at HK
  rw[if_pos e']at HK
  have z:=(f1.aA f2).size
  refine P5 ((G.no f1).no f2) (by unfold oZ at e';rw[Bool.and_eq_true,Bool.and_eq_true]at e';exact e'.1.1) s _ fun t h3 o3 f3=>⟨t,rfl,(bG.aB f2).aB f3,?_⟩
  exact HK t h3 (o3.QO z (Nat.le_refl _)) ((f1.aA f2).aA f3)
def ja(b:Nat):Nat->Nat
 |0=>1
 |n+1=>ja b n*b
def bC(b:Nat):Nat->Nat
 |0=>1
 |n+1=>bC b n+ja b (n+1)
theorem ti(b:Nat):∀n,bC b (n+1)=b*bC b n+1
 |0=>by simp[bC,ja,Nat.add_comm]
 |n+1=>by
  have e:=ti b n
  show bC b (n+1)+ja b (n+1)*b=b*(bC b n+ja b (n+1))+1
  rw[e,Nat.mul_add,Nat.mul_comm _ b]
  omega
theorem fZ:∀b,b<4->∀d,d<7->ja b d<=bC b d/\bC b d<=1093:=by decide
def fQ(b:Nat)(x:Nat):Nat:=if x=0\/b=0 then 0 else fQ b ((x-1)/b)+1
termination_by x
decreasing_by
 rename_i h
 have:=Nat.div_le_self (x-1) b
 omega
theorem mQ(b:Nat):fQ b 0=0:=by rw[fQ];simp
theorem Jn{b x:Nat}(hb:b≠0)(hx:x≠0):fQ b x=fQ b ((x-1)/b)+1:=by
 rw[fQ,if_neg (by omega)]
theorem P6{b x r:Nat}(h1:1<=r)(h2:r<=b):fQ b (x*b+r)=fQ b x+1:=by
 rw[Jn (by omega) (by omega)]
 congr 2
 rw[show x*b+r-1=(r-1)+x*b by omega,Nat.add_mul_div_right _ _ (by omega),Nat.div_eq_of_lt (by omega),Nat.zero_add]
theorem P7{b:Nat}(hb:b≠0):∀{d x:Nat},x<bC b d->fQ b x<=d
 |0,x,h=>by
  have:x=0:=by rw[bC]at h;omega
  subst this
  rw[mQ];exact Nat.le_refl _
 |d+1,x,h=>by
  by_cases e:x=0
  ·subst e;rw[mQ];exact Nat.zero_le _
  ·rw[Jn hb e]
   have:(x-1)/b<bC b d:=by
    rw[Nat.div_lt_iff_lt_mul (by omega),Nat.mul_comm]
    rw[ti]at h
    omega
   have:=P7 hb this
   omega
def Mu(f:Nat->Nat)(b:Int):Nat->List Int->Nat
 |_,[]=>0
 |i,r::rs=>f i*(b-r).toNat+Mu f b (i+1) rs
theorem Gq(f:Nat->Nat)(b v:Int):∀(rs:List Int)(i x:Nat)(h:x<rs.length),Mu f b i (rs.set x v)+f (i+x)*(b-rs[x]).toNat=Mu f b i rs+f (i+x)*(b-v).toNat
 |r::rs,i,0,h=>by simp only[List.set_cons_zero,Mu,List.getElem_cons_zero,Nat.add_zero];omega
 |r::rs,i,x+1,h=>by
  have ih:=Gq f b v rs (i+1) x (by simpa using h)
  rw[show i+1+x=i+(x+1) by omega]at ih
  simp only[List.set_cons_succ,Mu,List.getElem_cons_succ]
  omega
def wE(b d:Nat)(a:Int):Nat:=if a<0 then 0 else(b+2)^(d+2)-(b+2)^(d+1-fQ b a.toNat)
def Gr(b d:Nat)(rs:List Int)(a:Int):Nat:=Mu (fun x=>(b+2)^(d+1-fQ b x)) b 0 rs+wE b d a
def vX(b:Nat)(a r:Int):Int:=if 0<r then a*b+r else if a=0 then-1 else(a-1)/b
def P8(b first:Nat):Nat->List Int->Int->List Int×Int
 |0,rs,a=>(rs,a)
 |n+1,rs,a=>if 0<=a/\a<first then
  P8 b first n (rs.set a.toNat ((rs.getD a.toNat 0+1)%(b+1))) (vX b a ((rs.getD a.toNat 0+1)%(b+1)))
  else(rs,a)
theorem KX(b first:Nat)(n:Nat)(rs:List Int)(a:Int)(h:¬(0<=a/\a<first)):P8 b first n rs a=(rs,a):=by
 cases n with
 |zero=>rfl
 |succ n=>rw[P8,if_neg h]
theorem P9{b d:Nat}(hb:0<b){rs:List Int}(hl:rs.length=bC b (d-1))(hd:0<d)(hr:∀r,r∈rs->0<=r/\r<=b){a:Int}(h0:0<=a)(h1:a<bC b (d-1)){r:Int}(e:r=(rs.getD a.toNat 0+1)%(b+1)):
 0<=r/\r<=b/\(∀x,x∈rs.set a.toNat r->0<=x/\x<=b)/\Gr b d (rs.set a.toNat r) (vX b a r)<Gr b d rs a/\fQ b a.toNat<d/\
 (0<r->fQ b (a*b+r).toNat=fQ b a.toNat+1/\0<a*b+r/\a*b+r<=bC b d)/\(¬0<r->a≠0->fQ b a.toNat=fQ b ((a-1)/b).toNat+1/\0<=(a-1)/b/\(a-1)/b<a):=by
 have ha:a.toNat<rs.length:=by omega
 have eg:rs.getD a.toNat 0=rs[a.toNat]:=by rw[List.getD_eq_getElem?_getD,List.getElem?_eq_getElem ha,Option.getD_some]
 have hq:=hr _ (List.getElem_mem ha)
 rw[eg]at e
 have r0:0<=r:=by rw[e];exact Int.emod_nonneg _ (by omega)
 have r1:r<b+1:=by rw[e];exact Int.emod_lt_of_pos _ (by omega)
 have hm:∀x,x∈rs.set a.toNat r->0<=x/\x<=b:=fun x hx=>by
  rcases List.mem_or_eq_of_mem_set hx with hx|rfl
  ·exact hr x hx
  ·exact⟨r0,by omega⟩
 have lv:fQ b a.toNat<d:=by
  have:=P7 (b:=b) (by omega) (d:=d-1) (x:=a.toNat) (by omega)
  omega
 have ps:=Gq (fun x=>(b+2)^(d+1-fQ b x)) b r rs 0 a.toNat ha
 simp only[Nat.zero_add]at ps
 obtain⟨A,hA⟩:∃A:Nat,a=A:=⟨a.toNat,by omega⟩
 obtain⟨R,hR⟩:∃R:Nat,r=R:=⟨r.toNat,by omega⟩
 have WD:0<r->fQ b (a*b+r).toNat=fQ b a.toNat+1/\0<a*b+r/\a*b+r<=bC b d:=fun h=>by
  have e1:a*b+r=((A*b+R:Nat):Int):=by rw[hA,hR];simp
  rw[e1]
  refine⟨?_,by omega,?_⟩
  ·rw[Int.toNat_natCast,P6 (by omega) (by omega),hA,Int.toNat_natCast]
  ·have e2:bC b d=b*bC b (d-1)+1:=by rw[<-ti,Nat.sub_add_cancel hd]
   have:A+1<=bC b (d-1):=by omega
   have:=Nat.mul_le_mul_left b this
   have e3:b*(A+1)=A*b+b:=by rw[Nat.mul_add,Nat.mul_one,Nat.mul_comm]
   omega
 have hup:¬0<r->a≠0->fQ b a.toNat=fQ b ((a-1)/b).toNat+1/\0<=(a-1)/b/\(a-1)/b<a:=fun h eA=>by
  have e1:(a-1)/b=(((A-1)/b:Nat):Int):=by rw[hA,show(A:Int)-1=((A-1:Nat):Int) by omega];exact(Int.natCast_ediv _ _).symm
  rw[e1,Int.toNat_natCast,show a.toNat=A by omega]
  have:=Nat.div_le_self (A-1) b
  have hl:=Jn (b:=b) (x:=A) (by omega) (by omega)
  generalize (A-1)/b=q at*
  exact⟨hl,by omega,by omega⟩
 refine⟨r0,by omega,hm,?_,lv,WD,hup⟩
 have W:∀k,k<=d+1->(b+2)^(k+1)=(b+2)^k*b+2*(b+2)^k:=fun k _=>by rw[Nat.pow_succ,Nat.mul_add,Nat.mul_comm 2]
 have P:∀k,0<(b+2)^k:=fun k=>Nat.pow_pos (by omega)
 have M:∀k,k<=d+2->(b+2)^k<=(b+2)^(d+2):=fun k hk=>Nat.pow_le_pow_right (by omega) hk
 unfold Gr
 by_cases h:0<r
 ·obtain⟨g1,g2,g3⟩:=WD h
  have er:r=rs[a.toNat]+1:=by
   by_cases hh:rs[a.toNat]=b
   ·rw[hh,Int.emod_self]at e;omega
   ·rw[e,Int.emod_eq_of_lt (by omega) (by omega)]
  have e4:(b-rs[a.toNat]:Int).toNat=(b-r:Int).toNat+1:=by omega
  rw[e4,Nat.mul_add,Nat.mul_one]at ps
  have:wE b d (vX b a r)=(b+2)^(d+2)-(b+2)^(d+1-(fQ b a.toNat+1)):=by
   unfold vX wE
   rw[if_pos h,if_neg (by omega),g1]
  have w0:wE b d a=(b+2)^(d+2)-(b+2)^(d+1-fQ b a.toNat):=by unfold wE;rw[if_neg (by omega)]
  have m1:=M (d+1-fQ b a.toNat) (by omega)
  have m2:=M (d+1-(fQ b a.toNat+1)) (by omega)
  have p1:=P (d+1-(fQ b a.toNat+1))
  rw[this,w0]
  omega
 ·have er:rs[a.toNat]=b:=by
   by_cases hh:rs[a.toNat]=b
   ·exact hh
   ·rw[Int.emod_eq_of_lt (by omega) (by omega)]at e;omega
  have e4:(b-rs[a.toNat]:Int).toNat=0:=by omega
  have e5:(b-r:Int).toNat=b:=by omega
  rw[e4,e5,Nat.mul_zero]at ps
  have w0:wE b d a=(b+2)^(d+2)-(b+2)^(d+1-fQ b a.toNat):=by unfold wE;rw[if_neg (by omega)]
  have q1:=P (d+1-fQ b a.toNat)
  by_cases ha0:a=0
  ·have:wE b d (vX b a r)=0:=by unfold vX wE;rw[if_neg h,if_pos ha0,if_pos (by omega)]
   rw[this,w0]
   have l0:fQ b a.toNat=0:=by rw[ha0];exact mQ b
   have w1:(b+2)^(d+2)=_:=W (d+1) (by omega)
   rw[l0]at ps q1⊢
   rw[Nat.sub_zero]at ps q1⊢
   omega
  ·obtain⟨g1,g2,g3⟩:=hup h ha0
   have:wE b d (vX b a r)=(b+2)^(d+2)-(b+2)^(d+1-fQ b a.toNat+1):=by
    unfold vX wE
    rw[if_neg h,if_neg ha0,if_neg (by omega),show d+1-fQ b ((a-1)/b).toNat=d+1-fQ b a.toNat+1 by omega]
   rw[this,w0]
   have w1:=W (d+1-fQ b a.toNat) (by omega)
   have m1:=M (d+1-fQ b a.toNat+1) (by omega)
   omega
def Vg(b d:Nat)(rs:List Int):List Int×Int:=P8 b (bC b (d-1)) (Gr b d rs 0) rs 0
def nK(b d:Nat):Nat->List Int->List Int×List Int
 |0,rs=>(rs,[])
 |n+1,rs=>((Vg b d (nK b d n rs).1).1,(nK b d n rs).2++[if(Vg b d (nK b d n rs).1).2= -1 then 0 else 1])
def qt(b d k n:Int):Bool:=decide (2<=b/\b<=3/\1<=d/\d<=6)&&decide ((bC b.toNat d.toNat:Int)<=130)&&decide (0<=k/\k<=b/\0<=n/\n<=200)
def zF(b d k n:Int):Int×Bool:=if qt b d k n=true then((nK b.toNat d.toNat n.toNat (List.replicate (bC b.toNat (d.toNat-1)) k)).2.sum,true)else(0,false)
def Dj(a b:Sl):Prop:=∀k,a.own k->¬b.own k
structure lm(lo:Nat)(h:Heap)(b1:Nat)(f3 f4 f5 f6:Sl)(rs es ts vs:List Int):Prop where
 r:bK h (fun k=>lo<=k) f3 rs
 e:bK h (fun k=>lo<=k) f4 es
 t:bK h (fun k=>lo<=k) f5 ts
 v:bK h (fun k=>lo<=k) f6 vs
 re:Dj f3 f4
 rt:Dj f3 f5
 rv:Dj f3 f6
 et:Dj f4 f5
 ev:Dj f4 f6
 tv:Dj f5 f6
 nr:¬f3.own b1
 ne:¬f4.own b1
 nt:¬f5.own b1
 nv:¬f6.own b1
 lb:lo<=b1
 hb:b1<h.size
theorem Dj.symm{a b:Sl}(H:Dj a b):Dj b a:=fun k hb ha=>H k ha hb
theorem lm.Qa{lo:Nat}{h:Heap}{b1:Nat}{f3 f4 f5 f6:Sl}{rs es ts vs:List Int}(S:lm lo h b1 f3 f4 f5 f6 rs es ts vs):lm lo h b1 f3 f5 f4 f6 rs ts es vs:=⟨S.r,S.t,S.e,S.v,S.rt,S.re,S.rv,S.et.symm,S.tv,S.ev,S.nr,S.nt,S.ne,S.nv,S.lb,S.hb⟩
theorem lm.iS{lo:Nat}{h:Heap}{b1:Nat}{f3 f4 f5 f6:Sl}{rs es ts vs:List Int}(S:lm lo h b1 f3 f4 f5 f6 rs es ts vs):lm lo h b1 f4 f3 f5 f6 es rs ts vs:=⟨S.e,S.r,S.t,S.v,S.re.symm,S.et,S.ev,S.rt,S.rv,S.tv,S.ne,S.nr,S.nt,S.nv,S.lb,S.hb⟩
theorem lm.pD{lo:Nat}{h:Heap}{b1:Nat}{f3 f4 f5 f6:Sl}{rs es ts vs:List Int}(S:lm lo h b1 f3 f4 f5 f6 rs es ts vs):lm lo h b1 f6 f4 f5 f3 vs es ts rs:=⟨S.v,S.e,S.t,S.r,S.ev.symm,S.tv.symm,S.rv.symm,S.et,S.re.symm,S.rt.symm,S.nv,S.ne,S.nt,S.nr,S.lb,S.hb⟩
theorem lm.no{lo:Nat}{h h':Heap}{b1:Nat}{f3 f4 f5 f6:Sl}{rs es ts vs:List Int}(S:lm lo h b1 f3 f4 f5 f6 rs es ts vs)(f:Fr No h h'):lm lo h' b1 f3 f4 f5 f6 rs es ts vs:=⟨Ow.no S.r f,Ow.no S.e f,Ow.no S.t f,Ow.no S.v f,S.re,S.rt,S.rv,S.et,S.ev,S.tv,S.nr,S.ne,S.nt,S.nv,S.lb,Nat.lt_of_lt_of_le S.hb f.size⟩
theorem lm.box{lo:Nat}{h h':Heap}{b1:Nat}{f3 f4 f5 f6:Sl}{rs es ts vs:List Int}(S:lm lo h b1 f3 f4 f5 f6 rs es ts vs)(f:Fr (fun k=>k=b1) h h'):lm lo h' b1 f3 f4 f5 f6 rs es ts vs:=⟨Ow.fr S.r f fun k hk e=>S.nr (e▸hk),Ow.fr S.e f fun k hk e=>S.ne (e▸hk),Ow.fr S.t f fun k hk e=>S.nt (e▸hk),Ow.fr S.v f fun k hk e=>S.nv (e▸hk),S.re,S.rt,S.rv,S.et,S.ev,S.tv,S.nr,S.ne,S.nt,S.nv,S.lb,Nat.lt_of_lt_of_le S.hb f.size⟩
theorem lm.Mv{lo:Nat}{h h':Heap}{b1:Nat}{f3 f4 f5 f6:Sl}{rs es ts vs:List Int}(S:lm lo h b1 f3 f4 f5 f6 rs es ts vs){B:List Nat}(f:Fr (In B) h h')(hB:∀b,b∈B->b=b1):lm lo h' b1 f3 f4 f5 f6 rs es ts vs:=S.box (f.mono fun k _ hk=>hB k hk)
theorem lm.Gs{lo:Nat}{h:Heap}{b1:Nat}{f3 f4 f5 f6:Sl}{rs es ts vs:List Int}(S:lm lo h b1 f3 f4 f5 f6 rs es ts vs){i:Int}(h0:0<=i)(h1:i<(rs.length:Int))(v:Int):
 dW f3 i/\aQ h (f3.at i 1)=some (VI (rs.getD i.toNat 0))/\dI h (f3.at i 1)/\lm lo (Mx.cK h (f3.at i 1) (VI v)) b1 f3 f4 f5 f6 (rs.set i.toNat v) es ts vs/\Fr f3.own h (Mx.cK h (f3.at i 1) (VI v)):=by
 have hn:f3.n=rs.length:=by have:=S.r.rd.len;simpa using this.symm
 obtain⟨w1,w2,w3⟩:=S.r.eH h0 (by omega) (VI v)
 have R:aP f3.own h f3 rs:=S.r.rd
 have eg:rs.getD i.toNat 0=rs[i.toNat]'(by omega):=by rw[List.getD_eq_getElem?_getD,List.getElem?_eq_getElem (by omega),Option.getD_some]
 refine⟨R.bB h0 h1,by rw[eg];exact R.get h0 h1,w1,⟨?_,S.e.fr w3 fun k hk aI=>S.re k aI hk,S.t.fr w3 fun k hk aI=>S.rt k aI hk,S.v.fr w3 fun k hk aI=>S.rv k aI hk,S.re,S.rt,S.rv,S.et,S.ev,S.tv,S.nr,S.ne,S.nt,S.nv,S.lb,Nat.lt_of_lt_of_le S.hb w3.size⟩,w3⟩
 show Ow _ _ _ _ _ _
 rw[<-List.map_set]at w2
 exact w2
theorem lm.DY{lo:Nat}{h:Heap}{b1:Nat}{f3 f4 f5 f6:Sl}{rs es ts vs:List Int}(S:lm lo h b1 f3 f4 f5 f6 rs es ts vs)(wy:lo<=h.size){T:Nat->Prop}{x:Sl}{v:Int}(X:aP T h x [v])(hn:rs.length<=1000){K:Value->Heap->Prop}
 (HK:∀t h',lm lo h' b1 t f4 f5 f6 (rs++[v]) es ts vs->Fr f3.own h h'->(∀k,t.own k->f3.own k\/h.size<=k)->K t.v h'):kE Tryz.prog (bR sv sv sv f3.v x.v) h K:=by
 have h3:f3.n=rs.length:=by have:=S.r.rd.len;simpa using this.symm
 have hx:x.n=1:=by have:=X.len;simpa using this
 refine bQ fL S.r (fun k hk=>by omega) X (ff _) (by omega) fun t h' n' o' f' w'=>HK t h' ?_ f' w'
 have dj:∀{s:Sl}{l:List Int},bK h (fun k=>lo<=k) s l->Dj f3 s->Dj t s:=fun O D k hk hs=>by
  rcases w' k hk with hk|hk
  ·exact D k hk hs
  ·have:=(O.aG hs).2;omega
 refine⟨by show Ow _ _ _ _ _ _;rw[List.map_append];exact o',S.e.fr f' fun k hk aI=>S.re k aI hk,S.t.fr f' fun k hk aI=>S.rt k aI hk,S.v.fr f' fun k hk aI=>S.rv k aI hk,dj S.e S.re,dj S.t S.rt,dj S.v S.rv,S.et,S.ev,S.tv,fun hk=> ?_,S.ne,S.nt,S.nv,S.lb,Nat.lt_of_lt_of_le S.hb f'.size⟩
 rcases w' _ hk with hk|hk
 ·exact S.nr hk
 ·have:=S.hb;omega
theorem fR{h:Heap}(v:Int){K:Value->Heap->Prop}(HK:∀x h',bK h' (fun k=>h.size<=k) x [v]->Fr No h h'->K x.v h'):kE Tryz.prog (Instr.buildSlice sv 1 #[(0,VI v)]) h K:=
 aS fL (fun k=>h.size<=k) (fun _ h=>h) 1 (by omega) [VI v] rfl rfl fun x h' n c o f m _=>HK x h' (by show Ow _ _ _ _ _ _;simpa using o) f
theorem Gt{b d:Nat}(hb:0<b)(hd:0<d):∀(n:Nat){rs:List Int}{a:Int},rs.length=bC b (d-1)->(∀r,r∈rs->0<=r/\r<=(b:Int))->(P8 b (bC b (d-1)) n rs a).1.length=bC b (d-1)/\∀r,r∈(P8 b (bC b (d-1)) n rs a).1->0<=r/\r<=(b:Int)
 |0,rs,a,hl,hr=>⟨hl,hr⟩
 |n+1,rs,a,hl,hr=>by
  rw[P8]
  by_cases h:0<=a/\a<(bC b (d-1):Nat)
  ·rw[if_pos h]
   obtain⟨_,_,s3,_⟩:=P9 hb hl hd hr h.1 h.2 rfl
   exact Gt hb hd n (by rw[List.length_set];exact hl) s3
  ·rw[if_neg h]
   exact⟨hl,hr⟩
theorem tj(b:Nat):∀d,1<=bC b d
 |0=>Nat.le_refl _
 |d+1=>by rw[bC];have:=tj b d;omega
theorem uZ{b d:Nat}(hb:b<4)(hd:d<7){h:Heap}(K:Value->Heap->Prop)(HK:K (VI (bC b d)) h):aE Tryz.prog 268 #[VI b,VI d] h K:=by
 refine aiL b d h K ⟨fun n all lev i h'=>∃j:Nat,i=j/\n+j=d/\all=(bC b j:Nat)/\lev=(ja b j:Nat)/\h'=h,⟨d,0,rfl,by omega,rfl,rfl,rfl⟩,?_⟩
 rintro n all lev i h' ⟨j,rfl,hn,rfl,rfl,rfl⟩ hL
 have hs:=fZ b hb j (by omega)
 refine⟨fun e=> ?_,fun e=> ?_⟩
 ·simp only[decide_eq_true_eq]at e
  have UO:=fZ b hb (j+1) (by omega)
  have e1:((ja b j:Nat):Int)*(b:Int)=((ja b (j+1):Nat):Int):=by rw[ja];simp
  have e2:bC b (j+1)=bC b j+ja b (j+1):=rfl
  rw[e1,aH ((ja b (j+1):Nat):Int) (by omega) (by omega),aH _ (by omega) (by omega),aH _ (by omega) (by omega)]
  exact⟨n-1,by omega,j+1,by omega,by omega,by omega,rfl,rfl⟩
 ·simp only[decide_eq_false_iff_not]at e
  have:j=d:=by omega
  subst this
  exact HK
theorem Ak{h:Heap}(b d:Int)(K:Value->Heap->Prop)(HK:K (VB (decide (2<=b/\b<=3/\1<=d/\d<=6)&&decide ((bC b.toNat d.toNat:Int)<=130))) h):aE Tryz.prog 266 #[VI b,VI d] h K:=by
 refine aiH b d h K (eO _ _ _ h _ ⟨_,rfl,.nil,fun e=> ?_,fun e=> ?_⟩)
 ·have e:=aZ.1 e
  refine eO _ _ _ h _ ⟨_,rfl,.nil,fun e2=> ?_,fun e2=> ?_⟩
  ·have e2:=aZ.1 e2
   obtain⟨B,rfl⟩:∃B:Nat,b=B:=⟨b.toNat,by omega⟩
   obtain⟨D,rfl⟩:∃D:Nat,d=D:=⟨d.toNat,by omega⟩
   refine uZ (by omega) (by omega) _ ⟨_,rfl,.nil,?_⟩
   rw[decide_eq_true (show 2<=(B:Int)/\(B:Int)<=3/\1<=(D:Int)/\(D:Int)<=6 by omega),Bool.true_and]at HK
   exact HK
  ·rw[decide_eq_false (show¬(2<=b/\b<=3/\1<=d/\d<=6)from fun h=>by simp at e2;omega),Bool.false_and]at HK
   exact HK
 ·rw[decide_eq_false (show¬(2<=b/\b<=3/\1<=d/\d<=6)from fun h=>by simp at e;omega),Bool.false_and]at HK
  exact HK
theorem lm.toT{lo:Nat}{h:Heap}{b1:Nat}{f3 f4 f5 f6:Sl}{rs es ts vs:List Int}(S:lm lo h b1 f3 f4 f5 f6 rs es ts vs):lm lo h b1 f5 f3 f4 f6 ts rs es vs:=S.Qa.iS
theorem lm.ofT{lo:Nat}{h:Heap}{b1:Nat}{f3 f4 f5 f6:Sl}{rs es ts vs:List Int}(S:lm lo h b1 f5 f3 f4 f6 ts rs es vs):lm lo h b1 f3 f4 f5 f6 rs es ts vs:=S.iS.Qa
theorem gM{h h':Heap}{b1:Nat}{cs:List Value}{T:Nat->Prop}(hL:Vars h [(b1,cs)])(f:Fr T h h')(hT:¬T b1):Vars h' [(b1,cs)]:=hL.fr f fun p hp=>by
 simp only[List.mem_singleton]at hp
 subst hp
 exact hT
def Vh(b d lo:Nat)(h2:Heap)(b1:Nat)(f3 f4 f5 f6:Sl)(rs es ts:List Int)(sp:Prop)(n:Nat)(a lv:Int)(h':Heap):Prop:=
 ∃sT pN,Gr b d sT a<=n/\P8 b (bC b (d-1)) n sT a=Vg b d rs/\sT.length=bC b (d-1)/\(∀r,r∈sT->0<=r/\r<=(b:Int))/\pN.length=d+1/\lm lo h' b1 f3 f4 f5 f6 sT es ts pN/\Fr (fun k=>lo<=k) h2 h'/\ -1<=a/\a<=(bC b d:Int)/\(0<=a->lv=(fQ b a.toNat:Int))/\(sp->a<0->lv<0)
theorem Qb{b first n:Nat}{rs:List Int}{a:Int}{R:List Int×Int}{ph:Nat}(hn:ph<n)(h0:0<=a)(h1:a<(first:Int))(H:P8 b first n rs a=R):P8 b first (n-1) (rs.set a.toNat ((rs.getD a.toNat 0+1)%((b:Int)+1))) (vX b a ((rs.getD a.toNat 0+1)%((b:Int)+1)))=R:=by
 obtain⟨m,rfl⟩:∃m,n=m+1:=⟨n-1,by omega⟩
 rw[P8,if_pos ⟨h0,h1⟩]at H
 exact H
def Al(b d:Nat)(rs:List Int):Int:=if(Vg b d rs).2= -1 then 0 else 1
set_option maxHeartbeats 4000000 in
theorem Uk{b d:Nat}(hb:2<=b/\b<=3)(hd:1<=d/\d<=6){lo:Nat}{h:Heap}(wy:lo<=h.size){b1:Nat}{f3 f4 f5 f6:Sl}{rs es ts vs:List Int}(hL:Vars h [(b1,[VI b,VI d,f3.v,f4.v,f5.v,f6.v])])(S:lm lo h b1 f3 f4 f5 f6 rs es ts vs)(hl:rs.length=bC b (d-1))(hr:∀r,r∈rs->0<=r/\r<=(b:Int))(hv:vs.length=d+1)(he:es.length<=300)(ht:ts.length<=300)(K:Value->Heap->Prop)
 (HK:∀h' t u ws pN,Vars h' [(b1,[VI b,VI d,f3.v,t.v,u.v,f6.v])]->lm lo h' b1 f3 t u f6 (Vg b d rs).1 (es++[Al b d rs]) ws pN->ws.length=ts.length+1->pN.length=d+1->Fr (fun k=>lo<=k) h h'->K (.tuple #[]) h'):aE Tryz.prog 269 #[VP b1 0] h K:=by
 have hs:=fZ b (by omega) d (by omega)
 have Wz:=fZ b (by omega) (d-1) (by omega)
 refine aiM b1 b d f3 f4 f5 f6 h K hL ?_
 unfold ab3 pk
 rw[show aL ((d:Int)-1)=((d-1:Nat):Int)from by rw[aH _ (by omega) (by omega)];omega]
 refine uZ (by omega) (by omega) _ ⟨_,rfl,hL,?_⟩
 obtain⟨a1,a2,a3,S1,f1⟩:=S.pD.Gs (i:=0) (by omega) (by omega) (aL (vs.getD (0:Int).toNat 0+1))
 refine⟨a1,_,a2,a1,a3,gM hL f1 S.nv,fun h2 e2 bP=> ?_⟩
 subst e2
 have S1:=S1.pD
 have F1:Fr (fun k=>lo<=k) h _:=f1.mono fun k _ hk=>(S.v.aG hk).1
 refine⟨fun n a lv st h'=>Vh b d lo _ b1 f3 f4 f5 f6 rs es ts False n a lv h',⟨Gr b d rs 0,rs,_,Nat.le_refl _,rfl,hl,hr,by rw[List.length_set];exact hv,S1,Fr.refl _ _,by omega,by omega,fun _=>by simp[mQ],fun h=>h.elim⟩,?_⟩
 rintro n a lv st h3 ⟨sT,pN,i1,i2,i3,i4,i5,S3,Wl,i6,i7,i8,_⟩ cF
 refine⟨fun e1=>⟨fun e2=> ?_,fun e2=> ?_⟩,fun e1=> ?_⟩
 ·simp only[decide_eq_true_eq,Bool.not_eq_true',decide_eq_false_iff_not]at e1 e2
  have h0:0<=a:=by omega
  obtain⟨r,Cx⟩:∃r,r=(sT.getD a.toNat 0+1)%((b:Int)+1):=⟨_,rfl⟩
  obtain⟨s0,s1,s3,s4,s5,s6,s7⟩:=P9 (by omega) i3 (by omega) i4 h0 e2 Cx
  have hq:0<=sT.getD a.toNat 0/\sT.getD a.toNat 0<=b:=by
   have hi:a.toNat<sT.length:=by omega
   have:sT.getD a.toNat 0=sT[a.toNat]:=by rw[List.getD_eq_getElem?_getD,List.getElem?_eq_getElem hi,Option.getD_some]
   rw[this];exact i4 _ (List.getElem_mem hi)
  have ev:Int.tmod (aL (sT.getD a.toNat 0+1)) (aL ((b:Int)+1))=r:=by
   rw[aH _ (by omega) (by omega),aH _ (by omega) (by omega),Int.tmod_eq_emod_of_nonneg (by omega),Cx]
  obtain⟨c1,c2,c3,S4,f4'⟩:=S3.Gs h0 (by omega) r
  refine⟨c1,_,c2,by rw[aH _ (by omega) (by omega)];omega,c1,?_⟩
  rw[ev]
  refine⟨c3,gM cF f4' S3.nr,fun h4 e4 dN=> ?_⟩
  subst e4
  have G:=Qb (Nat.lt_of_lt_of_le s4 i1) h0 e2 i2
  rw[<-Cx]at G
  obtain⟨d1,d2,_,_,_⟩:=S4.Gs h0 (by rw[List.length_set];omega) 0
  have eg:(sT.set a.toNat r).getD a.toNat 0=r:=by
   rw[List.getD_eq_getElem?_getD,List.getElem?_set_self (by omega),Option.getD_some]
  rw[eg]at d2
  have F4:Fr (fun k=>lo<=k) _ _:=Wl.trans (f4'.mono fun k _ hk=>(S3.r.aG hk).1)
  have l1:=i8 h0
  refine⟨fun x1 x2 h'=>x1=vX b a r/\ -1<=x1/\x1<=(bC b d:Int)/\(0<=x1->x2=(fQ b x1.toNat:Int)/\x2<=d)/\h'=Mx.cK h3 (f3.at a 1) (VI r),⟨d1,r,d2,fun e3=> ?_,fun e3=>⟨fun e5=> ?_,fun e5=> ?_⟩⟩,?_⟩
  ·simp only[decide_eq_true_eq]at e3
   obtain⟨t1,t2,t3⟩:=s6 e3
   have hab:0<=a*(b:Int):=Int.mul_nonneg h0 (by omega)
   have Qc:vX b a r=a*b+r:=by unfold vX;rw[if_pos e3]
   rw[Qc]
   generalize a*(b:Int)=q at*
   rw[aH q (by omega) (by omega),aH (q+r) (by omega) (by omega),aH (lv+1) (by omega) (by omega)]
   exact⟨rfl,by omega,by omega,fun _=>⟨by rw[t1];omega,by omega⟩,rfl⟩
  ·simp only[decide_eq_true_eq,decide_eq_false_iff_not]at e3 e5
   have Qc:vX b a r= -1:=by unfold vX;rw[if_neg e3,if_pos e5]
   rw[Qc]
   exact⟨rfl,by omega,by omega,fun h=>by omega,rfl⟩
  ·simp only[decide_eq_false_iff_not]at e3 e5
   obtain⟨t1,t2,t3⟩:=s7 e3 e5
   have Qc:vX b a r=(a-1)/b:=by unfold vX;rw[if_neg e3,if_neg e5]
   rw[Qc,aH (a-1) (by omega) (by omega),Int.tdiv_eq_ediv_of_nonneg (by omega),aH (lv-1) (by omega) (by omega),aH _ (by omega) (by omega)]
   exact⟨by omega,rfl,by omega,by omega,fun _=>⟨by omega,by omega⟩,rfl⟩
  rintro x1 x2 h5 ⟨rfl,x3,x4,x5,rfl⟩ ic
  refine⟨fun e3=> ?_,fun e3=> ?_⟩
  ·simp only[Bool.not_eq_true',decide_eq_false_iff_not]at e3
   obtain⟨y1,y2⟩:=x5 (by omega)
   obtain⟨g1,g2,g3,S5,f5'⟩:=S4.pD.Gs (i:=x2) (by omega) (by omega) (aL (pN.getD x2.toNat 0+1))
   refine⟨g1,_,g2,g1,g3,gM ic f5' S4.nv,fun h6 e6 iN=> ?_⟩
   subst e6
   exact⟨n-1,by omega,_,_,by omega,G,by rw[List.length_set];exact i3,s3,by rw[List.length_set];exact i5,S5.pD,F4.trans (f5'.mono fun k _ hk=>(S4.v.aG hk).1),x3,x4,fun h=>(x5 h).1,fun h=>h.elim⟩
  ·simp only[Bool.not_eq_false',decide_eq_true_eq]at e3
   exact⟨n-1,by omega,_,_,by omega,G,by rw[List.length_set];exact i3,s3,i5,S4,F4,x3,x4,fun h=>by omega,fun h=>h.elim⟩
 all_goals
  have aay:¬(0<=a/\a<(bC b (d-1):Int)):=by
   first
   |(simp only[decide_eq_false_iff_not]at e2;omega)
   |(simp only[Bool.not_eq_false',decide_eq_true_eq]at e1;omega)
  rw[KX _ _ _ _ _ aay]at i2
  have p1:=tj b (d-1)
  have eE:Al b d rs=if a= -1 then 0 else 1:=by unfold Al;rw[<-i2]
  have eR:(Vg b d rs).1=sT:=by rw[<-i2]
  have z3:lo<=h3.size:=Nat.le_of_lt (Nat.lt_of_le_of_lt S3.lb S3.hb)
  have F3:=F1.trans Wl
  have fin:∀h' t u,Vars h' [(b1,[VI b,VI d,f3.v,t.v,u.v,f6.v])]->lm lo h' b1 f3 t u f6 sT (es++[Al b d rs]) (ts++[st]) pN->Fr (fun k=>lo<=k) h3 h'->K (.tuple #[]) h':=fun h' t u V S' f=>HK h' t u _ _ V (by rw[eR];exact S') (by simp) i5 (F3.trans f)
  refine⟨fun x h'=>x=Al b d rs/\h'=h3,⟨fun e=>⟨by simp only[decide_eq_true_eq]at e;rw[eE,if_pos e],rfl⟩,fun e=>⟨by simp only[decide_eq_false_iff_not]at e;rw[eE,if_neg e],rfl⟩⟩,?_⟩
  rintro x _ ⟨rfl,rfl⟩ dN
  have box:∀{X Y:Heap},Fr (In [b1,b1]) X Y->Fr (fun k=>lo<=k) X Y:=fun f=>f.mono fun k _ hk=>by simp[In]at hk;have:=S3.lb;omega
  refine⟨?_,?_⟩
  ·refine fR _ fun x5 h5 o5 f5=>⟨x5,rfl,dN.aB f5,?_⟩
   have S5:=S3.no f5
   have z5:=f5.size
   refine⟨?_,?_⟩
   ·refine S5.iS.DY (by omega) o5.rd (by omega) fun t h6 S6 f6 w6=>⟨t,rfl,gM (dN.aB f5) f6 S5.ne,?_⟩
    have z6:=f6.size
    refine fR _ fun x7 h7 o7 f7=>⟨x7,rfl,(gM (dN.aB f5) f6 S5.ne).aB f7,?_⟩
    have S7:=S6.iS.no f7
    have z7:=f7.size
    refine S7.toT.DY (by omega) o7.rd (by omega) fun u h8 S8 f8 w8=>⟨u,rfl,gM ((gM (dN.aB f5) f6 S5.ne).aB f7) f8 S7.nt,fun h9 f9 gh=> ?_⟩
    refine fin h9 t u gh (S8.ofT.Mv f9 (by simp)) ((((f5.aB.trans (f6.mono fun k _ hk=>(S5.e.aG hk).1)).trans f7.aB).trans (f8.mono fun k _ hk=>(S7.t.aG hk).1)).trans (box f9))
   ·refine fR _ fun x7 h7 o7 f7=>⟨x7,rfl,(dN.aB f5).aB f7,?_⟩
    have z7:=f7.size
    have S7:=S5.no f7
    refine S7.iS.DY (by omega) (Ow.no o5 f7).rd (by omega) fun t h6 S6 f6 w6=>⟨t,rfl,gM ((dN.aB f5).aB f7) f6 S7.ne,?_⟩
    have z6:=f6.size
    have o6:=Ow.fr o7 f6 fun k hk aI=>by have h1:=(o7.aG hk).1;have h2:=(S5.e.aG aI).2;omega
    refine S6.iS.toT.DY (by omega) o6.rd (by omega) fun u h8 S8 f8 w8=>⟨u,rfl,gM (gM ((dN.aB f5).aB f7) f6 S7.ne) f8 S6.iS.nt,fun h9 f9 gh=> ?_⟩
    refine fin h9 t u gh (S8.ofT.Mv f9 (by simp)) ((((f5.aB.trans f7.aB).trans (f6.mono fun k _ hk=>(S7.e.aG hk).1)).trans (f8.mono fun k _ hk=>(S6.iS.t.aG hk).1)).trans (box f9))
  ·refine fR _ fun x7 h7 o7 f7=>⟨x7,rfl,dN.aB f7,?_⟩
   have z7:=f7.size
   refine fR _ fun x5 h5 o5 f5=>⟨x5,rfl,(dN.aB f7).aB f5,?_⟩
   have z5:=f5.size
   have S5:=(S3.no f7).no f5
   refine S5.iS.DY (by omega) o5.rd (by omega) fun t h6 S6 f6 w6=>⟨t,rfl,gM ((dN.aB f7).aB f5) f6 S5.ne,?_⟩
   have z6:=f6.size
   have o6:=Ow.fr (Ow.no o7 f5) f6 fun k hk aI=>by have h1:=(o7.aG hk).1;have h2:=(S3.e.aG aI).2;omega
   refine S6.iS.toT.DY (by omega) o6.rd (by omega) fun u h8 S8 f8 w8=>⟨u,rfl,gM (gM ((dN.aB f7).aB f5) f6 S5.ne) f8 S6.iS.nt,fun h9 f9 gh=> ?_⟩
   refine fin h9 t u gh (S8.ofT.Mv f9 (by simp)) ((((f7.aB.trans f5.aB).trans (f6.mono fun k _ hk=>(S5.e.aG hk).1)).trans (f8.mono fun k _ hk=>(S6.iS.t.aG hk).1)).trans (box f9))
set_option maxHeartbeats 4000000 in
theorem Ul{b d:Nat}(hb:2<=b/\b<=3)(hd:1<=d/\d<=6){lo:Nat}{h:Heap}(wy:lo<=h.size){b1:Nat}{f3 f4 f5 f6:Sl}{rs es ts vs:List Int}(hL:Vars h [(b1,[VI b,VI d,VI (bC b (d-1):Nat),f3.v,f4.v,f5.v,f6.v])])(S:lm lo h b1 f3 f4 f5 f6 rs es ts vs)(hl:rs.length=bC b (d-1))(hr:∀r,r∈rs->0<=r/\r<=(b:Int))(hv:vs.length=d+1)(he:es.length<=300)(ht:ts.length<=300)(K:Value->Heap->Prop)
 (HK:∀h' t u ws pN,Vars h' [(b1,[VI b,VI d,VI (bC b (d-1):Nat),f3.v,t.v,u.v,f6.v])]->lm lo h' b1 f3 t u f6 (Vg b d rs).1 (es++[Al b d rs]) ws pN->ws.length=ts.length+1->pN.length=d+1->Fr (fun k=>lo<=k) h h'->K (.tuple #[]) h'):aE Tryz.prog 240 #[VP b1 0] h K:=by
 have hs:=fZ b (by omega) d (by omega)
 have Wz:=fZ b (by omega) (d-1) (by omega)
 refine aif b1 b d (bC b (d-1):Nat) f3 f4 f5 f6 h K hL ?_
 unfold ab1 pk
 obtain⟨a1,a2,a3,S1,f1⟩:=S.pD.Gs (i:=0) (by omega) (by omega) (aL (vs.getD (0:Int).toNat 0+1))
 refine⟨a1,_,a2,a1,a3,gM hL f1 S.nv,fun h2 e2 bP=> ?_⟩
 subst e2
 have S1:=S1.pD
 have F1:Fr (fun k=>lo<=k) h _:=f1.mono fun k _ hk=>(S.v.aG hk).1
 refine⟨fun n a lv st h'=>Vh b d lo _ b1 f3 f4 f5 f6 rs es ts True n a lv h',⟨Gr b d rs 0,rs,_,Nat.le_refl _,rfl,hl,hr,by rw[List.length_set];exact hv,S1,Fr.refl _ _,by omega,by omega,fun _=>by simp[mQ],fun _ h=>by omega⟩,?_⟩
 rintro n a lv st h3 ⟨sT,pN,i1,i2,i3,i4,i5,S3,Wl,i6,i7,i8,i9⟩ cF
 refine⟨fun e1=>⟨fun e2=> ?_,fun e2=> ?_⟩,fun e1=> ?_⟩
 ·simp only[decide_eq_true_eq]at e1 e2
  have h0:0<=a:=e1
  obtain⟨r,Cx⟩:∃r,r=(sT.getD a.toNat 0+1)%((b:Int)+1):=⟨_,rfl⟩
  obtain⟨s0,s1,s3,s4,s5,s6,s7⟩:=P9 (by omega) i3 (by omega) i4 h0 e2 Cx
  have hq:0<=sT.getD a.toNat 0/\sT.getD a.toNat 0<=b:=by
   have hi:a.toNat<sT.length:=by omega
   have:sT.getD a.toNat 0=sT[a.toNat]:=by rw[List.getD_eq_getElem?_getD,List.getElem?_eq_getElem hi,Option.getD_some]
   rw[this];exact i4 _ (List.getElem_mem hi)
  have ev:Int.tmod (aL (sT.getD a.toNat 0+1)) (aL ((b:Int)+1))=r:=by
   rw[aH _ (by omega) (by omega),aH _ (by omega) (by omega),Int.tmod_eq_emod_of_nonneg (by omega),Cx]
  obtain⟨c1,c2,c3,S4,f4'⟩:=S3.Gs h0 (by omega) r
  refine⟨c1,_,c2,by rw[aH _ (by omega) (by omega)];omega,c1,?_⟩
  rw[ev]
  refine⟨c3,gM cF f4' S3.nr,fun h4 e4 dN=> ?_⟩
  subst e4
  have G:=Qb (Nat.lt_of_lt_of_le s4 i1) h0 e2 i2
  rw[<-Cx]at G
  obtain⟨d1,d2,_,_,_⟩:=S4.Gs h0 (by rw[List.length_set];omega) 0
  have eg:(sT.set a.toNat r).getD a.toNat 0=r:=by
   rw[List.getD_eq_getElem?_getD,List.getElem?_set_self (by omega),Option.getD_some]
  rw[eg]at d2
  have F4:Fr (fun k=>lo<=k) _ _:=Wl.trans (f4'.mono fun k _ hk=>(S3.r.aG hk).1)
  have l1:=i8 h0
  refine⟨fun x1 x2 h'=>x1=vX b a r/\ -1<=x1/\x1<=(bC b d:Int)/\(0<=x1->x2=(fQ b x1.toNat:Int)/\x2<=d)/\(x1<0->x2<0)/\h'=Mx.cK h3 (f3.at a 1) (VI r),⟨d1,r,d2,fun e3=> ?_,fun e3=>⟨fun e5=> ?_,fun e5=> ?_⟩⟩,?_⟩
  ·simp only[decide_eq_true_eq]at e3
   obtain⟨t1,t2,t3⟩:=s6 e3
   have hab:0<=a*(b:Int):=Int.mul_nonneg h0 (by omega)
   have Qc:vX b a r=a*b+r:=by unfold vX;rw[if_pos e3]
   rw[Qc]
   generalize a*(b:Int)=q at*
   rw[aH q (by omega) (by omega),aH (q+r) (by omega) (by omega),aH (lv+1) (by omega) (by omega)]
   exact⟨rfl,by omega,by omega,fun _=>⟨by rw[t1];omega,by omega⟩,fun h=>by omega,rfl⟩
  ·simp only[decide_eq_true_eq,decide_eq_false_iff_not]at e3 e5
   have Qc:vX b a r= -1:=by unfold vX;rw[if_neg e3,if_pos e5]
   have l0:fQ b a.toNat=0:=by rw[e5];exact mQ b
   rw[Qc,aH (lv-1) (by omega) (by omega)]
   exact⟨rfl,by omega,by omega,fun h=>by omega,fun _=>by omega,rfl⟩
  ·simp only[decide_eq_false_iff_not]at e3 e5
   obtain⟨t1,t2,t3⟩:=s7 e3 e5
   have Qc:vX b a r=(a-1)/b:=by unfold vX;rw[if_neg e3,if_neg e5]
   rw[Qc,aH (a-1) (by omega) (by omega),Int.tdiv_eq_ediv_of_nonneg (by omega),aH (lv-1) (by omega) (by omega),aH _ (by omega) (by omega)]
   exact⟨by omega,rfl,by omega,by omega,fun _=>⟨by omega,by omega⟩,fun h=>by omega,rfl⟩
  rintro x1 x2 h5 ⟨rfl,x3,x4,x5,x6,rfl⟩ ic
  refine⟨fun e3=> ?_,fun e3=> ?_⟩
  ·simp only[decide_eq_true_eq]at e3
   have Ov:0<=vX b a r:=by
    by_cases hh:0<=vX b a r
    ·exact hh
    ·have:=x6 (by omega);omega
   obtain⟨y1,y2⟩:=x5 Ov
   obtain⟨g1,g2,g3,S5,f5'⟩:=S4.pD.Gs (i:=x2) (by omega) (by omega) (aL (pN.getD x2.toNat 0+1))
   refine⟨g1,_,g2,g1,g3,gM ic f5' S4.nv,fun h6 e6 iN=> ?_⟩
   subst e6
   exact⟨n-1,by omega,_,_,by omega,G,by rw[List.length_set];exact i3,s3,by rw[List.length_set];exact i5,S5.pD,F4.trans (f5'.mono fun k _ hk=>(S4.v.aG hk).1),x3,x4,fun h=>(x5 h).1,fun _=>x6⟩
  ·simp only[decide_eq_false_iff_not]at e3
   exact⟨n-1,by omega,_,_,by omega,G,by rw[List.length_set];exact i3,s3,i5,S4,F4,x3,x4,fun h=>by have:=x5 h;omega,fun _=>x6⟩
 all_goals
  have aay:¬(0<=a/\a<(bC b (d-1):Int)):=by
   first
   |(simp only[decide_eq_false_iff_not]at e2;omega)
   |(simp only[decide_eq_false_iff_not]at e1;omega)
  rw[KX _ _ _ _ _ aay]at i2
  have p1:=tj b (d-1)
  have eE:Al b d rs=if a= -1 then 0 else 1:=by unfold Al;rw[<-i2]
  have eR:(Vg b d rs).1=sT:=by rw[<-i2]
  have z3:lo<=h3.size:=Nat.le_of_lt (Nat.lt_of_le_of_lt S3.lb S3.hb)
  have F3:=F1.trans Wl
  have fin:∀h' t u,Vars h' [(b1,[VI b,VI d,VI (bC b (d-1):Nat),f3.v,t.v,u.v,f6.v])]->lm lo h' b1 f3 t u f6 sT (es++[Al b d rs]) (ts++[st]) pN->Fr (fun k=>lo<=k) h3 h'->K (.tuple #[]) h':=fun h' t u V S' f=>HK h' t u _ _ V (by rw[eR];exact S') (by simp) i5 (F3.trans f)
  refine⟨fun x h'=>x=Al b d rs/\h'=h3,⟨fun e=>⟨by simp only[decide_eq_true_eq]at e;rw[eE,if_neg (by omega)],rfl⟩,fun e=>⟨by simp only[decide_eq_false_iff_not]at e;rw[eE,if_pos (by omega)],rfl⟩⟩,?_⟩
  rintro x _ ⟨rfl,rfl⟩ dN
  have box:∀{X Y:Heap},Fr (In [b1]) X Y->Fr (fun k=>lo<=k) X Y:=fun f=>f.mono fun k _ hk=>by simp[In]at hk;have:=S3.lb;omega
  refine fR _ fun x5 h5 o5 f5=>⟨x5,rfl,dN.aB f5,?_⟩
  have S5:=S3.no f5
  have z5:=f5.size
  refine S5.iS.DY (by omega) o5.rd (by omega) fun t h6 S6 f6 w6=>⟨t,rfl,gM (dN.aB f5) f6 S5.ne,fun h7 f7 j8=> ?_⟩
  have z6:=f6.size
  have z7:=f7.size
  have S7:=S6.iS.Mv f7 (by simp)
  refine fR _ fun x8 h8 o8 f8=>⟨x8,rfl,j8.aB f8,?_⟩
  have z8:=f8.size
  have S8:=S7.no f8
  refine S8.toT.DY (by omega) o8.rd (by omega) fun u h9 S9 f9 w9=>⟨u,rfl,gM (j8.aB f8) f9 S8.nt,fun dY f10 dP=> ?_⟩
  exact fin dY t u dP (S9.ofT.Mv f10 (by simp)) (((((f5.aB.trans (f6.mono fun k _ hk=>(S5.e.aG hk).1)).trans (box f7)).trans f8.aB).trans (f9.mono fun k _ hk=>(S8.t.aG hk).1)).trans (box f10))
theorem Vj{S:Nat->Prop}{h:Heap}{s:Sl}{xs:List Int}(H:aP S h s xs)(hb:∀x,x∈xs->0<=x/\x<=20)(hn:xs.length<=1000)(K:Value->Heap->Prop)(HK:K (VI xs.sum) h):aE Tryz.prog 172 #[s.v] h K:=by
 refine agK s h K ⟨fun n t i h'=>h'=h/\0<=i/\i+n=(xs.length:Int)/\t=(xs.take i.toNat).sum/\0<=t/\t<=20*i,⟨xs.length,rfl,by omega,by omega,by simp,by omega,by omega⟩,?_⟩
 rintro n t i _ ⟨rfl,i0,i1,e1,t0,t1⟩ hL
 refine⟨fun e=> ?_,fun e=> ?_⟩
 ·have hi:=H.lt e
  have hx:=hb _ (List.getElem_mem (show i.toNat<xs.length by omega))
  refine⟨H.bB i0 hi,_,H.get i0 hi,?_⟩
  rw[H.succ i0 hi,aH _ (by omega) (by omega)]
  refine⟨n-1,by omega,rfl,by omega,by omega,?_,by omega,by omega⟩
  rw[eB xs i0 hi,List.sum_append,e1]
  simp
 ·have hi:=H.ge e
  rw[List.take_of_length_le (by omega)]at e1
  rw[e1]
  exact HK
theorem Um{S:Nat->Prop}{h:Heap}{s:Sl}{xs:List Int}(H:aP S h s xs)(hb:∀x,x∈xs->0<=x/\x<=20)(hn:xs.length<=1000)(K:Value->Heap->Prop)(HK:K (VI xs.sum) h):aE Tryz.prog 190 #[s.v] h K:=by
 refine ahd s h K ⟨fun n t i h'=>h'=h/\0<=i/\i+n=(xs.length:Int)/\t=(xs.take i.toNat).sum/\0<=t/\t<=20*i,⟨xs.length,rfl,by omega,by omega,by simp,by omega,by omega⟩,?_⟩
 rintro n t i _ ⟨rfl,i0,i1,e1,t0,t1⟩ hL
 refine⟨fun e=> ?_,fun e=> ?_⟩
 ·have hi:=H.lt e
  have hx:=hb _ (List.getElem_mem (show i.toNat<xs.length by omega))
  refine⟨H.bB i0 hi,_,H.get i0 hi,?_⟩
  rw[H.succ i0 hi,aH _ (by omega) (by omega)]
  refine⟨n-1,by omega,rfl,by omega,by omega,?_,by omega,by omega⟩
  rw[eB xs i0 hi,List.sum_append,e1]
  simp
 ·have hi:=H.ge e
  rw[List.take_of_length_le (by omega)]at e1
  rw[e1]
  exact HK
theorem pZ{b d:Nat}(hb:0<b)(hd:0<d):∀(n:Nat){rs:List Int},rs.length=bC b (d-1)->(∀r,r∈rs->0<=r/\r<=(b:Int))->(nK b d n rs).1.length=bC b (d-1)/\(∀r,r∈(nK b d n rs).1->0<=r/\r<=(b:Int))/\(nK b d n rs).2.length=n/\∀x,x∈(nK b d n rs).2->0<=x/\x<=1
 |0,rs,hl,hr=>⟨hl,hr,rfl,fun x hx=>by simp[nK]at hx⟩
 |n+1,rs,hl,hr=>by
  obtain⟨a1,a2,a3,a4⟩:=pZ hb hd n hl hr
  obtain⟨b1,b2⟩:=Gt hb hd (Gr b d (nK b d n rs).1 0) (a:=0) a1 a2
  refine⟨b1,b2,by simp[nK,a3],fun x hx=> ?_⟩
  simp only[nK,List.mem_append,List.mem_singleton]at hx
  rcases hx with hx|rfl
  ·exact a4 x hx
  ·split<;>omega
theorem wN{b d k n:Int}(h:qt b d k n=true):∃B D N:Nat,b=B/\d=D/\n=N/\(2<=B/\B<=3)/\(1<=D/\D<=6)/\bC B D<=130/\(0<=k/\k<=B)/\N<=200:=by
 unfold qt at h
 simp only[Bool.and_eq_true,decide_eq_true_eq]at h
 obtain⟨⟨h1,h2⟩,h3⟩:=h
 exact⟨b.toNat,d.toNat,n.toNat,by omega,by omega,by omega,by omega,by omega,by omega,by omega,by omega⟩
theorem mR{b k:Int}{m:Nat}(h:0<=k/\k<=b):∀r,r∈List.replicate m k->0<=r/\r<=b:=fun r hr=>by rw[List.eq_of_mem_replicate hr];exact h
theorem Gu{b d:Nat}(hb:2<=b)(hd:1<=d)(h:bC b d<=130):bC b (d-1)<=100:=by
 have e:bC b d=b*bC b (d-1)+1:=by rw[<-ti,Nat.sub_add_cancel hd]
 have:=Nat.mul_le_mul_right (bC b (d-1)) hb
 omega
theorem iT{h:Heap}{n:Int}{m:Nat}(e:n=m)(hm:m<=100000){K:Value->Heap->Prop}(HK:∀x h',bK h' (fun k=>h.size<=k) x (List.replicate m 0)->Fr No h h'->K x.v h'):kE Tryz.prog (Instr.makeSlice sv (VI n) (VI n)) h K:=by
 subst e
 refine dK fL (fun k=>_<=k) (fun _ h=>h) .i64 .i64 m m (Nat.le_refl _) (by omega) fun t h2 n2 c2 o2 f2 m2 _=>HK t h2 ?_ f2
 have e:(List.replicate m [VI 0]).flatten=(List.replicate m (0:Int)).map VI:=by simp[List.flatten_replicate_singleton]
 show Ow _ _ _ _ _ _
 rw[e]at o2;exact o2
set_option maxHeartbeats 4000000 in
theorem Jo{h:Heap}(b d k n:Int)(K:Value->Heap->Prop)(HN:qt b d k n=false->K (.tuple #[.pointer none,VB false]) h)
 (HY:qt b d k n=true->∀b1 h' f3 f4 f5 f6,Vars h' [(b1,[VI b,VI d,Sl.v f3,Sl.v f4,Sl.v f5,Sl.v f6])]->bK h' (fun k=>h.size<=k) f4 (nK b.toNat d.toNat n.toNat (List.replicate (bC b.toNat (d.toNat-1)) k)).2->Fr No h h'->K (.tuple #[VP b1 0,VB true]) h'):aE Tryz.prog 221 #[VI b,VI d,VI k,VI n] h K:=by
 refine ahS b d k n h K (Ak b d _ ⟨_,rfl,.nil,fun e=>HN ?_,fun e=> ?_⟩)
 ·unfold qt
  rw[Bool.not_eq_true']at e
  rw[e,Bool.false_and]
 simp only[Bool.not_eq_false',Bool.and_eq_true,decide_eq_true_eq]at e
 refine eO _ _ _ h _ ⟨_,rfl,.nil,fun e2=>HN ?_,fun e2=> ?_⟩
 ·unfold qt
  rw[decide_eq_false (p:=0<=k/\k<=b/\0<=n/\n<=200) (fun h=>by simp at e2;omega),Bool.and_false]
 have e2:0<=k/\k<=b:=by simpa using e2
 refine eO _ _ _ h _ ⟨_,rfl,.nil,fun e3=>HN ?_,fun e3=> ?_⟩
 ·unfold qt
  rw[decide_eq_false (p:=0<=k/\k<=b/\0<=n/\n<=200) (fun h=>by simp at e3;omega),Bool.and_false]
 have e3:0<=n/\n<=200:=by simpa using e3
 have ha:qt b d k n=true:=by unfold qt;simp only[Bool.and_eq_true,decide_eq_true_eq];omega
 replace HY:=HY ha
 obtain⟨B,D,N,rfl,rfl,rfl,q1,q2,q3,q4,q5⟩:=wN ha
 simp only[Int.toNat_natCast]at HY
 have hi:=Gu q1.1 q2.1 q3
 have hp:=tj B (D-1)
 have ed:aL ((D:Int)-1)=((D-1:Nat):Int):=by rw[aH _ (by omega) (by omega)];omega
 have ev:aL ((D:Int)+1)=((D+1:Nat):Int):=by rw[aH _ (by omega) (by omega)];omega
 have Vk:∀{X:Heap}{K:Value->Heap->Prop},K (VI (bC B (D-1):Nat)) X->aE Tryz.prog 268 #[VI B,VI (aL ((D:Int)-1))] X K:=fun H=>by rw[ed];exact uZ (by omega) (by omega) _ H
 have key:∀{J:Nat->Int->Int->Sl->Sl->Sl->Sl->Heap->Prop},(∀{X:Heap}{r v:Sl},Fr No h X->bK X (fun k=>h.size<=k) r (List.replicate (bC B (D-1)) k)->bK X (fun k=>h.size<=k) v (List.replicate (D+1) 0)->Dj r v->∀b1 h',X.size<=b1->Fr (In []) X h'->Vars h' [(b1,[VI B,VI D,r.v,aC.v,aC.v,v.v])]->J b1 B D r aC aC v h')->
  (∀{X:Heap}{x:Sl}{T:Nat->Prop},Fr No h X->aP T X x [k]->aE Tryz.prog 267 #[x.v,VI (bC B (D-1):Nat)] X fun rv h6=>∃t:Sl,rv=t.v/\Vars h6 []/\kE Tryz.prog (Instr.makeSlice sv (VI (aL ((D:Int)+1))) (VI (aL ((D:Int)+1)))) h6 fun rv h7=>∃t2:Sl,rv=t2.v/\Vars h7 []/\∀b2 h8,h7.size<=b2->Fr (In []) h7 h8->Vars h8 [(b2,[VI B,VI D,t.v,aC.v,aC.v,t2.v])]->J b2 B D t aC aC t2 h8)/\
  (∀{X:Heap}{x v:Sl}{T:Nat->Prop},Fr No h X->aP T X x [k]->bK X (fun k=>h.size<=k) v (List.replicate (D+1) 0)->aE Tryz.prog 267 #[x.v,VI (bC B (D-1):Nat)] X fun rv h6=>∃t:Sl,rv=t.v/\Vars h6 []/\∀b2 h8,h6.size<=b2->Fr (In []) h6 h8->Vars h8 [(b2,[VI B,VI D,t.v,aC.v,aC.v,v.v])]->J b2 B D t aC aC v h8):=by
  intro J fin
  refine⟨fun fX X0=> ?_,fun fX X0 V0=> ?_⟩
  ·have zX:=fX.size
   refine xX k X0 _ hp hi _ fun r h6 o6 f6=>⟨r,rfl,.nil,iT ev (by omega) fun v h7 o7 f7=>⟨v,rfl,.nil,fin ((fX.aA f6).aA f7) ((Ow.no o6 f7).mono fun k _ hk=>by have:=hk.1;omega) (o7.mono fun k _ hk=>by have:=f6.size;omega) fun k hk aI=> ?_⟩⟩
   have h1:=(o6.aG hk).1
   have h2:=(o7.aG aI).1
   unfold Iv at h1
   omega
  ·have zX:=fX.size
   refine xX k X0 _ hp hi _ fun r h6 o6 f6=>⟨r,rfl,.nil,fin (fX.aA f6) (o6.mono fun k _ hk=>by have:=hk.1;omega) (Ow.no V0 f6) fun k hk aI=> ?_⟩
   have h1:=(o6.aG hk).1
   have h2:=(V0.aG aI).2
   unfold Iv at h1
   omega
 refine⟨fun b1 x1 x2 x3 x4 x5 x6 h'=>x1=(B:Int)/\x2=(D:Int)/\x4=aC/\x5=aC/\lm h.size h' b1 x3 aC aC x6 (List.replicate (bC B (D-1)) k) [] [] (List.replicate (D+1) 0)/\Fr No h h',?_,?_⟩
 ·obtain⟨RM,MR⟩:=key (J:=fun b1 x1 x2 x3 x4 x5 x6 h'=>x1=(B:Int)/\x2=(D:Int)/\x4=aC/\x5=aC/\lm h.size h' b1 x3 aC aC x6 (List.replicate (bC B (D-1)) k) [] [] (List.replicate (D+1) 0)/\Fr No h h') fun{X r v} fX r0 v0 dj b1 h' hb f V=>by
   have f:=f.aF
   have zX:=fX.size
   exact⟨rfl,rfl,rfl,rfl,⟨Ow.no r0 f,Ow.nil _ _ _ _,Ow.nil _ _ _ _,Ow.no v0 f,fun k _ h=>cL k h,fun k _ h=>cL k h,dj,fun k h=>absurd h (cL k),fun k h=>absurd h (cL k),fun k h=>absurd h (cL k),fun hk=>by have:=(r0.aG hk).2;omega,cL _,cL _,fun hk=>by have:=(v0.aG hk).2;omega,by omega,V.head.lt⟩,fX.aA f⟩
  have up:∀{X Y:Heap}{v:Sl},Fr No h X->bK Y (fun k=>X.size<=k) v (List.replicate (D+1) 0)->bK Y (fun k=>h.size<=k) v (List.replicate (D+1) 0):=fun f o=>o.mono fun k _ hk=>by have:=f.size;omega
  have r0:=Fr.refl No h
  refine⟨?_,?_,?_⟩
  ·refine fR _ fun x h4 o4 f4=>⟨x,rfl,.nil,Vk ⟨_,rfl,.nil,RM f4 o4.rd,iT ev (by omega) fun v h9 o9 f9=>⟨v,rfl,.nil,MR (f4.aA f9) (Ow.no o4 f9).rd (up f4 o9)⟩⟩,iT ev (by omega) fun v h9 o9 f9=>⟨v,rfl,.nil,Vk ⟨_,rfl,.nil,MR (f4.aA f9) (Ow.no o4 f9).rd (up f4 o9)⟩⟩⟩
  ·refine Vk ⟨_,rfl,.nil,fR _ fun x h4 o4 f4=>⟨x,rfl,.nil,RM f4 o4.rd,iT ev (by omega) fun v h9 o9 f9=>⟨v,rfl,.nil,MR (f4.aA f9) (Ow.no o4 f9).rd (up f4 o9)⟩⟩,iT ev (by omega) fun v h9 o9 f9=>⟨v,rfl,.nil,fR _ fun x h4 o4 f4=>⟨x,rfl,.nil,MR (f9.aA f4) o4.rd (up r0 (Ow.no o9 f4))⟩⟩⟩
  ·refine iT ev (by omega) fun v h9 o9 f9=>⟨v,rfl,.nil,fR _ fun x h4 o4 f4=>⟨x,rfl,.nil,Vk ⟨_,rfl,.nil,MR (f9.aA f4) o4.rd (up r0 (Ow.no o9 f4))⟩⟩,Vk ⟨_,rfl,.nil,fR _ fun x h4 o4 f4=>⟨x,rfl,.nil,MR (f9.aA f4) o4.rd (up r0 (Ow.no o9 f4))⟩⟩⟩
 rintro b1 _ _ f3 _ _ f6 h3 ⟨rfl,rfl,rfl,rfl,S3,F3⟩ cF
 have hrr:=mR (m:=bC B (D-1)) q4
 refine⟨fun m i x1 x2 x3 x4 x5 x6 h'=>∃(j:Nat)(ts vs:List Int),i=j/\m+j=N/\x1=(B:Int)/\x2=(D:Int)/\lm h.size h' b1 x3 x4 x5 x6 (nK B D j (List.replicate (bC B (D-1)) k)).1 (nK B D j (List.replicate (bC B (D-1)) k)).2 ts vs/\ts.length=j/\vs.length=D+1/\Fr (fun k=>h.size<=k) h h',⟨N,0,[],_,rfl,by omega,rfl,rfl,S3,rfl,by simp,F3.aB⟩,?_⟩
 rintro m i _ _ x3 x4 x5 x6 h4 ⟨j,ts,vs,rfl,hm,rfl,rfl,S4,t4,v4,F4⟩ dN
 obtain⟨c1,c2,c3,c4⟩:=pZ (b:=B) (d:=D) (by omega) (by omega) j (rs:=List.replicate (bC B (D-1)) k) (by simp) hrr
 refine⟨fun e4=> ?_,fun e4=> ?_⟩
 ·simp only[decide_eq_true_eq]at e4
  refine Uk q1 q2 (by have:=S4.lb;have:=S4.hb;omega) dN S4 c1 c2 v4 (by omega) (by omega) _ fun h5 t u ws pN V5 S5 l5 l6 f5=>⟨_,_,_,_,_,_,V5,m-1,by omega,j+1,ws,pN,?_,by omega,rfl,rfl,S5,by omega,l6,F4.trans f5⟩
  rw[aH _ (by omega) (by omega)];omega
 ·simp only[decide_eq_false_iff_not]at e4
  have:j=N:=by omega
  subst this
  exact HY b1 h4 x3 x4 x5 x6 dN S4.e (F4.mono fun k hk aI=>absurd aI (by omega))
theorem DZ{h:Heap}(b d k n:Int)(K:Value->Heap->Prop)(HN:qt b d k n=false->K (.tuple #[aC.v,VB false]) h)
 (HY:qt b d k n=true->∀t h',bK h' (fun k=>h.size<=k) t (nK b.toNat d.toNat n.toNat (List.replicate (bC b.toNat (d.toNat-1)) k)).2->Fr No h h'->K (.tuple #[t.v,VB true]) h'):aE Tryz.prog 171 #[VI b,VI d,VI k,VI n] h K:=by
 refine v171 b d k n h K (Jo b d k n _ (fun e=>⟨none,false,rfl,.nil,fun _=>HN e,fun e=>by cases e⟩) fun e b1 h' f3 f4 f5 f6 V O f=>⟨some ⟨b1,0,none⟩,true,rfl,.nil,fun e=>(by cases e),fun _=>⟨b1,b,d,f3,f4,f5,f6,rfl,V,HY e f4 h' O f⟩⟩)
theorem Gv{h:Heap}(b d k n:Int)(K:Value->Heap->Prop)(HK:∀h',Fr No h h'->K (.tuple #[VI (zF b d k n).1,VB (zF b d k n).2]) h'):aE Tryz.prog 117 #[VI b,VI d,VI k,VI n] h K:=by
 refine v117 b d k n h K (DZ b d k n _ (fun e=>⟨aC,false,rfl,.nil,?_⟩) fun e t h' O f=>⟨t,true,rfl,.nil,?_⟩)
 ·unfold zF at HK
  rw[if_neg (by rw[e];decide)]at HK
  exact Vj (S:=fun _=>True) (xs:=[]) (cY.nil (fun _=>True) h 1) (fun x hx=>by simp at hx) (by simp) _ ⟨_,rfl,.nil,HK h (Fr.refl _ _)⟩
 ·unfold zF at HK
  rw[if_pos e]at HK
  obtain⟨B,D,N,rfl,rfl,rfl,q1,q2,q3,q4,q5⟩:=wN e
  simp only[Int.toNat_natCast]at O HK
  obtain⟨c1,c2,c3,c4⟩:=pZ (b:=B) (d:=D) (by omega) (by omega) N (rs:=List.replicate (bC B (D-1)) k) (by simp) (mR q4)
  exact Vj O.rd (fun x hx=>by have:=c4 x hx;omega) (by omega) _ ⟨_,rfl,.nil,HK h' f⟩
theorem BJ{h:Heap}(b d:Int)(K:Value->Heap->Prop)(HN:(decide (2<=b/\b<=3/\1<=d/\d<=6)&&decide ((bC b.toNat d.toNat:Int)<=130))=false->K (VI 0) h)(HY:(decide (2<=b/\b<=3/\1<=d/\d<=6)&&decide ((bC b.toNat d.toNat:Int)<=130))=true->K (VI (bC b.toNat d.toNat)) h):aE Tryz.prog 238 #[VI b,VI d] h K:=by
 refine aic b d h K (cX _ _ _ h _ ⟨_,rfl,.nil,fun e=>HN ?_,fun e=> ?_⟩)
 ·rw[decide_eq_false (show¬(2<=b/\b<=3/\1<=d/\d<=6)from fun h=>by simp at e;omega),Bool.false_and]
 have e:2<=b/\b<=3:=by simpa using e
 refine cX _ _ _ h _ ⟨_,rfl,.nil,fun e2=>HN ?_,fun e2=> ?_⟩
 ·rw[decide_eq_false (show¬(2<=b/\b<=3/\1<=d/\d<=6)from fun h=>by simp at e2;omega),Bool.false_and]
 have e2:1<=d/\d<=6:=by simpa using e2
 obtain⟨B,rfl⟩:∃B:Nat,b=B:=⟨b.toNat,by omega⟩
 obtain⟨D,rfl⟩:∃D:Nat,d=D:=⟨d.toNat,by omega⟩
 rw[decide_eq_true (show 2<=(B:Int)/\(B:Int)<=3/\1<=(D:Int)/\(D:Int)<=6 by omega),Bool.true_and]at HN HY
 simp only[Int.toNat_natCast,decide_eq_false_iff_not,decide_eq_true_eq]at HN HY
 refine⟨fun n all lev i h'=>∃j:Nat,i=j/\n+j=D/\all=(bC B j:Nat)/\lev=(ja B j:Nat)/\h'=h,⟨D,0,rfl,by omega,rfl,rfl,rfl⟩,?_⟩
 rintro n all lev i h' ⟨j,rfl,hn,rfl,rfl,rfl⟩ hL
 have hs:=fZ B (by omega) j (by omega)
 refine⟨fun e3=> ?_,fun e3=> ?_⟩
 ·simp only[decide_eq_true_eq]at e3
  have UO:=fZ B (by omega) (j+1) (by omega)
  have e1:((ja B j:Nat):Int)*(B:Int)=((ja B (j+1):Nat):Int):=by rw[ja];simp
  have e2:bC B (j+1)=bC B j+ja B (j+1):=rfl
  rw[e1,aH ((ja B (j+1):Nat):Int) (by omega) (by omega),aH _ (by omega) (by omega),aH _ (by omega) (by omega)]
  exact⟨n-1,by omega,j+1,by omega,by omega,by omega,rfl,rfl⟩
 ·simp only[decide_eq_false_iff_not]at e3
  have:j=D:=by omega
  subst this
  refine⟨fun e4=>HN ?_,fun e4=>HY ?_⟩
  ·simp only[decide_eq_true_eq]at e4;omega
  ·simp only[decide_eq_false_iff_not]at e4;omega
theorem u1{b d:Nat}(hb:b<4)(hd:d<7){h:Heap}(K:Value->Heap->Prop)(HK:K (VI (ja b d)) h):aE Tryz.prog 273 #[VI b,VI d] h K:=by
 refine aiS b d h K ⟨fun n i p h'=>∃j:Nat,i=n/\n+j=d/\p=(ja b j:Nat)/\h'=h,⟨d,0,rfl,by omega,rfl,rfl⟩,?_⟩
 rintro n _ p h' ⟨j,rfl,hn,rfl,rfl⟩ hL
 have hs:=fZ b hb j (by omega)
 refine⟨fun e=> ?_,fun e=> ?_⟩
 ·simp only[decide_eq_true_eq]at e
  have UO:=fZ b hb (j+1) (by omega)
  have e1:((ja b j:Nat):Int)*(b:Int)=((ja b (j+1):Nat):Int):=by rw[ja];simp
  rw[e1,aH ((ja b (j+1):Nat):Int) (by omega) (by omega),aH _ (by omega) (by omega)]
  exact⟨n-1,by omega,j+1,by omega,by omega,rfl,rfl⟩
 ·simp only[decide_eq_false_iff_not]at e
  have:j=d:=by omega
  subst this
  exact HK
theorem Mw{h:Heap}(b d k n:Int)(K:Value->Heap->Prop)(HK:K (VB (qt b d k n)) h):aE Tryz.prog 189 #[VI b,VI d,VI k,VI n] h K:=by
 refine ahb b d k n h K (BJ b d _ (fun e=>⟨0,rfl,.nil,fun e2=>by simp at e2,fun _=> ?_⟩) fun e=>⟨_,rfl,.nil,fun e2=> ?_,fun e2=> ?_⟩)
 ·unfold qt at HK
  rw[e,Bool.false_and]at HK
  exact HK
 ·unfold qt at HK
  rw[e,Bool.true_and]at HK
  refine cX _ _ _ h _ ⟨_,rfl,.nil,fun e3=>cX _ _ _ h _ ⟨_,rfl,.nil,?_⟩,fun e3=> ?_⟩
  ·have e3:0<=k/\k<=b:=by simpa using e3
   have:(decide (0<=n)&&decide (n<=200))=decide (0<=k/\k<=b/\0<=n/\n<=200):=by
    rw[<-Bool.decide_and]
    exact decide_eq_decide.2 ⟨fun h=>⟨e3.1,e3.2,h⟩,fun h=>h.2.2⟩
   rw[this]
   exact HK
  ·rw[decide_eq_false (fun h=>by simp at e3;omega)]at HK
   exact HK
 ·have:=tj b.toNat d.toNat
  simp only[decide_eq_false_iff_not]at e2
  omega
set_option maxHeartbeats 4000000 in
theorem My{b d:Nat}(hb:2<=b/\b<=3)(hd:1<=d/\d<=6)(hn:bC b d<=130)(k:Int){h:Heap}(K:Value->Heap->Prop)
 (HK:∀b1 h' f3 f6,Vars h' [(b1,[VI b,VI d,VI (bC b (d-1):Nat),Sl.v f3,aC.v,aC.v,Sl.v f6])]->lm h.size h' b1 f3 aC aC f6 (List.replicate (bC b (d-1)) k) [] [] (List.replicate (d+1) 0)->Fr No h h'->K (VP b1 0) h'):aE Tryz.prog 239 #[VI b,VI d,VI k] h K:=by
 have hi:=Gu hb.1 hd.1 hn
 have en:bC b d=bC b (d-1)+ja b d:=by
  have:d=(d-1)+1:=by omega
  rw[this];rfl
 have ev:aL ((d:Int)+1)=((d+1:Nat):Int):=by rw[aH _ (by omega) (by omega)];omega
 have ei:aL (((bC b d:Nat):Int)-((ja b d:Nat):Int))=((bC b (d-1):Nat):Int):=by rw[aH _ (by omega) (by omega)];omega
 have Vk:∀{X:Heap}{K:Value->Heap->Prop},K (VI (bC b d:Nat)) X->aE Tryz.prog 238 #[VI b,VI d] X K:=fun H=>BJ b d _ (fun e=>by
  rw[decide_eq_true (show 2<=(b:Int)/\(b:Int)<=3/\1<=(d:Int)/\(d:Int)<=6 by omega),Bool.true_and]at e
  simp only[Int.toNat_natCast,decide_eq_false_iff_not]at e
  omega) fun _=>H
 refine aie b d k h K ⟨fun b1 x1 x2 x3 x4 x5 x6 x7 h'=>x1=(b:Int)/\x2=(d:Int)/\x3=(bC b (d-1):Nat)/\x4=aC/\x5=aC/\x6=aC/\lm h.size h' b1 aC aC aC x7 [] [] [] (List.replicate (d+1) 0)/\Fr No h h',?_,?_⟩
 ·have fin:∀{X:Heap}{v:Sl},Fr No h X->bK X (fun k=>h.size<=k) v (List.replicate (d+1) 0)->∀b1 h',X.size<=b1->Fr (In []) X h'->Vars h' [(b1,[VI b,VI d,VI (aL (((bC b d:Nat):Int)-((ja b d:Nat):Int))),aC.v,aC.v,aC.v,v.v])]->(b:Int)=b/\(d:Int)=d/\aL (((bC b d:Nat):Int)-((ja b d:Nat):Int))=(bC b (d-1):Nat)/\aC=aC/\aC=aC/\aC=aC/\lm h.size h' b1 aC aC aC v [] [] [] (List.replicate (d+1) 0)/\Fr No h h':=fun{X v} fX v0 b1 h' hb f V=>by
   have f:=f.aF
   have zX:=fX.size
   exact⟨rfl,rfl,ei,rfl,rfl,rfl,⟨Ow.nil _ _ _ _,Ow.nil _ _ _ _,Ow.nil _ _ _ _,Ow.no v0 f,fun k h=>absurd h (cL k),fun k h=>absurd h (cL k),fun k h=>absurd h (cL k),fun k h=>absurd h (cL k),fun k h=>absurd h (cL k),fun k h=>absurd h (cL k),cL _,cL _,cL _,fun hk=>by have:=(v0.aG hk).2;omega,by omega,V.head.lt⟩,fX.aA f⟩
  refine⟨Vk ⟨_,rfl,.nil,u1 (by omega) (by omega) _ ⟨_,rfl,.nil,iT ev (by omega) fun v h3 o3 f3=>⟨v,rfl,.nil,fin f3 o3⟩⟩,iT ev (by omega) fun v h3 o3 f3=>⟨v,rfl,.nil,u1 (by omega) (by omega) _ ⟨_,rfl,.nil,fin f3 o3⟩⟩⟩,iT ev (by omega) fun v h3 o3 f3=>⟨v,rfl,.nil,Vk ⟨_,rfl,.nil,u1 (by omega) (by omega) _ ⟨_,rfl,.nil,fin f3 o3⟩⟩⟩⟩
 rintro b1 _ _ _ _ _ _ f6 h2 ⟨rfl,rfl,rfl,rfl,rfl,rfl,S2,F2⟩ bP
 refine⟨fun m i x1 x2 x3 x4 x5 x6 x7 h'=>∃j:Nat,i=j/\m+j=bC b (d-1)/\x1=(b:Int)/\x2=(d:Int)/\x3=(bC b (d-1):Nat)/\x5=aC/\x6=aC/\lm h.size h' b1 x4 aC aC x7 (List.replicate j k) [] [] (List.replicate (d+1) 0)/\Fr (fun k=>h.size<=k) h h',⟨bC b (d-1),0,rfl,by omega,rfl,rfl,rfl,rfl,rfl,S2,F2.aB⟩,?_⟩
 rintro m i _ _ _ x4 _ _ x7 h3 ⟨j,rfl,hm,rfl,rfl,rfl,rfl,rfl,S3,F3⟩ cF
 have z3:h.size<=h3.size:=F3.size
 refine⟨fun e=> ?_,fun e=> ?_⟩
 ·simp only[decide_eq_true_eq]at e
  refine fR _ fun x h4 o4 f4=>⟨x,rfl,cF.aB f4,?_⟩
  have S4:=S3.no f4
  have z4:=f4.size
  refine S4.DY (by omega) o4.rd (by simp;omega) fun t h5 S5 f5 w5=>⟨t,rfl,gM (cF.aB f4) f5 S4.nr,fun h6 f6 iN=>⟨m-1,by omega,j+1,?_,by omega,rfl,rfl,rfl,rfl,rfl,?_,?_⟩⟩
  ·rw[aH _ (by omega) (by omega)];omega
  ·have:=S5.Mv f6 (by simp)
   rw[<-List.replicate_succ']at this
   exact this
  ·exact((F3.trans f4.aB).trans (f5.mono fun k _ hk=>(S4.r.aG hk).1)).trans (f6.mono fun k _ hk=>by simp[In]at hk;have:=S3.lb;omega)
 ·simp only[decide_eq_false_iff_not]at e
  have:j=bC b (d-1):=by omega
  subst this
  exact HK b1 h3 x4 x7 cF S3 (F3.mono fun k hk aI=>absurd aI (by omega))
theorem aaz{B D N:Nat}(q1:2<=B/\B<=3)(q2:1<=D/\D<=6)(q3:bC B D<=130){k:Int}(q4:0<=k/\k<=B)(q5:N<=200){h:Heap}(K:Value->Heap->Prop)
 (HK:∀b1 h' f3 f4 f5 f6,Vars h' [(b1,[VI B,VI D,VI (bC B (D-1):Nat),Sl.v f3,Sl.v f4,Sl.v f5,Sl.v f6])]->bK h' (fun k=>h.size<=k) f4 (nK B D N (List.replicate (bC B (D-1)) k)).2->Fr No h h'->K (VP b1 0) h'):aE Tryz.prog 191 #[VI B,VI D,VI k,VI N] h K:=by
 refine ahf B D k N h K (My q1 q2 q3 k _ fun b1 h3 f3 f6 V3 S3 F3=>⟨some ⟨b1,0,none⟩,rfl,.nil,?_⟩)
 have hrr:=mR (m:=bC B (D-1)) q4
 have z3:=F3.size
 refine⟨fun m i h'=>∃(j:Nat)(x4 x5 x6 x7:Sl)(ts vs:List Int),i=j/\m+j=N/\Vars h' [(b1,[VI B,VI D,VI (bC B (D-1):Nat),x4.v,x5.v,x6.v,x7.v])]/\lm h.size h' b1 x4 x5 x6 x7 (nK B D j (List.replicate (bC B (D-1)) k)).1 (nK B D j (List.replicate (bC B (D-1)) k)).2 ts vs/\ts.length=j/\vs.length=D+1/\Fr (fun k=>h.size<=k) h h',⟨N,0,f3,aC,aC,f6,[],_,rfl,by omega,V3,S3,rfl,by simp,F3.aB⟩,?_⟩
 rintro m i h4 ⟨j,x4,x5,x6,x7,ts,vs,rfl,hm,dN,S4,t4,v4,F4⟩ _
 obtain⟨c1,c2,c3,c4⟩:=pZ (b:=B) (d:=D) (by omega) (by omega) j (rs:=List.replicate (bC B (D-1)) k) (by simp) hrr
 refine⟨fun e4=> ?_,fun e4=> ?_⟩
 ·simp only[decide_eq_true_eq]at e4
  refine Ul q1 q2 (by have:=S4.lb;have:=S4.hb;omega) dN S4 c1 c2 v4 (by omega) (by omega) _ fun h5 t u ws pN V5 S5 l5 l6 f5=>⟨.nil,m-1,by omega,j+1,x4,t,u,x7,ws,pN,?_,by omega,V5,S5,by omega,l6,F4.trans f5⟩
  rw[aH _ (by omega) (by omega)];omega
 ·simp only[decide_eq_false_iff_not]at e4
  have:j=N:=by omega
  subst this
  exact HK b1 h4 x4 x5 x6 x7 dN S4.e (F4.mono fun k hk aI=>absurd aI (by omega))
theorem u3{h:Heap}(b d k n:Int)(K:Value->Heap->Prop)(HK:∀h',Fr No h h'->K (.tuple #[VI (zF b d k n).1,VB (zF b d k n).2]) h'):aE Tryz.prog 141 #[VI b,VI d,VI k,VI n] h K:=by
 refine v141 b d k n h K (Mw b d k n _ ⟨_,rfl,.nil,fun e=> ?_,fun e=> ?_⟩)
 ·unfold zF at HK
  rw[if_neg (by simpa using e)]at HK
  exact HK h (Fr.refl _ _)
 ·have e:qt b d k n=true:=by simpa using e
  unfold zF at HK
  rw[if_pos e]at HK
  obtain⟨B,D,N,rfl,rfl,rfl,q1,q2,q3,q4,q5⟩:=wN e
  simp only[Int.toNat_natCast]at HK
  obtain⟨c1,c2,c3,c4⟩:=pZ (b:=B) (d:=D) (by omega) (by omega) N (rs:=List.replicate (bC B (D-1)) k) (by simp) (mR q4)
  refine aaz q1 q2 q3 q4 q5 _ fun b1 h2 f3 f4 f5 f6 V O f=>⟨some ⟨b1,0,none⟩,rfl,.nil,b1,_,_,_,f3,f4,f5,f6,rfl,V,Um O.rd (fun x hx=>by have:=c4 x hx;omega) (by omega) _ ⟨_,rfl,V,HK h2 f⟩⟩
def ks(B C i:Nat):Nat:=(B.testBit i).toNat+2*(C.testBit i).toNat
def nxG(i r:Nat):Nat:=if r=0 then i+121 else if r=1 then i+1 else if r=2 then i-121 else i-1
def inG(i:Nat):Bool:=Nat.ble 121 i&&Nat.ble i 14519&& !(Nat.beq (i%121) 0)&& !(Nat.beq (i%121) 120)
def nU:Nat->Nat->Nat->Nat->Nat->Option (Nat×Nat×Nat)
 |0,_,_,_,_=>none
 |n+1,A,B,C,i=>bif A.testBit i then
  bif inG i then nU n A (B^^^2^i) (bif B.testBit i then C^^^2^i else C) (nxG i ((ks B C i+1)%4))else none
  else some (i,B,C)
def Qd(n:Nat)(b:Bool):Nat:=bif b then 2^n-1 else 0
def mS(b:Bool):Nat:=Qd 14641 b
def eY(k:Nat):Nat->Option (Nat×Nat×Nat×List Nat)
 |0=>some (0,mS (k.testBit 0),mS (k.testBit 1),[])
 |n+1=>match eY k n with
  |none=>none
  |some (A,B,C,l)=>match nU 1000 A B C 7320 with
   |none=>none
   |some (i,B',C')=>some (A^^^2^i,B',C',l++[i])
def okG(k:Nat):Bool:=(eY k 250).isSome
theorem KY(B C i:Nat):ks B C i<4:=by
 unfold ks
 have h1:=Bool.toNat_lt (B.testBit i)
 have h2:=Bool.toNat_lt (C.testBit i)
 omega
theorem k9(B i j:Nat):(B^^^2^i).testBit j=if j=i then !B.testBit j else B.testBit j:=by
 rw[Nat.testBit_xor,Nat.testBit_two_pow]
 by_cases h:j=i
 ·subst h;simp
 ·rw[if_neg h,decide_eq_false (fun e=>h e.symm)];simp
theorem u5(B C i j:Nat):ks (B^^^2^i) (bif B.testBit i then C^^^2^i else C) j=if j=i then(ks B C i+1)%4 else ks B C j:=by
 unfold ks
 by_cases h:j=i
 ·subst h
  rw[if_pos rfl,k9,if_pos rfl]
  cases hB:B.testBit j
  ·cases hC:C.testBit j<;>simp[hC]
  ·rw[cond_true,k9,if_pos rfl]
   cases hC:C.testBit j<;>simp
 ·rw[if_neg h,k9,if_neg h]
  cases hB:B.testBit i
  ·rfl
  ·rw[cond_true,k9,if_neg h]
theorem Qe{i:Nat}(h:inG i=true):121<=i/\i<=14519/\i%121≠0/\i%121≠120:=by
 unfold inG at h
 simp only[Bool.and_eq_true,Bool.not_eq_true',Nat.ble_eq]at h
 exact⟨h.1.1.1,h.1.1.2,fun e=>by rw[e]at h;exact absurd h.1.2 (by decide),fun e=>by rw[e]at h;exact absurd h.2 (by decide)⟩
theorem Qf(n:Nat)(b:Bool){i:Nat}(h:i<n):(Qd n b).testBit i=b:=by
 unfold Qd
 cases b
 ·simp
 ·rw[cond_true,Nat.testBit_two_pow_sub_one]
  simp[h]
theorem Gw(b:Bool){i:Nat}(h:i<14641):(mS b).testBit i=b:=Qf 14641 b h
theorem Gx{k i:Nat}(hk:k<4)(h:i<14641):ks (mS (k.testBit 0)) (mS (k.testBit 1)) i=k:=by
 unfold ks
 rw[Gw _ h,Gw _ h]
 rcases(by omega:k=0\/k=1\/k=2\/k=3)with rfl|rfl|rfl|rfl<;>decide
theorem zG{k:Nat}:∀{m:Nat}(d:Nat),(eY k (m+d)).isSome=true->(eY k m).isSome=true
 |m,0,h=>h
 |m,d+1,h=>by
  refine zG d ?_
  rw[show m+(d+1)=(m+d)+1 by omega,eY]at h
  cases hc:eY k (m+d)with
  |none=>rw[hc]at h;exact h
  |some x=>rfl
theorem Un:∀k,k<4->okG k=true:=by
 have h0:okG 0=true:=by decide+kernel
 have h1:okG 1=true:=by decide+kernel
 have h2:okG 2=true:=by decide+kernel
 have h3:okG 3=true:=by decide+kernel
 intro k hk
 rcases(by omega:k=0\/k=1\/k=2\/k=3)with rfl|rfl|rfl|rfl
 ·exact h0
 ·exact h1
 ·exact h2
 ·exact h3
theorem lI{k n:Nat}(hk:k<4)(hn:n<=250):∃A B C l,eY k n=some (A,B,C,l):=by
 have h:=zG (k:=k) (m:=n) (250-n) (by rw[Nat.add_sub_cancel' hn];exact Un k hk)
 obtain⟨⟨A,B,C,l⟩,h⟩:=Option.isSome_iff_exists.1 h
 exact⟨A,B,C,l,h⟩
theorem lJ{k n A B C:Nat}{l:List Nat}(h:eY k n=some (A,B,C,l)){A' B' C':Nat}{l':List Nat}(h':eY k (n+1)=some (A',B',C',l')):∃i,nU 1000 A B C 7320=some (i,B',C')/\A'=A^^^2^i/\l'=l++[i]:=by
 rw[eY,h]at h'
 (try simp only at h')
 cases hw:nU 1000 A B C 7320 with
 |none=>rw[hw]at h';cases h'
 |some x=>
  obtain⟨i,B1,C1⟩:=x
  rw[hw]at h'
  (try simp only[Option.some.injEq,Prod.mk.injEq]at h')
  obtain⟨rfl,rfl,rfl,rfl⟩:=h'
  exact⟨i,rfl,rfl,rfl⟩
theorem ik{k:Nat}:∀{n A B C:Nat}{l:List Nat},eY k n=some (A,B,C,l)->l.length=n
 |0,A,B,C,l,h=>by
  rw[eY]at h
  simp only[Option.some.injEq,Prod.mk.injEq]at h
  rw[<-h.2.2.2];rfl
 |n+1,A,B,C,l,h=>by
  cases hc:eY k n with
  |none=>rw[eY,hc]at h;cases h
  |some x=>
   obtain⟨A0,B0,C0,l0⟩:=x
   obtain⟨i,_,_,e⟩:=lJ hc h
   rw[e,List.length_append,ik hc];rfl
theorem rC{n A B C i:Nat}{R:Nat×Nat×Nat}(h:nU n A B C i=some R)(ht:A.testBit i=true):inG i=true/\∃m,n=m+1/\nU m A (B^^^2^i) (bif B.testBit i then C^^^2^i else C) (nxG i ((ks B C i+1)%4))=some R:=by
 cases n with
 |zero=>cases h
 |succ m=>
  rw[nU,ht,cond_true]at h
  cases hi:inG i with
  |false=>rw[hi]at h;cases h
  |true=>rw[hi]at h;exact⟨rfl,m,rfl,h⟩
theorem u6{n A B C i:Nat}{R:Nat×Nat×Nat}(h:nU n A B C i=some R)(ht:A.testBit i=false):R=(i,B,C):=by
 cases n with
 |zero=>cases h
 |succ m=>
  rw[nU,ht,cond_false]at h
  exact(Option.some.inj h).symm
def bJ(x y:Int):Nat:=((x+60)*121+(y+60)).toNat
abbrev fS(x:Int):Prop:= -60<=x/\x<=60
theorem BK{x y u v:Int}(hx:fS x)(hy:fS y)(hu:fS u)(hv:fS v)(h:bJ x y=bJ u v):x=u/\y=v:=by
 unfold bJ at h
 unfold fS at*
 omega
def mvX(x r:Int):Int:=if r=0 then x+1 else if r=2 then x-1 else x
def mvY(y r:Int):Int:=if r=1 then y+1 else if r=0 then y else if r=2 then y else y-1
theorem Gy{x y:Int}{i r:Nat}(hx:fS x)(hy:fS y)(e:bJ x y=i)(h:inG i=true)(hr:r<4):fS (mvX x r)/\fS (mvY y r)/\bJ (mvX x r) (mvY y r)=nxG i r:=by
 obtain⟨h1,h2,h3,h4⟩:=Qe h
 unfold bJ at*
 unfold fS at*
 have k1:x≠ -60:=fun hh=>by omega
 have k2:x≠60:=fun hh=>by omega
 have k3:y≠ -60:=fun hh=>by omega
 have k4:y≠60:=fun hh=>by omega
 unfold mvX mvY nxG
 rcases(by omega:r=0\/r=1\/r=2\/r=3)with rfl|rfl|rfl|rfl
 ·simp;omega
 ·simp;omega
 ·simp;omega
 ·simp;omega
def pE(n k:Int):List Int×Bool:=if 1<=n/\n<=250/\0<=k/\k<=3 then match eY k.toNat n.toNat with
 |some (_,_,_,l)=>([((l.getLastD 0:Nat):Int)/121-60,((l.getLastD 0:Nat):Int)%121-60],true)
 |none=>([],false)
 else([],false)
structure nL(P:Program)(kt:TypeId)(f0 f1:Field):Prop where
 und:P.underlying kt=some (.struct #[f0,f1])
 i0:P.underlying f0.type=some (.int .i64)
 i1:P.underlying f1.type=some (.int .i64)
 n0:f0.name≠ "_"
 n1:f1.name≠ "_"
 o0:f0.offset=0
 o1:f1.offset=1
 st:P.stoodInHeld kt=false
def KV(x y:Int):Value:= .agg #[VI x,VI y]
theorem p4{P:Program}{t:TypeId}(h:P.underlying t=some (.int .i64)){cs:Array Value}{i:Nat}{v:Value}(hv:cs[i]?=some v)(w:World):(part t cs i).run P w= .ok v w:=by
 unfold part isAgg
 simp only[Sem.run_bind,run_underlying h,Result.andThen,Sem.run_pure]
 simp[hv]
theorem Jp{P:Program}{kt:TypeId}{f0 f1:Field}(T:nL P kt f0 f1)(x y u v:Int)(w:World):(Op.equal kt (KV x y) (KV u v)).run P w= .ok (decide (x=u/\y=v)) w:=by
 have key:∀d,(Op.equalIn (d+2) kt (KV x y) (KV u v)).run P w= .ok (decide (x=u/\y=v)) w:=fun d=>by
  have e:∀(t:TypeId)(a b:Int),P.underlying t=some (.int .i64)->(Op.equalIn (d+1) t (VI a) (VI b)).run P w= .ok (a==b) w:=fun t a b h=>by
   unfold Op.equalIn
   simp[Sem.run_bind,run_underlying h,Result.andThen,VI]
  have p0:∀a b:Int,(part f0.type #[VI a,VI b] f0.offset).run P w= .ok (VI a) w:=fun a b=>by rw[T.o0];exact p4 T.i0 rfl w
  have p1:∀a b:Int,(part f1.type #[VI a,VI b] f1.offset).run P w= .ok (VI b) w:=fun a b=>by rw[T.o1];exact p4 T.i1 rfl w
  unfold Op.equalIn
  simp only[Sem.run_bind,run_underlying T.und,Result.andThen,KV,run_program,T.st]
  by_cases h0:x=u
  ·by_cases h1:y=v
   ·simp[h0,h1,T.n0,T.n1,Sem.run_pure,Sem.run_bind,Result.andThen,p0,p1,e _ _ _ T.i0,e _ _ _ T.i1]
   ·simp[h0,h1,T.n0,T.n1,Sem.run_pure,Sem.run_bind,Result.andThen,p0,p1,e _ _ _ T.i0,e _ _ _ T.i1]
  ·simp[h0,T.n0,T.n1,Sem.run_pure,Sem.run_bind,Result.andThen,p0,p1,e _ _ _ T.i0,e _ _ _ T.i1]
 exact key 9998
theorem gX{P:Program}{kt:TypeId}{f0 f1:Field}(T:nL P kt f0 f1)(em:Bool)(x y:Int)(w:World):(Instr.checkKey em 10000 kt (KV x y)).run P w= .ok () w:=by
 have e:∀(d:Nat)(t:TypeId)(a:Int),P.underlying t=some (.int .i64)->(Instr.checkKey em (d+1) t (VI a)).run P w= .ok () w:=fun d t a h=>by
  unfold Instr.checkKey
  simp[Sem.run_bind,run_underlying h,Result.andThen,VI]
 have p0:∀a b:Int,(part f0.type #[VI a,VI b] f0.offset).run P w= .ok (VI a) w:=fun a b=>by rw[T.o0];exact p4 T.i0 rfl w
 have p1:∀a b:Int,(part f1.type #[VI a,VI b] f1.offset).run P w= .ok (VI b) w:=fun a b=>by rw[T.o1];exact p4 T.i1 rfl w
 have key:∀d,(Instr.checkKey em (d+2) kt (KV x y)).run P w= .ok () w:=fun d=>by
  unfold Instr.checkKey
  simp only[Sem.run_bind,run_underlying T.und,Result.andThen,KV]
  simp[Sem.run_bind,Result.andThen,T.n0,T.n1,p0,p1,e d _ _ T.i0,e d _ _ T.i1]
 exact key 9998
def tm(h:Heap)(b:Nat)(eZ:List ((Int×Int)×Int)):Prop:=∃(es:Array MapEntry)(clock:Nat),h[b]?=some (.map es clock)/\es.toList.map (fun e=>(e.key,e.val))=eZ.map fun q=>(KV q.1.1 q.1.2,VI q.2)
theorem tm.lt{h:Heap}{b:Nat}{eZ:List ((Int×Int)×Int)}(M:tm h b eZ):b<h.size:=by
 obtain⟨es,c,hb,_⟩:=M
 exact(Array.getElem?_eq_some_iff.1 hb).1
theorem tm.fr{h h':Heap}{b:Nat}{eZ:List ((Int×Int)×Int)}{T:Nat->Prop}(M:tm h b eZ)(f:Fr T h h')(hT:¬T b):tm h' b eZ:=by
 have hl:=M.lt
 obtain⟨es,c,hb,e⟩:=M
 exact⟨es,c,by rw[f.same b hl hT];exact hb,e⟩
def gF:List ((Int×Int)×Int)->Int->Int->Option (Nat×Int)
 |[],_,_=>none
 |q::r,x,y=>if x=q.1.1/\y=q.1.2 then some (0,q.2)else(gF r x y).map fun p=>(p.1+1,p.2)
theorem adA{P:Program}{kt:TypeId}{f0 f1:Field}(T:nL P kt f0 f1)(x y:Int)(w:World):∀(l:List MapEntry)(eZ:List ((Int×Int)×Int))(i:Nat),l.map (fun e=>(e.key,e.val))=eZ.map (fun q=>(KV q.1.1 q.1.2,VI q.2))->(Instr.findAsking kt (KV x y) l i).run P w= .ok ((gF eZ x y).map fun p=>(i+p.1,VI p.2)) w
 |[],[],i,_=>by simp[Instr.findAsking,gF]
 |[],q::r,i,h=>by simp at h
 |e::l,[],i,h=>by simp at h
 |e::l,q::r,i,h=>by
  simp only[List.map_cons,List.cons.injEq,Prod.mk.injEq]at h
  obtain⟨⟨h1,h2⟩,h3⟩:=h
  unfold Instr.findAsking gF
  simp only[Sem.run_bind,h1,Jp T,Result.andThen]
  by_cases hq:x=q.1.1/\y=q.1.2
  ·simp[hq,h2,Sem.run_pure]
  ·rw[if_neg (by simpa using hq),if_neg hq,adA T x y w l r (i+1) h3]
   simp[Option.map_map,Function.comp_def,Nat.add_assoc,Nat.add_comm 1]
theorem D2{kt:TypeDesc}{x y:Int}(hk:∀k,kt≠ .int k):∀(l:List MapEntry)(i:Nat),l≠[]->(∀e,e∈l->∃u v,e.key=KV u v)->Instr.findNow kt (KV x y) l i=none
 |[],_,h,_=>absurd rfl h
 |e::l,i,_,h=>by
  obtain⟨u,v,he⟩:=h e List.mem_cons_self
  unfold Instr.findNow
  have:Instr.sameNow kt (KV x y) e.key=none:=by rw[he];cases kt<;>rfl
  rw[this]
theorem iU{P:Program}{kt:TypeId}{f0 f1:Field}(T:nL P kt f0 f1)(x y:Int)(w:World){l:List MapEntry}{eZ:List ((Int×Int)×Int)}(h:l.map (fun e=>(e.key,e.val))=eZ.map (fun q=>(KV q.1.1 q.1.2,VI q.2))):(Instr.findKey kt (KV x y) l).run P w= .ok ((gF eZ x y).map fun p=>(p.1,VI p.2)) w:=by
 unfold Instr.findKey
 simp only[Sem.run_bind,run_underlying T.und,Result.andThen]
 by_cases hl:l=[]
 ·subst hl
  have:eZ=[]:=by cases eZ with
   |nil=>rfl
   |cons q r=>simp at h
  subst this
  rfl
 ·rw[D2 (fun k hk=>by cases hk) l 0 hl fun e he=>by
   have:(e.key,e.val)∈l.map (fun e=>(e.key,e.val)):=List.mem_map.2 ⟨e,he,rfl⟩
   rw[h]at this
   obtain⟨q,_,hq⟩:=List.mem_map.1 this
   exact⟨_,_,(Prod.mk.inj hq).1.symm⟩]
  have:=adA T x y w l eZ 0 h
  simp only[Nat.zero_add]at this
  exact this
theorem Gz{P:Program}{t kt et:TypeId}{f0 f1:Field}{h:Heap}{b:Nat}{eZ:List ((Int×Int)×Int)}{x y:Int}(T:nL P kt f0 f1)(hm:P.underlying t=some (.map kt et))(hz:oE P et=some (VI 0))(M:tm h b eZ){K:Value->Prop}(HK:K (.tuple #[VI (((gF eZ x y).map (·.2)).getD 0),VB (gF eZ x y).isSome])):zS P (Instr.lookup t (.map (some b)) (KV x y) true) h K:=by
 obtain⟨es,c,hb,e⟩:=M
 refine⟨_,fun w hw=> ?_,HK⟩
 subst hw
 have hzr:(zeroValue et).run P w= .ok (VI 0) w:=by
  unfold oE at hz
  cases hi:P.info? et with
  |none=>rw[hi]at hz;simp at hz
  |some i=>
   rw[hi]at hz
   simp only[Option.bind_some]at hz
   unfold zeroValue
   rw[aK (dV hi w)]
   simp[hz,pure,Sem.run]
 unfold Instr.lookup
 simp only[Sem.run_bind,run_underlying hm,Result.andThen,MapKept.run_getObj_map hb,gX T,iU T x y w e]
 cases hs:gF eZ x y with
 |none=>simp[gX T,iU T x y w e,hs,Sem.run,pure,hzr,Result.andThen]
 |some p=>simp[gX T,iU T x y w e,hs,Sem.run,pure,Result.andThen]
theorem Am(x y:Int):Instr.sameBits 10000 (KV x y) (KV x y)=true:=by
 have key:∀d,Instr.sameBits (d+1) (KV x y) (KV x y)=true:=fun d=>by simp[Instr.sameBits,KV,VI]
 exact key 9999
theorem Qg{P:Program}{t kt et:TypeId}{f0 f1:Field}{h:Heap}{b:Nat}{eZ:List ((Int×Int)×Int)}{x y v:Int}(T:nL P kt f0 f1)(hm:P.underlying t=some (.map kt et))(M:tm h b eZ){j:Nat}{r:Int}(hf:gF eZ x y=some (j,r)){K:Value->Heap->Prop}(HK:∀u h',tm h' b (eZ.set j ((x,y),v))->Fr (In [b]) h h'->K u h'):Aq P (Instr.mapUpdate t (.map (some b)) (KV x y) (VI v)) h K:=by
 have hl:=M.lt
 obtain⟨es,c,hb,e⟩:=M
 have hkj:∀(eZ:List ((Int×Int)×Int))(j:Nat),gF eZ x y=some (j,r)->∃h:j<eZ.length,eZ[j].1=(x,y):=by
  intro eZ
  induction eZ with
  |nil=>intro j h;cases h
  |cons q l ih=>
   intro j h
   unfold gF at h
   split at h
   ·rename_i hq
    obtain⟨rfl,_⟩:=Prod.mk.inj (Option.some.inj h)
    exact⟨by simp,by simp[hq]⟩
   ·cases hl:gF l x y with
    |none=>rw[hl]at h;cases h
    |some p=>
     rw[hl]at h
     obtain⟨p1,p2⟩:=p
     simp only[Option.map_some,Option.some.injEq,Prod.mk.injEq]at h
     obtain⟨rfl,rfl⟩:=h
     obtain⟨a,b⟩:=ih p1 hl
     exact⟨by simpa using a,by simpa using b⟩
 obtain⟨hj,hq⟩:=hkj eZ j hf
 have hlen:es.toList.length=eZ.length:=by have:=congrArg List.length e;simpa using this
 have Ib:j<es.size:=by have:es.toList.length=es.size:=Array.length_toList;omega
 have hk:es[j].key=KV x y:=by
  have:(es.toList.map (fun e=>(e.key,e.val)))[j]'(by simpa using Ib)=(eZ.map fun q=>(KV q.1.1 q.1.2,VI q.2))[j]'(by simpa using hj):=by simp only[e]
  simp only[List.getElem_map,Array.getElem_toList,Prod.mk.injEq,hq]at this
  exact this.1
 refine⟨fun w hw=> ?_⟩
 subst hw
 refine⟨{w with heap:=w.heap.setIfInBounds b (.map (es.modify j fun e=>{e with key:=KV x y,val:=VI v}) c)},?_,⟨rfl,rfl,rfl⟩,HK _ _ ⟨es.modify j fun e=>{e with key:=KV x y,val:=VI v},c,?_,?_⟩ ⟨by simp,fun i hi eA=> ?_⟩⟩
 ·unfold Instr.mapUpdate
  simp only[Sem.run_bind,run_underlying hm,Result.andThen,MapKept.run_getObj_map hb,gX T,iU T x y w e,hf,Option.map_some]
  have:((es[j]?).map (·.key)).getD (KV x y)=KV x y:=by rw[Array.getElem?_eq_getElem Ib];simp[hk]
  simp only[this,Instr.keyThatStays,Am,if_true,Sem.run_pure,MapKept.run_setObj_map _ hb]
 ·simp only
  rw[Array.getElem?_setIfInBounds,if_pos rfl,if_pos hl]
 ·rw[Array.toList_modify]
  apply List.ext_getElem?
  intro i
  have ei:=congrArg (fun l=>l[i]?) e
  simp only[List.getElem?_map]at ei⊢
  rw[List.getElem?_modify,List.getElem?_set]
  by_cases UL:j=i
  ·subst UL
   rw[if_pos rfl,if_pos hj,List.getElem?_eq_getElem (by omega)]
   simp
  ·rw[if_neg UL,<-ei]
   cases es.toList[i]?<;>simp[UL]
 ·simp only
  rw[Array.getElem?_setIfInBounds,if_neg (fun hh=>eA (by simp[In,hh]))]
theorem Qh{P:Program}{t kt et:TypeId}{f0 f1:Field}{h:Heap}{b:Nat}{eZ:List ((Int×Int)×Int)}{x y v:Int}(T:nL P kt f0 f1)(hm:P.underlying t=some (.map kt et))(M:tm h b eZ)(hf:gF eZ x y=none){K:Value->Heap->Prop}(HK:∀u h',tm h' b (eZ++[((x,y),v)])->Fr (In [b]) h h'->K u h'):Aq P (Instr.mapUpdate t (.map (some b)) (KV x y) (VI v)) h K:=by
 have hl:=M.lt
 obtain⟨es,c,hb,e⟩:=M
 refine⟨fun w hw=> ?_⟩
 subst hw
 refine⟨{w with heap:=w.heap.setIfInBounds b (.map (es.push {key:=KV x y,val:=VI v,born:=c}) (c+1))},?_,⟨rfl,rfl,rfl⟩,HK _ _ ⟨es.push {key:=KV x y,val:=VI v,born:=c},c+1,?_,?_⟩ ⟨by simp,fun j hj eA=> ?_⟩⟩
 ·unfold Instr.mapUpdate
  simp only[Sem.run_bind,run_underlying hm,Result.andThen,MapKept.run_getObj_map hb,gX T,iU T x y w e,hf,Option.map_none,MapKept.run_setObj_map _ hb]
 ·simp only
  rw[Array.getElem?_setIfInBounds,if_pos rfl,if_pos hl]
 ·rw[Array.toList_push,List.map_append,List.map_append,e]
  rfl
 ·simp only
  rw[Array.getElem?_setIfInBounds,if_neg (fun hh=>eA (by simp[In,hh]))]
theorem D5{P:Program}{t:TypeId}{h:Heap}{K:Value->Heap->Prop}(HK:∀h',tm h' h.size []->Fr No h h'->h.size<h'.size->K (.map (some h.size)) h'):kE P (Instr.makeMap t none) h K:=by
 refine⟨fun w hw=> ?_⟩
 subst hw
 refine⟨_,_,run_makeMap_plain w t,⟨rfl,rfl,rfl⟩,HK _ ⟨#[],0,?_,rfl⟩ (Fr.push w.heap _) ?_⟩
 ·show(w.heap.push _)[w.heap.size]?=_
  simp
 ·show w.heap.size<(w.heap.push _).size
  simp
def rD(eZ:List ((Int×Int)×Int))(x y:Int):Option Int:=(gF eZ x y).map (·.2)
theorem iA(q:(Int×Int)×Int)(r:List ((Int×Int)×Int))(x y:Int):rD (q::r) x y=if x=q.1.1/\y=q.1.2 then some q.2 else rD r x y:=by
 unfold rD
 rw[gF]
 split
 ·rfl
 ·rw[Option.map_map];rfl
theorem GA{x y v:Int}:∀{eZ:List ((Int×Int)×Int)}{j:Nat}{r:Int},gF eZ x y=some (j,r)->∀u z,rD (eZ.set j ((x,y),v)) u z=if u=x/\z=y then some v else rD eZ u z
 |[],_,_,h=>by cases h
 |q::l,j,r,h=>fun u z=>by
  rw[gF]at h
  split at h
  ·rename_i hq
   obtain⟨rfl,_⟩:=Prod.mk.inj (Option.some.inj h)
   rw[List.set_cons_zero,iA,iA]
   (try simp only)
   by_cases hu:u=x/\z=y
   ·rw[if_pos hu,if_pos hu]
   ·rw[if_neg hu,if_neg hu,if_neg (by rw[<-hq.1,<-hq.2];exact hu)]
  ·rename_i hq
   cases hl:gF l x y with
   |none=>rw[hl]at h;cases h
   |some p=>
    rw[hl]at h
    obtain⟨p1,p2⟩:=p
    simp only[Option.map_some,Option.some.injEq,Prod.mk.injEq]at h
    obtain⟨rfl,rfl⟩:=h
    rw[List.set_cons_succ,iA,iA,GA hl]
    by_cases hu:u=x/\z=y
    ·rw[if_pos hu,if_neg (by rw[hu.1,hu.2];exact hq),if_pos hu]
    ·rw[if_neg hu,if_neg hu]
theorem GB{x y v:Int}:∀{eZ:List ((Int×Int)×Int)},rD eZ x y=none->∀u z,rD (eZ++[((x,y),v)]) u z=if u=x/\z=y then some v else rD eZ u z
 |[],_=>fun u z=>by
  rw[List.nil_append,iA]
 |q::l,h=>fun u z=>by
  rw[iA]at h
  split at h
  ·cases h
  ·rename_i hq
   rw[List.cons_append,iA,iA,GB h]
   by_cases hu:u=x/\z=y
   ·rw[if_pos hu,if_neg (by rw[hu.1,hu.2];exact hq),if_pos hu]
   ·rw[if_neg hu,if_neg hu]
def zH(eZ:List ((Int×Int)×Int))(A B C:Nat):Prop:=∀x y,rD eZ x y=if fS x/\fS y/\A.testBit (bJ x y)=true then some (ks B C (bJ x y):Int)else none
theorem KZ{x y:Int}(hx:fS x)(hy:fS y):bJ x y<14641:=by
 unfold bJ fS at*
 omega
theorem zH.first(k:Nat):zH [] 0 (mS (k.testBit 0)) (mS (k.testBit 1)):=fun x y=>by
 rw[Nat.zero_testBit,if_neg (by simp)]
 rfl
theorem zH.set{eZ:List ((Int×Int)×Int)}{A B C:Nat}(R:zH eZ A B C){x y:Int}(hx:fS x)(hy:fS y){j:Nat}{r:Int}(hf:gF eZ x y=some (j,r)):zH (eZ.set j ((x,y),(((ks B C (bJ x y)+1)%4:Nat):Int))) A (B^^^2^bJ x y) (bif B.testBit (bJ x y)then C^^^2^bJ x y else C):=fun u z=>by
 rw[GA hf,R u z]
 have hA:A.testBit (bJ x y)=true:=by
  have:=R x y
  unfold rD at this
  rw[hf]at this
  by_cases hb:A.testBit (bJ x y)=true
  ·exact hb
  ·rw[if_neg (fun h=>hb h.2.2)]at this;cases this
 rw[u5]
 by_cases hu:u=x/\z=y
 ·obtain⟨rfl,rfl⟩:=hu
  rw[if_pos ⟨rfl,rfl⟩,if_pos ⟨hx,hy,hA⟩,if_pos rfl]
 ·rw[if_neg hu]
  by_cases hh:fS u/\fS z/\A.testBit (bJ u z)=true
  ·rw[if_pos hh,if_pos hh,if_neg (fun e=>hu (BK hh.1 hh.2.1 hx hy e))]
  ·rw[if_neg hh,if_neg hh]
def nV(k A B C:Nat):Prop:=∀i,i<14641->A.testBit i=false->ks B C i=k
theorem nV.first{k:Nat}(hk:k<4):nV k 0 (mS (k.testBit 0)) (mS (k.testBit 1)):=fun _ h _=>Gx hk h
theorem nV.step{k A B C i:Nat}(R:nV k A B C)(hA:A.testBit i=true):nV k A (B^^^2^i) (bif B.testBit i then C^^^2^i else C):=fun j hj h=>by
 rw[u5,if_neg (fun e=>by rw[e,hA]at h;cases h)]
 exact R j hj h
theorem nV.grow{k A B C i:Nat}(R:nV k A B C):nV k (A^^^2^i) B C\/A.testBit i=true:=by
 by_cases hA:A.testBit i=true
 ·exact .inr hA
 ·refine .inl fun j hj h=>R j hj ?_
  rw[k9]at h
  split at h
  ·rename_i e;rw[e]at h;simp[hA]at h
  ·exact h
theorem zH.new{eZ:List ((Int×Int)×Int)}{A B C k:Nat}(R:zH eZ A B C)(R2:nV k A B C){x y:Int}(hx:fS x)(hy:fS y)(hA:A.testBit (bJ x y)=false):rD eZ x y=none/\zH (eZ++[((x,y),(k:Int))]) (A^^^2^bJ x y) B C:=by
 have hn:rD eZ x y=none:=by rw[R x y,if_neg (fun h=>by rw[hA]at h;cases h.2.2)]
 refine⟨hn,fun u z=> ?_⟩
 rw[GB hn,R u z,k9]
 by_cases hu:u=x/\z=y
 ·obtain⟨rfl,rfl⟩:=hu
  rw[if_pos ⟨rfl,rfl⟩,if_pos ⟨hx,hy,by simp[hA]⟩,R2 _ (KZ hx hy) hA]
 ·rw[if_neg hu]
  by_cases hf:fS u/\fS z
  ·rw[if_neg (c:=bJ u z=bJ x y) (fun e=>hu (BK hf.1 hf.2 hx hy e))]
  ·rw[if_neg (fun h=>hf ⟨h.1,h.2.1⟩),if_neg (fun h=>hf ⟨h.1,h.2.1⟩)]
theorem tq{x y:Int}(hx:fS x)(hy:fS y):((bJ x y:Nat):Int)/121-60=x/\((bJ x y:Nat):Int)%121-60=y:=by
 unfold bJ fS at*
 omega
def iV(l:List Nat):List Value:=(l.map fun i:Nat=>[VI ((i:Int)/121-60),VI ((i:Int)%121-60)]).flatten
theorem nM:∀l:List Nat,(iV l).length=l.length*2
 |[]=>rfl
 |i::l=>by
  have:=nM l
  unfold iV at*
  simp only[List.map_cons,List.flatten_cons,List.length_append,List.length_cons,List.length_nil,this]
  omega
theorem GC(l:List Nat)(i:Nat):iV (l++[i])=iV l++[VI ((i:Int)/121-60),VI ((i:Int)%121-60)]:=by
 unfold iV
 rw[List.map_append,List.flatten_append]
 simp
theorem zI:∀{l:List Nat}{j:Nat}(h:j<l.length),(iV l)[j*2]?=some (VI ((l[j]:Int)/121-60))/\(iV l)[j*2+1]?=some (VI ((l[j]:Int)%121-60))
 |i::l,0,h=>⟨rfl,rfl⟩
 |i::l,j+1,h=>by
  have:=zI (l:=l) (j:=j) (by simpa using h)
  have e:iV (i::l)=VI ((i:Int)/121-60)::VI ((i:Int)%121-60)::iV l:=rfl
  rw[e,show(j+1)*2=j*2+1+1 by omega,show j*2+1+1+1=(j*2+1)+1+1 by omega]
  simp only[List.getElem?_cons_succ,List.getElem_cons_succ]
  exact this
def Vl(P:Program)(kt:TypeId):Bool:=match P.underlying kt with
 |some (.struct fs)=>match fs.toList with
  |[f0,f1]=>(match P.underlying f0.type with|some (.int .i64)=>true|_=>false)&&(match P.underlying f1.type with|some (.int .i64)=>true|_=>false)&& !(f0.name== "_")&& !(f1.name== "_")&&Nat.beq f0.offset 0&&Nat.beq f1.offset 1&& !P.stoodInHeld kt
  |_=>false
 |_=>false
theorem Jq{P:Program}{kt:TypeId}(h:Vl P kt=true):∃f0 f1,nL P kt f0 f1:=by
 unfold Vl at h
 split at h
 ·rename_i fs hu
  split at h
  ·rename_i f0 f1 hf
   simp only[Bool.and_eq_true,Bool.not_eq_true']at h
   obtain⟨⟨⟨⟨⟨⟨h1,h2⟩,h3⟩,h4⟩,h5⟩,h6⟩,h7⟩:=h
   refine⟨f0,f1,?_,?_,?_,by simpa using h3,by simpa using h4,Nat.eq_of_beq_eq_true h5,Nat.eq_of_beq_eq_true h6,h7⟩
   ·rw[hu]
    congr 2
    apply Array.ext'
    exact hf
   ·split at h1
    ·assumption
    ·cases h1
   ·split at h2
    ·assumption
    ·cases h2
  ·cases h
 ·cases h
@[reducible] def tCe:TypeId:=220
@[reducible] def akM:TypeId:=222
@[reducible] def tCm:TypeId:=221
theorem adB:ni Tryz.prog akM=some (tCe,2,16,[VI 0,VI 0]):=by kernel_rfl
theorem aaB:∃f0 f1,nL Tryz.prog tCe f0 f1:=Jq (by kernel_rfl)
theorem aaC{x y:Int}{r:Nat}(hx:fS x)(hy:fS y)(hr:r<4){h:Heap}(K:Value->Heap->Prop)(HK:∀h',Fr No h h'->K (.agg #[VI (mvX x r),VI (mvY y r)]) h'):aE Tryz.prog 265 #[.agg #[VI x,VI y],VI r] h K:=by
 unfold fS at hx hy
 refine aiF x y r h K ⟨fun e b1 b2 h3 _ _ f3 _=> ?_,fun e=>⟨fun e2 b1 b2 h3 _ _ f3 _=> ?_,fun e2=>⟨fun e3 b1 b2 h3 _ _ f3 _=> ?_,fun e3 b1 b2 h3 _ _ f3 _=> ?_⟩⟩⟩
 ·simp only[decide_eq_true_eq]at e
  rw[aH _ (by omega) (by omega)]
  have:=HK h3 f3.aF
  rw[e]at this
  exact this
 ·simp only[decide_eq_true_eq]at e2
  rw[aH _ (by omega) (by omega)]
  have:=HK h3 f3.aF
  rw[e2]at this
  exact this
 ·simp only[decide_eq_true_eq]at e3
  rw[aH _ (by omega) (by omega)]
  have:=HK h3 f3.aF
  rw[e3]at this
  exact this
 ·simp only[decide_eq_false_iff_not]at e e2 e3
  rw[aH _ (by omega) (by omega)]
  have:=HK h3 f3.aF
  have e5:(r:Int)=3:=by omega
  rw[e5]at this
  exact this
set_option maxHeartbeats 4000000 in
theorem aaD{N k:Nat}(hN:N<=250)(hk:k<4){h:Heap}(K:Value->Heap->Prop)
 (HK:∀b1 m s st h' A B C l,eY k N=some (A,B,C,l)->Vars h' [(b1,[.map m,Sl.v s,VI st])]->Ow h' (fun q=>h.size<=q) tCe 2 s (iV l)->Fr No h h'->K (VP b1 0) h'):aE Tryz.prog 264 #[VI N,VI k,VI 4,.func (.func 265) #[] #[]] h K:=by
 obtain⟨c0,c1,CT⟩:=aaB
 have hm:Tryz.prog.underlying tCm=some (.map tCe tI):=by kernel_rfl
 have hz:oE Tryz.prog tI=some (VI 0):=by kernel_rfl
 refine aiD N k 4 _ h K (D5 fun h1 M1 f1 z1=>⟨some h.size,rfl,.nil,fun b1 h2 dM f2 bP=> ?_⟩)
 have f2:=f2.aF
 have z2:=f2.size
 have l1:b1<h2.size:=bP.head.lt
 have M2:=M1.fr f2 fun h=>h
 refine⟨fun n t x1 x2 x3 h'=>∃(j A B C:Nat)(l:List Nat)(eZ:List ((Int×Int)×Int)),t=j/\n+j=N/\eY k j=some (A,B,C,l)/\x1=some h.size/\tm h' h.size eZ/\zH eZ A B C/\nV k A B C/\Ow h' (fun q=>h.size<q/\q≠b1) tCe 2 x2 (iV l)/\Fr (fun q=>h.size<=q) h h',
  ⟨N,0,_,_,_,_,[],rfl,by omega,rfl,rfl,M2,zH.first k,nV.first hk,Ow.nil _ _ _ _,(f1.aA f2).aB⟩,?_⟩
 rintro n t _ x2 x3 h3 ⟨j,A,B,C,l,eZ,rfl,hn,hc,rfl,M3,R3,T3,O3,F3⟩ cF
 have z3:=F3.size
 have l3:b1<h3.size:=cF.head.lt
 have ll:=ik hc
 refine⟨fun e=> ?_,fun e=> ?_⟩
 ·simp only[decide_eq_true_eq]at e
  intro b2 h5 dE f5 ic
  have f5:=f5.aF
  have z5:=f5.size
  obtain⟨A',B',C',l',QN⟩:=lI (k:=k) (n:=j+1) hk (by omega)
  obtain⟨i9,hw,rfl,rfl⟩:=lJ hc QN
  have hM:tm h5 h.size eZ:=M3.fr f5 fun h=>h
  refine⟨fun m x y x6 x7 x8 h'=>∃(B2 C2:Nat)(eZ:List ((Int×Int)×Int)),nU m A B2 C2 (bJ x y)=some (i9,B',C')/\fS x/\fS y/\x6=some h.size/\x7=x2/\tm h' h.size eZ/\zH eZ A B2 C2/\nV k A B2 C2/\Ow h' (fun q=>h.size<q/\q≠b1) tCe 2 x2 (iV l)/\b2<h'.size/\Fr (fun q=>h.size<=q) h h',
   ⟨1000,B,C,eZ,hw,by decide,by decide,rfl,rfl,hM,R3,T3,Ow.no O3 f5,ic.head.lt,F3.trans f5.aB⟩,?_⟩
  rintro m x y _ x7 x8 h6 ⟨B2,C2,Uo,hw2,hx,hy,rfl,rfl,M6,R6,T6,O6,l6,F6⟩ iN
  have v6:=R6 x y
  have Up:∀{X Y:Heap},Fr (In [h.size]) X Y->∀p,p∈[(b2,[VI x,VI y]),(b1,[Value.map (some h.size),x7.v,VI x8])]->¬In [h.size] p.1:=fun _ p hp hk=>by
   simp only[In,List.mem_singleton]at hk
   simp only[List.mem_cons,List.not_mem_nil,or_false]at hp
   rcases hp with rfl|rfl
   ·simp only at hk;omega
   ·simp only at hk;omega
  have z6:=F6.size
  refine Gz CT hm hz M6 ⟨_,_,rfl,fun e2=> ?_,fun e2=> ?_⟩
  ·have hf:gF Uo x y=none:=by simpa using e2
   have hA:A.testBit (bJ x y)=false:=by
    unfold rD at v6
    rw[hf]at v6
    cases hb:A.testBit (bJ x y)with
    |false=>rfl
    |true=>rw[if_pos ⟨hx,hy,hb⟩]at v6;cases v6
   have hR:=u6 hw2 hA
   simp only[Prod.mk.injEq]at hR
   obtain⟨rfl,rfl,rfl⟩:=hR
   obtain⟨_,R7⟩:=R6.new T6 hx hy hA
   refine Qh CT hm M6 hf fun u h7 M7 f7=>⟨iN.fr f7 (Up f7),?_⟩
   have z7:=f7.size
   have j8:=iN.fr f7 (Up f7)
   have O7:=Ow.fr O6 f7 fun q hq gN=>by have:=(O6.aG hq).1.1;simp only[In,List.mem_singleton]at gN;omega
   refine aS adB (fun q=>h7.size<=q) (fun _ h=>h) 1 (by omega) [VI x,VI y] rfl rfl fun s h8 n8 c8 o8 f8 m8 _=>⟨s,rfl,j8.aB f8,?_⟩
   have z8:=f8.size
   have l7:b1<h8.size:=(j8.aB f8).tail.head.lt
   have sl:x7.n=l.length:=by have:=O7.rd.len;rw[nM]at this;omega
   refine bQ adB (Ow.no O7 f8) (fun q hq=>⟨by omega,by omega⟩) o8.rd rfl (by omega) fun t9 h9 n9 o9 f9 w9=> ?_
   have akN:∀p,p∈[(b2,[VI x,VI y]),(b1,[Value.map (some h.size),x7.v,VI x8])]->¬x7.own p.1:=fun p hp hk=>by
    simp only[List.mem_cons,List.not_mem_nil,or_false]at hp
    rcases hp with rfl|rfl
    ·have:=(O3.aG hk).2;simp only at this;omega
    ·exact(O7.aG hk).1.2 rfl
   refine⟨t9,rfl,(j8.aB f8).fr f9 akN,fun dY f10 dP=> ?_⟩
   have z9:=f9.size
   have mo:∀{q:Nat},In [b1] q->h.size<q:=fun hq=>by simp only[In,List.mem_singleton]at hq;omega
   have M10:=((M7.fr f8 fun h=>h).fr f9 fun hq=>by have:=(O7.aG hq).1.1;omega).fr f10 fun hq=>by have:=mo hq;omega
   refine⟨n-1,by omega,j+1,_,_,_,_,_,?_,by omega,QN,rfl,M10,R7,?_,?_,?_⟩
   ·rw[aH _ (by omega) (by omega)];omega
   ·rcases T6.grow (i:=bJ x y)with hh|hh
    ·exact hh
    ·rw[hA]at hh;cases hh
   ·rw[GC,(tq hx hy).1,(tq hx hy).2]
    exact Ow.fr o9 f10 fun q hq gN=>by simp only[In,List.mem_singleton]at gN;exact(o9.aG hq).1.2 gN
   ·refine(((F6.trans (f7.mono fun q _ hq=>by simp only[In,List.mem_singleton]at hq;omega)).trans f8.aB).trans (f9.mono fun q _ hq=>by have:=(O7.aG hq).1.1;omega)).trans (f10.mono fun q _ hq=>by have:=mo hq;omega)
  ·obtain⟨p,hf⟩:∃p,gF Uo x y=some p:=by
    cases hf:gF Uo x y with
    |none=>rw[hf]at e2;cases e2
    |some p=>exact⟨p,rfl⟩
   obtain⟨jj,rr⟩:=p
   have hA:A.testBit (bJ x y)=true:=by
    unfold rD at v6
    rw[hf]at v6
    cases hb:A.testBit (bJ x y)with
    |true=>rfl
    |false=>rw[if_neg (fun h=>by rw[hb]at h;cases h.2.2)]at v6;cases v6
   have hrr:rr=(ks B2 C2 (bJ x y):Int):=by
    unfold rD at v6
    rw[hf,if_pos ⟨hx,hy,hA⟩]at v6
    exact Option.some.inj v6
   subst hrr
   obtain⟨hi,m',rfl,hw3⟩:=rC hw2 hA
   have rO:=KY B2 C2 (bJ x y)
   have et:Int.tmod (aL (((Option.map (fun p:Nat×Int=>p.2) (gF Uo x y)).getD 0)+1)) 4=(((ks B2 C2 (bJ x y)+1)%4:Nat):Int):=by
    rw[hf]
    simp only[Option.map_some,Option.getD_some]
    rw[aH _ (by omega) (by omega),Int.tmod_eq_emod_of_nonneg (by omega)]
    omega
   rw[et]
   obtain⟨g1,g2,g3⟩:=Gy (r:=(ks B2 C2 (bJ x y)+1)%4) hx hy rfl hi (by omega)
   refine⟨by omega,Qg CT hm M6 hf fun u h7 M7 f7=>⟨iN.fr f7 (Up f7),?_⟩⟩
   have z7:=f7.size
   have j8:=iN.fr f7 (Up f7)
   have O7:=Ow.fr O6 f7 fun q hq gN=>by have:=(O6.aG hq).1.1;simp only[In,List.mem_singleton]at gN;omega
   refine aaC hx hy (by omega) _ fun h8 f8=>⟨_,_,rfl,j8.aB f8,fun dY f10 dP=>⟨m',by omega,_,_,_,by rw[g3];exact hw3,g1,g2,rfl,rfl,?_,R6.set hx hy hf,T6.step hA,?_,dP.head.lt,?_⟩⟩
   ·exact(M7.fr f8 fun h=>h).fr f10 fun hq=>by simp only[In,List.mem_cons,List.not_mem_nil,or_false]at hq;omega
   ·refine Ow.fr (Ow.no O7 f8) f10 fun q hq gN=> ?_
    simp only[In,List.mem_cons,List.not_mem_nil,or_false]at gN
    have h1:=(O3.aG hq)
    rcases gN with rfl|rfl
    ·exact h1.1.2 rfl
    ·have:=h1.2;omega
   ·exact((F6.trans (f7.mono fun q _ hq=>by simp only[In,List.mem_singleton]at hq;omega)).trans f8.aB).trans (f10.mono fun q _ hq=>by simp only[In,List.mem_cons,List.not_mem_nil,or_false]at hq;omega)
 ·simp only[decide_eq_false_iff_not]at e
  have:j=N:=by omega
  subst this
  exact HK b1 _ x2 x3 h3 A B C l hc cF (O3.mono fun q _ hq=>by omega) (F3.mono fun q hq gN=>absurd gN (by omega))
theorem Uq{h:Heap}(n k:Int)(K:Value->Heap->Prop)(HN:¬(0<=n/\n<=250/\0<=k/\k<=3)->K (.tuple #[.pointer none,VB false]) h)
 (HY:0<=n/\n<=250/\0<=k/\k<=3->∀b1 m s st h' A B C l,eY k.toNat n.toNat=some (A,B,C,l)->Vars h' [(b1,[.map m,Sl.v s,VI st])]->Ow h' (fun q=>h.size<=q) tCe 2 s (iV l)->Fr No h h'->K (.tuple #[VP b1 0,VB true]) h'):aE Tryz.prog 220 #[VI n,VI k] h K:=by
 refine ahQ n k h K (eO _ _ _ h _ ⟨_,rfl,.nil,fun e=>HN fun hh=> ?_,fun e=> ?_⟩)
 ·simp at e;omega
 have e:0<=n/\n<=250:=by simpa using e
 refine eO _ _ _ h _ ⟨_,rfl,.nil,fun e2=>HN fun hh=> ?_,fun e2=> ?_⟩
 ·simp at e2;omega
 have e2:0<=k/\k<=3:=by simpa using e2
 replace HY:=HY ⟨e.1,e.2,e2⟩
 obtain⟨N,rfl⟩:∃N:Nat,n=N:=⟨n.toNat,by omega⟩
 obtain⟨k,rfl⟩:∃k':Nat,k=k':=⟨k.toNat,by omega⟩
 refine aaD (by omega) (by omega) _ fun b1 m s st h' A B C l hc V O f=>⟨some ⟨b1,0,none⟩,rfl,.nil,HY b1 m s st h' A B C l hc V O f⟩
theorem BL{N k A B C:Nat}{l:List Nat}(hN:1<=N/\N<=250)(hk:k<4)(hc:eY k N=some (A,B,C,l)):∃h:N-1<l.length,pE N k=([((l[N-1]:Nat):Int)/121-60,((l[N-1]:Nat):Int)%121-60],true):=by
 have ll:=ik hc
 refine⟨by omega,?_⟩
 unfold pE
 rw[if_pos (by omega),Int.toNat_natCast,Int.toNat_natCast,hc]
 have:l.getLastD 0=l[N-1]'(by omega):=by
  have e1:l.getLast?=some (l[N-1]'(by omega)):=by
   rw[List.getLast?_eq_getElem?,show l.length-1=N-1 by omega]
   exact List.getElem?_eq_getElem _
  rw[List.getLastD_eq_getLast?,e1]
  rfl
 simp only[this]
theorem Ea{h:Heap}(n k:Int)(K:Value->Heap->Prop)(HK:∀t h',bK h' (fun q=>h.size<=q) t (pE n k).1->Fr No h h'->K (.tuple #[t.v,VB (pE n k).2]) h'):aE Tryz.prog 170 #[VI n,VI k] h K:=by
 have no:¬(1<=n/\n<=250/\0<=k/\k<=3)->∀h',Fr No h h'->K (.tuple #[aC.v,VB false]) h':=fun hn h' f=>by
  unfold pE at HK
  rw[if_neg hn]at HK
  exact HK aC h' (Ow.nil _ _ _ _) f
 refine agH n k h K (Uq n k _ (fun hn=>⟨none,false,rfl,.nil,fun _=>no (fun h=>hn (by omega)) h (Fr.refl _ _),fun e=>by cases e⟩) fun hy b1 m s st h1 A B C l hc V O f1=>⟨some ⟨b1,0,none⟩,true,rfl,.nil,fun e=>(by cases e),fun _=>⟨fun e=> ?_,fun e=> ?_⟩⟩)
 ·simp only[decide_eq_true_eq]at e
  exact no (by omega) h1 f1
 ·simp only[decide_eq_false_iff_not]at e
  obtain⟨N,rfl⟩:∃N:Nat,n=N:=⟨n.toNat,by omega⟩
  obtain⟨k,rfl⟩:∃k':Nat,k=k':=⟨k.toNat,by omega⟩
  rw[Int.toNat_natCast,Int.toNat_natCast]at hc
  obtain⟨hl,eg⟩:=BL (by omega) (by omega) hc
  have sl:s.n=l.length:=by have:=O.rd.len;rw[nM]at this;omega
  have ll:=ik hc
  rw[aH _ (by omega) (by omega)]
  have ei:(((N:Int)-1)).toNat=N-1:=by omega
  rw[eg]at HK
  obtain⟨q1,q2⟩:=zI hl
  have z1:=f1.size
  refine⟨b1,m,s,st,rfl,V,O.bB (by omega) (by omega),((l[N-1]:Nat):Int)/121-60,((l[N-1]:Nat):Int)%121-60,?_,fun b2 h3 dE f3 cF=> ?_⟩
  ·obtain⟨g,o,j6,ha,_,_,Ry,_⟩:=O.B5 (i:=(N:Int)-1) (by omega) (by omega)
   have cl:=nM l
   have cell:∀j v,(iV l)[j]?=some v->aQ h1 (⟨g,o+j,none⟩:Addr)=some v:=fun j v hv=>by
    obtain⟨hj,e1⟩:=List.getElem?_eq_some_iff.1 hv
    obtain⟨a,h1,_,h2⟩:=O.rd.cell j hj
    rw[ha]at h1
    have h1:=Option.some.inj h1
    subst h1
    rw[gz]at h2
    rw[h2,e1]
   intro j hj
   rw[Ry,ei,gz,Nat.add_assoc]
   rcases(by simp at hj;omega:j=0\/j=1)with rfl|rfl
   ·exact cell _ _ q1
   ·exact cell _ _ q2
  ·refine aS fL (fun q=>h3.size<=q) (fun _ h=>h) 2 (by omega) [VI (((l[N-1]:Nat):Int)/121-60),VI (((l[N-1]:Nat):Int)%121-60)] rfl rfl fun t h4 n4 c4 o4 f4 m4 _=>⟨t,rfl,cF.aB f4,?_⟩
   have z3:=f3.aF.size
   exact HK t h4 (by show Ow _ _ _ _ _ _;exact o4.mono fun q _ hq=>by omega) ((f1.aA f3.aF).aA f4)
theorem Jr{x y:Int}(hx:fS x)(hy:fS y){h:Heap}(K:Value->Heap->Prop)(HK:K (VI (bJ x y:Nat)) h):aE Tryz.prog 241 #[VI x,VI y] h K:=by
 refine aih x y h K ?_
 unfold ab2 pk
 unfold fS at hx hy
 rw[aH (x+60) (by omega) (by omega),aH ((x+60)*121) (by omega) (by omega),aH ((x+60)*121+y) (by omega) (by omega),aH _ (by omega) (by omega)]
 have e:((bJ x y:Nat):Int)=(x+60)*121+y+60:=by unfold bJ;omega
 rw[<-e]
 exact HK
theorem Qi{x y:Int}{r:Nat}(hx:fS x)(hy:fS y)(hr:r<4){h:Heap}(K:Value->Heap->Prop)(HK:K (.tuple #[VI (mvX x r),VI (mvY y r)]) h):aE Tryz.prog 242 #[VI x,VI y,VI r] h K:=by
 unfold fS at hx hy
 refine aij x y r h K ⟨fun e=> ?_,fun e=>⟨fun e2=> ?_,fun e2=>⟨fun e3=> ?_,fun e3=> ?_⟩⟩⟩
 ·simp only[decide_eq_true_eq]at e
  rw[aH _ (by omega) (by omega)]
  rw[e]at HK
  exact HK
 ·simp only[decide_eq_true_eq]at e2
  rw[aH _ (by omega) (by omega)]
  rw[e2]at HK
  exact HK
 ·simp only[decide_eq_true_eq]at e3
  rw[aH _ (by omega) (by omega)]
  rw[e3]at HK
  exact HK
 ·simp only[decide_eq_false_iff_not]at e e2 e3
  rw[aH _ (by omega) (by omega)]
  have e5:(r:Int)=3:=by omega
  rw[e5]at HK
  exact HK
def nW(l:List Nat):List (List Int):=l.map fun i:Nat=>[(i:Int)/121-60,(i:Int)%121-60]
theorem Js(l:List Nat)(i:Nat):nW (l++[i])=nW l++[[(i:Int)/121-60,(i:Int)%121-60]]:=by simp[nW]
def GrL(gl:List Bool)(A:Nat):Prop:=gl.length=14641/\∀j,j<14641->gl.getD j false=A.testBit j
def RoL(rl:List Int)(B C:Nat):Prop:=rl.length=14641/\∀j,j<14641->rl.getD j 0=(ks B C j:Int)
theorem u7{α:Type}{l:List α}{i j:Nat}{v d:α}(hi:i<l.length):(l.set i v).getD j d=if j=i then v else l.getD j d:=by
 rw[List.getD_eq_getElem?_getD,List.getD_eq_getElem?_getD,List.getElem?_set]
 by_cases h:i=j
 ·subst h;rw[if_pos rfl,if_pos hi,if_pos rfl,Option.getD_some]
 ·rw[if_neg h,if_neg (fun e=>h e.symm)]
theorem GrL.grow{gl:List Bool}{A i:Nat}(G:GrL gl A)(hi:i<14641)(hA:A.testBit i=false):GrL (gl.set i true) (A^^^2^i):=⟨by rw[List.length_set];exact G.1,fun j hj=>by
 rw[u7 (by rw[G.1];exact hi),k9]
 by_cases h:j=i
 ·subst h;rw[if_pos rfl,if_pos rfl,hA];rfl
 ·rw[if_neg h,if_neg h];exact G.2 j hj⟩
theorem RoL.turn{rl:List Int}{B C i:Nat}(R:RoL rl B C)(hi:i<14641):RoL (rl.set i (((ks B C i+1)%4:Nat):Int)) (B^^^2^i) (bif B.testBit i then C^^^2^i else C):=⟨by rw[List.length_set];exact R.1,fun j hj=>by
 rw[u7 (by rw[R.1];exact hi),u5]
 by_cases h:j=i
 ·rw[if_pos h,if_pos h]
 ·rw[if_neg h,if_neg h];exact R.2 j hj⟩
theorem GD{h:Heap}{n:Int}{m:Nat}(e:n=m)(hm:m<=100000){K:Value->Heap->Prop}(HK:∀x h',Ow h' (fun k=>h.size<=k) tB 1 x ((List.replicate m false).map VB)->Fr No h h'->K x.v h'):kE Tryz.prog (Instr.makeSlice tBs (VI n) (VI n)) h K:=by
 subst e
 refine dK rBs (fun k=>_<=k) (fun _ h=>h) .i64 .i64 m m (Nat.le_refl _) (by omega) fun t h2 n2 c2 o2 f2 m2 _=>HK t h2 ?_ f2
 have e:(List.replicate m [VB false]).flatten=(List.replicate m false).map VB:=by simp[List.flatten_replicate_singleton]
 rw[e]at o2;exact o2
set_option maxHeartbeats 8000000 in
theorem aaE{N k:Nat}(hN:N<=250)(hk:k<4){h:Heap}(K:Value->Heap->Prop)
 (HK:∀b1 x1 x2 x3 st h' A B C l,eY k N=some (A,B,C,l)->Vars h' [(b1,[Sl.v x1,Sl.v x2,Sl.v x3,VI st])]->fM h' (fun q=>h.size<=q) x3 (nW l)->Fr No h h'->K (VP b1 0) h'):aE Tryz.prog 193 #[VI N,VI k] h K:=by
 refine v193 N k h K ⟨fun b1 x1 x2 x3 x4 h'=>x3=aC/\Ow h' (fun q=>h.size<=q/\q<b1) tB 1 x1 ((List.replicate 14641 false).map VB)/\bK h' (fun q=>h.size<=q/\q<b1) x2 (List.replicate 14641 0)/\Dj x1 x2/\Fr No h h'/\h.size<=b1,?_,?_⟩
 ·refine⟨GD (m:=14641) rfl (by omega) fun g h1 o1 f1=>⟨g,rfl,.nil,iT (m:=14641) rfl (by omega) fun r h2 o2 f2=>⟨r,rfl,.nil,fun b1 h3 hb f3 hL=> ?_⟩⟩,iT (m:=14641) rfl (by omega) fun r h1 o1 f1=>⟨r,rfl,.nil,GD (m:=14641) rfl (by omega) fun g h2 o2 f2=>⟨g,rfl,.nil,fun b1 h3 hb f3 hL=> ?_⟩⟩⟩
  ·have f3:=f3.aF
   have z1:=f1.size
   have z2:=f2.size
   refine⟨rfl,(Ow.no (Ow.no o1 f2) f3).mono fun q hq _=>⟨(o1.aG hq).1,by have:=(o1.aG hq).2;omega⟩,(Ow.no o2 f3).mono fun q hq _=>⟨by have:=(o2.aG hq).1;omega,by have:=(o2.aG hq).2;omega⟩,fun q hq gN=>by have:=(o1.aG hq).2;have:=(o2.aG gN).1;omega,(f1.aA f2).aA f3,by omega⟩
  ·have f3:=f3.aF
   have z1:=f1.size
   have z2:=f2.size
   refine⟨rfl,(Ow.no o2 f3).mono fun q hq _=>⟨by have:=(o2.aG hq).1;omega,by have:=(o2.aG hq).2;omega⟩,(Ow.no (Ow.no o1 f2) f3).mono fun q hq _=>⟨(o1.aG hq).1,by have:=(o1.aG hq).2;omega⟩,fun q hq gN=>by have:=(o2.aG hq).1;have:=(o1.aG gN).2;omega,(f1.aA f2).aA f3,by omega⟩
 rintro b1 g r _ x4 h7 ⟨rfl,G7,R7,dj,F7,hb⟩ j8
 have rn:r.n=14641:=by have:=R7.rd.len;rw[List.length_map,List.length_replicate]at this;omega
 have gb:¬g.own b1:=fun hk=>by have:=(G7.aG hk).1.2;omega
 have rb:¬r.own b1:=fun hk=>by have:=(R7.aG hk).1.2;omega
 have lb7:=j8.head.lt
 refine⟨fun m i h'=>∃rl:List Int,0<=i/\i+m=14641/\rl.length=14641/\(∀j,j<i.toNat->rl.getD j 0=(k:Int))/\bK h' (fun q=>h.size<=q/\q<b1) r rl/\Ow h' (fun q=>h.size<=q/\q<b1) tB 1 g ((List.replicate 14641 false).map VB)/\Fr (fun q=>h.size<=q) h h',⟨14641,_,by omega,by omega,List.length_replicate,fun j hj=>absurd hj (by simp),R7,G7,F7.aB⟩,?_⟩
 rintro m i h8 ⟨rl,i0,i1,i2,i3,R8,G8,F8⟩ fO
 refine⟨fun e=> ?_,fun e=> ?_⟩
 ·simp only[decide_eq_true_eq]at e
  obtain⟨w1,w2,w3⟩:=R8.eH i0 e (VI k)
  refine⟨R8.bB i0 e,w1,gM fO w3 rb,fun h9 e9 gh=>⟨m-1,by omega,rl.set i.toNat k,?_,?_,by rw[List.length_set];exact i2,fun j hj=> ?_,?_,?_,?_⟩⟩
  ·rw[aH _ (by omega) (by omega)];omega
  ·rw[aH _ (by omega) (by omega)];omega
  ·rw[aH _ (by omega) (by omega)]at hj
   rw[u7 (by omega)]
   split
   ·rfl
   ·exact i3 j (by omega)
  ·subst e9;show Ow _ _ _ _ _ _;rw[List.map_set];exact w2
  ·subst e9;exact Ow.fr G8 w3 fun q hq gN=>dj q hq gN
  ·subst e9;exact F8.trans (w3.mono fun q _ hq=>(R8.aG hq).1.1)
 simp only[decide_eq_false_iff_not]at e
 have hR0:RoL rl (mS (k.testBit 0)) (mS (k.testBit 1)):=⟨i2,fun j hj=>by rw[i3 j (by omega),Gx hk hj]⟩
 have hG0:GrL (List.replicate 14641 false) 0:=⟨List.length_replicate,fun j hj=>by rw[Nat.zero_testBit,List.getD_eq_getElem?_getD,List.getElem?_replicate];split<;>rfl⟩
 refine⟨fun n n0 y5 y6 y7 y8 h'=>∃(j A B C:Nat)(l:List Nat)(gl:List Bool)(rl:List Int),n0=(N:Int)-j/\n+j=N/\eY k j=some (A,B,C,l)/\y5=g/\y6=r/\GrL gl A/\RoL rl B C/\bK h' (fun q=>h.size<=q/\q<b1) r rl/\Ow h' (fun q=>h.size<=q/\q<b1) tB 1 g (gl.map VB)/\fM h' (fun q=>b1+1<=q) y7 (nW l)/\Fr (fun q=>h.size<=q) h h',
  ⟨N,0,0,mS (k.testBit 0),mS (k.testBit 1),[],_,_,(Int.sub_zero _).symm,Nat.add_zero _,rfl,rfl,rfl,hG0,hR0,R8,G8,dD.nil _ _ _ _,F8⟩,?_⟩
 rintro n _ y5 y6 y7 y8 dY ⟨j,A,B,C,l,gl,rl,rfl,hn,hc,rfl,rfl,hG,hR,R10,Hh,X10,og⟩ dP
 have ll:=ik hc
 refine⟨fun e2=> ?_,fun e2=> ?_⟩
 ·simp only[decide_eq_true_eq]at e2
  obtain⟨A',B',C',l',QN⟩:=lI (k:=k) (n:=j+1) hk (by omega)
  obtain⟨i9,hw,rfl,rfl⟩:=lJ hc QN
  refine⟨fun m x y z9 Ad Se z12 h'=>∃(B2 C2:Nat)(rl:List Int),nU m A B2 C2 (bJ x y)=some (i9,B',C')/\fS x/\fS y/\z9=y5/\Ad=y6/\Se=y7/\RoL rl B2 C2/\bK h' (fun q=>h.size<=q/\q<b1) y6 rl/\Ow h' (fun q=>h.size<=q/\q<b1) tB 1 y5 (gl.map VB)/\fM h' (fun q=>b1+1<=q) y7 (nW l)/\Fr (fun q=>h.size<=q) h h',
   ⟨1000,B,C,rl,hw,by decide,by decide,rfl,rfl,rfl,hR,R10,Hh,X10,og⟩,?_⟩
  rintro m x y z9 Ad Se z12 ie ⟨B2,C2,rl2,hw2,hx,hy,rfl,rfl,rfl,hR2,SN,Ur,X11,F11⟩ jm
  have hi:=KZ hx hy
  have aqS:=F11.size
  have aqT:=jm.head.lt
  have gR:=Ur.rd
  have gi:((bJ x y:Nat):Int)<((gl.length:Nat):Int):=by rw[hG.1];omega
  have cg:=ai1 gR (i:=(bJ x y:Nat)) (by omega) gi
  have egl:gl[((bJ x y:Nat):Int).toNat]'(by rw[hG.1];omega)=A.testBit (bJ x y):=by
   have:=hG.2 _ hi
   rw[List.getD_eq_getElem?_getD,List.getElem?_eq_getElem (by rw[hG.1];exact hi),Option.getD_some]at this
   exact this
  rw[egl]at cg
  have adH:dW z9 ((bJ x y:Nat):Int):=cY.bB gR (by omega) (by rw[List.length_map];exact gi)
  refine Jr hx hy _ ⟨_,rfl,jm,adH,_,cg,fun e3=> ?_,fun e3=> ?_⟩
  ·obtain⟨VW,m',rfl,hw3⟩:=rC hw2 e3
   have rO:=KY B2 C2 (bJ x y)
   have rR:aP Ad.own ie Ad rl2:=SN.rd
   have ri:((bJ x y:Nat):Int)<(rl2.length:Int):=by rw[hR2.1];omega
   have cr:=rR.get (i:=(bJ x y:Nat)) (by omega) ri
   have erl:rl2[((bJ x y:Nat):Int).toNat]'(by rw[hR2.1];omega)=(ks B2 C2 (bJ x y):Int):=by
    have:=hR2.2 _ hi
    rw[List.getD_eq_getElem?_getD,List.getElem?_eq_getElem (by rw[hR2.1];exact hi),Option.getD_some]at this
    exact this
   rw[erl]at cr
   have et:Int.tmod (aL ((ks B2 C2 (bJ x y):Int)+1)) 4=(((ks B2 C2 (bJ x y)+1)%4:Nat):Int):=by
    rw[aH _ (by omega) (by omega),Int.tmod_eq_emod_of_nonneg (by omega)]
    omega
   have rnb:dW Ad ((bJ x y:Nat):Int):=rR.bB (by omega) ri
   have rn2:Ad.n=rl2.length:=by have:=rR.len;exact this
   obtain⟨w1,w2,w3⟩:=SN.eH (i:=(bJ x y:Nat)) (by omega) (by omega) (VI (((ks B2 C2 (bJ x y)+1)%4:Nat):Int))
   refine Jr hx hy _ ⟨_,rfl,jm,rnb,_,cr,rnb,?_⟩
   rw[et]
   refine⟨w1,gM jm w3 rb,fun Xf e14 Pn=> ?_⟩
   subst e14
   rw[<-List.map_set,Int.toNat_natCast]at w2
   have Vb:bK _ (fun q=>h.size<=q/\q<b1) Ad (rl2.set (bJ x y) (((ks B2 C2 (bJ x y)+1)%4:Nat):Int)):=w2
   have adI:aP Ad.own _ Ad _:=Vb.rd
   have adJ:=adI.get (i:=(bJ x y:Nat)) (by omega) (by rw[List.length_set];exact ri)
   simp only[Int.toNat_natCast,List.getElem_set_self]at adJ
   obtain⟨g1,g2,g3⟩:=Gy (r:=(ks B2 C2 (bJ x y)+1)%4) hx hy rfl VW (by omega)
   refine⟨adI.bB (by omega) (by rw[List.length_set];exact ri),_,adJ,Qi hx hy (by omega) _ ⟨_,_,rfl,Pn,fun Mh f16 zB=> ?_⟩⟩
   have Us:∀{q:Nat},In [b1] q->q=b1:=fun hq=>by simpa[In]using hq
   refine⟨m',by omega,_,_,_,by rw[g3];exact hw3,g1,g2,rfl,rfl,rfl,hR2.turn hi,?_,?_,?_,?_⟩
   ·exact Ow.fr Vb f16 fun q hq gN=>rb (Us gN▸hq)
   ·exact Ow.fr (Ow.fr Ur w3 fun q hq gN=>dj q hq gN) f16 fun q hq gN=>gb (Us gN▸hq)
   ·exact(X11.fr w3 fun q _ hq gN=>by have:=(SN.aG gN).1.2;omega).fr f16 fun q _ hq gN=>by have:=Us gN;omega
   ·exact(F11.trans (w3.mono fun q _ hq=>(SN.aG hq).1.1)).trans (f16.mono fun q _ hq=>by have:=Us hq;omega)
  ·have hE:=u6 hw2 e3
   simp only[Prod.mk.injEq]at hE
   obtain⟨rfl,rfl,rfl⟩:=hE
   obtain⟨w1,w2,w3⟩:=Ur.eH (i:=(bJ x y:Nat)) (by omega) (by have:=ai2 gR;omega) (VB true)
   refine Jr hx hy _ ⟨_,rfl,jm,adH,w1,gM jm w3 gb,fun h18 e18 Jt=> ?_⟩
   subst e18
   rw[<-List.map_set,Int.toNat_natCast]at w2
   have X18:=X11.fr w3 fun q _ hq gN=>by have:=(Ur.aG gN).1.2;omega
   have z18:=w3.size
   refine aS fL (fun q=>_<=q) (fun _ h=>h) 2 (by omega) [VI x,VI y] rfl rfl fun s KP n19 c19 o19 f19 m19 _=>⟨s,rfl,Jt.aB f19,?_⟩
   have z19:=f19.size
   have X19:fM KP (Iv (b1+1) (Mx.cK ie (z9.at ((bJ x y:Nat):Int) 1) (VB true)).size) Se (nW l):=(X18.mono fun q hq gN=>⟨gN,hq⟩).no f19
   refine jN (ys:=[x,y]) X19 (by show Ow _ _ _ _ _ _;exact o19) (by omega) z19 (Jt.aB f19) (fun p hp=>by simp only[List.mem_singleton]at hp;subst hp;exact Nat.lt_succ_self _) (by simp[nW];omega) _ fun t Xk X21 f21 aq2=> ?_
   have z21:=f21.size
   intro Hf f22 aq3
   have Us:∀{q:Nat},In [b1] q->q=b1:=fun hq=>by simpa[In]using hq
   refine⟨n-1,by omega,j+1,_,_,_,_,_,_,?_,by omega,QN,rfl,rfl,hG.grow hi e3,hR2,?_,?_,?_,?_⟩
   ·rw[aH _ (by omega) (by omega)];omega
   ·exact Ow.fr (Ow.fr (Ow.no (Ow.fr SN w3 fun q hq gN=>dj q gN hq) f19) f21 fun q hq gN=>by have:=(SN.aG hq).1.2;omega) f22 fun q hq gN=>rb (Us gN▸hq)
   ·exact Ow.fr (Ow.fr (Ow.no w2 f19) f21 fun q hq gN=>by have:=(Ur.aG hq).1.2;omega) f22 fun q hq gN=>gb (Us gN▸hq)
   ·rw[Js,(tq hx hy).1,(tq hx hy).2]
    exact X21.fr f22 fun q _ hq gN=>by have:=Us gN;omega
   ·exact(((F11.trans (w3.mono fun q _ hq=>(Ur.aG hq).1.1)).trans f19.aB).trans (f21.mono fun q _ hq=>by omega)).trans (f22.mono fun q _ hq=>by have:=Us hq;omega)
 ·simp only[decide_eq_false_iff_not]at e2
  have:j=N:=by omega
  subst this
  exact HK b1 y5 y6 y7 y8 dY A B C l hc dP (X10.mono fun q _ hq=>by omega) (og.mono fun q hq gN=>absurd gN (by omega))
theorem Mz{h:Heap}(n k:Int)(K:Value->Heap->Prop)(HK:K (VB (decide (0<=n/\n<=250/\0<=k/\k<=3))) h):aE Tryz.prog 192 #[VI n,VI k] h K:=by
 refine ahh n k h K (cX _ _ _ h _ ⟨_,rfl,.nil,fun e=>cX _ _ _ h _ ⟨_,rfl,.nil,?_⟩,fun e=> ?_⟩)
 ·have e:0<=n/\n<=250:=by simpa using e
  have:(decide (0<=k)&&decide (k<=3))=decide (0<=n/\n<=250/\0<=k/\k<=3):=by
   rw[<-Bool.decide_and]
   exact decide_eq_decide.2 ⟨fun h=>⟨e.1,e.2,h⟩,fun h=>h.2.2⟩
  rw[this]
  exact HK
 ·rw[decide_eq_false (fun h=>by simp at e;omega)]at HK
  exact HK
theorem tt{h:Heap}(n k:Int)(K:Value->Heap->Prop)(HK:∀t h',aP (fun _=>True) h' t (pE n k).1->Fr No h h'->K (.tuple #[t.v,VB (pE n k).2]) h'):aE Tryz.prog 142 #[VI n,VI k] h K:=by
 have no:¬(1<=n/\n<=250/\0<=k/\k<=3)->∀h',Fr No h h'->K (.tuple #[aC.v,VB false]) h':=fun hn h' f=>by
  unfold pE at HK
  rw[if_neg hn]at HK
  exact HK aC h' (cY.nil _ _ _) f
 refine agc n k h K (Mz n k _ ⟨_,rfl,.nil,fun e=>no (by simp at e;omega) h (Fr.refl _ _),fun e=>⟨fun e2=> ?_,fun e2=> ?_⟩⟩)
 ·simp only[decide_eq_true_eq]at e2
  exact no (by omega) h (Fr.refl _ _)
 have e:0<=n/\n<=250/\0<=k/\k<=3:=by simpa using e
 simp only[decide_eq_false_iff_not]at e2
 obtain⟨N,rfl⟩:∃N:Nat,n=N:=⟨n.toNat,by omega⟩
 obtain⟨k,rfl⟩:∃k':Nat,k=k':=⟨k.toNat,by omega⟩
 refine aaE (by omega) (by omega) _ fun b1 x1 x2 x3 st h' A B C l hc V X f=>⟨some ⟨b1,0,none⟩,rfl,.nil,b1,x1,x2,x3,st,rfl,V,?_⟩
 obtain⟨hl,eg⟩:=BL (by omega) (by omega) hc
 have ll:=ik hc
 have Rd:=X.rd
 have rl:(nW l).length=l.length:=by simp[nW]
 rw[aH _ (by omega) (by omega)]
 have ei:((N:Int)-1).toNat=N-1:=by omega
 obtain⟨si,c1,r1⟩:=Rd.get (i:=(N:Int)-1) (by omega) (by omega)
 have er:(nW l)[((N:Int)-1).toNat]'(by omega)=[((l[N-1]:Nat):Int)/121-60,((l[N-1]:Nat):Int)%121-60]:=by simp[nW,ei]
 rw[er]at r1
 rw[eg]at HK
 exact⟨Rd.bB (by omega) (by omega),si,c1,HK si h' (r1.mono fun _ _=>trivial) f⟩
end Go.Proofs.YtcnfcnoooecchaaGreatDoor
