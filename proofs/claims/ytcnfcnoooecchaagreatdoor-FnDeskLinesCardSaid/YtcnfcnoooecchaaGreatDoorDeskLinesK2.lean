import Derived.Test.YtcnfcnoooecchaaGreatDoorDeskLinesK1
set_option linter.unusedVariables false
set_option linter.unusedSimpArgs false
namespace Go.Proofs.YtcnfcnoooecchaaGreatDoor
open Go Go.Mx
def dB(rows:aE):lM:=fun i j=>(rows.getD i []).getD j 0
theorem jd{rows:aE}{i j:Nat}(h1:i<rows.length)(h2:j<rows[i].length):dB rows i j=(rows[i])[j]:=by unfold dB;rw[bH h1,bB h2]
theorem Rq{rows:aE}{i j:Nat}{v:Int}(h1:i<rows.length)(h2:j<rows[i].length)(a b:Nat):dB (rows.set i (rows[i].set j v)) a b=if a=i/\b=j then v else dB rows a b:=by
 unfold dB
 rw[eG (l:=rows.set i _),wL]
 by_cases ha:i=a
 ·subst ha
  rw[aJ rfl,aJ h1,Option.getD_some,bH h1,eG,wL]
  by_cases hb:j=b
  ·subst hb;rw[aJ rfl,aJ h2,aJ ⟨rfl,rfl⟩];rfl
  ·rw[aF hb,aF fun h=>hb h.2.symm,eG]
 ·rw[aF ha,aF fun h=>ha h.1.symm]
  simp[eG]
structure Sq(n:Nat)(rows:aE):Prop where
 len:rows.length=n
 row:∀i(h:i<rows.length),rows[i].length=n
theorem Sq.set{n:Nat}{rows:aE}(H:Sq n rows){i:Nat}(hi:i<rows.length)(l:aH)(hl:l.length=n):Sq n (rows.set i l):=⟨by rw[bY];exact H.len,fun a ha=>by
 rw[fR]
 split
 ·exact hl
 ·exact H.row a (by rw[bY]at ha;exact ha)⟩
def VH(rows:aE)(i j:Nat):aE:=(rows.set i (rows.getD j [])).set j (rows.getD i [])
theorem M4{rows:aE}{i j:Nat}(hi:i<rows.length)(hj:j<rows.length)(a:Nat):(VH rows i j).getD a []=rows.getD (ig i j a) []:=by
 unfold VH ig
 rw[eG,wL,bY,wL]
 by_cases h1:a=i
 ·subst h1
  rw[aJ rfl]
  by_cases h2:j=a
  ·subst h2;rw[aJ rfl,aJ hj];simp
  ·rw[aF h2,aJ rfl,aJ hi];rfl
 ·rw[aF h1]
  by_cases h2:a=j
  ·subst h2;rw[aJ rfl,aJ hj,aJ rfl];rfl
  ·rw[aF h2,aF fun e=>h2 e.symm,aF fun e=>h1 e.symm,eG]
theorem M5{rows:aE}{i j:Nat}(hi:i<rows.length)(hj:j<rows.length):dB (VH rows i j)=fun a=>dB rows (ig i j a):=by
 funext a b
 unfold dB
 rw[M4 hi hj]
theorem ZW{n:Nat}{rows:aE}(H:Sq n rows){i j:Nat}(hi:i<rows.length)(hj:j<rows.length):Sq n (VH rows i j):=by
 unfold VH
 refine(H.set hi _ ?_).set (by rw[bY];exact hj) _ ?_
 ·rw[bH hj];exact H.row j hj
 ·rw[bH hi];exact H.row i hi
theorem dJ.swap{h:Heap}{F:aK}{eo ei:TypeId}{s:Sl}{aI:aE}(H:dJ h F eo ei s aI){i j:Int}(i0:0<=i)(i1:i<(aI.length:Int))(j0:0<=j)(j1:j<(aI.length:Int))(fL:i≠j):
 ∃si sj:Sl,bF h (s.at i 1)=some si.v/\bF h (s.at j 1)=some sj.v/\fp s i/\fp s j/\eX h (s.at i 1)/\eX (dR h (s.at i 1) sj.v) (s.at j 1)/\
  dJ (dR (dR h (s.at i 1) sj.v) (s.at j 1) si.v) F eo ei s (VH aI i.toNat j.toNat)/\Fr s.own h (dR (dR h (s.at i 1) sj.v) (s.at j 1) si.v)/\Fr s.own h (dR h (s.at i 1) sj.v):=by
 have hlen:=H.len
 obtain⟨ss,e1,h2,h3,h4,h5⟩:=H.out
 have hi:i.toNat<ss.length:=by omega
 have hj:j.toNat<ss.length:=by omega
 have ci:=h2.EO (i:=i.toNat) (by simpa using hi)
 have cj:=h2.EO (i:=j.toNat) (by simpa using hj)
 rw[show((i.toNat:Nat):Int)=i by omega,cK]at ci
 rw[show((j.toNat:Nat):Int)=j by omega,cK]at cj
 obtain⟨w1,o1,f1⟩:=h2.gH (i:=i) i0 (by omega) ss[j.toNat].v
 obtain⟨w2,o2,f2⟩:=o1.gH (i:=j) j0 (by omega) ss[i.toNat].v
 refine⟨ss[i.toNat],ss[j.toNat],ci,cj,h2.bM i0 (by omega),h2.bM j0 (by omega),w1,w2,?_,f1.trans f2,f1⟩
 have f:=f1.trans f2
 have es:((ss.map Sl.v).set i.toNat ss[j.toNat].v).set j.toNat ss[i.toNat].v=((ss.set i.toNat ss[j.toNat]).set j.toNat ss[i.toNat]).map Sl.v:=by rw[iu,iu]
 rw[es]at o2
 have eg:∀a(ha:a<((ss.set i.toNat ss[j.toNat]).set j.toNat ss[i.toNat]).length),∃hb:ig i.toNat j.toNat a<ss.length,((ss.set i.toNat ss[j.toNat]).set j.toNat ss[i.toNat])[a]=ss[ig i.toNat j.toNat a]:=fun a ha=>by
  rw[bY,bY]at ha
  have hb:ig i.toNat j.toNat a<ss.length:=by unfold ig;split<;>(try split)<;>omega
  refine⟨hb,?_⟩
  rw[fR]
  by_cases h1:j.toNat=a
  ·rw[aJ h1]
   congr 1
   unfold ig
   rw[aF (by omega),aJ h1.symm]
  ·rw[aF h1,fR]
   by_cases h2:i.toNat=a
   ·rw[aJ h2]
    congr 1
    unfold ig
    rw[aJ h2.symm]
   ·rw[aF h2]
    congr 1
    unfold ig
    rw[aF fun e=>h2 e.symm,aF fun e=>h1 e.symm]
 have inj:∀a b,a≠b->ig i.toNat j.toNat a≠ig i.toNat j.toNat b:=fun a b hab=>by
  unfold ig
  by_cases h1:a=i.toNat<;>by_cases h2:a=j.toNat<;>by_cases h3:b=i.toNat<;>by_cases h4:b=j.toNat<;>simp only[h1,h2,h3,h4,jJ,gB]<;>(repeat' split)<;>omega
 refine⟨(ss.set i.toNat ss[j.toNat]).set j.toNat ss[i.toNat],?_,o2,fun a ha hb=> ?_,fun a b ha hb hab k=> ?_,fun a ha k hk=> ?_⟩
 ·unfold VH
  simp only[bY]
  exact e1
 ·obtain⟨hc,e⟩:=eg a ha
  rw[e]
  have ex:(VH aI i.toNat j.toNat)[a]=aI[ig i.toNat j.toNat a]'(by omega):=by
   have:=M4 (rows:=aI) (i:=i.toNat) (j:=j.toNat) (by omega) (by omega) a
   rw[bH hb,bH (by omega)]at this
   exact this
  rw[ex]
  exact(h3 _ hc (by omega)).fr f fun k hk hs=>h5 _ hc k hs hk
 ·obtain⟨hc,e⟩:=eg a ha
  obtain⟨hd,e'⟩:=eg b hb
  rw[e,e']
  exact h4 _ _ hc hd (inj a b hab) k
 ·obtain⟨hc,e⟩:=eg a ha
  rw[e]
  exact h5 _ hc k hk
theorem wT{x:Int}{b:Nat}(h:x.natAbs<=b): -(b:Int)<=x/\x<=b:=by omega
theorem Na{x y:Int}{b:Nat}(h:x.natAbs<=b)(h':y.natAbs<=b):(x*y).natAbs<=b*b:=by rw[sI];exact uX h h'
theorem amI:J3 6=720000000:=rfl
theorem ZX:J3 7=50400000000:=rfl
def yO(R:lM)(k:Nat)(last:Int)(i j:Nat):Int:=(R i j*R k k-R i k*R k j).tdiv last
theorem VJ{n k:Nat}{last:Int}{O R:lM}(H:vq n k last O fun i j=>R (k+i) (k+j))(hO:Small n O)(hn:n<=7)(hl:last≠0){i j:Nat}(hi:k<i)(jM:i<n)(hj:k<j)(Iw:j<n):
 aX ((aX (aX (R i j*R k k)-aX (R i k*R k j))).tdiv last)=yO R k last i j:=by
 have b:∀a b,a<n->k<=a->b<n->k<=b->(R a b).natAbs<=720000000:=fun a b h1 h2 h3 h4=>by
  have:=H.afw hO (i:=a-k) (j:=b-k) (by omega) (by omega)
  (try simp only at this)
  rw[show k+(a-k)=a by omega,show k+(b-k)=b by omega]at this
  exact dD this (dD (AP (show k+1<=6 by omega)) (by rw[amI];exact aW _))
 have b1:=wT (Na (b i j jM (by omega) Iw (by omega)) (b k k (by omega) (by omega) (by omega) (by omega)))
 have b2:=wT (Na (b i k jM (by omega) (by omega) (by omega)) (b k j (by omega) (by omega) Iw (by omega)))
 rw[aP (R i j*R k k) (by omega) (by omega),aP (R i k*R k j) (by omega) (by omega),aP (R i j*R k k-R i k*R k j) (by omega) (by omega)]
 obtain⟨q,hq⟩:=H.exact (i:=i-k-1) (j:=j-k-1) (by omega) (by omega)
 have eq:R i j*R k k-R i k*R k j=last*q:=by
  rw[<-hq]
  unfold Fq
  (try simp only)
  rw[show k+(i-k-1+1)=i by omega,show k+(j-k-1+1)=j by omega,show k+0=k by omega,jQ (R k k)]
 unfold yO
 have ju:q.natAbs<=(last*q).natAbs:=by
  rw[sI]
  exact Nat.le_mul_of_pos_left _ (by omega)
 rw[MB eq hl]
 rw[<-eq]at ju
 exact aP _ (by omega) (by omega)
theorem Rr{n k:Nat}{last:Int}{O R R':lM}(H:vq n k last O fun i j=>R (k+i) (k+j))(hl:last≠0)(hk:R k k≠0)(hR:∀i j,k<i->i<n->k<j->j<n->R' i j=yO R k last i j):vq n (k+1) (R k k) O fun i j=>R' (k+1+i) (k+1+j):=by
 have:=vq.step (A':=fun i j=>R' (k+1+i) (k+1+j)) H hl hk fun i j hi hj=>by
  (try simp only)
  rw[hR _ _ (by omega) (by omega) (by omega) (by omega)]
  unfold yO Fq
  (try simp only)
  rw[show k+(i+1)=k+1+i by omega,show k+(j+1)=k+1+j by omega,show k+0=k by omega,jQ (R k k)]
 exact this
def PM(s:Int):Prop:=s=1\/s= -1
theorem PM.neg_eq{s:Int}(h:PM s):aX (0-s)= -s:=by rcases h with rfl|rfl<;>rfl
theorem PM.neg{s:Int}(h:PM s):PM (aX (0-s)):=by rcases h with rfl|rfl;exact .inr rfl;exact .inl rfl
theorem VK{F:aK}{iH:Heap}{a:Sl}{rt:aE}{n:Nat}{k i j last:Int}{R O:lM}(Ku:gy iH F a rt)(ZY:Sq n rt)(S:Small n O)(hn:n<=7)(hl:last≠0)(B:vq n k.toNat last O fun i j=>R (k.toNat+i) (k.toNat+j))(k0:0<=k)(ki:k<i)(hi:i<(n:Int))(kj:k<j)(hj:j<(n:Int))
 (Yk:∀i' j',i'<n->j'<n->dB rt i' j'=if k.toNat<i'/\k.toNat<j'/\(i'<i.toNat\/i'=i.toNat/\j'<j.toNat)then yO R k.toNat last i' j' else R i' j') (C:Heap->Prop)
 (HC:∀uh rs,gy uh F a rs->Sq n rs->(∀i' j',i'<n->j'<n->dB rs i' j'=if k.toNat<i'/\k.toNat<j'/\(i'<i.toNat\/i'=i.toNat/\j'<j.toNat+1)then yO R k.toNat last i' j' else R i' j')->Fr F iH uh->C uh):
 fp a i/\∃t87:Sl,bF iH (Sl.at a i 1)=some t87.v/\fp a i/\∃t92:Sl,bF iH (Sl.at a i 1)=some t92.v/\fp t92 j/\∃t95:Int,bF iH (Sl.at t92 j 1)=some (VI t95)/\fp a k/\∃t99:Sl,bF iH (Sl.at a k 1)=some t99.v/\fp t99 k/\∃t102:Int,bF iH (Sl.at t99 k 1)=some (VI t102)/\fp a i/\∃t107:Sl,bF iH (Sl.at a i 1)=some t107.v/\fp t107 k/\∃t110:Int,bF iH (Sl.at t107 k 1)=some (VI t110)/\fp a k/\∃t114:Sl,bF iH (Sl.at a k 1)=some t114.v/\fp t114 j/\∃t117:Int,bF iH (Sl.at t114 j 1)=some (VI t117)/\last≠0/\
  fp t87 j/\eX iH (Sl.at t87 j 1)/\Vars (dR iH (Sl.at t87 j 1) (VI (aX (Int.tdiv (aX ((aX (t95*t102))-(aX (t110*t117)))) last)))) []/\∀uh:Heap,uh=dR iH (Sl.at t87 j 1) (VI (aX (Int.tdiv (aX ((aX (t95*t102))-(aX (t110*t117)))) last)))->Vars uh []->C uh:=by
 have asz:=ZY.len
 have R12:=dJ.rd Ku
 have i0:0<=i:=by omega
 have j0:0<=j:=by omega
 have ir:i<(rt.length:Int):=by omega
 have kr:k<(rt.length:Int):=by omega
 obtain⟨si,ci,oi,zo⟩:=dJ.inner Ku i0 ir
 have L8:i.toNat<rt.length:=by omega
 have FD:k.toNat<rt.length:=by omega
 have wF:i.toNat<n:=by omega
 have aQ:k.toNat<n:=by omega
 have Ky:j.toNat<n:=by omega
 have lri:=ZY.row i.toNat L8
 have lrk:=ZY.row k.toNat FD
 have ri:bC F iH si (rt[i.toNat]' L8):=oi.fM
 obtain⟨sk,ck,rk⟩:=R12.get k0 kr
 have ij1:j.toNat<(rt[i.toNat]' L8).length:=by omega
 have ik1:k.toNat<(rt[i.toNat]' L8).length:=by omega
 have kj1:j.toNat<(rt[k.toNat]' FD).length:=by omega
 have kk1:k.toNat<(rt[k.toNat]' FD).length:=by omega
 have v1:(rt[i.toNat]' L8)[j.toNat]'ij1=R i.toNat j.toNat:=by rw[<-jd L8 ij1,Yk _ _ wF Ky,aF (by omega)]
 have v2:(rt[k.toNat]' FD)[k.toNat]'kk1=R k.toNat k.toNat:=by rw[<-jd FD kk1,Yk _ _ aQ aQ,aF (by omega)]
 have v3:(rt[i.toNat]' L8)[k.toNat]'ik1=R i.toNat k.toNat:=by rw[<-jd L8 ik1,Yk _ _ wF aQ,aF (by omega)]
 have v4:(rt[k.toNat]' FD)[j.toNat]'kj1=R k.toNat j.toNat:=by rw[<-jd FD kj1,Yk _ _ aQ Ky,aF (by omega)]
 have rin:=bC.len ri
 have rkn:=bC.len rk
 have b1:j<((rt[i.toNat]' L8).length:Int):=by omega
 have b2:k<((rt[i.toNat]' L8).length:Int):=by omega
 have b3:j<((rt[k.toNat]' FD).length:Int):=by omega
 have b4:k<((rt[k.toNat]' FD).length:Int):=by omega
 obtain⟨wr,os,fs⟩:=Ow.gH oi j0 (show j<(si.n:Int) by omega) (VI (yO R k.toNat last i.toNat j.toNat))
 have es:=VJ B S hn hl (i:=i.toNat) (j:=j.toNat) (by omega) wF (by omega) Ky
 refine⟨R12.bM i0 ir,si,ci,R12.bM i0 ir,si,ci,ri.bM j0 b1,_,ri.get j0 b1,R12.bM k0 kr,sk,ck,rk.bM k0 b4,_,rk.get k0 b4,R12.bM i0 ir,si,ci,ri.bM k0 b2,_,ri.get k0 b2,R12.bM k0 kr,sk,ck,rk.bM j0 b3,_,rk.get j0 b3,hl,ri.bM j0 b1,wr,.nil,?_⟩
 simp only[v1,v2,v3,v4,es]
 rintro uh rfl _
 have os':cH (dR iH (si.at j 1) (VI (yO R k.toNat last i.toNat j.toNat))) F si ((rt[i.toNat]' L8).set j.toNat (yO R k.toNat last i.toNat j.toNat)):=by
  show Ow _ _ _ _ _ _
  rw[iu]
  exact os
 refine HC _ _ (zo _ _ fs os') (ZY.set L8 _ (by rw[bY];exact lri)) (fun i' j' h1 h2=> ?_) (fs.mono fun q _ hq=>(Ow.aS oi hq).1)
 rw[Rq L8 ij1,Yk i' j' h1 h2]
 by_cases hc:i'=i.toNat/\j'=j.toNat
 ·rw[aJ hc,hc.1,hc.2,aJ (by omega)]
 ·rw[aF hc]
  by_cases hd:k.toNat<i'/\k.toNat<j'/\(i'<i.toNat\/i'=i.toNat/\j'<j.toNat)
  ·rw[aJ hd,aJ (by omega)]
  ·rw[aF hd,aF (by omega)]
theorem VM{F:aK}{eW:Heap}{s a:Sl}{rows:aE}{n:Nat}{k last:Int}{O:lM}(kW:gy eW F a rows)(Q10:Sq n rows)(S:Small n O)(hn:n<=7)(hl:last≠0)(B:vq n k.toNat last O fun i j=>dB rows (k.toNat+i) (k.toNat+j))(k0:0<=k)(hk:k<(n:Int))(sn:s.n=n)(C:Int->Heap->Prop)
 (HC:∀gP rs,gy gP F a rs->Sq n rs->(∀i' j',i'<n->j'<n->dB rs i' j'=if k.toNat<i'/\k.toNat<j' then yO (dB rows) k.toNat last i' j' else dB rows i' j')->Fr F eW gP->C (dB rows k.toNat k.toNat) gP):
 ∃Rs:Nat->Int->Heap->Prop,(∃n0:Nat,Rs n0 (k+1) eW)/\∀(n_4:Nat)(i:Int)(gP:Heap),Rs n_4 i gP->Vars gP []->
  ((decide (i<(s.n:Int)))=true->∃ZZ:Nat->Int->Heap->Prop,(∃n0:Nat,ZZ n0 (k+1) gP)/\∀(n_5:Nat)(j:Int)(iH:Heap),ZZ n_5 j iH->Vars iH []->
    ((decide (j<(s.n:Int)))=true->fp a i/\∃t87:Sl,bF iH (Sl.at a i 1)=some t87.v/\fp a i/\∃t92:Sl,bF iH (Sl.at a i 1)=some t92.v/\fp t92 j/\∃t95:Int,bF iH (Sl.at t92 j 1)=some (VI t95)/\fp a k/\∃t99:Sl,bF iH (Sl.at a k 1)=some t99.v/\fp t99 k/\∃t102:Int,bF iH (Sl.at t99 k 1)=some (VI t102)/\fp a i/\∃t107:Sl,bF iH (Sl.at a i 1)=some t107.v/\fp t107 k/\∃t110:Int,bF iH (Sl.at t107 k 1)=some (VI t110)/\fp a k/\∃t114:Sl,bF iH (Sl.at a k 1)=some t114.v/\fp t114 j/\∃t117:Int,bF iH (Sl.at t114 j 1)=some (VI t117)/\last≠0/\
      fp t87 j/\eX iH (Sl.at t87 j 1)/\Vars (dR iH (Sl.at t87 j 1) (VI (aX (Int.tdiv (aX ((aX (t95*t102))-(aX (t110*t117)))) last)))) []/\∀uh:Heap,uh=dR iH (Sl.at t87 j 1) (VI (aX (Int.tdiv (aX ((aX (t95*t102))-(aX (t110*t117)))) last)))->Vars uh []->∃m:Nat,m<n_5/\ZZ m (aX (j+1)) uh)/\
    ((decide (j<(s.n:Int)))=false->∃m:Nat,m<n_4/\Rs m (aX (i+1)) iH))/\
  ((decide (i<(s.n:Int)))=false->fp a k/\∃t126:Sl,bF gP (Sl.at a k 1)=some t126.v/\fp t126 k/\∃t129:Int,bF gP (Sl.at t126 k 1)=some (VI t129)/\C t129 gP):=by
 refine⟨fun m4 i h'=>k<i/\i+m4=(n:Int)/\(∃rs,gy h' F a rs/\Sq n rs/\∀i' j',i'<n->j'<n->dB rs i' j'=if k.toNat<i'/\k.toNat<j'/\i'<i.toNat then yO (dB rows) k.toNat last i' j' else dB rows i' j')/\Fr F eW h',⟨n-(k.toNat+1),by omega,by omega,⟨rows,kW,Q10,fun i' j' _ _=>by rw[aF (by omega)]⟩,Fr.refl _ _⟩,?_⟩
 rintro m4 i gP ⟨i0',i1',⟨rs,kp,Q11,VE⟩,f11⟩ fJ
 have asE:=Q11.len
 refine⟨fun e7=> ?_,fun e7=> ?_⟩
 ·simp only[aT]at e7
  have hi7:i<(n:Int):=by omega
  refine⟨fun m5 j h'=>k<j/\j+m5=(n:Int)/\(∃rs,gy h' F a rs/\Sq n rs/\∀i' j',i'<n->j'<n->dB rs i' j'=if k.toNat<i'/\k.toNat<j'/\(i'<i.toNat\/i'=i.toNat/\j'<j.toNat)then yO (dB rows) k.toNat last i' j' else dB rows i' j')/\Fr F eW h',⟨n-(k.toNat+1),by omega,by omega,⟨rs,kp,Q11,fun i' j' h1 h2=> ?_⟩,f11⟩,?_⟩
  ·rw[VE i' j' h1 h2]
   by_cases hc:k.toNat<i'/\k.toNat<j'/\i'<i.toNat
   ·rw[aJ hc,aJ ⟨hc.1,hc.2.1,.inl hc.2.2⟩]
   ·rw[aF hc,aF (by omega)]
  rintro m5 j iH ⟨j0',j1',⟨rt,Ku,ZY,Yk⟩,f12⟩ kX
  refine⟨fun e8=> ?_,fun e8=> ?_⟩
  ·simp only[aT]at e8
   have hj8:j<(n:Int):=by omega
   refine VK Ku ZY S hn hl B k0 i0' hi7 j0' hj8 Yk _ fun uh vy KU Q13 amK f13=> ?_
   have jw:aX (j+1)=j+1:=aP _ (by omega) (by omega)
   rw[jw]
   exact⟨m5-1,by omega,by omega,by omega,⟨vy,KU,Q13,by rw[show(j+1).toNat=j.toNat+1 by omega];exact amK⟩,f12.trans f13⟩
  ·simp only[aY]at e8
   have hj8:j=(n:Int):=by omega
   have iw:aX (i+1)=i+1:=aP _ (by omega) (by omega)
   rw[iw]
   refine⟨m4-1,by omega,by omega,by omega,⟨rt,Ku,ZY,fun i' j' h1 h2=> ?_⟩,f12⟩
   rw[Yk i' j' h1 h2,show(i+1).toNat=i.toNat+1 by omega]
   by_cases hd:k.toNat<i'/\k.toNat<j'/\(i'<i.toNat\/i'=i.toNat/\j'<j.toNat)
   ·rw[aJ hd,aJ (by omega)]
   ·rw[aF hd,aF (by omega)]
 ·simp only[aY]at e7
  have hi7:i=(n:Int):=by omega
  have VN:=dJ.rd kp
  have kr:k<(rs.length:Int):=by omega
  have FD:k.toNat<rs.length:=by omega
  have aQ:k.toNat<n:=by omega
  obtain⟨sk,ck,rk⟩:=VN.get k0 kr
  have lrk:=Q11.row k.toNat FD
  have kk1:k.toNat<(rs[k.toNat]' FD).length:=by omega
  have v2:(rs[k.toNat]' FD)[k.toNat]'kk1=dB rows k.toNat k.toNat:=by rw[<-jd FD kk1,VE _ _ aQ aQ,aF (by omega)]
  refine⟨VN.bM k0 kr,sk,ck,rk.bM k0 (by omega),_,rk.get k0 (by omega),?_⟩
  rw[v2]
  refine HC gP rs kp Q11 (fun i' j' h1 h2=> ?_) f11
  rw[VE i' j' h1 h2]
  by_cases hd:k.toNat<i'/\k.toNat<j'/\i'<i.toNat
  ·rw[aJ hd,aJ ⟨hd.1,hd.2.1⟩]
  ·rw[aF hd,aF (by omega)]
set_option maxHeartbeats 4000000 in
theorem oA{S:aK}{h:Heap}{s:Sl}{aI:aE}(M:cG S h s aI)(Q:Sq aI.length aI)(hn:aI.length<=7)(hb:Small aI.length (dB aI)):tY aC 212 #[s.v] h (VI (dT aI.length (dB aI))):=by
 intro K HK
 have sn:=M.len
 refine v212 s h K ?_
 have yw:∀{x:Heap},Fr (fun k=>h.size<=k) h x->Fr No h x:=fun f=>f.mono fun k hk aQ=>absurd aQ (by omega)
 refine bE ug (fun k=>h.size<=k) (fun _ h=>h) 0 (by omega) [] rfl rfl fun a0 h1 n1 c1 o1 f1 m1 _=>⟨a0,rfl,.nil,?_⟩
 have z1:=f1.size
 have U9:gy h1 (fun k=>h.size<=k) a0 []:=⟨[],rfl,o1,fun i h1=>by simp at h1,fun i j h1=>by simp at h1,fun i h1=>by simp at h1⟩
 refine⟨fun m a i h'=>0<=i/\i+m=(aI.length:Int)/\gy h' (fun k=>h.size<=k) a (aI.take i.toNat)/\Fr (fun k=>h.size<=k) h h',⟨aI.length,cA _,by omega,U9,f1.aB⟩,?_⟩
 rintro m a i h2 ⟨i0,i1,o2,f2⟩ cC
 have M2:=M.no (yw f2)
 refine⟨fun e=> ?_,fun e=> ?_⟩
 ·have hi:=M.lt e
  obtain⟨si,ci,ri⟩:=M2.get i0 hi
  have rl:=Q.row i.toNat (by omega)
  refine⟨M2.bM i0 hi,si,ci,zn ri (by omega) _ fun t h3 o3 f3=>⟨t,rfl,.nil,?_⟩⟩
  have z3:=f3.size
  refine jE (lo:=h.size) (m:=h2.size) (dJ.gN o2|>.no f3) (o3.mono fun k _ hk=>hk.1) f2.size z3 .nil (fun p hp=>by simp at hp) (by rw[fI];omega) _ fun t2 h5 o5 f5 V5=> ?_
  rw[M.succ i0 hi]
  refine⟨m-1,by omega,by omega,by omega,?_,(f2.trans f3.aB).trans f5⟩
  rw[fu _ i0 hi]
  exact o5
 ·have hi:=M.ge e
  rw[cT (by omega)]at o2
  generalize hN:aI.length=n at*
  refine⟨fun m sg last k h'=>0<=k/\k+m=(n:Int)/\(∃rows O,gy h' (fun q=>h.size<=q) a rows/\Sq n rows/\Small n O/\PM sg/\sg*dT n O=dT n (dB aI)/\last≠0/\vq n k.toNat last O (fun i j=>dB rows (k.toNat+i) (k.toNat+j))/\(k=(n:Int)->last=dT n O))/\Fr (fun q=>h.size<=q) h h',⟨n,cA _,by omega,⟨aI,dB aI,o2,Q,hb,.inl rfl,by rw[iZ],by omega,?_,?_⟩,f2⟩,?_⟩
  ·have:=vq.start n (dB aI)
   simpa using this
  ·intro h0
   rw[show n=0 by omega]
   rfl
  rintro m2 sg last k h6 ⟨k0,k1,⟨rows,O,o6,Q6,S6,hsg,Rt,hl,B6,IW⟩,f6⟩ jx
  have ln:=Q6.len
  refine⟨fun e2=> ?_,fun e2=> ?_⟩
  ·have hk:k<(n:Int):=by have:=M.lt e2;omega
   refine⟨fun m3 p h'=>h'=h6/\k<=p/\p+m3=(n:Int)/\∀q:Nat,k.toNat<=q->q<p.toNat->dB rows q k.toNat=0,⟨(n-k.toNat),rfl,cA _,by omega,fun q h1 h2=>by omega⟩,?_⟩
   rintro m3 p h7 ⟨rfl,p0,p1,hz⟩ kL
   have R7:=dJ.rd o6
   have none_:p=(n:Int)->K (VI 0) h7:=fun ep=>by
    have:=B6.none (by omega) hl fun i hi=>by
     (try simp only)
     rw[Nat.add_zero]
     exact hz _ (by omega) (by omega)
    rw[this,Int.mul_zero]at Rt
    rw[<-Rt]at HK
    exact HK h7 (yw f6)
   refine⟨fun e3=> ?_,fun e3=> ?_⟩
   ·have hp:p<(n:Int):=by have:=M.lt e3;omega
    obtain⟨sp,cp,rp⟩:=R7.get (i:=p) (by omega) (by omega)
    have lp:=Q6.row p.toNat (by omega)
    have ep:dB rows p.toNat k.toNat=(rows[p.toNat]'(by omega))[k.toNat]'(by omega):=jd (by omega) (by omega)
    refine⟨R7.bM (by omega) (by omega),sp,cp,rp.bM k0 (by omega),_,rp.get k0 (by omega),fun e4=> ?_,fun e4=>⟨fun e5=> ?_,fun e5=> ?_⟩⟩
    ·simp only[aT]at e4
     refine⟨m3-1,by omega,rfl,?_,?_,?_⟩
     ·rw[aP _ (by omega) (by omega)];omega
     ·rw[aP _ (by omega) (by omega)];omega
     ·intro q h1 h2
      rw[aP _ (by omega) (by omega)]at h2
      by_cases hq:q<p.toNat
      ·exact hz q h1 hq
      ·rw[show q=p.toNat by omega,ep];exact e4
    ·simp only[aT]at e5;omega
    ·simp only[aY]at e4
     refine⟨fun x h'=>PM x/\∃rows' O',gy h' (fun q=>h.size<=q) a rows'/\Sq n rows'/\Small n O'/\x*dT n O'=dT n (dB aI)/\vq n k.toNat last O' (fun i j=>dB rows' (k.toNat+i) (k.toNat+j))/\dB rows' k.toNat k.toNat≠0/\Fr (fun q=>h.size<=q) h h',⟨fun e6=> ?_,fun e6=> ?_⟩,?_⟩
     ·simp only[gV,aY]at e6
      obtain⟨sk,sp',w1,w2,w3,w4,w5,w6,w7,w8,w9⟩:=dJ.swap o6 (i:=p) (j:=k) (by omega) (by omega) k0 (by omega) e6
      refine⟨w4,sp',w2,w3,sk,w1,w3,w5,.nil,?_⟩
      rintro h8 rfl _
      refine⟨w4,w6,.nil,?_⟩
      rintro h9 rfl _
      refine⟨?_,VH rows p.toNat k.toNat,fun i=>O (ig k.toNat p.toNat i),w7,ZW Q6 (by omega) (by omega),fun i j hi hj=>S6 _ _ (by unfold ig;split<;>(try split)<;>omega) hj,?_,?_,?_,f6.trans (dJ.NV o6 w8)⟩
      ·exact hsg.neg
      ·rw[Q8 O (by omega) (by omega) (by omega),<-Rt]
       rw[hsg.neg_eq,Int.neg_mul_neg]
      ·have:=B6.swap (p:=p.toNat-k.toNat) (by omega)
       rw[show k.toNat+(p.toNat-k.toNat)=p.toNat by omega]at this
       rw[M5 (by omega) (by omega)]
       refine cast (congrArg (vq n k.toNat last _) ?_) this
       funext i j
       (try simp only)
       congr 1
       unfold ig
       by_cases h1:i=0
       ·rw[aJ h1,aF (by omega),aJ (by omega)];omega
       ·rw[aF h1]
        by_cases h2:i=p.toNat-k.toNat
        ·rw[aJ h2,aJ (by omega)];rfl
        ·rw[aF h2,aF (by omega),aF (by omega)]
      ·rw[M5 (by omega) (by omega)]
       (try simp only)
       rw[show ig p.toNat k.toNat k.toNat=p.toNat by unfold ig;rw[aF (by omega),aJ rfl],ep]
       exact e4
     ·simp only[uv,aT]at e6
      refine⟨hsg,rows,O,o6,Q6,S6,Rt,B6,?_,f6⟩
      rw[<-ep,e6]at e4
      exact e4
     ·rintro x eW ⟨hx,rows',O',kW,Q10,S10,afC,B10,hkk,f10⟩ fe
      have ln':=Q10.len
      have k1w:aX (k+1)=k+1:=aP _ (by omega) (by omega)
      rw[k1w]
      refine VM kW Q10 S10 hn hl B10 k0 hk sn (fun v h'=>∃m:Nat,m<m2/\0<=k+1/\k+1+m=(n:Int)/\(∃rows O,gy h' (fun q=>h.size<=q) a rows/\Sq n rows/\Small n O/\PM x/\x*dT n O=dT n (dB aI)/\v≠0/\vq n (k+1).toNat v O (fun i j=>dB rows ((k+1).toNat+i) ((k+1).toNat+j))/\(k+1=(n:Int)->v=dT n O))/\Fr (fun q=>h.size<=q) h h') fun gP rs kp Q11 VE f11=> ?_
      refine⟨m2-1,by omega,by omega,by omega,⟨rs,O',kp,Q11,S10,hx,afC,hkk,?_,?_⟩,f10.trans f11⟩
      ·rw[show(k+1).toNat=k.toNat+1 by omega]
       exact Rr B10 hl hkk fun i' j' h1 h2 h3 h4=>by rw[VE i' j' h2 h4,aJ ⟨h1,h3⟩]
      ·intro FD
       have:=B10.last (by omega)
       (try simp only at this)
       rw[Nat.add_zero]at this
       exact this
   ·have hp:p=(n:Int):=by have:=M.ge e3;omega
    exact⟨fun _=>none_ hp,fun e5=>by simp only[aY]at e5;omega⟩
  ·have hk:k=(n:Int):=by have:=M.ge e2;omega
   have hd:sg*last=dT n (dB aI):=by rw[IW hk];exact Rt
   have D0:=wT (dD (oX hb) (dD (AP hn) (show J3 7<=50400000000 by rw[ZX];exact aW _)))
   rw[hd,aP _ (by clear HK;omega) (by clear HK;omega)]
   exact HK h6 (yw f6)
theorem nf(x:Int):∀a b:aH,gE x (a++b)=gE x a+gE x b
 |[],b=>by simp[gE]
 |y::a,b=>by rw[List.cons_append,gE,gE,nf x a b];omega
def lV(n:Nat)(p:Nat)(len:Int)(l:aH):aH:=(List.range n).map fun q:Nat=>(if q=p then len else 0)-gE q l
theorem ky(n p:Nat)(len:Int)(l:aH):(lV n p len l).length=n:=by simp[lV]
theorem pc{n p:Nat}{len:Int}{l:aH}{q:Nat}(h:q<(lV n p len l).length):(lV n p len l)[q]=(if q=p then len else 0)-gE q l:=by simp[lV]
theorem A9{n p:Nat}(hp:p<n)(len:Int):lV n p len []=(List.replicate n (0:Int)).set p len:=by
 apply j8 (by simp[ky])
 intro q h1 h2
 rw[pc h1,fR,zC,gE]
 by_cases e:q=p
 ·rw[aJ e,aJ e.symm];omega
 ·rw[aF e,aF fun x=>e x.symm];omega
theorem El{n p:Nat}{len x:Int}{l:aH}(h0:0<=x)(h1:x<(n:Int)):lV n p len (l++[x])=(lV n p len l).set x.toNat ((lV n p len l).getD x.toNat 0-1):=by
 have hx:x.toNat<(lV n p len l).length:=by rw[ky];omega
 apply j8 (by simp[ky])
 intro q h2 h3
 have h4:q<(lV n p len l).length:=by rw[ky]at h2⊢;exact h2
 rw[pc h2,fR,nf]
 simp only[gE]
 by_cases e:x.toNat=q
 ·rw[aJ e,aJ (show x=(q:Int) by omega),bB hx,pc hx,e];omega
 ·rw[aF e,aF (show¬x=(q:Int) by omega),pc h4];omega
theorem k7(x:Int):∀l:aH,0<=gE x l/\gE x l<=l.length
 |[]=>by simp[gE]
 |y::l=>by
  have:=k7 x l
  rw[gE,List.length_cons]
  split<;>omega
def ng(g:aE)(s:Int)(p:Nat):aH:=(lV g.length p (g.getD p []).length (g.getD p [])).eraseIdx s.toNat
def yP(g:aE)(s:Int):aE:=((List.range g.length).filter (jF s)).map (ng g s)
theorem erase_filter:∀(l:List Nat)(i:Nat)(h:i<l.length),l.Nodup->l.eraseIdx i=l.filter fun x=> !decide (x=l[i])
 |x::l,0,_,hd=>by
  rw[List.nodup_cons]at hd
  rw[List.eraseIdx_zero,List.tail_cons,List.getElem_cons_zero,p4 (by simp)]
  refine(List.filter_eq_self.2 fun a ha=> ?_).symm
  have:a≠x:=fun e=>hd.1 (e▸ha)
  simpa using this
 |x::l,i+1,h,hd=>by
  rw[List.nodup_cons]at hd
  have hi:i<l.length:=by simpa using h
  have hx:x≠l[i]:=fun e=>hd.1 (e▸bJ hi)
  rw[List.eraseIdx_cons_succ,List.getElem_cons_succ,rD (by simpa using hx),erase_filter l i hi hd.2]
theorem erase_range{n:Nat}{s:Int}(h0:0<=s)(h1:s<(n:Int)):(List.range n).eraseIdx s.toNat=(List.range n).filter (jF s):=by
 rw[erase_filter _ _ (by rw[gj];omega) List.nodup_range]
 refine List.filter_congr fun x _=> ?_
 rw[kR]
 unfold jF
 congr 1
 by_cases e:x=s.toNat
 ·rw[km e,km (by omega)]
 ·rw[gZ e,gZ (by omega)]
theorem Em{α β:Type}(f:α->β):∀(l:List α)(i:Nat),(l.map f).eraseIdx i=(l.eraseIdx i).map f
 |[],_=>by simp
 |x::l,0=>by simp
 |x::l,i+1=>by rw[bK,List.eraseIdx_cons_succ,List.eraseIdx_cons_succ,bK,Em f l i]
theorem En{g:aE}{s:Int}(h0:0<=s)(h1:s<(g.length:Int))(p:Nat):ng g s p=((List.range g.length).filter (jF s)).map fun q:Nat=>(if q=p then((g.getD p []).length:Int)else 0)-gE q (g.getD p []):=by
 unfold ng lV
 rw[Em,erase_range h0 h1]
theorem sN{n:Nat}{s:Int}(h0:0<=s)(h1:s<(n:Int)):((List.range n).filter (jF s)).length=n-1:=by
 rw[<-erase_range h0 h1,List.length_eraseIdx,gj,aJ (by omega)]
theorem KW{g:aE}{s:Int}(h0:0<=s)(h1:s<(g.length:Int)):(yP g s).length=g.length-1/\Sq (g.length-1) (yP g s):=by
 have e:(yP g s).length=g.length-1:=by unfold yP;rw[bG,sN h0 h1]
 refine⟨e,e,fun i hi=> ?_⟩
 unfold yP at hi⊢
 rw[cK,En h0 h1,bG,sN h0 h1]
theorem Nb{g:aE}{s:Int}(h0:0<=s)(h1:s<(g.length:Int)){i j:Nat}(hi:i<g.length-1)(hj:j<g.length-1):dB (yP g s) i j=j6 (iy g s) i j:=by
 have hl:=sN (n:=g.length) h0 h1
 have jM:i<((List.range g.length).filter (jF s)).length:=by omega
 have Iw:j<((List.range g.length).filter (jF s)).length:=by omega
 have e1:∀k(hk:k<((List.range g.length).filter (jF s)).length),pY (iy g s) k=((((List.range g.length).filter (jF s))[k]:Nat):Int)/\CE (iy g s) k=g.getD ((List.range g.length).filter (jF s))[k] []:=fun k hk=>by
  unfold pY CE iy
  rw[eG,dY (by rw[bG];exact hk),cK]
  exact⟨rfl,rfl⟩
 have hr:i<(yP g s).length:=by rw[(KW h0 h1).1];exact hi
 have er:(yP g s)[i]=ng g s ((List.range g.length).filter (jF s))[i]:=by
  show(((List.range g.length).filter (jF s)).map (ng g s))[i]'_=_
  exact cK _
 unfold dB j6
 rw[bH hr,er,En h0 h1,bB (by rw[bG];exact Iw),cK,(e1 i jM).2,(e1 j Iw).1]
 congr 1
 by_cases e:i=j
 ·subst e;rw[aJ rfl,aJ rfl]
 ·rw[aF e,aF fun x=>e ?_]
  have nd:((List.range g.length).filter (jF s)).Nodup:=List.Pairwise.filter _ List.nodup_range
  have hp:=List.pairwise_iff_getElem.1 nd
  rcases sL i j with a|a|a
  ·exact absurd x.symm (hp i j jM Iw a)
  ·exact a
  ·exact absurd x (hp j i Iw jM a)
theorem Eo{g:aE}{s:Int}(hg:aZ g=true)(h0:0<=s)(h1:s<(g.length:Int)):Small (g.length-1) (dB (yP g s)):=fun i j hi hj=>by
 rw[Nb h0 h1 hi hj]
 unfold j6
 have hb:(CE (iy g s) i).length<=5:=by
  have hl:=sN (n:=g.length) h0 h1
  unfold CE iy
  rw[eG,dY (by rw[bG];omega),cK]
  have hm:=bJ (show i<((List.range g.length).filter (jF s)).length by omega)
  rw[sK,ku]at hm
  show(g.getD _ []).length<=5
  rw[bH hm.1]
  exact(bL hg (bJ hm.1)).1
 have:=k7 (pY (iy g s) j) (CE (iy g s) i)
 split<;>omega
def wU(g:aE)(s:Int):Int:=dT (g.length-1) (dB (yP g s))
theorem OJ{g:aE}{s:Int}(hg:aZ g=true)(h0:0<=s)(h1:s<(g.length:Int)):wU g s=((Fv g s).length:Int):=by
 rw[IB hg h0 h1]
 exact fb fun i j hi hj=>Nb h0 h1 hi hj
theorem OK{S:aK}{h:Heap}{g:Sl}{aI:aE}(G:cG S h g aI)(hg:aZ aI=true){s:Int}(s0:0<=s)(s1:s<(aI.length:Int))(K:aL)(HK:∀t h',gy h' (Iv h.size h'.size) t (yP aI s)->Fr No h h'->K t.v h'):aG aC 213 #[.agg #[g.v],VI s] h K:=by
 refine akG g s h K fun b1 h1 fK f1 cY=> ?_
 have f1:=f1.aM
 have z1:=f1.size
 have l1:b1<h1.size:=cY.head.lt
 have gl:=bA hg
 have gn:=G.len
 have yw:∀{x:Heap},Fr (fun k=>h.size<=k) h x->Fr No h x:=fun f=>f.mono fun k hk aQ=>absurd aQ (by omega)
 refine bE ug (fun k=>h1.size<=k) (fun _ h=>h) 0 (by omega) [] rfl rfl fun o h2 n2 c2 o2 f2 m2 _=>⟨o,rfl,cY.aB f2,?_⟩
 have z2:=f2.size
 have Zn:gy h2 (fun k=>h1.size<=k) o []:=⟨[],rfl,o2,fun i h1=>by simp at h1,fun i j h1=>by simp at h1,fun i h1=>by simp at h1⟩
 refine⟨fun m x p h'=>0<=p/\p+m=(aI.length:Int)/\gy h' (fun k=>h1.size<=k) x (((List.range p.toNat).filter (jF s)).map (ng aI s))/\Fr (fun k=>h.size<=k) h h'/\h1.size<=h'.size,⟨aI.length,cA _,by omega,Zn,f1.aB.trans f2.aB,by omega⟩,?_⟩
 rintro m x p h3 ⟨p0,p1,o3,f3,z3⟩ dI
 have g3:=yw f3
 refine⟨fun e=> ?_,fun e=> ?_⟩
 ·have hp:=G.lt e
  have G3:=G.no g3
  obtain⟨sp,cp,rp⟩:=G3.get p0 hp
  have pl:=rp.len
  have eg:aI.getD p.toNat []=aI[p.toNat]'(by omega):=bH (by omega)
  have gm:=bL hg (bJ (show p.toNat<aI.length by omega))
  rw[G.succ p0 hp]
  refine⟨G3.bM p0 hp,sp,cp,fun e2=> ?_,fun e2=> ?_⟩
  ·simp only[aT]at e2
   refine⟨m-1,by omega,by omega,by omega,?_,f3,z3⟩
   rw[show(p+1).toNat=p.toNat+1 by omega,pS,wK,p4 (wI (by omega)),List.filter_nil,jb]
   exact o3
  simp only[aY]at e2
  refine fC gD (fun k=>h3.size<=k) (fun _ h=>h) .i64 .i64 g.n g.n (aW _) (by omega) fun t h4 n4 c4 o4 f4 m4 _=>⟨t,rfl,dI.aB f4,?_⟩
  have z4:=f4.size
  have o4:cH h4 (fun k=>h3.size<=k) t (List.replicate aI.length 0):=by
   have e:(List.replicate g.n [VI 0]).flatten=(List.replicate aI.length (0:Int)).map VI:=by rw[gn];simp[ko]
   rw[e]at o4;exact o4
  refine gQ (L:=[(b1,[g.v])]) (F:=fun k=>h3.size<=k) o4 p0 (by rw[ja];omega) (dI.aB f4) (fun q hq=>by
   simp only[aO,aR,aN]at hq
   subst hq;show¬h3.size<=b1;omega) _ fun h5 o5 f5 V5=> ?_
  rw[pl,<-A9 (by omega)]at o5
  have f35:=(f4.aB (T:=fun k=>h3.size<=k)).trans f5
  refine⟨fun m2 j h'=>0<=j/\j+m2=((aI[p.toNat]'(by omega)).length:Int)/\cH h' (fun k=>h3.size<=k) t (lV aI.length p.toNat (aI[p.toNat]'(by omega)).length ((aI[p.toNat]'(by omega)).take j.toNat))/\Fr (fun k=>h3.size<=k) h3 h',⟨(aI[p.toNat]'(by omega)).length,cA _,by omega,by simpa using o5,f35⟩,?_⟩
  rintro m2 j h6 ⟨j0,j1,o6,f6⟩ jx
  have r6:=(rp.low.fr f6 fun k hk aQ=>by omega)
  refine⟨fun e3=> ?_,fun e3=> ?_⟩
  ·have hj:=r6.lt e3
   have hv:=gm.2 _ (bJ (show j.toNat<(aI[p.toNat]'(by omega)).length by omega))
   have R6:=o6.fM
   have rl:=ky aI.length p.toNat (aI[p.toNat]'(by omega)).length ((aI[p.toNat]'(by omega)).take j.toNat)
   have TW:(aI[p.toNat]'(by omega))[j.toNat]'(by omega)<((lV aI.length p.toNat (aI[p.toNat]'(by omega)).length ((aI[p.toNat]'(by omega)).take j.toNat)).length:Int):=by rw[rl];omega
   refine⟨r6.bM j0 hj,_,r6.get j0 hj,bC.bM R6 hv.1 TW,_,bC.get R6 hv.1 TW,gQ (L:=[(b1,[g.v])]) (F:=fun k=>h3.size<=k) o6 hv.1 TW jx (fun q hq=>by
    simp only[aO,aR,aN]at hq
    subst hq;show¬h3.size<=b1;omega) _ fun h7 o7 f7 V7=> ?_⟩
   rw[bC.succ r6 j0 hj]
   refine⟨m2-1,by omega,by omega,by omega,?_,f6.trans f7⟩
   rw[fu _ j0 hj,El hv.1 hv.2,bB (show((aI[p.toNat]'(by omega))[j.toNat]'(by omega)).toNat<(lV aI.length p.toNat (aI[p.toNat]'(by omega)).length ((aI[p.toNat]'(by omega)).take j.toNat)).length by omega)]
   have hb:aX ((lV aI.length p.toNat (aI[p.toNat]'(by omega)).length ((aI[p.toNat]'(by omega)).take j.toNat))[((aI[p.toNat]'(by omega))[j.toNat]'(by omega)).toNat]'(by omega)-1)=(lV aI.length p.toNat (aI[p.toNat]'(by omega)).length ((aI[p.toNat]'(by omega)).take j.toNat))[((aI[p.toNat]'(by omega))[j.toNat]'(by omega)).toNat]'(by omega)-1:=by
    rw[pc]
    have ob:=k7 ((((aI[p.toNat]'(by omega))[j.toNat]'(by omega)).toNat:Nat):Int) ((aI[p.toNat]'(by omega)).take j.toNat)
    rw[fI]at ob
    have:=gm.1
    exact aP _ (by split<;>omega) (by split<;>omega)
   rw[hb]at o7
   exact o7
  ·have hj:=r6.ge e3
   rw[cT (by omega)]at o6
   have sw:aX (s+1)=((s.toNat+1:Nat):Int):=by rw[aP _ (by omega) (by omega)];omega
   have ss:s=((s.toNat:Nat):Int):=by omega
   rw[sw]
   refine cast (congrArg (fun z:Int=>aG aC 258 #[t.v,VI z,VI (s.toNat+1:Nat)] h6 _) ss.symm) ?_
   refine Rp o6 (i:=s.toNat) (by rw[ky];omega) _ fun t8 h8 o8 f8 m8=>⟨t8,rfl,?_,?_⟩
   ·exact jx.fr f8 fun q hq hk=>by
     simp only[aO,aR,aN]at hq
     subst hq
     have:=(Ow.aS o6 hk).1
     (try simp only at this)
     omega
   have f8':Fr (fun k=>h3.size<=k) h6 h8:=f8.mono fun k _ hk=>(Ow.aS o6 hk).1
   have f38:=f6.trans f8'
   have z8:=f38.size
   have gK:Vars h8 [(b1,[g.v])]:=jx.fr f8' fun q hq hk=>by
    simp only[aO,aR,aN]at hq
    subst hq
    (try simp only at hk)
    omega
   refine jE (lo:=h1.size) (m:=h3.size) (dJ.fr (dJ.gN o3) f38 fun k hk aQ jP=>by have:=aQ.2;omega) o8 z3 z8 gK (fun q hq=>by
    simp only[aO,aR,aN]at hq
    subst hq;exact l1) (by
     rw[bG]
     have:=Ba (jF s) (List.range p.toNat)
     rw[gj]at this
     omega) _ fun t2 eW kW f10 CF=> ?_
   refine⟨m-1,by omega,by omega,by omega,?_,(f3.trans (f38.mono fun k _ hk=>by omega)).trans (f10.mono fun k _ hk=>by omega),by have:=f10.size;omega⟩
   rw[show(p+1).toNat=p.toNat+1 by omega,pS,wK,rD (lT.2 (by omega)),List.filter_nil,cV,bK,iY]
   have el:ng aI s p.toNat=(lV aI.length p.toNat (aI[p.toNat]'(by omega)).length (aI[p.toNat]'(by omega))).eraseIdx s.toNat:=by unfold ng;rw[eg]
   rw[el]
   exact kW
 ·have hp:=G.ge e
  have ep:p.toNat=aI.length:=by omega
  rw[ep]at o3
  exact HK x h3 (o3.mono fun k hk aQ=>⟨by omega,hk⟩) g3
theorem cG.tl2{S:aK}{h:Heap}{s:Sl}{aI:aE}(H:cG S h s aI)(h1:1<=aI.length):cG S h (s.cut 1 1 s.n s.c) aI.tail:=by
 obtain⟨ss,e,h2,h3⟩:=H.out
 have sn:=H.len
 have c:=eC.cut h2 (l:=1) (m:=s.n) (by omega) (aW _)
 have ec:((ss.map Sl.v).drop (1*1)).take ((s.n-1)*1)=ss.tail.map Sl.v:=by
  rw[cT (by simp;omega)]
  cases ss<;>rfl
 rw[ec]at c
 refine⟨ss.tail,by simp[e],c,fun i a b=> ?_⟩
 have:=h3 (i+1) (by simp at a;omega) (by simp at b;omega)
 simpa using this
theorem Ep{L:List (Nat×List Value)}{S:aK}{h:Heap}{s:Sl}{xs:aH}(R:bC S h s xs){k:Int}(k0:0<=k)(k1:k<(xs.length:Int))(hb:xs.length<=1000000)(hL:Vars h L)(C:Sl->Heap->Prop)(HC:∀t h',cH h' (fun q=>h.size<=q) t (xs.eraseIdx k.toNat)->Fr No h h'->Vars h' L->C t h'):
 pop aC (Instr.sliceAt qx s.v none (some (VI k)) none) fun rv=>∃a:Sl,rv=a.v/\pop aC (Instr.sliceAt qx s.v (some (VI (aX (k+1)))) none none) fun rv=>∃b:Sl,rv=b.v/\aG aC 87 #[a.v] h fun rv h1=>∃c:Sl,rv=c.v/\Vars h1 L/\lQ aC (cE qx qx qx c.v b.v) h1 fun Fi h2=>∃d:Sl,Fi=d.v/\Vars h2 L/\C d h2:=by
 have sn:=bC.len R
 have sc:=eC.cap R
 have kw:aX (k+1)=k+1:=aP _ (by omega) (by omega)
 rw[kw]
 refine Dw gD .i64 k0 (by omega) ⟨_,rfl,jV gD .i64 (by omega) (by omega) ⟨_,rfl,?_⟩⟩
 have r1:=bC.cut R (l:=0) (m:=k.toNat) (Nat.zero_le _) (by omega)
 have r2:=bC.cut R (l:=(k+1).toNat) (m:=s.n) (by omega) (by omega)
 rw[qR,Nat.sub_zero]at r1
 rw[cT (by rw[uV];omega)]at r2
 refine nP r1 (by rw[fI];omega) _ fun c h1 o1 f1=>⟨c,rfl,hL.aB f1,?_⟩
 have cn:c.n=(xs.take k.toNat).length:=by have:=o1.len;simp at this;simp;omega
 have dn:(s.cut 1 (k+1).toNat s.n s.c).n=s.n-(k+1).toNat:=rfl
 have z1:=f1.size
 have pv:((xs.drop (k+1).toNat).map VI).all gW=true:=by rw[List.all_map,js];intro x _;rfl
 refine cP gD (o1.mono (F':=fun q=>h.size<=q) fun q _ hq=>hq.1) (fun q hq=>by omega) (eC.no r2 f1) pv (by rw[cn,dn,fI];omega) fun d h2 hd o2 f2 m2=>⟨d,rfl,?_,?_⟩
 ·exact(hL.aB f1).fr f2 fun p hp ho=>by
   have:=(hL.mem p hp).lt
   have:=(Ow.aS o1 ho).1.1
   omega
 ·rw[<-cV]at o2
  refine HC d h2 ?_ ((f1.aB.trans (f2.mono fun q _ hq=>(Ow.aS o1 hq).1)).mono fun q hq ju=>absurd ju.1 (by omega)) ?_
  ·rw[List.eraseIdx_eq_take_drop_succ,show k.toNat+1=(k+1).toNat by omega]
   exact o2
  ·exact(hL.aB f1).fr f2 fun p hp ho=>by
    have:=(hL.mem p hp).lt
    have:=(Ow.aS o1 ho).1.1
    omega
theorem Ru{aI:aE}{n k:Nat}(Q:Sq (n+1) aI)(hk:k<n+1):Sq n (aI.tail.map fun r=>r.eraseIdx k)/\∀i j,i<n->j<n->dB (aI.tail.map fun r=>r.eraseIdx k) i j=dB aI (i+1) (gS k j):=by
 have ln:=Q.len
 have hr:∀i(h:i<aI.tail.length),aI.tail[i]=aI[i+1]'(by rw[List.length_tail]at h;omega):=fun i h=>by rw[List.getElem_tail]
 refine⟨⟨by simp;omega,fun i hi=> ?_⟩,fun i j hi hj=> ?_⟩
 ·rw[bG]at hi
  rw[cK,hr i hi,List.length_eraseIdx,Q.row]
  rw[aJ hk]
  omega
 ·have jM:i<aI.tail.length:=by rw[List.length_tail];omega
  have h1:i+1<aI.length:=by omega
  have e2:=Q.row (i+1) h1
  have hs:gS k j<(aI[i+1]'h1).length:=by unfold gS;split<;>omega
  rw[jd h1 hs,jd (by rw[bG];exact jM) (by rw[cK,hr i jM,List.length_eraseIdx,e2,aJ hk];omega)]
  have:((aI.tail.map fun r=>r.eraseIdx k)[i]'(by rw[bG];exact jM))=(aI[i+1]'h1).eraseIdx k:=by rw[cK,hr i jM]
  have e3:((aI.tail.map fun r=>r.eraseIdx k)[i]'(by rw[bG];exact jM))[j]?=(aI[i+1]'h1)[gS k j]?:=by
   rw[this,List.getElem?_eraseIdx]
   unfold gS
   split<;>rfl
  rw[dY (by rw[cK,hr i jM,List.length_eraseIdx,e2,aJ hk];omega),dY hs]at e3
  exact bI e3
theorem afD(k:Nat):aX (0-lS k)=lS (k+1):=by
 rw[nb]
 unfold lS
 split<;>rfl
theorem Rv{n:Nat}{A:lM}(h:∀i j,i<n+1->j<n+1->(A i j).natAbs<=10){t:Nat}(ht:t<=n+1):(cM (fun k=>lS k*A 0 k*dT n (fun i j=>A (i+1) (gS k j))) t).natAbs<=J3 (n+1):=by
 have:=ul (f:=fun k=>lS k*A 0 k*dT n (fun i j=>A (i+1) (gS k j))) (b:=10*J3 n) (n:=t) fun k hk=>by
  (try simp only)
  rw[sI,sI,MD,Nat.one_mul]
  exact uX (h 0 k (by omega) (by omega)) (oX fun i j hi hj=>h (i+1) (gS k j) (by omega) (by unfold gS;split<;>omega))
 rw[J3,Nat.mul_assoc]
 exact dD this (oh _ ht)
theorem zD:∀(n:Nat){S:aK}{h:Heap}{s:Sl}{aI:aE}(M:cG S h s aI)(Q:Sq n aI)(hn:n<=7)(hb:Small n (dB aI)),tY aC 182 #[s.v] h (VI (dT n (dB aI)))
 |0,S,h,s,aI,M,Q,_,_=>by
  intro K HK
  have sn:=M.len
  have ln:=Q.len
  refine v182 s h K ⟨fun _=>HK h (Fr.refl _ _),fun e=> ?_⟩
  simp only[aY]at e
  omega
 |n+1,S,h,s,aI,M,Q,hn,hb=>by
  intro K HK
  have sn:=M.len
  have ln:=Q.len
  refine v182 s h K ⟨fun e=> ?_,fun _=> ?_⟩
  ·simp only[aT]at e
   omega
  obtain⟨s0,c0,r0⟩:=M.get (i:=0) (cA _) (by omega)
  have l0:=Q.row 0 (by omega)
  have r0:bC S h s0 (aI[0]'(by omega)):=r0
  have s0n:=bC.len r0
  refine⟨M.bM (cA _) (by omega),s0,c0,?_⟩
  have pb:∀t,t<=n+1->(cM (fun k=>lS k*dB aI 0 k*dT n (fun i j=>dB aI (i+1) (gS k j))) t).natAbs<=50400000000:=fun t ht=>dD (Rv hb ht) (dD (AP (show n+1<=7 by omega)) (by rw[ZX];exact aW _))
  refine⟨fun m sm sg t h'=>0<=t/\t+m=((n+1:Nat):Int)/\sm=cM (fun k=>lS k*dB aI 0 k*dT n (fun i j=>dB aI (i+1) (gS k j))) t.toNat/\sg=lS t.toNat/\Fr No h h',⟨n+1,cA _,by omega,rfl,rfl,Fr.refl _ _⟩,?_⟩
  rintro m sm sg t h1 ⟨t0,t1,rfl,rfl,f1⟩ cY
  have M1:=M.no f1
  have r1:=bC.no r0 f1
  refine⟨fun e=> ?_,fun e=> ?_⟩
  ·have ht:=r1.lt e
   have Zw:t.toNat<n+1:=by omega
   have e00:(aI[0]'(by omega))[t.toNat]'(by omega)=dB aI 0 t.toNat:=(jd (by omega) (by omega)).symm
   have hx:=wT (hb 0 t.toNat (by omega) Zw)
   have tw:aX (t+1)=t+1:=aP _ (by omega) (by omega)
   have nxt:∀(x:Int) h',x=cM (fun k=>lS k*dB aI 0 k*dT n (fun i j=>dB aI (i+1) (gS k j))) (t.toNat+1)->Fr No h h'->∃m':Nat,m'<m/\0<=aX (t+1)/\aX (t+1)+m'=((n+1:Nat):Int)/\x=cM (fun k=>lS k*dB aI 0 k*dT n (fun i j=>dB aI (i+1) (gS k j))) (aX (t+1)).toNat/\aX (0-lS t.toNat)=lS (aX (t+1)).toNat/\Fr No h h':=fun x h' hx f=>by
    rw[tw,show(t+1).toNat=t.toNat+1 by omega]
    exact⟨m-1,by omega,by omega,by omega,hx,afD _,f⟩
   refine⟨r1.bM t0 ht,_,r1.get t0 ht,fun x h'=>x=cM (fun k=>lS k*dB aI 0 k*dT n (fun i j=>dB aI (i+1) (gS k j))) (t.toNat+1)/\Fr No h h',⟨fun e2=> ?_,fun e2=> ?_⟩,fun x h' hx hL'=>nxt x h' hx.1 hx.2⟩
   ·rw[e00]
    refine jV ug .i64 (show(0:Int)<=1 by omega) (by omega) ⟨_,rfl,?_⟩
    have T1:=cG.tl2 M1 (by omega)
    have tln:aI.tail.length=n:=by rw[List.length_tail];omega
    have T1n:(s.cut 1 1 s.n s.c).n=n:=by rw[T1.len,tln]
    have yw:∀{x:Heap},Fr (fun k=>h1.size<=k) h1 x->Fr No h1 x:=fun f=>f.mono fun k hk aQ=>absurd aQ (by omega)
    refine⟨fun m2 r j h'=>0<=j/\j+m2=(n:Int)/\gy h' (fun q=>h1.size<=q) r ((aI.tail.take j.toNat).map fun l=>l.eraseIdx t.toNat)/\Fr (fun q=>h1.size<=q) h1 h',⟨n,cA _,by omega,dJ.nil _ _ _ _,Fr.refl _ _⟩,?_⟩
    rintro m2 r j h2 ⟨j0,j1,o2,f2⟩ cC
    have T2:=T1.no (yw f2)
    refine⟨fun e3=> ?_,fun e3=> ?_⟩
    ·have hj:=T2.lt e3
     obtain⟨sj,cj,rj⟩:=T2.get j0 hj
     have lj:(aI.tail[j.toNat]'(by omega)).length=n+1:=by rw[List.getElem_tail];exact Q.row _ (by omega)
     refine⟨T2.bM j0 hj,sj,cj,Ep rj t0 (by omega) (by omega) .nil _ fun d h4 o4 f4 V4=> ?_⟩
     have z4:=f4.size
     refine jE (lo:=h1.size) (m:=h2.size) (dJ.gN o2|>.no f4) o4 f2.size z4 .nil (fun p hp=>by simp at hp) (by rw[bG,fI];omega) _ fun t2 h5 o5 f5 V5=> ?_
     rw[aP (j+1) (by omega) (by omega)]
     refine⟨m2-1,by omega,by omega,by omega,?_,(f2.trans f4.aB).trans f5⟩
     rw[fu _ j0 hj,cV,bK,iY]
     exact o5
    ·have hj:=T2.ge e3
     rw[cT (by omega)]at o2
     obtain⟨Qr,er⟩:=Ru Q Zw
     have hbr:Small n (dB (aI.tail.map fun r=>r.eraseIdx t.toNat)):=fun i j hi hj=>by rw[er i j hi hj];exact hb _ _ (by omega) (by unfold gS;split<;>omega)
     refine zD n (dJ.rd o2) Qr (by omega) hbr _ fun h7 f7=>⟨_,rfl,.nil,?_,f1.aA ((yw f2).aA f7)⟩
     rw[fb er]
     rw[cM]
     have b1:=wT (pb t.toNat (by omega))
     have b2:=wT (pb (t.toNat+1) (by omega))
     rw[cM]at b2
     have b3: -10<=lS t.toNat*dB aI 0 t.toNat/\lS t.toNat*dB aI 0 t.toNat<=10:=by
      unfold lS
      split<;>omega
     rw[aP (lS t.toNat*dB aI 0 t.toNat) (by omega) (by omega)]
     generalize lS t.toNat*dB aI 0 t.toNat*dT n (fun i j=>dB aI (i+1) (gS t.toNat j))=y at b2⊢
     generalize cM (fun k=>lS k*dB aI 0 k*dT n (fun i j=>dB aI (i+1) (gS k j))) t.toNat=z at b1 b2⊢
     rw[aP y (by omega) (by omega),aP (z+y) (by omega) (by omega)]
   ·rw[e00]at e2
    simp only[uv,aT]at e2
    refine⟨?_,f1⟩
    rw[cM,e2]
    simp
  ·have ht:=r1.ge e
   have:t.toNat=n+1:=by omega
   rw[this]
   exact HK h1 f1
theorem IX{S:aK}{h:Heap}{g:Sl}{aI:aE}(G:cG S h g aI)(hg:aZ aI=true){s:Int}(s0:0<=s)(s1:s<(aI.length:Int))(K:aL)(HK:∀t h',gy h' (Iv h.size h'.size) t (yP aI s)->Fr No h h'->K t.v h'):aG aC 183 #[.agg #[g.v],VI s] h K:=by
 refine v183 g s h K fun b1 h1 fK f1 cY=> ?_
 have f1:=f1.aM
 have z1:=f1.size
 have l1:b1<h1.size:=cY.head.lt
 have gl:=bA hg
 have gn:=G.len
 have yw:∀{x:Heap},Fr (fun k=>h.size<=k) h x->Fr No h x:=fun f=>f.mono fun k hk aQ=>absurd aQ (by omega)
 refine⟨fun m x p h'=>0<=p/\p+m=(aI.length:Int)/\gy h' (fun k=>h1.size<=k) x (((List.range p.toNat).filter (jF s)).map (ng aI s))/\Fr (fun k=>h.size<=k) h h'/\h1.size<=h'.size,⟨aI.length,cA _,by omega,dJ.nil _ _ _ _,f1.aB,aW _⟩,?_⟩
 rintro m x p h3 ⟨p0,p1,o3,f3,z3⟩ dI
 have g3:=yw f3
 refine⟨fun e=> ?_,fun e=> ?_⟩
 ·have hp:=G.lt e
  have G3:=G.no g3
  obtain⟨sp,cp,rp⟩:=G3.get p0 hp
  have pl:=rp.len
  have eg:aI.getD p.toNat []=aI[p.toNat]'(by omega):=bH (by omega)
  have gm:=bL hg (bJ (show p.toNat<aI.length by omega))
  rw[G.succ p0 hp]
  refine⟨G3.bM p0 hp,sp,cp,fun e2=> ?_,fun e2=> ?_⟩
  ·simp only[aT]at e2
   refine⟨m-1,by omega,by omega,by omega,?_,f3,z3⟩
   rw[show(p+1).toNat=p.toNat+1 by omega,pS,wK,p4 (wI (by omega)),List.filter_nil,jb]
   exact o3
  simp only[aY]at e2
  refine fC gD (fun k=>h3.size<=k) (fun _ h=>h) .i64 .i64 g.n g.n (aW _) (by omega) fun t h4 n4 c4 o4 f4 m4 _=>⟨t,rfl,dI.aB f4,?_⟩
  have z4:=f4.size
  have o4:cH h4 (fun k=>h3.size<=k) t (List.replicate aI.length 0):=by
   have e:(List.replicate g.n [VI 0]).flatten=(List.replicate aI.length (0:Int)).map VI:=by rw[gn];simp[ko]
   rw[e]at o4;exact o4
  refine gQ (L:=[(b1,[g.v])]) (F:=fun k=>h3.size<=k) o4 p0 (by rw[ja];omega) (dI.aB f4) (fun q hq=>by
   simp only[aO,aR,aN]at hq
   subst hq;show¬h3.size<=b1;omega) _ fun h5 o5 f5 V5=> ?_
  rw[pl,<-A9 (by omega)]at o5
  have f35:=(f4.aB (T:=fun k=>h3.size<=k)).trans f5
  refine⟨fun m2 j h'=>0<=j/\j+m2=((aI[p.toNat]'(by omega)).length:Int)/\cH h' (fun k=>h3.size<=k) t (lV aI.length p.toNat (aI[p.toNat]'(by omega)).length ((aI[p.toNat]'(by omega)).take j.toNat))/\Fr (fun k=>h3.size<=k) h3 h',⟨(aI[p.toNat]'(by omega)).length,cA _,by omega,by simpa using o5,f35⟩,?_⟩
  rintro m2 j h6 ⟨j0,j1,o6,f6⟩ jx
  have r6:=(rp.low.fr f6 fun k hk aQ=>by omega)
  refine⟨fun e3=> ?_,fun e3=> ?_⟩
  ·have hj:=r6.lt e3
   have hv:=gm.2 _ (bJ (show j.toNat<(aI[p.toNat]'(by omega)).length by omega))
   have R6:=o6.fM
   have rl:=ky aI.length p.toNat (aI[p.toNat]'(by omega)).length ((aI[p.toNat]'(by omega)).take j.toNat)
   have TW:(aI[p.toNat]'(by omega))[j.toNat]'(by omega)<((lV aI.length p.toNat (aI[p.toNat]'(by omega)).length ((aI[p.toNat]'(by omega)).take j.toNat)).length:Int):=by rw[rl];omega
   refine⟨r6.bM j0 hj,_,r6.get j0 hj,bC.bM R6 hv.1 TW,_,bC.get R6 hv.1 TW,gQ (L:=[(b1,[g.v])]) (F:=fun k=>h3.size<=k) o6 hv.1 TW jx (fun q hq=>by
    simp only[aO,aR,aN]at hq
    subst hq;show¬h3.size<=b1;omega) _ fun h7 o7 f7 V7=> ?_⟩
   rw[bC.succ r6 j0 hj]
   refine⟨m2-1,by omega,by omega,by omega,?_,f6.trans f7⟩
   rw[fu _ j0 hj,El hv.1 hv.2,bB (show((aI[p.toNat]'(by omega))[j.toNat]'(by omega)).toNat<(lV aI.length p.toNat (aI[p.toNat]'(by omega)).length ((aI[p.toNat]'(by omega)).take j.toNat)).length by omega)]
   have hb:aX ((lV aI.length p.toNat (aI[p.toNat]'(by omega)).length ((aI[p.toNat]'(by omega)).take j.toNat))[((aI[p.toNat]'(by omega))[j.toNat]'(by omega)).toNat]'(by omega)-1)=(lV aI.length p.toNat (aI[p.toNat]'(by omega)).length ((aI[p.toNat]'(by omega)).take j.toNat))[((aI[p.toNat]'(by omega))[j.toNat]'(by omega)).toNat]'(by omega)-1:=by
    rw[pc]
    have ob:=k7 ((((aI[p.toNat]'(by omega))[j.toNat]'(by omega)).toNat:Nat):Int) ((aI[p.toNat]'(by omega)).take j.toNat)
    rw[fI]at ob
    have:=gm.1
    exact aP _ (by split<;>omega) (by split<;>omega)
   rw[hb]at o7
   exact o7
  ·have hj:=r6.ge e3
   rw[cT (by omega)]at o6
   refine Ep o6.fM s0 (by rw[ky];omega) (by rw[ky];omega) jx _ fun t8 h8 o8 f8 V8=> ?_
   have f8':Fr (fun k=>h3.size<=k) h6 h8:=f8.aB
   have z6:=f6.size
   have o8:=o8.mono (F':=fun k=>h3.size<=k) fun k _ hk=>by omega
   have f38:=f6.trans f8'
   have z8:=f38.size
   have gK:Vars h8 [(b1,[g.v])]:=V8
   refine jE (lo:=h1.size) (m:=h3.size) (dJ.fr (dJ.gN o3) f38 fun k hk aQ jP=>by have:=aQ.2;omega) o8 z3 z8 gK (fun q hq=>by
    simp only[aO,aR,aN]at hq
    subst hq;exact l1) (by
     rw[bG]
     have:=Ba (jF s) (List.range p.toNat)
     rw[gj]at this
     omega) _ fun t2 eW kW f10 CF=> ?_
   refine⟨m-1,by omega,by omega,by omega,?_,(f3.trans (f38.mono fun k _ hk=>by omega)).trans (f10.mono fun k _ hk=>by omega),by have:=f10.size;omega⟩
   rw[show(p+1).toNat=p.toNat+1 by omega,pS,wK,rD (lT.2 (by omega)),List.filter_nil,cV,bK,iY]
   have el:ng aI s p.toNat=(lV aI.length p.toNat (aI[p.toNat]'(by omega)).length (aI[p.toNat]'(by omega))).eraseIdx s.toNat:=by unfold ng;rw[eg]
   rw[el]
   exact kW
 ·have hp:=G.ge e
  have ep:p.toNat=aI.length:=by omega
  rw[ep]at o3
  exact HK x h3 (o3.mono fun k hk aQ=>⟨by omega,hk⟩) g3
theorem Bb(f:Nat->Int):∀n,cM f (n+1)=f 0+cM (fun k=>f (k+1)) n
 |0=>by simp[cM]
 |n+1=>by rw[cM,Bb f n,cM];omega
theorem Nc(f:Nat->Int){a:Nat}:∀{n:Nat},a+1<n->cM (fun k=>f (ig a (a+1) k)) n=cM f n
 |n+2,h=>by
  by_cases e:a=n
  ·subst e
   have h1:cM (fun k=>f (ig a (a+1) k)) a=cM f a:=dO fun k hk=>by
    (try simp only)
    unfold ig
    rw[aF (by omega),aF (by omega)]
   have h2:ig a (a+1) a=a+1:=by unfold ig;rw[aJ rfl]
   have h3:ig a (a+1) (a+1)=a:=by unfold ig;rw[aF (by omega),aJ rfl]
   rw[cM,cM,cM,cM,h1,h2,h3]
   omega
  ·have ih:=Nc f (show a+1<n+1 by omega)
   show cM (fun k=>f (ig a (a+1) k)) (n+1)+f (ig a (a+1) (n+1))=cM f (n+1)+f (n+1)
   rw[ih]
   have h2:ig a (a+1) (n+1)=n+1:=by unfold ig;rw[aF (by omega),aF (by omega)]
   rw[h2]
theorem wV:∀{n a:Nat}(C:lM),a+1<n->dT n (fun i c=>C i (ig a (a+1) c))= -dT n C
 |n+1,a,C,h=>by
  rw[dT,dT]
  have key:∀k,k<n+1->(lS k*C 0 (ig a (a+1) k)*dT n (fun i j=>C (i+1) (ig a (a+1) (gS k j))))= -(fun k=>lS k*C 0 k*dT n (fun i j=>C (i+1) (gS k j))) (ig a (a+1) k):=fun k hk=>by
   simp only
   by_cases e1:k=a
   ·subst e1
    have s1:ig k (k+1) k=k+1:=by unfold ig;rw[aJ rfl]
    rw[s1,nb]
    have:(fun i j=>C (i+1) (ig k (k+1) (gS k j)))=fun i j=>C (i+1) (gS (k+1) j):=by
     funext i j
     congr 1
     unfold ig gS
     by_cases x:j<k
     ·rw[aJ x,aF (by omega),aF (by omega),aJ (by omega)]
     ·rw[aF x,aF (by omega)]
      by_cases y:j=k
      ·rw[aJ (by omega),aJ (by omega)];exact y.symm
      ·rw[aF (by omega),aF (by omega)]
    rw[this,kv,kv,Int.neg_neg]
   by_cases e2:k=a+1
   ·subst e2
    have s1:ig a (a+1) (a+1)=a:=by unfold ig;rw[aF (by omega),aJ rfl]
    rw[s1,nb]
    have:(fun i j=>C (i+1) (ig a (a+1) (gS (a+1) j)))=fun i j=>C (i+1) (gS a j):=by
     funext i j
     congr 1
     unfold ig gS
     by_cases x:j<a
     ·rw[aJ (show j<a+1 by omega),aJ x,aF (by omega),aF (by omega)]
     ·rw[aF x]
      by_cases y:j=a
      ·rw[aJ (show j<a+1 by omega),aJ y];omega
      ·rw[aF (show¬j<a+1 by omega),aF (by omega),aF (by omega)]
    rw[this,kv,kv]
   have s1:ig a (a+1) k=k:=by unfold ig;rw[aF e1,aF e2]
   rw[s1,<-Int.mul_neg]
   congr 1
   by_cases l:k<a
   ·obtain⟨b,rfl⟩:∃b,a=b+1:=⟨a-1,by omega⟩
    rw[<-wV (n:=n) (a:=b) (fun i j=>C (i+1) (gS k j)) (by omega)]
    congr 1
    funext i j
    congr 1
    unfold ig gS
    (repeat' split)<;>omega
   ·rw[<-wV (n:=n) (a:=a) (fun i j=>C (i+1) (gS k j)) (by omega)]
    congr 1
    funext i j
    congr 1
    unfold ig gS
    (repeat' split)<;>omega
  have e:=dO key
  rw[e,oW,Nc (fun k=>lS k*C 0 k*dT n (fun i j=>C (i+1) (gS k j))) h]
def Pz(j c:Nat):Nat:=if c=0 then j else if c<=j then c-1 else c
theorem Er:∀{n j:Nat}(C:lM),j<n->dT n (fun i c=>C i (Pz j c))=lS j*dT n C
 |n,0,C,h=>by
  have:(fun i c=>C i (Pz 0 c))=C:=by
   funext i c
   congr 1
   unfold Pz
   by_cases e:c=0
   ·rw[aJ e];exact e.symm
   ·rw[aF e,aF (by omega)]
  rw[this]
  show dT n C=1*dT n C
  rw[iZ]
 |n,j+1,C,h=>by
  have:(fun i c=>C i (Pz (j+1) c))=fun i c=>(fun i c=>C i (ig j (j+1) c)) i (Pz j c):=by
   funext i c
   (try simp only)
   congr 1
   unfold Pz ig
   by_cases e:c=0
   ·rw[aJ e,aJ e,aJ rfl]
   ·rw[aF e,aF e]
    by_cases l:c<=j
    ·rw[aJ (by omega),aJ l,aF (by omega),aF (by omega)]
    ·rw[aF l]
     by_cases z:c=j+1
     ·rw[aJ (by omega),aF (by omega),aJ z];omega
     ·rw[aF (by omega),aF (by omega),aF z]
  rw[this,Er (fun i c=>C i (ig j (j+1) c)) (by omega),wV C h,nb,Int.mul_neg,kv]
def p8(A:lM)(j:Nat)(r:Nat->Int):lM:=fun i k=>if k=j then r i else A i k
theorem Z8(j:Nat):lS j*lS j=1:=by unfold lS;split<;>rfl
theorem Z9{n:Nat}(A:lM)(r:Nat->Int){i:Nat}(hi:i<n):cM (fun j=>A i j*dT n (p8 A j r)) n=dT n A*r i:=by
 have hz:dT (n+1) (fun a b=>(fun(x:Nat)(y:Nat)=>match y with|0=>r x|y+1=>A x y) (match a with|0=>i|a+1=>a) b)=0:=
  Is (i:=0) (j:=i+1) _ (by omega) (by omega) (by omega) rfl
 rw[dT,Bb]at hz
 have h0:lS 0*(fun(x:Nat)(y:Nat)=>match y with|0=>r x|y+1=>A x y) i 0*dT n (fun a b=>(fun(x:Nat)(y:Nat)=>match y with|0=>r x|y+1=>A x y) a (gS 0 b))=r i*dT n A:=by
  show 1*r i*dT n _=_
  rw[iZ]
  rfl
 have hs:∀j,j<n->lS (j+1)*A i j*dT n (fun a b=>(fun(x:Nat)(y:Nat)=>match y with|0=>r x|y+1=>A x y) a (gS (j+1) b))= -(A i j*dT n (p8 A j r)):=fun j hj=>by
  have e:(fun a b=>(fun(x:Nat)(y:Nat)=>match y with|0=>r x|y+1=>A x y) a (gS (j+1) b))=fun a b=>p8 A j r a (Pz j b):=by
   funext a b
   cases b with
   |zero=>simp[gS,Pz,p8]
   |succ b=>
    (try simp only)
    by_cases l:b+1<=j
    ·have s1:gS (j+1) (b+1)=b+1:=by unfold gS;rw[aJ (by omega)]
     have s2:Pz j (b+1)=b:=by unfold Pz;rw[aF (by omega),aJ l];rfl
     rw[s1,s2]
     unfold p8
     rw[aF (by omega)]
    ·have s1:gS (j+1) (b+1)=b+2:=by unfold gS;rw[aF (by omega)]
     have s2:Pz j (b+1)=b+1:=by unfold Pz;rw[aF (by omega),aF l]
     rw[s1,s2]
     unfold p8
     rw[aF (by omega)]
  rw[e,Er (p8 A j r) hj,nb,kv,kv]
  congr 1
  rw[hH,pU (A i j),<-hH,Z8,iZ]
 have e2:cM (fun j=>lS (j+1)*A i j*dT n (fun a b=>(fun(x:Nat)(y:Nat)=>match y with|0=>r x|y+1=>A x y) a (gS (j+1) b))) n= -cM (fun j=>A i j*dT n (p8 A j r)) n:=by
  rw[<-oW]
  exact dO hs
 have e3:r i*dT n A+ -cM (fun j=>A i j*dT n (p8 A j r)) n=0:=by
  rw[<-h0,<-e2]
  exact hz
 rw[jQ (dT n A)]
 omega
def tm(a b:Int)(p:Nat):Bool:= !decide ((p:Int)=a)&& !decide ((p:Int)=b)
theorem nh{a b:Int}{p:Nat}:tm a b p=true↔(p:Int)≠a/\(p:Int)≠b:=by unfold tm;simp
def cX(n:Nat)(a b:Int):List Nat:=(List.range n).filter (tm a b)
theorem fG{n:Nat}{a b:Int}{p:Nat}:p∈cX n a b↔p<n/\(p:Int)≠a/\(p:Int)≠b:=by
 unfold cX
 rw[sK,ku,nh]
theorem FE(n:Nat)(a b:Int):(cX n a b).Nodup:=List.Pairwise.filter _ List.nodup_range
def iS(g:aE)(a b:Int):Tn:=(cX g.length a b).map fun p:Nat=>((p:Int),g.getD p [])
def Rw(g:aE)(a b:Int):Bool:=(List.range g.length).all fun p:Nat=> !(decide ((iR g p).getD a.toNat 0<0)&&decide ((iR g p).getD b.toNat 0<0))&& !(tm a b p&&decide ((g.getD p []).length=0))
def nT(g:aE)(a b:Int):Bool:=aZ g&&jq 0 ((g.length:Int)-1) a&&jq 0 ((g.length:Int)-1) b&& !decide (a=b)
def KX(g:aE)(a b:Int):Bool:=nT g a b&&Rw g a b
structure Can(g:aE)(a b:Int):Prop where
 cD:aZ g=true
 a0:0<=a
 a1:a<(g.length:Int)
 b0:0<=b
 b1:b<(g.length:Int)
 ne:a≠b
 eB:∀p:Nat,p<g.length->0<=(iR g p).getD a.toNat 0\/0<=(iR g p).getD b.toNat 0
 out:∀p:Nat,p<g.length->(p:Int)≠a->(p:Int)≠b->(g.getD p []).length≠0
theorem KY{g:aE}{a b:Int}(h:nT g a b=true):aZ g=true/\(0<=a/\a<(g.length:Int))/\(0<=b/\b<(g.length:Int))/\a≠b:=by
 unfold nT at h
 simp only[bD,gV,aY,bT]at h
 exact⟨h.1.1.1,by omega,by omega,h.2⟩
theorem Ry{g:aE}{a b:Int}(h:KX g a b=true):Can g a b:=by
 unfold KX at h
 rw[bD]at h
 obtain⟨hg,⟨a0,a1⟩,⟨b0,b1⟩,fL⟩:=KY h.1
 have he:=h.2
 unfold Rw at he
 rw[js]at he
 refine⟨hg,a0,a1,b0,b1,fL,fun p hp=> ?_,fun p hp pa pb hz=> ?_⟩
 ·have:=he p (ku.2 hp)
  simp only[bD,gV,Bool.and_eq_false_iff,aY]at this
  omega
 ·have:=he p (ku.2 hp)
  rw[nh.2 ⟨pa,pb⟩,km hz]at this
  simp at this
def tt(f:Int->Int)(l:aH):Int:=(l.map f).sum
theorem rM(f:Int->Int):tt f []=0:=rfl
theorem jY(f:Int->Int)(x:Int)(l:aH):tt f (x::l)=f x+tt f l:=by unfold tt;rw[bK,List.sum_cons]
theorem IY(f f':Int->Int):∀l,tt (fun x=>f x+f' x) l=tt f l+tt f' l
 |[]=>rfl
 |x::l=>by rw[jY,jY,jY,IY f f' l];omega
theorem IZ(c:Int)(f:Int->Int):∀l,tt (fun x=>c*f x) l=c*tt f l
 |[]=>by rw[rM,rM,Int.mul_zero]
 |x::l=>by rw[jY,jY,IZ c f l,lr]
theorem Bc(c:Int):∀l:aH,tt (fun _=>c) l=l.length*c
 |[]=>by rw[rM];simp
 |x::l=>by rw[jY,Bc c l,List.length_cons];rw[show((l.length+1:Nat):Int)=(l.length:Int)+1 by omega,Int.add_mul];omega
theorem Rz{f:Int->Int}{u:Int}:∀l:aH,(∀x,x∈l->u<=f x)->(l.length:Int)*u<=tt f l/\(tt f l<=l.length*u->∀x,x∈l->f x=u)
 |[],_=>⟨by rw[rM];simp,fun _ x hx=>by simp at hx⟩
 |x::l,h=>by
  obtain⟨h1,h2⟩:=Rz l fun y hy=>h y (cO _ hy)
  have h0:=h x cF
  rw[jY,List.length_cons,show((l.length+1:Nat):Int)=(l.length:Int)+1 by omega,Int.add_mul,iZ]
  refine⟨by omega,fun hle y hy=> ?_⟩
  rcases aO.1 hy with rfl|hy
  ·omega
  ·exact h2 (by omega) y hy
theorem RA(f:Int->Int):∀n:Nat,0<n->∃p:Nat,p<n/\∀q:Nat,q<n->f p<=f q
 |1,_=>⟨0,by omega,fun q hq=>by rw[show q=0 by omega];exact cA _⟩
 |n+2,_=>by
  obtain⟨p,hp,hq⟩:=RA f (n+1) (by omega)
  by_cases h:f p<=f ((n+1:Nat):Int)
  ·refine⟨p,by omega,fun q h2=> ?_⟩
   by_cases e:q=n+1
   ·rw[e];exact h
   ·exact hq q (by omega)
  ·refine⟨n+1,by omega,fun q h2=> ?_⟩
   by_cases e:q=n+1
   ·rw[e];exact cA _
   ·have:=hq q (by omega);omega
theorem Can.low{g:aE}{a b:Int}(C:Can g a b)(f:Int->Int)(ha:0<=f a)(hb:0<=f b)(H:∀p:Nat,p<g.length->(p:Int)≠a->(p:Int)≠b->tt f (g.getD p [])<=(g.getD p []).length*f p):∀p:Nat,p<g.length->0<=f p:=fun p0 U6=>by
 obtain⟨p,hp,hm⟩:=RA f g.length (by omega)
 refine Classical.byContradiction fun hn=> ?_
 have hu:f p<0:=by have:=hm p0 U6;omega
 have key:∀(k:Nat)(q:Int),Way g p k q->f q=f p:=by
  intro k
  induction k with
  |zero=>intro q hq;rw[<-show(p:Int)=q from hq]
  |succ k ih=>
   rintro q ⟨x,hx,hq⟩
   have xr:=Way.rng C.cD (show(0:Int)<=p by omega) (by omega) hx
   have ex:=ih x hx
   have xe:((x.toNat:Nat):Int)=x:=by omega
   have hle:=H x.toNat (by omega) (by rw[xe];intro e;rw[e]at ex;omega) (by rw[xe];intro e;rw[e]at ex;omega)
   rw[xe,ex]at hle
   refine(Rz (u:=f p) _ fun y hy=> ?_).2 hle q hq
   have hy':=hy
   rw[bH (by omega)]at hy'
   have yr:=(bL C.cD (bJ (show x.toNat<g.length by omega))).2 y hy'
   have:=hm y.toNat (by omega)
   rw[show((y.toNat:Nat):Int)=y by omega]at this
   exact this
 rcases C.eB p hp with h|h
 ·have:=key _ _ (zw (p:=(p:Int)) C.cD (by omega) (by omega) C.a0 C.a1 h)
  omega
 ·have:=key _ _ (zw (p:=(p:Int)) C.cD (by omega) (by omega) C.b0 C.b1 h)
  omega
theorem Way.fst{g:aE}{p:Int}:∀{k:Nat}{s:Int},Way g p (k+1) s->∃e,e∈g.getD p.toNat []/\Way g e k s
 |0,s,h=>by
  obtain⟨x,hx,hs⟩:=h
  rw[<-show p=x from hx]at hs
  exact⟨s,hs,rfl⟩
 |k+1,s,h=>by
  obtain⟨x,hx,hs⟩:=h
  obtain⟨e,he,hw⟩:=Way.fst hx
  exact⟨e,he,x,hw,hs⟩
def uw(g:aE)(a b p:Int):Nat:=(if(iR g p).getD a.toNat 0<0 then(iR g p).getD b.toNat 0 else if(iR g p).getD b.toNat 0<0 then(iR g p).getD a.toNat 0 else min ((iR g p).getD a.toNat 0) ((iR g p).getD b.toNat 0)).toNat
theorem Can.dst{g:aE}{a b:Int}(C:Can g a b){p:Nat}(hp:p<g.length):(Way g p (uw g a b p) a\/Way g p (uw g a b p) b)/\∀k,Way g p k a\/Way g p k b->uw g a b p<=k:=by
 have p0:(0:Int)<=p:=by omega
 have p1:(p:Int)<(g.length:Int):=by omega
 have wa:=zw (p:=(p:Int)) (q:=a) C.cD p0 p1 C.a0 C.a1
 have wb:=zw (p:=(p:Int)) (q:=b) C.cD p0 p1 C.b0 C.b1
 have hf:=C.eB p hp
 have la:∀k,Way g p k a->_:=fun k h=>KI C.cD p0 p1 h
 have lb:∀k,Way g p k b->_:=fun k h=>KI C.cD p0 p1 h
 unfold uw
 generalize (iR g (p:Int)).getD a.toNat 0=x at*
 generalize (iR g (p:Int)).getD b.toNat 0=y at*
 refine⟨?_,fun k hk=> ?_⟩
 ·split
  ·exact .inr (wb (by omega))
  ·split
   ·exact .inl (wa (by omega))
   ·by_cases h:x<=y
    ·rw[Int.min_eq_left h];exact .inl (wa (by omega))
    ·rw[Int.min_eq_right (by omega)];exact .inr (wb (by omega))
 ·rcases hk with h|h
  ·have:=la k h
   rw[aF (by omega)]
   split<;>omega
  ·have:=lb k h
   split
   ·omega
   ·rw[aF (by omega)];omega
theorem Can.aaa{g:aE}{a b:Int}(C:Can g a b){p:Nat}(hp:p<g.length)(pa:(p:Int)≠a)(pb:(p:Int)≠b):∃e,e∈g.getD p []/\uw g a b e<uw g a b p:=by
 obtain⟨hw,_⟩:=C.dst hp
 have hz:uw g a b p≠0:=fun h=>by
  rw[h]at hw
  rcases hw with h|h
  ·exact pa h
  ·exact pb h
 obtain⟨m,hm⟩:∃m,uw g a b p=m+1:=⟨uw g a b p-1,by omega⟩
 rw[hm]at hw⊢
 have key:∀s,Way g p (m+1) s->s=a\/s=b->∃e,e∈g.getD p []/\uw g a b e<m+1:=fun s h hs=>by
  obtain⟨e,he,hv⟩:=Way.fst h
  rw[show((p:Int)).toNat=p from rfl]at he
  refine⟨e,he,?_⟩
  rw[bH hp]at he
  have er:=(bL C.cD (bJ hp)).2 e he
  have:=(C.dst (p:=e.toNat) (by omega)).2 m
  rw[show((e.toNat:Nat):Int)=e by omega]at this
  have:=this (by rcases hs with rfl|rfl;exact .inl hv;exact .inr hv)
  omega
 rcases hw with h|h
 ·exact key a h (.inl rfl)
 ·exact key b h (.inr rfl)
theorem yy{α β:Type}(f:α->List β)(c:α->β):∀l:List α,(∀x,x∈l->c x∈f x)->l.map c∈eO (l.map f)
 |[],_=>eZ.2 rfl
 |x::l,h=>by
  rw[bK,bK,eO,List.mem_flatMap]
  exact⟨c x,h x cF,dL.2 ⟨_,yy f c l fun y hy=>h y (cO _ hy),rfl⟩⟩
theorem I3{α:Type}:∀(l:List (List α))(m:Nat),(∀x,x∈l->x.length<=m)->(eO l).length<=m^l.length
 |[],m,_=>by simp[eO]
 |x::l,m,h=>by
  have ih:=I3 l m fun y hy=>h y (cO _ hy)
  have hx:=h x cF
  rw[eO,List.length_flatMap,List.length_cons,Nat.pow_succ]
  have:(x.map fun a=>((eO l).map (a:: ·)).length)=x.map fun _=>(eO l).length:=pz fun a _=>by rw[bG]
  rw[this,List.map_const',List.sum_replicate_nat]
  rw[p7 (m^l.length)]
  exact uX hx ih
theorem I4{α β γ:Type}(f:α->β)(c:α->γ):∀l:List α,(l.map f).zip (l.map c)=l.map fun x=>(f x,c x)
 |[]=>rfl
 |x::l=>by rw[bK,bK,bK,List.zip_cons_cons,I4 f c l]
def lW(g:aE)(a b:Int):Int:=dT (cX g.length a b).length (j6 (iS g a b))
theorem Bd(g:aE)(a b:Int):(iS g a b).length=(cX g.length a b).length:=by unfold iS;rw[bG]
theorem Nd(g:aE)(a b:Int):((iS g a b).map (·.1)).Nodup:=by
 unfold iS
 rw[iP]
 refine List.Pairwise.map _ (fun x y h e=>h ?_) (FE g.length a b)
 simp only[Function.comp]at e
 omega
theorem Nf(g:aE)(a b:Int):lW g a b=(((eO ((iS g a b).map (·.2))).countP fun c=>Px (cX g.length a b).length (((iS g a b).map (·.1)).zip c):Nat):Int):=by
 unfold lW
 rw[Ft _ _ (Bd g a b) (Nd g a b),AQ _ _ (Bd g a b)]
theorem Can.pos{g:aE}{a b:Int}(C:Can g a b):0<lW g a b:=by
 rw[Nf]
 have step:∀p:Nat,∃e:Int,p∈cX g.length a b->e∈g.getD p []/\uw g a b e<uw g a b p:=fun p=>by
  by_cases hp:p∈cX g.length a b
  ·obtain⟨h1,h2,h3⟩:=fG.1 hp
   obtain⟨e,he⟩:=C.aaa h1 h2 h3
   exact⟨e,fun _=>he⟩
  ·exact⟨0,fun h=>absurd h hp⟩
 let f:Nat->Int:=fun p=>Classical.choose (step p)
 have hf:∀p:Nat,p∈cX g.length a b->f p∈g.getD p []/\uw g a b (f p)<uw g a b p:=fun p=>zd (step p)
 have hc:(cX g.length a b).map f∈eO ((iS g a b).map (·.2)):=by
  unfold iS
  rw[iP]
  exact yy _ _ _ fun p hp=>(hf p hp).1
 have hk:Px (cX g.length a b).length (((iS g a b).map (·.1)).zip ((cX g.length a b).map f))=true:=by
  unfold iS
  rw[iP,I4]
  refine(Fu _ _ (by rw[bG]) ?_).2 ⟨fun x=>uw g a b x,fun t ht _=> ?_⟩
  ·have:=Nd g a b
   unfold iS at this
   rw[iP]at this⊢
   exact this
  ·obtain⟨p,hp,rfl⟩:=dL.1 ht
   exact(hf p hp).2
 have:0<(eO ((iS g a b).map (·.2))).countP fun c=>Px (cX g.length a b).length (((iS g a b).map (·.1)).zip c):=List.countP_pos_iff.2 ⟨_,hc,hk⟩
 omega
theorem vz{n:Nat}{a b:Int}(h0:0<=a)(h1:a<(n:Int))(k0:0<=b)(k1:b<(n:Int))(fL:a≠b):(cX n a b).length+2=n:=by
 have key:∀m:Nat,(cX m a b).length+((if a<(m:Int)then 1 else 0)+(if b<(m:Int)then 1 else 0))=m:=by
  intro m
  induction m with
  |zero=>rw[aF (by omega),aF (by omega)];rfl
  |succ m ih=>
   unfold cX at ih⊢
   rw[pS,wK,cB]
   by_cases e1:(m:Int)=a
   ·rw[p4 (by rw[nh];exact fun h=>h.1 e1),List.filter_nil,List.length_nil]
    by_cases e2:b<(m:Int)
    ·rw[aF (by omega),aJ e2]at ih
     rw[aJ (by omega),aJ (by omega)];omega
    ·rw[aF (by omega),aF e2]at ih
     rw[aJ (by omega),aF (by omega)];omega
   ·by_cases e2:(m:Int)=b
    ·rw[p4 (by rw[nh];exact fun h=>h.2 e2),List.filter_nil,List.length_nil]
     by_cases e3:a<(m:Int)
     ·rw[aJ e3,aF (by omega)]at ih
      rw[aJ (by omega),aJ (by omega)];omega
     ·rw[aF e3,aF (by omega)]at ih
      rw[aF (by omega),aJ (by omega)];omega
    ·rw[rD (nh.2 ⟨e1,e2⟩),List.filter_nil,List.length_cons,List.length_nil]
     rw[show(if a<((m+1:Nat):Int)then 1 else 0)=(if a<(m:Int)then 1 else 0) by split<;>split<;>omega,show(if b<((m+1:Nat):Int)then 1 else 0)=(if b<(m:Int)then 1 else 0) by split<;>split<;>omega]
     omega
 have:=key n
 rw[aJ h1,aJ k1]at this
 omega
theorem Can.den{g:aE}{a b:Int}(C:Can g a b):1<=lW g a b/\lW g a b<=15625:=by
 refine⟨C.pos,?_⟩
 rw[Nf]
 have hl:=vz C.a0 C.a1 C.b0 C.b1 C.ne
 have gl:=bA C.cD
 have h1:=List.countP_le_length (p:=fun c=>Px (cX g.length a b).length (((iS g a b).map (·.1)).zip c)) (l:=eO ((iS g a b).map (·.2)))
 have h2:=I3 ((iS g a b).map (·.2)) 5 fun x hx=>by
  unfold iS at hx
  rw[iP]at hx
  obtain⟨p,hp,rfl⟩:=dL.1 hx
  have hp:=(fG.1 hp).1
  show(g.getD p []).length<=5
  rw[bH hp]
  exact(bL C.cD (bJ hp)).1
 rw[bG,Bd]at h2
 have h3:5^(cX g.length a b).length<=5^6:=zE (by omega) (by omega)
 have h4:(5:Nat)^6=15625:=rfl
 omega
def KZ(g:aE)(a b:Int)(own:Int->Int)(A B:Int)(i:Nat):Int:=own ((cX g.length a b).getD i 0:Nat)+A*gE a (g.getD ((cX g.length a b).getD i 0) [])+B*gE b (g.getD ((cX g.length a b).getD i 0) [])
def yz(g:aE)(a b:Int)(own:Int->Int)(A B:Int)(j:Nat):Int:=dT (cX g.length a b).length (p8 (j6 (iS g a b)) j (KZ g a b own A B))
def I5(g:aE)(a b:Int)(own:Int->Int)(A B:Int)(q:Int):Int:=if q=a then A*lW g a b else if q=b then B*lW g a b else yz g a b own A B ((cX g.length a b).idxOf q.toNat)
theorem wW(x:Nat->Int)(L:Int):∀{i m:Nat},i<m->cM (fun j=>(if i=j then L else 0)*x j) m=L*x i
 |i,m+1,h=>by
  rw[cM]
  by_cases e:i=m
  ·subst e
   rw[kY fun j hj=>by rw[aF (show¬i=j by omega),na]]
   rw[aJ rfl,mD]
  ·rw[wW x L (show i<m by omega),aF e,na,lR]
theorem ni{g:aE}{a b:Int}{j:Nat}(hj:j<(cX g.length a b).length):pY (iS g a b) j=((cX g.length a b)[j]:Nat)/\CE (iS g a b) j=g.getD (cX g.length a b)[j] []:=by
 unfold pY CE iS
 rw[eG,dY (by rw[bG];exact hj),cK]
 exact⟨rfl,rfl⟩
theorem FF{n:Nat}{a b:Int}{j:Nat}(hj:j<(cX n a b).length):(cX n a b).idxOf (cX n a b)[j]=j:=(FE n a b).idxOf_getElem j hj
theorem RB{g:aE}{a b:Int}(own:Int->Int)(A B:Int)(fL:a≠b):∀l:aH,(∀x,x∈l->0<=x/\x<(g.length:Int))->tt (I5 g a b own A B) l=A*lW g a b*gE a l+B*lW g a b*gE b l+cM (fun j=>gE (pY (iS g a b) j) l*yz g a b own A B j) (cX g.length a b).length
 |[],_=>by
  rw[rM,kY fun j _=>by rw[gE,na]]
  simp[gE]
 |y::l,h=>by
  have ih:=RB own A B fL l fun x hx=>h x (cO _ hx)
  have hy:=h y cF
  rw[jY,ih,gE,gE]
  have e1:cM (fun j=>gE (pY (iS g a b) j) (y::l)*yz g a b own A B j) (cX g.length a b).length=cM (fun j=>(if y=pY (iS g a b) j then 1 else 0)*yz g a b own A B j) (cX g.length a b).length+cM (fun j=>gE (pY (iS g a b) j) l*yz g a b own A B j) (cX g.length a b).length:=by
   rw[<-oS]
   exact dO fun j _=>by(try simp only);rw[gE,Int.add_mul]
  rw[e1]
  by_cases ea:y=a
  ·have e2:cM (fun j=>(if y=pY (iS g a b) j then 1 else 0)*yz g a b own A B j) (cX g.length a b).length=0:=kY fun j hj=>by
    (try simp only)
    rw[aF,na]
    rw[(ni hj).1]
    have:=(fG.1 (bJ hj)).2.1
    omega
   rw[e2]
   unfold I5
   rw[aJ ea,aJ ea,aF (by omega),mD (gE b l),lr,Int.mul_one]
   omega
  ·by_cases eb:y=b
   ·have e2:cM (fun j=>(if y=pY (iS g a b) j then 1 else 0)*yz g a b own A B j) (cX g.length a b).length=0:=kY fun j hj=>by
     (try simp only)
     rw[aF,na]
     rw[(ni hj).1]
     have:=(fG.1 (bJ hj)).2.2
     omega
    rw[e2]
    unfold I5
    rw[aF ea,aJ eb,aF ea,aJ eb,mD (gE a l),lr (B*lW g a b),Int.mul_one]
    omega
   ·have hm:y.toNat∈cX g.length a b:=fG.2 ⟨by omega,by omega,by omega⟩
    have hi:=Be.2 hm
    have e2:cM (fun j=>(if y=pY (iS g a b) j then 1 else 0)*yz g a b own A B j) (cX g.length a b).length=yz g a b own A B ((cX g.length a b).idxOf y.toNat):=by
     have e3:=wW (yz g a b own A B) 1 hi
     rw[iZ]at e3
     rw[<-e3]
     refine dO fun j hj=> ?_
     (try simp only)
     congr 1
     rw[(ni hj).1]
     by_cases e4:(cX g.length a b).idxOf y.toNat=j
     ·rw[aJ e4,aJ]
      subst e4
      rw[List.getElem_idxOf]
      omega
     ·rw[aF e4,aF]
      intro e5
      apply e4
      rw[show y.toNat=(cX g.length a b)[j] by omega]
      exact FF hj
    rw[e2]
    unfold I5
    rw[aF ea,aF eb,aF ea,aF eb,mD (gE a l),mD (gE b l)]
    omega
theorem Can.bal{g:aE}{a b:Int}(C:Can g a b)(own:Int->Int)(A B:Int){p:Nat}(hp:p<g.length)(pa:(p:Int)≠a)(pb:(p:Int)≠b):((g.getD p []).length:Int)*I5 g a b own A B p=tt (I5 g a b own A B) (g.getD p [])+own p*lW g a b:=by
 have hm:p∈cX g.length a b:=fG.2 ⟨hp,pa,pb⟩
 have hi:=Be.2 hm
 have hr:∀x,x∈g.getD p []->0<=x/\x<(g.length:Int):=fun x hx=>by
  rw[bH hp]at hx
  exact(bL C.cD (bJ hp)).2 x hx
 have hc:=Z9 (j6 (iS g a b)) (KZ g a b own A B) hi
 have hg:(cX g.length a b)[(cX g.length a b).idxOf p]=p:=List.getElem_idxOf hi
 have e1:cM (fun j=>j6 (iS g a b) ((cX g.length a b).idxOf p) j*dT (cX g.length a b).length (p8 (j6 (iS g a b)) j (KZ g a b own A B))) (cX g.length a b).length=((g.getD p []).length:Int)*yz g a b own A B ((cX g.length a b).idxOf p)+ -cM (fun j=>gE (pY (iS g a b) j) (g.getD p [])*yz g a b own A B j) (cX g.length a b).length:=by
  rw[<-oW,<-wW (yz g a b own A B) _ hi,<-oS]
  refine dO fun j hj=> ?_
  (try simp only)
  unfold j6
  rw[(ni hi).2,hg,Int.sub_mul,Int.sub_eq_add_neg]
  rfl
 have e2:KZ g a b own A B ((cX g.length a b).idxOf p)=own p+A*gE a (g.getD p [])+B*gE b (g.getD p []):=by
  unfold KZ
  rw[show(cX g.length a b).getD ((cX g.length a b).idxOf p) 0=p by rw[eG,dY hi,Option.getD_some,hg]]
 rw[e1,e2]at hc
 rw[RB own A B C.ne _ hr]
 have e3:I5 g a b own A B p=yz g a b own A B ((cX g.length a b).idxOf p):=by
  unfold I5
  rw[aF pa,aF pb]
  rfl
 rw[e3]
 have e4:dT (cX g.length a b).length (j6 (iS g a b))=lW g a b:=rfl
 rw[e4,lr,lr]at hc
 have e5:lW g a b*own p=own p*lW g a b:=jQ _ _
 have e6:lW g a b*(A*gE a (g.getD p []))=A*lW g a b*gE a (g.getD p []):=by rw[<-hH,jQ (lW g a b)]
 have e7:lW g a b*(B*gE b (g.getD p []))=B*lW g a b*gE b (g.getD p []):=by rw[<-hH,jQ (lW g a b)]
 rw[e5,e6,e7]at hc
 omega
def CG(g:aE)(a b q:Int):Int:=I5 g a b (fun _=>0) 1 0 q
theorem Yl(g:aE)(a b:Int):CG g a b a=lW g a b:=by unfold CG I5;rw[aJ rfl,iZ]
theorem Ym(g:aE){a b:Int}(h:a≠b):CG g a b b=0:=by unfold CG I5;rw[aF fun e=>h e.symm,aJ rfl,na]
theorem Can.ch{g:aE}{a b:Int}(C:Can g a b){p:Nat}(hp:p<g.length)(pa:(p:Int)≠a)(pb:(p:Int)≠b):((g.getD p []).length:Int)*CG g a b p=tt (CG g a b) (g.getD p []):=by
 have:=C.bal (fun _=>0) 1 0 hp pa pb
 simp only[na,lR]at this
 exact this
theorem Can.aab{g:aE}{a b:Int}(C:Can g a b){p:Nat}(hp:p<g.length):0<=CG g a b p/\CG g a b p<=lW g a b:=by
 have hd:=C.pos
 refine⟨C.low (CG g a b) (by rw[Yl];omega) (by rw[Ym g C.ne];omega) (fun p hp pa pb=>by rw[C.ch hp pa pb];exact cA _) p hp,?_⟩
 have:=C.low (fun q=>lW g a b+ -1*CG g a b q) (by(try simp only);rw[Yl];omega) (by(try simp only);rw[Ym g C.ne];omega) (fun p hp pa pb=>by
  (try simp only)
  rw[IY,Bc,IZ,<-C.ch hp pa pb,lr]
  rw[pU]
  exact cA _) p hp
 (try simp only at this)
 omega
@[reducible] def tR:TypeId:=153
@[reducible] def tRs:TypeId:=186
theorem rRs:qw aC tRs=some (tR,2,16,[VI 0,VI 0]):=by kernel_rfl
theorem ux{x:Int}(h: -9223372036854775808<x)(h':x<9223372036854775808):max x (aX (0-x))=(x.natAbs:Int):=by
 rw[aP _ (by omega) (by omega)]
 by_cases e:0<=x
 ·rw[Int.max_eq_left (by omega)];omega
 ·rw[Int.max_eq_right (by omega)];omega
theorem Ng(m k:Nat):Int.tmod (m:Int) (k:Int)=((m%k:Nat):Int):=by rw[Int.ofNat_tmod]
def lX(x d:Int):Int×Int:=(x/(Int.gcd x d:Int),d/(Int.gcd x d:Int))
theorem zF{x d:Int}(h:0<d):0<Int.gcd x d:=Int.gcd_pos_of_ne_zero_right _ (by omega)
theorem RC{x d:Int}:(Int.gcd x d:Int)*(lX x d).1=x/\(Int.gcd x d:Int)*(lX x d).2=d:=⟨Int.mul_ediv_cancel' (Int.gcd_dvd_left ..),Int.mul_ediv_cancel' (Int.gcd_dvd_right ..)⟩
theorem Nh{x d:Int}:Int.tdiv x (Int.gcd x d:Int)=(lX x d).1/\Int.tdiv d (Int.gcd x d:Int)=(lX x d).2:=⟨Int.tdiv_eq_ediv_of_dvd (Int.gcd_dvd_left ..),Int.tdiv_eq_ediv_of_dvd (Int.gcd_dvd_right ..)⟩
theorem Bf{g x y:Int}(hg:0<g)(h:g*x=y):x.natAbs<=y.natAbs:=by
 rw[<-h,sI]
 exact Nat.le_mul_of_pos_left _ (by omega)
theorem I6{x d:Int}(h:0<d):(lX x d).1.natAbs<=x.natAbs/\(lX x d).2.natAbs<=d.natAbs:=by
 have hg:=zF (x:=x) h
 have hm:=RC (x:=x) (d:=d)
 exact⟨Bf (by omega) hm.1,Bf (by omega) hm.2⟩
theorem afF(a b:Int)(ha: -9223372036854775808<a/\a<9223372036854775808)(hb: -9223372036854775808<b/\b<9223372036854775808)(h:Heap):tY aC 263 #[VI a,VI b] h (VI (Int.gcd a b)):=by
 intro K HK
 refine alE a b h K (EQ _ _ _ _ ⟨_,rfl,EQ _ _ _ _ ⟨_,rfl,?_⟩⟩)
 rw[ux ha.1 ha.2,ux hb.1 hb.2]
 refine⟨fun n x y h'=>∃m:Nat,x=m/\y=n/\Nat.gcd m n=Int.gcd a b/\Fr No h h',⟨b.natAbs,a.natAbs,rfl,rfl,rfl,Fr.refl _ _⟩,?_⟩
 rintro n x y h1 ⟨m,rfl,rfl,hg,f1⟩ cY
 refine⟨fun e=> ?_,fun e=> ?_⟩
 ·have e:=bU e
  simp only[aY]at e
  refine⟨e,m%n,j9 _ (by omega),n,rfl,Ng m n,?_,f1⟩
  rw[<-hg,Nat.gcd_comm m n,Nat.gcd_rec n m,Nat.gcd_comm]
 ·have e:=bQ e
  simp only[aT]at e
  have:n=0:=by omega
  subst this
  rw[Nat.gcd_zero_right]at hg
  rw[hg]
  exact HK h1 f1
theorem VO(x d:Int)(hx: -9223372036854775808<x/\x<9223372036854775808)(hd:0<d)(hd2:d<9223372036854775808)(h:Heap):tY aC 219 #[VI x,VI d] h (.agg #[VI (lX x d).1,VI (lX x d).2]):=by
 intro K HK
 refine akR x d h K fun b1 h1 fK f1 cY=> ?_
 have f1:=f1.aM
 refine afF x d hx ⟨by omega,hd2⟩ h1 _ fun h2 f2=>⟨_,rfl,cY.aB f2,?_⟩
 refine⟨fun y h'=>y=(Int.gcd x d:Int)/\Fr No h h',⟨fun e=>by simp only[aT]at e;omega,fun _=>⟨rfl,f1.aA f2⟩⟩,?_⟩
 rintro y h3 ⟨rfl,f3⟩ dI
 have hg:=zF (x:=x) hd
 have ht:=Nh (x:=x) (d:=d)
 have hb:=I6 (x:=x) hd
 rw[ht.1,ht.2,aP _ (by omega) (by omega),aP _ (by omega) (by omega)]
 refine⟨by omega,by omega,fun h4 f4 eM=>HK h4 (f3.fresh f4 fun k hk=> ?_)⟩
 simp only[In,aO,aR,aN]at hk
 omega
theorem RD(a b:Int)(h:Heap)(K:aL)(HK:K (VI (max a b)) h):aG aC 122 #[VI a,VI b] h K:=by
 refine ae2 a b h K ⟨fun e=> ?_,fun e=> ?_⟩
 ·simp only[aT]at e
  rw[Int.max_eq_left (by omega)]at HK
  exact HK
 ·simp only[aY]at e
  rw[Int.max_eq_right (by omega)]at HK
  exact HK
theorem VR(a:Int)(ha: -9223372036854775808<a)(NT:a<9223372036854775808)(h:Heap)(K:aL)(HK:K (VI a.natAbs) h):aG aC 272 #[VI a] h K:=
 alT a h K (RD _ _ _ _ ⟨_,rfl,.nil,by rw[ux ha NT];exact HK⟩)
theorem OL(x d:Int)(hx: -9223372036854775808<x/\x<9223372036854775808)(hd:0<d)(hd2:d<9223372036854775808)(h:Heap):tY aC 236 #[VI x,VI d] h (.agg #[VI (lX x d).1,VI (lX x d).2]):=by
 intro K HK
 refine v236 x d h K fun b1 h1 fK f1 cY=> ?_
 have f1:=f1.aM
 refine⟨fun y z h'=>y=x/\z=d/\Fr No h h',⟨fun e=>by simp only[aT]at e;omega,fun _=>⟨rfl,rfl,f1⟩⟩,?_⟩
 rintro y z h2 ⟨rfl,rfl,f2⟩ cC
 refine VR y hx.1 hx.2 h2 _ ⟨_,rfl,cC,?_⟩
 refine⟨fun n p q h'=>∃m:Nat,p=m/\q=n/\Nat.gcd m n=Int.gcd y z/\Fr No h h',⟨z.natAbs,y.natAbs,rfl,by omega,rfl,f2⟩,?_⟩
 rintro n p q h3 ⟨m,rfl,rfl,hg,f3⟩ dI
 refine⟨fun e=> ?_,fun e=> ?_⟩
 ·simp only[aT]at e
  refine⟨by omega,m%n,j9 _ (by omega),n,rfl,Ng m n,?_,f3⟩
  rw[<-hg,Nat.gcd_comm m n,Nat.gcd_rec n m,Nat.gcd_comm]
 ·simp only[aY]at e
  have:n=0:=by omega
  subst this
  rw[Nat.gcd_zero_right]at hg
  rw[hg]
  have hg:=zF (x:=y) hd
  have ht:=Nh (x:=y) (d:=z)
  have hb:=I6 (x:=y) hd
  rw[ht.1,ht.2,aP _ (by omega) (by omega),aP _ (by omega) (by omega)]
  refine⟨by omega,by omega,fun h4 f4 eM=>HK h4 (f3.fresh f4 fun k hk=> ?_)⟩
  simp only[In,aO,aR,aN]at hk
  omega
def FG(g:aE)(a b:Int)(p:Nat):Bool:= !(decide ((iR g p).getD a.toNat 0<0)&&decide ((iR g p).getD b.toNat 0<0))&& !(tm a b p&&decide ((g.getD p []).length=0))
theorem Ni{g:aE}{a b:Int}{p:Nat}(hp:p<g.length)(h:FG g a b p=false):Rw g a b=false:=List.all_eq_false.2 ⟨p,ku.2 hp,by unfold FG at h;rw[h];decide⟩
theorem I7{g:aE}{a b:Int}(h:∀p,p<g.length->FG g a b p=true):Rw g a b=true:=js.2 fun p hp=>h p (ku.1 hp)
theorem I9{S:aK}{h:Heap}{t:Sl}{eB:aH}(R:bC S h t eB){b:Int}(b0:0<=b)(b1:b<(eB.length:Int)){x p a l:Int}{KF KN:Prop}(hF:(!(decide (x<0)&&decide (eB.getD b.toNat 0<0))&& !((!decide (p=a)&& !decide (p=b))&&decide (l=0)))=false->KF)(hN:(!(decide (x<0)&&decide (eB.getD b.toNat 0<0))&& !((!decide (p=a)&& !decide (p=b))&&decide (l=0)))=true->KN):
 ((decide (x<0))=true->fp t b/\∃y:Int,bF h (Sl.at t b 1)=some (VI y)/\((decide (y<0))=true->KF)/\((decide (y<0))=false->((!decide (p=a))=true->((!decide (p=b))=true->((decide (l=0))=true->KF)/\((decide (l=0))=false->KN))/\((!decide (p=b))=false->KN))/\((!decide (p=a))=false->KN)))/\
 ((decide (x<0))=false->((!decide (p=a))=true->((!decide (p=b))=true->((decide (l=0))=true->KF)/\((decide (l=0))=false->KN))/\((!decide (p=b))=false->KN))/\((!decide (p=a))=false->KN)):=by
 refine⟨fun e1=>⟨R.bM b0 b1,_,R.get b0 b1,fun e2=>hF ?_,fun e2=>⟨fun e3=>⟨fun e4=>⟨fun e5=>hF ?_,fun e5=>hN ?_⟩,fun e4=>hN ?_⟩,fun e3=>hN ?_⟩⟩,fun e1=>⟨fun e3=>⟨fun e4=>⟨fun e5=>hF ?_,fun e5=>hN ?_⟩,fun e4=>hN ?_⟩,fun e3=>hN ?_⟩⟩
 all_goals (try rw[<-bB (by omega)]at e2)
 all_goals (rw[e1];(try rw[e2]);(try rw[e3]);(try rw[e4]);(try rw[e5]);first|rfl|simp)
theorem RE{S:aK}{h:Heap}{g:Sl}{aI:aE}(G:cG S h g aI)(a b:Int):tY aC 217 #[.agg #[g.v],VI a,VI b] h (VB (KX aI a b)):=by
 intro K HK
 unfold KX at HK
 refine akO g a b h K fun b1 h1 fK f1 cY=> ?_
 have f1:=f1.aM
 refine bE gD (fun k=>h1.size<=k) (fun _ h=>h) 2 (by omega) [VI a,VI b] rfl rfl fun t h2 n2 c2 o2 f2 m2 _=>⟨t,rfl,cY.aB f2,?_⟩
 have o2:bC (fun k=>h1.size<=k) h2 t [a,b]:=o2.fM
 have f12:=f1.aA f2
 have cC:=cY.aB f2
 refine vi (G.no f12) o2 _ fun h3 f3=>⟨_,rfl,cC.aB f3,fun e=> ?_,fun e=> ?_⟩
 all_goals simp only[List.all_cons,List.all_nil,sF]at e
 all_goals have f13:=f12.aA f3
 ·have e:=bU e
  have:nT aI a b=false:=by unfold nT;rw[Bool.and_assoc (aZ aI),e];rfl
  rw[this,gJ]at HK
  exact HK h3 f13
 have e:=bQ e
 refine⟨fun e2=> ?_,fun e2=> ?_⟩
 ·have:nT aI a b=false:=by unfold nT;rw[e2,Bool.not_true,sO]
  rw[this,gJ]at HK
  exact HK h3 f13
 have hgo:nT aI a b=true:=by unfold nT;rw[Bool.and_assoc (aZ aI),e,e2];rfl
 obtain⟨hg,⟨a0,a1⟩,⟨b0,b1⟩,fL⟩:=KY hgo
 rw[hgo,fk]at HK
 refine⟨fun n i h'=>0<=i/\i+n=(aI.length:Int)/\(∀q:Nat,(q:Int)<i->FG aI a b q=true)/\Fr No h h',⟨aI.length,by omega,by omega,fun q hq=>by omega,f13⟩,?_⟩
 rintro n i h4 ⟨i0,i1,i2,f4⟩ eM
 have G4:=G.no f4
 refine⟨fun e3=> ?_,fun e3=> ?_⟩
 ·have hi:=G4.lt e3
  have ei:((i.toNat:Nat):Int)=i:=by omega
  obtain⟨si,ci,ri⟩:=G4.get i0 hi
  have eg:aI.getD i.toNat []=aI[i.toNat]'(by omega):=bH (by omega)
  have ln:=ri.len
  refine⟨G4.bM i0 hi,si,ci,DT G4 hg i0 hi _ fun t h5 o5 hl f5=>⟨t,rfl,eM.aB f5,?_⟩⟩
  have r5:bC _ h5 t _:=Ow.fM o5
  have f45:=f4.aA f5
  have key:∀v,(!(decide ((iR aI i)[a.toNat]'(by omega)<0)&&decide ((iR aI i).getD b.toNat 0<0))&& !((!decide (i=a)&& !decide (i=b))&&decide ((si.n:Int)=0)))=v->FG aI a b i.toNat=v:=fun v hv=>by
   rw[<-hv]
   unfold FG tm
   rw[ei,eg,bB (show a.toNat<(iR aI i).length by omega),show decide ((aI[i.toNat]'(by omega)).length=0)=decide ((si.n:Int)=0)from vk.2 ⟨fun _=>by omega,fun _=>by omega⟩]
  refine⟨r5.bM a0 (by omega),_,r5.get a0 (by omega),I9 r5 b0 (by omega) (fun hq=> ?_) fun hq=> ?_⟩
  ·rw[Ni (by omega) (key _ hq)]at HK
   exact HK h5 f45
  ·rw[G4.succ i0 hi]
   refine⟨n-1,by omega,by omega,by omega,fun q h2=> ?_,f45⟩
   by_cases h3:(q:Int)<i
   ·exact i2 q h3
   ·rw[show q=i.toNat by omega];exact key _ hq
 ·have hi:=G4.ge e3
  rw[I7 fun p hp=>i2 p (by omega)]at HK
  exact HK h4 f4
theorem OM{S:aK}{h:Heap}{g:Sl}{aI:aE}(G:cG S h g aI)(a b:Int):tY aC 232 #[.agg #[g.v],VI a,VI b] h (VB (nT aI a b)):=by
 intro K HK
 refine v232 g a b h K fun b1 h1 fK f1 cY=> ?_
 have f1:=f1.aM
 refine dZ (G.no f1) a _ fun h2 f2=>⟨_,rfl,cY.aB f2,fun e=> ?_,fun e=> ?_⟩
 ·refine dZ (G.no (f1.aA f2)) b _ fun h3 f3=>⟨_,rfl,(cY.aB f2).aB f3,fun e2=> ?_,fun e2=> ?_⟩
  ·unfold nT at HK
   rw[e]at HK
   rw[bD]at e2
   rw[e2.2]at HK
   exact HK h3 ((f1.aA f2).aA f3)
  ·unfold nT at HK
   rw[bD]at e
   rw[e.1,fk]at e2
   rw[e2,sO,gJ]at HK
   exact HK h3 ((f1.aA f2).aA f3)
 ·unfold nT at HK
  rw[e]at HK
  exact HK h2 (f1.aA f2)
theorem VT{S:aK}{h:Heap}{g:Sl}{aI:aE}(G:cG S h g aI){a b:Int}(hgo:nT aI a b=true):tY aC 233 #[.agg #[g.v],VI a,VI b] h (VB (Rw aI a b)):=by
 intro K HK
 obtain⟨hg,⟨a0,a1⟩,⟨b0,b1⟩,fL⟩:=KY hgo
 refine v233 g a b h K fun b1 h1 fK f1 cY=> ?_
 have f1:=f1.aM
 refine⟨fun n i h'=>0<=i/\i+n=(aI.length:Int)/\(∀q:Nat,(q:Int)<i->FG aI a b q=true)/\Fr No h h',⟨aI.length,by omega,by omega,fun q hq=>by omega,f1⟩,?_⟩
 rintro n i h4 ⟨i0,i1,i2,f4⟩ eM
 have G4:=G.no f4
 refine⟨fun e3=> ?_,fun e3=> ?_⟩
 ·have hi:=G4.lt e3
  have ei:((i.toNat:Nat):Int)=i:=by omega
  obtain⟨si,ci,ri⟩:=G4.get i0 hi
  have eg:aI.getD i.toNat []=aI[i.toNat]'(by omega):=bH (by omega)
  have ln:=ri.len
  refine⟨G4.bM i0 hi,si,ci,Mu G4 hg i0 hi _ fun t h5 o5 hl f5=>⟨t,rfl,eM.aB f5,?_⟩⟩
  have r5:bC _ h5 t _:=Ow.fM o5
  have f45:=f4.aA f5
  have key:∀v,(!(decide ((iR aI i)[a.toNat]'(by omega)<0)&&decide ((iR aI i).getD b.toNat 0<0))&& !((!decide (i=a)&& !decide (i=b))&&decide ((si.n:Int)=0)))=v->FG aI a b i.toNat=v:=fun v hv=>by
   rw[<-hv]
   unfold FG tm
   rw[ei,eg,bB (show a.toNat<(iR aI i).length by omega),show decide ((aI[i.toNat]'(by omega)).length=0)=decide ((si.n:Int)=0)from vk.2 ⟨fun _=>by omega,fun _=>by omega⟩]
  refine⟨r5.bM a0 (by omega),_,r5.get a0 (by omega),I9 r5 b0 (by omega) (fun hq=> ?_) fun hq=> ?_⟩
  ·rw[Ni (by omega) (key _ hq)]at HK
   exact HK h5 f45
  ·rw[G4.succ i0 hi]
   refine⟨n-1,by omega,by omega,by omega,fun q h2=> ?_,f45⟩
   by_cases h3:(q:Int)<i
   ·exact i2 q h3
   ·rw[show q=i.toNat by omega];exact key _ hq
 ·have hi:=G4.ge e3
  rw[I7 fun p hp=>i2 p (by omega)]at HK
  exact HK h4 f4
theorem RF{S:aK}{h:Heap}{g:Sl}{aI:aE}(G:cG S h g aI)(a b:Int):tY aC 185 #[.agg #[g.v],VI a,VI b] h (VB (KX aI a b)):=by
 intro K HK
 unfold KX at HK
 refine aj6 g a b h K fun b1 h1 fK f1 cY=> ?_
 have f1:=f1.aM
 refine OM (G.no f1) a b _ fun h2 f2=>⟨_,rfl,cY.aB f2,fun e=> ?_,fun e=> ?_⟩
 ·rw[e,fk]at HK
  exact VT (G.no (f1.aA f2)) e _ fun h3 f3=>⟨_,rfl,(cY.aB f2).aB f3,HK h3 ((f1.aA f2).aA f3)⟩
 ·rw[e,gJ]at HK
  exact HK h2 (f1.aA f2)
def fy(ps:List Nat)(p:Nat)(l:aH)(L:Int):aH:=ps.map fun q:Nat=>(if q=p then L else 0)-gE q l
theorem dX(ps:List Nat)(p:Nat)(l:aH)(L:Int):(fy ps p l L).length=ps.length:=by unfold fy;rw[bG]
theorem hJ{ps:List Nat}{p:Nat}{l:aH}{L:Int}{j:Nat}(h:j<(fy ps p l L).length):(fy ps p l L)[j]=(if ps[j]'(by rw[dX]at h;exact h)=p then L else 0)-gE (ps[j]'(by rw[dX]at h;exact h):Nat) l:=by simp[fy]
theorem K0(ps:List Nat)(p:Nat):fy ps p [] 0=List.replicate ps.length 0:=by
 apply j8 (by rw[dX,ja])
 intro j h1 h2
 rw[hJ h1,zC,gE]
 split<;>rfl
theorem FH{ps:List Nat}(nd:ps.Nodup){i j:Nat}(hi:i<ps.length)(hj:j<ps.length)(h:ps[i]=ps[j]):i=j:=by
 have hp:=List.pairwise_iff_getElem.1 nd
 rcases sL i j with a|a|a
 ·exact absurd h (hp i j hi hj a)
 ·exact a
 ·exact absurd h.symm (hp j i hj hi a)
theorem K1{ps:List Nat}(nd:ps.Nodup){p:Nat}{l:aH}{L x:Int}{i:Nat}(hi:i<ps.length)(e:((ps[i]:Nat):Int)=x):fy ps p (l++[x]) L=(fy ps p l L).set i ((fy ps p l L).getD i 0-1):=by
 have hl:i<(fy ps p l L).length:=by rw[dX];exact hi
 have hd:=bB hl
 rw[hJ hl]at hd
 rw[hd]
 apply j8 (by rw[bY,dX,dX])
 intro j h1 h2
 have hj:j<(fy ps p l L).length:=by rw[dX]at h1⊢;exact h1
 have Iw:j<ps.length:=by rw[dX]at hj;exact hj
 rw[hJ h1,fR,nf,hJ hj]
 simp only[gE]
 by_cases c:i=j
 ·subst c
  rw[aJ (show i=i from rfl),aJ (show x=((ps[i]:Nat):Int)from e.symm)];omega
 ·rw[aF (show¬i=j from c),aF (show¬x=((ps[j]:Nat):Int)from fun h=>c (FH nd hi Iw (by omega)))];omega
theorem Bg{ps:List Nat}{p:Nat}{l:aH}{L x:Int}(h:∀q,q∈ps->((q:Nat):Int)≠x):fy ps p (l++[x]) L=fy ps p l L:=by
 unfold fy
 refine pz fun q hq=> ?_
 have hz:(if x=(q:Int)then(1:Int)else 0)=0:=aF fun e=>h q hq e.symm
 rw[nf]
 simp only[gE]
 rw[hz];omega
theorem ON{ps:List Nat}(nd:ps.Nodup){l:aH}{L:Int}{i:Nat}(hi:i<ps.length):fy ps ps[i] l L=(fy ps ps[i] l 0).set i ((fy ps ps[i] l 0).getD i 0+L):=by
 have hl:i<(fy ps ps[i] l 0).length:=by rw[dX];exact hi
 have hd:=bB hl
 rw[hJ hl]at hd
 rw[hd]
 apply j8 (by rw[bY,dX,dX])
 intro j h1 h2
 have hj:j<(fy ps ps[i] l 0).length:=by rw[dX]at h1⊢;exact h1
 have Iw:j<ps.length:=by rw[dX]at hj;exact hj
 rw[hJ h1,fR,hJ hj]
 by_cases c:i=j
 ·subst c
  rw[aJ rfl,aJ rfl,aJ rfl];omega
 ·rw[aF c,aF fun h=>c (FH nd hi Iw h.symm),aF fun h=>c (FH nd hi Iw h.symm)]
def tN(g:aE)(a b:Int):aE:=(cX g.length a b).map fun p=>fy (cX g.length a b) p (g.getD p []) (g.getD p []).length
def Ja(g:aE)(a b:Int)(own:Int->Int)(A B:Int)(p:Nat):Int:=own p+A*gE a (g.getD p [])+B*gE b (g.getD p [])
def pd(g:aE)(a b:Int)(own:Int->Int)(A B:Int):aH:=(cX g.length a b).map (Ja g a b own A B)
theorem lY(g:aE)(a b:Int):(tN g a b).length=(cX g.length a b).length/\Sq (cX g.length a b).length (tN g a b):=by
 have e:(tN g a b).length=(cX g.length a b).length:=by unfold tN;rw[bG]
 refine⟨e,e,fun i hi=> ?_⟩
 rw[show(tN g a b)[i]=_ from cK _,dX]
theorem FI(g:aE)(a b:Int){i j:Nat}(hi:i<(cX g.length a b).length)(hj:j<(cX g.length a b).length):dB (tN g a b) i j=j6 (iS g a b) i j:=by
 have hr:i<(tN g a b).length:=by rw[(lY g a b).1];exact hi
 have er:(tN g a b)[i]=fy (cX g.length a b) (cX g.length a b)[i] (g.getD (cX g.length a b)[i] []) (g.getD (cX g.length a b)[i] []).length:=cK _
 unfold dB j6
 rw[bH hr,er,bB (by rw[dX];exact hj),hJ (by rw[dX];exact hj),(ni hi).2,(ni hj).1]
 congr 1
 by_cases e:i=j
 ·subst e;rw[aJ rfl,aJ rfl]
 ·rw[aF e,aF fun h=>e (FH (FE _ _ _) hi hj h.symm)]
theorem wX{g:aE}(hg:aZ g=true)(a b:Int):Small (cX g.length a b).length (dB (tN g a b)):=fun i j hi hj=>by
 rw[FI g a b hi hj]
 unfold j6
 rw[(ni hi).2]
 have hp:=(fG.1 (bJ hi)).1
 have hb:(g.getD (cX g.length a b)[i] []).length<=5:=by rw[bH hp];exact(bL hg (bJ hp)).1
 have:=k7 (pY (iS g a b) j) (g.getD (cX g.length a b)[i] [])
 split<;>omega
theorem Nk(g:aE)(a b:Int):dT (cX g.length a b).length (dB (tN g a b))=lW g a b:=fb fun i j hi hj=>FI g a b hi hj
theorem pf(g:aE)(a b:Int)(own:Int->Int)(A B:Int):(pd g a b own A B).length=(cX g.length a b).length:=by unfold pd;rw[bG]
theorem vA(g:aE)(a b:Int)(own:Int->Int)(A B:Int){i:Nat}(hi:i<(cX g.length a b).length):(pd g a b own A B).getD i 0=KZ g a b own A B i:=by
 rw[bB (by rw[pf];exact hi)]
 refine(show(pd g a b own A B)[i]'(by rw[pf];exact hi)=Ja g a b own A B (cX g.length a b)[i]from cK _).trans ?_
 have e1:(cX g.length a b).getD i 0=(cX g.length a b)[i]:=by rw[eG,dY hi,Option.getD_some]
 unfold KZ Ja
 rw[e1]
theorem K3(g:aE)(a b:Int)(own:Int->Int)(A B:Int)(k:Nat):dT (cX g.length a b).length (p8 (dB (tN g a b)) k fun i=>(pd g a b own A B).getD i 0)=yz g a b own A B k:=by
 refine fb fun i j hi hj=> ?_
 unfold p8
 split
 ·exact vA g a b own A B hi
 ·exact FI g a b hi hj
def vB(rows:aE)(k:Nat)(r:aH):aE:=rows.zipIdx.map fun t=>t.1.set k (r.getD t.2 0)
theorem nj(rows:aE)(k:Nat)(r:aH):(vB rows k r).length=rows.length:=by unfold vB;rw[bG,List.length_zipIdx]
theorem vC{rows:aE}{k:Nat}{r:aH}{i:Nat}(hi:i<rows.length):(vB rows k r)[i]'(by rw[nj];exact hi)=rows[i].set k (r.getD i 0):=by
 refine(cK (l:=rows.zipIdx) _ (h:=by rw[bG,List.length_zipIdx];exact hi)).trans ?_
 rw[List.getElem_zipIdx]
 (try simp only[iO])
theorem Nl{n:Nat}{rows:aE}(Q:Sq n rows)(k:Nat)(r:aH):Sq n (vB rows k r):=⟨by rw[nj];exact Q.len,fun i hi=>by
 rw[nj]at hi
 rw[vC hi,bY]
 exact Q.row i hi⟩
theorem Jb{n:Nat}{rows:aE}(Q:Sq n rows){k:Nat}{r:aH}{i j:Nat}(hi:i<n)(hj:j<n):dB (vB rows k r) i j=p8 (dB rows) k (fun i=>r.getD i 0) i j:=by
 have hl:=Q.len
 have jM:i<rows.length:=by omega
 have hr:=Q.row i jM
 have h1:i<(vB rows k r).length:=by rw[nj];exact jM
 have h2:j<((vB rows k r)[i]'h1).length:=by rw[vC jM,bY,hr];exact hj
 rw[jd h1 h2]
 have:((vB rows k r)[i]'h1)[j]'h2=(rows[i].set k (r.getD i 0))[j]'(by rw[bY,hr];exact hj):=by congr 1;exact vC jM
 rw[this,fR]
 unfold p8
 by_cases e:k=j
 ·rw[aJ e,aJ e.symm]
 ·rw[aF e,aF fun h=>e h.symm,jd jM (by rw[hr];exact hj)]
theorem uy{n:Nat}{rows:aE}(Q:Sq n rows)(S:Small n (dB rows)){k:Nat}{r:aH}(hr:∀i,i<n->(r.getD i 0).natAbs<=10):Small n (dB (vB rows k r)):=fun i j hi hj=>by
 rw[Jb Q hi hj]
 unfold p8
 split
 ·exact hr i hi
 ·exact S i j hi hj
theorem Bh{n:Nat}{rows:aE}(Q:Sq n rows)(k:Nat)(r:aH):dT n (dB (vB rows k r))=dT n (p8 (dB rows) k fun i=>r.getD i 0):=fb fun i j hi hj=>Jb Q hi hj
theorem Es{rows:aE}{k:Nat}{r:aH}{i:Nat}(hi:i<rows.length):(vB rows k r).take (i+1)=(vB rows k r).take i++[rows[i].set k (r.getD i 0)]:=by
 rw[og (by rw[nj];exact hi),vC hi]
def Bi(g:aE)(a b:Int)(own:Int->Int)(A B:Int)(k:Nat):aH:=(List.range g.length).map fun q:Nat=>if(q:Int)=a then A*lW g a b else if(q:Int)=b then B*lW g a b else if(cX g.length a b).idxOf q<k then yz g a b own A B ((cX g.length a b).idxOf q)else 0
theorem nk(g:aE)(a b:Int)(own:Int->Int)(A B:Int)(k:Nat):(Bi g a b own A B k).length=g.length:=by unfold Bi;rw[bG,gj]
theorem vD{g:aE}{a b:Int}{own:Int->Int}{A B:Int}{k q:Nat}(h:q<(Bi g a b own A B k).length):(Bi g a b own A B k)[q]=if(q:Int)=a then A*lW g a b else if(q:Int)=b then B*lW g a b else if(cX g.length a b).idxOf q<k then yz g a b own A B ((cX g.length a b).idxOf q)else 0:=by
 refine(cK (l:=List.range g.length) _ (h:=h)).trans ?_
 rw[kR]
theorem OO{g:aE}{a b:Int}(own:Int->Int)(A B:Int)(a0:0<=a)(b0:0<=b)(fL:a≠b):Bi g a b own A B 0=((List.replicate g.length 0).set a.toNat (A*lW g a b)).set b.toNat (B*lW g a b):=by
 apply j8 (by rw[nk,bY,bY,ja])
 intro q h1 h2
 rw[vD h1,fR,fR,zC]
 by_cases ea:(q:Int)=a
 ·rw[aJ ea,aF (by omega),aJ (by omega)]
 ·rw[aF ea]
  by_cases eb:(q:Int)=b
  ·rw[aJ eb,aJ (by omega)]
  ·rw[aF eb,aF (by omega),aF (by omega),aF (by omega)]
theorem OP{g:aE}{a b:Int}(own:Int->Int)(A B:Int){k:Nat}(hk:k<(cX g.length a b).length):Bi g a b own A B (k+1)=(Bi g a b own A B k).set ((cX g.length a b)[k]) (yz g a b own A B k):=by
 apply j8 (by rw[nk,bY,nk])
 intro q h1 h2
 have h3:q<(Bi g a b own A B k).length:=by rw[bY]at h2;exact h2
 have hm:=fG.1 (bJ hk)
 rw[vD h1,fR,vD h3]
 by_cases e:(cX g.length a b)[k]=q
 ·rw[aJ e,aF (by omega),aF (by omega)]
  subst e
  rw[FF hk,aJ (by omega)]
 ·rw[aF e]
  by_cases ea:(q:Int)=a
  ·rw[aJ ea,aJ ea]
  ·rw[aF ea,aF ea]
   by_cases eb:(q:Int)=b
   ·rw[aJ eb,aJ eb]
   ·rw[aF eb,aF eb]
    have hq:q∈cX g.length a b:=fG.2 ⟨by rw[nk]at h3;exact h3,ea,eb⟩
    have hi:=Be.2 hq
    by_cases l:(cX g.length a b).idxOf q<k
    ·rw[aJ l,aJ (by omega)]
    ·rw[aF l,aF]
     intro h
     apply e
     have:(cX g.length a b).idxOf q=k:=by omega
     subst this
     exact List.getElem_idxOf hi
def FJ(g:aE)(a b:Int)(own:Int->Int)(A B:Int):aH:=(List.range g.length).map fun q:Nat=>I5 g a b own A B q
theorem Jc(g:aE)(a b:Int)(own:Int->Int)(A B:Int):(FJ g a b own A B).length=g.length:=by unfold FJ;rw[bG,gj]
theorem Jd{g:aE}{a b:Int}{own:Int->Int}{A B:Int}{q:Nat}(h:q<(FJ g a b own A B).length):(FJ g a b own A B)[q]=I5 g a b own A B q:=by
 refine(cK (l:=List.range g.length) _ (h:=h)).trans ?_
 rw[kR]
theorem RG(g:aE)(a b:Int)(own:Int->Int)(A B:Int):Bi g a b own A B (cX g.length a b).length=FJ g a b own A B:=by
 apply j8 (by rw[nk,Jc])
 intro q h1 h2
 rw[vD h1,Jd h2]
 unfold I5
 by_cases ea:(q:Int)=a
 ·rw[aJ ea,aJ ea]
 ·rw[aF ea,aF ea]
  by_cases eb:(q:Int)=b
  ·rw[aJ eb,aJ eb]
  ·rw[aF eb,aF eb,aJ]
   ·rfl
   ·exact Be.2 (fG.2 ⟨by rw[nk]at h1;exact h1,ea,eb⟩)
theorem Et{g:aE}(hg:aZ g=true){a b:Int}{own:Int->Int}{A B:Int}(hn:(cX g.length a b).length<=7)(hr:∀i,i<(cX g.length a b).length->(KZ g a b own A B i).natAbs<=10)(k:Nat):(yz g a b own A B k).natAbs<=50400000000:=by
 rw[<-K3,<-Bh (lY g a b).2]
 refine dD (oX (uy (lY g a b).2 (wX hg a b) fun i hi=>by rw[vA g a b own A B hi];exact hr i hi)) ?_
 exact dD (AP hn) (by rw[ZX];exact aW _)
theorem Je{n:Nat}{a b:Int}{i:Nat}(hi:(i:Nat)<n):cX (i+1) a b=if tm a b i then cX i a b++[i]else cX i a b:=by
 unfold cX
 rw[pS,wK]
 cases h:tm a b i with
 |true=>rw[aJ rfl,rD h,List.filter_nil]
 |false=>rw[aF (by decide),p4 (by rw[h];decide),List.filter_nil,jb]
theorem p9{ps:List Nat}{i:Nat}(h:i<(ps.map fun p:Nat=>(p:Int)).length):(ps.map fun p:Nat=>(p:Int))[i]=((ps[i]'(by rw[bG]at h;exact h):Nat):Int):=cK _
theorem jH(x y:Int)(l:aH):gE x (l++[y])=gE x l+(if y=x then 1 else 0):=by rw[nf];simp only[gE];omega
theorem rN{l:aH}{a:Int}(h:l.length<=5)(j:Nat):0<=gE a (l.take j)/\gE a (l.take j)<=5:=by
 have:=k7 a (l.take j)
 rw[fI]at this
 omega
theorem RH{A o:Int}(hA:A=0\/A=1)(h0:0<=o)(h5:o<=5):0<=A*o/\A*o<=5:=by
 rcases hA with rfl|rfl<;>omega
set_option maxHeartbeats 4000000 in
theorem aac{h h8:Heap}{g OQ rt inner:Sl}{aI:aE}{a b:Int}(C:Can aI a b){own:Int->Int}{A B:Int}(hA:A=0\/A=1)(hB:B=0\/B=1)(hr:∀i,i<(cX aI.length a b).length->(KZ aI a b own A B i).natAbs<=10)(gn:g.n=aI.length){b1:Nat}(g8:Fr No h h8)(gK:Vars h8 [(b1,[g.v])])
 (M8:cG (fun k=>k<h8.size) h8 OQ (tN aI a b)) (R8:bC (fun k=>k<h8.size) h8 rt (pd aI a b own A B)) (I8:bC (fun k=>k<h8.size) h8 inner ((cX aI.length a b).map fun p:Nat=>(p:Int))) (K:aL) (HK:∀t h',cH h' (Iv h.size h'.size) t (FJ aI a b own A B)->Fr No h h'->K (.tuple #[t.v,VI (lW aI a b)]) h'):
 aG aC 212 #[(Sl.v OQ)] h8 fun afG VU=>∃wY:Int,afG=(VI wY)/\Vars VU [(b1,[(Sl.v g)])]/\
 lQ aC (Instr.makeSlice qx (VI (g.n:Int)) (VI (g.n:Int))) VU fun afH Jf=>∃kz:Sl,afH=(Sl.v kz)/\Vars Jf [(b1,[(Sl.v g)])]/\
 fp kz a/\
 eX Jf (Sl.at kz a 1)/\Vars (dR Jf (Sl.at kz a 1) (VI (aX (A*wY)))) [(b1,[(Sl.v g)])]/\
 ∀wZ:Heap,wZ=dR Jf (Sl.at kz a 1) (VI (aX (A*wY)))->Vars wZ [(b1,[(Sl.v g)])]->
 fp kz b/\
 eX wZ (Sl.at kz b 1)/\Vars (dR wZ (Sl.at kz b 1) (VI (aX (B*wY)))) [(b1,[(Sl.v g)])]/\
 ∀RI:Heap,RI=dR wZ (Sl.at kz b 1) (VI (aX (B*wY)))->Vars RI [(b1,[(Sl.v g)])]->
 ∃Rs:Nat->Int->Heap->Prop,(∃n0:Nat,Rs n0 0 RI)/\
 ∀(n_5:Nat)(oB:Int)(oC:Heap),Rs n_5 oB oC->Vars oC [(b1,[(Sl.v g)])]->
 ((decide (oB<(inner.n:Int)))=true->
 fp inner oB/\
 ∃Bj:Int,bF oC (Sl.at inner oB 1)=some (VI Bj)/\
 lQ aC (Instr.buildSlice qy 0 #[]) oC fun afI FK=>∃RJ:Sl,afI=(Sl.v RJ)/\Vars FK [(b1,[(Sl.v g)])]/\
 ∃ZZ:Nat->Sl->Int->Heap->Prop,(∃n0:Nat,ZZ n0 RJ 0 FK)/\
 ∀(n_6:Nat)(xd:Sl)(rO:Int)(FL:Heap),ZZ n_6 xd rO FL->Vars FL [(b1,[(Sl.v g)])]->
 ((decide (rO<(OQ.n:Int)))=true->
 fp OQ rO/\
 ∃RL:Sl,bF FL (Sl.at OQ rO 1)=some (Sl.v RL)/\
 aG aC 152 #[(Sl.v RL)] FL fun afJ FM=>∃xf:Sl,afJ=(Sl.v xf)/\Vars FM [(b1,[(Sl.v g)])]/\
 fp rt rO/\
 ∃K4:Int,bF FM (Sl.at rt rO 1)=some (VI K4)/\
 fp xf oB/\
 eX FM (Sl.at xf oB 1)/\Vars (dR FM (Sl.at xf oB 1) (VI K4)) [(b1,[(Sl.v g)])]/\
 ∀vE:Heap,vE=dR FM (Sl.at xf oB 1) (VI K4)->Vars vE [(b1,[(Sl.v g)])]->
 lQ aC (Instr.buildSlice qy 1 #[(0,(Sl.v xf))]) vE fun afK vF=>∃RN:Sl,afK=(Sl.v RN)/\Vars vF [(b1,[(Sl.v g)])]/\
 lQ aC (cE qy qy qy (Sl.v xd) (Sl.v RN)) vF fun afL Bk=>∃RO:Sl,afL=(Sl.v RO)/\Vars Bk [(b1,[(Sl.v g)])]/\
 ∃m:Nat,m<n_6/\ZZ m RO (aX (rO+1)) Bk)/\
 ((decide (rO<(OQ.n:Int)))=false->
 aG aC 212 #[(Sl.v xd)] FL fun afM Jg=>∃K5:Int,afM=(VI K5)/\Vars Jg [(b1,[(Sl.v g)])]/\
 fp kz Bj/\
 eX Jg (Sl.at kz Bj 1)/\Vars (dR Jg (Sl.at kz Bj 1) (VI K5)) [(b1,[(Sl.v g)])]/\
 ∀FN:Heap,FN=dR Jg (Sl.at kz Bj 1) (VI K5)->Vars FN [(b1,[(Sl.v g)])]->
 ∃m:Nat,m<n_5/\Rs m (aX (oB+1)) FN))/\
 ((decide (oB<(inner.n:Int)))=false->
 K (Value.tuple #[(Sl.v kz),(VI wY)]) oC):=by
 have hg:=C.cD
 have gl:=bA hg
 have il:=vz C.a0 C.a1 C.b0 C.b1 C.ne
 have l1:b1<h8.size:=gK.head.lt
 have wi:∀{F:aK},(∀k,F k->h8.size<=k)->∀p,p∈[(b1,[g.v])]->¬F p.1:=fun hF p hp hk=>by
  simp only[aO,aR,aN]at hp
  subst hp
  have:=hF _ hk
  (try simp only at this)
  omega
 have QQ:∀q,q∈cX aI.length a b->q<aI.length:=fun q hq=>(fG.1 hq).1
 have hQ:=(lY aI a b).2
 have hS:=wX hg a b
 have hDe:=Nk aI a b
 have hCe:=K3 aI a b own A B
 have hz0:=OO (g:=aI) own A B C.a0 C.b0 C.ne
 have PY:=fun k hk=>OP (g:=aI) (a:=a) (b:=b) own A B (k:=k) hk
 have Zt:=RG aI a b own A B
 have hRb:∀i,i<(cX aI.length a b).length->((pd aI a b own A B).getD i 0).natAbs<=10:=fun i hi=>by rw[vA aI a b own A B hi];exact hr i hi
 have dn:=C.den
 have ml:=(lY aI a b).1
 have rl:=pf aI a b own A B
 generalize cX aI.length a b=ps at*
 have Yn:(ps.map fun p:Nat=>(p:Int)).length=ps.length:=bG _
 have hQ':Sq (tN aI a b).length (tN aI a b):=by rw[ml];exact hQ
 have hS':Small (tN aI a b).length (dB (tN aI a b)):=by rw[ml];exact hS
 refine oA M8 hQ' (by omega) hS' _ fun Hb f22=>⟨_,rfl,gK.aB f22,?_⟩
 rw[ml,hDe]
 have z22:=f22.size
 refine fC gD (fun k=>Hb.size<=k) (fun _ h=>h) .i64 .i64 g.n g.n (aW _) (by omega) fun t RP n23 c23 o23 f23 m23 _=>⟨t,rfl,(gK.aB f22).aB f23,?_⟩
 have z23:=f23.size
 have OR:=(gK.aB f22).aB f23
 have o23:cH RP (Iv Hb.size RP.size) t (List.replicate aI.length 0):=by
  have e:(List.replicate g.n [VI 0]).flatten=(List.replicate aI.length (0:Int)).map VI:=by rw[gn];simp[ko]
  rw[e]at o23;exact Ow.gN o23
 have aad:∀p,p∈[(b1,[g.v])]->¬Iv Hb.size RP.size p.1:=wi fun k hk=>by have:=hk.1;omega
 refine gQ o23 C.a0 (by rw[ja];exact C.a1) OR aad _ fun UM o24 f24 V24=> ?_
 refine gQ o24 C.b0 (by rw[bY,ja];exact C.b1) V24 aad _ fun CS o25 f25 V25=> ?_
 have wd:∀X:Int,X=0\/X=1->aX (X*lW aI a b)=X*lW aI a b:=fun X hX=>aP _ (by rcases hX with rfl|rfl<;>omega) (by rcases hX with rfl|rfl<;>omega)
 rw[wd A hA,wd B hB,<-hz0]at o25
 have afN:=f24.trans f25
 have M23:cG (fun k=>k<Hb.size) RP OQ (tN aI a b):=((M8.no f22).no f23).mono fun k hk=>by omega
 have R23:bC (fun k=>k<Hb.size) RP rt (pd aI a b own A B):=((R8.no f22).no f23).mono fun k hk=>by omega
 have I23:bC (fun k=>k<Hb.size) RP inner (ps.map fun p:Nat=>(p:Int)):=((I8.no f22).no f23).mono fun k hk=>by omega
 refine⟨fun m k h'=>0<=k/\k+m=(ps.length:Int)/\cH h' (Iv Hb.size RP.size) t (Bi aI a b own A B k.toNat)/\Fr (fun q=>Hb.size<=q) RP h',⟨ps.length,cA _,by omega,o25,afN.mono fun q _ hq=>hq.1⟩,?_⟩
 rintro m3 k uL ⟨k0,k1,o26,f26⟩ td
 have z26:=f26.size
 have g26:Fr No h uL:=(((g8.aA f22).aA f23)).fresh f26 fun q hq=>by have:=g8.size;omega
 have RQ:∀{T:aK}{x y:Heap},Fr T x y->(∀q,T q->Hb.size<=q)->∀q,q<Hb.size->¬T q:=fun _ hT q hq hk=>by have:=hT q hk;omega
 have M26:=M23.fr f26 (RQ f26 fun q hq=>hq)
 have R26:=R23.fr f26 (RQ f26 fun q hq=>hq)
 have I26:=I23.fr f26 (RQ f26 fun q hq=>hq)
 refine⟨fun e3=> ?_,fun e3=> ?_⟩
 ·have hk:=I26.lt e3
  have Ua:k.toNat<ps.length:=by omega
  have cI:=I26.get k0 hk
  rw[p9]at cI
  have hpm:=bJ Ua
  have K6:=QQ _ hpm
  have aae:=PY k.toNat Ua
  refine⟨I26.bM k0 hk,_,cI,?_⟩
  refine bE ug (fun q=>uL.size<=q) (fun _ h=>h) 0 (by omega) [] rfl rfl fun ot TT n27 c27 QN f27 m27 _=>⟨ot,rfl,td.aB f27,?_⟩
  have amO:gy TT (fun q=>uL.size<=q) ot []:=⟨[],rfl,QN,fun i h1=>by simp at h1,fun i j h1=>by simp at h1,fun i h1=>by simp at h1⟩
  refine⟨fun m x i h'=>0<=i/\i+m=(ps.length:Int)/\gy h' (fun q=>uL.size<=q) x ((vB (tN aI a b) k.toNat (pd aI a b own A B)).take i.toNat)/\Fr (fun q=>uL.size<=q) uL h',⟨ps.length,cA _,by omega,amO,f27.aB⟩,?_⟩
  rintro m4 x i h28 ⟨i0,i1,o28,f28⟩ K7
  have z28:=f28.size
  have M28:=M26.fr f28 (RQ f28 fun q hq=>by omega)
  have R28:=R26.fr f28 (RQ f28 fun q hq=>by omega)
  refine⟨fun e4=> ?_,fun e4=> ?_⟩
  ·have hi:=M28.lt e4
   obtain⟨si,ci,ri⟩:=M28.get i0 hi
   have amP:=hQ'.row i.toNat (by omega)
   refine⟨M28.bM i0 hi,si,ci,zn ri (by omega) _ fun t2 h29 o29 f29=>⟨t2,rfl,K7.aB f29,?_⟩⟩
   have R29:=R28.no f29
   have z29:=f29.size
   refine⟨R29.bM i0 (by omega),_,R29.get i0 (by omega),gQ (o29.mono (F':=fun q=>h28.size<=q) fun q _ hq=>hq.1) k0 (by omega) (K7.aB f29) (wi fun q hq=>by omega) _ fun h30 o30 f30 V30=> ?_⟩
   have z30:=f30.size
   refine jE (lo:=uL.size) (m:=h28.size) (dJ.fr (dJ.gN o28) (f29.aB.trans f30) fun q _ hq ju=>by have:=hq.2;omega) o30 z28 (by omega) V30 (fun p hp=>by simp only[aO,aR,aN]at hp;subst hp;show b1<uL.size;omega) (by rw[fI];omega) _ fun t3 Zo o32 f32 V32=> ?_
   rw[M28.succ i0 hi]
   refine⟨m4-1,by omega,by omega,by omega,?_,((f28.trans f29.aB).trans (f30.mono fun q _ hq=>by omega)).trans f32⟩
   rw[show(i+1).toNat=i.toNat+1 by omega,Es (by omega),bB (by omega)]
   exact o32
  ·have hi:=M28.ge e4
   have pl:=nj (tN aI a b) k.toNat (pd aI a b own A B)
   rw[cT (by omega)]at o28
   have Qp:=Nl hQ k.toNat (pd aI a b own A B)
   have Sp:=uy hQ hS (k:=k.toNat) hRb
   have dp:=Bh hQ k.toNat (pd aI a b own A B)
   rw[hCe]at dp
   refine oA (dJ.rd o28) (by rw[pl,ml];exact Qp) (by omega) (by rw[pl,ml];exact Sp) _ fun h33 f33=>⟨_,rfl,K7.aB f33,?_⟩
   rw[pl,ml,dp]
   have Yo:=f28.trans f33.aB
   have o33:cH h33 (Iv Hb.size RP.size) t (Bi aI a b own A B k.toNat):=o26.fr Yo fun q hq ju=>by have:=(o26.aS hq).1.2;omega
   refine gQ o33 (i:=((ps[k.toNat]' Ua:Nat):Int)) (by omega) (by rw[nk];omega) (K7.aB f33) aad _ fun h34 o34 f34 V34=> ?_
   rw[I26.succ k0 hk]
   refine⟨m3-1,by omega,by omega,by omega,?_,(f26.trans (Yo.mono fun q _ hq=>by omega)).trans (f34.mono fun q _ hq=>hq.1)⟩
   rw[show(k+1).toNat=k.toNat+1 by omega,aae]
   simp only[Int.toNat_natCast]at o34
   exact o34
 ·have hk:=I26.ge e3
  rw[show k.toNat=ps.length by omega,Zt]at o26
  exact HK t uL (o26.mono fun q _ hq=>⟨by have:=hq.1;have:=g8.size;omega,by have:=hq.2;omega⟩) g26
set_option maxHeartbeats 4000000 in
theorem RR{S:aK}{h:Heap}{g:Sl}{aI:aE}(G:cG S h g aI){a b:Int}(C:Can aI a b)(ow:Value)(own:Int->Int){A B:Int}(hA:A=0\/A=1)(hB:B=0\/B=1)(hw:∀p:Nat,0<=own p/\own p<=5)(hr:∀i,i<(cX aI.length a b).length->(KZ aI a b own A B i).natAbs<=10)
 (hO:∀(p:Nat)(h':Heap)(K':aL),p<aI.length->Fr No h h'->K' (VI (own p)) h'->iQ aC ow [VI p] h' K') (K:aL) (HK:∀t h',cH h' (Iv h.size h'.size) t (FJ aI a b own A B)->Fr No h h'->K (.tuple #[t.v,VI (lW aI a b)]) h'):aG aC 261 #[.agg #[g.v],VI a,VI b,ow,VI A,VI B] h K:=by
 have hg:=C.cD
 have gl:=bA hg
 have fL:=C.ne
 have il:=vz C.a0 C.a1 C.b0 C.b1 C.ne
 refine alA g a b ow A B h K fun b1 h1 fK f1 cY=> ?_
 have f1:=f1.aM
 have z1:=f1.size
 have l1:b1<h1.size:=cY.head.lt
 have wi:∀{F:aK},(∀k,F k->h1.size<=k)->∀p,p∈[(b1,[g.v])]->¬F p.1:=fun hF p hp hk=>by
  simp only[aO,aR,aN]at hp
  subst hp
  have:=hF _ hk
  (try simp only at this)
  omega
 refine bE gD (fun k=>h1.size<=k) (fun _ h=>h) 0 (by omega) [] rfl rfl fun u h2 n2 c2 o2 f2 m2 _=>⟨u,rfl,cY.aB f2,?_⟩
 refine⟨fun m x p h'=>0<=p/\p+m=(aI.length:Int)/\cH h' (fun k=>h1.size<=k) x ((cX p.toNat a b).map fun p:Nat=>(p:Int))/\Fr (fun k=>h1.size<=k) h1 h',⟨aI.length,cA _,by omega,o2,f2.aB⟩,?_⟩
 rintro m inner p h3 ⟨p0,p1,o3,f3⟩ dI
 have g3:=f1.fresh f3 fun k hk=>by omega
 have gn:=G.len
 refine⟨fun e=> ?_,fun e=> ?_⟩
 ·have hp:=G.lt e
  have eit:=Je (a:=a) (b:=b) (show p.toNat<p.toNat+1 by omega)
  rw[G.succ p0 hp]
  have next:tm a b p.toNat=false->∃m':Nat,m'<m/\0<=p+1/\p+1+m'=(aI.length:Int)/\cH h3 (fun k=>h1.size<=k) inner ((cX (p+1).toNat a b).map fun p:Nat=>(p:Int))/\Fr (fun k=>h1.size<=k) h1 h3:=fun hi=>by
   rw[show(p+1).toNat=p.toNat+1 by omega,eit,hi]
   exact⟨m-1,by omega,by omega,by omega,o3,f3⟩
  refine⟨fun e2=>⟨fun e3=> ?_,fun e3=>next ?_⟩,fun e2=>next ?_⟩
  ·have e2:=bU e2
   have e3:=bU e3
   simp only[aY]at e2 e3
   have hi:tm a b p.toNat=true:=nh.2 ⟨by omega,by omega⟩
   refine nR (lo:=h1.size) o3 f3.size dI (fun p hp=>by simp only[aO,aR,aN]at hp;subst hp;exact l1) (by rw[bG];unfold cX;have:=Ba (tm a b) (List.range p.toNat);rw[gj]at this;omega) _ fun t h4 o4 f4 V4=> ?_
   refine⟨m-1,by omega,by omega,by omega,?_,f3.trans f4⟩
   rw[show(p+1).toNat=p.toNat+1 by omega,eit,hi,aJ rfl,cV,bK,iY,Int.toNat_of_nonneg p0]
   exact o4
  ·have e3:=bQ e3
   simp only[aT]at e3
   exact Bool.eq_false_iff.2 fun h=>(nh.1 h).2 (by omega)
  ·have e2:=bQ e2
   simp only[aT]at e2
   exact Bool.eq_false_iff.2 fun h=>(nh.1 h).1 (by omega)
 have hp:=G.ge e
 rw[show p.toNat=aI.length by omega]at o3
 have rI:bC (fun k=>k<h3.size) h3 inner ((cX aI.length a b).map fun p:Nat=>(p:Int)):=bC.low o3.fM
 have ti:∀q,q∈cX aI.length a b->(q:Int)≠a/\(q:Int)≠b:=fun q hq=>(fG.1 hq).2
 have QQ:∀q,q∈cX aI.length a b->q<aI.length:=fun q hq=>(fG.1 hq).1
 have hMg:∀(i:Nat)(h:i<(cX aI.length a b).length),(tN aI a b).getD i []=fy (cX aI.length a b) (cX aI.length a b)[i] (aI.getD (cX aI.length a b)[i] []) (aI.getD (cX aI.length a b)[i] []).length:=fun i h=>(bH (by rw[(lY aI a b).1];exact h)).trans (cK _)
 have hRg:∀(i:Nat)(h:i<(cX aI.length a b).length),(pd aI a b own A B).getD i 0=Ja aI a b own A B (cX aI.length a b)[i]:=fun i h=>(bB (by rw[pf];exact h)).trans (cK _)
 have dn:=C.den
 have ml:=(lY aI a b).1
 have rl:=pf aI a b own A B
 have hr':∀i,i<(cX aI.length a b).length->(KZ aI a b own A B i).natAbs<=10:=hr
 clear hr
 generalize RS:cX aI.length a b=ps at ti QQ hMg hRg il ml rl o3 rI
 have nd:ps.Nodup:=by rw[<-RS];exact FE _ _ _
 have z3:=f3.size
 refine bE ug (fun k=>h3.size<=k) (fun _ h=>h) 0 (by omega) [] rfl rfl fun m0 h6 n6 c6 o6 f6 m6 _=>⟨m0,rfl,dI.aB f6,?_⟩
 refine bE gD (fun k=>h6.size<=k) (fun _ h=>h) 0 (by omega) [] rfl rfl fun r0 h7 n7 c7 o7 f7 m7 _=>⟨r0,rfl,(dI.aB f6).aB f7,?_⟩
 have z6:=f6.size
 have z7:=f7.size
 refine⟨fun m OQ rt i h'=>0<=i/\i+m=(ps.length:Int)/\gy h' (fun k=>h3.size<=k/\¬rt.own k) OQ ((tN aI a b).take i.toNat)/\cH h' (fun k=>h3.size<=k) rt ((pd aI a b own A B).take i.toNat)/\Fr (fun k=>h3.size<=k) h3 h',⟨ps.length,cA _,by omega,⟨[],rfl,(o6.no f7).mono fun k hk hF=>⟨hF,fun hr=> ?_⟩,fun i h1=>by simp at h1,fun i j h1=>by simp at h1,fun i h1=>by simp at h1⟩,o7.mono fun k _ hk=>by omega,f6.aB.trans f7.aB⟩,?_⟩
 ·have h1:=(o6.aS hk).2
  have h2:=(o7.aS hr).1
  (try simp only at h2)
  omega
 rintro m OQ rt i h8 ⟨i0,i1,om,or',f8⟩ gK
 have g8:=(g3.fresh f8 fun k hk=>by have:=g3.size;omega)
 have z8:=f8.size
 have rI8:=rI.fr f8 fun k hk aQ=>by omega
 have Yn:(ps.map fun p:Nat=>(p:Int)).length=ps.length:=bG _
 refine⟨fun e2=> ?_,fun e2=> ?_⟩
 ·have hi:=rI8.lt e2
  have jM:i.toNat<ps.length:=by omega
  have cI:=rI8.get i0 hi
  rw[p9]at cI
  have hpm:=bJ jM
  have K6:=QQ _ hpm
  have ju:=ti _ hpm
  generalize hP:ps[i.toNat]' jM=P at cI hpm K6 ju
  have mi:OQ.n=i.toNat:=by have:=om.len;rw[fI]at this;omega
  refine⟨rI8.bM i0 hi,_,cI,?_⟩
  have Yp:inner.n=ps.length:=by have:=rI.len;rw[Yn]at this;exact this
  have gm:=bL hg (bJ K6)
  have eg:aI.getD P []=aI[P]:=bH K6
  refine⟨fun x s h'=>cH h' (fun k=>h8.size<=k) x (List.replicate ps.length 0)/\s=own P/\Fr No h8 h',⟨?_,?_⟩,?_⟩
  ·refine fC gD (fun k=>h8.size<=k) (fun _ h=>h) .i64 .i64 inner.n inner.n (aW _) (by omega) fun t h9 n9 c9 o9 f9 m9 _=>⟨t,rfl,gK.aB f9,?_⟩
   refine hO P h9 _ K6 (g8.aA f9) ⟨_,rfl,gK.aB f9,?_,rfl,f9⟩
   have e:(List.replicate inner.n [VI 0]).flatten=(List.replicate ps.length (0:Int)).map VI:=by rw[Yp];simp[ko]
   rw[e]at o9;exact o9
  ·refine hO P h8 _ K6 g8 ⟨_,rfl,gK,?_⟩
   refine fC gD (fun k=>h8.size<=k) (fun _ h=>h) .i64 .i64 inner.n inner.n (aW _) (by omega) fun t h9 n9 c9 o9 f9 m9 _=>⟨t,rfl,gK.aB f9,?_,rfl,f9⟩
   have e:(List.replicate inner.n [VI 0]).flatten=(List.replicate ps.length (0:Int)).map VI:=by rw[Yp];simp[ko]
   rw[e]at o9;exact o9
  rintro x s uh ⟨KU,rfl,f13⟩ QG
  have G8:=G.no g8
  obtain⟨sp,cp8,rp8⟩:=G8.get (i:=(P:Int)) (by omega) (by omega)
  simp only[Int.toNat_natCast]at rp8
  have ln:=rp8.len
  have cpk:∀{h':Heap},Fr (fun k=>h8.size<=k) h8 h'->bF h' (g.at (P:Int) 1)=some sp.v:=fun f=>dG cp8 f (by have:=oL cp8;omega)
  have bM:=G8.bM (i:=(P:Int)) (by omega) (by omega)
  refine⟨bM,sp,cpk f13.aB,?_⟩
  rw[<-K0 ps P]at KU
  refine⟨fun m2 s j h'=>0<=j/\j+m2=(aI[P].length:Int)/\s=own P+A*gE a (aI[P].take j.toNat)+B*gE b (aI[P].take j.toNat)/\cH h' (fun k=>h8.size<=k) x (fy ps P (aI[P].take j.toNat) 0)/\Fr (fun k=>h8.size<=k) h8 h',⟨aI[P].length,cA _,by omega,by simp[gE],by simpa using KU,f13.aB⟩,?_⟩
  rintro m2 s j TY ⟨j0,j1,rfl,Vm,f14⟩ RW
  have RX:=rp8.low.fr f14 fun k hk aQ=>by omega
  have wP:=hw P
  have oa:=RH hA (rN gm.1 j.toNat).1 (rN (a:=a) gm.1 j.toNat).2
  have ob:=RH hB (rN gm.1 j.toNat).1 (rN (a:=b) gm.1 j.toNat).2
  have Pv:=dX ps P (aI[P].take j.toNat) 0
  refine⟨fun e3=> ?_,fun e3=> ?_⟩
  ·have hj:=RX.lt e3
   have hv:=gm.2 _ (bJ (show j.toNat<aI[P].length by omega))
   have hc:=RX.get j0 hj
   have tk:aI[P].take (j+1).toNat=_:=fu _ j0 hj
   generalize aI[P][j.toNat]'(by omega)=v at hv hc tk
   rw[RX.succ j0 hj]
   have nxt:∀(s':Int)(h':Heap),s'=own P+A*gE a (aI[P].take (j+1).toNat)+B*gE b (aI[P].take (j+1).toNat)->cH h' (fun k=>h8.size<=k) x (fy ps P (aI[P].take (j+1).toNat) 0)->Fr (fun k=>h8.size<=k) h8 h'->∃m':Nat,m'<m2/\0<=j+1/\j+1+m'=(aI[P].length:Int)/\s'=own P+A*gE a (aI[P].take (j+1).toNat)+B*gE b (aI[P].take (j+1).toNat)/\cH h' (fun k=>h8.size<=k) x (fy ps P (aI[P].take (j+1).toNat) 0)/\Fr (fun k=>h8.size<=k) h8 h':=fun s' h' a1 a2 a3=>⟨m2-1,by omega,by omega,by omega,a1,a2,a3⟩
   refine⟨RX.bM j0 hj,_,hc,fun e4=> ?_,fun e4=>⟨fun e5=> ?_,fun e5=> ?_⟩⟩
   ·simp only[aT]at e4
    refine nxt _ _ ?_ ?_ f14
    ·rw[tk,jH,jH,aJ e4,aF (by omega),aP _ (by omega) (by omega),lr,Int.mul_one,lR]
     omega
    ·rw[tk,Bg fun q hq=>by rw[e4];exact(ti q hq).1]
     exact Vm
   ·simp only[aT,aY]at e4 e5
    refine nxt _ _ ?_ ?_ f14
    ·rw[tk,jH,jH,aF e4,aJ e5,aP _ (by omega) (by omega),lr B,Int.mul_one,lR]
     omega
    ·rw[tk,Bg fun q hq=>by rw[e5];exact(ti q hq).2]
     exact Vm
   ·simp only[aY]at e4 e5
    have amS:=rI8.fr f14 fun k hk aQ=>by omega
    refine AH amS v _ (fun hn=>absurd ?_ hn) fun q hq ev _=>⟨_,rfl,RW,?_⟩
    ·rw[dL]
     exact⟨v.toNat,by rw[<-RS];exact fG.2 ⟨by omega,by omega,by omega⟩,by omega⟩
    rw[Yn]at hq
    rw[bB (by rw[Yn];exact hq),p9]at ev
    have Yq:=Vm.fM
    have hql:q<(fy ps P (aI[P].take j.toNat) 0).length:=by rw[Pv];exact hq
    refine⟨bC.bM Yq (by omega) (by omega),_,bC.get Yq (i:=(q:Int)) (by omega) (by omega),gQ (F:=fun k=>h8.size<=k) Vm (i:=(q:Int)) (by omega) (by omega) RW (wi fun k hk=>by omega) _ fun Ov Vo f16 V16=> ?_⟩
    refine nxt _ _ ?_ ?_ (f14.trans f16)
    ·rw[tk,jH,jH,aF e4,aF e5,lR,lR]
    ·rw[tk,K1 nd hq ev,bB hql]
     simp only[Int.toNat_natCast]at Vo
     have hb:aX ((fy ps P (aI[P].take j.toNat) 0)[q]-1)=(fy ps P (aI[P].take j.toNat) 0)[q]-1:=by
      rw[hJ]
      have:=rN (a:=((ps[q]:Nat):Int)) gm.1 j.toNat
      exact aP _ (by split<;>omega) (by split<;>omega)
     rw[hb]at Vo
     exact Vo
  ·have hj:=RX.ge e3
   rw[cT (by omega)]at Vm oa ob Pv
   have Yq:=Vm.fM
   have Yj:i.toNat<(fy ps P aI[P] 0).length:=by rw[Pv];exact jM
   have mI:(OQ.n:Int)=i:=by omega
   rw[mI,cT (by omega)]
   refine⟨bC.bM Yq i0 (by omega),_,bC.get Yq i0 (by omega),bM,sp,cpk f14,gQ (F:=fun k=>h8.size<=k) Vm i0 (by omega) RW (wi fun k hk=>by omega) _ fun KD o17 f17 V17=> ?_⟩
   have afg:(fy ps P aI[P] 0).set i.toNat (aX ((fy ps P aI[P] 0)[i.toNat]' Yj+(sp.n:Int)))=fy ps P (aI.getD P []) (aI.getD P []).length:=by
    have h1:=ON (l:=aI[P]) (L:=(aI[P].length:Int)) nd jM
    rw[hP]at h1
    rw[eg,h1,bB Yj]
    congr 1
    rw[hJ]
    have:=rN (a:=((ps[i.toNat]:Nat):Int)) gm.1 aI[P].length
    rw[List.take_length]at this
    have:=gm.1
    exact(aP _ (by split<;>omega) (by split<;>omega)).trans (by omega)
   rw[afg]at o17
   have RY:=f14.trans f17
   have z17:=RY.size
   have as6:=dJ.fr om RY fun k hk _ aQ=>by omega
   have aag:(tN aI a b).take (i+1).toNat=(tN aI a b).take i.toNat++[fy ps P (aI.getD P []) (aI.getD P []).length]:=by
    rw[show(i+1).toNat=i.toNat+1 by omega,og (by omega)]
    rw[<-bH (by omega),hMg i.toNat jM,hP]
   have aah:(pd aI a b own A B).take (i+1).toNat=(pd aI a b own A B).take i.toNat++[own P+A*gE a aI[P]+B*gE b aI[P]]:=by
    rw[show(i+1).toNat=i.toNat+1 by omega,og (by omega),<-bB (by omega),hRg i.toNat jM,hP]
    unfold Ja
    rw[eg]
   have rtl:∀{k},rt.own k->k<h8.size:=fun hk=>(or'.aS hk).2
   refine rA (F:=fun k=>h3.size<=k/\¬rt.own k) (m:=h8.size) (dJ.fr (om.mono fun k hk hF=>(⟨hF,hk⟩:(h3.size<=k/\¬rt.own k)/\k<h8.size)) RY fun k _ hk aQ=>by have:=hk.2;omega) o17 (fun k hk=>⟨by omega,fun aQ=>by have:=rtl aQ;omega⟩) z17 V17 (wi (F:=fun k=>h3.size<=k/\¬rt.own k) fun k hk=>by have:=hk.1;omega) (by rw[fI];omega) _ fun t Fm VW f19 V19=> ?_
   have z19:=f19.size
   have amT:=or'.fr RY fun k hk aQ=>by have:=rtl hk;omega
   have afU:=amT.fr f19 fun k hk aQ=>aQ.2 hk
   refine bE gD (fun k=>Fm.size<=k) (fun _ h=>h) 1 (by omega) [VI (own P+A*gE a aI[P]+B*gE b aI[P])] rfl rfl fun u2 Q4 n20 c20 ZH f20 m20 _=>⟨u2,rfl,V19.aB f20,?_⟩
   have z20:=f20.size
   have ru:bC (fun k=>Fm.size<=k) Q4 u2 [own P+A*gE a aI[P]+B*gE b aI[P]]:=ZH.fM
   refine cP gD (afU.no f20) (fun k hk=>by omega) ru (fU _) (by have h1:=bC.len afU.fM;have h2:=ru.len;simp at h1 h2;omega) fun y TZ n21 Yh f21 d21=>⟨y,rfl,(V19.aB f20).fr f21 (fun q hq hk=>wi (F:=fun k=>h1.size<=k) (fun k hk=>hk) q hq (by have:=(or'.aS hk).1;omega)),?_⟩
   rw[rI8.succ i0 hi]
   (try simp only)
   rw[aag,aah]
   refine⟨m-1,by omega,by omega,by omega,?_,by show Ow _ _ _ _ _ _;rw[cV];exact Yh,((f8.trans (RY.mono fun k _ hk=>by omega)).trans (f19.mono fun k _ hk=>hk.1)).trans (f20.aB.trans (f21.mono fun k _ hk=>(or'.aS hk).1))⟩
   refine(dJ.fr (dJ.no (VW.mono fun k hk hF=>(⟨hF,hk⟩:(h3.size<=k/\¬rt.own k)/\k<Fm.size)) f20) f21 fun k _ hk aQ=>hk.1.2 aQ).mono fun k _ hF=>⟨hF.1.1,fun aQ=> ?_⟩
   rcases d21 k aQ with hd|hd
   ·exact hF.1.2 hd
   ·have:=hF.2
    omega
 ·have hi:=rI8.ge e2
  have jM:i.toNat=ps.length:=by omega
  rw[cT (by omega)]at om or'
  have M8:cG (fun k=>k<h8.size) h8 OQ (tN aI a b):=(dJ.rd om).mono fun k hk=>hk.2
  have R8:bC (fun k=>k<h8.size) h8 rt (pd aI a b own A B):=bC.low or'.fM
  have I8:bC (fun k=>k<h8.size) h8 inner (ps.map fun p:Nat=>(p:Int)):=rI8.mono fun k hk=>by omega
  rw[<-RS]at I8
  exact aac C hA hB hr' gn g8 gK M8 R8 I8 K HK
theorem VX{full:aH}{m j:Nat}(h:j<m)(hl:full.length=m):(full.take j++(List.replicate m (0:Int)).drop j).set j 0=full.take j++(List.replicate m (0:Int)).drop j:=by
 rw[List.set_append_right _ _ (by rw[fI];omega),fI,show j-min j full.length=0 by omega,List.drop_replicate]
 obtain⟨d,hd⟩:∃d,m-j=d+1:=⟨m-j-1,by omega⟩
 rw[hd,List.replicate_succ]
 rfl
set_option maxHeartbeats 4000000 in
theorem K8{S:aK}{h:Heap}{g:Sl}{aI:aE}(G:cG S h g aI)(hg:aZ aI=true)(a b:Int)(K:aL)(HK:∀t u h',bC (fun k=>k<h'.size) h' t ((cX aI.length a b).map fun p:Nat=>(p:Int))->cG (fun k=>k<h'.size) h' u (tN aI a b)->Fr No h h'->K (.tuple #[t.v,u.v]) h'):aG aC 234 #[.agg #[g.v],VI a,VI b] h K:=by
 have gl:=bA hg
 refine v234 g a b h K fun b1 h1 fK f1 cY=> ?_
 have f1:=f1.aM
 have z1:=f1.size
 have l1:b1<h1.size:=cY.head.lt
 have gn:=G.len
 refine⟨fun m x p h'=>0<=p/\p+m=(aI.length:Int)/\cH h' (fun k=>h1.size<=k) x ((cX p.toNat a b).map fun p:Nat=>(p:Int))/\Fr (fun k=>h1.size<=k) h1 h',⟨aI.length,cA _,by omega,Ow.nil _ _ _ _,Fr.refl _ _⟩,?_⟩
 rintro m pl p h3 ⟨p0,p1,o3,f3⟩ dI
 have g3:=f1.fresh f3 fun k hk=>by omega
 refine⟨fun e=> ?_,fun e=> ?_⟩
 ·have hp:=G.lt e
  have eit:=Je (a:=a) (b:=b) (show p.toNat<p.toNat+1 by omega)
  rw[G.succ p0 hp]
  have next:tm a b p.toNat=false->∃m':Nat,m'<m/\0<=p+1/\p+1+m'=(aI.length:Int)/\cH h3 (fun k=>h1.size<=k) pl ((cX (p+1).toNat a b).map fun p:Nat=>(p:Int))/\Fr (fun k=>h1.size<=k) h1 h3:=fun hi=>by
   rw[show(p+1).toNat=p.toNat+1 by omega,eit,hi]
   exact⟨m-1,by omega,by omega,by omega,o3,f3⟩
  refine⟨fun e2=>⟨fun e3=> ?_,fun e3=>next ?_⟩,fun e2=>next ?_⟩
  ·have e2:=bU e2
   have e3:=bU e3
   simp only[aY]at e2 e3
   have hi:tm a b p.toNat=true:=nh.2 ⟨by omega,by omega⟩
   refine nR (lo:=h1.size) o3 f3.size dI (fun p hp=>by simp only[aO,aR,aN]at hp;subst hp;exact l1) (by rw[bG];unfold cX;have:=Ba (tm a b) (List.range p.toNat);rw[gj]at this;omega) _ fun t h4 o4 f4 V4=> ?_
   refine⟨m-1,by omega,by omega,by omega,?_,f3.trans f4⟩
   rw[show(p+1).toNat=p.toNat+1 by omega,eit,hi,aJ rfl,cV,bK,iY,Int.toNat_of_nonneg p0]
   exact o4
  ·have e3:=bQ e3
   simp only[aT]at e3
   exact Bool.eq_false_iff.2 fun h=>(nh.1 h).2 (by omega)
  ·have e2:=bQ e2
   simp only[aT]at e2
   exact Bool.eq_false_iff.2 fun h=>(nh.1 h).1 (by omega)
 have hp:=G.ge e
 rw[show p.toNat=aI.length by omega]at o3
 have z3:=f3.size
 have rI:bC (fun k=>k<h3.size) h3 pl ((cX aI.length a b).map fun p:Nat=>(p:Int)):=bC.low o3.fM
 have QQ:∀q,q∈cX aI.length a b->q<aI.length:=fun q hq=>(fG.1 hq).1
 have hMg:∀(i:Nat)(h:i<(cX aI.length a b).length),(tN aI a b).getD i []=fy (cX aI.length a b) (cX aI.length a b)[i] (aI.getD (cX aI.length a b)[i] []) (aI.getD (cX aI.length a b)[i] []).length:=fun i h=>(bH (by rw[(lY aI a b).1];exact h)).trans (cK _)
 have ml:=(lY aI a b).1
 have amU:(cX aI.length a b).length<=8:=by unfold cX;have:=Ba (tm a b) (List.range aI.length);rw[gj]at this;omega
 generalize RS:cX aI.length a b=ps at QQ hMg ml o3 rI amU
 have Yn:(ps.map fun p:Nat=>(p:Int)).length=ps.length:=bG _
 have pn:pl.n=ps.length:=by have:=rI.len;rw[Yn]at this;exact this
 refine⟨fun m x i h'=>0<=i/\i+m=(ps.length:Int)/\gy h' (fun k=>h3.size<=k) x ((tN aI a b).take i.toNat)/\Fr (fun k=>h3.size<=k) h3 h',⟨ps.length,cA _,by omega,dJ.nil _ _ _ _,Fr.refl _ _⟩,?_⟩
 rintro m2 x i h5 ⟨i0,i1,o5,f5⟩ ie
 have z5:=f5.size
 have g5:=g3.fresh f5 fun k hk=>by have:=g3.size;omega
 have rI5:=rI.fr f5 fun k hk aQ=>by omega
 refine⟨fun e2=> ?_,fun e2=> ?_⟩
 ·have hi:=rI5.lt e2
  have jM:i.toNat<ps.length:=by omega
  have cI:=rI5.get i0 hi
  rw[p9]at cI
  have K6:=QQ _ (bJ jM)
  have hMi:=hMg i.toNat jM
  generalize ps[i.toNat]' jM=P at cI K6 hMi
  have gm:=bL hg (bJ K6)
  have eg:aI.getD P []=aI[P]:=bH K6
  rw[eg]at hMi
  have G5:=G.no g5
  obtain⟨sp,cp5,rp5⟩:=G5.get (i:=(P:Int)) (by omega) (by omega)
  simp only[Int.toNat_natCast]at rp5
  have ln:=rp5.len
  have cpk:∀{h':Heap},Fr (fun k=>h5.size<=k) h5 h'->bF h' (g.at (P:Int) 1)=some sp.v:=fun f=>dG cp5 f (by have:=oL cp5;omega)
  have bM:=G5.bM (i:=(P:Int)) (by omega) (by omega)
  have fl:=dX ps P aI[P] (aI[P].length:Int)
  have fg:∀j(h:j<ps.length),(fy ps P aI[P] (aI[P].length:Int))[j]'(by rw[fl];exact h)=(if ps[j]=P then(aI[P].length:Int)else 0)-gE (ps[j]:Nat) aI[P]:=fun j h=>hJ _
  generalize hF:fy ps P aI[P] (aI[P].length:Int)=F at hMi fl fg
  refine⟨rI5.bM i0 hi,_,cI,?_⟩
  refine fC gD (fun k=>h5.size<=k) (fun _ h=>h) .i64 .i64 pl.n pl.n (aW _) (by omega) fun t h6 n6 c6 o6 f6 m6 _=>⟨t,rfl,ie.aB f6,?_⟩
  have o6:cH h6 (fun k=>h5.size<=k) t (List.replicate ps.length 0):=by
   have e:(List.replicate pl.n [VI 0]).flatten=(List.replicate ps.length (0:Int)).map VI:=by rw[pn];simp[ko]
   rw[e]at o6;exact o6
  have off:∀p,p∈[(b1,[g.v])]->¬h5.size<=p.1:=fun p hp=>by
   simp only[aO,aR,aN]at hp
   subst hp
   show¬h5.size<=b1
   omega
  refine⟨fun m j h'=>0<=j/\j+m=(ps.length:Int)/\cH h' (fun k=>h5.size<=k) t (F.take j.toNat++(List.replicate ps.length (0:Int)).drop j.toNat)/\Fr (fun k=>h5.size<=k) h5 h',⟨ps.length,cA _,by omega,by simpa using o6,f6.aB⟩,?_⟩
  rintro m3 j h7 ⟨j0,j1,o7,f7⟩ kL
  have rI7:=rI5.fr f7 fun k hk aQ=>by omega
  have tl:(F.take j.toNat++(List.replicate ps.length (0:Int)).drop j.toNat).length=ps.length:=by rw[cB,fI,uV,ja];omega
  refine⟨fun e3=> ?_,fun e3=> ?_⟩
  ·have hj:=rI7.lt e3
   have Iw:j.toNat<ps.length:=by omega
   have cJ:=rI7.get j0 hj
   rw[p9]at cJ
   have hFj:=fg j.toNat Iw
   generalize ps[j.toNat]' Iw=Q at cJ hFj
   have mz:=VX Iw fl
   generalize hT:F.take j.toNat++(List.replicate ps.length (0:Int)).drop j.toNat=T at o7 tl mz
   have jl:j<(T.length:Int):=by omega
   have Yr:∀{v:Int}(h:j.toNat<(T.set j.toNat v).length),(T.set j.toNat v)[j.toNat]'h=v:=fun h=>by rw[fR];exact aJ rfl
   refine⟨rI7.bM j0 hj,_,cJ,?_⟩
   refine⟨fun h'=>cH h' (fun k=>h5.size<=k) t (T.set j.toNat (if Q=P then(aI[P].length:Int)else 0))/\Fr (fun k=>h5.size<=k) h5 h',⟨fun e4=> ?_,fun e4=> ?_⟩,?_⟩
   ·simp only[aT]at e4
    have R7:=o7.fM
    have hz:T[j.toNat]'(by omega)=0:=by
     have:=Yr (v:=0) (by rw[bY];omega)
     rw[<-this]
     congr 1
     exact mz.symm
    refine⟨bC.bM R7 j0 jl,_,bC.get R7 j0 jl,bM,sp,cpk f7,gQ (F:=fun k=>h5.size<=k) o7 j0 jl kL off _ fun h8 o8 f8 V8=>⟨?_,f7.trans f8⟩⟩
    rw[aJ (by omega)]
    rw[hz,aP _ (by omega) (by omega),mD,ln]at o8
    exact o8
   ·simp only[aY]at e4
    refine⟨?_,f7⟩
    rw[aF (by omega),mz]
    exact o7
   rintro h9 ⟨o9,f9⟩ iG
   refine⟨bM,sp,cpk f9,?_⟩
   refine⟨fun m q h'=>0<=q/\q+m=(aI[P].length:Int)/\cH h' (fun k=>h5.size<=k) t (T.set j.toNat ((if Q=P then(aI[P].length:Int)else 0)-gE (Q:Int) (aI[P].take q.toNat)))/\Fr (fun k=>h5.size<=k) h5 h',⟨aI[P].length,cA _,by omega,by simpa[gE]using o9,f9⟩,?_⟩
   rintro m4 q eW ⟨q0,q1,kW,f10⟩ fe
   have RZ:=rp5.low.fr f10 fun k hk aQ=>by omega
   refine⟨fun e5=> ?_,fun e5=> ?_⟩
   ·have hq:=RZ.lt e5
    have hc:=RZ.get q0 hq
    have tk:aI[P].take (q+1).toNat=_:=fu _ q0 hq
    have so:=rN (a:=(Q:Int)) gm.1 q.toNat
    generalize aI[P][q.toNat]'(by omega)=v at hc tk
    rw[RZ.succ q0 hq]
    refine⟨RZ.bM q0 hq,_,hc,fun e6=> ?_,fun e6=> ?_⟩
    ·simp only[aT]at e6
     have R10:=kW.fM
     have sl:(T.set j.toNat ((if Q=P then(aI[P].length:Int)else 0)-gE (Q:Int) (aI[P].take q.toNat))).length=T.length:=bY
     refine⟨bC.bM R10 j0 (by omega),_,bC.get R10 j0 (by omega),gQ (F:=fun k=>h5.size<=k) kW j0 (by omega) fe off _ fun gP kp f11 ZB=> ?_⟩
     refine⟨m4-1,by omega,by omega,by omega,?_,f10.trans f11⟩
     rw[tk,jH,aJ e6]
     rw[List.set_set,Yr,aP _ (by split<;>omega) (by split<;>omega)]at kp
     rw[show∀x y:Int,x-(y+1)=x-y-1 by omega]
     exact kp
    ·simp only[aY]at e6
     refine⟨m4-1,by omega,by omega,by omega,?_,f10⟩
     rw[tk,jH,aF e6,lR]
     exact kW
   ·have hq:=RZ.ge e5
    rw[cT (by omega),<-hFj,<-hT]at kW
    have sm:=UK F (List.replicate ps.length (0:Int)) j.toNat (by omega) (by rw[ja];omega)
    rw[sm]at kW
    rw[rI7.succ j0 hj]
    refine⟨m3-1,by omega,by omega,by omega,?_,f10⟩
    rw[show(j+1).toNat=j.toNat+1 by omega]
    exact kW
  ·have hj:=rI7.ge e3
   rw[cT (by omega),AZ (by rw[ja];omega),jb]at o7
   have z7:=f7.size
   refine jE (lo:=h3.size) (m:=h5.size) (dJ.fr (dJ.gN o5) f7 fun k _ hk aQ=>by have:=hk.2;omega) o7 z5 z7 kL (fun p hp=>by simp only[aO,aR,aN]at hp;subst hp;show b1<h3.size;omega) (by rw[fI];omega) _ fun t2 iH Ku f12 Mw=> ?_
   rw[rI5.succ i0 hi]
   refine⟨m2-1,by omega,by omega,by omega,?_,(f5.trans (f7.mono fun k _ hk=>by omega)).trans f12⟩
   rw[show(i+1).toNat=i.toNat+1 by omega,og (by omega),<-bH (by omega),hMi]
   exact Ku
 ·have hi:=rI5.ge e2
  rw[cT (by omega)]at o5
  rw[RS]at HK
  exact HK pl x h5 (rI5.mono fun k hk=>by omega) ((dJ.rd o5).mono fun k hk=>hk.2) g5
def K9(rows:aE)(r:aH):aH:=(List.range rows.length).map fun j=>dT rows.length (p8 (dB rows) j fun i=>r.getD i 0)
set_option maxHeartbeats 2000000 in
theorem OS{S S2:aK}{h:Heap}{m r:Sl}{rows:aE}{rs:aH}(M:cG S h m rows)(R:bC S2 h r rs)(hl:rs.length=rows.length)(Q:Sq rows.length rows)(hn:rows.length<=7)(hb:Small rows.length (dB rows))(hr:∀i,i<rows.length->(rs.getD i 0).natAbs<=10)(K:aL)(HK:∀t h',bC (fun k=>k<h'.size) h' t (K9 rows rs)->Fr No h h'->K (.tuple #[t.v,VI (dT rows.length (dB rows))]) h'):aG aC 235 #[m.v,r.v] h K:=by
 refine ala m r h K ?_
 refine zD rows.length M Q hn hb _ fun h1 f1=>⟨_,rfl,.nil,?_⟩
 have M1:=M.low.no f1
 have R1:=bC.low R|>.no f1
 have z1:=f1.size
 have sl:(K9 rows rs).length=rows.length:=by unfold K9;rw[bG,gj]
 refine⟨fun n x k h'=>0<=k/\k+n=(rows.length:Int)/\cH h' (fun q=>h1.size<=q) x ((K9 rows rs).take k.toNat)/\Fr (fun q=>h1.size<=q) h1 h',⟨rows.length,cA _,by omega,Ow.nil _ _ _ _,Fr.refl _ _⟩,?_⟩
 rintro n x k h2 ⟨k0,k1,o2,f2⟩ cC
 have M2:=M1.fr f2 fun q hq ju=>by omega
 have R2:=R1.fr f2 fun q hq ju=>by omega
 have z2:=f2.size
 refine⟨fun e=> ?_,fun e=> ?_⟩
 ·have hk:=M2.lt e
  refine⟨fun n x i h'=>0<=i/\i+n=(rows.length:Int)/\gy h' (fun q=>h2.size<=q) x ((vB rows k.toNat rs).take i.toNat)/\Fr (fun q=>h2.size<=q) h2 h',⟨rows.length,cA _,by omega,dJ.nil _ _ _ _,Fr.refl _ _⟩,?_⟩
  rintro n2 y i h3 ⟨i0,i1,o3,f3⟩ dI
  have M3:=M2.fr f3 fun q hq ju=>by omega
  have R3:=R2.fr f3 fun q hq ju=>by omega
  have z3:=f3.size
  refine⟨fun e2=> ?_,fun e2=> ?_⟩
  ·have hi:=M3.lt e2
   obtain⟨si,ci,ri⟩:=M3.get i0 hi
   have amP:=Q.row i.toNat (by omega)
   refine⟨M3.bM i0 hi,si,ci,nP ri (by omega) _ fun t2 h4 o4 f4=>⟨t2,rfl,.nil,?_⟩⟩
   have R4:=R3.no f4
   have z4:=f4.size
   refine⟨R4.bM i0 (by omega),_,R4.get i0 (by omega),gQ (o4.mono (F':=fun q=>h3.size<=q) fun q _ hq=>hq.1) k0 (by omega) .nil (fun p hp=>by simp at hp) _ fun h5 o5 f5 V5=> ?_⟩
   have z5:=f5.size
   refine jE (lo:=h2.size) (m:=h3.size) (dJ.fr (dJ.gN o3) (f4.aB.trans f5) fun q _ hq ju=>by have:=hq.2;omega) o5 z3 (by omega) .nil (fun p hp=>by simp at hp) (by rw[fI];omega) _ fun t3 h6 o6 f6 V6=> ?_
   rw[M3.succ i0 hi]
   refine⟨n2-1,by omega,by omega,by omega,?_,((f3.trans f4.aB).trans (f5.mono fun q _ hq=>by omega)).trans f6⟩
   rw[show(i+1).toNat=i.toNat+1 by omega,Es (by omega),bB (by omega)]
   exact o6
  ·have hi:=M3.ge e2
   have pl:=nj rows k.toNat rs
   rw[cT (by omega)]at o3
   refine zD rows.length (dJ.rd o3) (Nl Q k.toNat rs) hn (uy Q hb hr) _ fun h4 f4=>⟨_,rfl,.nil,?_⟩
   rw[Bh Q]
   have f24:=f3.trans f4.aB
   have z4:=f24.size
   refine nR (lo:=h1.size) ((Ow.gN o2).fr f24 (fun q hq ju=>by have:=(o2.aS hq).2;omega)|>.mono fun q _ hq=>hq.1) (by omega) .nil (fun p hp=>by simp at hp) (by rw[fI];omega) _ fun t5 h5 o5 f5 V5=> ?_
   rw[M2.succ k0 hk]
   refine⟨n-1,by omega,by omega,by omega,?_,(f2.trans (f24.mono fun q _ hq=>by omega)).trans f5⟩
   rw[show(k+1).toNat=k.toNat+1 by omega,og (by omega)]
   have:(K9 rows rs)[k.toNat]'(by omega)=dT rows.length (p8 (dB rows) k.toNat fun i=>rs.getD i 0):=by
    refine(cK (l:=List.range rows.length) _ (h:=by rw[bG,gj];omega)).trans ?_
    rw[kR]
   rw[this]
   exact o5
 ·have hk:=M2.ge e
  rw[cT (by omega)]at o2
  exact HK x h2 (bC.low o2.fM) (f1.fresh f2 fun q hq=>by omega)
abbrev vG:=Int×Int
def tz:List vG->List Value
 |[]=>[]
 |r::l=>VI r.1::VI r.2::tz l
theorem vH:∀l:List vG,(tz l).length=l.length*2
 |[]=>rfl
 |r::l=>by rw[tz,List.length_cons,List.length_cons,vH l,List.length_cons];omega
theorem Jh:∀(l:List vG)(i:Nat)(h:i<l.length),(tz l)[i*2]?=some (VI l[i].1)/\(tz l)[i*2+1]?=some (VI l[i].2)
 |r::l,0,_=>⟨rfl,rfl⟩
 |r::l,i+1,h=>by
  have:=Jh l i (by simpa using h)
  rw[tz,show(i+1)*2=i*2+1+1 by omega]
  simpa using this
theorem Ji:∀(l:List vG)(i:Nat)(x y:Int),((tz l).set (i*2) (VI x)).set (i*2+1) (VI y)=tz (l.set i (x,y))
 |[],i,x,y=>by simp[tz]
 |r::l,0,x,y=>by simp[tz]
 |r::l,i+1,x,y=>by
  rw[tz,show(i+1)*2=i*2+1+1 by omega,List.set_cons_succ,List.set_cons_succ,List.set_cons_succ,List.set_cons_succ,Ji l i x y,List.set_cons_succ,tz]
@[reducible] def OwQ(h:Heap)(F:aK)(s:Sl)(l:List vG):Prop:=Ow h F tR 2 s (tz l)
def Ud(S:aK)(h:Heap)(s:Sl)(l:List vG):Prop:=eC S h 2 s (tz l)
theorem Ud.len{S:aK}{h:Heap}{s:Sl}{l:List vG}(H:Ud S h s l):s.n=l.length:=by
 have:=eC.len H
 rw[vH]at this
 omega
theorem Ud.get{S:aK}{h:Heap}{s:Sl}{l:List vG}(H:Ud S h s l){i:Int}(h0:0<=i)(h1:i<(l.length:Int)):fp s i/\pJ h (s.at i 2) [VI (l[i.toNat]'(by omega)).1,VI (l[i.toNat]'(by omega)).2]:=by
 have hl:=Ud.len H
 have hn:=vH l
 obtain⟨g1,g2⟩:=Jh l i.toNat (by omega)
 obtain⟨a,ha,_,c1⟩:=eC.cell H (i.toNat*2) (by omega)
 obtain⟨a',NT,_,c2⟩:=eC.cell H (i.toNat*2+1) (by omega)
 rw[ha]at NT
 obtain rfl:a=a':=by simpa using NT
 rw[dY (by omega)]at g1 g2
 rw[bI g1]at c1
 rw[bI g2]at c2
 refine⟨⟨by simp[ha],h0,by omega⟩,fun j hj=> ?_⟩
 have hat:s.at i 2=a.add (i.toNat*2):=by simp[Sl.at,ha]
 rw[hat,HA]
 match j,hj with
 |0,_=>exact c1
 |1,_=>simpa using c2
theorem Ud.low{S:aK}{h:Heap}{s:Sl}{l:List vG}(H:Ud S h s l):Ud (fun k=>k<h.size) h s l:=(eC.lt H).mono fun _ h=>h.2
theorem R9:nL aC tR=some 2:=by kernel_rfl
theorem FO{L:List (Nat×List Value)}{F:aK}{h:Heap}{s:Sl}{l:List vG}{i:Int}{x y:Int}(O:OwQ h F s l)(h0:0<=i)(h1:i<(l.length:Int))(hL:Vars h L)(ks:∀p,p∈L->¬F p.1)(R:Heap->Prop)(HR:∀h',OwQ h' F s (l.set i.toNat (x,y))->Fr F h h'->Vars h' L->R h'):fp s i/\Hc aC (Instr.storeAt tR (Value.pointer (some (Sl.at s i 2))) (Value.agg #[VI x,VI y])) h fun rv h'=>Vars h' L/\R h':=by
 have hn:=O.len
 rw[vH]at hn
 have hi:i<(s.n:Int):=by omega
 refine⟨O.bM h0 hi,⟨fun w hw=> ?_⟩⟩
 subst hw
 obtain⟨w1,o1,f1⟩:=O.store h0 hi 0 (by omega) (VI x)
 obtain⟨w2,_,_⟩:=O.store h0 hi 1 (by omega) (VI y)
 obtain⟨_,o2,f2⟩:=o1.store h0 hi 1 (by omega) (VI y)
 obtain⟨w',r1,r2,r3⟩:=qQ (P:=aC) (mU R9 w) (a:=s.at i 2) (v:= .agg #[VI x,VI y]) (vs:=[VI x,VI y]) rfl rfl (fun v hv=>by simp only[aO,aR,aN]at hv;rcases hv with rfl|rfl<;>rfl) (fun j hj=>by
  match j,hj with
  |0,_=>exact⟨w1.cell,w1.free⟩
  |1,_=>exact⟨w2.cell,w2.free⟩)
 refine⟨w',r1,r2,?_⟩
 rw[r3]
 simp only[List.zipIdx_cons,List.zipIdx_nil,List.foldl_cons,List.foldl_nil,iO]
 rw[Nat.add_zero,Ji]at o2
 have f:Fr F w.heap _:=(f1.trans f2).mono fun k _ hk=>(O.aS hk).1
 have V:=hL.fr f ks
 exact⟨V,HR _ o2 f V⟩
def o0:Int->Int:=fun _=>0
theorem Sa{d:Int}(h:0<d):lX d d=(1,1):=by
 unfold lX
 rw[Int.gcd_self,show((d.natAbs:Nat):Int)=d by omega,Int.ediv_self (by omega)]
theorem OT{d:Int}(h:0<d):lX 0 d=(0,1):=by
 unfold lX
 rw[Int.gcd_zero_left,show((d.natAbs:Nat):Int)=d by omega,Int.ediv_self (by omega),Int.zero_ediv]
def chR(g:aE)(a b:Int):List vG:=(List.range g.length).map fun q:Nat=>lX (CG g a b q) (lW g a b)
theorem Nn(g:aE)(a b:Int):(chR g a b).length=g.length:=by unfold chR;rw[bG,gj]
theorem Np{g:aE}{a b:Int}{q:Nat}(h:q<(chR g a b).length):(chR g a b)[q]=lX (CG g a b q) (lW g a b):=by
 refine(cK (l:=List.range g.length) _ (h:=h)).trans ?_
 rw[kR]
theorem Can.Fe{g:aE}{a b:Int}(C:Can g a b):∀i,i<(cX g.length a b).length->(KZ g a b o0 1 0 i).natAbs<=10:=fun i hi=>by
 have e:KZ g a b o0 1 0 i=gE a (g.getD ((cX g.length a b).getD i 0) []):=by
  unfold KZ o0
  omega
 have hp:=(fG.1 (bJ hi)).1
 have e1:(cX g.length a b).getD i 0=(cX g.length a b)[i]:=by rw[eG,dY hi,Option.getD_some]
 rw[e,e1,bH hp]
 have h1:=k7 a g[(cX g.length a b)[i]]
 have h2:=(bL C.cD (bJ hp)).1
 omega
theorem Can.VY{g:aE}{a b:Int}(C:Can g a b){own:Int->Int}{A B:Int}(hA:A=0\/A=1)(hB:B=0\/B=1)(hr:∀i,i<(cX g.length a b).length->(KZ g a b own A B i).natAbs<=10)(q:Int):(I5 g a b own A B q).natAbs<=50400000000:=by
 have hd:=C.den
 have gl:=bA C.cD
 have il:=vz C.a0 C.a1 C.b0 C.b1 C.ne
 unfold I5
 split
 ·rcases hA with rfl|rfl<;>omega
 ·split
  ·rcases hB with rfl|rfl<;>omega
  ·exact Et C.cD (by omega) hr _
theorem OU{S:aK}{h:Heap}{g:Sl}{aI:aE}(G:cG S h g aI){a b:Int}(C:Can aI a b)(K:aL)(HK:∀t h',cH h' (Iv h.size h'.size) t (FJ aI a b o0 1 0)->Fr No h h'->K (.tuple #[t.v,VI (lW aI a b)]) h'):aG aC 218 #[.agg #[g.v],VI a,VI b] h K:=by
 refine v218 g a b h K fun b1 h1 fK f1 cY=> ?_
 have f1:=f1.aM
 refine RR (G.no f1) C (.func (.func 262) #[] #[]) o0 (.inr rfl) (.inl rfl) (fun p=>⟨cA _,by unfold o0;omega⟩) C.Fe (fun p h' K' _ _ hk=>alC _ _ _ hk) _ fun t h2 o2 f2=>⟨t,_,rfl,cY.aB f2,HK t h2 ?_ (f1.aA f2)⟩
 exact o2.mono fun k _ hk=>⟨dD f1.size hk.1,hk.2⟩
def uM(g:aE)(p a b:Int):vG×Bool:=if(KX g a b&&jq 0 ((g.length:Int)-1) p)=true then(lX (CG g a b p) (lW g a b),true)else((0,0),false)
theorem yA{S:aK}{h:Heap}{g:Sl}{aI:aE}(G:cG S h g aI)(p a b:Int)(K:aL)(HK:∀h',Fr No h h'->K (.tuple #[.agg #[VI (uM aI p a b).1.1,VI (uM aI p a b).1.2],VB (uM aI p a b).2]) h'):aG aC 169 #[.agg #[g.v],VI p,VI a,VI b] h K:=by
 refine ajI g p a b h K fun b1 b2 h2 fK eN f2 cC=> ?_
 have f2:=f2.aM
 have box:∀{x y:Heap},Fr No h x->Fr (In [b2]) x y->Fr No h y:=fun f f'=>f.fresh f' fun k hk=>by
  simp only[In,aO,aR,aN]at hk
  omega
 unfold uM at HK
 refine RE (G.no f2) a b _ fun h3 f3=>⟨_,rfl,cC.aB f3,fun e=>fun eW f10 _=> ?_,fun e=> ?_⟩
 ·rw[bU e,gJ]at HK
  exact HK eW (box (f2.aA f3) f10)
 have e:=bQ e
 rw[e,fk]at HK
 have C:=Ry e
 have hd:=C.den
 have f13:=f2.aA f3
 have dI:=cC.aB f3
 refine bE gD (fun k=>h3.size<=k) (fun _ h=>h) 1 (by omega) [VI p] rfl rfl fun t h4 n4 c4 o4 f4 m4 _=>⟨t,rfl,dI.aB f4,?_⟩
 have o4:bC (fun k=>h3.size<=k) h4 t [p]:=o4.fM
 refine vi (G.no (f13.aA f4)) o4 _ fun h5 f5=>⟨_,rfl,(dI.aB f4).aB f5,fun e2=>fun h6 f6 _=> ?_,fun e2=> ?_⟩
 all_goals simp only[List.all_cons,List.all_nil,sF,C.cD,fk]at e2
 all_goals have f15:=f13.aA (f4.aA f5)
 ·rw[bU e2]at HK
  exact HK h6 (box f15 f6)
 have e2:=bQ e2
 rw[e2,aJ rfl]at HK
 have pr:=bT.1 e2
 refine OU (G.no f15) C _ fun t h7 o7 f7=>⟨t,_,rfl,((dI.aB f4).aB f5).aB f7,?_⟩
 have r7:bC _ h7 t (FJ aI a b o0 1 0):=Ow.fM o7
 have ol:=Jc aI a b o0 1 0
 have hv:=C.VY (own:=o0) (.inr rfl) (.inl rfl) C.Fe p
 refine⟨r7.bM pr.1 (by omega),_,r7.get pr.1 (by omega),?_⟩
 rw[Jd,show(((p.toNat:Nat):Int))=p by omega]
 exact VO _ _ (by omega) (by omega) (by omega) h7 _ fun h8 f8=>⟨_,_,rfl,(((dI.aB f4).aB f5).aB f7).aB f8,fun h9 f9 _=>HK h9 (box (f15.aA (f7.aA f8)) f9)⟩
def tO(n:Nat)(a b:Int)(d:Int)(ps:List Nat)(f:Nat->Int)(k:Nat):List vG:=(List.range n).map fun q:Nat=>if(q:Int)=a then(1,1)else if(q:Int)=b then(0,1)else if ps.idxOf q<k then lX (f (ps.idxOf q)) d else(0,0)
theorem k8(n:Nat)(a b:Int)(d:Int)(ps:List Nat)(f:Nat->Int)(k:Nat):(tO n a b d ps f k).length=n:=by unfold tO;rw[bG,gj]
theorem sP{n:Nat}{a b d:Int}{ps:List Nat}{f:Nat->Int}{k q:Nat}(h:q<(tO n a b d ps f k).length):(tO n a b d ps f k)[q]=if(q:Int)=a then(1,1)else if(q:Int)=b then(0,1)else if ps.idxOf q<k then lX (f (ps.idxOf q)) d else(0,0):=by
 refine(cK (l:=List.range n) _ (h:=h)).trans ?_
 rw[kR]
theorem La{n:Nat}{a b:Int}(d:Int)(ps:List Nat)(f:Nat->Int)(a0:0<=a)(b0:0<=b)(fL:a≠b):tO n a b d ps f 0=((List.replicate n ((0,0):vG)).set a.toNat (1,1)).set b.toNat (0,1):=by
 apply j8 (by rw[k8,bY,bY,ja])
 intro q h1 h2
 rw[sP h1,fR,fR,zC]
 by_cases ea:(q:Int)=a
 ·rw[aJ ea,aF (by omega),aJ (by omega)]
 ·rw[aF ea]
  by_cases eb:(q:Int)=b
  ·rw[aJ eb,aJ (by omega)]
  ·rw[aF eb,aF (by omega),aF (by omega),aF (by omega)]
theorem Lb{n:Nat}{a b:Int}(d:Int)(f:Nat->Int){k:Nat}(hk:k<(cX n a b).length):tO n a b d (cX n a b) f (k+1)=(tO n a b d (cX n a b) f k).set ((cX n a b)[k]) (lX (f k) d):=by
 apply j8 (by rw[k8,bY,k8])
 intro q h1 h2
 have h3:q<(tO n a b d (cX n a b) f k).length:=by rw[bY]at h2;exact h2
 have hm:=fG.1 (bJ hk)
 rw[sP h1,fR,sP h3]
 by_cases e:(cX n a b)[k]=q
 ·rw[aJ e,aF (by omega),aF (by omega)]
  subst e
  rw[FF hk,aJ (by omega)]
 ·rw[aF e]
  by_cases ea:(q:Int)=a
  ·rw[aJ ea,aJ ea]
  ·rw[aF ea,aF ea]
   by_cases eb:(q:Int)=b
   ·rw[aJ eb,aJ eb]
   ·rw[aF eb,aF eb]
    have hq:q∈cX n a b:=fG.2 ⟨by rw[k8]at h3;exact h3,ea,eb⟩
    have hi:=Be.2 hq
    by_cases l:(cX n a b).idxOf q<k
    ·rw[aJ l,aJ (by omega)]
    ·rw[aF l,aF]
     intro h
     apply e
     have:(cX n a b).idxOf q=k:=by omega
     subst this
     exact List.getElem_idxOf hi
theorem OV{g:aE}{a b:Int}(hd:0<lW g a b):tO g.length a b (lW g a b) (cX g.length a b) (yz g a b o0 1 0) (cX g.length a b).length=chR g a b:=by
 apply j8 (by rw[k8,Nn])
 intro q h1 h2
 rw[sP h1,Np h2]
 unfold CG I5
 by_cases ea:(q:Int)=a
 ·rw[aJ ea,aJ ea,iZ,Sa hd]
 ·rw[aF ea,aF ea]
  by_cases eb:(q:Int)=b
  ·rw[aJ eb,aJ eb,na,OT hd]
  ·rw[aF eb,aF eb,aJ]
   ·rfl
   ·exact Be.2 (fG.2 ⟨by rw[k8]at h1;exact h1,ea,eb⟩)
theorem VZ(g:aE)(a b:Int)(own:Int->Int)(A B:Int):K9 (tN g a b) (pd g a b own A B)=(List.range (cX g.length a b).length).map (yz g a b own A B):=by
 unfold K9
 rw[(lY g a b).1]
 exact pz fun k _=>K3 g a b own A B k
set_option maxHeartbeats 4000000 in
theorem Jj{S:aK}{h:Heap}{g:Sl}{aI:aE}(G:cG S h g aI){a b:Int}(C:Can aI a b)(K:aL)(HK:∀t h',Ud (fun k=>k<h'.size) h' t (chR aI a b)->Fr No h h'->K t.v h'):aG aC 186 #[.agg #[g.v],VI a,VI b] h K:=by
 have hg:=C.cD
 have gl:=bA hg
 have dn:=C.den
 have gn:=G.len
 have il:=vz C.a0 C.a1 C.b0 C.b1 C.ne
 refine aj8 g a b h K fun b1 h1 fK f1 cY=> ?_
 have f1:=f1.aM
 refine K8 (G.no f1) hg a b _ fun pl m h2 P2 M2 f2=>⟨pl,m,rfl,cY.aB f2,?_⟩
 have l1:b1<h1.size:=cY.head.lt
 have z2:=f2.size
 have KA:=f1.aA f2
 have QQ:∀q,q∈cX aI.length a b->q<aI.length:=fun q hq=>(fG.1 hq).1
 have Yn:((cX aI.length a b).map fun p:Nat=>(p:Int)).length=(cX aI.length a b).length:=bG _
 have pn:pl.n=(cX aI.length a b).length:=by have:=P2.len;rw[Yn]at this;exact this
 have rl:=pf aI a b o0 1 0
 have ml:=(lY aI a b).1
 have wi:∀{F:aK},(∀k,F k->h2.size<=k)->∀p,p∈[(b1,[g.v])]->¬F p.1:=fun hF p hp hk=>by
  simp only[aO,aR,aN]at hp
  subst hp
  have:=hF _ hk
  (try simp only at this)
  omega
 refine⟨fun m x i h'=>0<=i/\i+m=((cX aI.length a b).length:Int)/\cH h' (fun k=>h2.size<=k) x ((pd aI a b o0 1 0).take i.toNat)/\Fr (fun k=>h2.size<=k) h2 h',⟨(cX aI.length a b).length,by omega,by omega,Ow.nil _ _ _ _,Fr.refl _ _⟩,?_⟩
 rintro m1 x i h3 ⟨i0,i1,o3,f3⟩ dI
 have P3:=P2.fr f3 fun k hk aQ=>by omega
 have M3:=M2.fr f3 fun k hk aQ=>by omega
 have z3:=f3.size
 have jm:=KA.fresh f3 fun k hk=>by have:=KA.size;omega
 refine⟨fun e=> ?_,fun e=> ?_⟩
 ·have hi:=P3.lt e
  have jM:i.toNat<(cX aI.length a b).length:=by omega
  have cI:=P3.get i0 hi
  rw[p9]at cI
  have K6:=QQ _ (bJ jM)
  have hRi:(pd aI a b o0 1 0)[i.toNat]'(by omega)=Ja aI a b o0 1 0 (cX aI.length a b)[i.toNat]:=cK _
  generalize (cX aI.length a b)[i.toNat]' jM=Q at cI K6 hRi
  have G3:=G.no jm
  obtain⟨sp,cp,rp⟩:=G3.get (i:=(Q:Int)) (by omega) (by omega)
  simp only[Int.toNat_natCast]at rp
  have gm:=bL hg (bJ K6)
  refine⟨P3.bM i0 hi,_,cI,G3.bM (by omega) (by omega),sp,cp,?_⟩
  refine⟨fun m s j h'=>0<=j/\j+m=(aI[Q].length:Int)/\s=gE a (aI[Q].take j.toNat)/\h'=h3,⟨aI[Q].length,by omega,by omega,rfl,rfl⟩,?_⟩
  rintro m2 s j h4 ⟨j0,j1,rfl,rfl⟩ eM
  refine⟨fun e2=> ?_,fun e2=> ?_⟩
  ·have hj:=rp.lt e2
   have hc:=rp.get j0 hj
   have tk:aI[Q].take (j+1).toNat=_:=fu _ j0 hj
   have so:=rN (a:=a) gm.1 j.toNat
   generalize aI[Q][j.toNat]'(by omega)=v at hc tk
   rw[rp.succ j0 hj]
   refine⟨rp.bM j0 hj,_,hc,fun e3=> ?_,fun e3=> ?_⟩
   ·simp only[aT]at e3
    refine⟨m2-1,by omega,by omega,by omega,?_,rfl⟩
    rw[tk,jH,aJ e3,aP _ (by omega) (by omega)]
   ·simp only[aY]at e3
    refine⟨m2-1,by omega,by omega,by omega,?_,rfl⟩
    rw[tk,jH,aF e3,lR]
  ·have hj:=rp.ge e2
   rw[cT (by omega)]
   refine nR (lo:=h2.size) o3 z3 dI (fun p hp=>by simp only[aO,aR,aN]at hp;subst hp;show b1<h2.size;omega) (by rw[fI];omega) _ fun t h5 o5 f5 V5=> ?_
   rw[P3.succ i0 hi]
   refine⟨m1-1,by omega,by omega,by omega,?_,f3.trans f5⟩
   rw[show(i+1).toNat=i.toNat+1 by omega,og (by omega),hRi]
   have:Ja aI a b o0 1 0 Q=gE a aI[Q]:=by
    unfold Ja o0
    rw[bH K6]
    omega
   rw[this]
   exact o5
 ·have hi:=P3.ge e
  rw[cT (by omega)]at o3
  have hQ':Sq (tN aI a b).length (tN aI a b):=by rw[ml];exact(lY aI a b).2
  have hS':Small (tN aI a b).length (dB (tN aI a b)):=by rw[ml];exact wX hg a b
  refine OS M3 (Ow.fM o3:bC _ h3 x _) (by omega) hQ' (by omega) hS' (fun i hi=>by rw[vA aI a b o0 1 0 (by omega)];exact C.Fe i (by omega)) _ fun t h7 S7 f7=>⟨t,_,rfl,dI.aB f7,?_⟩
  rw[VZ]at S7
  rw[ml,Nk]
  have z7:=f7.size
  have kL:=dI.aB f7
  refine fC rRs (fun k=>h7.size<=k) (fun _ h=>h) .i64 .i64 g.n g.n (aW _) (by omega) fun u h8 n8 c8 o8 f8 m8 _=>⟨u,rfl,kL.aB f8,?_⟩
  have z8:=f8.size
  have Zg:OwQ h8 (fun k=>h7.size<=k) u (List.replicate aI.length (0,0)):=by
   have e:(List.replicate g.n [VI 0,VI 0]).flatten=tz (List.replicate aI.length (0,0)):=by
    rw[gn]
    generalize aI.length=n
    induction n with
    |zero=>rfl
    |succ n ih=>rw[List.replicate_succ,List.flatten_cons,ih,List.replicate_succ,tz];rfl
   rw[e]at o8
   exact o8
  have aaj:=wi (F:=fun k=>h7.size<=k) fun k hk=>by omega
  refine FO (L:=[(b1,[g.v])]) (F:=fun k=>h7.size<=k) (x:=1) (y:=1) Zg C.a0 (by rw[ja];exact C.a1) (kL.aB f8) aaj _ fun h9 o9 f9 V9=> ?_
  refine FO (L:=[(b1,[g.v])]) (F:=fun k=>h7.size<=k) (x:=0) (y:=1) o9 C.b0 (by rw[bY,ja];exact C.b1) V9 aaj _ fun eW kW f10 CF=> ?_
  rw[<-La (lW aI a b) (cX aI.length a b) (yz aI a b o0 1 0) C.a0 C.b0 C.ne]at kW
  refine⟨fun m k h'=>0<=k/\k+m=((cX aI.length a b).length:Int)/\OwQ h' (fun q=>h7.size<=q) u (tO aI.length a b (lW aI a b) (cX aI.length a b) (yz aI a b o0 1 0) k.toNat)/\Fr (fun q=>h7.size<=q) h8 h',⟨(cX aI.length a b).length,by omega,by omega,kW,f9.trans f10⟩,?_⟩
  rintro m3 k gP ⟨k0,k1,kp,f11⟩ fJ
  have P11:=((P3.no f7).no f8).fr f11 fun q hq ju=>by omega
  have S11:=(S7.no f8).fr f11 fun q hq ju=>by omega
  refine⟨fun e3=> ?_,fun e3=> ?_⟩
  ·have hk:=P11.lt e3
   have Ua:k.toNat<(cX aI.length a b).length:=by omega
   have cI:=P11.get k0 hk
   rw[p9]at cI
   have K6:=QQ _ (bJ Ua)
   have aae:=Lb (lW aI a b) (yz aI a b o0 1 0) Ua
   have cS:=S11.get (i:=k) k0 (by rw[bG,gj];omega)
   have eS:((List.range (cX aI.length a b).length).map (yz aI a b o0 1 0))[k.toNat]'(by rw[bG,gj];omega)=yz aI a b o0 1 0 k.toNat:=by rw[cK,kR]
   rw[eS]at cS
   have hcb:=Et hg (a:=a) (b:=b) (by omega) C.Fe k.toNat
   refine⟨P11.bM k0 hk,_,cI,S11.bM k0 (by rw[bG,gj];omega),_,cS,OL _ _ (by omega) (by omega) (by omega) gP _ fun iH f12=>⟨_,_,rfl,fJ.aB f12,?_⟩⟩
   refine FO (L:=[(b1,[g.v])]) (F:=fun q=>h7.size<=q) (kp.no f12) (i:=(((cX aI.length a b)[k.toNat]' Ua:Nat):Int)) (by omega) (by rw[k8];omega) (fJ.aB f12) aaj _ fun uh KU f13 V13=> ?_
   rw[P11.succ k0 hk]
   refine⟨m3-1,by omega,by omega,by omega,?_,f11.trans (f12.aB.trans f13)⟩
   rw[show(k+1).toNat=k.toNat+1 by omega,aae]
   simp only[Int.toNat_natCast]at KU
   exact KU
  ·have hk:=P11.ge e3
   rw[show k.toNat=(cX aI.length a b).length by omega,OV (by omega)]at kp
   exact HK u gP (Ud.low kp.fM) ((jm.aA (f7.aA f8)).fresh f11 fun q hq=>by have:=jm.size;omega)
theorem pg{S:aK}{h:Heap}{g:Sl}{aI:aE}(G:cG S h g aI)(p a b:Int)(K:aL)(HK:∀h',Fr No h h'->K (.tuple #[.agg #[VI (uM aI p a b).1.1,VI (uM aI p a b).1.2],VB (uM aI p a b).2]) h'):aG aC 139 #[.agg #[g.v],VI p,VI a,VI b] h K:=by
 refine v139 g p a b h K fun b1 b2 h2 fK eN f2 cC=> ?_
 have f2:=f2.aM
 have box:∀{x y:Heap},Fr No h x->Fr (In [b2]) x y->Fr No h y:=fun f f'=>f.fresh f' fun k hk=>by
  simp only[In,aO,aR,aN]at hk
  omega
 unfold uM at HK
 refine RF (G.no f2) a b _ fun h3 f3=>⟨_,rfl,cC.aB f3,fun e=>fun eW f10 _=> ?_,fun e=> ?_⟩
 ·rw[bU e,gJ]at HK
  exact HK eW (box (f2.aA f3) f10)
 have e:=bQ e
 rw[e,fk]at HK
 have C:=Ry e
 have hd:=C.den
 have f13:=f2.aA f3
 have dI:=cC.aB f3
 refine dZ (G.no f13) p _ fun h5 f5=>⟨_,rfl,dI.aB f5,fun e2=>fun h6 f6 _=> ?_,fun e2=> ?_⟩
 all_goals simp only[C.cD,fk]at e2
 all_goals have f15:=f13.aA f5
 ·rw[bU e2]at HK
  exact HK h6 (box f15 f6)
 have e2:=bQ e2
 rw[e2,aJ rfl]at HK
 have pr:=bT.1 e2
 refine Jj (G.no f15) C _ fun t h7 Q7 f7=>⟨t,rfl,(dI.aB f5).aB f7,?_⟩
 obtain⟨ib,cc⟩:=Q7.get (i:=p) pr.1 (by rw[Nn];omega)
 rw[Np,show(((p.toNat:Nat):Int))=p by omega]at cc
 exact⟨ib,_,_,cc,fun h9 f9 _=>HK h9 (box (f15.aA f7) f9)⟩
def plB(g:aE)(s:Int):Bool:=aZ g&&jq 0 ((g.length:Int)-1) s
theorem Ys{g:aE}{s:Int}(h:plB g s=true):aZ g=true/\0<=s/\s<(g.length:Int):=by
 obtain⟨a,b⟩:=l8.1 h
 have:=bT.1 b
 exact⟨a,this.1,by omega⟩
def uz(g:aE)(s:Int):Int×Bool:=if plB g s then(wU g s,true)else(0,false)
theorem FP{S:aK}{h:Heap}{g:Sl}{aI:aE}(G:cG S h g aI)(s:Int)(K:aL)(HK:∀h',Fr No h h'->K (.tuple #[VI (uz aI s).1,VB (uz aI s).2]) h'):aG aC 165 #[.agg #[g.v],VI s] h K:=by
 refine ajC g s h K fun b1 h2 fK f2 cC=> ?_
 have f2:=f2.aM
 refine bE gD (fun k=>h2.size<=k) (fun _ h=>h) 1 (by omega) [VI s] rfl rfl fun t h3 n3 c3 o3 f3 m3 _=>⟨t,rfl,cC.aB f3,?_⟩
 have r3:bC (fun k=>h2.size<=k) h3 t [s]:=o3.fM
 have jm:=f2.aA f3
 refine vi (G.no jm) r3 _ fun h4 f4=>⟨_,rfl,(cC.aB f3).aB f4,fun e=> ?_,fun e=> ?_⟩
 all_goals simp only[List.all_cons,List.all_nil,sF]at e
 all_goals have jk:=jm.aA f4
 ·have er:uz aI s=(0,false):=by unfold uz plB;rw[bU e];rfl
  rw[er]at HK
  exact HK h4 jk
 have e:plB aI s=true:=bQ e
 obtain⟨hg,s0,s1⟩:=Ys e
 have gl:=bA hg
 have er:uz aI s=(wU aI s,true):=by unfold uz;rw[aJ e]
 rw[er]at HK
 obtain⟨ll,Q⟩:=KW s0 s1
 refine OK (G.no jk) hg s0 s1 _ fun t5 h5 o5 f5=>⟨t5,rfl,((cC.aB f3).aB f4).aB f5,?_⟩
 refine oA (dJ.rd o5) (by rw[ll];exact Q) (by omega) (by rw[ll];exact Eo hg s0 s1) _ fun h6 f6=>⟨_,rfl,(((cC.aB f3).aB f4).aB f5).aB f6,?_⟩
 rw[ll]
 exact HK h6 (jk.aA (f5.aA f6))
theorem vI{S:aK}{h:Heap}{g:Sl}{aI:aE}(G:cG S h g aI)(s:Int)(K:aL)(HK:∀h',Fr No h h'->K (.tuple #[VI (uz aI s).1,VB (uz aI s).2]) h'):aG aC 137 #[.agg #[g.v],VI s] h K:=by
 refine ai9 g s h K fun b1 h2 fK f2 cC=> ?_
 have f2:=f2.aM
 refine dZ (G.no f2) s _ fun h4 f4=>⟨_,rfl,cC.aB f4,fun e=> ?_,fun e=> ?_⟩
 all_goals have jk:=f2.aA f4
 ·have er:uz aI s=(0,false):=by unfold uz plB;rw[bU e];rfl
  rw[er]at HK
  exact HK h4 jk
 have e:plB aI s=true:=bQ e
 obtain⟨hg,s0,s1⟩:=Ys e
 have gl:=bA hg
 have er:uz aI s=(wU aI s,true):=by unfold uz;rw[aJ e]
 rw[er]at HK
 obtain⟨ll,Q⟩:=KW s0 s1
 refine IX (G.no jk) hg s0 s1 _ fun t5 h5 o5 f5=>⟨t5,rfl,(cC.aB f4).aB f5,?_⟩
 refine zD (aI.length-1) (dJ.rd o5) Q (by omega) (Eo hg s0 s1) _ fun h6 f6=>⟨_,rfl,((cC.aB f4).aB f5).aB f6,?_⟩
 exact HK h6 (jk.aA (f5.aA f6))
end Go.Proofs.YtcnfcnoooecchaaGreatDoor
