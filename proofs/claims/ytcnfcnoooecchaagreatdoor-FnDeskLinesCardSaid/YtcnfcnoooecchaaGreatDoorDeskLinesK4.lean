import Derived.Test.YtcnfcnoooecchaaGreatDoorDeskLinesK3
set_option linter.unusedVariables false
set_option linter.unusedSimpArgs false
namespace Go.Proofs.YtcnfcnoooecchaaGreatDoor
open Go Go.Mx
def uG(gw:List ((Int×Int)×Int))(x y:Int):Option Int:=(jf gw x y).map (·.2)
theorem jZ(q:(Int×Int)×Int)(r:List ((Int×Int)×Int))(x y:Int):uG (q::r) x y=if x=q.1.1/\y=q.1.2 then some q.2 else uG r x y:=by
 unfold uG
 rw[jf]
 split
 ·rfl
 ·rw[Option.map_map];rfl
theorem JC{x y v:Int}:∀{gw:List ((Int×Int)×Int)}{j:Nat}{r:Int},jf gw x y=some (j,r)->∀u z,uG (gw.set j ((x,y),v)) u z=if u=x/\z=y then some v else uG gw u z
 |[],_,_,h=>by cases h
 |q::l,j,r,h=>fun u z=>by
  rw[jf]at h
  split at h
  ·rename_i hq
   obtain⟨rfl,_⟩:=Prod.mk.inj (bI h)
   rw[List.set_cons_zero,jZ,jZ]
   (try simp only)
   by_cases hu:u=x/\z=y
   ·rw[aJ hu,aJ hu]
   ·rw[aF hu,aF hu,aF (by rw[<-hq.1,<-hq.2];exact hu)]
  ·rename_i hq
   cases hl:jf l x y with
   |none=>rw[hl]at h;cases h
   |some p=>
    rw[hl]at h
    obtain⟨p1,p2⟩:=p
    simp only[Option.map_some,dC,fH]at h
    obtain⟨rfl,rfl⟩:=h
    rw[List.set_cons_succ,jZ,jZ,JC hl]
    by_cases hu:u=x/\z=y
    ·rw[aJ hu,aF (by rw[hu.1,hu.2];exact hq),aJ hu]
    ·rw[aF hu,aF hu]
theorem JD{x y v:Int}:∀{gw:List ((Int×Int)×Int)},uG gw x y=none->∀u z,uG (gw++[((x,y),v)]) u z=if u=x/\z=y then some v else uG gw u z
 |[],_=>fun u z=>by
  rw[List.nil_append,jZ]
 |q::l,h=>fun u z=>by
  rw[jZ]at h
  split at h
  ·cases h
  ·rename_i hq
   rw[List.cons_append,jZ,jZ,JD h]
   by_cases hu:u=x/\z=y
   ·rw[aJ hu,aF (by rw[hu.1,hu.2];exact hq),aJ hu]
   ·rw[aF hu,aF hu]
def Ct(gw:List ((Int×Int)×Int))(A B C:Nat):Prop:=∀x y,uG gw x y=if iD x/\iD y/\A.testBit (cN x y)=true then some (mE B C (cN x y):Int)else none
theorem Nv{x y:Int}(hx:iD x)(hy:iD y):cN x y<14641:=by
 unfold cN iD at*
 omega
theorem Ct.first(k:Nat):Ct [] 0 (pp (k.testBit 0)) (pp (k.testBit 1)):=fun x y=>by
 rw[Nat.zero_testBit,aF (by simp)]
 rfl
theorem Ct.set{gw:List ((Int×Int)×Int)}{A B C:Nat}(R:Ct gw A B C){x y:Int}(hx:iD x)(hy:iD y){j:Nat}{r:Int}(hf:jf gw x y=some (j,r)):Ct (gw.set j ((x,y),(((mE B C (cN x y)+1)%4:Nat):Int))) A (B^^^2^cN x y) (bif B.testBit (cN x y)then C^^^2^cN x y else C):=fun u z=>by
 rw[JC hf,R u z]
 have hA:A.testBit (cN x y)=true:=by
  have:=R x y
  unfold uG at this
  rw[hf]at this
  by_cases hb:A.testBit (cN x y)=true
  ·exact hb
  ·rw[aF (fun h=>hb h.2.2)]at this;cases this
 rw[xS]
 by_cases hu:u=x/\z=y
 ·obtain⟨rfl,rfl⟩:=hu
  rw[aJ ⟨rfl,rfl⟩,aJ ⟨hx,hy,hA⟩,aJ rfl]
 ·rw[aF hu]
  by_cases hh:iD u/\iD z/\A.testBit (cN u z)=true
  ·rw[aJ hh,aJ hh,aF (fun e=>hu (Ew hh.1 hh.2.1 hx hy e))]
  ·rw[aF hh,aF hh]
def qp(k A B C:Nat):Prop:=∀i,i<14641->A.testBit i=false->mE B C i=k
theorem qp.first{k:Nat}(hk:k<4):qp k 0 (pp (k.testBit 0)) (pp (k.testBit 1)):=fun _ h _=>Jz hk h
theorem qp.step{k A B C i:Nat}(R:qp k A B C)(hA:A.testBit i=true):qp k A (B^^^2^i) (bif B.testBit i then C^^^2^i else C):=fun j hj h=>by
 rw[xS,aF (fun e=>by rw[e,hA]at h;cases h)]
 exact R j hj h
theorem qp.grow{k A B C i:Nat}(R:qp k A B C):qp k (A^^^2^i) B C\/A.testBit i=true:=by
 by_cases hA:A.testBit i=true
 ·exact .inr hA
 ·refine .inl fun j hj h=>R j hj ?_
  rw[nu]at h
  split at h
  ·rename_i e;rw[e]at h;simp[hA]at h
  ·exact h
theorem Ct.new{gw:List ((Int×Int)×Int)}{A B C k:Nat}(R:Ct gw A B C)(R2:qp k A B C){x y:Int}(hx:iD x)(hy:iD y)(hA:A.testBit (cN x y)=false):uG gw x y=none/\Ct (gw++[((x,y),(k:Int))]) (A^^^2^cN x y) B C:=by
 have hn:uG gw x y=none:=by rw[R x y,aF (fun h=>by rw[hA]at h;cases h.2.2)]
 refine⟨hn,fun u z=> ?_⟩
 rw[JD hn,R u z,nu]
 by_cases hu:u=x/\z=y
 ·obtain⟨rfl,rfl⟩:=hu
  rw[aJ ⟨rfl,rfl⟩,aJ ⟨hx,hy,by simp[hA]⟩,R2 _ (Nv hx hy) hA]
 ·rw[aF hu]
  by_cases hf:iD u/\iD z
  ·rw[aF (c:=cN u z=cN x y) (fun e=>hu (Ew hf.1 hf.2 hx hy e))]
  ·rw[aF (fun h=>hf ⟨h.1,h.2.1⟩),aF (fun h=>hf ⟨h.1,h.2.1⟩)]
theorem vN{x y:Int}(hx:iD x)(hy:iD y):((cN x y:Nat):Int)/121-60=x/\((cN x y:Nat):Int)%121-60=y:=by
 unfold cN iD at*
 omega
def kE(l:List Nat):List Value:=(l.map fun i:Nat=>[VI ((i:Int)/121-60),VI ((i:Int)%121-60)]).flatten
theorem qe:∀l:List Nat,(kE l).length=l.length*2
 |[]=>rfl
 |i::l=>by
  have:=qe l
  unfold kE at*
  simp only[bK,List.flatten_cons,cB,List.length_cons,List.length_nil,this]
  omega
theorem JE(l:List Nat)(i:Nat):kE (l++[i])=kE l++[VI ((i:Int)/121-60),VI ((i:Int)%121-60)]:=by
 unfold kE
 rw[cV,List.flatten_append]
 simp
theorem Cu:∀{l:List Nat}{j:Nat}(h:j<l.length),(kE l)[j*2]?=some (VI ((l[j]:Int)/121-60))/\(kE l)[j*2+1]?=some (VI ((l[j]:Int)%121-60))
 |i::l,0,h=>⟨rfl,rfl⟩
 |i::l,j+1,h=>by
  have:=Cu (l:=l) (j:=j) (by simpa using h)
  have e:kE (i::l)=VI ((i:Int)/121-60)::VI ((i:Int)%121-60)::kE l:=rfl
  rw[e,show(j+1)*2=j*2+1+1 by omega,show j*2+1+1+1=(j*2+1)+1+1 by omega]
  simp only[List.getElem?_cons_succ,List.getElem_cons_succ]
  exact this
def YB(P:Program)(kt:TypeId):Bool:=match P.underlying kt with
 |some (.struct fs)=>match fs.toList with
  |[f0,f1]=>(match P.underlying f0.type with|some (.int .i64)=>true|_=>false)&&(match P.underlying f1.type with|some (.int .i64)=>true|_=>false)&& !(f0.name== "_")&& !(f1.name== "_")&&Nat.beq f0.offset 0&&Nat.beq f1.offset 1&& !P.stoodInHeld kt
  |_=>false
 |_=>false
theorem LK{P:Program}{kt:TypeId}(h:YB P kt=true):∃f0 f1,qd P kt f0 f1:=by
 unfold YB at h
 split at h
 ·rename_i fs hu
  split at h
  ·rename_i f0 f1 hf
   simp only[bD,gV]at h
   obtain⟨⟨⟨⟨⟨⟨h1,h2⟩,h3⟩,h4⟩,h5⟩,h6⟩,h7⟩:=h
   refine⟨f0,f1,?_,?_,?_,by simpa using h3,by simpa using h4,ft h5,ft h6,h7⟩
   ·rw[hu]
    congr 2
    apply Array.ext'
    exact hf
   ·split at h1
    ·assumption
    ·cases h1
   ·split at h2
    ·assumption
    ·cases h2
  ·cases h
 ·cases h
@[reducible] def tCe:TypeId:=220
@[reducible] def anV:TypeId:=222
@[reducible] def tCm:TypeId:=221
theorem agB:qw aC anV=some (tCe,2,16,[VI 0,VI 0]):=by kernel_rfl
theorem adw:∃f0 f1,qd aC tCe f0 f1:=LK (by kernel_rfl)
theorem adx{x y:Int}{r:Nat}(hx:iD x)(hy:iD y)(hr:r<4){h:Heap}(K:aL)(HK:∀h',Fr No h h'->K (.agg #[VI (mvX x r),VI (mvY y r)]) h'):aG aC 265 #[.agg #[VI x,VI y],VI r] h K:=by
 unfold iD at hx hy
 refine alI x y r h K ⟨fun e b1 b2 h3 _ _ f3 _=> ?_,fun e=>⟨fun e2 b1 b2 h3 _ _ f3 _=> ?_,fun e2=>⟨fun e3 b1 b2 h3 _ _ f3 _=> ?_,fun e3 b1 b2 h3 _ _ f3 _=> ?_⟩⟩⟩
 ·simp only[aT]at e
  rw[aP _ (by omega) (by omega)]
  have:=HK h3 f3.aM
  rw[e]at this
  exact this
 ·simp only[aT]at e2
  rw[aP _ (by omega) (by omega)]
  have:=HK h3 f3.aM
  rw[e2]at this
  exact this
 ·simp only[aT]at e3
  rw[aP _ (by omega) (by omega)]
  have:=HK h3 f3.aM
  rw[e3]at this
  exact this
 ·simp only[aY]at e e2 e3
  rw[aP _ (by omega) (by omega)]
  have:=HK h3 f3.aM
  have e5:(r:Int)=3:=by omega
  rw[e5]at this
  exact this
set_option maxHeartbeats 4000000 in
theorem ady{N k:Nat}(hN:N<=250)(hk:k<4){h:Heap}(K:aL)
 (HK:∀b1 m s st h' A B C l,gq k N=some (A,B,C,l)->Vars h' [(b1,[.map m,Sl.v s,VI st])]->Ow h' (fun q=>h.size<=q) tCe 2 s (kE l)->Fr No h h'->K (VP b1 0) h'):aG aC 264 #[VI N,VI k,VI 4,.func (.func 265) #[] #[]] h K:=by
 obtain⟨c0,c1,CT⟩:=adw
 have hm:Tryz.prog.underlying tCm=some (.map tCe tI):=by kernel_rfl
 have hz:qN aC tI=some (VI 0):=by kernel_rfl
 refine alG N k 4 _ h K (GN fun h1 M1 f1 z1=>⟨some h.size,rfl,.nil,fun b1 h2 fK f2 cC=> ?_⟩)
 have f2:=f2.aM
 have z2:=f2.size
 have l1:b1<h2.size:=cC.head.lt
 have M2:=M1.fr f2 fun h=>h
 refine⟨fun n t x1 x2 x3 h'=>∃(j A B C:Nat)(l:List Nat)(gw:List ((Int×Int)×Int)),t=j/\n+j=N/\gq k j=some (A,B,C,l)/\x1=some h.size/\vM h' h.size gw/\Ct gw A B C/\qp k A B C/\Ow h' (fun q=>h.size<q/\q≠b1) tCe 2 x2 (kE l)/\Fr (fun q=>h.size<=q) h h',
  ⟨N,0,_,_,_,_,[],rfl,by omega,rfl,rfl,M2,Ct.first k,qp.first hk,Ow.nil _ _ _ _,(f1.aA f2).aB⟩,?_⟩
 rintro n t _ x2 x3 h3 ⟨j,A,B,C,l,gw,rfl,hn,hc,rfl,M3,R3,T3,O3,F3⟩ dI
 have z3:=F3.size
 have l3:b1<h3.size:=dI.head.lt
 have ll:=jS hc
 refine⟨fun e=> ?_,fun e=> ?_⟩
 ·simp only[aT]at e
  intro b2 h5 eN f5 ie
  have f5:=f5.aM
  have z5:=f5.size
  obtain⟨A',B',C',l',TP⟩:=nV (k:=k) (n:=j+1) hk (by omega)
  obtain⟨i9,hw,rfl,rfl⟩:=nW hc TP
  have hM:vM h5 h.size gw:=M3.fr f5 fun h=>h
  refine⟨fun m x y x6 x7 x8 h'=>∃(B2 C2:Nat)(gw:List ((Int×Int)×Int)),qo m A B2 C2 (cN x y)=some (i9,B',C')/\iD x/\iD y/\x6=some h.size/\x7=x2/\vM h' h.size gw/\Ct gw A B2 C2/\qp k A B2 C2/\Ow h' (fun q=>h.size<q/\q≠b1) tCe 2 x2 (kE l)/\b2<h'.size/\Fr (fun q=>h.size<=q) h h',
   ⟨1000,B,C,gw,hw,by decide,by decide,rfl,rfl,hM,R3,T3,Ow.no O3 f5,ie.head.lt,F3.trans f5.aB⟩,?_⟩
  rintro m x y _ x7 x8 h6 ⟨B2,C2,Xy,hw2,hx,hy,rfl,rfl,M6,R6,T6,O6,l6,F6⟩ jx
  have v6:=R6 x y
  have Xz:∀{X Y:Heap},Fr (In [h.size]) X Y->∀p,p∈[(b2,[VI x,VI y]),(b1,[Value.map (some h.size),x7.v,VI x8])]->¬In [h.size] p.1:=fun _ p hp hk=>by
   simp only[In,eZ]at hk
   simp only[aO,aR,aN]at hp
   rcases hp with rfl|rfl
   ·simp only at hk;omega
   ·simp only at hk;omega
  have z6:=F6.size
  refine JB CT hm hz M6 ⟨_,_,rfl,fun e2=> ?_,fun e2=> ?_⟩
  ·have hf:jf Xy x y=none:=by simpa using e2
   have hA:A.testBit (cN x y)=false:=by
    unfold uG at v6
    rw[hf]at v6
    cases hb:A.testBit (cN x y)with
    |false=>rfl
    |true=>rw[aJ ⟨hx,hy,hb⟩]at v6;cases v6
   have hR:=xT hw2 hA
   simp only[fH]at hR
   obtain⟨rfl,rfl,rfl⟩:=hR
   obtain⟨_,R7⟩:=R6.new T6 hx hy hA
   refine Tg CT hm M6 hf fun u h7 M7 f7=>⟨jx.fr f7 (Xz f7),?_⟩
   have z7:=f7.size
   have kL:=jx.fr f7 (Xz f7)
   have O7:=Ow.fr O6 f7 fun q hq ju=>by have:=(O6.aS hq).1.1;simp only[In,eZ]at ju;omega
   refine bE agB (fun q=>h7.size<=q) (fun _ h=>h) 1 (by omega) [VI x,VI y] rfl rfl fun s h8 n8 c8 o8 f8 m8 _=>⟨s,rfl,kL.aB f8,?_⟩
   have z8:=f8.size
   have l7:b1<h8.size:=(kL.aB f8).tail.head.lt
   have sl:x7.n=l.length:=by have:=O7.rd.len;rw[qe]at this;omega
   refine cP agB (Ow.no O7 f8) (fun q hq=>⟨by omega,by omega⟩) o8.rd rfl (by omega) fun t9 h9 n9 o9 f9 w9=> ?_
   have anW:∀p,p∈[(b2,[VI x,VI y]),(b1,[Value.map (some h.size),x7.v,VI x8])]->¬x7.own p.1:=fun p hp hk=>by
    simp only[aO,aR,aN]at hp
    rcases hp with rfl|rfl
    ·have:=(O3.aS hk).2;simp only at this;omega
    ·exact(O7.aS hk).1.2 rfl
   refine⟨t9,rfl,(kL.aB f8).fr f9 anW,fun eW f10 fe=> ?_⟩
   have z9:=f9.size
   have mo:∀{q:Nat},In [b1] q->h.size<q:=fun hq=>by simp only[In,eZ]at hq;omega
   have M10:=((M7.fr f8 fun h=>h).fr f9 fun hq=>by have:=(O7.aS hq).1.1;omega).fr f10 fun hq=>by have:=mo hq;omega
   refine⟨n-1,by omega,j+1,_,_,_,_,_,?_,by omega,TP,rfl,M10,R7,?_,?_,?_⟩
   ·rw[aP _ (by omega) (by omega)];omega
   ·rcases T6.grow (i:=cN x y)with hh|hh
    ·exact hh
    ·rw[hA]at hh;cases hh
   ·rw[JE,(vN hx hy).1,(vN hx hy).2]
    exact Ow.fr o9 f10 fun q hq ju=>by simp only[In,eZ]at ju;exact(o9.aS hq).1.2 ju
   ·refine(((F6.trans (f7.mono fun q _ hq=>by simp only[In,eZ]at hq;omega)).trans f8.aB).trans (f9.mono fun q _ hq=>by have:=(O7.aS hq).1.1;omega)).trans (f10.mono fun q _ hq=>by have:=mo hq;omega)
  ·obtain⟨p,hf⟩:∃p,jf Xy x y=some p:=by
    cases hf:jf Xy x y with
    |none=>rw[hf]at e2;cases e2
    |some p=>exact⟨p,rfl⟩
   obtain⟨jj,rr⟩:=p
   have hA:A.testBit (cN x y)=true:=by
    unfold uG at v6
    rw[hf]at v6
    cases hb:A.testBit (cN x y)with
    |true=>rfl
    |false=>rw[aF (fun h=>by rw[hb]at h;cases h.2.2)]at v6;cases v6
   have hrr:rr=(mE B2 C2 (cN x y):Int):=by
    unfold uG at v6
    rw[hf,aJ ⟨hx,hy,hA⟩]at v6
    exact bI v6
   subst hrr
   obtain⟨hi,m',rfl,hw3⟩:=uE hw2 hA
   have wc:=Nu B2 C2 (cN x y)
   have et:Int.tmod (aX (((Option.map (fun p:Nat×Int=>p.2) (jf Xy x y)).getD 0)+1)) 4=(((mE B2 C2 (cN x y)+1)%4:Nat):Int):=by
    rw[hf]
    simp only[Option.map_some,Option.getD_some]
    rw[aP _ (by omega) (by omega),GJ (by omega)]
    omega
   rw[et]
   obtain⟨g1,g2,g3⟩:=JA (r:=(mE B2 C2 (cN x y)+1)%4) hx hy rfl hi (by omega)
   refine⟨by omega,Tf CT hm M6 hf fun u h7 M7 f7=>⟨jx.fr f7 (Xz f7),?_⟩⟩
   have z7:=f7.size
   have kL:=jx.fr f7 (Xz f7)
   have O7:=Ow.fr O6 f7 fun q hq ju=>by have:=(O6.aS hq).1.1;simp only[In,eZ]at ju;omega
   refine adx hx hy (by omega) _ fun h8 f8=>⟨_,_,rfl,kL.aB f8,fun eW f10 fe=>⟨m',by omega,_,_,_,by rw[g3];exact hw3,g1,g2,rfl,rfl,?_,R6.set hx hy hf,T6.step hA,?_,fe.head.lt,?_⟩⟩
   ·exact(M7.fr f8 fun h=>h).fr f10 fun hq=>by simp only[In,aO,aR,aN]at hq;omega
   ·refine Ow.fr (Ow.no O7 f8) f10 fun q hq ju=> ?_
    simp only[In,aO,aR,aN]at ju
    have h1:=(O3.aS hq)
    rcases ju with rfl|rfl
    ·exact h1.1.2 rfl
    ·have:=h1.2;omega
   ·exact((F6.trans (f7.mono fun q _ hq=>by simp only[In,eZ]at hq;omega)).trans f8.aB).trans (f10.mono fun q _ hq=>by simp only[In,aO,aR,aN]at hq;omega)
 ·simp only[aY]at e
  have:j=N:=by omega
  subst this
  exact HK b1 _ x2 x3 h3 A B C l hc dI (O3.mono fun q _ hq=>by omega) (F3.mono fun q hq ju=>absurd ju (by omega))
theorem XA{h:Heap}(n k:Int)(K:aL)(HN:¬(0<=n/\n<=250/\0<=k/\k<=3)->K (.tuple #[.pointer none,VB false]) h)
 (HY:0<=n/\n<=250/\0<=k/\k<=3->∀b1 m s st h' A B C l,gq k.toNat n.toNat=some (A,B,C,l)->Vars h' [(b1,[.map m,Sl.v s,VI st])]->Ow h' (fun q=>h.size<=q) tCe 2 s (kE l)->Fr No h h'->K (.tuple #[VP b1 0,VB true]) h'):aG aC 220 #[VI n,VI k] h K:=by
 refine akT n k h K (fa _ _ _ h _ ⟨_,rfl,.nil,fun e=>HN fun hh=> ?_,fun e=> ?_⟩)
 ·simp at e;omega
 have e:0<=n/\n<=250:=by simpa using e
 refine fa _ _ _ h _ ⟨_,rfl,.nil,fun e2=>HN fun hh=> ?_,fun e2=> ?_⟩
 ·simp at e2;omega
 have e2:0<=k/\k<=3:=by simpa using e2
 replace HY:=HY ⟨e.1,e.2,e2⟩
 obtain⟨N,rfl⟩:∃N:Nat,n=N:=⟨n.toNat,by omega⟩
 obtain⟨k,rfl⟩:∃k':Nat,k=k':=⟨k.toNat,by omega⟩
 refine ady (by omega) (by omega) _ fun b1 m s st h' A B C l hc V O f=>⟨some ⟨b1,0,none⟩,rfl,.nil,HY b1 m s st h' A B C l hc V O f⟩
theorem Ex{N k A B C:Nat}{l:List Nat}(hN:1<=N/\N<=250)(hk:k<4)(hc:gq k N=some (A,B,C,l)):∃h:N-1<l.length,rY N k=([((l[N-1]:Nat):Int)/121-60,((l[N-1]:Nat):Int)%121-60],true):=by
 have ll:=jS hc
 refine⟨by omega,?_⟩
 unfold rY
 rw[aJ (by omega),Int.toNat_natCast,Int.toNat_natCast,hc]
 have:l.getLastD 0=l[N-1]'(by omega):=by
  have e1:l.getLast?=some (l[N-1]'(by omega)):=by
   rw[List.getLast?_eq_getElem?,show l.length-1=N-1 by omega]
   exact dY _
  rw[List.getLastD_eq_getLast?,e1]
  rfl
 simp only[this]
theorem GO{h:Heap}(n k:Int)(K:aL)(HK:∀t h',cH h' (fun q=>h.size<=q) t (rY n k).1->Fr No h h'->K (.tuple #[t.v,VB (rY n k).2]) h'):aG aC 170 #[VI n,VI k] h K:=by
 have no:¬(1<=n/\n<=250/\0<=k/\k<=3)->∀h',Fr No h h'->K (.tuple #[aD.v,VB false]) h':=fun hn h' f=>by
  unfold rY at HK
  rw[aF hn]at HK
  exact HK aD h' (Ow.nil _ _ _ _) f
 refine ajK n k h K (XA n k _ (fun hn=>⟨none,false,rfl,.nil,fun _=>no (fun h=>hn (by omega)) h (Fr.refl _ _),fun e=>by cases e⟩) fun hy b1 m s st h1 A B C l hc V O f1=>⟨some ⟨b1,0,none⟩,true,rfl,.nil,fun e=>(by cases e),fun _=>⟨fun e=> ?_,fun e=> ?_⟩⟩)
 ·simp only[aT]at e
  exact no (by omega) h1 f1
 ·simp only[aY]at e
  obtain⟨N,rfl⟩:∃N:Nat,n=N:=⟨n.toNat,by omega⟩
  obtain⟨k,rfl⟩:∃k':Nat,k=k':=⟨k.toNat,by omega⟩
  rw[Int.toNat_natCast,Int.toNat_natCast]at hc
  obtain⟨hl,eg⟩:=Ex (by omega) (by omega) hc
  have sl:s.n=l.length:=by have:=O.rd.len;rw[qe]at this;omega
  have ll:=jS hc
  rw[aP _ (by omega) (by omega)]
  have ei:(((N:Int)-1)).toNat=N-1:=by omega
  rw[eg]at HK
  obtain⟨q1,q2⟩:=Cu hl
  have z1:=f1.size
  refine⟨b1,m,s,st,rfl,V,O.bM (by omega) (by omega),((l[N-1]:Nat):Int)/121-60,((l[N-1]:Nat):Int)%121-60,?_,fun b2 h3 eN f3 dI=> ?_⟩
  ·obtain⟨g,o,ma,ha,_,_,hat,_⟩:=O.EN (i:=(N:Int)-1) (by omega) (by omega)
   have cl:=qe l
   have cell:∀j v,(kE l)[j]?=some v->bF h1 (⟨g,o+j,none⟩:Addr)=some v:=fun j v hv=>by
    obtain⟨hj,e1⟩:=Af.1 hv
    obtain⟨a,h1,_,h2⟩:=O.rd.cell j hj
    rw[ha]at h1
    have h1:=bI h1
    subst h1
    rw[iW]at h2
    rw[h2,e1]
   intro j hj
   rw[hat,ei,iW,kS]
   rcases(by simp at hj;omega:j=0\/j=1)with rfl|rfl
   ·exact cell _ _ q1
   ·exact cell _ _ q2
  ·refine bE gD (fun q=>h3.size<=q) (fun _ h=>h) 2 (by omega) [VI (((l[N-1]:Nat):Int)/121-60),VI (((l[N-1]:Nat):Int)%121-60)] rfl rfl fun t h4 n4 c4 o4 f4 m4 _=>⟨t,rfl,dI.aB f4,?_⟩
   have z3:=f3.aM.size
   exact HK t h4 (by show Ow _ _ _ _ _ _;exact o4.mono fun q _ hq=>by omega) ((f1.aA f3.aM).aA f4)
theorem LM{x y:Int}(hx:iD x)(hy:iD y){h:Heap}(K:aL)(HK:K (VI (cN x y:Nat)) h):aG aC 241 #[VI x,VI y] h K:=by
 refine alj x y h K ?_
 unfold ae4 pk
 unfold iD at hx hy
 rw[aP (x+60) (by omega) (by omega),aP ((x+60)*121) (by omega) (by omega),aP ((x+60)*121+y) (by omega) (by omega),aP _ (by omega) (by omega)]
 have e:((cN x y:Nat):Int)=(x+60)*121+y+60:=by unfold cN;omega
 rw[<-e]
 exact HK
theorem Th{x y:Int}{r:Nat}(hx:iD x)(hy:iD y)(hr:r<4){h:Heap}(K:aL)(HK:K (.tuple #[VI (mvX x r),VI (mvY y r)]) h):aG aC 242 #[VI x,VI y,VI r] h K:=by
 unfold iD at hx hy
 refine alm x y r h K ⟨fun e=> ?_,fun e=>⟨fun e2=> ?_,fun e2=>⟨fun e3=> ?_,fun e3=> ?_⟩⟩⟩
 ·simp only[aT]at e
  rw[aP _ (by omega) (by omega)]
  rw[e]at HK
  exact HK
 ·simp only[aT]at e2
  rw[aP _ (by omega) (by omega)]
  rw[e2]at HK
  exact HK
 ·simp only[aT]at e3
  rw[aP _ (by omega) (by omega)]
  rw[e3]at HK
  exact HK
 ·simp only[aY]at e e2 e3
  rw[aP _ (by omega) (by omega)]
  have e5:(r:Int)=3:=by omega
  rw[e5]at HK
  exact HK
def qt(l:List Nat):aE:=l.map fun i:Nat=>[(i:Int)/121-60,(i:Int)%121-60]
theorem LN(l:List Nat)(i:Nat):qt (l++[i])=qt l++[[(i:Int)/121-60,(i:Int)%121-60]]:=by simp[qt]
def GrL(gl:List Bool)(A:Nat):Prop:=gl.length=14641/\∀j,j<14641->gl.getD j false=A.testBit j
def RoL(rl:aH)(B C:Nat):Prop:=rl.length=14641/\∀j,j<14641->rl.getD j 0=(mE B C j:Int)
theorem xU{α:Type}{l:List α}{i j:Nat}{v d:α}(hi:i<l.length):(l.set i v).getD j d=if j=i then v else l.getD j d:=by
 rw[eG,eG,wL]
 by_cases h:i=j
 ·subst h;rw[aJ rfl,aJ hi,aJ rfl,Option.getD_some]
 ·rw[aF h,aF (fun e=>h e.symm)]
theorem GrL.grow{gl:List Bool}{A i:Nat}(G:GrL gl A)(hi:i<14641)(hA:A.testBit i=false):GrL (gl.set i true) (A^^^2^i):=⟨by rw[bY];exact G.1,fun j hj=>by
 rw[xU (by rw[G.1];exact hi),nu]
 by_cases h:j=i
 ·subst h;rw[aJ rfl,aJ rfl,hA];rfl
 ·rw[aF h,aF h];exact G.2 j hj⟩
theorem RoL.turn{rl:aH}{B C i:Nat}(R:RoL rl B C)(hi:i<14641):RoL (rl.set i (((mE B C i+1)%4:Nat):Int)) (B^^^2^i) (bif B.testBit i then C^^^2^i else C):=⟨by rw[bY];exact R.1,fun j hj=>by
 rw[xU (by rw[R.1];exact hi),xS]
 by_cases h:j=i
 ·rw[aJ h,aJ h]
 ·rw[aF h,aF h];exact R.2 j hj⟩
theorem JF{h:Heap}{n:Int}{m:Nat}(e:n=m)(hm:m<=100000){K:aL}(HK:∀x h',Ow h' (fun k=>h.size<=k) tB 1 x ((List.replicate m false).map VB)->Fr No h h'->K x.v h'):lQ aC (Instr.makeSlice tBs (VI n) (VI n)) h K:=by
 subst e
 refine fC rBs (fun k=>_<=k) (fun _ h=>h) .i64 .i64 m m (aW _) (by omega) fun t h2 n2 c2 o2 f2 m2 _=>HK t h2 ?_ f2
 have e:(List.replicate m [VB false]).flatten=(List.replicate m false).map VB:=by simp[ko]
 rw[e]at o2;exact o2
set_option maxHeartbeats 8000000 in
theorem adz{N k:Nat}(hN:N<=250)(hk:k<4){h:Heap}(K:aL)
 (HK:∀b1 x1 x2 x3 st h' A B C l,gq k N=some (A,B,C,l)->Vars h' [(b1,[Sl.v x1,Sl.v x2,Sl.v x3,VI st])]->gy h' (fun q=>h.size<=q) x3 (qt l)->Fr No h h'->K (VP b1 0) h'):aG aC 193 #[VI N,VI k] h K:=by
 refine v193 N k h K ⟨fun b1 x1 x2 x3 x4 h'=>x3=aD/\Ow h' (fun q=>h.size<=q/\q<b1) tB 1 x1 ((List.replicate 14641 false).map VB)/\cH h' (fun q=>h.size<=q/\q<b1) x2 (List.replicate 14641 0)/\Dj x1 x2/\Fr No h h'/\h.size<=b1,?_,?_⟩
 ·refine⟨JF (m:=14641) rfl (by omega) fun g h1 o1 f1=>⟨g,rfl,.nil,kC (m:=14641) rfl (by omega) fun r h2 o2 f2=>⟨r,rfl,.nil,fun b1 h3 hb f3 hL=> ?_⟩⟩,kC (m:=14641) rfl (by omega) fun r h1 o1 f1=>⟨r,rfl,.nil,JF (m:=14641) rfl (by omega) fun g h2 o2 f2=>⟨g,rfl,.nil,fun b1 h3 hb f3 hL=> ?_⟩⟩⟩
  ·have f3:=f3.aM
   have z1:=f1.size
   have z2:=f2.size
   refine⟨rfl,(Ow.no (Ow.no o1 f2) f3).mono fun q hq _=>⟨(o1.aS hq).1,by have:=(o1.aS hq).2;omega⟩,(Ow.no o2 f3).mono fun q hq _=>⟨by have:=(o2.aS hq).1;omega,by have:=(o2.aS hq).2;omega⟩,fun q hq ju=>by have:=(o1.aS hq).2;have:=(o2.aS ju).1;omega,(f1.aA f2).aA f3,by omega⟩
  ·have f3:=f3.aM
   have z1:=f1.size
   have z2:=f2.size
   refine⟨rfl,(Ow.no o2 f3).mono fun q hq _=>⟨by have:=(o2.aS hq).1;omega,by have:=(o2.aS hq).2;omega⟩,(Ow.no (Ow.no o1 f2) f3).mono fun q hq _=>⟨(o1.aS hq).1,by have:=(o1.aS hq).2;omega⟩,fun q hq ju=>by have:=(o2.aS hq).1;have:=(o1.aS ju).2;omega,(f1.aA f2).aA f3,by omega⟩
 rintro b1 g r _ x4 h7 ⟨rfl,G7,R7,dj,F7,hb⟩ kL
 have rn:r.n=14641:=by have:=R7.rd.len;rw[bG,ja]at this;omega
 have gb:¬g.own b1:=fun hk=>by have:=(G7.aS hk).1.2;omega
 have rb:¬r.own b1:=fun hk=>by have:=(R7.aS hk).1.2;omega
 have lb7:=kL.head.lt
 refine⟨fun m i h'=>∃rl:aH,0<=i/\i+m=14641/\rl.length=14641/\(∀j,j<i.toNat->rl.getD j 0=(k:Int))/\cH h' (fun q=>h.size<=q/\q<b1) r rl/\Ow h' (fun q=>h.size<=q/\q<b1) tB 1 g ((List.replicate 14641 false).map VB)/\Fr (fun q=>h.size<=q) h h',⟨14641,_,by omega,by omega,ja,fun j hj=>absurd hj (by simp),R7,G7,F7.aB⟩,?_⟩
 rintro m i h8 ⟨rl,i0,i1,i2,i3,R8,G8,F8⟩ gK
 refine⟨fun e=> ?_,fun e=> ?_⟩
 ·simp only[aT]at e
  obtain⟨w1,w2,w3⟩:=R8.gH i0 e (VI k)
  refine⟨R8.bM i0 e,w1,jr gK w3 rb,fun h9 e9 iG=>⟨m-1,by omega,rl.set i.toNat k,?_,?_,by rw[bY];exact i2,fun j hj=> ?_,?_,?_,?_⟩⟩
  ·rw[aP _ (by omega) (by omega)];omega
  ·rw[aP _ (by omega) (by omega)];omega
  ·rw[aP _ (by omega) (by omega)]at hj
   rw[xU (by omega)]
   split
   ·rfl
   ·exact i3 j (by omega)
  ·subst e9;show Ow _ _ _ _ _ _;rw[iu];exact w2
  ·subst e9;exact Ow.fr G8 w3 fun q hq ju=>dj q hq ju
  ·subst e9;exact F8.trans (w3.mono fun q _ hq=>(R8.aS hq).1.1)
 simp only[aY]at e
 have hR0:RoL rl (pp (k.testBit 0)) (pp (k.testBit 1)):=⟨i2,fun j hj=>by rw[i3 j (by omega),Jz hk hj]⟩
 have hG0:GrL (List.replicate 14641 false) 0:=⟨ja,fun j hj=>by rw[Nat.zero_testBit,eG,List.getElem?_replicate];split<;>rfl⟩
 refine⟨fun n n0 y5 y6 y7 y8 h'=>∃(j A B C:Nat)(l:List Nat)(gl:List Bool)(rl:aH),n0=(N:Int)-j/\n+j=N/\gq k j=some (A,B,C,l)/\y5=g/\y6=r/\GrL gl A/\RoL rl B C/\cH h' (fun q=>h.size<=q/\q<b1) r rl/\Ow h' (fun q=>h.size<=q/\q<b1) tB 1 g (gl.map VB)/\gy h' (fun q=>b1+1<=q) y7 (qt l)/\Fr (fun q=>h.size<=q) h h',
  ⟨N,0,0,pp (k.testBit 0),pp (k.testBit 1),[],_,_,(Int.sub_zero _).symm,Nat.add_zero _,rfl,rfl,rfl,hG0,hR0,R8,G8,dJ.nil _ _ _ _,F8⟩,?_⟩
 rintro n _ y5 y6 y7 y8 eW ⟨j,A,B,C,l,gl,rl,rfl,hn,hc,rfl,rfl,hG,hR,R10,Ph,X10,qC⟩ fe
 have ll:=jS hc
 refine⟨fun e2=> ?_,fun e2=> ?_⟩
 ·simp only[aT]at e2
  obtain⟨A',B',C',l',TP⟩:=nV (k:=k) (n:=j+1) hk (by omega)
  obtain⟨i9,hw,rfl,rfl⟩:=nW hc TP
  refine⟨fun m x y z9 AF Pu z12 h'=>∃(B2 C2:Nat)(rl:aH),qo m A B2 C2 (cN x y)=some (i9,B',C')/\iD x/\iD y/\z9=y5/\AF=y6/\Pu=y7/\RoL rl B2 C2/\cH h' (fun q=>h.size<=q/\q<b1) y6 rl/\Ow h' (fun q=>h.size<=q/\q<b1) tB 1 y5 (gl.map VB)/\gy h' (fun q=>b1+1<=q) y7 (qt l)/\Fr (fun q=>h.size<=q) h h',
   ⟨1000,B,C,rl,hw,by decide,by decide,rfl,rfl,rfl,hR,R10,Ph,X10,qC⟩,?_⟩
  rintro m x y z9 AF Pu z12 gP ⟨B2,C2,rl2,hw2,hx,hy,rfl,rfl,rfl,hR2,VN,LO,X11,F11⟩ fJ
  have hi:=Nv hx hy
  have atG:=F11.size
  have atH:=fJ.head.lt
  have gR:=LO.rd
  have gi:((cN x y:Nat):Int)<((gl.length:Nat):Int):=by rw[hG.1];omega
  have cg:=al2 gR (i:=(cN x y:Nat)) (by omega) gi
  have egl:gl[((cN x y:Nat):Int).toNat]'(by rw[hG.1];omega)=A.testBit (cN x y):=by
   have:=hG.2 _ hi
   rw[eG,dY (by rw[hG.1];exact hi),Option.getD_some]at this
   exact this
  rw[egl]at cg
  have agF:fp z9 ((cN x y:Nat):Int):=eC.bM gR (by omega) (by rw[bG];exact gi)
  refine LM hx hy _ ⟨_,rfl,fJ,agF,_,cg,fun e3=> ?_,fun e3=> ?_⟩
  ·obtain⟨Y4,m',rfl,hw3⟩:=uE hw2 e3
   have wc:=Nu B2 C2 (cN x y)
   have rR:bC AF.own gP AF rl2:=VN.rd
   have ri:((cN x y:Nat):Int)<(rl2.length:Int):=by rw[hR2.1];omega
   have cr:=rR.get (i:=(cN x y:Nat)) (by omega) ri
   have erl:rl2[((cN x y:Nat):Int).toNat]'(by rw[hR2.1];omega)=(mE B2 C2 (cN x y):Int):=by
    have:=hR2.2 _ hi
    rw[eG,dY (by rw[hR2.1];exact hi),Option.getD_some]at this
    exact this
   rw[erl]at cr
   have et:Int.tmod (aX ((mE B2 C2 (cN x y):Int)+1)) 4=(((mE B2 C2 (cN x y)+1)%4:Nat):Int):=by
    rw[aP _ (by omega) (by omega),GJ (by omega)]
    omega
   have rnb:fp AF ((cN x y:Nat):Int):=rR.bM (by omega) ri
   have rn2:AF.n=rl2.length:=by have:=rR.len;exact this
   obtain⟨w1,w2,w3⟩:=VN.gH (i:=(cN x y:Nat)) (by omega) (by omega) (VI (((mE B2 C2 (cN x y)+1)%4:Nat):Int))
   refine LM hx hy _ ⟨_,rfl,fJ,rnb,_,cr,rnb,?_⟩
   rw[et]
   refine⟨w1,jr fJ w3 rb,fun TY e14 RW=> ?_⟩
   subst e14
   rw[<-iu,Int.toNat_natCast]at w2
   have Yq:cH _ (fun q=>h.size<=q/\q<b1) AF (rl2.set (cN x y) (((mE B2 C2 (cN x y)+1)%4:Nat):Int)):=w2
   have agG:bC AF.own _ AF _:=Yq.rd
   have agH:=agG.get (i:=(cN x y:Nat)) (by omega) (by rw[bY];exact ri)
   simp only[Int.toNat_natCast,List.getElem_set_self]at agH
   obtain⟨g1,g2,g3⟩:=JA (r:=(mE B2 C2 (cN x y)+1)%4) hx hy rfl Y4 (by omega)
   refine⟨agG.bM (by omega) (by rw[bY];exact ri),_,agH,Th hx hy (by omega) _ ⟨_,_,rfl,RW,fun Ov f16 nD=> ?_⟩⟩
   have XB:∀{q:Nat},In [b1] q->q=b1:=fun hq=>by simpa[In]using hq
   refine⟨m',by omega,_,_,_,by rw[g3];exact hw3,g1,g2,rfl,rfl,rfl,hR2.turn hi,?_,?_,?_,?_⟩
   ·exact Ow.fr Yq f16 fun q hq ju=>rb (XB ju▸hq)
   ·exact Ow.fr (Ow.fr LO w3 fun q hq ju=>dj q hq ju) f16 fun q hq ju=>gb (XB ju▸hq)
   ·exact(X11.fr w3 fun q _ hq ju=>by have:=(VN.aS ju).1.2;omega).fr f16 fun q _ hq ju=>by have:=XB ju;omega
   ·exact(F11.trans (w3.mono fun q _ hq=>(VN.aS hq).1.1)).trans (f16.mono fun q _ hq=>by have:=XB hq;omega)
  ·have hE:=xT hw2 e3
   simp only[fH]at hE
   obtain⟨rfl,rfl,rfl⟩:=hE
   obtain⟨w1,w2,w3⟩:=LO.gH (i:=(cN x y:Nat)) (by omega) (by have:=al3 gR;omega) (VB true)
   refine LM hx hy _ ⟨_,rfl,fJ,agF,w1,jr fJ w3 gb,fun Yf e18 agI=> ?_⟩
   subst e18
   rw[<-iu,Int.toNat_natCast]at w2
   have X18:=X11.fr w3 fun q _ hq ju=>by have:=(LO.aS ju).1.2;omega
   have z18:=w3.size
   refine bE gD (fun q=>_<=q) (fun _ h=>h) 2 (by omega) [VI x,VI y] rfl rfl fun s Fm n19 c19 VW f19 m19 _=>⟨s,rfl,agI.aB f19,?_⟩
   have z19:=f19.size
   have X19:gy Fm (Iv (b1+1) (Mx.dR gP (z9.at ((cN x y:Nat):Int) 1) (VB true)).size) Pu (qt l):=(X18.mono fun q hq ju=>⟨ju,hq⟩).no f19
   refine jE (ys:=[x,y]) X19 (by show Ow _ _ _ _ _ _;exact VW) (by omega) z19 (agI.aB f19) (fun p hp=>by simp only[eZ]at hp;subst hp;exact pL _) (by simp[qt];omega) _ fun t TZ X21 f21 ZI=> ?_
   have z21:=f21.size
   intro Hb f22 aft
   have XB:∀{q:Nat},In [b1] q->q=b1:=fun hq=>by simpa[In]using hq
   refine⟨n-1,by omega,j+1,_,_,_,_,_,_,?_,by omega,TP,rfl,rfl,hG.grow hi e3,hR2,?_,?_,?_,?_⟩
   ·rw[aP _ (by omega) (by omega)];omega
   ·exact Ow.fr (Ow.fr (Ow.no (Ow.fr VN w3 fun q hq ju=>dj q ju hq) f19) f21 fun q hq ju=>by have:=(VN.aS hq).1.2;omega) f22 fun q hq ju=>rb (XB ju▸hq)
   ·exact Ow.fr (Ow.fr (Ow.no w2 f19) f21 fun q hq ju=>by have:=(LO.aS hq).1.2;omega) f22 fun q hq ju=>gb (XB ju▸hq)
   ·rw[LN,(vN hx hy).1,(vN hx hy).2]
    exact X21.fr f22 fun q _ hq ju=>by have:=XB ju;omega
   ·exact(((F11.trans (w3.mono fun q _ hq=>(LO.aS hq).1.1)).trans f19.aB).trans (f21.mono fun q _ hq=>by omega)).trans (f22.mono fun q _ hq=>by have:=XB hq;omega)
 ·simp only[aY]at e2
  have:j=N:=by omega
  subst this
  exact HK b1 y5 y6 y7 y8 eW A B C l hc fe (X10.mono fun q _ hq=>by omega) (qC.mono fun q hq ju=>absurd ju (by omega))
theorem Pj{h:Heap}(n k:Int)(K:aL)(HK:K (VB (decide (0<=n/\n<=250/\0<=k/\k<=3))) h):aG aC 192 #[VI n,VI k] h K:=by
 refine akk n k h K (eK _ _ _ h _ ⟨_,rfl,.nil,fun e=>eK _ _ _ h _ ⟨_,rfl,.nil,?_⟩,fun e=> ?_⟩)
 ·have e:0<=n/\n<=250:=by simpa using e
  have:(decide (0<=k)&&decide (k<=3))=decide (0<=n/\n<=250/\0<=k/\k<=3):=by
   rw[<-Bool.decide_and]
   exact vk.2 ⟨fun h=>⟨e.1,e.2,h⟩,fun h=>h.2.2⟩
  rw[this]
  exact HK
 ·rw[gZ (fun h=>by simp at e;omega)]at HK
  exact HK
theorem vO{h:Heap}(n k:Int)(K:aL)(HK:∀t h',bC (fun _=>True) h' t (rY n k).1->Fr No h h'->K (.tuple #[t.v,VB (rY n k).2]) h'):aG aC 142 #[VI n,VI k] h K:=by
 have no:¬(1<=n/\n<=250/\0<=k/\k<=3)->∀h',Fr No h h'->K (.tuple #[aD.v,VB false]) h':=fun hn h' f=>by
  unfold rY at HK
  rw[aF hn]at HK
  exact HK aD h' (eC.nil _ _ _) f
 refine ajg n k h K (Pj n k _ ⟨_,rfl,.nil,fun e=>no (by simp at e;omega) h (Fr.refl _ _),fun e=>⟨fun e2=> ?_,fun e2=> ?_⟩⟩)
 ·simp only[aT]at e2
  exact no (by omega) h (Fr.refl _ _)
 have e:0<=n/\n<=250/\0<=k/\k<=3:=by simpa using e
 simp only[aY]at e2
 obtain⟨N,rfl⟩:∃N:Nat,n=N:=⟨n.toNat,by omega⟩
 obtain⟨k,rfl⟩:∃k':Nat,k=k':=⟨k.toNat,by omega⟩
 refine adz (by omega) (by omega) _ fun b1 x1 x2 x3 st h' A B C l hc V X f=>⟨some ⟨b1,0,none⟩,rfl,.nil,b1,x1,x2,x3,st,rfl,V,?_⟩
 obtain⟨hl,eg⟩:=Ex (by omega) (by omega) hc
 have ll:=jS hc
 have Rd:=X.rd
 have rl:(qt l).length=l.length:=by simp[qt]
 rw[aP _ (by omega) (by omega)]
 have ei:((N:Int)-1).toNat=N-1:=by omega
 obtain⟨si,c1,r1⟩:=Rd.get (i:=(N:Int)-1) (by omega) (by omega)
 have er:(qt l)[((N:Int)-1).toNat]'(by omega)=[((l[N-1]:Nat):Int)/121-60,((l[N-1]:Nat):Int)%121-60]:=by simp[qt,ei]
 rw[er]at r1
 rw[eg]at HK
 exact⟨Rd.bM (by omega) (by omega),si,c1,HK si h' (r1.mono fun _ _=>trivial) f⟩
def lL(w:List UInt8):Option Int:=match Lib.atoiAll w with
 | .ok n=>if 0<=n/\n<=999999/\Lib.itoa n=w then some n else none
 |_=>none
def pq(w:List UInt8):Option Nat:=if 1<=w.length/\w.length<=6/\¬(w.head?=some 48/\1<w.length)then Lib.decFrom 0 w else none
theorem mF(c:UInt8):∀(l:List UInt8)(a:Nat),Lib.decFrom a (l++[c])=(Lib.decFrom a l).bind fun n=>(Lib.digitVal c).map fun d=>n*10+d
 |[],a=>by
  show Lib.decFrom a [c]=_
  unfold Lib.decFrom
  cases Lib.digitVal c<;>rfl
 |b::l,a=>by
  rw[List.cons_append]
  unfold Lib.decFrom
  cases Lib.digitVal b with
  |none=>rfl
  |some d=>exact mF c l _
theorem JG{d:Nat}(h:d<10):Lib.digitVal (UInt8.ofNat (48+d))=some d:=by
 have:∀d:Fin 10,Lib.digitVal (UInt8.ofNat (48+d.val))=some d.val:=by decide
 exact this ⟨d,h⟩
theorem Ey{c:UInt8}{d:Nat}(h:Lib.digitVal c=some d):d<10/\c=UInt8.ofNat (48+d):=by
 unfold Lib.digitVal at h
 split at h
 ·rename_i hc
  have h:=bI h
  refine⟨by omega,UInt8.toNat_inj.1 ?_⟩
  rw[UInt8.toNat_ofNat']
  omega
 ·cases h
theorem JH:∀u:Nat,Lib.decFrom 0 (Lib.decDigits u)=some u:=by
 intro u
 induction u using Nat.strongRecOn with
 |_ u ih=>
  by_cases h:u<10
  ·rw[Lib.decDigits,dif_pos h]
   have:=mF (UInt8.ofNat (48+u)) [] 0
   rw[List.nil_append]at this
   rw[this,JG h]
   simp[Lib.decFrom]
  ·rw[Lib.decDigits,dif_neg h,mF,ih (u/10) (by omega),JG (by omega)]
   simp only[Option.bind_some,Option.map_some,dC]
   omega
theorem iE:∀(k u:Nat),u<10^(k+1)->1<=(Lib.decDigits u).length/\(Lib.decDigits u).length<=k+1
 |0,u,h=>by rw[Lib.decDigits,dif_pos (by simpa using h)];simp
 |k+1,u,h=>by
  by_cases hu:u<10
  ·rw[Lib.decDigits,dif_pos hu];simp
  ·have:=iE k (u/10) (by rw[Nat.pow_succ]at h;omega)
   rw[Lib.decDigits,dif_neg hu,cB,List.length_singleton]
   omega
theorem JI:∀u:Nat,(Lib.decDigits u).head?=some 48->u=0:=by
 intro u
 induction u using Nat.strongRecOn with
 |_ u ih=>
  intro h
  by_cases hu:u<10
  ·rw[Lib.decDigits,dif_pos hu]at h
   have:∀d:Fin 10,UInt8.ofNat (48+d.val)=48->d.val=0:=by decide
   exact this ⟨u,hu⟩ (by simpa using h)
  ·rw[Lib.decDigits,dif_neg hu]at h
   have hl:=(iE (u/10) (u/10) (by have:=Nat.lt_pow_self (n:=u/10+1) (show 1<10 by omega);omega)).1
   have:(Lib.decDigits (u/10)).head?=some 48:=by
    cases hd:Lib.decDigits (u/10)with
    |nil=>rw[hd]at hl;simp at hl
    |cons x l=>rw[hd]at h;simpa using h
   have:=ih (u/10) (by omega) this
   omega
theorem JJ:∀(k:Nat)(w:List UInt8)(n:Nat),w.length=k->1<=w.length->¬(w.head?=some 48/\1<w.length)->Lib.decFrom 0 w=some n->Lib.decDigits n=w:=by
 intro k
 induction k with
 |zero=>intro w n h1 h2;omega
 |succ k ih=>
  intro w n h1 h2 h3 h4
  have hw:w≠[]:=fun e=>by rw[e]at h2;simp at h2
  have e:=List.dropLast_concat_getLast hw
  have el:(w.dropLast).length=k:=by rw[List.length_dropLast];omega
  rw[<-e,mF]at h4
  cases hm:Lib.decFrom 0 w.dropLast with
  |none=>rw[hm]at h4;cases h4
  |some m=>
   rw[hm]at h4
   cases hc:Lib.digitVal (w.getLast hw)with
   |none=>rw[hc]at h4;cases h4
   |some d=>
    rw[hc]at h4
    have h4:m*10+d=n:=by simpa using h4
    obtain⟨hd,ed⟩:=Ey hc
    by_cases hk:k=0
    ·have:w.dropLast=[]:=pZ.1 (by omega)
     rw[this]at hm e
     have hm:0=m:=by simpa[Lib.decFrom]using hm
     rw[Lib.decDigits,dif_pos (by omega),<-e,ed]
     congr 3;omega
    ·have hh:¬(w.dropLast.head?=some 48):=fun hh=>by
      refine h3 ⟨?_,by omega⟩
      cases hd:w.dropLast with
      |nil=>rw[hd]at el;simp at el;omega
      |cons x l=>rw[<-e,hd];rw[hd]at hh;simpa using hh
     have:=ih w.dropLast m el (by omega) (fun h=>hh h.1) hm
     have m0:m≠0:=fun h0=>by
      rw[h0,Lib.decDigits,dif_pos (by omega)]at this
      exact hh (by rw[<-this];rfl)
     rw[Lib.decDigits,dif_neg (by omega),show n/10=m by omega,this,show n%10=d by omega,<-ed]
     exact e
theorem Ti(w:List UInt8):lL w=(pq w).map fun n=>(n:Int):=by
 unfold lL
 cases hr:pq w with
 |some n=>
  unfold pq at hr
  split at hr
  ·rename_i hc
   have hd:=JJ _ w n rfl hc.1 hc.2.2 hr
   have wc:=Lib.decFrom_lt w 0 n hr
   have hp:10^w.length<=10^6:=zE (by decide) hc.2.1
   have ha:Lib.atoiAll w= .ok (n:Int):=by
    rw[Lib.atoiAll_short w (by omega)]
    cases w with
    |nil=>simp at hc
    |cons b r=>
     have hb:∃d,Lib.digitVal b=some d:=by
      unfold Lib.decFrom at hr
      cases hb:Lib.digitVal b with
      |none=>rw[hb]at hr;cases hr
      |some d=>exact⟨d,rfl⟩
     obtain⟨d,hb⟩:=hb
     obtain⟨d1,d2⟩:=Ey hb
     have hx:(b==45)=false/\(b==43)=false:=by
      rw[d2]
      have:∀d:Fin 10,(UInt8.ofNat (48+d.val)==45)=false/\(UInt8.ofNat (48+d.val)==43)=false:=by decide
      exact this ⟨d,d1⟩
     unfold Lib.atoi Lib.decNat
     simp only[hx.1,hx.2,vX,gB,List.isEmpty_cons,hr,Option.map_some,Lib.NumEnd.ofOption]
   rw[ha]
   (try simp only)
   rw[aJ ⟨by omega,by have:(10:Nat)^6=1000000:=by decide
                      omega,by rw[Lib.itoa_nonneg,hd]⟩]
   rfl
  ·cases hr
 |none=>
  cases ha:Lib.atoiAll w with
  |ok n=>
   (try simp only)
   rw[aF]
   ·rfl
   ·rintro⟨h0,h1,h2⟩
    obtain⟨u,hu⟩:∃u:Nat,n=u:=⟨n.toNat,by omega⟩
    rw[hu,Lib.itoa_nonneg]at h2
    have hl:=iE 5 u (by have:(10:Nat)^(5+1)=1000000:=by decide
                        omega)
    unfold pq at hr
    rw[<-h2,aJ ⟨hl.1,hl.2,fun h=>by
     have:=JI u h.1
     rw[this,Lib.decDigits,dif_pos (by omega)]at h
     simp at h⟩,JH]at hr
    cases hr
  |_=>rfl
def zL(l:aH):List UInt8:=Lib.join (l.map Lib.itoa) [44]
def kM(s:St):List UInt8:=Lib.itoa s.2++58::zL s.1
abbrev Dk:=aE×St
abbrev sT:=Option (Dk×List UInt8)
def CH(d:Dk)(r:St×Bool):sT:=if r.2=true then some ((d.1,r.1),kM r.1)else none
def Tj(d:Dk)(r:aH×Bool):sT:=if r.2=true then some (d,zL r.1)else none
def YC(d:Dk)(r:Int×Bool):sT:=if r.2=true then some (d,Lib.itoa r.1)else none
def stC(d:Dk):sT:=CH d (fm d.1 d.2.1 d.2.2 1)
def prC(d:Dk):sT:=Tj d ([(fD d.1 d.2.1 d.2.2).1,(fD d.1 d.2.1 d.2.2).2.1],(fD d.1 d.2.1 d.2.2).2.2)
noncomputable def cyC(d:Dk):sT:=Tj d (uD d.1 d.2.1 d.2.2)
def XC(d:Dk)(p:Int):sT:=CH d ((d.2.1,p),aZ d.1&&jq 0 ((d.1.length:Int)-1) p)
def rnC(d:Dk)(n:Int):sT:=CH d (fm d.1 d.2.1 d.2.2 n)
def psC(d:Dk)(n:Int):sT:=Tj d (kq d.1 d.2.1 d.2.2 n)
def vsC(d:Dk)(n:Int):sT:=Tj d (qz d.1 d.2.1 d.2.2 n)
def htC(d:Dk)(n:Int):sT:=YC d (pR d.1 d.2.1 d.2.2 n)
def tsC(d:Dk)(n:Int):sT:=YC d (uz d.1 n)
def flC(d:Dk)(n:Int):sT:=Tj d (rW d.1 n)
def XD(d:Dk)(p q:Int):sT:=if(jC d.1 p q).2=true then some (((jC d.1 p q).1,d.2),lP (jC d.1 p q).1)else none
def Tk(d:Dk)(p k:Int):sT:=CH d ((d.2.1.set p.toNat k,d.2.2),aZ d.1&&jq 0 ((d.1.length:Int)-1) p&&jq 0 (((d.1.getD p.toNat []).length:Int)-1) k)
def chC(d:Dk)(p q:Int):sT:=if(uM d.1 d.2.2 p q).2=true then some (d,Lib.itoa (uM d.1 d.2.2 p q).1.1++47::Lib.itoa (uM d.1 d.2.2 p q).1.2)else none
def gwC(d:Dk)(p q:Int):sT:=Tj d (rY p q)
def esC(d:Dk)(p q r s:Int):sT:=YC d (Cr p q r s)
def Ug(w:List UInt8):Option sT:=match rG w with
 |some g=>some (some ((g,(List.replicate g.length 0,0)),lP g))
 |none=>none
noncomputable def iF(d:Dk)(w:List UInt8):Option sT:=
 if w=[115,116,101,112]then some (stC d)else if w=[115,104,111,119]then some (some (d,lP d.1))else if w=[119,97,108,107]then some (some (d,kM d.2))
 else if w=[112,101,114,105,111,100]then some (prC d)else if w=[99,121,99,108,101]then some (cyC d)else none
def jt(d:Dk)(w:List UInt8)(n:Int):Option sT:=
 if w=[97,116]then some (XC d n)else if w=[114,117,110]then some (rnC d n)else if w=[112,97,115,115]then some (psC d n)else if w=[118,105,115,105,116,115]then some (vsC d n)
 else if w=[104,105,116]then some (htC d n)else if w=[116,114,101,101,115]then some (tsC d n)else if w=[102,117,108,108]then some (flC d n)else none
def vP(d:Dk)(w:List UInt8)(a b:Int):Option sT:=
 if w=[97,100,100]then some (XD d a b)else if w=[116,117,114,110]then some (Tk d a b)else if w=[99,104,97,110,99,101]then some (chC d a b)else if w=[103,114,111,119]then some (gwC d a b)else none
def C9:List UInt8:=[103,114,97,112,104]
def Cv:List UInt8:=[101,115,99,97,112,101,115]
noncomputable def cW(d:Dk)(w:List UInt8)(ns:aH):Option sT:=match ns with
 |[]=>iF d w
 |[a]=>jt d w a
 |[a,b]=>vP d w a b
 |[a,b,c,e]=>if w=Cv then some (esC d a b c e)else none
 |_=>none
noncomputable def gF(d:Dk)(ws:List (List UInt8)):Option sT:=
 if ws.length=2/\ws.headD []=C9 then Ug (ws.getD 1 [])else match jn lL ws.tail with
 |none=>none
 |some ns=>cW d (ws.headD []) ns
def JK(d:Dk)(a:Option sT):Dk×List UInt8:=match a with
 |none=>(d,[119,104,97,116])
 |some none=>(d,[110,111])
 |some (some r)=>r
noncomputable def fO(d:Dk)(s:List UInt8):Dk×List UInt8:=JK d (gF d (jy 32 s))
def pu(d:Dk):Prop:=fx d.1 d.2.1 d.2.2=true
noncomputable def fc(d:Dk)(s:List UInt8):Option (Dk×List UInt8):=if fx d.1 d.2.1 d.2.2=true/\s.length<=3000/\10∉s then some (fO d s)else none
theorem JL{n:Int}(h:0<=n):Lib.itoa n=Lib.decDigits n.toNat:=by
 obtain⟨u,rfl⟩:∃u:Nat,n=u:=⟨n.toNat,by omega⟩
 rw[Lib.itoa_nonneg,Int.toNat_natCast]
theorem rZ{n:Int}(h0: -9223372036854775808<=n)(h1:n<=9223372036854775807):(Lib.itoa n).length<=21:=Lib.itoa_length_le n h0 h1
theorem GP{rs:aH}(B:∀x,x∈rs-> -9223372036854775808<=x/\x<=9223372036854775807):(zL rs).length<=41*rs.length:=by
 have:=ur 44 (rs.map Lib.itoa) fun y hy=>by
  obtain⟨x,hx,rfl⟩:=dL.1 hy
  have:=rZ (B x hx).1 (B x hx).2
  omega
 rw[bG]at this
 exact this
theorem agJ{d:Int}(h0:0<=d)(h1:d<10):IntKind.u8.wrap (48+d)=48+d:=by
 show(48+d)%256=48+d
 omega
theorem GQ{d:Nat}(h:d<10):strOfNums [48+(d:Int)]=⟨[UInt8.ofNat (48+d)].toArray⟩:=by
 apply ByteArray.ext
 apply Array.toList_inj.1
 rw[strOfNums_data]
 simp only[bK,iY,qZ,and_true]
 have:(48+(d:Int)).toNat=48+d:=by omega
 rw[this]
theorem jT(n:Nat):n<=1000000000000000000->∀{h:Heap}(K:aL),(∀h',Fr No h h'->K (VS ⟨(Lib.decDigits n).toArray⟩) h')->aG aC 73 #[VI n] h K:=by
 induction n using Nat.strongRecOn with
 |_ n ih=>
  intro hn h K HK
  by_cases hd:n<10
  ·exact MM (by omega) (by omega) K (by rw[Int.toNat_natCast];exact HK)
  have aoa:Lib.decDigits n=Lib.decDigits (n/10)++[UInt8.ofNat (48+n%10)]:=by rw[Lib.decDigits,dif_neg hd]
  have hlen:(Lib.decDigits (n/10)).length<=19:=(iE 18 (n/10) (by omega)).2
  rw[aoa]at HK
  have et:Int.tmod (n:Int) 10=((n%10:Nat):Int):=by rw[GJ (by omega)];omega
  have ed:aX (Int.tdiv (n:Int) 10)=((n/10:Nat):Int):=by rw[Int.tdiv_eq_ediv_of_nonneg (by omega),aP _ (by omega) (by omega)];omega
  have ew:aX (48+Int.tmod (n:Int) 10)=48+((n%10:Nat):Int):=by rw[et,aP _ (by omega) (by omega)]
  have ap:(⟨(Lib.decDigits (n/10)).toArray⟩:ByteArray)++⟨[UInt8.ofNat (48+n%10)].toArray⟩=⟨(Lib.decDigits (n/10)++[UInt8.ofNat (48+n%10)]).toArray⟩:=fV _ _
  have conv:∀{X:Heap}{K:Value->Prop},K (.int .u8 (48+((n%10:Nat):Int)))->CI aC (convert 3 5 (VI (aX (48+Int.tmod (n:Int) 10)))) X K:=fun HK=>by
   rw[ew]
   refine jD (show Tryz.prog.underlying _=some (.int .i64)from by kernel_rfl) (show Tryz.prog.underlying _=some (.int .u8)from by kernel_rfl) (48+((n%10:Nat):Int)) ?_
   rw[agJ (by omega) (by omega)]
   exact HK
  refine v73 n h K ⟨fun e=>by simp only[aT]at e;omega,fun e=>conv ⟨_,rfl,?_,?_⟩⟩
  ·rw[ed]
   refine ih (n/10) (by omega) (by omega) _ fun h2 f2=>⟨_,rfl,.nil,?_,?_⟩
   ·obtain⟨v,hv,e⟩:=(conv (X:=h2) (K:=fun v=>v= .int .u8 (48+((n%10:Nat):Int))) rfl).out
    subst e
    exact hv
   refine bE ZN (fun k=>h2.size<=k) (fun _ h=>h) 1 (by omega) [.int .u8 (48+((n%10:Nat):Int))] rfl rfl fun w h3 n3 c3 o3 f3 m3 _=>⟨w,rfl,.nil,?_⟩
   refine vv (bs:=[UInt8.ofNat (48+n%10)]) o3.fM (GQ (by omega)) ⟨_,rfl,?_,?_⟩
   ·rw[cU,cU];simp only[List.length_singleton];omega
   ·rw[ap];exact HK h3 (f2.aA f3)
  ·refine bE ZN (fun k=>h.size<=k) (fun _ h=>h) 1 (by omega) [.int .u8 (48+((n%10:Nat):Int))] rfl rfl fun w h4 n4 c4 o4 f4 m4 _=>⟨w,rfl,.nil,?_⟩
   refine vv (bs:=[UInt8.ofNat (48+n%10)]) o4.fM (GQ (by omega)) ⟨_,rfl,?_⟩
   rw[ed]
   refine ih (n/10) (by omega) (by omega) _ fun h5 f5=>⟨_,rfl,.nil,?_,?_,?_⟩
   ·obtain⟨v,hv,e⟩:=(vv (h:=h5) (bs:=[UInt8.ofNat (48+n%10)]) (eC.no o4.fM f5) (GQ (d:=n%10) (by omega)) (K:=fun v=>v=VS ⟨[UInt8.ofNat (48+n%10)].toArray⟩) rfl).out
    subst e
    exact hv
   ·rw[cU,cU];simp only[List.length_singleton];omega
   ·rw[ap];exact HK h5 (f4.aA f5)
theorem XE{n:Int}(h0: -1000000000000000000<=n)(h1:n<=1000000000000000000){h:Heap}(K:aL)(HK:∀h',Fr No h h'->K (VS ⟨(Lib.itoa n).toArray⟩) h'):aG aC 225 #[VI n] h K:=by
 refine akX n h K ⟨fun e=> ?_,fun e=> ?_⟩
 ·simp only[aT]at e
  obtain⟨u,hu⟩:∃u:Nat,n= -(u:Int):=⟨(-n).toNat,by omega⟩
  rw[aP _ (by omega) (by omega),show(0:Int)-n=((u:Nat):Int) by omega]
  refine jT u (by omega) _ fun h2 f2=>⟨_,rfl,.nil,?_,?_⟩
  ·have:=(iE 18 u (by omega)).2
   rw[show(⟨#[45]⟩:ByteArray)=⟨[45].toArray⟩from rfl,cU,cU];simp only[List.length_singleton];omega
  ·have:=HK h2 f2
   rw[hu,Lib.itoa_neg u (by omega)]at this
   rw[show(⟨#[45]⟩:ByteArray)=⟨[45].toArray⟩from rfl,fV]
   exact this
 ·simp only[aY]at e
  obtain⟨u,rfl⟩:∃u:Nat,n=(u:Int):=⟨n.toNat,by omega⟩
  rw[Lib.itoa_nonneg]at HK
  exact jT u (by omega) _ fun h2 f2=>⟨_,rfl,.nil,HK h2 f2⟩
theorem JM{S:aK}{h:Heap}{s:Sl}{rs:aH}(H:bC S h s rs)(B:∀x,x∈rs-> -1000000000000000000<=x/\x<=1000000000000000000)(hn:rs.length<=1000)(K:aL)(HK:∀h',Fr No h h'->K (VS ⟨(zL rs).toArray⟩) h'):aG aC 180 #[s.v] h K:=by
 have sn:=H.len
 have B':∀x,x∈rs-> -9223372036854775808<=x/\x<=9223372036854775807:=fun x hx=>by have:=B x hx;omega
 refine ajY s h K ⟨fun m out i h'=>0<=i/\i+m=(rs.length:Int)/\out=(⟨(zL (rs.take i.toNat)).toArray⟩:ByteArray)/\Fr No h h',⟨rs.length,by omega,by omega,rfl,Fr.refl _ _⟩,?_⟩
 rintro m out i h3 ⟨i0,i1,rfl,f3⟩ dI
 have H3:=H.no f3
 refine⟨fun e2=> ?_,fun e2=> ?_⟩
 ·have hi:=H3.lt e2
  have wF:i.toNat<rs.length:=by omega
  have b:=B _ (bJ wF)
  have hl1:=GP (rs:=rs.take i.toNat) fun x hx=>B' x (ov hx)
  rw[fI]at hl1
  generalize hB:zL (rs.take i.toNat)++(if i.toNat=0 then[]else[44])=Q
  have Ql:Q.length<=41001:=by rw[<-hB,cB];split<;>simp only[List.length_nil,List.length_cons]<;>omega
  have next:zL (rs.take (i.toNat+1))=Q++Lib.itoa rs[i.toNat]:=by rw[<-hB];unfold zL;rw[wO Lib.itoa [44] wF]
  refine⟨H3.bM i0 hi,_,H3.get i0 hi,fun x h'=>x=(⟨Q.toArray⟩:ByteArray)/\h'=h3,⟨fun e5=>⟨?_,?_,rfl⟩,fun e5=>⟨?_,rfl⟩⟩,?_⟩
  ·rw[cU];show _+1<=_;omega
  ·simp only[aT]at e5
   rw[show(⟨#[44]⟩:ByteArray)=⟨[44].toArray⟩from rfl,fV,<-hB,aF (by omega)]
  ·simp only[aY]at e5
   rw[<-hB,aJ (by omega),jb]
  rintro x h5 ⟨rfl,rfl⟩ ie
  refine XE b.1 b.2 _ fun h6 f6=>⟨_,rfl,.nil,?_,?_⟩
  ·have:=rZ (n:=rs[i.toNat]) (by omega) (by omega)
   rw[cU,cU];omega
  ·rw[fV,<-next,aP _ (by omega) (by omega)]
   exact⟨m-1,by omega,by omega,by omega,by rw[show(i+1).toNat=i.toNat+1 by omega],f3.aA f6⟩
 ·have hi:=H3.ge e2
  rw[cT (by omega)]
  exact HK h3 f3
theorem JN{S:aK}{h:Heap}{s:Sl}{rs:aH}(H:bC S h s rs){p:Int}(hp:0<=p/\p<=1000000000000000000)(B:∀x,x∈rs-> -1000000000000000000<=x/\x<=1000000000000000000)(hn:rs.length<=1000)(K:aL)(HK:∀h',Fr No h h'->K (VS ⟨(kM (rs,p)).toArray⟩) h'):aG aC 130 #[.agg #[s.v,VI p]] h K:=by
 refine v130 s p h K fun b1 h1 fK f1 cY=> ?_
 have f1:=f1.aM
 obtain⟨u,rfl⟩:∃u:Nat,p=(u:Int):=⟨p.toNat,by omega⟩
 have dl:=(iE 18 u (by omega)).2
 have zl:=GP (rs:=rs) fun x hx=>by have:=B x hx;omega
 refine jT u (by omega) _ fun h2 f2=>⟨_,rfl,cY.aB f2,by rw[cU];show _+1<=_;omega,JM ((H.no f1).no f2) B hn _ fun h3 f3=>⟨_,rfl,(cY.aB f2).aB f3,?_,?_⟩⟩
 ·rw[show(⟨#[58]⟩:ByteArray)=⟨[58].toArray⟩from rfl,fV,cU,cU,cB];show _+1+_<=_;omega
 ·rw[show(⟨#[58]⟩:ByteArray)=⟨[58].toArray⟩from rfl,fV,fV]
  have:=HK h3 ((f1.aA f2).aA f3)
  unfold kM at this
  rw[Lib.itoa_nonneg]at this
  simpa using this
theorem LP{n:Int}{ok:Bool}(hn:ok=true->0<=n/\n<=1000000000000000000){h:Heap}(K:aL)(HK:∀h',Fr No h h'->K (VS ⟨(if ok=true then Lib.itoa n else[110,111]).toArray⟩) h'):aG aC 134 #[VI n,VB ok] h K:=by
 refine ai3 n ok h K ⟨fun e=> ?_,fun e=> ?_⟩
 ·have e:ok=false:=by simpa using e
  rw[aF (by rw[e];decide)]at HK
  exact HK h (Fr.refl _ _)
 ·have e:ok=true:=by simpa using e
  rw[aJ e]at HK
  have:=hn e
  obtain⟨u,rfl⟩:∃u:Nat,n=(u:Int):=⟨n.toNat,by omega⟩
  rw[Lib.itoa_nonneg]at HK
  exact jT u (by omega) _ fun h2 f2=>⟨_,rfl,.nil,HK h2 f2⟩
theorem Tl{S:aK}{h:Heap}{s:Sl}{rs:aH}{ok:Bool}(H:ok=true->bC S h s rs)(B:ok=true->∀x,x∈rs-> -1000000000000000000<=x/\x<=1000000000000000000)(hn:ok=true->rs.length<=1000)(K:aL)(HK:∀h',Fr No h h'->K (VS ⟨(if ok=true then zL rs else[110,111]).toArray⟩) h'):aG aC 131 #[s.v,VB ok] h K:=by
 refine v131 s ok h K ⟨fun e=> ?_,fun e=> ?_⟩
 ·have e:ok=false:=by simpa using e
  rw[aF (by rw[e];decide)]at HK
  exact HK h (Fr.refl _ _)
 ·have e:ok=true:=by simpa using e
  rw[aJ e]at HK
  exact JM (H e) (B e) (hn e) _ fun h2 f2=>⟨_,rfl,.nil,HK h2 f2⟩
def lZ(rs:aH):List UInt8:=if rs.length=0 then[45]else zL rs
theorem adB{rs:aH}(B:∀x,x∈rs-> -9223372036854775808<=x/\x<=9223372036854775807):(lZ rs).length<=41*rs.length+1:=by
 have:=GP B
 unfold lZ
 split
 ·simp
 ·omega
theorem yD{S:aK}{h:Heap}(GL:jG h){s:Sl}{rs:aH}(H:bC S h s rs)(B:∀x,x∈rs-> -9223372036854775808<=x/\x<=9223372036854775807)(hn:rs.length<=1000)(K:aL)(HK:∀h',Fr No h h'->K (VS ⟨(lZ rs).toArray⟩) h'):aG aC 89 #[s.v] h K:=by
 have sn:=bC.len H
 refine v89 s h K ⟨fun e=> ?_,fun e=> ?_⟩
 ·simp only[aT]at e
  have:=HK h (Fr.refl _ _)
  unfold lZ at this
  rw[aJ (by omega)]at this
  exact this
 simp only[aY]at e
 refine bE Uc (fun k=>h.size<=k) (fun _ h=>h) 0 (by omega) [] rfl rfl fun o h1 n1 c1 o1 f1 m1 _=>⟨o,rfl,.nil,?_⟩
 have z1:=f1.size
 have U9:MK h1 (fun k=>h.size<=k) o []:=o1
 have yw:∀{x:Heap},Fr (fun k=>h.size<=k) h x->Fr No h x:=fun f=>f.mono fun k hk aQ=>absurd aQ (by omega)
 refine⟨fun m x p h'=>0<=p/\p+m=(rs.length:Int)/\MK h' (fun k=>h.size<=k) x ((rs.take p.toNat).map fun y=>(⟨(Lib.itoa y).toArray⟩:ByteArray))/\Fr (fun k=>h.size<=k) h h',⟨rs.length,by omega,by omega,by simpa using U9,f1.aB⟩,?_⟩
 rintro m x p h2 ⟨p0,p1,o2,f2⟩ cC
 have z2:=f2.size
 have H2:=H.no (yw f2)
 refine⟨fun e2=> ?_,fun e2=> ?_⟩
 ·have hp:=H2.lt e2
  have bx:=B _ (bJ (show p.toNat<rs.length by omega))
  refine⟨H2.bM p0 hp,_,H2.get p0 hp,kZ (GL.no (yw f2)) bx.1 bx.2 _ fun h3 f3=>⟨_,rfl,.nil,?_⟩⟩
  refine vu (Ow.no o2 f3) (fun k hk=>by have:=f3.size;omega) .nil (fun q hq=>by cases hq) (by simp;omega) _ fun t h5 o5 f5 _=> ?_
  rw[H2.succ p0 hp]
  refine⟨m-1,by omega,by omega,by omega,?_,(f2.trans f3.aB).trans f5⟩
  rw[show(p+1).toNat=p.toNat+1 by omega,wN,dY (show p.toNat<rs.length by omega)]
  rw[cV]
  exact o5
 ·have hp:=H2.ge e2
  rw[cT (by omega)]at o2
  have hm:((rs.map fun y=>(⟨(Lib.itoa y).toArray⟩:ByteArray)).map (·.data.toList))=rs.map Lib.itoa:=by simp
  have Zv:=GP B
  unfold zL at Zv
  refine KK o2.fM (fun hh=>by have:=congrArg List.length hh;simp at this;simp[this]at sn;omega) (by simp;omega) (by rw[hm];show(Lib.join _ [44]).length<=_;omega) _ fun h3 f3=>⟨_,rfl,.nil,?_⟩
  have:=HK h3 ((yw f2).trans f3)
  unfold lZ zL at this
  rw[aF (by omega)]at this
  rw[hm]
  exact this
def Cw(s:St):List UInt8:=Lib.itoa s.2++58::lZ s.1
theorem yE{S:aK}{h:Heap}(GL:jG h){s:Sl}{rs:aH}(H:bC S h s rs){p:Int}(hp: -9223372036854775808<=p/\p<=9223372036854775807)(B:∀x,x∈rs-> -9223372036854775808<=x/\x<=9223372036854775807)(hn:rs.length<=1000)(K:aL)(HK:∀h',Fr No h h'->K (VS ⟨(Cw (rs,p)).toArray⟩) h'):aG aC 55 #[.agg #[s.v,VI p]] h K:=by
 refine v55 s p h K fun b1 h1 fK f1 cY=> ?_
 have f1:=f1.aM
 have dl:=rZ hp.1 hp.2
 have zl:=adB B
 refine kZ (GL.no f1) hp.1 hp.2 _ fun h2 f2=>⟨_,rfl,cY.aB f2,by rw[cU];show _+1<=_;omega,yD ((GL.no f1).no f2) ((H.no f1).no f2) B hn _ fun h3 f3=>⟨_,rfl,(cY.aB f2).aB f3,?_,?_⟩⟩
 ·rw[show(⟨#[58]⟩:ByteArray)=⟨[58].toArray⟩from rfl,fV,cU,cU,cB];show _+1+_<=_;omega
 ·rw[show(⟨#[58]⟩:ByteArray)=⟨[58].toArray⟩from rfl,fV,fV]
  have:=HK h3 ((f1.aA f2).aA f3)
  unfold Cw at this
  simpa using this
theorem XF{S:aK}{h:Heap}(GL:jG h){s:Sl}{rs:aH}(ok:Bool)(H:bC S h s rs)(B:∀x,x∈rs-> -9223372036854775808<=x/\x<=9223372036854775807)(hn:rs.length<=1000)(K:aL)(HK:∀h',Fr No h h'->K (.agg #[VS ⟨(lZ rs).toArray⟩,VB ok]) h'):aG aC 158 #[s.v,VB ok] h K:=by
 refine ajs s ok h K fun b1 h1 fK f1 cY=> ?_
 have f1:=f1.aM
 refine yD (GL.no f1) (H.no f1) B hn _ fun h2 f2=>⟨_,rfl,cY.aB f2,fun h3 f3 dI=>HK h3 ?_⟩
 exact(f1.aA f2).fresh f3 fun k hk=>by simp[In]at hk;omega
theorem Tm{h:Heap}(GL:jG h){n:Int}(ok:Bool)(hn: -9223372036854775808<=n/\n<=9223372036854775807)(K:aL)(HK:∀h',Fr No h h'->K (.agg #[VS ⟨(Lib.itoa n).toArray⟩,VB ok]) h'):aG aC 116 #[VI n,VB ok] h K:=by
 refine aiB n ok h K fun b1 h1 fK f1 cY=> ?_
 have f1:=f1.aM
 refine kZ (GL.no f1) hn.1 hn.2 _ fun h2 f2=>⟨_,rfl,cY.aB f2,fun h3 f3 dI=>HK h3 ?_⟩
 exact(f1.aA f2).fresh f3 fun k hk=>by simp[In]at hk;omega
def jg(lo:Nat)(h:Heap):Prop:=∀X,Fr (fun k=>lo<=k) h X->jG X
theorem jg.here{lo:Nat}{h:Heap}(G:jg lo h):jG h:=G h (Fr.refl _ _)
theorem jg.next{lo:Nat}{h h':Heap}(G:jg lo h)(f:Fr (fun k=>lo<=k) h h'):jg lo h':=fun X fX=>G X (f.trans fX)
theorem jg.no{lo:Nat}{h h':Heap}(G:jg lo h)(f:Fr No h h'):jg lo h':=G.next f.aB
theorem jg.of{h:Heap}(G:jG h):jg h.size h:=fun X f=>G.no (f.mono fun k hk aQ=>absurd aQ (by omega))
structure qD(lo:Nat)(h:Heap)(b1:Nat)(g w:Sl)(d:Dk)(cw:Bool)(F F' Z:aK):Prop where
 V:Vars h [(b1,[g.v,w.v,VI d.2.2,VB cw])]
 G:gy h F g d.1
 W:cH h F' w d.2.1
 fl:∀k,F k->lo<=k/\¬Z k
 wl:∀k,F' k->lo<=k/\¬Z k
 dj:∀k,F k->¬F' k
 lb:lo<=b1
 xb:Z b1
 xh:∀k,Z k->k<h.size
def kJ(lo:Nat)(h:Heap)(b1:Nat)(Z:aK)(o:Option sT)(v:Value)(h':Heap):Prop:=
 ∃(t:ByteArray)(ok:Bool)(g w:Sl)(p:Int)(cw:Bool),v= .agg #[VS t,VB ok]/\Vars h' [(b1,[g.v,w.v,VI p,VB cw])]/\Fr (fun k=>k=b1\/h.size<=k) h h'/\match o with
  |none=>cw=true
  |some none=>cw=false/\ok=false
  |some (some r)=>cw=false/\ok=true/\t=⟨r.2.toArray⟩/\p=r.1.2.2/\∃F F',qD lo h' b1 g w r.1 false F F' Z
theorem qD.no{lo:Nat}{h h':Heap}{b1:Nat}{g w:Sl}{d:Dk}{cw:Bool}{F F' Z:aK}(D:qD lo h b1 g w d cw F F' Z)(f:Fr No h h'):qD lo h' b1 g w d cw F F' Z:=⟨D.V.aB f,D.G.no f,Ow.no D.W f,D.fl,D.wl,D.dj,D.lb,D.xb,fun k hk=>fQ (D.xh k hk) f.size⟩
theorem qD.f1{lo:Nat}{h:Heap}{b1:Nat}{g w:Sl}{d:Dk}{cw:Bool}{F F' Z:aK}(D:qD lo h b1 g w d cw F F' Z){k:Nat}(hk:F k):k≠b1:=fun e=>(D.fl k hk).2 (e▸D.xb)
theorem qD.w1{lo:Nat}{h:Heap}{b1:Nat}{g w:Sl}{d:Dk}{cw:Bool}{F F' Z:aK}(D:qD lo h b1 g w d cw F F' Z){k:Nat}(hk:F' k):k≠b1:=fun e=>(D.wl k hk).2 (e▸D.xb)
theorem qD.fr{lo:Nat}{h h':Heap}{b1:Nat}{g w:Sl}{d:Dk}{cw:Bool}{F F' Z:aK}(D:qD lo h b1 g w d cw F F' Z){T:aK}(f:Fr T h h')(hT:∀k,T k->h.size<=k):qD lo h' b1 g w d cw F F' Z:=D.no (f.mono fun k hk h2=>by have:=hT k h2;omega)
theorem bS{h:Heap}{b1:Nat}{cs:List Value}:∀{L:List (Nat×List Value)},Vars h (L++[(b1,cs)])->Vars h [(b1,cs)]
 |[],V=>V
 |_::_,V=>bS V.tail
theorem nX{d:Dk}(h:pu d):1<=d.2.1.length/\d.2.1.length<=8:=by
 have W:=dN h
 have:=bA W.cD
 have h2:d.2.1.length=d.1.length:=W.len
 omega
theorem YD{rs:aH}(h:1<=rs.length):lZ rs=zL rs:=by unfold lZ;rw[aF (by omega)]
theorem sU{s:St}(h:1<=s.1.length):Cw s=kM s:=by unfold Cw kM;rw[YD h]
theorem GS{lo:Nat}{h:Heap}(GL:jg lo h){b1:Nat}(yL:lo<=b1)(vQ:lo<=h.size){c1 c2 w1:Sl}{c3 p1:Int}{c4 ok:Bool}{S:aK}{rs1:aH}(hL:Vars h [(b1,[c1.v,c2.v,VI c3,VB c4])])(H:bC S h w1 rs1)(hS:∀k,S k->k≠b1)(B:∀x,x∈rs1-> -9223372036854775808<=x/\x<=9223372036854775807)(hn:rs1.length<=1000)(hp: -9223372036854775808<=p1/\p1<=9223372036854775807)(K:aL)
 (HK:∀h',Fr (fun k=>k=b1) h h'->Vars h' [(b1,[c1.v,(if ok=true then w1 else c2).v,VI (if ok=true then p1 else c3),VB c4])]->K (.agg #[VS ⟨(Cw (rs1,p1)).toArray⟩,VB ok]) h'):aG aC 155 #[VP b1 0,.agg #[w1.v,VI p1],VB ok] h K:=by
 have lb:=hL.head.lt
 refine ajn b1 c1 c2 c3 c4 w1 p1 ok h K hL fun b2 b3 h2 eN jv f2 cC=> ?_
 have f2:=f2.aM
 have z2:=f2.size
 have l3:=cC.head.lt
 have l2:=cC.tail.head.lt
 refine⟨fun x1 x2 x3 x4 h'=>x1=c1/\x2=(if ok=true then w1 else c2)/\x3=(if ok=true then p1 else c3)/\x4=c4/\Fr (fun k=>k=b1) h2 h',⟨fun e h3 f3 dI=>⟨rfl,by rw[aJ e],by rw[aJ e],rfl,f3.mono fun k _ hk=>by simpa[In]using hk⟩,fun e=>⟨rfl,by rw[aF (by rw[e];decide)],by rw[aF (by rw[e];decide)],rfl,Fr.refl _ _⟩⟩,?_⟩
 rintro _ _ _ _ h4 ⟨rfl,rfl,rfl,rfl,f4⟩ eM
 have z4:=f4.size
 have F4:Fr (fun k=>k=b1) h h4:=f2.aB.trans f4
 have H4:=H.fr F4 fun k hk aQ=>hS k hk aQ
 refine yE (GL.next (F4.mono fun k _ hk=>by omega)).here H4 hp B hn _ fun h5 f5=>⟨_,rfl,eM.aB f5,fun h6 f6 jx=> ?_⟩
 refine HK h6 ?_ (bS (L:=[_,_]) jx)
 exact(F4.trans f5.aB).EL f6 fun k hk=>by simp only[In,eZ]at hk;omega
theorem qD.low{lo:Nat}{h:Heap}{b1:Nat}{g w:Sl}{d:Dk}{cw:Bool}{F F' Z:aK}(D:qD lo h b1 g w d cw F F' Z):qD lo h b1 g w d cw (fun k=>F k/\k<h.size) (fun k=>F' k/\k<h.size) Z:=⟨D.V,D.G.mono fun k hk hF=>⟨hF,hk⟩,Ow.mono D.W fun k hk hF=>⟨hF,(D.W.aS hk).2⟩,fun k hk=>D.fl k hk.1,fun k hk=>D.wl k hk.1,fun k h1 h2=>D.dj k h1.1 h2.1,D.lb,D.xb,D.xh⟩
theorem qD.adF{lo n:Nat}{h h':Heap}{b1:Nat}{g w w1:Sl}{d:Dk}{cw:Bool}{F F' Z:aK}(D:qD lo h b1 g w d cw F F' Z){rs1:aH}{p1:Int}(hn:h.size<=n)(V':Vars h' [(b1,[g.v,w1.v,VI p1,VB false])])(f:Fr (fun k=>k=b1\/n<=k) h h')(W1:cH h' (fun k=>n<=k) w1 rs1):∃F F',qD lo h' b1 g w1 (d.1,(rs1,p1)) false F F' Z:=by
 have lb:=D.V.head.lt
 have ll:=D.lb
 refine⟨fun k=>F k/\k<h.size,fun k=>n<=k,V',?_,W1,fun k hk=>D.fl k hk.1,fun k hk=>⟨by omega,fun hx=>by have:=D.xh k hx;omega⟩,fun k h1 h2=>by omega,D.lb,D.xb,fun k hk=>fQ (D.xh k hk) f.size⟩
 exact D.low.G.fr f fun k _ hk aQ=>by
  have:=D.f1 hk.1
  have:=hk.2
  rcases aQ with h|h<;>omega
theorem qD.aob{lo n:Nat}{h h':Heap}{b1:Nat}{g g1 w:Sl}{d:Dk}{cw:Bool}{F F' Z:aK}(D:qD lo h b1 g w d cw F F' Z){agK:aE}(hn:h.size<=n)(V':Vars h' [(b1,[g1.v,w.v,VI d.2.2,VB false])])(f:Fr (fun k=>k=b1\/n<=k) h h')(G1:gy h' (fun k=>n<=k) g1 agK):∃F F',qD lo h' b1 g1 w (agK,d.2) false F F' Z:=by
 have lb:=D.V.head.lt
 have ll:=D.lb
 refine⟨fun k=>n<=k,fun k=>F' k/\k<h.size,V',G1,?_,fun k hk=>⟨by omega,fun hx=>by have:=D.xh k hx;omega⟩,fun k hk=>D.wl k hk.1,fun k h1 h2=>by omega,D.lb,D.xb,fun k hk=>fQ (D.xh k hk) f.size⟩
 exact Ow.fr D.low.W f fun k hk aQ=>by
  have h1:=(D.low.W.aS hk).1
  have:=D.w1 h1.1
  have:=h1.2
  rcases aQ with h|h<;>omega
theorem xV{d:Dk}(h:pu d):∀x,x∈d.2.1-> -9223372036854775808<=x/\x<=9223372036854775807:=fun x hx=>by
 have:=(iJ (dN h)).1 x hx
 omega
theorem agL{lo:Nat}{h:Heap}(GL:jg lo h)(vQ:lo<=h.size){b1:Nat}{g w:Sl}{d:Dk}{F F' Z:aK}(D:qD lo h b1 g w d false F F' Z)(ok:pu d){a:Int}(ha:0<=a/\a<=999999)(K:aL)(HK:∀v h',kJ lo h b1 Z (some (XC d a)) v h'->K v h'):aG aC 160 #[VP b1 0,VI a] h K:=by
 have lb:=D.V.head.lt
 have dl:=nX ok
 refine v160 b1 g w d.2.2 false a h K D.V fun b2 h1 eN f1 cY=> ?_
 have f1:=f1.aM
 have z1:=f1.size
 have Cx:=cY.head.lt
 refine jW (eC.no D.W.rd f1) d.2.2 (by omega) _ fun t h2 o2 f2=>⟨t,_,rfl,cY.aB f2,fun b3 h5 jv f5 ie=> ?_⟩
 have f5:=f5.aM
 have z2:=f2.size
 have z5:=f5.size
 have Yd:=ie.head.lt
 refine iC _ fun x h6 o6 f6=>⟨x,rfl,ie.aB f6,?_⟩
 have z6:=f6.size
 have AB:=((f1.aA f2).aA f5).aA f6
 refine vi (D.G.rd.no AB) o6.rd _ fun h7 f7=>⟨_,rfl,(ie.aB f6).aB f7,?_⟩
 have z7:=f7.size
 have f07:=AB.aA f7
 have D7:=D.no f07
 obtain⟨bb,hb⟩:∃bb,bb=(aZ d.1&&jq 0 ((d.1.length:Int)-1) a):=⟨_,rfl⟩
 have eb:(aZ d.1&&[a].all (jq 0 ((d.1.length:Int)-1)))=bb:=by rw[hb];simp
 rw[eb]
 have W7:cH h7 (Iv h1.size h2.size) t d.2.1:=Ow.no (Ow.no (Ow.no o2 f5) f6) f7
 have kL:=(ie.aB f6).aB f7
 refine GS (GL.no f07) D.lb (by omega) D7.V W7.fM (fun k hk=>by have:=hk.1;omega) (xV ok) (by omega) (by omega) _ fun h8 f8 V8=> ?_
 have z8:=f8.size
 refine⟨g,(if bb=true then t else w),(if bb=true then a else d.2.2),false,_,bb,rfl,kL.set (i:=2) rfl f8 V8.head,fun h9 f9 iG=>HK _ h9 ?_⟩
 have n9:∀{k:Nat},In [b2] k->k=b2:=fun hk=>by simpa[In]using hk
 have fB:Fr (fun k=>k=b1\/h.size<=k) h h9:=(f07.aB.trans (f8.mono fun k _ hk=> .inl hk)).trans (f9.mono fun k _ hk=> .inr (by have:=n9 hk;omega))
 refine⟨_,bb,_,_,_,false,rfl,bS (L:=[_,_]) iG,fB,?_⟩
 unfold XC CH
 rw[<-hb]
 cases bb with
 |false=>exact⟨rfl,rfl⟩
 |true=>
  have W9:=Ow.fr (Ow.fr W7 f8 fun k hk aQ=>by have:=(W7.aS hk).1.1;omega) f9 fun k hk aQ=>by have h1:=(W7.aS hk).1.1;have:=n9 aQ;omega
  exact⟨rfl,rfl,by rw[sU (s:=(d.2.1,a)) dl.1],rfl,D.adF (n:=h.size) (aW _) (bS (L:=[_,_]) iG) fB (W9.mono fun k _ hk=>by have:=hk.1;omega)⟩
set_option maxHeartbeats 1000000 in
theorem XG{lo:Nat}{h:Heap}(GL:jg lo h)(vQ:lo<=h.size){b1:Nat}{g w:Sl}{d:Dk}{F F' Z:aK}(D:qD lo h b1 g w d false F F' Z)(ok:pu d){a c:Int}(ha:0<=a/\a<=999999)(hc:0<=c/\c<=999999)(K:aL)(HK:∀v h',kJ lo h b1 Z (some (Tk d a c)) v h'->K v h'):aG aC 168 #[VP b1 0,VI a,VI c] h K:=by
 have lb:=D.V.head.lt
 have dl:=nX ok
 have WK:=dN ok
 have wl:d.2.1.length=d.1.length:=WK.len
 refine v168 b1 g w d.2.2 false a c h K D.V fun b2 h1 eN f1 cY=> ?_
 have f1:=f1.aM
 have z1:=f1.size
 have Cx:=cY.head.lt
 refine iC _ fun x h2 o2 f2=>⟨x,rfl,cY.aB f2,?_⟩
 have z2:=f2.size
 have KA:=f1.aA f2
 refine vi (D.G.rd.no KA) o2.rd _ fun h3 f3=>⟨_,rfl,(cY.aB f2).aB f3,?_⟩
 have z3:=f3.size
 have jm:=KA.aA f3
 have dI:=(cY.aB f2).aB f3
 have D3:=D.no jm
 have eb:(aZ d.1&&[a].all (jq 0 ((d.1.length:Int)-1)))=(aZ d.1&&jq 0 ((d.1.length:Int)-1) a):=by simp
 rw[eb]
 have n2:∀{k:Nat},In [b2] k->k=b2:=fun hk=>by simpa[In]using hk
 have fail:(aZ d.1&&jq 0 ((d.1.length:Int)-1) a&&jq 0 (((d.1.getD a.toNat []).length:Int)-1) c)=false->∀{X Y:Heap}{t:ByteArray},Fr No h3 X->Fr (In [b2]) X Y->Vars Y [(b2,[VS t,VB false]),(b1,[g.v,w.v,VI d.2.2,VB false])]->K (.agg #[VS ⟨#[]⟩,VB false]) Y:=fun e X Y t fX fY V=>by
  refine HK _ Y ⟨⟨#[]⟩,false,g,w,d.2.2,false,rfl,bS (L:=[_]) V,?_,?_⟩
  ·exact(jm.aA fX).aB.trans (fY.mono fun k _ hk=> .inr (by have:=n2 hk;omega))
  ·unfold Tk CH
   rw[aF (by rw[e];exact qf)]
   exact⟨rfl,rfl⟩
 refine⟨fun e iH f12 kX=> ?_,fun e=> ?_⟩
 ·have e:(aZ d.1&&jq 0 ((d.1.length:Int)-1) a)=false:=bU e
  exact fail (by rw[e,gJ]) (Fr.refl _ _) f12 kX
 have e:(aZ d.1&&jq 0 ((d.1.length:Int)-1) a)=true:=bQ e
 have ea:=bT.1 (l8.1 e).2
 have hg:=(l8.1 e).1
 obtain⟨si,c1,r1⟩:=D3.G.rd.get (i:=a) ha.1 (by omega)
 have rn:=r1.len
 have gk:=(bL hg (bJ (show a.toNat<d.1.length by omega))).1
 have eg:d.1.getD a.toNat []=d.1[a.toNat]'(by omega):=bH (by omega)
 refine⟨D3.G.rd.bM ha.1 (by omega),si,c1,?_⟩
 rw[rn,aP _ (by omega) (by omega)]
 refine fa _ _ _ h3 _ ⟨_,rfl,dI,fun e2 h5 f5 ie=> ?_,fun e2=> ?_⟩
 ·refine fail ?_ (Fr.refl _ _) f5 ie
  rw[e,fk,eg]
  exact bU e2
 have e2':jq 0 (((d.1[a.toNat]'(by omega)).length:Int)-1) c=true:=bQ e2
 refine jW (eC.no D.W.rd jm) d.2.2 (by omega) _ fun t h6 o6 f6=>⟨t,_,rfl,dI.aB f6,?_⟩
 have z6:=f6.size
 have tn:t.n=d.2.1.length:=by have:=o6.rd.len;simpa using this.symm
 refine⟨o6.bM ha.1 (by omega),fun b3 h8 jv f8 gK=> ?_⟩
 have f8:=f8.aM
 have z8:=f8.size
 have W8:=Ow.no o6 f8
 obtain⟨w1,w2,w3⟩:=W8.gH (i:=a) ha.1 (by omega) (VI c)
 have off:∀p,p∈[(b3,[t.v,VI d.2.2]),(b2,[VS (⟨#[]⟩:ByteArray),VB false]),(b1,[g.v,w.v,VI d.2.2,VB false])]->¬t.own p.1:=fun p hp hk=>by
  have h1:=(o6.aS hk)
  have:=h1.1.1
  have:=h1.2
  simp only[aO,aR,aN]at hp
  rcases hp with rfl|rfl|rfl
  ·simp only at*;omega
  ·simp only at*;omega
  ·simp only at*;omega
 refine⟨w1,gK.fr w3 off,fun h9 e9 iG=> ?_⟩
 subst e9
 have z9:=w3.size
 have W9:cH (Mx.dR h8 (t.at a 1) (VI c)) (Iv h3.size h6.size) t (d.2.1.set a.toNat c):=by show Ow _ _ _ _ _ _;rw[iu];exact w2
 have TS:Fr (fun k=>k=b1\/h.size<=k) h (Mx.dR h8 (t.at a 1) (VI c)):=((jm.aA f6).aA f8).aB.trans (w3.mono fun k _ hk=> .inr (by have:=(o6.aS hk).1.1;omega))
 have aoc:Fr (fun k=>lo<=k) h (Mx.dR h8 (t.at a 1) (VI c)):=TS.mono fun k _ hk=>by have:=D.lb;rcases hk with h|h<;>omega
 have rb:∀x,x∈d.2.1.set a.toNat c-> -9223372036854775808<=x/\x<=9223372036854775807:=fun x hx=>by
  rcases rm hx with hx|rfl
  ·exact xV ok x hx
  ·omega
 have sm:=(iJ WK).2
 refine GS (GL.next aoc) D.lb (by omega) (bS (L:=[_,_]) iG) W9.fM (fun k hk=>by have:=hk.1;omega) rb (by rw[bY];omega) (by omega) _ fun eW f10 CF=> ?_
 refine⟨g,t,d.2.2,false,_,true,rfl,iG.set (i:=2) rfl f10 CF.head,fun gP f11 fJ=>HK _ gP ?_⟩
 have fB:Fr (fun k=>k=b1\/h.size<=k) h gP:=(TS.trans (f10.mono fun k _ hk=> .inl hk)).trans (f11.mono fun k _ hk=> .inr (by have:=n2 hk;omega))
 refine⟨_,true,g,t,d.2.2,false,rfl,bS (L:=[_,_]) fJ,fB,?_⟩
 unfold Tk CH
 rw[aJ (by rw[e,fk,eg];exact e2')]
 have W11:=Ow.fr (Ow.fr W9 f10 fun k hk aQ=>by have:=(W9.aS hk).1.1;omega) f11 fun k hk aQ=>by have h1:=(W9.aS hk).1.1;have:=n2 aQ;omega
 exact⟨rfl,rfl,by rw[sU (s:=(d.2.1.set a.toNat c,d.2.2)) (by rw[bY];exact dl.1)],rfl,D.adF (n:=h.size) (aW _) (bS (L:=[_,_]) fJ) fB (W11.mono fun k _ hk=>by have:=hk.1;omega)⟩
theorem XH{h:Heap}{s:Sl}{sep:ByteArray}(hs:s.n=0)(K:aL)(HK:K (VS ⟨#[]⟩) h):aG aC 90 #[s.v,VS sep] h K:=by
 refine⟨fun w hw=> .inr ⟨90,_,w,Go.Proofs.enters_of Tryz.func90 (by kernel_rfl) rfl _ _,rfl,?_⟩⟩
 subst hw
 have hv:s.v= .slice s.a 0 s.c:=by unfold Sl.v;rw[hs]
 rw[hv]
 refine(Tryz.strings_Join_none s.a s.c sep w).mono ?_
 rintro e w' ⟨rfl,rfl⟩
 exact⟨_,rfl,dV.refl _,HK⟩
theorem GU{S:aK}{h:Heap}{s:Sl}(H:cG S h s [])(K:aL)(HK:∀h',Fr No h h'->K (VS ⟨#[]⟩) h'):aG aC 51 #[.agg #[s.v]] h K:=by
 have sn:s.n=0:=H.len
 refine v51 s h K fun b1 h1 fK f1 cY=> ?_
 have f1:=f1.aM
 refine bE Uc (fun k=>h1.size<=k) (fun _ h=>h) 0 (by omega) [] rfl rfl fun o h2 n2 c2 o2 f2 m2 _=>⟨o,rfl,cY.aB f2,?_⟩
 refine⟨fun m x i h'=>x=o/\i=0/\h'=h2,⟨0,rfl,rfl,rfl⟩,?_⟩
 rintro m _ _ _ ⟨rfl,rfl,rfl⟩ dI
 refine⟨fun e=>by rw[sn]at e;simp at e,fun e=>XH n2 _ ⟨_,rfl,dI,HK _ (f1.aA f2)⟩⟩
theorem zH{g:aE}{p q:Int}(h:(jC g p q).2=true):aZ (jC g p q).1=true:=by
 unfold jC at h⊢
 split at h
 ·rename_i hc
  rw[aJ hc]
  unfold mb
  have h:aZ (g.set p.toNat (g.getD p.toNat []++[q]))=true:=h
  (try simp only)
  rw[aJ h]
  exact h
 ·cases h
theorem XI{g:aE}{p q:Int}(h:(jC g p q).2=false):(jC g p q).1=[]:=by
 unfold jC at h⊢
 split
 ·rename_i hc
  rw[aJ hc]at h
  have h:aZ (g.set p.toNat (g.getD p.toNat []++[q]))=false:=h
  show mb _=[]
  unfold mb
  rw[aF (by rw[h];exact qf)]
 ·rfl
theorem adG{lo:Nat}{h:Heap}(vQ:lo<=h.size){b1:Nat}{g w:Sl}{d:Dk}{F F' Z:aK}(D:qD lo h b1 g w d false F F' Z)(a c:Int)(K:aL)(HK:∀v h',kJ lo h b1 Z (some (XD d a c)) v h'->K v h'):aG aC 167 #[VP b1 0,VI a,VI c] h K:=by
 have lb:=D.V.head.lt
 refine v167 b1 g w d.2.2 false a c h K D.V fun b2 h1 eN f1 cY=> ?_
 have f1:=f1.aM
 have z1:=f1.size
 have Cx:=cY.head.lt
 refine N4 (D.G.rd.no f1) a c _ fun t h2 o2 f2=>⟨t,_,rfl,cY.aB f2,fun b3 h4 jv f4 eM=> ?_⟩
 have f4:=f4.aM
 have z2:=f2.size
 have z4:=f4.size
 have jk:=(f1.aA f2).aA f4
 have n1:∀{k:Nat},In [b1] k->k=b1:=fun hk=>by simpa[In]using hk
 have n2:∀{k:Nat},In [b2] k->k=b2:=fun hk=>by simpa[In]using hk
 obtain⟨bb,hb⟩:∃bb,bb=(jC d.1 a c).2:=⟨_,rfl⟩
 rw[<-hb]
 have G4:=o2.no f4
 refine⟨fun x1 x2 x3 x4 h'=>x1=(if bb=true then t else g)/\x2=w/\x3=d.2.2/\x4=false/\Fr (fun k=>k=b1) h4 h',⟨fun e h5 f5 ie=>⟨by rw[aJ e],rfl,rfl,rfl,f5.mono fun k _ hk=>n1 hk⟩,fun e=>⟨by rw[aF (by rw[e];decide)],rfl,rfl,rfl,Fr.refl _ _⟩⟩,?_⟩
 rintro _ x2 _ _ h6 ⟨rfl,rfl,rfl,rfl,f6⟩ jx
 have z6:=f6.size
 have G6:=G4.fr f6 fun k _ hk aQ=>by have:=hk.1;omega
 have fin:∀{tx:ByteArray}{h7:Heap},Fr No h6 h7->(bb=true->tx=⟨(lP (jC d.1 a c).1).toArray⟩)->Vars h7 [(b3,[t.v]),(b2,[VS (⟨#[]⟩:ByteArray),VB false]),(b1,[(if bb=true then t else g).v,x2.v,VI d.2.2,VB false])]/\∀h8:Heap,Fr (In [b2]) h7 h8->Vars h8 [(b3,[t.v]),(b2,[VS tx,VB bb]),(b1,[(if bb=true then t else g).v,x2.v,VI d.2.2,VB false])]->K (.agg #[VS tx,VB bb]) h8:=fun{tx h7} f7 htx=>⟨jx.aB f7,fun h8 f8 gK=>by
  have fB:Fr (fun k=>k=b1\/h.size<=k) h h8:=((jk.aB.trans (f6.mono fun k _ hk=> .inl hk)).trans f7.aB).trans (f8.mono fun k _ hk=> .inr (by have:=n2 hk;omega))
  refine HK _ h8 ⟨tx,bb,_,x2,d.2.2,false,rfl,bS (L:=[_,_]) gK,fB,?_⟩
  unfold XD
  rw[<-hb]
  cases bb with
  |false=>exact⟨rfl,rfl⟩
  |true=>
   have G8:=(G6.no f7).fr f8 fun k _ hk aQ=>by have:=hk.1;have:=n2 aQ;omega
   exact⟨rfl,rfl,htx rfl,rfl,D.aob (n:=h.size) (aW _) (bS (L:=[_,_]) gK) fB (G8.mono fun k _ hk=>by have:=hk.1;omega)⟩⟩
 cases Wb:bb with
 |true=>
  subst Wb
  have gb:=zH hb.symm
  refine nS G6.rd (jX gb) (bA gb).1 _ fun h7 f7=>⟨_,rfl,fin f7 fun _=>rfl⟩
 |false=>
  subst Wb
  rw[XI hb.symm]at G6
  refine GU G6.rd _ fun h7 f7=>⟨_,rfl,fin f7 fun e=>by cases e⟩
theorem Tp{lo:Nat}{h:Heap}(GL:jg lo h)(vQ:lo<=h.size){b1:Nat}{g w:Sl}{d:Dk}{F F' Z:aK}(D:qD lo h b1 g w d false F F' Z){s:ByteArray}(hs:s.size<=100000)(K:aL)(HK:∀v h',kJ lo h b1 Z (Ug s.data.toList) v h'->K v h'):aG aC 111 #[VP b1 0,VS s] h K:=by
 have lb:=D.V.head.lt
 have ll:=D.lb
 refine air b1 g w d.2.2 false s h K D.V fun b2 h1 eN f1 cY=> ?_
 have f1:=f1.aM
 have z1:=f1.size
 have Cx:=cY.head.lt
 refine FA (GL.no f1).here hs _ fun t h2 o2 f2=>⟨t,_,rfl,cY.aB f2,fun e b3 h6 jv f6 jx=> ?_,fun e b3 h4 jv f4 eM=> ?_⟩
 ·have KA:=f1.aA f2
  have z2:=f2.size
  refine HK _ h6 ⟨_,_,g,w,d.2.2,true,rfl,bS (L:=[_,_]) jx,KA.aB.trans (f6.mono fun k _ hk=>by simp only[In,aO,aR,aN]at hk;omega),?_⟩
  have:rG s.data.toList=none:=by
   cases hp:rG s.data.toList with
   |none=>rfl
   |some x=>unfold tj at e;rw[hp]at e;cases e
  unfold Ug
  rw[this]
 obtain⟨x,hp⟩:∃x,rG s.data.toList=some x:=by
  cases hp:rG s.data.toList with
  |none=>unfold tj at e;rw[hp]at e;cases e
  |some x=>exact⟨x,rfl⟩
 have ep:(tj s).1=x:=by unfold tj;rw[hp]
 rw[ep]at o2
 obtain⟨gb,_⟩:=vw hp
 have gl:=bA gb
 have f4:=f4.aM
 have z2:=f2.size
 have z4:=f4.size
 have Yd:=eM.head.lt
 have jk:=(f1.aA f2).aA f4
 refine QC (o2.no f4) (by omega) _ fun u h7 G7 W7 f7=>⟨t,u,0,rfl,eM.aB f7,fun h8 f8 gK=> ?_⟩
 have z7:=f7.size
 have n1:∀{k:Nat},In [b1] k->k=b1:=fun hk=>by simpa[In]using hk
 have n2:∀{k:Nat},In [b2] k->k=b2:=fun hk=>by simpa[In]using hk
 have z8:=f8.size
 have G8:=G7.fr f8 fun k _ hk aQ=>by have:=hk.1.1;have:=n1 aQ;omega
 have W8:=Ow.fr W7 f8 fun k hk aQ=>by have:=(W7.aS hk).1;have:=n1 aQ;omega
 refine nS G8.rd (jX gb) gl.1 _ fun h9 f9=>⟨_,rfl,gK.aB f9,fun eW f10 fe=> ?_⟩
 have z9:=f9.size
 have fB:Fr (fun k=>k=b1\/h.size<=k) h eW:=(((jk.aB.trans f7.aB).trans (f8.mono fun k _ hk=>by have:=n1 hk;omega)).trans f9.aB).trans (f10.mono fun k _ hk=>by have:=n2 hk;omega)
 refine HK _ eW ⟨_,_,t,u,0,false,rfl,bS (L:=[_,_]) fe,fB,?_⟩
 unfold Ug
 rw[hp]
 refine⟨rfl,rfl,rfl,rfl,fun k=>Iv h1.size h2.size k,fun k=>h4.size<=k,bS (L:=[_,_]) fe,?_,?_,fun k hk=>⟨by have:=hk.1;omega,fun hx=>by have:=hk.1;have:=D.xh k hx;omega⟩,fun k hk=>⟨by omega,fun hx=>by have:=D.xh k hx;omega⟩,fun k hk aQ=>by have:=hk.2;omega,D.lb,D.xb,fun k hk=>by have:=D.xh k hk;have:=fB.size;omega⟩
 ·exact((G8.no f9).fr f10 fun k _ hk aQ=>by have:=hk.1.1;have:=n2 aQ;omega).mono fun k _ hk=>hk.1
 ·exact Ow.fr (Ow.no W8 f9) f10 fun k hk aQ=>by have:=(W8.aS hk).1;have:=n2 aQ;omega
structure LQ(r:aH×Bool):Prop where
 b:∀x,x∈r.1-> -1000000000000000000<=x/\x<=1000000000000000000
 n:r.1.length<=1000
 ne:r.2=true->1<=r.1.length
theorem LQ.none:LQ ([],false):=⟨fun x hx=>by simp at hx,by simp,fun h=>by cases h⟩
def NtB(r:Int×Bool):Prop:=0<=r.1/\r.1<=1000000000000000000
structure PA(g:aE)(r:St×Bool):Prop where
 ok:r.2=true->iT g r.1
 b:∀x,x∈r.1.1-> -9223372036854775808<=x/\x<=9223372036854775807
 n:r.1.1.length<=1000
 p: -9223372036854775808<=r.1.2/\r.1.2<=9223372036854775807
theorem PA.of{g:aE}{s:St}(W:iT g s)(b:Bool):PA g (s,b):=by
 have sm:=iJ W
 exact⟨fun _=>W,fun x hx=>by have:=sm.1 x hx;omega,by have:=sm.2.2.2;show s.1.length<=1000;omega,by have:=sm.2;show _<=s.2/\s.2<=_;omega⟩
theorem PA.none(g:aE):PA g (([],0),false):=⟨fun h=>(by cases h),fun x hx=>by simp at hx,by simp,by show(-9223372036854775808:Int)<=0/\(0:Int)<=9223372036854775807;omega⟩
theorem sV(g:aE)(rs:aH)(p n:Int):PA g (fm g rs p n):=by
 unfold fm
 split
 ·rename_i h
  have W:=dN (l8.1 h).1
  split
  ·exact PA.none g
  ·rename_i s hs
   exact PA.of (Mr _ _ _ W _ _ hs) true
 ·exact PA.none g
theorem YE(g:aE)(rs:aH)(p:Int):(0<=(fD g rs p).1/\(fD g rs p).1<=10000)/\(0<=(fD g rs p).2.1/\(fD g rs p).2.1<=10000):=by
 unfold fD
 split
 ·by_cases h:∃m k,vx g (rs,p) m k/\k<=2000
  ·obtain⟨m,k,R,hk⟩:=h
   have:=R.lt
   rw[IQ R hk]
   exact⟨⟨by show(0:Int)<=m;omega,by show(m:Int)<=10000;omega⟩,⟨by show(0:Int)<=(k:Int)-m;omega,by show(k:Int)-m<=10000;omega⟩⟩
  ·rw[MZ fun m k R=>Nat.lt_of_not_le fun hk=>h ⟨m,k,R,hk⟩]
   exact⟨⟨cA _,by decide⟩,⟨cA _,by decide⟩⟩
 ·exact⟨⟨cA _,by decide⟩,⟨cA _,by decide⟩⟩
theorem agM(g:aE)(rs:aH)(p:Int):LQ (uD g rs p):=by
 unfold uD
 split
 ·rename_i h
  have W:=dN h
  have gl:=bA W.cD
  by_cases h0:eA g rs p g.length<0
  ·rw[Co h0];exact LQ.none
  ·have hn:0<=eA g rs p g.length:=by omega
   by_cases hL:∃t:Nat×Nat,yt g rs p t.1 t.2
   ·obtain⟨⟨i,d⟩,L⟩:=hL
    rw[Cq hn L]
    obtain⟨i',d',e1,e2,e3⟩:=vm W W.lo W.hi hn
    have hd:i+d<=g.length:=by
     rcases Nat.lt_or_ge (i'+d') (i+d)with wc|hge
     ·exact absurd e3 (L.inj i' (i'+d') (by omega) wc)
     ·omega
    have d1:=L.d1
    refine⟨fun x hx=> ?_,by simp;omega,fun _=>by simp;omega⟩
    obtain⟨r,_,hr⟩:=dL.1 hx
    have hr:eA g rs p (i+r)=x:=hr
    have: -1<=eA g rs p (i+r)/\eA g rs p (i+r)<(g.length:Int):=mY W W.lo W.hi (i+r)
    omega
   ·unfold Uf
    rw[dif_neg (fun h=>hL h.2)]
    exact LQ.none
 ·exact LQ.none
theorem agN(g:aE)(rs:aH)(p n:Int):LQ (kq g rs p n):=by
 have hl:=Oc g rs p n
 refine⟨?_,by omega,?_⟩
 ·unfold kq
  split
  ·rename_i h
   have W:=dN (l8.1 h).1
   have gl:=bA W.cD
   have key:∀(m:Nat)(t:aH)(s:St)(t':aH)(s':St),iT g s->(∀x,x∈t->0<=x/\x<=8)->runT g qm m t s=some (t',s')->∀x,x∈t'->0<=x/\x<=8:=by
    intro m
    induction m with
    |zero=>
     intro t s t' s' _ ht h
     simp only[runT,dC,fH]at h
     rw[<-h.1];exact ht
    |succ m ih=>
     intro t s t' s' W ht h
     rw[runT]at h
     split at h
     ·cases h
     ·rename_i s2 hs
      have W2:=W.step hs
      refine ih _ _ _ _ W2 (fun x hx=> ?_) h
      simp only[qm,gI,eZ]at hx
      rcases hx with hx|rfl
      ·exact ht x hx
      ·have:=W2.lo;have:=W2.hi;have:=(bA W2.cD).2;omega
   split
   ·simp
   ·rename_i t s hs
    intro x hx
    have:=key _ _ _ _ _ W (fun x hx=>by simp only[eZ]at hx;subst hx;have:=W.lo;have:=W.hi;exact⟨W.lo,by have h2:x<(g.length:Int):=W.hi;omega⟩) hs x hx
    omega
  ·simp
 ·unfold kq
  split
  ·split
   ·intro h;cases h
   ·rename_i t s hs
    intro _
    have:=Bm _ _ _ _ _ hs
    simp at this
    show 1<=t.length
    omega
  ·intro h;cases h
theorem agO(g:aE)(rs:aH)(p n:Int):LQ (qz g rs p n):=by
 have hl:=SG g rs p n
 refine⟨?_,by omega,?_⟩
 ·unfold qz
  split
  ·rename_i h
   have hn:=bT.1 (l8.1 h).2
   split
   ·simp
   ·rename_i t s hs
    intro x hx
    have:=(Cj n.toNat 0 _ _ _ _ (fun x hx=>by simp only[uj]at hx;omega) hs).2 x hx
    omega
  ·simp
 ·unfold qz
  split
  ·rename_i h
   have W:=dN (l8.1 h).1
   have gl:=bA W.cD
   split
   ·intro h;cases h
   ·rename_i t s hs
    intro _
    have:=(Cj n.toNat 0 _ _ _ _ (fun x hx=>by simp only[uj]at hx;omega) hs).1
    simp at this
    show 1<=t.length
    omega
  ·intro h;cases h
theorem xW{τ:Type}{g:aE}{test:τ->St->Bool×τ}{DQ:Int}:∀(f:Nat)(n:Int)(t:τ)(s:St),0<=n->0<=(cL g test DQ f n t s).1/\(cL g test DQ f n t s).1<=n+f
 |0,n,t,s,h=>by rw[cL];exact⟨cA _,by show(0:Int)<=n+(0:Nat);omega⟩
 |f+1,n,t,s,h=>by
  have z:(0:Int)<=n+((f+1:Nat):Int):=by omega
  rw[cL]
  split
  ·split
   ·exact⟨h,by show n<=n+((f+1:Nat):Int);omega⟩
   ·split
    ·exact⟨cA _,z⟩
    ·have:=xW (g:=g) (test:=test) (DQ:=DQ) f (n+1) (test t s).2 (by assumption) (by omega)
     exact⟨this.1,by omega⟩
  ·split
   ·exact⟨cA _,z⟩
   ·have:=xW (g:=g) (test:=test) (DQ:=DQ) f (n+1) t (by assumption) (by omega)
    exact⟨this.1,by omega⟩
theorem agP(g:aE)(rs:aH)(p q:Int):NtB (pR g rs p q):=by
 unfold pR
 split
 ·have:=xW (g:=g) (test:=fun(_:Unit) s=>(decide (s.2=q),())) (DQ:=0) 2001 0 () (rs,p) (cA _)
  exact⟨this.1,by omega⟩
 ·exact⟨cA _,by decide⟩
theorem Ez{α:Type}{M:Nat}:∀{cs:List (List α)},(∀c,c∈cs->c.length<=M)->(eO cs).length<=M^cs.length
 |[],_=>by simp[eO]
 |c::cs,h=>by
  have ih:=Ez (cs:=cs) fun d hd=>h d (cO _ hd)
  have hc:=h c cF
  have e:(eO (c::cs)).length=c.length*(eO cs).length:=by
   rw[eO,List.length_flatMap]
   have:∀l:List α,(l.map fun x=>((eO cs).map (x:: ·)).length).sum=l.length*(eO cs).length:=by
    intro l
    induction l with
    |nil=>simp
    |cons x l ih=>rw[bK,List.sum_cons,ih,bG,List.length_cons,mm];omega
   exact this c
  rw[e,List.length_cons,Nat.pow_succ,p7]
  exact uX ih hc
theorem agQ(g:aE)(s:Int):NtB (uz g s):=by
 unfold uz
 split
 ·rename_i h
  unfold plB at h
  rw[bD,bT]at h
  have gl:=bA h.1
  have e:=OJ h.1 h.2.1 (by omega)
  have h1:(Fv g s).length<=(uo g s).length:=Ba _ _
  have h2:(uo g s).length<=5^8:=by
   unfold uo
   have:=Ez (M:=5) (cs:=(List.range g.length).map (wH g s)) fun c hc=>by
    obtain⟨q,hq,rfl⟩:=dL.1 hc
    have hq:=ku.1 hq
    unfold wH
    split
    ·simp
    ·have:=(bL h.1 (bJ hq)).1
     rw[bH hq]
     simp[Iz]
     omega
   rw[bG,gj]at this
   exact dD this (zE (by omega) gl.2)
  have h3:(5:Nat)^8=390625:=by decide
  exact⟨by show 0<=wU g s;omega,by show wU g s<=_;omega⟩
 ·exact⟨cA _,by decide⟩
theorem agR(g:aE)(s:Int):LQ (rW g s):=by
 unfold rW
 split
 ·rename_i h
  have gl:=bA (l8.1 (l8.1 h).1).1
  have e:=pi g s
  exact⟨fun x hx=>by have:=Jr h x hx;omega,by show(nU g s).length<=_;omega,fun _=>by show 1<=(nU g s).length;omega⟩
 ·exact LQ.none
theorem agS(g:aE)(p a b:Int):(0<=(uM g p a b).1.1/\(uM g p a b).1.1<=100000)/\(0<=(uM g p a b).1.2/\(uM g p a b).1.2<=100000):=by
 unfold uM
 split
 ·rename_i h
  rw[bD,bT]at h
  have C:=Ry h.1
  have d:=C.den
  have hp:p.toNat<g.length:=by omega
  have r:=C.aab hp
  rw[show((p.toNat:Nat):Int)=p by omega]at r
  have gp:=zF (x:=CG g a b p) (d:=lW g a b) (by omega)
  show(0<=(lX (CG g a b p) (lW g a b)).1/\(lX (CG g a b p) (lW g a b)).1<=100000)/\(0<=(lX (CG g a b p) (lW g a b)).2/\(lX (CG g a b p) (lW g a b)).2<=100000)
  unfold lX
  have k:∀x:Int,0<=x->x<=15625->0<=x/(Int.gcd (CG g a b p) (lW g a b):Int)/\x/(Int.gcd (CG g a b p) (lW g a b):Int)<=100000:=fun x h0 h1=>⟨Int.ediv_nonneg h0 (by omega),by have:=Int.ediv_le_self (Int.gcd (CG g a b p) (lW g a b):Int) h0;omega⟩
  exact⟨k _ r.1 (by omega),k _ (by omega) (by omega)⟩
 ·exact⟨⟨cA _,by decide⟩,⟨cA _,by decide⟩⟩
theorem agT(n k:Int):LQ (rY n k):=by
 unfold rY
 split
 ·rename_i h
  obtain⟨A,B,C,l,hc⟩:=nV (k:=k.toNat) (n:=n.toNat) (by omega) (by omega)
  rw[hc]
  have hl:=jS hc
  have hm:∀{m A B C:Nat}{l:List Nat},m<=250->gq k.toNat m=some (A,B,C,l)->∀i,i∈l->i<=1000000:=by
   intro m
   induction m with
   |zero=>
    intro A B C l _ hc i hi
    rw[gq]at hc
    simp only[dC,fH]at hc
    rw[<-hc.2.2.2]at hi
    simp at hi
   |succ m ih=>
    intro A B C l hm hc i hi
    obtain⟨A0,B0,C0,l0,h0⟩:=nV (k:=k.toNat) (n:=m) (by omega) (by omega)
    obtain⟨j,hw,_,rfl⟩:=nW h0 hc
    rcases gI.1 hi with hi|hi
    ·exact ih (by omega) h0 i hi
    ·simp only[eZ]at hi
     subst hi
     have key:∀(n A B C i:Nat){j B' C':Nat},i<=1000000->qo n A B C i=some (j,B',C')->j<=1000000:=by
      intro n
      induction n with
      |zero=>intro A B C i j B' C' _ h;cases h
      |succ n ih=>
       intro A B C i j B' C' hi h
       cases ht:A.testBit i with
       |false=>
        have:=xT h ht
        simp only[fH]at this
        omega
       |true=>
        obtain⟨h1,m,hm,h2⟩:=uE h ht
        obtain rfl:n=m:=by omega
        refine ih _ _ _ _ ?_ h2
        have:=Td h1
        unfold nxG
        split
        ·omega
        ·split
         ·omega
         ·split<;>omega
     exact key _ _ _ _ _ (by omega) hw
  refine⟨fun x hx=> ?_,by simp,fun _=>by simp⟩
  have:l.getLastD 0<=1000000:=by
   cases IW:l.getLast? with
   |none=>rw[List.getLastD_eq_getLast?,IW];simp
   |some i=>rw[List.getLastD_eq_getLast?,IW];exact hm (by omega) hc i (List.mem_of_getLast? IW)
  simp only[aO,aR,aN]at hx
  rcases hx with rfl|rfl<;>omega
 ·exact LQ.none
theorem agU(b d k n:Int):NtB (Cr b d k n):=by
 unfold Cr
 split
 ·rename_i e
  obtain⟨B,D,N,rfl,rfl,rfl,q1,q2,q3,q4,q5⟩:=zG e
  simp only[Int.toNat_natCast]
  obtain⟨c1,c2,c3,c4⟩:=sR (b:=B) (d:=D) (by omega) (by omega) N (rs:=List.replicate (bX B (D-1)) k) (by simp) (po q4)
  have key:∀l:aH,(∀x,x∈l->0<=x/\x<=1)->0<=l.sum/\l.sum<=l.length:=by
   intro l
   induction l with
   |nil=>intro _;simp
   |cons x l ih=>
    intro h
    have:=ih fun y hy=>h y (cO _ hy)
    have:=h x cF
    simp only[List.sum_cons,List.length_cons]
    omega
  have:=key _ c4
  exact⟨this.1,by show List.sum _<=_;omega⟩
 ·exact⟨cA _,by decide⟩
theorem fi{s:ByteArray}{l:List UInt8}(h:(s.toList==(⟨l.toArray⟩:ByteArray).toList)=true):s.data.toList=l:=by
 rw[uu]at h
 exact qX h
theorem bR{s:ByteArray}{l:List UInt8}(h:(s.toList==(⟨l.toArray⟩:ByteArray).toList)=false):s.data.toList≠l:=by
 rw[uu]at h
 exact of_decide_eq_false h
theorem sW{h h':Heap}{b1:Nat}{p:Nat×List Value}{cs nA:List Value}(f:Fr (fun k=>k=b1) h h')(N:bV h' b1 nA):∀{L:List (Nat×List Value)},Vars h (L++[p,(b1,cs)])->Vars h' (L++[p,(b1,nA)])
 |[],V=>V.set (i:=1) rfl f N
 |(b,c)::L,V=>by
  have fL:b≠b1:=fun e=>V.ne (b1,cs) (by simp) e.symm
  refine .cons (V.head.fr f fun hk=>fL hk) (fun q hq=> ?_) (sW f N V.tail)
  have:∀q:Nat×List Value,q∈L++[p,(b1,cs)]->q.1≠b:=V.ne
  rcases gI.1 hq with hq|hq
  ·exact this q (gI.2 (.inl hq))
  ·simp only[aO,aR,aN]at hq
   rcases hq with rfl|rfl
   ·exact this q (by simp)
   ·exact fun e=>fL e.symm
theorem jo{h:Heap}{p q:Nat×List Value}:∀{L:List (Nat×List Value)},Vars h (L++[p,q])->Vars h [q]
 |[],V=>V.tail
 |_::_,V=>jo V.tail
theorem kJ.same{lo:Nat}{h:Heap}(vQ:lo<=h.size){b1:Nat}{g w:Sl}{d:Dk}{F F' Z:aK}(D:qD lo h b1 g w d false F F' Z){Y:Heap}{t:ByteArray}{ok:Bool}{a:sT}{tx:List UInt8}(f:Fr (fun k=>h.size<=k) h Y)(V:Vars Y [(b1,[g.v,w.v,VI d.2.2,VB false])])(h1:ok=true->a=some (d,tx)/\t=⟨tx.toArray⟩)(h2:ok=false->a=none):kJ lo h b1 Z (some a) (.agg #[VS t,VB ok]) Y:=by
 refine⟨t,ok,g,w,d.2.2,false,rfl,V,f.mono fun k _ hk=> .inr hk,?_⟩
 cases ok with
 |false=>rw[h2 rfl];exact⟨rfl,rfl⟩
 |true=>
  obtain⟨e1,e2⟩:=h1 rfl
  rw[e1]
  exact⟨rfl,rfl,e2,rfl,F,F',D.fr f fun k hk=>hk⟩
theorem kJ.JO{lo:Nat}{h:Heap}{b1 b2:Nat}{Z:aK}{g w:Sl}{p:Int}{Y:Heap}{t:ByteArray}{ok:Bool}(f:Fr (fun k=>k=b1\/h.size<=k) h Y)(V:Vars Y [(b1,[g.v,w.v,VI p,VB true])]):kJ lo h b1 Z none (.agg #[VS t,VB ok]) Y:=⟨t,ok,g,w,p,true,rfl,V,f,rfl⟩
theorem mN{lo:Nat}{h:Heap}(GL:jg lo h)(vQ:lo<=h.size){b1 b2:Nat}{g w:Sl}{d:Dk}{F F' Z:aK}(D:qD lo h b1 g w d false F F' Z){L0:List (Nat×List Value)}{eW:Heap}(qC:Fr (fun k=>h.size<=k) h eW)(eN:h.size<=b2)(hL:Vars eW (L0++[(b2,[VS (⟨#[]⟩:ByteArray),VB false]),(b1,[g.v,w.v,VI d.2.2,VB false])])){X:Heap}{t:Sl}{S:aK}{r:aH×Bool}(B:LQ r)(H:bC S X t r.1)(fX:Fr No eW X){K:aL}(HK:∀v Y,kJ lo h b1 Z (some (Tj d r)) v Y->K v Y):
 aG aC 158 #[t.v,VB r.2] X fun rv h'=>∃t':ByteArray,∃LR:Bool,rv= .agg #[VS t',VB LR]/\Vars h' (L0++[(b2,[VS (⟨#[]⟩:ByteArray),VB false]),(b1,[g.v,w.v,VI d.2.2,VB false])])/\∀nB:Heap,Fr (In [b2]) h' nB->Vars nB (L0++[(b2,[VS t',VB LR]),(b1,[g.v,w.v,VI d.2.2,VB false])])->K (.agg #[VS t',VB LR]) nB:=by
 have FX:=qC.trans fX.aB
 refine XF (GL.next (FX.mono fun k _ hk=>by omega)).here r.2 H (fun x hx=>by have:=B.b x hx;omega) B.n _ fun h' f'=>⟨_,_,rfl,(hL.aB fX).aB f',fun nB f'' V=>HK _ _ (kJ.same vQ D (tx:=zL r.1) ((FX.trans f'.aB).trans (f''.mono fun k _ hk=>by simp only[In,eZ]at hk;omega)) (jo V) (fun e=> ?_) fun e=> ?_)⟩
 ·unfold Tj
  rw[aJ e,YD (B.ne e)]
  exact⟨rfl,rfl⟩
 ·unfold Tj
  rw[aF (by rw[e];exact qf)]
theorem uH{lo:Nat}{h:Heap}(GL:jg lo h)(vQ:lo<=h.size){b1 b2:Nat}{g w:Sl}{d:Dk}{F F' Z:aK}(D:qD lo h b1 g w d false F F' Z){L0:List (Nat×List Value)}{eW:Heap}(qC:Fr (fun k=>h.size<=k) h eW)(eN:h.size<=b2)(hL:Vars eW (L0++[(b2,[VS (⟨#[]⟩:ByteArray),VB false]),(b1,[g.v,w.v,VI d.2.2,VB false])])){X:Heap}{r:Int×Bool}(B:NtB r)(fX:Fr No eW X){K:aL}(HK:∀v Y,kJ lo h b1 Z (some (YC d r)) v Y->K v Y):
 aG aC 116 #[VI r.1,VB r.2] X fun rv h'=>∃t':ByteArray,∃LR:Bool,rv= .agg #[VS t',VB LR]/\Vars h' (L0++[(b2,[VS (⟨#[]⟩:ByteArray),VB false]),(b1,[g.v,w.v,VI d.2.2,VB false])])/\∀nB:Heap,Fr (In [b2]) h' nB->Vars nB (L0++[(b2,[VS t',VB LR]),(b1,[g.v,w.v,VI d.2.2,VB false])])->K (.agg #[VS t',VB LR]) nB:=by
 have FX:=qC.trans fX.aB
 unfold NtB at B
 refine Tm (GL.next (FX.mono fun k _ hk=>by omega)).here r.2 (by omega) _ fun h' f'=>⟨_,_,rfl,(hL.aB fX).aB f',fun nB f'' V=>HK _ _ (kJ.same vQ D (tx:=Lib.itoa r.1) ((FX.trans f'.aB).trans (f''.mono fun k _ hk=>by simp only[In,eZ]at hk;omega)) (jo V) (fun e=> ?_) fun e=> ?_)⟩
 ·unfold YC
  rw[aJ e]
  exact⟨rfl,rfl⟩
 ·unfold YC
  rw[aF (by rw[e];exact qf)]
theorem Cy{lo:Nat}{h:Heap}(GL:jg lo h)(vQ:lo<=h.size){b1 b2:Nat}{g w:Sl}{d:Dk}{F F' Z:aK}(D:qD lo h b1 g w d false F F' Z){L0:List (Nat×List Value)}{eW:Heap}(qC:Fr (fun k=>h.size<=k) h eW)(eN:h.size<=b2)(hL:Vars eW (L0++[(b2,[VS (⟨#[]⟩:ByteArray),VB false]),(b1,[g.v,w.v,VI d.2.2,VB false])]))(Cx:b2<eW.size){X:Heap}{t:Sl}{r:St×Bool}(B:PA d.1 r)(H:cH X (Iv eW.size X.size) t r.1.1)(fX:Fr No eW X){K:aL}(HK:∀v Y,kJ lo h b1 Z (some (CH d r)) v Y->K v Y):
 aG aC 155 #[VP b1 0,.agg #[t.v,VI r.1.2],VB r.2] X fun rv h'=>∃x4:Sl,∃x5:Sl,∃x6:Int,∃x7:Bool,∃t':ByteArray,∃LR:Bool,rv= .agg #[VS t',VB LR]/\Vars h' (L0++[(b2,[VS (⟨#[]⟩:ByteArray),VB false]),(b1,[x4.v,x5.v,VI x6,VB x7])])/\∀nB:Heap,Fr (In [b2]) h' nB->Vars nB (L0++[(b2,[VS t',VB LR]),(b1,[x4.v,x5.v,VI x6,VB x7])])->K (.agg #[VS t',VB LR]) nB:=by
 have FX:=qC.trans fX.aB
 have lb:=D.V.head.lt
 have zX:=FX.size
 have AF:=fX.size
 have TR:=qC.size
 have V:=hL.aB fX
 refine GS (GL.next (FX.mono fun k _ hk=>by omega)) D.lb (by omega) (jo V) H.fM (fun k hk=>by have:=hk.1;omega) B.b B.n B.p _ fun h' f' V'=> ?_
 refine⟨g,(if r.2=true then t else w),(if r.2=true then r.1.2 else d.2.2),false,_,_,rfl,sW f' V'.head V,fun nB f'' V2=>HK _ _ ?_⟩
 have n2:∀{k:Nat},In [b2] k->k=b2:=fun hk=>by simpa[In]using hk
 have fB:Fr (fun k=>k=b1\/h.size<=k) h nB:=((FX.mono fun k _ hk=> .inr hk).trans (f'.mono fun k _ hk=> .inl hk)).trans (f''.mono fun k _ hk=> .inr (by have:=n2 hk;omega))
 refine⟨_,r.2,_,_,_,false,rfl,jo V2,fB,?_⟩
 have V3:=jo V2
 unfold CH
 cases hr:r.2 with
 |false=>rw[aF qf];exact⟨rfl,rfl⟩
 |true=>
  rw[hr]at V3
  have W:=B.ok hr
  have wl:1<=r.1.1.length:=by have:=bA W.cD;have h2:r.1.1.length=d.1.length:=W.len;omega
  rw[aJ rfl]
  have W2:=Ow.fr (Ow.fr H f' fun k hk aQ=>by have:=(H.aS hk).1.1;omega) f'' fun k hk aQ=>by have h1:=(H.aS hk).1.1;have:=n2 aQ;omega
  exact⟨rfl,rfl,by rw[sU wl],rfl,D.adF (n:=h.size) (aW _) V3 fB (W2.mono fun k _ hk=>by have:=hk.1;omega)⟩
set_option maxHeartbeats 4000000 in
theorem Tq{lo:Nat}{h:Heap}(GL:jg lo h)(vQ:lo<=h.size){b1:Nat}{g w:Sl}{d:Dk}{F F' Z:aK}(D:qD lo h b1 g w d false F F' Z)(ok:pu d)(s:ByteArray)(K:aL)(HK:∀v h',kJ lo h b1 Z (iF d s.data.toList) v h'->K v h'):aG aC 113 #[VP b1 0,VS s] h K:=by
 have lb:=D.V.head.lt
 have ll:=D.lb
 have dl:=nX ok
 have WK:=dN ok
 refine aiv b1 g w d.2.2 false s h K D.V fun b2 h1 eN f1 cY=> ?_
 have f1:=f1.aM
 have z1:=f1.size
 refine⟨fun b3 x1 b4 x2 x3 h'=>x1=g/\x2=w/\x3=d.2.2/\Fr (fun k=>h.size<=k) h h',⟨fun b5 h2 QL f2 _ b6 h3 Zm f3 _ h4 f4 _ h5 f5 _=>⟨rfl,rfl,rfl,?_⟩,fun b5 h2 QL f2 _ b6 h3 Zm f3 _ h4 f4 _ h5 f5 _=>⟨rfl,rfl,rfl,?_⟩⟩,?_⟩
 ·have:=f2.size
  exact(((f1.aB.trans f2.aM.aB).trans f3.aM.aB).trans (f4.mono fun k _ hk=>by simp only[In,eZ]at hk;omega)).trans (f5.mono fun k _ hk=>by simp only[In,eZ]at hk;omega)
 ·have:=f2.size
  exact(((f1.aB.trans f2.aM.aB).trans f3.aM.aB).trans (f4.mono fun k _ hk=>by simp only[In,eZ]at hk;omega)).trans (f5.mono fun k _ hk=>by simp only[In,eZ]at hk;omega)
 rintro b3 _ b4 _ _ eW ⟨rfl,rfl,rfl,qC⟩ fe
 have Ou:=D.fr qC fun k hk=>hk
 have AF:=qC.size
 have Cx:=fe.tail.tail.head.lt
 have adH:=GL.next (qC.mono fun k _ hk=>by omega:Fr (fun k=>lo<=k) h eW)
 have Ph:=Ou.G.rd
 have XJ:bC _ eW _ d.2.1:=Ou.W.rd
 have n2:∀{k:Nat},In [b2] k->k=b2:=fun hk=>by simpa[In]using hk
 unfold iF at HK
 refine⟨fun e=> ?_,fun e1=>⟨fun e=> ?_,fun e2=>⟨fun e=> ?_,fun e3=>⟨fun e=> ?_,fun e4=>⟨fun e=> ?_,fun e5 uL f26 td=> ?_⟩⟩⟩⟩⟩
 ·rw[aJ (fi e)]at HK
  refine QJ Ph XJ d.2.2 _ fun t gP kp f11=>⟨t,_,_,rfl,fe.aB f11,Cy GL vQ D (L0:=[_,_]) qC eN fe Cx (sV d.1 d.2.1 d.2.2 1) kp f11 HK⟩
 ·rw[aF (bR e1),aJ (fi e)]at HK
  have gg:=WK.cD
  refine nS Ph (jX gg) (bA gg).1 _ fun TY f14=>⟨_,rfl,fe.aB f14,fun Vn f15 Da=>HK _ _ (kJ.same vQ D (tx:=lP d.1) ((qC.trans f14.aB).trans (f15.mono fun k _ hk=>by have:=n2 hk;omega)) (bS (L:=[_,_,_]) Da) (fun _=>⟨rfl,rfl⟩) fun e=>by cases e)⟩
 ·rw[aF (bR e1),aF (bR e2),aJ (fi e)]at HK
  have sm:=(iJ WK).2
  refine yE adH.here XJ (by omega) (xV ok) (by omega) _ fun TY f14=>⟨_,rfl,fe.aB f14,fun Vn f15 Da=>HK _ _ (kJ.same vQ D (tx:=kM d.2) ((qC.trans f14.aB).trans (f15.mono fun k _ hk=>by have:=n2 hk;omega)) (bS (L:=[_,_,_]) Da) (fun _=>⟨rfl,by rw[sU (s:=(d.2.1,d.2.2)) dl.1]⟩) fun e=>by cases e)⟩
 ·rw[aF (bR e1),aF (bR e2),aF (bR e3),aJ (fi e)]at HK
  have pb:=YE d.1 d.2.1 d.2.2
  refine LC Ph XJ d.2.2 _ fun Yf f18=>⟨_,_,_,rfl,fe.aB f18,?_⟩
  refine bE gD (fun k=>Yf.size<=k) (fun _ h=>h) 2 (by omega) [VI (fD d.1 d.2.1 d.2.2).1,VI (fD d.1 d.2.1 d.2.2).2.1] rfl rfl fun x Fm n19 c19 VW f19 m19 _=>⟨x,rfl,(fe.aB f18).aB f19,?_⟩
  have B:LQ ([(fD d.1 d.2.1 d.2.2).1,(fD d.1 d.2.1 d.2.2).2.1],(fD d.1 d.2.1 d.2.2).2.2):=⟨fun x hx=>by
   simp only[aO,aR,aN]at hx
   rcases hx with rfl|rfl<;>omega,by simp,fun _=>by simp⟩
  exact mN GL vQ D (L0:=[_,_]) qC eN fe B (show bC _ Fm x [_,_]from VW.rd) (f18.aA f19) HK
 ·rw[aF (bR e1),aF (bR e2),aF (bR e3),aF (bR e4),aJ (fi e)]at HK
  refine xK Ph XJ d.2.2 _ fun t Hb o22 f22=>⟨t,_,rfl,fe.aB f22,mN GL vQ D (L0:=[_,_]) qC eN fe (agM d.1 d.2.1 d.2.2) o22 f22 HK⟩
 ·rw[aF (bR e1),aF (bR e2),aF (bR e3),aF (bR e4),aF (bR e5)]at HK
  exact HK _ _ (kJ.JO (b2:=b2) ((qC.mono fun k _ hk=> .inr hk).trans (f26.mono fun k _ hk=>by simp only[In,aO,aR,aN]at hk;omega)) (bS (L:=[_,_,_]) td))
theorem qD.block{lo:Nat}{h eW:Heap}{b1 b2:Nat}{g w:Sl}{d:Dk}{cw:Bool}{F F' Z:aK}(D:qD lo h b1 g w d cw F F' Z)(qC:Fr (fun k=>h.size<=k) h eW)(eN:h.size<=b2)(Cx:b2<eW.size):qD lo eW b1 g w d cw (fun k=>F k/\k<h.size) (fun k=>F' k/\k<h.size) (fun k=>Z k\/k=b2):=by
 have D1:=D.low.fr qC fun k hk=>hk
 refine⟨D1.V,D1.G,D1.W,fun k hk=>⟨(D.fl k hk.1).1,fun hx=> ?_⟩,fun k hk=>⟨(D.wl k hk.1).1,fun hx=> ?_⟩,D1.dj,D1.lb,.inl D.xb,fun k hk=> ?_⟩
 ·rcases hx with hx|hx
  ·exact(D.fl k hk.1).2 hx
  ·have:=hk.2;omega
 ·rcases hx with hx|hx
  ·exact(D.wl k hk.1).2 hx
  ·have:=hk.2;omega
 ·rcases hk with hk|hk
  ·exact D1.xh k hk
  ·omega
theorem ny{lo:Nat}{h eW gP:Heap}{b1 b2:Nat}{Z:aK}{o:Option sT}{v:Value}(qC:Fr (fun k=>h.size<=k) h eW)(eN:h.size<=b2){cs:List Value}{L0:List (Nat×List Value)}(hL:Vars eW (L0++[(b2,[VS (⟨#[]⟩:ByteArray),VB false]),(b1,cs)]))(wc:∀p,p∈L0->p.1<eW.size)(Cx:b2<eW.size)(O:kJ lo eW b1 (fun k=>Z k\/k=b2) o v gP){K:aL}(HK:∀v Y,kJ lo h b1 Z o v Y->K v Y):
 ∃x4:Sl,∃x5:Sl,∃x6:Int,∃x7:Bool,∃t':ByteArray,∃LR:Bool,v= .agg #[VS t',VB LR]/\Vars gP (L0++[(b2,[VS (⟨#[]⟩:ByteArray),VB false]),(b1,[x4.v,x5.v,VI x6,VB x7])])/\∀nB:Heap,Fr (In [b2]) gP nB->Vars nB (L0++[(b2,[VS t',VB LR]),(b1,[x4.v,x5.v,VI x6,VB x7])])->K (.agg #[VS t',VB LR]) nB:=by
 obtain⟨t,ok,g,w,p,cw,rfl,V,f,M⟩:=O
 refine⟨g,w,p,cw,t,ok,rfl,?_,fun iH f12 Mw=>HK _ _ ?_⟩
 ·have f':Fr (fun k=>k=b1) eW gP:=f.mono fun k hk h2=>by rcases h2 with h2|h2;exact h2;omega
  exact sW f' V.head hL
 ·have n2:∀{k:Nat},In [b2] k->k=b2:=fun hk=>by simpa[In]using hk
  have fB:Fr (fun k=>k=b1\/h.size<=k) h iH:=((qC.mono fun k _ hk=> .inr hk).trans (f.mono fun k _ hk=>by have:=qC.size;omega)).trans (f12.mono fun k _ hk=> .inr (by have:=n2 hk;omega))
  refine⟨t,ok,g,w,p,cw,rfl,jo Mw,fB,?_⟩
  cases o with
  |none=>exact M
  |some a=>
   cases a with
   |none=>exact M
   |some r=>
    obtain⟨m1,m2,m3,m4,F,F',D⟩:=M
    have V13:=jo Mw
    rw[m1,m4]at V13
    refine⟨m1,m2,m3,m4,F,F',V13,D.G.fr f12 fun k _ hk aQ=>(D.fl k hk).2 (.inr (n2 aQ)),Ow.fr D.W f12 fun k hk aQ=>(D.wl k (D.W.aS hk).1).2 (.inr (n2 aQ)),fun k hk=>⟨(D.fl k hk).1,fun hx=>(D.fl k hk).2 (.inl hx)⟩,fun k hk=>⟨(D.wl k hk).1,fun hx=>(D.wl k hk).2 (.inl hx)⟩,D.dj,D.lb,?_,fun k hk=>fQ (D.xh k (.inl hk)) f12.size⟩
    rcases D.xb with hx|hx
    ·exact hx
    ·exact absurd hx (fun e=>by
      have:=jo (L:=L0) hL
      have fL:∀{L:List (Nat×List Value)},Vars eW (L++[(b2,[VS (⟨#[]⟩:ByteArray),VB false]),(b1,cs)])->b1≠b2:=by
       intro L
       induction L with
       |nil=>intro V;exact V.ne (b1,cs) (by simp)
       |cons q L ih=>intro V;exact ih V.tail
      exact fL hL e)
set_option maxHeartbeats 4000000 in
theorem adI{lo:Nat}{h:Heap}(GL:jg lo h)(vQ:lo<=h.size){b1:Nat}{g w:Sl}{d:Dk}{F F' Z:aK}(D:qD lo h b1 g w d false F F' Z)(ok:pu d)(s:ByteArray){n:Int}(hn:0<=n/\n<=999999)(K:aL)(HK:∀v h',kJ lo h b1 Z (jt d s.data.toList n) v h'->K v h'):aG aC 114 #[VP b1 0,VS s,VI n] h K:=by
 have lb:=D.V.head.lt
 have ll:=D.lb
 refine aix b1 g w d.2.2 false s n h K D.V fun b2 h1 eN f1 cY=> ?_
 have f1:=f1.aM
 have z1:=f1.size
 refine⟨fun b3 x1 b4 x2 x3 h'=>x1=g/\x2=w/\x3=d.2.2/\Fr (fun k=>h.size<=k) h h',⟨fun b5 h2 QL f2 _ b6 h3 Zm f3 _ h4 f4 _ h5 f5 _=>⟨rfl,rfl,rfl,?_⟩,fun b5 h2 QL f2 _ b6 h3 Zm f3 _ h4 f4 _ h5 f5 _=>⟨rfl,rfl,rfl,?_⟩⟩,?_⟩
 ·have:=f2.size
  exact(((f1.aB.trans f2.aM.aB).trans f3.aM.aB).trans (f4.mono fun k _ hk=>by simp only[In,eZ]at hk;omega)).trans (f5.mono fun k _ hk=>by simp only[In,eZ]at hk;omega)
 ·have:=f2.size
  exact(((f1.aB.trans f2.aM.aB).trans f3.aM.aB).trans (f4.mono fun k _ hk=>by simp only[In,eZ]at hk;omega)).trans (f5.mono fun k _ hk=>by simp only[In,eZ]at hk;omega)
 rintro b3 _ b4 _ _ eW ⟨rfl,rfl,rfl,qC⟩ fe
 have Ou:=D.fr qC fun k hk=>hk
 have AF:=qC.size
 have Cx:=fe.tail.tail.head.lt
 have adH:=GL.next (qC.mono fun k _ hk=>by omega:Fr (fun k=>lo<=k) h eW)
 have Ph:=Ou.G.rd
 have XJ:bC _ eW _ d.2.1:=Ou.W.rd
 unfold jt at HK
 refine⟨fun e=> ?_,fun e1=>⟨fun e=> ?_,fun e2=>⟨fun e=> ?_,fun e3=>⟨fun e=> ?_,fun e4=>⟨fun e=> ?_,fun e5=>⟨fun e=> ?_,fun e6=>⟨fun e=> ?_,fun e7 uL f26 td=> ?_⟩⟩⟩⟩⟩⟩⟩
 ·rw[aJ (fi e)]at HK
  have TX:=D.block qC eN Cx
  exact agL adH (by omega) TX ok hn _ fun v gP O=>ny qC eN (L0:=[_,_]) fe (fun p hp=>by
   simp only[aO,aR,aN]at hp
   rcases hp with rfl|rfl
   ·exact fe.head.lt
   ·exact fe.tail.head.lt) Cx O HK
 ·rw[aF (bR e1),aJ (fi e)]at HK
  exact Ms Ph XJ d.2.2 n _ fun t gP kp f11=>⟨t,_,_,rfl,fe.aB f11,Cy GL vQ D (L0:=[_,_]) qC eN fe Cx (sV d.1 d.2.1 d.2.2 n) kp f11 HK⟩
 ·rw[aF (bR e1),aF (bR e2),aJ (fi e)]at HK
  exact Bo Ph XJ d.2.2 n _ fun t gP kp f11=>⟨t,_,rfl,fe.aB f11,mN GL vQ D (L0:=[_,_]) qC eN fe (agN d.1 d.2.1 d.2.2 n) kp.rd f11 HK⟩
 ·rw[aF (bR e1),aF (bR e2),aF (bR e3),aJ (fi e)]at HK
  exact Lx Ph XJ d.2.2 n _ fun t gP kp f11=>⟨t,_,rfl,fe.aB f11,mN GL vQ D (L0:=[_,_]) qC eN fe (agO d.1 d.2.1 d.2.2 n) kp.rd f11 HK⟩
 ·rw[aF (bR e1),aF (bR e2),aF (bR e3),aF (bR e4),aJ (fi e)]at HK
  exact N6 Ph XJ d.2.2 n _ fun gP f11=>⟨_,_,rfl,fe.aB f11,uH GL vQ D (L0:=[_,_]) qC eN fe (agP d.1 d.2.1 d.2.2 n) f11 HK⟩
 ·rw[aF (bR e1),aF (bR e2),aF (bR e3),aF (bR e4),aF (bR e5),aJ (fi e)]at HK
  exact FP Ph n _ fun gP f11=>⟨_,_,rfl,fe.aB f11,uH GL vQ D (L0:=[_,_]) qC eN fe (agQ d.1 n) f11 HK⟩
 ·rw[aF (bR e1),aF (bR e2),aF (bR e3),aF (bR e4),aF (bR e5),aF (bR e6),aJ (fi e)]at HK
  exact LG Ph n _ fun t gP kp f11=>⟨t,_,rfl,fe.aB f11,mN GL vQ D (L0:=[_,_]) qC eN fe (agR d.1 n) kp.rd f11 HK⟩
 ·rw[aF (bR e1),aF (bR e2),aF (bR e3),aF (bR e4),aF (bR e5),aF (bR e6),aF (bR e7)]at HK
  exact HK _ _ (kJ.JO (b2:=b2) ((qC.mono fun k _ hk=> .inr hk).trans (f26.mono fun k _ hk=>by simp only[In,aO,aR,aN]at hk;omega)) (bS (L:=[_,_,_]) td))
set_option maxHeartbeats 4000000 in
theorem adJ{lo:Nat}{h:Heap}(GL:jg lo h)(vQ:lo<=h.size){b1:Nat}{g w:Sl}{d:Dk}{F F' Z:aK}(D:qD lo h b1 g w d false F F' Z)(ok:pu d)(s:ByteArray){m n:Int}(hm:0<=m/\m<=999999)(hn:0<=n/\n<=999999)(K:aL)(HK:∀v h',kJ lo h b1 Z (vP d s.data.toList m n) v h'->K v h'):aG aC 115 #[VP b1 0,VS s,VI m,VI n] h K:=by
 have lb:=D.V.head.lt
 have ll:=D.lb
 unfold vP at HK
 have n1:∀{b2 k:Nat},In [b2] k->k=b2:=fun hk=>by simpa[In]using hk
 refine aiz b1 g w d.2.2 false s m n h K D.V ⟨fun e b2 h1 eN f1 cY=> ?_,fun e1=>⟨fun e b2 h1 eN f1 cY=> ?_,fun e2=>⟨fun e b2 h1 eN f1 cY=> ?_,fun e3=>⟨fun e b2 h1 eN f1 cY=> ?_,fun e4 b2 Q4 eN f20 Fo=> ?_⟩⟩⟩⟩
 ·have f1:=f1.aM
  have z1:=f1.size
  rw[aJ (fi e)]at HK
  exact adG (by omega) (D.block f1.aB eN cY.head.lt) m n _ fun v gP O=>ny f1.aB eN (L0:=[]) cY (fun p hp=>by simp at hp) cY.head.lt O HK
 ·have f1:=f1.aM
  have z1:=f1.size
  rw[aF (bR e1),aJ (fi e)]at HK
  exact XG (GL.no f1) (by omega) (D.block f1.aB eN cY.head.lt) ok hm hn _ fun v gP O=>ny f1.aB eN (L0:=[]) cY (fun p hp=>by simp at hp) cY.head.lt O HK
 ·have f1:=f1.aM
  have z1:=f1.size
  rw[aF (bR e1),aF (bR e2),aJ (fi e)]at HK
  have Cx:=cY.head.lt
  have bd:=agS d.1 d.2.2 m n
  have G1:=D.G.rd.no f1
  refine⟨fun QO b3 x9 QM h'=>QO=(uM d.1 d.2.2 m n).2/\x9=(uM d.1 d.2.2 m n).1.1/\QM=(uM d.1 d.2.2 m n).1.2/\Fr No h h',⟨?_,fun b5 h9 QL f9 iG=> ?_⟩,?_⟩
  ·exact yA G1 d.2.2 m n _ fun h6 f6=>⟨_,_,_,rfl,cY.aB f6,fun b4 h8 Fb f8 gK=>⟨rfl,rfl,rfl,(f1.aA f6).aA f8.aM⟩⟩
  ·have f9:=f9.aM
   have z9:=f9.size
   exact yA (G1.no f9) d.2.2 m n _ fun eW f10=>⟨_,_,_,rfl,iG.aB f10,fun gP f11 fJ=>⟨rfl,rfl,rfl,((f1.aA f9).aA f10).fresh f11 fun k hk=>by have:=n1 hk;omega⟩⟩
  rintro _ b3 _ _ iH ⟨rfl,rfl,rfl,F12⟩ kX
  have i1:=rZ (n:=(uM d.1 d.2.2 m n).1.1) (by omega) (by omega)
  have i2:=rZ (n:=(uM d.1 d.2.2 m n).1.2) (by omega) (by omega)
  refine kZ (GL.no F12).here (by omega) (by omega) _ fun uh f13=>⟨_,rfl,kX.aB f13,by rw[cU];show _+1<=_;omega,kZ ((GL.no F12).no f13).here (by omega) (by omega) _ fun TY f14=>⟨_,rfl,(kX.aB f13).aB f14,?_,fun Vn f15 Da=>HK _ _ ?_⟩⟩
  ·rw[show(⟨#[47]⟩:ByteArray)=⟨[47].toArray⟩from rfl,fV,cU,cU,cB];show _+1+_<=_;omega
  ·have fY:=((F12.aA f13).aA f14).fresh f15 fun k hk=>by have:=n1 hk;omega
   refine kJ.same vQ D (tx:=Lib.itoa (uM d.1 d.2.2 m n).1.1++47::Lib.itoa (uM d.1 d.2.2 m n).1.2) fY.aB (bS (L:=[_,_]) Da) (fun e=> ?_) fun e=> ?_
   ·unfold chC
    rw[aJ e]
    exact⟨rfl,by rw[show(⟨#[47]⟩:ByteArray)=⟨[47].toArray⟩from rfl,fV,fV];simp⟩
   ·unfold chC
    rw[aF (by rw[e];exact qf)]
 ·have f1:=f1.aM
  have z1:=f1.size
  rw[aF (bR e1),aF (bR e2),aF (bR e3),aJ (fi e)]at HK
  exact GO m n _ fun t gP kp f11=>⟨t,_,rfl,cY.aB f11,mN GL vQ D (L0:=[]) f1.aB eN cY (agT m n) kp.rd f11 HK⟩
 ·rw[aF (bR e1),aF (bR e2),aF (bR e3),aF (bR e4)]at HK
  exact HK _ _ (kJ.JO (b2:=b2) (f20.mono fun k _ hk=> .inl (n1 hk)) (bS (L:=[_]) Fo))
set_option maxHeartbeats 4000000 in
theorem XK{lo:Nat}{h:Heap}(GL:jg lo h)(vQ:lo<=h.size){b1:Nat}(yL:lo<=b1){g w:Sl}{p:Int}(hL:Vars h [(b1,[g.v,w.v,VI p,VB false])]){S:aK}{t:Sl}{ps:List ByteArray}(T:eC S h 1 t (ps.map VS))(hS:∀k,S k->k≠b1)(tJ:∀q,q∈ps->q.size<=1000000)(hn:ps.length<=100000)(K:aL)
 (HN:jn lL (ps.map (·.data.toList))=none->∀(o:Sl) h',Vars h' [(b1,[g.v,w.v,VI p,VB true])]->Fr (fun k=>k=b1\/h.size<=k) h h'->K o.v h')
 (HY:∀ns,jn lL (ps.map (·.data.toList))=some ns->∀(o:Sl) h',cH h' (fun k=>h.size<=k) o ns->Fr No h h'->K o.v h'):aG aC 112 #[VP b1 0,t.v] h K:=by
 have lb:=hL.head.lt
 have T0:=eC.lt T
 have n1:∀{k:Nat},In [b1] k->k=b1:=fun hk=>by simpa[In]using hk
 refine ait b1 g w p false t h K hL ?_
 refine bE gD (fun k=>h.size<=k) (fun _ h=>h) 0 (by omega) [] rfl rfl fun o h1 m1 c1 o1 f1 q1 _=>⟨o,rfl,hL.aB f1,?_⟩
 refine⟨fun n x i x1 x2 x3 x4 h'=>0<=i/\i+n=(ps.length:Int)/\x1=g/\x2=w/\x3=p/\∃r:aH,r.length=i.toNat/\cH h' (fun k=>h.size<=k) x r/\Fr (fun k=>k=b1\/h.size<=k) h h'/\(x4=false->Ej lL (ps.map (·.data.toList)) r i.toNat/\Fr (fun k=>h.size<=k) h h')/\(x4=true->∃(j:Nat)(hj:j<ps.length),lL (ps[j]).data.toList=none),
  ⟨ps.length,by omega,by omega,rfl,rfl,rfl,[],rfl,by show Ow _ _ _ _ _ _;simpa using o1,f1.aB,fun _=>⟨⟨rfl,fun j _ h'=>by simp at h'⟩,f1.aB⟩,fun h=>by cases h⟩,?_⟩
 rintro n x i x1 x2 x3 x4 h2 ⟨i0,i1,rfl,rfl,rfl,r,rl,o2,f2,hF,hT⟩ cC
 have z2:=f2.size
 have T2:=eC.fr T0 f2 fun k hk aQ=>by have:=hS k hk.1;have:=hk.2;rcases aQ with h|h<;>omega
 have tn:=eC.len T2
 rw[bG,gL]at tn
 have GL2:∀{X:Heap},Fr (fun k=>k=b1\/h.size<=k) h X->jG X:=fun f=>(GL.next (f.mono fun k _ hk=>by rcases hk with h|h<;>omega)).here
 refine⟨fun e=> ?_,fun e=> ?_⟩
 ·simp only[aT]at e
  have hi:i.toNat<ps.length:=by omega
  have cc:=T2.get (i:=i) i0 (by rw[bG];omega)
  rw[show(ps.map VS)[i.toNat]'(by rw[bG];exact hi)=VS ps[i.toNat]from cK _]at cc
  have hq:=tJ _ (bJ hi)
  refine⟨eC.bM T2 i0 (by rw[bG];omega),_,cc,?_⟩
  obtain⟨ms,hm⟩:=zz
  refine Rh (GL2 f2) (by omega) _ (fun v h3 ha f3=>⟨v,_,rfl,cC.aB f3,fun x5 x6 x7 x8 h'=>x5=x1/\x6=x2/\x7=x3/\Fr (fun k=>k=b1\/h2.size<=k) h2 h'/\((x8=x4/\Fr No h2 h'/\lL (ps[i.toNat]).data.toList=some v)\/(x8=true/\lL (ps[i.toNat]).data.toList=none)),?_,?_⟩) fun v ty q h3 hn f3=>⟨v,_,rfl,cC.aB f3,fun x5 x6 x7 x8 h'=>x5=x1/\x6=x2/\x7=x3/\Fr (fun k=>k=b1\/h2.size<=k) h2 h'/\((x8=x4/\Fr No h2 h'/\lL (ps[i.toNat]).data.toList=some v)\/(x8=true/\lL (ps[i.toNat]).data.toList=none)),?_,?_⟩
  ·have vr:=IG ha
   have st:lL (ps[i.toNat]).data.toList=if 0<=v/\v<=999999/\Lib.itoa v=(ps[i.toNat]).data.toList then some v else none:=by unfold lL;rw[ha]
   refine Eh hm _ ⟨_,rfl,fun e=>by simp at e,fun _=> ?_⟩
   refine fa _ _ _ h3 _ ⟨_,rfl,cC.aB f3,fun e2 h7 f7 kL=> ?_,fun e2=> ?_⟩
   ·exact⟨rfl,rfl,rfl,f3.aB.trans (f7.mono fun k _ hk=> .inl (n1 hk)),.inr ⟨rfl,by rw[st,aF (fun hh=>by simp at e2;omega)]⟩⟩
   ·have e2:0<=v/\v<=999999:=by simpa using e2
    refine kZ (GL2 (f2.trans f3.aB)) vr.1 vr.2 _ fun h5 f5=>⟨_,rfl,(cC.aB f3).aB f5,?_⟩
    rw[uu]
    have e5:(⟨(Lib.itoa v).toArray⟩:ByteArray).data.toList=Lib.itoa v:=rfl
    rw[e5]
    refine⟨fun e3 h6 f6 jx=> ?_,fun e3=> ?_⟩
    ·have e3:=of_decide_eq_false (bU e3)
     exact⟨rfl,rfl,rfl,(f3.aA f5).aB.trans (f6.mono fun k _ hk=> .inl (n1 hk)),.inr ⟨rfl,by rw[st,aF (fun hh=>e3 hh.2.2)]⟩⟩
    ·have e3:=qX (bQ e3)
     exact⟨rfl,rfl,rfl,(f3.aA f5).aB,.inl ⟨rfl,f3.aA f5,by rw[st,aJ ⟨e2.1,e2.2,e3⟩]⟩⟩
  rotate_left
  ·refine yx hm _ _ _ _ ⟨_,rfl,fun _ h8 f8 gK=> ?_,fun e=>by simp at e⟩
   refine⟨rfl,rfl,rfl,f3.aB.trans (f8.mono fun k _ hk=> .inl (n1 hk)),.inr ⟨rfl,?_⟩⟩
   unfold lL
   split
   ·rename_i m J2
    exact absurd J2 (hn m)
   ·rfl
  all_goals
   rintro _ _ _ x8 h9 ⟨rfl,rfl,rfl,f9,hc⟩ iG
   have z9:=f9.size
   have F9:Fr (fun k=>k=b1\/h.size<=k) h h9:=f2.trans (f9.mono fun k _ hk=>by omega)
   have o9:=Ow.fr o2 f9 fun k hk aQ=>by have:=o2.aS hk;omega
   refine mX (F:=fun k=>h.size<=k) o9 (fun k hk=>by omega) iG (fun q hq=>by simp only[eZ]at hq;subst hq;show¬h.size<=b1;omega) (by omega) _ fun t7 gP kp f11 fJ=> ?_
   rw[aP (i+1) (by omega) (by omega)]
   refine⟨n-1,by omega,by omega,by omega,rfl,rfl,rfl,r++[v],by rw[cB,rl];simp;omega,kp,F9.trans (f11.mono fun k _ hk=> .inr hk),fun e8=> ?_,fun e8=> ?_⟩
   ·rcases hc with⟨rfl,fN,hv⟩|⟨rfl,_⟩
    ·obtain⟨SF,fF⟩:=hF e8
     refine⟨?_,(fF.trans fN.aB).trans f11⟩
     rw[show(i+1).toNat=i.toNat+1 by omega]
     exact SF.next (by rw[bG];exact hi) (by rw[cK];exact hv)
    ·cases e8
   ·rcases hc with⟨rfl,_,_⟩|⟨_,hv⟩
    ·exact hT e8
    ·exact⟨i.toNat,hi,hv⟩
 ·simp only[aY]at e
  cases x4 with
  |true=>
   obtain⟨j,hj,hv⟩:=hT rfl
   exact HN (oZ j (by rw[bG];exact hj) (by rw[cK];exact hv)) x h2 cC f2
  |false=>
   obtain⟨SF,fF⟩:=hF rfl
   have hr:=zA (f:=lL) (l:=ps.map (·.data.toList)) (r:=r) (by rw[SF.1,bG];omega) SF.2
   exact HY r hr x h2 o2 (fF.mono fun k hk aQ=>absurd aQ (by omega))
theorem XL{w:List UInt8}{n:Int}(h:lL w=some n):0<=n/\n<=999999:=by
 unfold lL at h
 split at h
 ·split at h
  ·rename_i hh
   have h:=bI h
   subst h
   exact⟨hh.1,hh.2.1⟩
  ·cases h
 ·cases h
theorem JP{ws:List (List UInt8)}{ns:aH}(h:jn lL ws=some ns):∀n,n∈ns->0<=n/\n<=999999:=fun n hn=>by
 obtain⟨hl,hg⟩:=oY h
 obtain⟨i,hi,rfl⟩:=wD hn
 exact XL (hg i (by omega) hi)
set_option maxHeartbeats 8000000 in
theorem XM{lo:Nat}{h:Heap}(GL:jg lo h)(vQ:lo<=h.size){b1:Nat}{g w:Sl}{d:Dk}{F F' Z:aK}(D:qD lo h b1 g w d false F F' Z)(ok:pu d){S:aK}{t:Sl}{q0:ByteArray}{qs:List ByteArray}(T:eC S h 1 t ((q0::qs).map VS))(hS:∀k,S k->k≠b1)(tJ:∀q,q∈q0::qs->q.size<=100000)(hn:(q0::qs).length<=10000)(K:aL)
 (HK:∀v h',kJ lo h b1 Z (gF d (q0.data.toList::qs.map (·.data.toList))) v h'->K v h'):aG aC 80 #[VP b1 0,t.v] h K:=by
 have lb:=D.V.head.lt
 have ll:=D.lb
 have tn:=eC.len T
 rw[bG,List.length_cons,gL]at tn
 rw[List.length_cons]at hn
 have n1:∀{b2 k:Nat},In [b2] k->k=b2:=fun hk=>by simpa[In]using hk
 have c0:∀{X:Heap},Fr No h X->bF X (t.at 0 1)=some (VS q0):=fun f=>(T.no f).get (i:=0) (by omega) (by simp)
 have tlt:t.n<=t.c:=T.cap
 have T1:∀{X:Heap},Fr No h X->eC S X 1 (t.cut 1 1 t.n t.c) (qs.map VS):=fun f=>by
  have:=eC.cut (T.no f) (l:=1) (m:=t.n) (by omega) (aW _)
  have e:(((q0::qs).map VS).drop (1*1)).take ((t.n-1)*1)=qs.map VS:=by
   simp only[bK,gL,List.drop_succ_cons,qR]
   exact cT (by rw[bG];omega)
  rw[e]at this
  exact this
 refine v80 b1 g w d.2.2 false t h K D.V ⟨fun e=>⟨eC.bM T (by omega) (by simp),fun b2 h1 eN f1 cY=>⟨q0,c0 f1.aM,fun e2=> ?_,fun e2=>jV Uc .i64 (l:=1) (by omega) (by omega) ⟨_,rfl,?_⟩⟩⟩,fun e=>jV Uc .i64 (l:=1) (by omega) (by omega) ⟨_,rfl,fun b2 h1 eN f1 cY=> ?_⟩⟩
 ·have f1:=f1.aM
  have z1:=f1.size
  simp only[aT]at e
  obtain⟨q1,rfl⟩:∃q1,qs=[q1]:=by
   cases qs with
   |nil=>simp at tn;omega
   |cons a l=>cases l with
    |nil=>exact⟨a,rfl⟩
    |cons b l=>simp at tn;omega
  have cc:bF h1 (t.at 1 1)=some (VS q1):=(T.no f1).get (i:=1) (by omega) (by simp)
  unfold gF at HK
  rw[aJ ⟨rfl,fi e2⟩]at HK
  exact⟨eC.bM T (by omega) (by simp),q1,cc,Tp (GL.no f1) (by omega) (D.block f1.aB eN cY.head.lt) (tJ q1 (by simp)) _ fun v gP O=>ny f1.aB eN (L0:=[]) cY (fun p hp=>by simp at hp) cY.head.lt O HK⟩
 all_goals
  have f1:=f1.aM
  have z1:=f1.size
  have Cx:=cY.head.lt
  have ee:gF d (q0.data.toList::qs.map (·.data.toList))=match jn lL (qs.map (·.data.toList))with
   |none=>none
   |some ns=>cW d q0.data.toList ns:=by
   unfold gF
   rw[aF]
   ·rfl
   ·rintro⟨h1,h2⟩
    first
    |exact bR e2 h2
    |(simp only[List.length_cons,bG]at h1;simp only[aY]at e;omega)
  rw[ee]at HK
  refine XK (GL.no f1) (by omega) D.lb (bS (L:=[_]) cY) (T1 f1) hS (fun q hq=>by have:=tJ q (cO _ hq);omega) (by omega) _ (fun hno o h4 V4 f4=> ?_) fun ns hns o h4 o4 f4=> ?_
  ·rw[hno]at HK
   have f4':Fr (fun k=>k=b1) h1 h4:=f4.mono fun k hk h2=>by rcases h2 with h2|h2;exact h2;omega
   refine⟨g,w,d.2.2,true,o,rfl,sW (L:=[]) f4' V4.head cY,fun _ h5 f5 ie=> ?_,fun e=>by cases e⟩
   exact HK _ _ (kJ.JO (b2:=b2) ((f1.aB.trans (f4.mono fun k _ hk=>by omega)).trans (f5.mono fun k _ hk=> .inr (by have:=n1 hk;omega))) (bS (L:=[_]) ie))
  ·rw[hns]at HK
   have jk:=f1.aA f4
   have z4:=f4.size
   have eM:=cY.aB f4
   have D4:=D.block jk.aB eN (by omega:b2<h4.size)
   have GL4:=GL.no jk
   have nr:=JP hns
   have on:o.n=ns.length:=by have:=o4.rd.len;simpa using this.symm
   have Nw:bC o.own h4 o ns:=o4.rd
   have cq:=c0 jk
   have i0:fp t 0:=eC.bM T (by omega) (by simp)
   refine⟨g,w,d.2.2,false,o,rfl,eM,fun e=>(by cases e),fun _=>⟨fun h'=>h'=h4/\cW d q0.data.toList ns=none,⟨fun k0=> ?_,fun k0=>⟨fun k1=> ?_,fun k1=>⟨fun k2=> ?_,fun k2=>⟨fun k4=> ?_,fun k4=> ?_⟩⟩⟩⟩,?_⟩⟩
   ·simp only[aT]at k0
    obtain rfl:ns=[]:=pG (by omega)
    exact⟨i0,q0,cq,Tq GL4 (by omega) D4 ok q0 _ fun v gP O=>ny jk.aB eN (L0:=[]) eM (fun p hp=>by simp at hp) (by omega) O HK⟩
   ·simp only[aT]at k1
    obtain⟨x,rfl⟩:∃x,ns=[x]:=List.length_eq_one_iff.1 (by omega)
    have hx:=nr x (by simp)
    exact⟨i0,q0,cq,Nw.bM (by omega) (by simp),x,Nw.get (i:=0) (by omega) (by simp),adI GL4 (by omega) D4 ok q0 hx _ fun v gP O=>ny jk.aB eN (L0:=[]) eM (fun p hp=>by simp at hp) (by omega) O HK⟩
   ·simp only[aT]at k2
    obtain⟨x,y,rfl⟩:∃x y,ns=[x,y]:=by
     match ns,(show ns.length=2 by omega)with
     |[x,y],_=>exact⟨x,y,rfl⟩
    have hx:=nr x (by simp)
    have hy:=nr y (by simp)
    exact⟨i0,q0,cq,Nw.bM (by omega) (by simp),x,Nw.get (i:=0) (by omega) (by simp),Nw.bM (by omega) (by simp),y,Nw.get (i:=1) (by omega) (by simp),adJ GL4 (by omega) D4 ok q0 hx hy _ fun v gP O=>ny jk.aB eN (L0:=[]) eM (fun p hp=>by simp at hp) (by omega) O HK⟩
   ·simp only[aT]at k4
    obtain⟨x,y,z,u,rfl⟩:∃x y z u,ns=[x,y,z,u]:=by
     match ns,(show ns.length=4 by omega)with
     |[x,y,z,u],_=>exact⟨x,y,z,u,rfl⟩
    refine⟨i0,q0,cq,fun e5=> ?_,fun e5=> ?_⟩
    ·have hw:=fi e5
     unfold cW at HK
     (try simp only at HK)
     rw[aJ (show q0.data.toList=Cv from hw)]at HK
     exact⟨Nw.bM (by omega) (by simp),x,Nw.get (i:=0) (by omega) (by simp),Nw.bM (by omega) (by simp),y,Nw.get (i:=1) (by omega) (by simp),Nw.bM (by omega) (by simp),z,Nw.get (i:=2) (by omega) (by simp),Nw.bM (by omega) (by simp),u,Nw.get (i:=3) (by omega) (by simp),Jx x y z u _ fun iH f12=>⟨_,_,rfl,eM.aB f12,uH GL vQ D (L0:=[]) jk.aB eN eM (agU x y z u) f12 HK⟩⟩
    ·refine⟨rfl,?_⟩
     show(if q0.data.toList=Cv then _ else none)=none
     rw[aF (show¬q0.data.toList=Cv from bR e5)]
   ·simp only[aY]at k0 k1 k2 k4
    refine⟨rfl,?_⟩
    match ns,on with
    |[],on=>simp at on;omega
    |[_],on=>simp at on;omega
    |[_,_],on=>simp at on;omega
    |[_,_,_],_=>rfl
    |[_,_,_,_],on=>simp at on;omega
    |_::_::_::_::_::_,_=>rfl
   ·rintro Vn ⟨rfl,agV⟩ Da KD f17 Vs
    have HK:∀v h',kJ lo h b1 Z (cW d q0.data.toList ns) v h'->K v h':=HK
    rw[agV]at HK
    exact HK _ _ (kJ.JO (b2:=b2) (jk.aB.trans (f17.mono fun k _ hk=>by simp only[In,aO,aR,aN]at hk;omega)) (bS (L:=[_]) Vs))
theorem nz{g:aE}{rs:aH}{p:Int}(W:iT g (rs,p)):fx g rs p=true:=by
 have l:=bA W.cD
 have wl:=W.len
 have w0:=W.lo
 have w1:=W.hi
 simp only at wl w0 w1
 unfold fx
 rw[W.cD,show jq 0 ((g.length:Int)-1) p=true by unfold jq;simp;omega,km wl]
 simp only[fk]
 rw[js]
 rintro⟨l,r⟩ hm
 obtain⟨i,hi,e⟩:=wD hm
 have jM:=hi
 rw[List.length_zip]at jM
 rw[List.getElem_zip]at e
 have:=W.QH i (by show i<rs.length;omega) (by omega)
 simp only[fH]at e
 obtain⟨rfl,rfl⟩:=e
 unfold CP jq
 simp only[bD,aT]
 exact this
theorem Tr{g:aE}(hg:aZ g=true):fx g (List.replicate g.length 0) 0=true:=by
 have gl:=bA hg
 refine nz ⟨hg,by simp,by simp,by show(0:Int)<g.length;omega,fun i h1 h2=> ?_⟩
 simp only[zC]
 omega
theorem Ny{g:aE}{rs:aH}{a b:Int}(W:iT g (rs,a))(h0:0<=b)(h1:b<(g.length:Int)):iT g (rs,b):=⟨W.cD,W.len,h0,h1,W.QH⟩
theorem JQ{g:aE}{rs:aH}{a c:Int}(W:iT g (rs,a)){p:Nat}(h:p<g.length)(c0:0<=c)(c1:c<=max ((g[p].length:Int)-1) 0):iT g (rs.set p c,a):=⟨W.cD,by simpa using W.len,W.lo,W.hi,fun i x y=>by
 have:=W.QH i (by simpa using x) y
 simp only[fR]
 split
 ·subst_vars;exact⟨c0,c1⟩
 ·exact this⟩
theorem Tt{g:aE}{rs:aH}{a p q:Int}(W:iT g (rs,a))(h:(jC g p q).2=true):iT (jC g p q).1 (rs,a):=by
 have hg:=zH h
 unfold jC at h hg⊢
 split at h
 ·rename_i hc
  rw[aJ hc]at hg⊢
  have h:aZ (g.set p.toNat (g.getD p.toNat []++[q]))=true:=h
  have e:mb (g.set p.toNat (g.getD p.toNat []++[q]))=g.set p.toNat (g.getD p.toNat []++[q]):=by unfold mb;rw[aJ h]
  simp only at hg⊢
  rw[e]at hg⊢
  have wl:=W.len
  have w1:=W.hi
  simp only at wl w1
  refine⟨hg,by simpa using wl,W.lo,by simpa using w1,fun i x y=> ?_⟩
  have:=W.QH i x (by simpa using y)
  simp only[fR]
  by_cases e1:p.toNat=i
  ·subst e1
   have hi:p.toNat<g.length:=by simpa using y
   rw[aJ rfl,bH hi,cB,List.length_singleton]
   simp only at this
   omega
  ·rw[aF e1];exact this
 ·cases h
theorem Tu{d:Dk}{r:St×Bool}(hr:PA d.1 r){a:Dk×List UInt8}(h:CH d r=some a):pu a.1:=by
 unfold CH at h
 split at h
 ·rename_i e
  have h:=bI h
  subst h
  exact nz (hr.ok e)
 ·cases h
theorem adK{d:Dk}(ok:pu d){a:Dk×List UInt8}{p:Int}(h:XC d p=some a):pu a.1:=by
 have W:=dN ok
 unfold XC CH at h
 split at h
 ·rename_i e
  have h:=bI h
  subst h
  have:=bT.1 (l8.1 e).2
  exact nz (Ny W this.1 (show p<(d.1.length:Int) by omega))
 ·cases h
theorem Tw{d:Dk}(ok:pu d){a:Dk×List UInt8}{p k:Int}(h:Tk d p k=some a):pu a.1:=by
 have W:=dN ok
 unfold Tk CH at h
 split at h
 ·rename_i e
  have h:=bI h
  subst h
  simp only[bD]at e
  have h1:=bT.1 e.1.2
  have h2:=bT.1 e.2
  have hp:p.toNat<d.1.length:=by omega
  rw[bH hp]at h2
  exact nz (JQ W hp h2.1 (by omega))
 ·cases h
theorem ly{d:Dk}(ok:pu d){c:Bool}{t:List UInt8}{a:Dk×List UInt8}(h:(if c=true then some (d,t)else none)=some a):pu a.1:=by
 split at h
 ·have h:=bI h
  subst h
  exact ok
 ·cases h
theorem Tx{d:Dk}(ok:pu d){w:List UInt8}{a:Dk×List UInt8}(h:iF d w=some (some a)):pu a.1:=by
 unfold iF at h
 split at h
 ·exact Tu (sV _ _ _ _) (bI h)
 split at h
 ·have h:=bI (bI h);subst h;exact ok
 split at h
 ·have h:=bI (bI h);subst h;exact ok
 split at h
 ·exact ly ok (bI h)
 split at h
 ·exact ly ok (bI h)
 ·cases h
theorem adL{d:Dk}(ok:pu d){w:List UInt8}{n:Int}{a:Dk×List UInt8}(h:jt d w n=some (some a)):pu a.1:=by
 unfold jt at h
 split at h
 ·exact adK ok (bI h)
 split at h
 ·exact Tu (sV _ _ _ _) (bI h)
 split at h
 ·exact ly ok (bI h)
 split at h
 ·exact ly ok (bI h)
 split at h
 ·exact ly ok (bI h)
 split at h
 ·exact ly ok (bI h)
 split at h
 ·exact ly ok (bI h)
 ·cases h
theorem adM{d:Dk}(ok:pu d){w:List UInt8}{p q:Int}{a:Dk×List UInt8}(h:vP d w p q=some (some a)):pu a.1:=by
 unfold vP at h
 split at h
 ·have h:=bI h
  unfold XD at h
  split at h
  ·rename_i e
   have h:=bI h
   subst h
   exact nz (Tt (dN ok) e)
  ·cases h
 split at h
 ·exact Tw ok (bI h)
 split at h
 ·exact ly ok (bI h)
 split at h
 ·exact ly ok (bI h)
 ·cases h
theorem vc{d:Dk}(ok:pu d){ws:List (List UInt8)}{a:Dk×List UInt8}(h:gF d ws=some (some a)):pu a.1:=by
 unfold gF at h
 split at h
 ·unfold Ug at h
  split at h
  ·rename_i g e
   have h:=bI (bI h)
   subst h
   exact Tr (vw e).1
  ·cases h
 split at h
 ·cases h
 ·unfold cW at h
  split at h
  ·exact Tx ok h
  ·exact adL ok h
  ·exact adM ok h
  ·split at h
   ·exact ly ok (bI h)
   ·cases h
  ·cases h
theorem JR{d:Dk}(ok:pu d)(s:List UInt8):pu (fO d s).1:=by
 unfold fO JK
 split
 ·exact ok
 ·exact ok
 ·rename_i e
  exact vc ok e
theorem GV{c:UInt8}:∀{l:List UInt8},(0<=Lib.indexByte l c)↔c∈l
 |[]=>by simp[Lib.indexByte]
 |x::l=>by
  have ih:=GV (c:=c) (l:=l)
  have hg:=Lib.indexByte_ge l c
  unfold Lib.indexByte
  by_cases e:x=c
  ·rw[aJ (lx.2 e)];subst e;simp
  ·rw[aF (fun h=>e (lx.1 h)),aO]
   have e':¬c=x:=fun h=>e h.symm
   simp only[e',false_or]
   split
   ·rename_i hm
    have:=lx.1 hm
    rw[<-ih,this]
   ·rename_i hm
    have hm:Lib.indexByte l c≠ -1:=fun h=>hm (lx.2 h)
    rw[<-ih];omega
theorem xX{S S':aK}{h:Heap}{g w:Sl}{d:Dk}(G:cG S h g d.1)(W:bC S' h w d.2.1)(ok:pu d)(K:aL)(HK:∀g' w' m h',h.size<=m/\m<=h'.size->gy h' (Iv h.size m) g' d.1->cH h' (Iv m h'.size) w' d.2.1->Fr No h h'->K (.agg #[g'.v,w'.v,VI d.2.2]) h'):aG aC 79 #[.agg #[g.v,w.v,VI d.2.2]] h K:=by
 have dl:=nX ok
 have gt:d.1.length+wC d.1<=1000000000:=by have:=sG (dN ok).cD;have:=bA (dN ok).cD;omega
 refine v79 g w d.2.2 h K fun b1 b2 h1 fK eN f1 cY=> ?_
 have f1:=f1.aM
 have z1:=f1.size
 have Cx:=cY.head.lt
 refine Ii (G.no f1) gt _ fun t h2 o2 f2=>⟨t,rfl,cY.aB f2,?_⟩
 have z2:=f2.size
 refine jW (eC.no W (f1.aA f2)) d.2.2 (by omega) _ fun u h3 o3 f3=>⟨u,_,rfl,(cY.aB f2).aB f3,fun h4 f4 _=> ?_⟩
 have z3:=f3.size
 have n2:∀{k:Nat},In [b2] k->k=b2:=fun hk=>by simpa[In]using hk
 refine HK t u h2.size h4 (by have:=f4.size;omega) ((dJ.fr (dJ.no o2 f3) f4 fun k _ hk aQ=>by have:=hk.1;have:=n2 aQ;omega).mono fun k _ hk=>⟨by have:=hk.1;omega,hk.2⟩) ((Ow.fr o3 f4 fun k hk aQ=>by have:=(o3.aS hk).1.1;have:=n2 aQ;omega).mono fun k hk hF=>⟨hF.1,by have:=hF.2;have:=f4.size;omega⟩) ?_
 exact((f1.aA f2).aA f3).fresh f4 fun k hk=>by have:=n2 hk;omega
structure XN(n:Nat)(h:Heap)(g w:Sl)(d:Dk)(F F':aK):Prop where
 G:gy h F g d.1
 W:cH h F' w d.2.1
 fl:∀k,F k->n<=k
 wl:∀k,F' k->n<=k
 dj:∀k,F k->¬F' k
theorem XN.no{n:Nat}{h h':Heap}{g w:Sl}{d:Dk}{F F':aK}(D:XN n h g w d F F')(f:Fr No h h'):XN n h' g w d F F':=⟨D.G.no f,Ow.no D.W f,D.fl,D.wl,D.dj⟩
set_option maxHeartbeats 2000000 in
theorem LS{h:Heap}(GL:jG h){S S':aK}{g w:Sl}{d:Dk}(G:cG S h g d.1)(W:bC S' h w d.2.1)(ok:pu d){s:ByteArray}(hs:s.size<=3000)(K:aL)(HK:∀g' w' F F' h',XN h.size h' g' w' (fO d s.data.toList).1 F F'->Fr No h h'->K (.tuple #[.agg #[g'.v,w'.v,VI (fO d s.data.toList).1.2.2],VS ⟨(fO d s.data.toList).2.toArray⟩]) h'):aG aC 44 #[.agg #[g.v,w.v,VI d.2.2],VS s] h K:=by
 refine v44 g w d.2.2 s h K fun b1 b2 h2 fK eN f2 cC=> ?_
 have f2:=f2.aM
 have z2:=f2.size
 have Cx:b2<h2.size:=cC.head.lt
 refine xX (G.no f2) (eC.no W f2) ok _ fun g3 w3 m h3 hm G3 W3 f3=>⟨g3,w3,_,rfl,cC.aB f3,fun b3 h4 jv f4 eM=> ?_⟩
 have f4:=f4.aM
 have z3:=f3.size
 have z4:=f4.size
 have Yd:b3<h4.size:=eM.head.lt
 have jk:=(f2.aA f3).aA f4
 refine Fz (GL.no jk) (by omega) _ fun t ps h5 ti T5 f5=>⟨t,rfl,eM.aB f5,?_⟩
 have z5:=f5.size
 have ta:=jk.aA f5
 have hpl:ps.length=(jy 32 s.data.toList).length:=by rw[<-ti,bG]
 have tJ:s.data.toList.length=s.size:=Array.length_toList
 have hp1:∀q,q∈ps->q.size<=100000:=fun q hq=>by
  have h1:q.data.toList∈jy 32 s.data.toList:=by rw[<-ti];exact List.mem_map_of_mem hq
  have h2:=MT h1
  have h3:q.data.toList.length=q.size:=Array.length_toList
  omega
 have hp2:ps.length<=10000:=by have:=wQ 32 s.data.toList;omega
 obtain⟨q0,qs,rfl⟩:∃q0 qs,ps=q0::qs:=by
  cases ps with
  |nil=>exact absurd ti.symm (Eg 32 _)
  |cons a l=>exact⟨a,l,rfl⟩
 have ie:=eM.aB f5
 have D:qD h.size h5 b3 g3 w3 d false (Iv h2.size m) (Iv m h3.size) (fun k=>k=b3\/k=b2):=by
  exact⟨.cons ie.head (by simp) .nil,(G3.no f4).no f5,Ow.no (Ow.no W3 f4) f5,fun k hk=>⟨by have:=hk.1;omega,fun hx=>by have h1:=hk.1;have h2:=hk.2;rcases hx with rfl|rfl<;>omega⟩,fun k hk=>⟨by have:=hk.1;omega,fun hx=>by have h1:=hk.1;have h2:=hk.2;rcases hx with rfl|rfl<;>omega⟩,fun k h1 h2=>by have:=h1.2;have:=h2.1;omega,by omega,.inl rfl,fun k hk=>by rcases hk with rfl|rfl<;>omega⟩
 refine XM (jg.of GL|>.no ta) (by omega) D ok T5 (fun k hk e=>by have:=hk.1;omega) hp1 hp2 _ fun v h6 O=> ?_
 rw[<-bK (f:=fun q:ByteArray=>q.data.toList),ti]at O
 obtain⟨tx,oo,g6,w6,p6,cw,rfl,V6,f6,M⟩:=O
 have f6b:Fr (fun k=>k=b3) h5 h6:=f6.mono fun k hk h2=>by rcases h2 with h2|h2;exact h2;omega
 have z6:=f6.size
 have jx:=ie.set (i:=0) rfl f6b V6.head
 have AB:Fr No h h6:=ta.fresh f6 fun k hk=>by rcases hk with rfl|hk<;>omega
 have n2:∀{k:Nat},In [b2] k->k=b2:=fun hk=>by simpa[In]using hk
 refine⟨g6,w6,p6,cw,tx,oo,rfl,jx,fun e1=>fun b4 h8 Fb f8 gK=> ?_,fun e1=>⟨fun e2=>fun b4 h8 Fb f8 gK=> ?_,fun e2=>fun b4 uh Fb f13 _=> ?_⟩⟩
 ·have f8:=f8.aM
  have z8:=f8.size
  have Fh:=AB.aA f8
  have e:fO d s.data.toList=(d,[119,104,97,116]):=by
   unfold fO
   generalize gF d (jy 32 s.data.toList)=o at M
   match o,M with
   |none,_=>rfl
   |some none,M=>rw[M.1]at e1;cases e1
   |some (some r),M=>rw[M.1]at e1;cases e1
  rw[e]at HK
  refine xX (G.no Fh) (eC.no W Fh) ok _ fun g9 w9 m9 h9 hm9 G9 W9 f9=>⟨g9,w9,_,rfl,gK.aB f9,fun eW f10 _=>HK _ _ (Iv h8.size m9) (Iv m9 h9.size) _ ⟨G9.fr f10 fun k _ hk aQ=>by have:=hk.1;have:=n2 aQ;omega,Ow.fr W9 f10 fun k hk aQ=>by have:=(W9.aS hk).1.1;have:=n2 aQ;omega,fun k hk=>by have:=hk.1;omega,fun k hk=>by have:=hk.1;omega,fun k h1 h2=>by have:=h1.2;have:=h2.1;omega⟩ ((Fh.aA f9).fresh f10 fun k hk=>by have:=n2 hk;omega)⟩
 ·have f8:=f8.aM
  have z8:=f8.size
  have Fh:=AB.aA f8
  have e:fO d s.data.toList=(d,[110,111]):=by
   unfold fO
   generalize gF d (jy 32 s.data.toList)=o at M
   match o,M with
   |none,M=>rw[show cw=true from M]at e1;cases e1
   |some none,_=>rfl
   |some (some r),M=>rw[M.2.1]at e2;cases e2
  rw[e]at HK
  refine xX (G.no Fh) (eC.no W Fh) ok _ fun g9 w9 m9 h9 hm9 G9 W9 f9=>⟨g9,w9,_,rfl,gK.aB f9,fun eW f10 _=>HK _ _ (Iv h8.size m9) (Iv m9 h9.size) _ ⟨G9.fr f10 fun k _ hk aQ=>by have:=hk.1;have:=n2 aQ;omega,Ow.fr W9 f10 fun k hk aQ=>by have:=(W9.aS hk).1.1;have:=n2 aQ;omega,fun k hk=>by have:=hk.1;omega,fun k hk=>by have:=hk.1;omega,fun k h1 h2=>by have:=h1.2;have:=h2.1;omega⟩ ((Fh.aA f9).fresh f10 fun k hk=>by have:=n2 hk;omega)⟩
 ·obtain⟨r,e,F,F',rfl,rfl,D6⟩:∃r,fO d s.data.toList=r/\∃F F',tx=⟨r.2.toArray⟩/\p6=r.1.2.2/\qD h.size h6 b3 g6 w6 r.1 false F F' (fun k=>k=b3\/k=b2):=by
   unfold fO
   generalize gF d (jy 32 s.data.toList)=o at M
   match o,M with
   |none,M=>rw[show cw=true from M]at e1;cases e1
   |some none,M=>rw[M.2]at e2;cases e2
   |some (some r),M=>
    obtain⟨_,_,m3,m4,F,F',D⟩:=M
    exact⟨r,rfl,F,F',m3,m4,D⟩
  subst e
  exact HK _ _ F F' _ ⟨D6.G.fr f13 fun k _ hk aQ=>(D6.fl k hk).2 (.inr (n2 aQ)),Ow.fr D6.W f13 fun k hk aQ=>(D6.wl k (D6.W.aS hk).1).2 (.inr (n2 aQ)),fun k hk=>(D6.fl k hk).1,fun k hk=>(D6.wl k hk).1,D6.dj⟩ (AB.fresh f13 fun k hk=>by have:=n2 hk;omega)
theorem JS{h:Heap}(s:ByteArray)(c:UInt8):tY aC 43 #[VS s,VS ⟨#[c]⟩] h (VB (decide (c∈s.data.toList))):=by
 intro K HK
 refine⟨fun w hw=> .inr ⟨43,_,w,Go.Proofs.enters_of Tryz.func43 (by kernel_rfl) rfl _ _,rfl,?_⟩⟩
 subst hw
 refine(Tryz.strings_Contains_one s c w).mono ?_
 rintro e w' ⟨rfl,rfl⟩
 refine⟨_,rfl,?_⟩
 rw[vk.2 (GV (c:=c) (l:=s.data.toList))]
 exact⟨⟨rfl,rfl,rfl⟩,HK _ (Fr.refl _ _)⟩
theorem Cz{h:Heap}(GL:jG h){S S':aK}{g w:Sl}{d:Dk}(G:cG S h g d.1)(W:bC S' h w d.2.1)(s:ByteArray)(K:aL)
 (HN:fc d s.data.toList=none->∀h',Fr No h h'->K (.tuple #[.agg #[aD.v,aD.v,VI 0],VS ⟨#[]⟩,VB false]) h')
 (HS:∀r,fc d s.data.toList=some r->∀g' w' F F' h',XN h.size h' g' w' r.1 F F'->Fr No h h'->K (.tuple #[.agg #[g'.v,w'.v,VI r.1.2.2],VS ⟨r.2.toArray⟩,VB true]) h'):aG aC 11 #[.agg #[g.v,w.v,VI d.2.2],VS s] h K:=by
 refine v11 g w d.2.2 s h K fun b1 b2 h2 fK eN f2 cC=> ?_
 have f2:=f2.aM
 have z2:=f2.size
 have Cx:b2<h2.size:=cC.head.lt
 have n2:∀{k:Nat},In [b2] k->k=b2:=fun hk=>by simpa[In]using hk
 have tJ:s.data.toList.length=s.size:=Array.length_toList
 refine Ig (G.no f2) (eC.no W f2) d.2.2 _ fun h3 f3=>⟨_,rfl,cC.aB f3,fun e=>fun gP f11 _=> ?_,fun e=>⟨fun e2=>fun eW f10 _=> ?_,fun e2=> ?_⟩⟩
 ·refine HN ?_ _ ((f2.aA f3).fresh f11 fun k hk=>by have:=n2 hk;omega)
  unfold fc
  rw[aF (fun h=>by rw[h.1]at e;cases e)]
 ·refine HN ?_ _ ((f2.aA f3).fresh f10 fun k hk=>by have:=n2 hk;omega)
  unfold fc
  simp only[aT]at e2
  rw[aF (fun h=>by have:=h.2.1;omega)]
 ·simp only[aY]at e2
  have jm:=f2.aA f3
  have z3:=f3.size
  have ok:pu d:=bQ e
  refine JS s 10 _ fun h4 f4=>⟨_,rfl,(cC.aB f3).aB f4,fun e3=>fun h5 f5 _=> ?_,fun e3=> ?_⟩
  ·refine HN ?_ _ ((jm.aA f4).fresh f5 fun k hk=>by have:=n2 hk;omega)
   unfold fc
   simp only[aT]at e3
   rw[aF (fun h=>h.2.2 e3)]
  ·have jk:=jm.aA f4
   have z4:=f4.size
   simp only[aY]at e3
   refine LS (GL.no jk) (G.no jk) (eC.no W jk) ok (by omega) _ fun g6 w6 F F' h6 D6 f6=>⟨g6,w6,_,_,rfl,((cC.aB f3).aB f4).aB f6,fun b3 h9 jv f9 _=> ?_⟩
   have z6:=f6.size
   refine HS _ ?_ g6 w6 F F' _ ⟨D6.G.fr f9 fun k _ hk aQ=>by have:=D6.fl k hk;have:=n2 aQ;omega,Ow.fr D6.W f9 fun k hk aQ=>by have:=D6.wl k (D6.W.aS hk).1;have:=n2 aQ;omega,fun k hk=>by have:=D6.fl k hk;omega,fun k hk=>by have:=D6.wl k hk;omega,D6.dj⟩ ((jk.aA f6).fresh f9 fun k hk=>by have:=n2 hk;omega)
   unfold fc
   rw[aJ ⟨ok,by omega,e3⟩]
def Ty(l:List UInt8):ByteArray:=⟨l.toArray⟩
theorem Tz{P:Program}{t:TypeId}(ht:P.underlying t=some .string){K:Value->Prop}(k k':IntKind)(s:ByteArray)(i j:Int)(h0:0<=i)(h1:i<=j)(h2:j<=s.size)(H:K (VS (s.extract i.toNat j.toNat))):pop P (Instr.sliceAt t (VS s) (some (.int k i)) (some (.int k' j)) none) K:=
 .mk' (fun w=>by rw[run_sliceAt_string w t _ _ _ _ ht,run_slice_string w t s k k' i j ht h0 h1 h2]) H
theorem XO{P:Program}{t:TypeId}(ht:P.underlying t=some .string){K:Value->Prop}(k:IntKind)(s:ByteArray)(m:Int)(h0:0<=m)(h1:m<=s.size)(H:K (VS (s.extract m.toNat s.size))):pop P (Instr.sliceAt t (VS s) (some (.int k m)) none none) K:=
 .mk' (fun w=>by rw[run_sliceAt_string w t _ _ _ _ ht,run_slice_string_l w t s ht k m h0 h1]) H
theorem TA(s:ByteArray)(i j:Nat):(s.extract i j).data.toList=(s.data.toList.drop i).take (j-i):=by
 rw[ByteArray.data_extract,Array.toList_extract,List.extract_eq_take_drop]
theorem xY{s:ByteArray}{i:Nat}(h:i<s.size)(h':i<s.data.toList.length):s[i]'h=s.data.toList[i]'h':=by
 rw[Array.getElem_toList];rfl
theorem EA{h:Heap}{s:ByteArray}(c:UInt8)(hs:s.size<=100000)(K:aL)(HK:∀(t:Sl)(ps:List ByteArray) h',ps.map (·.data.toList)=jy c s.data.toList->MK h' (fun k=>h.size<=k) t ps->Fr No h h'->K t.v h'):aG aC 46 #[VS s,.int .u8 c.toNat] h K:=by
 have sl:=lU s
 refine v46 s c.toNat h K ?_
 refine⟨fun n out f i h'=>0<=f/\f<=i/\i+n=(s.size:Int)/\(∃ps:List ByteArray,MK h' (fun k=>h.size<=k) out ps/\ps.map (·.data.toList)++jy c (s.data.toList.drop f.toNat)=jy c s.data.toList/\(ps.length:Int)<=f)/\c∉(s.data.toList.drop f.toNat).take (i.toNat-f.toNat)/\Fr (fun k=>h.size<=k) h h',⟨s.size,by omega,by omega,by omega,⟨[],Ow.nil _ _ _ _,rfl,by simp⟩,by simp,Fr.refl _ _⟩,?_⟩
 rintro n out f i h1 ⟨f0,f1,i1,⟨ps,O,hp,pl⟩,hc,F1⟩ _
 have z1:=F1.size
 have put:∀{x:ByteArray}(R:Sl->Heap->Prop),(∀t h',MK h' (fun k=>h.size<=k) t (ps++[x])->Fr (fun k=>h.size<=k) h h'->R t h')->lQ aC (Instr.buildSlice Ub 1 #[(0,VS x)]) h1 fun rv h2=>∃t:Sl,rv=t.v/\Vars h2 []/\lQ aC (cE Ub Ub Ub out.v t.v) h2 fun Fi h3=>∃t2:Sl,Fi=t2.v/\Vars h3 []/\R t2 h3:=fun{x} R HR=>vu O (fun k hk=>by omega) .nil (fun q hq=>by cases hq) (by omega) R fun t h' o f _=>HR t h' o (F1.trans f)
 refine⟨fun e=> ?_,fun e=> ?_⟩
 ·simp only[aT]at e
  have il:i.toNat<s.data.toList.length:=by omega
  have e1:aX (i+1)=i+1:=by rw[aP]<;>omega
  have hd:s.data.toList.drop f.toNat=(s.data.toList.drop f.toNat).take (i.toNat-f.toNat)++s.data.toList[i.toNat]::s.data.toList.drop (i.toNat+1):=by
   have:=List.take_append_drop (i.toNat-f.toNat) (s.data.toList.drop f.toNat)
   rw[List.drop_drop,show f.toNat+(i.toNat-f.toNat)=i.toNat by omega,wg il]at this
   exact this.symm
  rw[e1]
  refine⟨fun agW f' h'=>0<=f'/\f'<=i+1/\(∃ps:List ByteArray,MK h' (fun k=>h.size<=k) agW ps/\ps.map (·.data.toList)++jy c (s.data.toList.drop f'.toNat)=jy c s.data.toList/\(ps.length:Int)<=f')/\c∉(s.data.toList.drop f'.toNat).take ((i+1).toNat-f'.toNat)/\Fr (fun k=>h.size<=k) h h',p5 (by kernel_rfl) _ _ i (by omega) (by omega) ⟨_,rfl,fun e2=> ?_,fun e2=> ?_⟩,?_⟩
  ·simp only[aT]at e2
   rw[xY _ il]at e2
   have e2:s.data.toList[i.toNat]=c:=UInt8.toNat_inj.1 (by omega)
   refine Tz (by kernel_rfl) _ _ s f i f0 f1 (by omega) ⟨_,rfl,put _ fun t h' o F=> ?_⟩
   refine⟨by omega,by omega,⟨_,o,?_,by rw[cB,List.length_singleton];omega⟩,?_,F⟩
   ·rw[hd,e2,KL _ hc]at hp
    rw[cV,bK,iY,TA,gX,show(i+1).toNat=i.toNat+1 by omega]
    exact hp
   ·rw[Nat.sub_self];simp
  ·simp only[aY]at e2
   rw[xY _ il]at e2
   have e2:c≠s.data.toList[i.toNat]:=fun h=>e2 (by rw[<-h])
   refine⟨f0,by omega,⟨ps,O,hp,pl⟩,?_,F1⟩
   rw[show(i+1).toNat-f.toNat=(i.toNat-f.toNat)+1 by omega,wN,gI]
   rintro(hx|hx)
   ·exact hc hx
   ·rw[List.getElem?_drop,show f.toNat+(i.toNat-f.toNat)=i.toNat by omega,dY il]at hx
    simp only[Option.toList_some,eZ]at hx
    exact e2 hx
  ·rintro agW f' h4 ⟨a,b,q,c',F⟩ _
   exact⟨n-1,by omega,a,b,by omega,q,c',F⟩
 ·simp only[aY]at e
  refine XO (by kernel_rfl) _ s f f0 (by omega) ⟨_,rfl,put _ fun t h' o F=> ?_⟩
  refine HK t _ h' ?_ o (F.mono fun k hk h2=>by omega)
  have hx:(s.data.toList.drop f.toNat).take (i.toNat-f.toNat)=s.data.toList.drop f.toNat:=cT (by rw[uV];omega)
  rw[hx]at hc
  rw[Fw hc]at hp
  rw[cV,bK,iY,TA,cT (by rw[uV];omega)]
  exact hp
theorem TB{h:Heap}(s:ByteArray)(K:aL)(HK:∀h',Fr No h h'->K (VI (match pq s.data.toList with|some n=>(n:Int)|none=> -1)) h'):aG aC 124 #[VS s] h K:=by
 have sl:=lU s
 refine v124 s h K ?_
 refine eK _ _ _ _ _ ⟨_,rfl,.nil,fun e=> ?_,fun e=> ?_⟩
 ·have e:jq 1 6 (s.size:Int)=false:=bU e
  have:=HK h (Fr.refl _ _)
  unfold pq at this
  rw[aF (fun hh=>by rw[bT.2 (show(1:Int)<=(s.size:Int)/\(s.size:Int)<=6 by omega)]at e;cases e)]at this
  exact this
 have e:=bT.1 (bQ e)
 have l0:0<s.data.toList.length:=by omega
 have hh:s.data.toList.head?=some s.data.toList[0]:=by
  rw[List.head?_eq_getElem?,dY l0]
 refine p5 (by kernel_rfl) _ _ 0 (by omega) (by show 0<s.size;omega) ⟨_,rfl,fun e2=>⟨fun e3=> ?_,fun e3=> ?_⟩,fun e2=> ?_⟩
 ·simp only[aT]at e2 e3
  have:=HK h (Fr.refl _ _)
  unfold pq at this
  have e4:s[(0:Int).toNat]'(by show 0<s.size;omega)=s.data.toList[0]:=xY (i:=0) (by omega) l0
  rw[e4]at e2
  have h48:s.data.toList.head?=some 48:=by rw[hh];exact congrArg some (UInt8.toNat_inj.1 (by show _=48;omega))
  rw[aF (fun h=>h.2.2 ⟨h48,by omega⟩)]at this
  exact this
 all_goals
  have hr:pq s.data.toList=Lib.decFrom 0 s.data.toList:=by
   unfold pq
   rw[aJ]
   refine⟨by omega,by omega,?_⟩
   rintro⟨h1,h2⟩
   rw[hh]at h1
   have h1:=bI h1
   have e4:s[(0:Int).toNat]'(by show 0<s.size;omega)=s.data.toList[0]:=xY (i:=0) (by omega) l0
   first
   |(simp only[aY]at e3;omega)
   |(simp only[aY]at e2;rw[e4,h1]at e2;exact e2 rfl)
  rw[hr]at HK
  refine⟨fun n x i h'=>0<=i/\i+n=(s.size:Int)/\0<=x/\x<10^i.toNat/\Lib.decFrom 0 s.data.toList=Lib.decFrom x.toNat (s.data.toList.drop i.toNat)/\h=h',⟨s.size,by omega,by omega,by omega,by show(0:Int)<1;omega,rfl,rfl⟩,?_⟩
  rintro n x i _ ⟨i0,i1,x0,x1,hx,rfl⟩ _
  refine⟨fun e5=> ?_,fun e5=> ?_⟩
  ·simp only[aT]at e5
   have il:i.toNat<s.data.toList.length:=by omega
   have ei:=xY (s:=s) (i:=i.toNat) (by omega) il
   rw[wg il,Lib.decFrom]at hx
   have bad:(s.data.toList[i.toNat].toNat<48\/57<s.data.toList[i.toNat].toNat)->K (VI (-1)) h:=fun hb=>by
    have:Lib.digitVal s.data.toList[i.toNat]=none:=by unfold Lib.digitVal;rw[aF (by omega)]
    rw[this]at hx
    simp only at hx
    have:=HK h (Fr.refl _ _)
    rw[hx]at this
    exact this
   refine p5 (by kernel_rfl) _ _ i i0 (by omega) ⟨_,rfl,?_⟩
   rw[ei]
   refine⟨fun e6=>bad (.inl (by simp only[aT]at e6;omega)),fun e6=> ?_⟩
   refine p5 (by kernel_rfl) _ _ i i0 (by omega) ⟨_,rfl,?_⟩
   rw[ei]
   refine⟨fun e7=>bad (.inr (by simp only[aT]at e7;omega)),fun e7=> ?_⟩
   refine p5 (by kernel_rfl) _ _ i i0 (by omega) ⟨_,rfl,?_⟩
   rw[ei]
   simp only[aY]at e6 e7
   have hd:Lib.digitVal s.data.toList[i.toNat]=some (s.data.toList[i.toNat].toNat-48):=by unfold Lib.digitVal;rw[aJ (by omega)]
   rw[hd]at hx
   simp only at hx
   generalize hc:s.data.toList[i.toNat].toNat=c at*
   have w1:IntKind.u8.wrap ((c:Int)-48)=(c:Int)-48:=by show((c:Int)-48)%256=_;omega
   have w2:IntKind.i64.wrap ((c:Int)-48)=(c:Int)-48:=aP _ (by omega) (by omega)
   rw[w1]
   refine jD (show Tryz.prog.underlying _=some (.int .u8)from by kernel_rfl) (show Tryz.prog.underlying _=some (.int .i64)from by kernel_rfl) _ ⟨(c:Int)-48,by rw[w2],n-1,by omega,?_⟩
   have p10:(10:Int)^(i.toNat+1)=10^i.toNat*10:=Int.pow_succ ..
   have pb:(10:Int)^i.toNat<=1000000:=by
    have:=zE (show 10>0 by omega) (show i.toNat<=6 by omega)
    have h2:((10^i.toNat:Nat):Int)<=((10^6:Nat):Int):=by omega
    simpa using h2
   rw[aP (i+1) (by omega) (by omega),aP (10*x) (by omega) (by omega),aP _ (by omega) (by omega)]
   refine⟨by omega,by omega,by omega,?_,?_,rfl⟩
   ·rw[show(i+1).toNat=i.toNat+1 by omega,p10];omega
   ·rw[show(i+1).toNat=i.toNat+1 by omega,hx]
    congr 1
    omega
  ·simp only[aY]at e5
   rw[AZ (by omega)]at hx
   rw[show Lib.decFrom x.toNat []=some x.toNat from rfl]at hx
   have:=HK h (Fr.refl _ _)
   rw[hx]at this
   simp only at this
   rw[show((x.toNat:Nat):Int)=x by omega]at this
   exact this
def XP:List (List UInt8):=[[115,116,101,112],[115,104,111,119],[119,97,108,107],[112,101,114,105,111,100],[99,121,99,108,101]]
def XQ:List (List UInt8):=[[97,116],[114,117,110],[112,97,115,115],[118,105,115,105,116,115],[104,105,116],[116,114,101,101,115],[102,117,108,108]]
def XR:List (List UInt8):=[[97,100,100],[116,117,114,110],[99,104,97,110,99,101],[103,114,111,119]]
def fw(w:List UInt8):List UInt8:=if w∈XP then[]else if w∈XQ then[110]else if w∈XR then[110,110]else if w=Cv then[110,110,110,110]else if w=C9 then[103]else[63]
def fM:List UInt8->List (List UInt8)->aE->aH->Option (aE×aH)
 |[],[],g,ns=>some (g,ns)
 |c::cs,w::ws,g,ns=>if c=110 then(match pq w with|none=>none|some n=>fM cs ws g (ns++[(n:Int)]))else if c=103 then(match rG w with|none=>none|some g'=>fM cs ws g' ns)else none
 |_,_,_,_=>none
def J4(ws:List (List UInt8)):Option (aE×aH):=if(fw (ws.headD [])).length+1=ws.length then fM (fw (ws.headD [])) ws.tail [] []else none
theorem Pk(w:List UInt8):(fw w).length<=4:=by
 unfold fw
 repeat' split
 all_goals simp
theorem Nz{s:ByteArray}{l:List UInt8}:(s.toList==(⟨l.toArray⟩:ByteArray).toList)=decide (s.data.toList=l):=by
 rw[uu]
set_option maxHeartbeats 2000000 in
theorem Pl{h:Heap}(w:ByteArray):tY aC 123 #[VS w] h (VS (Ty (fw w.data.toList))):=by
 intro K HK
 have HK:=HK h (Fr.refl _ _)
 refine aiL w h K ?_
 have mA:w.data.toList∈XP↔w.data.toList=[115,116,101,112]\/w.data.toList=[115,104,111,119]\/w.data.toList=[119,97,108,107]\/w.data.toList=[112,101,114,105,111,100]\/w.data.toList=[99,121,99,108,101]:=by simp only[XP,aO,aR,aN]
 have mB:w.data.toList∈XQ↔w.data.toList=[97,116]\/w.data.toList=[114,117,110]\/w.data.toList=[112,97,115,115]\/w.data.toList=[118,105,115,105,116,115]\/w.data.toList=[104,105,116]\/w.data.toList=[116,114,101,101,115]\/w.data.toList=[102,117,108,108]:=by simp only[XQ,aO,aR,aN]
 have mC:w.data.toList∈XR↔w.data.toList=[97,100,100]\/w.data.toList=[116,117,114,110]\/w.data.toList=[99,104,97,110,99,101]\/w.data.toList=[103,114,111,119]:=by simp only[XR,aO,aR,aN]
 refine⟨fun x h'=>h=h'/\(x=true↔w.data.toList∈XP),?_,?_⟩
 ·rw[mA]
  simp only[Nz]
  refine⟨fun e=>⟨by trivial,?_⟩,fun e=>⟨fun e2=>⟨by trivial,?_⟩,fun e2=>⟨fun e3=>⟨by trivial,?_⟩,fun e3=>⟨fun e4=>⟨by trivial,?_⟩,fun e4=>⟨by trivial,?_⟩⟩⟩⟩⟩
  all_goals (simp only[aT,aY]at*;simp[*])
 rintro x _ ⟨rfl,hx⟩ _
 unfold fw at HK
 refine⟨fun e=> ?_,fun e=> ?_⟩
 ·rw[aJ (hx.1 e)]at HK;exact HK
 rw[aF (fun h=>by rw[hx.2 h]at e;cases e)]at HK
 refine⟨fun x h'=>h=h'/\(x=true↔w.data.toList∈XQ),?_,?_⟩
 ·rw[mB]
  simp only[Nz]
  refine⟨fun e=>⟨by trivial,?_⟩,fun e=>⟨fun e2=>⟨by trivial,?_⟩,fun e2=>⟨fun e3=>⟨by trivial,?_⟩,fun e3=>⟨fun e4=>⟨by trivial,?_⟩,fun e4=>⟨fun e5=>⟨by trivial,?_⟩,fun e5=>⟨fun e6=>⟨by trivial,?_⟩,fun e6=>⟨by trivial,?_⟩⟩⟩⟩⟩⟩⟩
  all_goals (simp only[aT,aY]at*;simp[*])
 rintro x2 _ ⟨rfl,hx2⟩ _
 refine⟨fun e=> ?_,fun e=> ?_⟩
 ·rw[aJ (hx2.1 e)]at HK;exact HK
 rw[aF (fun h=>by rw[hx2.2 h]at e;cases e)]at HK
 refine⟨fun x h'=>h=h'/\(x=true↔w.data.toList∈XR),?_,?_⟩
 ·rw[mC]
  simp only[Nz]
  refine⟨fun e=>⟨by trivial,?_⟩,fun e=>⟨fun e2=>⟨by trivial,?_⟩,fun e2=>⟨fun e3=>⟨by trivial,?_⟩,fun e3=>⟨by trivial,?_⟩⟩⟩⟩
  all_goals (simp only[aT,aY]at*;simp[*])
 rintro x3 _ ⟨rfl,hx3⟩ _
 refine⟨fun e=> ?_,fun e=>⟨fun e2=> ?_,fun e2=>⟨fun e3=> ?_,fun e3=> ?_⟩⟩⟩
 ·rw[aJ (hx3.1 e)]at HK;exact HK
 all_goals rw[aF (fun h=>by rw[hx3.2 h]at e;cases e)]at HK
 ·rw[aJ (show w.data.toList=Cv from fi e2)]at HK;exact HK
 ·rw[aF (show¬w.data.toList=Cv from bR e2),aJ (show w.data.toList=C9 from fi e3)]at HK;exact HK
 ·rw[aF (show¬w.data.toList=Cv from bR e2),aF (show¬w.data.toList=C9 from bR e3)]at HK;exact HK
set_option maxHeartbeats 2000000 in
theorem TC{h:Heap}(d1 d2:Sl)(d3:Int){s:ByteArray}(hs:s.size<=3000)(K:aL)
 (HN:J4 (jy 32 s.data.toList)=none->∀(w:ByteArray)(x1 x2:Sl)(x3:Int)(x4 x5:Sl) h',Fr No h h'->K (.tuple #[VS w,.agg #[x1.v,x2.v,VI x3,x4.v,x5.v],VB false]) h')
 (HS:∀r,J4 (jy 32 s.data.toList)=some r->∀(w:ByteArray)(x4 x5:Sl)(S4 S5:aK) h',w.data.toList=(jy 32 s.data.toList).headD []->cG S4 h' x4 r.1->bC S5 h' x5 r.2->(∀k,S4 k\/S5 k->h.size<=k)->Fr No h h'->K (.tuple #[VS w,.agg #[d1.v,d2.v,VI d3,x4.v,x5.v],VB true]) h'):
 aG aC 84 #[.agg #[d1.v,d2.v,VI d3],VS s] h K:=by
 refine v84 d1 d2 d3 s h K fun b1 b2 b3 h4 fK eN jv f4 eM=> ?_
 have f4:=f4.aM
 have z4:=f4.size
 have Yd:b3<h4.size:=eM.head.lt
 have Cx:b2<h4.size:=eM.tail.head.lt
 have n2:∀{k:Nat},In [b2] k->k=b2:=fun hk=>by simpa[In]using hk
 have n3:∀{k:Nat},In [b3] k->k=b3:=fun hk=>by simpa[In]using hk
 refine EA 32 (by omega) _ fun t ps h5 ti T5 f5=>⟨t,rfl,eM.aB f5,?_⟩
 have z5:=f5.size
 have ta:=f4.aA f5
 have T5:=T5.fM.lt
 have hpl:ps.length=(jy 32 s.data.toList).length:=by rw[<-ti,bG]
 obtain⟨q0,qs,rfl⟩:∃q0 qs,ps=q0::qs:=by
  cases ps with
  |nil=>exact absurd ti.symm (Eg 32 _)
  |cons a l=>exact⟨a,l,rfl⟩
 have tn:=T5.len
 rw[bG,List.length_cons,gL]at tn
 have NA:=T5.get (i:=0) (by omega) (by simp)
 refine⟨eC.bM T5 (by omega) (by simp),q0,NA,Pl q0 _ fun h6 f6=>⟨_,rfl,(eM.aB f5).aB f6,?_⟩⟩
 have z6:=f6.size
 have AB:=ta.aA f6
 have jx:=(eM.aB f5).aB f6
 have hb:=Pk q0.data.toList
 have hR:J4 (jy 32 s.data.toList)=if(fw q0.data.toList).length=qs.length then fM (fw q0.data.toList) (qs.map (·.data.toList)) [] []else none:=by
  rw[<-ti]
  unfold J4
  simp only[bK,List.headD_cons,List.length_cons,bG,List.tail_cons,Nat.add_right_cancel_iff]
 have hhd:(jy 32 s.data.toList).headD []=q0.data.toList:=by rw[<-ti];rfl
 have ql:qs.length<=3001:=by have:=wQ 32 s.data.toList;have:=lU s;rw[List.length_cons]at hpl;omega
 have e0:aX ((t.n:Int)-1)=(qs.length:Int):=by rw[aP]<;>omega
 have tJ:(Ty (fw q0.data.toList)).size=(fw q0.data.toList).length:=cU _
 rw[e0,tJ]
 refine⟨fun e=>fun h7 f7 _=> ?_,fun e=> ?_⟩
 ·refine HN ?_ _ _ _ _ _ _ _ (AB.fresh f7 fun k hk=>by have:=n2 hk;omega)
  simp only[gV,aY]at e
  rw[hR,aF (by omega)]
 have e:=bQ e
 simp only[aT]at e
 have e:(fw q0.data.toList).length=qs.length:=by omega
 rw[aJ e]at hR
 have tc:t.n<=t.c:=T5.cap
 refine jV Uc .i64 (l:=1) (by omega) (by omega) ⟨_,rfl,?_⟩
 have T6:eC (fun k=>h4.size<=k/\k<h5.size) h6 1 (t.cut 1 1 t.n t.c) (qs.map VS):=by
  have:=eC.cut (T5.no f6) (l:=1) (m:=t.n) (by omega) (aW _)
  have e:(((q0::qs).map VS).drop (1*1)).take ((t.n-1)*1)=qs.map VS:=by
   simp only[bK,gL,List.drop_succ_cons,qR]
   exact cT (by rw[bG];omega)
  rw[e]at this
  exact this
 rw[show(1:Int).toNat=1 from rfl]
 have T5b:=T5.no f6
 generalize t.cut 1 1 t.n t.c=t8 at T6
 have tn8:=T6.len
 rw[bG,gL]at tn8
 obtain⟨R,hRe⟩:∃R,R=J4 (jy 32 s.data.toList):=⟨_,rfl⟩
 rw[<-hRe]at hR HN HS
 refine⟨fun n i x1 x2 x3 x4 x5 h'=>0<=i/\i+n=(qs.length:Int)/\x1=d1/\x2=d2/\x3=d3/\(∃g ns S4 F5,cG S4 h' x4 g/\cH h' F5 x5 ns/\(∀k,F5 k->h6.size<=k/\¬S4 k)/\(∀k,S4 k\/F5 k->h6.size<=k/\k<h'.size)/\ns.length<=i.toNat/\R=fM ((fw q0.data.toList).drop i.toNat) ((qs.map (·.data.toList)).drop i.toNat) g ns)/\Fr (fun k=>k=b3\/h6.size<=k) h6 h',⟨qs.length,by omega,by omega,rfl,rfl,rfl,⟨[],[],No,No,((dJ.nil h6 No qx tI).rd.mono fun k hk=>hk.1),Ow.nil _ _ _ _,fun k hk=>hk.elim,fun k hk=>by rcases hk with hk|hk<;>exact hk.elim,by simp,hR⟩,Fr.refl _ _⟩,?_⟩
 rintro n i x1 x2 x3 x4 x5 h8 ⟨i0,i1,rfl,rfl,rfl,⟨g,ns,S4,F5,G,N,w1,w2,nl,hr⟩,F8⟩ gK
 have z8:=F8.size
 have F08:Fr No h h8:=AB.fresh F8 fun k hk=>by rcases hk with rfl|hk<;>omega
 refine⟨fun e6=> ?_,fun e6=> ?_⟩
 ·simp only[aT]at e6
  have il:i.toNat<qs.length:=by omega
  have il2:i.toNat<(fw q0.data.toList).length:=by omega
  have T8:=T6.fr F8 fun k hk aQ=>by rcases aQ with rfl|aQ<;>omega
  have hc:=T8.get (i:=i) i0 (by simp;omega)
  rw[cK]at hc
  have eI:aX (i+1)=i+1:=by rw[aP]<;>omega
  have eT:(i+1).toNat=i.toNat+1:=by omega
  have ZT:=xY (s:=Ty (fw q0.data.toList)) (i:=i.toNat) (by omega) (by rw[show(Ty (fw q0.data.toList)).data.toList=fw q0.data.toList from rfl];omega)
  have ZT:(Ty (fw q0.data.toList))[i.toNat]'(by omega)=(fw q0.data.toList)[i.toNat]:=ZT
  rw[wg il2,wg (show i.toNat<(qs.map (·.data.toList)).length by simp;omega),cK,fM]at hr
  generalize hcv:(fw q0.data.toList)[i.toNat]=c at hr ZT
  generalize hqv:qs[i.toNat]=q at hr hc
  refine⟨eC.bM T8 i0 (by simp;omega),q,hc,?_⟩
  refine⟨fun ok y1 y2 y3 y4 y5 h'=>y1=x1/\y2=x2/\y3=x3/\Fr (fun k=>k=b3\/h6.size<=k) h6 h'/\(ok=false->R=none)/\(ok=true->∃g ns S4 F5,cG S4 h' y4 g/\cH h' F5 y5 ns/\(∀k,F5 k->h6.size<=k/\¬S4 k)/\(∀k,S4 k\/F5 k->h6.size<=k/\k<h'.size)/\ns.length<=i.toNat+1/\R=fM ((fw q0.data.toList).drop (i.toNat+1)) ((qs.map (·.data.toList)).drop (i.toNat+1)) g ns),p5 (by kernel_rfl) _ _ i i0 (by omega) ⟨_,rfl,?_⟩,?_⟩
  ·rw[ZT]
   refine⟨fun e7=> ?_,fun e7=>⟨fun e8=> ?_,fun e8=> ?_⟩⟩
   ·simp only[aT]at e7
    have e7:c=110:=UInt8.toNat_inj.1 (by show c.toNat=110;omega)
    rw[aJ e7]at hr
    refine TB q _ fun h9 f9=>⟨_,rfl,gK.aB f9,?_⟩
    have z9:=f9.size
    refine mX (F:=fun k=>F5 k\/h9.size<=k) (Ow.mono (Ow.no N f9) fun k _ hk=> .inl hk) (fun k hk=> .inr hk) (gK.aB f9) (fun p hp hk=> ?_) (by omega) _ fun t5 gP kp f11 fJ iH f12 _=> ?_
    ·have:p.1<h4.size:=by
      simp only[aO,aR,aN]at hp
      rcases hp with rfl|rfl|rfl
      ·exact Yd
      ·exact Cx
      ·exact eM.tail.tail.head.lt
     rcases hk with hk|hk
     ·have:=(w1 _ hk).1;omega
     ·omega
    have Pu:=f11.size
    have z12:=f12.size
    refine⟨rfl,rfl,rfl,((F8.trans f9.aB).trans (f11.mono fun k _ hk=>by rcases hk with hk|hk;exact .inr (w1 _ hk).1;exact .inr (by omega))).trans (f12.mono fun k _ hk=> .inl (n3 hk)),fun e8=> ?_,fun e8=> ?_⟩
    ·simp only[aY]at e8
     cases YL:pq q.data.toList with
     |none=>rw[YL]at hr;exact hr
     |some m=>rw[YL]at e8;exact absurd (Int.natCast_nonneg m) e8
    ·simp only[aT]at e8
     cases YL:pq q.data.toList with
     |none=>rw[YL]at e8;exact absurd e8 (by decide)
     |some m=>
      rw[YL]at hr kp
      refine⟨g,ns++[(m:Int)],S4,fun k=>(F5 k\/h9.size<=k)/\k<iH.size,?_,?_,fun k hk=> ?_,fun k hk=> ?_,by rw[cB,List.length_singleton];omega,hr⟩
      ·refine((G.no f9).fr f11 fun k hk aQ=> ?_).fr f12 fun k hk aQ=> ?_
       ·rcases aQ with aQ|aQ
        ·exact(w1 _ aQ).2 hk
        ·have:=(w2 _ (.inl hk)).2;omega
       ·have:=(w2 _ (.inl hk)).1;have:=n3 aQ;omega
      ·exact Ow.mono (Ow.fr kp f12 fun k hk aQ=>by
        have h1:=(kp.aS hk).1
        have:=n3 aQ
        rcases h1 with h1|h1
        ·have:=(w1 _ h1).1;omega
        ·omega) fun k hk hF=>⟨hF,fQ (kp.aS hk).2 z12⟩
      ·rcases hk.1 with hk|hk
       ·exact w1 _ hk
       ·exact⟨by omega,fun hx=>by have:=(w2 _ (.inl hx)).2;omega⟩
      ·rcases hk with hk|⟨hk,jP⟩
       ·have:=w2 _ (.inl hk);omega
       ·rcases hk with hk|hk
        ·have:=w2 _ (.inr hk);omega
        ·omega
   ·simp only[aT,aY]at e7 e8
    have e7:¬c=110:=fun h=>e7 (by rw[h];rfl)
    have e8:c=103:=UInt8.toNat_inj.1 (by show c.toNat=103;omega)
    rw[aF e7,aJ e8]at hr
    refine OI _ fun t4 uh KU f13=>⟨_,_,rfl,gK.aB f13,fun TY f14 _=> ?_⟩
    have z13:=f13.size
    have z14:=f14.size
    refine⟨rfl,rfl,rfl,(F8.trans f13.aB).trans (f14.mono fun k _ hk=> .inl (n3 hk)),fun e9=> ?_,fun e9=> ?_⟩
    ·unfold tj at e9
     split at e9
     ·cases e9
     ·rename_i hp
      rw[hp]at hr
      exact hr
    ·unfold tj at e9 KU
     split at e9
     ·rename_i g' hp
      rw[hp]at hr KU
      refine⟨g',ns,Iv h8.size uh.size,F5,(KU.fr f14 fun k _ hk aQ=>by have:=hk.1;have:=n3 aQ;omega).rd.mono fun k hk=>hk.1,Ow.fr (Ow.no N f13) f14 fun k hk aQ=> ?_,fun k hk=>⟨(w1 _ hk).1,fun hx=> ?_⟩,fun k hk=> ?_,by omega,hr⟩
      ·have:=(w1 _ (N.aS hk).1).1;have:=n3 aQ;omega
      ·have:=(w2 _ (.inr hk)).2;have:=hx.1;omega
      ·rcases hk with hk|hk
       ·have:=hk.1;have:=hk.2;omega
       ·have:=w2 _ (.inr hk);omega
     ·cases e9
   ·simp only[aY]at e7 e8
    have e7:¬c=110:=fun h=>e7 (by rw[h];rfl)
    have e8:¬c=103:=fun h=>e8 (by rw[h];rfl)
    rw[aF e7,aF e8]at hr
    exact⟨rfl,rfl,rfl,F8,fun _=>hr,fun e=>by cases e⟩
  ·rintro ok y1 y2 y3 y4 y5 Vn ⟨rfl,rfl,rfl,F15,k1,k2⟩ _
   refine⟨fun e9=>fun Ov f16 _=> ?_,fun e9=> ?_⟩
   ·exact HN (k1 (bU e9)) _ _ _ _ _ _ _ ((AB.fresh F15 fun k hk=>by rcases hk with rfl|hk<;>omega).fresh f16 fun k hk=>by have:=n2 hk;omega)
   ·rw[eI]
    refine⟨n-1,by omega,by omega,by omega,rfl,rfl,rfl,?_,F15⟩
    rw[eT]
    exact k2 (bQ e9)
 ·simp only[aY]at e6
  have T8:=(T5b.fr F8 fun k hk aQ=>by rcases aQ with rfl|aQ<;>omega)
  have hc:=T8.get (i:=0) (by omega) (by simp)
  rw[AZ (by omega),AZ (by simp;omega)]at hr
  refine⟨eC.bM T8 (by omega) (by simp),q0,hc,fun KD f17 _=> ?_⟩
  have z17:=f17.size
  refine HS _ hr q0 x4 x5 S4 (fun k=>F5 k/\k<h8.size) KD hhd.symm (G.fr f17 fun k hk aQ=> ?_) ((Ow.fr N f17 fun k hk aQ=> ?_).fM.mono fun k hk=>⟨hk,(w2 _ (.inr hk)).2⟩) (fun k hk=> ?_) (F08.fresh f17 fun k hk=>by have:=n2 hk;omega)
  ·have:=(w2 _ (.inl hk)).1;have:=n2 aQ;omega
  ·have:=(w1 _ (N.aS hk).1).1;have:=n2 aQ;omega
  ·rcases hk with hk|hk
   ·have:=(w2 _ (.inl hk)).1;omega
   ·have:=(w2 _ (.inr hk.1)).1;omega
def NB(Z:aK)(h:Heap)(g w:Sl)(d:Dk):Prop:=∃S S',cG S h g d.1/\bC S' h w d.2.1/\(∀k,S k\/S' k->¬Z k/\k<h.size)
theorem NB.of{Z S S':aK}{h:Heap}{g w:Sl}{d:Dk}(G:cG S h g d.1)(W:bC S' h w d.2.1)(hS:∀k,S k\/S' k->k<h.size->¬Z k):NB Z h g w d:=⟨fun k=>S k/\k<h.size,fun k=>S' k/\k<h.size,G.yG,eC.lt W,fun k hk=>by
 rcases hk with hk|hk
 ·exact⟨hS k (.inl hk.1) hk.2,hk.2⟩
 ·exact⟨hS k (.inr hk.1) hk.2,hk.2⟩⟩
theorem NB.fr{Z T:aK}{h h':Heap}{g w:Sl}{d:Dk}(D:NB Z h g w d)(f:Fr T h h')(hT:∀k,T k->Z k\/h.size<=k):NB Z h' g w d:=by
 obtain⟨S,S',G,W,q⟩:=D
 have key:∀k,S k\/S' k->¬T k:=fun k hk h2=>by
  have:=q k hk
  rcases hT k h2 with h3|h3
  ·exact this.1 h3
  ·omega
 exact⟨S,S',G.fr f fun k hk=>key k (.inl hk),bC.fr W f fun k hk=>key k (.inr hk),fun k hk=>⟨(q k hk).1,fQ (q k hk).2 f.size⟩⟩
def noR:List UInt8:=[110,111]
def tD(d:Dk)(a:sT):Dk×List UInt8:=JK d (some a)
theorem CA{h:Heap}{b1:Nat}{g w x4 x5 w1:Sl}{p0 p1:Int}{aI:aE}{rs:aH}{S S':aK}{ok:Bool}(V:Vars h [(b1,[g.v,w.v,VI p0,x4.v,x5.v])])(G:cG S h g aI)(W:bC S' h w1 rs)(hS:∀k,S k\/S' k->k≠b1)(K:aL)
 (HN:(ok&&fx aI rs p1)=false->∀h',Fr No h h'->K (VS ⟨noR.toArray⟩) h')
 (HS:ok=true->fx aI rs p1=true->∀h',Vars h' [(b1,[g.v,w1.v,VI p1,x4.v,x5.v])]->Fr (fun k=>k=b1) h h'->K (VS ⟨(kM (rs,p1)).toArray⟩) h'):aG aC 127 #[VP b1 0,.agg #[w1.v,VI p1],VB ok] h K:=by
 have lb:=V.head.lt
 refine v127 b1 g w p0 x4 x5 w1 p1 ok h K V ⟨fun e=>fun b2 h1 eN f1 _=> ?_,fun e=>fun b2 h1 eN f1 cY=> ?_⟩
 ·exact HN (by rw[bU e];rfl) _ f1.aM
 have f1:=f1.aM
 have e:=bQ e
 refine fW (G.no f1) (bC.no W f1) p1 _ fun h2 f2=>⟨_,rfl,cY.aB f2,fun e2=> ?_,fun e2=>fun h3 f3 dI=> ?_⟩
 ·exact HN (by rw[bU e2,sO]) _ (f1.aA f2)
 have e2:=bQ e2
 have n1:∀{k:Nat},In [b1] k->k=b1:=fun hk=>by simpa[In]using hk
 have ws:=iJ (dN e2)
 have KA:=f1.aA f2
 have W3:=bC.fr (bC.no W KA) f3 fun k hk aQ=>hS k (.inr hk) (n1 aQ)
 refine JN W3 (by have:=ws.2;simp only at this;omega) (fun x hx=>by have:=ws.1 x hx;omega) (by have:=ws.2.2.2;simp only at this;omega) _ fun h4 f4=>⟨_,rfl,dI.aB f4,?_⟩
 exact HS e e2 _ (bS (L:=[_]) (dI.aB f4)) ((KA.aB.trans (f3.mono fun k _ hk=>n1 hk)).trans f4.aB)
def yV(d:Dk)(w:List UInt8)(g4:aE)(ns:aH)(a:sT):Prop:=
 (w=C9/\aZ g4=true/\a=some ((g4,(List.replicate g4.length 0,0)),lP g4))\/(w=[97,100,100]/\∃p q:Int,ns=[p,q]/\a=XD d p q)\/(w=[97,116]/\∃n:Int,0<=n/\ns=[n]/\a=XC d n)\/(w=[116,117,114,110]/\∃p k:Int,0<=p/\0<=k/\ns=[p,k]/\a=Tk d p k)\/(w=[115,116,101,112]/\a=stC d)\/(w=[114,117,110]/\∃n:Int,ns=[n]/\a=rnC d n)
set_option maxHeartbeats 4000000 in
theorem XS{h:Heap}{Z:aK}(hZ:∀k,Z k->k<h.size){b1:Nat}(zb:Z b1){g w x4 x5:Sl}{d:Dk}(V:Vars h [(b1,[g.v,w.v,VI d.2.2,x4.v,x5.v])])(D:NB Z h g w d)(ok:pu d){g4:aE}{ns:aH}{S4 S5:aK}(G4:cG S4 h x4 g4)(N5:bC S5 h x5 ns)(h45:∀k,S4 k\/S5 k->¬Z k){s:ByteArray}{a:sT}(M:yV d s.data.toList g4 ns a)(K:aL)
 (HK:∀(y1 y2 y4 y5:Sl) h',NB Z h' y1 y2 (tD d a).1->Vars h' [(b1,[y1.v,y2.v,VI (tD d a).1.2.2,y4.v,y5.v])]->Fr (fun k=>k=b1\/h.size<=k) h h'->K (VS ⟨(tD d a).2.toArray⟩) h'):aG aC 85 #[VP b1 0,VS s] h K:=by
 have lb:=V.head.lt
 have dl:=nX ok
 have WK:=dN ok
 have wl:d.2.1.length=d.1.length:=WK.len
 have n1:∀{b k:Nat},In [b] k->k=b:=fun hk=>by simpa[In]using hk
 refine v85 b1 g w d.2.2 x4 x5 s h K V ?_
 refine⟨fun c2 y1 c3 y2 y3 h'=>g=y1/\w=y2/\d.2.2=y3/\Fr (fun k=>h.size<=k) h h',⟨fun c4 h1 hc4 f1 _ c5 h2 hc5 f2 _ h3 f3 _ h4 f4 _=>⟨rfl,rfl,rfl,?_⟩,fun c6 h1 hc6 f1 _ c7 h2 hc7 f2 _ h3 f3 _ h4 f4 _=>⟨rfl,rfl,rfl,?_⟩⟩,?_⟩
 ·have:=f1.size
  exact(((f1.aM.aB).trans f2.aM.aB).trans (f3.mono fun k _ hk=>by have:=n1 hk;omega)).trans (f4.mono fun k _ hk=>by have:=n1 hk;omega)
 ·have:=f1.size
  exact(((f1.aM.aB).trans f2.aM.aB).trans (f3.mono fun k _ hk=>by have:=n1 hk;omega)).trans (f4.mono fun k _ hk=>by have:=n1 hk;omega)
 rintro c2 _ c3 _ _ h9 ⟨rfl,rfl,rfl,F9⟩ iG
 have z9:=F9.size
 have D9:=D.fr F9 fun k hk=> .inr hk
 have G9:=G4.yG.fr F9 fun k hk aQ=>by have:=hk.2;omega
 have N9:=bC.fr (eC.lt N5) F9 fun k hk aQ=>by have:=hk.2;omega
 have keep:∀{h':Heap},Fr No h9 h'->(tD d a)=(d,noR)->K (VS ⟨noR.toArray⟩) h':=fun f e=>by
  have:=HK _ _ x4 x5 _ (by rw[e];exact D9.fr f fun k hk=>hk.elim) (by rw[e];exact bS (L:=[_,_]) (iG.aB f)) ((F9.mono fun k _ hk=> .inr hk).trans f.aB)
  rw[e]at this
  exact this
 have wd:∀{X:Heap}{t:Sl}{r:St×Bool}{S:aK},PA d.1 r->bC S X t r.1.1->(∀k,S k->k≠b1/\¬Z k)->Fr No h9 X->a=CH d r->aG aC 127 #[VP b1 0,.agg #[t.v,VI r.1.2],VB r.2] X fun rv Hb=>∃x6:Sl,∃x7:Sl,∃x8:Int,∃x9:Sl,∃QM:Sl,∃t84:ByteArray,rv=VS t84/\Vars Hb [(c3,[w.v,VI d.2.2]),(c2,[g.v]),(b1,[x6.v,x7.v,VI x8,x9.v,QM.v])]/\K (VS t84) Hb:=fun{X t r S} B T hS fX ea=>by
  obtain⟨Sg,Sw,G,W,q⟩:=D9.fr fX fun k hk=>hk.elim
  refine CA (bS (L:=[_,_]) (iG.aB fX)) G T (fun k hk=>by
   rcases hk with hk|hk
   ·exact fun e=>(q k (.inl hk)).1 (e▸zb)
   ·exact(hS k hk).1) _ (fun e h' f'=> ?_) fun e1 e2 h' V' f'=> ?_
  ·refine⟨g,w,d.2.2,x4,x5,_,rfl,(iG.aB fX).aB f',keep (fX.aA f') ?_⟩
   have:r.2=false:=by
    cases hr:r.2 with
    |false=>rfl
    |true=>rw[hr,fk]at e;rw[nz (B.ok hr)]at e;cases e
   rw[ea,CH,aF (by rw[this];exact qf)]
   rfl
  ·have e:tD d a=((d.1,r.1),kM r.1):=by rw[ea,CH,aJ e1];rfl
   refine⟨g,t,r.1.2,x4,x5,_,rfl,(iG.aB fX).set (i:=2) rfl f' V'.head,?_⟩
   have:=HK g t x4 x5 h' (by
    rw[e]
    exact NB.of (G.fr f' fun k hk aQ=>(q k (.inl hk)).1 (aQ▸zb)) (bC.fr T f' fun k hk aQ=>(hS k hk).1 aQ) fun k hk _=>by
     rcases hk with hk|hk
     ·exact(q k (.inl hk)).1
     ·exact(hS k hk).2) (by rw[e];exact V') ((F9.mono fun k _ hk=> .inr hk).trans (fX.aB.trans (f'.mono fun k _ hk=> .inl hk)))
   rw[e]at this
   exact this
 have frs:∀{X:Heap}{S:aK},(∀k,S k->h9.size<=k)->∀k,S k->k≠b1/\¬Z k:=fun hS k hk=>by
  have:=hS k hk
  exact⟨by omega,fun hz=>by have:=hZ k hz;omega⟩
 refine⟨fun e=> ?_,fun e=>⟨fun e2=> ?_,fun e2=>⟨fun e3=> ?_,fun e3=>⟨fun e4=> ?_,fun e4=>⟨fun e5=> ?_,fun e5=> ?_⟩⟩⟩⟩⟩
 ·rcases M with⟨hw,M⟩|⟨hw,M⟩|⟨hw,M⟩|⟨hw,M⟩|⟨hw,M⟩|⟨hw,M⟩
  all_goals first|exact absurd (hw.symm.trans (fi e)) (by decide)|skip
  obtain⟨hg,ea⟩:=M
  have e0:tD d a=((g4,(List.replicate g4.length 0,0)),lP g4):=by rw[ea];rfl
  have gl:=bA hg
  have gn:=G9.len
  refine fC gD (fun k=>h9.size<=k) (fun _ h=>h) .i64 .i64 x4.n x4.n (aW _) (by omega) fun t eW TR c10 kW f10 m10 _=>⟨t,rfl,iG.aB f10,fun gP f11 fJ=> ?_⟩
  have AF:=f10.size
  have Oq:cH eW (fun k=>h9.size<=k) t (List.replicate g4.length 0):=by show Ow _ _ _ _ _ _;rw[gn]at kW;simpa using kW
  have hz:∀k,(S4 k/\k<h.size)->k≠b1:=fun k hk e=>h45 k (.inl hk.1) (e▸zb)
  have LO:=(G9.no f10).fr f11 fun k hk aQ=>hz k hk (n1 aQ)
  have T11:=Ow.fr Oq f11 fun k hk aQ=>by have:=(Oq.aS hk).1;have:=n1 aQ;omega
  refine rH LO (jX hg) _ fun iH f12=>⟨_,rfl,fJ.aB f12,?_⟩
  have:=HK x4 t x4 x5 iH (by
   rw[e0]
   exact NB.of (LO.no f12) (bC.no T11.fM f12) fun k hk _=>by
    rcases hk with hk|hk
    ·exact h45 k (.inl hk.1)
    ·exact fun hz=>by have:=hZ k hz;omega) (by rw[e0];exact bS (L:=[_,_]) (fJ.aB f12)) ((((F9.mono fun k _ hk=> .inr hk).trans f10.aB).trans (f11.mono fun k _ hk=> .inl (n1 hk))).trans f12.aB)
  rw[e0]at this
  exact this
 ·rcases M with⟨hw,M⟩|⟨hw,M⟩|⟨hw,M⟩|⟨hw,M⟩|⟨hw,M⟩|⟨hw,M⟩
  all_goals first|exact absurd (hw.symm.trans (fi e2)) (by decide)|skip
  obtain⟨p,q,rfl,ea⟩:=M
  have NA:bF h9 (x5.at 0 1)=some (VI p):=N9.get (i:=0) (by omega) (by simp)
  have hc1:bF h9 (x5.at 1 1)=some (VI q):=N9.get (i:=1) (by omega) (by simp)
  obtain⟨Sg,Sw,G,W,qq⟩:=D9
  refine⟨fun bb c8 t h'=>bb=(jC d.1 p q).2/\gy h' (fun k=>h9.size<=k) t (jC d.1 p q).1/\Fr (fun k=>h9.size<=k) h9 h',⟨N9.bM (by omega) (by simp),p,NA,N9.bM (by omega) (by simp),q,hc1,?_,?_⟩,?_⟩
  ·refine ra G p q _ fun t uh KU f13=>⟨t,_,rfl,iG.aB f13,fun c9 Vn _ f15 _=>⟨rfl,(KU.no f15.aM).mono fun k _ hk=>hk.1,(f13.aA f15.aM).aB⟩⟩
  ·intro c10 Ov aof f16 nD
   have f16:=f16.aM
   have ZF:=f16.size
   refine⟨dG hc1 f16 fun h=>h,dG NA f16 fun h=>h,ra (G.no f16) p q _ fun t KD o17 f17=>⟨t,_,rfl,nD.aB f17,fun Yf f18 _=>⟨rfl,?_,?_⟩⟩⟩
   ·have l10:=nD.head.lt
    exact(o17.fr f18 fun k _ hk aQ=>by have:=hk.1;have:=n1 aQ;omega).mono fun k _ hk=>by have:=hk.1;omega
   ·exact(f16.aA f17).aB.trans (f18.mono fun k _ hk=>by have:=n1 hk;omega)
  ·rintro _ c8 t Fm ⟨rfl,T19,YF⟩ uk
   have z19:=YF.size
   refine⟨fun e9=> ?_,fun e9 Q4 f20 Fo=> ?_⟩
   ·have e0:tD d a=(d,noR):=by rw[ea,XD,aF (by rw[bU e9];exact qf)];rfl
    have:=HK g w x4 x5 Fm (by rw[e0];exact NB.fr ⟨Sg,Sw,G,W,qq⟩ YF fun k hk=> .inr hk) (by rw[e0];exact bS (L:=[_,_,_]) uk) ((F9.mono fun k _ hk=> .inr hk).trans (YF.mono fun k _ hk=> .inr (by omega)))
    rw[e0]at this
    exact this
   ·have hb:=bQ e9
    have e0:tD d a=(((jC d.1 p q).1,d.2),lP (jC d.1 p q).1):=by rw[ea,XD,aJ hb];rfl
    have T20:=T19.fr f20 fun k _ hk aQ=>by have:=n1 aQ;omega
    have W20:=bC.fr (bC.fr W YF fun k hk aQ=>by have:=(qq k (.inr hk)).2;omega) f20 fun k hk aQ=>(qq k (.inr hk)).1 (n1 aQ▸zb)
    refine rH T20.rd (jX (zH hb)) _ fun TZ f21=>⟨_,rfl,Fo.aB f21,?_⟩
    have:=HK t w x4 x5 TZ (by
     rw[e0]
     exact NB.of (T20.rd.no f21) (bC.no W20 f21) fun k hk _=>by
      rcases hk with hk|hk
      ·exact fun hz=>by have:=hZ k hz;have:=hk.1;omega
      ·exact(qq k (.inr hk)).1) (by rw[e0];exact bS (L:=[_,_,_]) (Fo.aB f21)) ((((F9.mono fun k _ hk=> .inr hk).trans (YF.mono fun k _ hk=> .inr (by omega))).trans (f20.mono fun k _ hk=> .inl (n1 hk))).trans f21.aB)
    rw[e0]at this
    exact this
 ·rcases M with⟨hw,M⟩|⟨hw,M⟩|⟨hw,M⟩|⟨hw,M⟩|⟨hw,M⟩|⟨hw,M⟩
  all_goals first|exact absurd (hw.symm.trans (fi e3)) (by decide)|skip
  obtain⟨n,n0,rfl,ea⟩:=M
  have NA:bF h9 (x5.at 0 1)=some (VI n):=N9.get (i:=0) (by omega) (by simp)
  obtain⟨Sg,Sw,G,W,qq⟩:=D9
  refine⟨N9.bM (by omega) (by simp),n,NA,?_⟩
  by_cases hb:(aZ d.1&&jq 0 ((d.1.length:Int)-1) n)=true
  ·have hn:=bT.1 (l8.1 hb).2
   have B:=PA.of (Ny WK n0 (show n<(d.1.length:Int) by omega)) true
   exact wd (t:=w) (r:=((d.2.1,n),true)) B W (fun k hk=>⟨fun e=>(qq k (.inr hk)).1 (e▸zb),(qq k (.inr hk)).1⟩) (Fr.refl _ _) (by rw[ea,XC,hb])
  ·refine CA (bS (L:=[_,_]) iG) G W (fun k hk e=>(qq k hk).1 (e▸zb)) _ (fun _ h' f'=>⟨g,w,d.2.2,x4,x5,_,rfl,iG.aB f',keep f' (by rw[ea,XC,CH,aF hb];rfl)⟩) fun _ e2=>absurd ?_ hb
   have W2:=dN e2
   have h1:=W2.lo
   have h2:=W2.hi
   simp only at h1 h2
   rw[W2.cD,fk]
   exact bT.2 ⟨h1,by omega⟩
 ·rcases M with⟨hw,M⟩|⟨hw,M⟩|⟨hw,M⟩|⟨hw,M⟩|⟨hw,M⟩|⟨hw,M⟩
  all_goals first|exact absurd (hw.symm.trans (fi e4)) (by decide)|skip
  obtain⟨p,k,p0,k0,rfl,ea⟩:=M
  have NA:bF h9 (x5.at 0 1)=some (VI p):=N9.get (i:=0) (by omega) (by simp)
  have hc1:bF h9 (x5.at 1 1)=some (VI k):=N9.get (i:=1) (by omega) (by simp)
  obtain⟨Sg,Sw,G,W,qq⟩:=D9
  refine⟨N9.bM (by omega) (by simp),p,NA,dZ G p _ fun RP f23=>⟨_,rfl,iG.aB f23,fun e9=>keep f23 ?_,fun e9=> ?_⟩⟩
  ·rw[ea,Tk,CH,aF (by rw[bU e9,gJ];exact qf)];rfl
  have e9:=bQ e9
  have hp:=bT.1 (l8.1 e9).2
  have N23:=N9.no f23
  obtain⟨si,c1,r1⟩:=(G.no f23).get (i:=p) p0 (by omega)
  have rn:=r1.len
  have eg:d.1.getD p.toNat []=d.1[p.toNat]'(by omega):=bH (by omega)
  refine⟨N23.bM (by omega) (by simp),k,dG hc1 f23 fun h=>h,N23.bM (by omega) (by simp),p,dG NA f23 fun h=>h,(G.no f23).bM p0 (by omega),si,c1,fun e10=>keep f23 ?_,fun e10=> ?_⟩
  ·simp only[aT]at e10
   rw[ea,Tk,CH,aF (fun hh=>by have:=bT.1 (l8.1 hh).2;rw[eg]at this;omega)];rfl
  simp only[aY]at e10
  refine nP (bC.no W f23) (by omega) _ fun t UM o24 f24=>⟨t,rfl,(iG.aB f23).aB f24,?_⟩
  have f0:=f23.aA f24
  have N24:=N23.no f24
  have z23:=f23.size
  have z24:=f24.size
  refine⟨N24.bM (by omega) (by simp),p,N24.get (i:=0) (by omega) (by simp),N24.bM (by omega) (by simp),k,N24.get (i:=1) (by omega) (by simp),?_⟩
  refine gQ o24 p0 (by omega) (iG.aB f0) (fun q hq hk=> ?_) _ fun CS O25 F25 Il=> ?_
  ·have h1:=hk.1
   have:q.1<h9.size:=by
    simp only[aO,aR,aN]at hq
    rcases hq with rfl|rfl|rfl
    ·exact iG.head.lt
    ·exact iG.tail.head.lt
    ·exact iG.tail.tail.head.lt
   omega
  have z25:=F25.size
  have agY:Fr (fun k=>h9.size<=k) h9 CS:=f0.aB.trans (F25.mono fun k _ hk=>by have:=hk.1;omega)
  have Qn:(aZ d.1&&jq 0 ((d.1.length:Int)-1) p&&jq 0 (((d.1.getD p.toNat []).length:Int)-1) k)=true:=by
   rw[e9,fk,eg]
   exact bT.2 ⟨k0,by omega⟩
  have WO:iT d.1 (d.2.1.set p.toNat k,d.2.2):=JQ WK (by omega) k0 (by omega)
  have e0:tD d a=((d.1,(d.2.1.set p.toNat k,d.2.2)),kM (d.2.1.set p.toNat k,d.2.2)):=by rw[ea,Tk,CH,aJ Qn];rfl
  have G25:=G.fr agY fun k hk aQ=>by have:=(qq k (.inl hk)).2;omega
  refine CA (bS (L:=[_,_]) Il) G25 O25.fM (fun k hk e=> ?_) _ (fun e h' f'=> ?_) fun _ _ h' V' f'=> ?_
  ·rcases hk with hk|hk
   ·exact(qq k (.inl hk)).1 (e▸zb)
   ·have:=hk.1;omega
  ·rw[nz WO]at e
   cases e
  ·refine⟨g,t,d.2.2,x4,x5,_,rfl,Il.set (i:=2) rfl f' V'.head,?_⟩
   have:=HK g t x4 x5 h' (by
    rw[e0]
    refine NB.of (G25.fr f' fun k hk aQ=>(qq k (.inl hk)).1 (aQ▸zb)) (Ow.fM (Ow.fr O25 f' fun k hk aQ=>by have:=(O25.aS hk).1.1;omega)) fun k hk _=> ?_
    rcases hk with hk|hk
    ·exact(qq k (.inl hk)).1
    ·exact fun hz=>by have:=hZ k hz;have:=hk.1;omega) (by rw[e0];exact V') (((F9.mono fun k _ hk=> .inr hk).trans (agY.mono fun k _ hk=> .inr (by omega))).trans (f'.mono fun k _ hk=> .inl hk))
   rw[e0]at this
   exact this
 ·rcases M with⟨hw,M⟩|⟨hw,M⟩|⟨hw,M⟩|⟨hw,M⟩|⟨hw,M⟩|⟨hw,M⟩
  all_goals first|exact absurd (hw.symm.trans (fi e5)) (by decide)|skip
  obtain⟨Sg,Sw,G,W,qq⟩:=D9
  exact CR G W d.2.2 _ fun t TT QN f27=>⟨t,_,_,rfl,iG.aB f27,wd (sV _ _ _ _) QN.fM (frs (X:=TT) fun k hk=>hk.1) f27 M⟩
 ·rcases M with⟨hw,M⟩|⟨hw,M⟩|⟨hw,M⟩|⟨hw,M⟩|⟨hw,M⟩|⟨hw,M⟩
  all_goals first|exact absurd hw (bR e)|exact absurd hw (bR e2)|exact absurd hw (bR e3)|exact absurd hw (bR e4)|exact absurd hw (bR e5)|skip
  obtain⟨n,rfl,ea⟩:=M
  have NA:bF h9 (x5.at 0 1)=some (VI n):=N9.get (i:=0) (by omega) (by simp)
  obtain⟨Sg,Sw,G,W,qq⟩:=D9
  exact⟨N9.bM (by omega) (by simp),n,NA,Fg G W d.2.2 n _ fun t TT QN f27=>⟨t,_,_,rfl,iG.aB f27,wd (sV _ _ _ _) QN.fM (frs (X:=TT) fun k hk=>hk.1) f27 ea⟩⟩
def pt(d:Dk)(w:List UInt8)(ns:aH)(a:sT):Prop:=
 (w=[115,104,111,119]/\a=some (d,lP d.1))\/(w=[119,97,108,107]/\a=some (d,kM d.2))\/(w=[112,97,115,115]/\∃n:Int,ns=[n]/\a=psC d n)\/(w=[118,105,115,105,116,115]/\∃n:Int,ns=[n]/\a=vsC d n)\/(w=[104,105,116]/\∃n:Int,ns=[n]/\a=htC d n)\/(w=[112,101,114,105,111,100]/\a=prC d)\/(w=[116,114,101,101,115]/\∃n:Int,ns=[n]/\a=tsC d n)\/(w=[99,121,99,108,101]/\a=cyC d)\/(w=[99,104,97,110,99,101]/\∃p q:Int,ns=[p,q]/\a=chC d p q)\/(w=[102,117,108,108]/\∃n:Int,ns=[n]/\a=flC d n)\/(w=Cv/\∃p q r s:Int,ns=[p,q,r,s]/\a=esC d p q r s)\/(w=[103,114,111,119]/\∃p q:Int,ns=[p,q]/\a=gwC d p q)
theorem kF(d:Dk){c:Prop} [Decidable c](t:List UInt8):tD d (if c then some (d,t)else none)=(d,if c then t else noR):=by
 by_cases h:c
 ·rw[aJ h,aJ h];rfl
 ·rw[aF h,aF h];rfl
theorem XT{d:Dk}{w:List UInt8}{ns:aH}{a:sT}(M:pt d w ns a):(tD d a).1=d:=by
 rcases M with⟨_,rfl⟩|⟨_,rfl⟩|⟨_,n,_,rfl⟩|⟨_,n,_,rfl⟩|⟨_,n,_,rfl⟩|⟨_,rfl⟩|⟨_,n,_,rfl⟩|⟨_,rfl⟩|⟨_,p,q,_,rfl⟩|⟨_,n,_,rfl⟩|⟨_,p,q,r,s,_,rfl⟩|⟨_,p,q,_,rfl⟩
 ·rfl
 ·rfl
 ·exact congrArg Prod.fst (kF d _)
 ·exact congrArg Prod.fst (kF d _)
 ·exact congrArg Prod.fst (kF d _)
 ·exact congrArg Prod.fst (kF d _)
 ·exact congrArg Prod.fst (kF d _)
 ·exact congrArg Prod.fst (kF d _)
 ·exact congrArg Prod.fst (kF d _)
 ·exact congrArg Prod.fst (kF d _)
 ·exact congrArg Prod.fst (kF d _)
 ·exact congrArg Prod.fst (kF d _)
theorem sX{d:Dk}{X h9:Heap}{L:List (Nat×List Value)}(hL:Vars X L){t:Sl}{S:aK}{r:aH×Bool}(B:LQ r)(H:bC S X t r.1)(fX:Fr No h9 X){K:aL}(HK:∀h',Fr No h9 h'->K (VS ⟨(tD d (Tj d r)).2.toArray⟩) h'):aG aC 131 #[t.v,VB r.2] X fun rv h'=>∃t':ByteArray,rv=VS t'/\Vars h' L/\K (VS t') h':=by
 refine Tl (fun _=>H) (fun _=>B.b) (fun _=>B.n) _ fun h' f'=>⟨_,rfl,hL.aB f',?_⟩
 have:=HK h' (fX.aA f')
 rw[Tj,kF]at this
 exact this
theorem LU{d:Dk}{X h9:Heap}{L:List (Nat×List Value)}(hL:Vars X L){r:Int×Bool}(B:NtB r)(fX:Fr No h9 X){K:aL}(HK:∀h',Fr No h9 h'->K (VS ⟨(tD d (YC d r)).2.toArray⟩) h'):aG aC 134 #[VI r.1,VB r.2] X fun rv h'=>∃t':ByteArray,rv=VS t'/\Vars h' L/\K (VS t') h':=by
 refine LP (fun _=>B) _ fun h' f'=>⟨_,rfl,hL.aB f',?_⟩
 have:=HK h' (fX.aA f')
 rw[YC,kF]at this
 exact this
set_option maxHeartbeats 4000000 in
theorem XU{h:Heap}{b1:Nat}{g w x4 x5:Sl}{d:Dk}{S S' S5:aK}(V:Vars h [(b1,[g.v,w.v,VI d.2.2,x4.v,x5.v])])(G:cG S h g d.1)(W:bC S' h w d.2.1)(ok:pu d){ns:aH}(N5:bC S5 h x5 ns){s:ByteArray}{a:sT}(M:pt d s.data.toList ns a)(K:aL)
 (HK:∀h',Fr No h h'->K (VS ⟨(tD d a).2.toArray⟩) h'):aG aC 86 #[VP b1 0,VS s] h K:=by
 have dl:=nX ok
 have WK:=dN ok
 have ws:=iJ WK
 simp only at ws
 have n1:∀{b k:Nat},In [b] k->k=b:=fun hk=>by simpa[In]using hk
 refine v86 b1 g w d.2.2 x4 x5 s h K V ?_
 refine⟨fun c2 y1 c3 y2 y3 h'=>g=y1/\w=y2/\d.2.2=y3/\Fr (fun k=>h.size<=k) h h',⟨fun c4 h1 hc4 f1 _ c5 h2 hc5 f2 _ h3 f3 _ h4 f4 _=>⟨rfl,rfl,rfl,?_⟩,fun c6 h1 hc6 f1 _ c7 h2 hc7 f2 _ h3 f3 _ h4 f4 _=>⟨rfl,rfl,rfl,?_⟩⟩,?_⟩
 ·have:=f1.size
  exact(((f1.aM.aB).trans f2.aM.aB).trans (f3.mono fun k _ hk=>by have:=n1 hk;omega)).trans (f4.mono fun k _ hk=>by have:=n1 hk;omega)
 ·have:=f1.size
  exact(((f1.aM.aB).trans f2.aM.aB).trans (f3.mono fun k _ hk=>by have:=n1 hk;omega)).trans (f4.mono fun k _ hk=>by have:=n1 hk;omega)
 rintro c2 _ c3 _ _ h9 ⟨rfl,rfl,rfl,F9⟩ hL
 have F9:Fr No h h9:=F9.mono fun k hk aQ=>by omega
 have G:=G.no F9
 have W:=bC.no W F9
 have N:=bC.no N5 F9
 have HK:∀h',Fr No h9 h'->K (VS ⟨(tD d a).2.toArray⟩) h':=fun h' f=>HK h' (F9.aA f)
 clear F9 N5 V
 refine⟨fun e=> ?_,fun e=>⟨fun e2=> ?_,fun e2=>⟨fun e3=> ?_,fun e3=>⟨fun e4=> ?_,fun e4=>⟨fun e5=> ?_,fun e5=>⟨fun e6=> ?_,fun e6=>⟨fun e7=> ?_,fun e7=>⟨fun e8=> ?_,fun e8=>⟨fun e9=> ?_,fun e9=>⟨fun e10=> ?_,fun e10=>⟨fun Yc=> ?_,fun Yc=> ?_⟩⟩⟩⟩⟩⟩⟩⟩⟩⟩⟩
 ·rcases M with⟨hw,M⟩|⟨hw,M⟩|⟨hw,M⟩|⟨hw,M⟩|⟨hw,M⟩|⟨hw,M⟩|⟨hw,M⟩|⟨hw,M⟩|⟨hw,M⟩|⟨hw,M⟩|⟨hw,M⟩|⟨hw,M⟩
  all_goals first|exact absurd (hw.symm.trans (fi e)) (by decide)|skip
  subst M
  exact rH G (jX WK.cD) _ fun h' f=>⟨_,rfl,hL.aB f,HK h' f⟩
 ·rcases M with⟨hw,M⟩|⟨hw,M⟩|⟨hw,M⟩|⟨hw,M⟩|⟨hw,M⟩|⟨hw,M⟩|⟨hw,M⟩|⟨hw,M⟩|⟨hw,M⟩|⟨hw,M⟩|⟨hw,M⟩|⟨hw,M⟩
  all_goals first|exact absurd (hw.symm.trans (fi e2)) (by decide)|skip
  subst M
  exact JN W (by omega) (fun x hx=>by have:=ws.1 x hx;omega) (by omega) _ fun h' f=>⟨_,rfl,hL.aB f,HK h' f⟩
 ·rcases M with⟨hw,M⟩|⟨hw,M⟩|⟨hw,M⟩|⟨hw,M⟩|⟨hw,M⟩|⟨hw,M⟩|⟨hw,M⟩|⟨hw,M⟩|⟨hw,M⟩|⟨hw,M⟩|⟨hw,M⟩|⟨hw,M⟩
  all_goals first|exact absurd (hw.symm.trans (fi e3)) (by decide)|skip
  obtain⟨n,rfl,rfl⟩:=M
  exact⟨N.bM (by omega) (by simp),n,N.get (i:=0) (by omega) (by simp),tg G W d.2.2 n _ fun t X T f=>⟨t,_,rfl,hL.aB f,sX (hL.aB f) (agN _ _ _ _) T f HK⟩⟩
 ·rcases M with⟨hw,M⟩|⟨hw,M⟩|⟨hw,M⟩|⟨hw,M⟩|⟨hw,M⟩|⟨hw,M⟩|⟨hw,M⟩|⟨hw,M⟩|⟨hw,M⟩|⟨hw,M⟩|⟨hw,M⟩|⟨hw,M⟩
  all_goals first|exact absurd (hw.symm.trans (fi e4)) (by decide)|skip
  obtain⟨n,rfl,rfl⟩:=M
  exact⟨N.bM (by omega) (by simp),n,N.get (i:=0) (by omega) (by simp),yM G W d.2.2 n _ fun t X T f=>⟨t,_,rfl,hL.aB f,sX (hL.aB f) (agO _ _ _ _) T f HK⟩⟩
 ·rcases M with⟨hw,M⟩|⟨hw,M⟩|⟨hw,M⟩|⟨hw,M⟩|⟨hw,M⟩|⟨hw,M⟩|⟨hw,M⟩|⟨hw,M⟩|⟨hw,M⟩|⟨hw,M⟩|⟨hw,M⟩|⟨hw,M⟩
  all_goals first|exact absurd (hw.symm.trans (fi e5)) (by decide)|skip
  obtain⟨n,rfl,rfl⟩:=M
  exact⟨N.bM (by omega) (by simp),n,N.get (i:=0) (by omega) (by simp),AD G W d.2.2 n _ fun X f=>⟨_,_,rfl,hL.aB f,LU (hL.aB f) (agP _ _ _ _) f HK⟩⟩
 ·rcases M with⟨hw,M⟩|⟨hw,M⟩|⟨hw,M⟩|⟨hw,M⟩|⟨hw,M⟩|⟨hw,M⟩|⟨hw,M⟩|⟨hw,M⟩|⟨hw,M⟩|⟨hw,M⟩|⟨hw,M⟩|⟨hw,M⟩
  all_goals first|exact absurd (hw.symm.trans (fi e6)) (by decide)|skip
  subst M
  refine yS G W d.2.2 _ fun X f=>⟨_,_,_,rfl,hL.aB f,?_⟩
  refine bE gD (fun k=>X.size<=k) (fun _ h=>h) 2 (by omega) [VI _,VI _] rfl rfl fun t Y n2 c2 o2 f2 m2 _=>⟨t,rfl,(hL.aB f).aB f2,?_⟩
  have pb:=YE d.1 d.2.1 d.2.2
  have Zn:cH Y (fun k=>X.size<=k) t [(fD d.1 d.2.1 d.2.2).1,(fD d.1 d.2.1 d.2.2).2.1]:=o2
  refine sX (r:=([(fD d.1 d.2.1 d.2.2).1,(fD d.1 d.2.1 d.2.2).2.1],(fD d.1 d.2.1 d.2.2).2.2)) ((hL.aB f).aB f2) ⟨fun x hx=> ?_,by simp,fun _=>by simp⟩ Zn.rd (f.aA f2) HK
  simp only[aO,aR,aN]at hx
  rcases hx with rfl|rfl<;>omega
 ·rcases M with⟨hw,M⟩|⟨hw,M⟩|⟨hw,M⟩|⟨hw,M⟩|⟨hw,M⟩|⟨hw,M⟩|⟨hw,M⟩|⟨hw,M⟩|⟨hw,M⟩|⟨hw,M⟩|⟨hw,M⟩|⟨hw,M⟩
  all_goals first|exact absurd (hw.symm.trans (fi e7)) (by decide)|skip
  obtain⟨n,rfl,rfl⟩:=M
  exact⟨N.bM (by omega) (by simp),n,N.get (i:=0) (by omega) (by simp),vI G n _ fun X f=>⟨_,_,rfl,hL.aB f,LU (hL.aB f) (agQ _ _) f HK⟩⟩
 ·rcases M with⟨hw,M⟩|⟨hw,M⟩|⟨hw,M⟩|⟨hw,M⟩|⟨hw,M⟩|⟨hw,M⟩|⟨hw,M⟩|⟨hw,M⟩|⟨hw,M⟩|⟨hw,M⟩|⟨hw,M⟩|⟨hw,M⟩
  all_goals first|exact absurd (hw.symm.trans (fi e8)) (by decide)|skip
  subst M
  exact xL G W d.2.2 _ fun t X T f=>⟨t,_,rfl,hL.aB f,sX (hL.aB f) (agM _ _ _) T f HK⟩
 ·rcases M with⟨hw,M⟩|⟨hw,M⟩|⟨hw,M⟩|⟨hw,M⟩|⟨hw,M⟩|⟨hw,M⟩|⟨hw,M⟩|⟨hw,M⟩|⟨hw,M⟩|⟨hw,M⟩|⟨hw,M⟩|⟨hw,M⟩
  all_goals first|exact absurd (hw.symm.trans (fi e9)) (by decide)|skip
  obtain⟨p,q,rfl,rfl⟩:=M
  have NA:bF h9 (x5.at 0 1)=some (VI p):=N.get (i:=0) (by omega) (by simp)
  have hc1:bF h9 (x5.at 1 1)=some (VI q):=N.get (i:=1) (by omega) (by simp)
  refine⟨fun bb c8 u v h'=>bb=(uM d.1 d.2.2 p q).2/\u=(uM d.1 d.2.2 p q).1.1/\v=(uM d.1 d.2.2 p q).1.2/\Fr No h9 h',⟨N.bM (by omega) (by simp),p,NA,N.bM (by omega) (by simp),q,hc1,?_,?_⟩,?_⟩
  ·exact pg G d.2.2 p q _ fun X f=>⟨_,_,_,rfl,hL.aB f,fun c9 Vn _ f15 _=>⟨rfl,rfl,rfl,f.aA f15.aM⟩⟩
  ·intro c10 Ov aof f16 nD
   have f16:=f16.aM
   have ZF:=f16.size
   exact⟨dG hc1 f16 fun h=>h,dG NA f16 fun h=>h,pg (G.no f16) d.2.2 p q _ fun X f=>⟨_,_,_,rfl,nD.aB f,fun Yf f18 _=>⟨rfl,rfl,rfl,(f16.aA f).fresh f18 fun k hk=>by have:=n1 hk;omega⟩⟩⟩
  ·rintro _ c8 _ _ Fm ⟨rfl,rfl,rfl,YF⟩ uk
   have cb:=agS d.1 d.2.2 p q
   refine⟨fun e9=> ?_,fun e9=> ?_⟩
   ·have:=HK Fm YF
    rw[chC,kF,aF (by rw[bU e9];exact qf)]at this
    exact this
   ·have HK:∀h',Fr No h9 h'->K (VS ⟨(Lib.itoa (uM d.1 d.2.2 p q).1.1++47::Lib.itoa (uM d.1 d.2.2 p q).1.2).toArray⟩) h':=fun h' f=>by
     have:=HK h' f
     rw[chC,kF,aJ (bQ e9)]at this
     exact this
    generalize (uM d.1 d.2.2 p q).1.1=u at HK cb uk⊢
    generalize (uM d.1 d.2.2 p q).1.2=v at HK cb uk⊢
    obtain⟨u,rfl⟩:∃m:Nat,u=(m:Int):=⟨u.toNat,by omega⟩
    obtain⟨v,rfl⟩:∃m:Nat,v=(m:Int):=⟨v.toNat,by omega⟩
    have dl1:=(iE 18 u (by omega)).2
    have dl2:=(iE 18 v (by omega)).2
    refine jT u (by omega) _ fun Q4 f20=>⟨_,rfl,uk.aB f20,by rw[cU];show _+1<=_;omega,jT v (by omega) _ fun TZ f21=>⟨_,rfl,(uk.aB f20).aB f21,?_,?_⟩⟩
    ·rw[show(⟨#[47]⟩:ByteArray)=⟨[47].toArray⟩from rfl,fV,cU,cU,cB];show _+1+_<=_;omega
    ·rw[show(⟨#[47]⟩:ByteArray)=⟨[47].toArray⟩from rfl,fV,fV]
     have:=HK TZ ((YF.aA f20).aA f21)
     rw[Lib.itoa_nonneg,Lib.itoa_nonneg]at this
     simpa using this
 ·rcases M with⟨hw,M⟩|⟨hw,M⟩|⟨hw,M⟩|⟨hw,M⟩|⟨hw,M⟩|⟨hw,M⟩|⟨hw,M⟩|⟨hw,M⟩|⟨hw,M⟩|⟨hw,M⟩|⟨hw,M⟩|⟨hw,M⟩
  all_goals first|exact absurd (hw.symm.trans (fi e10)) (by decide)|skip
  obtain⟨n,rfl,rfl⟩:=M
  exact⟨N.bM (by omega) (by simp),n,N.get (i:=0) (by omega) (by simp),yT G n _ fun t X T f=>⟨t,_,rfl,hL.aB f,sX (hL.aB f) (agR _ _) T.rd f HK⟩⟩
 ·rcases M with⟨hw,M⟩|⟨hw,M⟩|⟨hw,M⟩|⟨hw,M⟩|⟨hw,M⟩|⟨hw,M⟩|⟨hw,M⟩|⟨hw,M⟩|⟨hw,M⟩|⟨hw,M⟩|⟨hw,M⟩|⟨hw,M⟩
  all_goals first|exact absurd (hw.symm.trans (fi Yc)) (by decide)|skip
  obtain⟨p,q,r,u,rfl,rfl⟩:=M
  exact⟨N.bM (by omega) (by simp),p,N.get (i:=0) (by omega) (by simp),N.bM (by omega) (by simp),q,N.get (i:=1) (by omega) (by simp),N.bM (by omega) (by simp),r,N.get (i:=2) (by omega) (by simp),N.bM (by omega) (by simp),u,N.get (i:=3) (by omega) (by simp),xR p q r u _ fun X f=>⟨_,_,rfl,hL.aB f,LU (hL.aB f) (agU _ _ _ _) f HK⟩⟩
 ·rcases M with⟨hw,M⟩|⟨hw,M⟩|⟨hw,M⟩|⟨hw,M⟩|⟨hw,M⟩|⟨hw,M⟩|⟨hw,M⟩|⟨hw,M⟩|⟨hw,M⟩|⟨hw,M⟩|⟨hw,M⟩|⟨hw,M⟩
  all_goals first|exact absurd hw (bR e)|exact absurd hw (bR e2)|exact absurd hw (bR e3)|exact absurd hw (bR e4)|exact absurd hw (bR e5)|exact absurd hw (bR e6)|exact absurd hw (bR e7)|exact absurd hw (bR e8)|exact absurd hw (bR e9)|exact absurd hw (bR e10)|exact absurd hw (bR Yc)|skip
  obtain⟨p,q,rfl,rfl⟩:=M
  exact⟨N.bM (by omega) (by simp),p,N.get (i:=0) (by omega) (by simp),N.bM (by omega) (by simp),q,N.get (i:=1) (by omega) (by simp),vO p q _ fun t X T f=>⟨t,_,rfl,hL.aB f,sX (hL.aB f) (agT _ _) T f HK⟩⟩
theorem JT:∀(n:Nat)(ws:List (List UInt8))(acc:aH),ws.length=n->fM (List.replicate n 110) ws [] acc=(jn lL ws).map fun ns=>([],acc++ns)
 |0,[],acc,_=>by simp[fM,jn]
 |n+1,w::ws,acc,h=>by
  rw[List.replicate_succ,fM,aJ rfl,jn,Ti]
  cases hr:pq w with
  |none=>rfl
  |some m=>
   simp only[Option.map_some]
   rw[JT n ws _ (by simpa using h)]
   cases jn lL ws with
   |none=>rfl
   |some ns=>simp
 |0,_::_,_,h=>by cases h
 |_+1,[],_,h=>by cases h
theorem TD{α β:Type}{f:α->Option β}{l:List α}{r:List β}(h:jn f l=some r):r.length=l.length:=(oY h).1
theorem adP{d:Dk}{w:List UInt8}(h:w∈XP)(ns:aH):(ns.length≠0->cW d w ns=none)/\(ns.length=0->∃a,cW d w ns=some a/\(yV d w [] ns a\/pt d w ns a)):=by
 simp only[XP,aO,aR,aN]at h
 constructor
 ·intro hn
  match ns,hn with
  |[],hn=>exact absurd rfl hn
  |[n],_=>rcases h with rfl|rfl|rfl|rfl|rfl<;>simp[cW,jt]
  |[p,q],_=>rcases h with rfl|rfl|rfl|rfl|rfl<;>simp[cW,vP]
  |[_,_,_],_=>rfl
  |[p,q,r,s],_=>rcases h with rfl|rfl|rfl|rfl|rfl<;>simp[cW,Cv]
  |_::_::_::_::_::_,_=>rfl
 ·intro hn
  obtain rfl:=pZ.1 hn
  rcases h with rfl|rfl|rfl|rfl|rfl
  ·exact⟨stC d,by simp[cW,iF],.inl (.inr (.inr (.inr (.inr (.inl ⟨rfl,rfl⟩)))))⟩
  ·exact⟨some (d,lP d.1),by simp[cW,iF],.inr (.inl ⟨rfl,rfl⟩)⟩
  ·exact⟨some (d,kM d.2),by simp[cW,iF],.inr (.inr (.inl ⟨rfl,rfl⟩))⟩
  ·exact⟨prC d,by simp[cW,iF],.inr (.inr (.inr (.inr (.inr (.inr (.inl ⟨rfl,rfl⟩))))))⟩
  ·exact⟨cyC d,by simp[cW,iF],.inr (.inr (.inr (.inr (.inr (.inr (.inr (.inr (.inl ⟨rfl,rfl⟩))))))))⟩
theorem adQ{d:Dk}{w:List UInt8}(h:w∈XQ)(ns:aH)(h0:∀n,n∈ns->0<=n):(ns.length≠1->cW d w ns=none)/\(ns.length=1->∃a,cW d w ns=some a/\(yV d w [] ns a\/pt d w ns a)):=by
 simp only[XQ,aO,aR,aN]at h
 constructor
 ·intro hn
  match ns,hn with
  |[],_=>rcases h with rfl|rfl|rfl|rfl|rfl|rfl|rfl<;>simp[cW,iF]
  |[n],hn=>exact absurd rfl hn
  |[p,q],_=>rcases h with rfl|rfl|rfl|rfl|rfl|rfl|rfl<;>simp[cW,vP]
  |[_,_,_],_=>rfl
  |[p,q,r,s],_=>rcases h with rfl|rfl|rfl|rfl|rfl|rfl|rfl<;>simp[cW,Cv]
  |_::_::_::_::_::_,_=>rfl
 ·intro hn
  obtain⟨n,rfl⟩:=List.length_eq_one_iff.1 hn
  have n0:=h0 n (by simp)
  rcases h with rfl|rfl|rfl|rfl|rfl|rfl|rfl
  ·exact⟨XC d n,by simp[cW,jt],.inl (.inr (.inr (.inl ⟨rfl,n,n0,rfl,rfl⟩)))⟩
  ·exact⟨rnC d n,by simp[cW,jt],.inl (.inr (.inr (.inr (.inr (.inr ⟨rfl,n,rfl,rfl⟩)))))⟩
  ·exact⟨psC d n,by simp[cW,jt],.inr (.inr (.inr (.inl ⟨rfl,n,rfl,rfl⟩)))⟩
  ·exact⟨vsC d n,by simp[cW,jt],.inr (.inr (.inr (.inr (.inl ⟨rfl,n,rfl,rfl⟩))))⟩
  ·exact⟨htC d n,by simp[cW,jt],.inr (.inr (.inr (.inr (.inr (.inl ⟨rfl,n,rfl,rfl⟩)))))⟩
  ·exact⟨tsC d n,by simp[cW,jt],.inr (.inr (.inr (.inr (.inr (.inr (.inr (.inl ⟨rfl,n,rfl,rfl⟩)))))))⟩
  ·exact⟨flC d n,by simp[cW,jt],.inr (.inr (.inr (.inr (.inr (.inr (.inr (.inr (.inr (.inr (.inl ⟨rfl,n,rfl,rfl⟩))))))))))⟩
theorem adR{d:Dk}{w:List UInt8}(h:w∈XR)(ns:aH)(h0:∀n,n∈ns->0<=n):(ns.length≠2->cW d w ns=none)/\(ns.length=2->∃a,cW d w ns=some a/\(yV d w [] ns a\/pt d w ns a)):=by
 simp only[XR,aO,aR,aN]at h
 constructor
 ·intro hn
  match ns,hn with
  |[],_=>rcases h with rfl|rfl|rfl|rfl<;>simp[cW,iF]
  |[n],hn=>rcases h with rfl|rfl|rfl|rfl<;>simp[cW,jt]
  |[p,q],hn=>exact absurd rfl hn
  |[_,_,_],_=>rfl
  |[p,q,r,s],_=>rcases h with rfl|rfl|rfl|rfl<;>simp[cW,Cv]
  |_::_::_::_::_::_,_=>rfl
 ·intro hn
  obtain⟨p,q,rfl⟩:∃p q,ns=[p,q]:=by
   match ns,hn with
   |[p,q],_=>exact⟨p,q,rfl⟩
  have p0:=h0 p (by simp)
  have q0:=h0 q (by simp)
  rcases h with rfl|rfl|rfl|rfl
  ·exact⟨XD d p q,by simp[cW,vP],.inl (.inr (.inl ⟨rfl,p,q,rfl,rfl⟩))⟩
  ·exact⟨Tk d p q,by simp[cW,vP],.inl (.inr (.inr (.inr (.inl ⟨rfl,p,q,p0,q0,rfl,rfl⟩))))⟩
  ·exact⟨chC d p q,by simp[cW,vP],.inr (.inr (.inr (.inr (.inr (.inr (.inr (.inr (.inr (.inl ⟨rfl,p,q,rfl,rfl⟩)))))))))⟩
  ·exact⟨gwC d p q,by simp[cW,vP],.inr (.inr (.inr (.inr (.inr (.inr (.inr (.inr (.inr (.inr (.inr (.inr ⟨rfl,p,q,rfl,rfl⟩)))))))))))⟩
theorem adS{d:Dk}(ns:aH):(ns.length≠4->cW d Cv ns=none)/\(ns.length=4->∃a,cW d Cv ns=some a/\(yV d Cv [] ns a\/pt d Cv ns a)):=by
 constructor
 ·intro hn
  match ns,hn with
  |[],_=>simp[cW,iF,Cv]
  |[n],hn=>simp[cW,jt,Cv]
  |[p,q],hn=>simp[cW,vP,Cv]
  |[_,_,_],_=>rfl
  |[p,q,r,s],hn=>exact absurd rfl hn
  |_::_::_::_::_::_,_=>rfl
 ·intro hn
  obtain⟨p,q,r,s,rfl⟩:∃p q r s,ns=[p,q,r,s]:=by
   match ns,hn with
   |[p,q,r,s],_=>exact⟨p,q,r,s,rfl⟩
  exact⟨esC d p q r s,by simp[cW,Cv],.inr (.inr (.inr (.inr (.inr (.inr (.inr (.inr (.inr (.inr (.inr (.inl ⟨rfl,p,q,r,s,rfl,rfl⟩)))))))))))⟩
theorem adT{d:Dk}{w:List UInt8}(hA:w∉XP)(hB:w∉XQ)(hC:w∉XR)(hE:w≠Cv)(ns:aH):cW d w ns=none:=by
 simp only[XP,XQ,XR,aO,aR,aN,not_or]at hA hB hC
 match ns with
 |[]=>simp[cW,iF,hA]
 |[n]=>simp[cW,jt,hB]
 |[p,q]=>simp[cW,vP,hC]
 |[_,_,_]=>rfl
 |[p,q,r,s]=>simp[cW,hE]
 |_::_::_::_::_::_=>rfl
theorem vR{d:Dk}{w:List UInt8}{vs:List (List UInt8)}{m:Nat}(hs:fw w=List.replicate m 110)(hg:w≠C9)(H:∀ns:aH,(∀n,n∈ns->0<=n)->(ns.length≠m->cW d w ns=none)/\(ns.length=m->∃a,cW d w ns=some a/\(yV d w [] ns a\/pt d w ns a))):(J4 (w::vs)=none->gF d (w::vs)=none)/\∀r,J4 (w::vs)=some r->∃a,gF d (w::vs)=some a/\(yV d w r.1 r.2 a\/pt d w r.2 a):=by
 have he:gF d (w::vs)=match jn lL vs with|none=>none|some ns=>cW d w ns:=by
  unfold gF
  rw[aF (fun h=>hg h.2)]
  rfl
 have hr:J4 (w::vs)=if vs.length=m then(jn lL vs).map fun ns=>([],ns)else none:=by
  unfold J4
  simp only[List.headD_cons,List.length_cons,List.tail_cons,hs,ja,Nat.add_right_cancel_iff]
  by_cases hm:vs.length=m
  ·rw[aJ hm.symm,aJ hm,JT m vs [] hm]
   simp
  ·rw[aF (fun h=>hm h.symm),aF hm]
 rw[he,hr]
 cases ha:jn lL vs with
 |none=>
  refine⟨fun _=>rfl,fun r h=> ?_⟩
  split at h<;>cases h
 |some ns=>
  have hl:=TD ha
  have hn:=H ns fun n hn=>(JP ha n hn).1
  by_cases hm:vs.length=m
  ·rw[aJ hm]
   refine⟨fun h=>(by cases h),fun r h=> ?_⟩
   obtain rfl:=(bI h).symm
   exact hn.2 (by omega)
  ·rw[aF hm]
   exact⟨fun _=>hn.1 (by omega),fun r h=>by cases h⟩
theorem Pm(d:Dk){ws:List (List UInt8)}(hw:ws≠[]):(J4 ws=none->gF d ws=none)/\∀r,J4 ws=some r->∃a,gF d ws=some a/\(yV d (ws.headD []) r.1 r.2 a\/pt d (ws.headD []) r.2 a):=by
 obtain⟨w,vs,rfl⟩:∃w vs,ws=w::vs:=by
  cases ws with
  |nil=>exact absurd rfl hw
  |cons a l=>exact⟨a,l,rfl⟩
 rw[List.headD_cons]
 by_cases hA:w∈XP
 ·exact vR (m:=0) (by unfold fw;rw[aJ hA];rfl) (fun h=>by rw[h]at hA;revert hA;decide) fun ns _=>adP hA ns
 by_cases hB:w∈XQ
 ·exact vR (m:=1) (by unfold fw;rw[aF hA,aJ hB];rfl) (fun h=>by rw[h]at hB;revert hB;decide) fun ns h=>adQ hB ns h
 by_cases hC:w∈XR
 ·exact vR (m:=2) (by unfold fw;rw[aF hA,aF hB,aJ hC];rfl) (fun h=>by rw[h]at hC;revert hC;decide) fun ns h=>adR hC ns h
 by_cases hE:w=Cv
 ·subst hE
  exact vR (m:=4) (by decide) (by decide) fun ns _=>adS ns
 have hN:=adT (d:=d) hA hB hC hE
 by_cases hG:w=C9
 ·subst hG
  have hs:fw C9=[103]:=by decide
  match vs with
  |[]=>
   refine⟨fun _=> ?_,fun r h=> ?_⟩
   ·unfold gF
    rw[aF (fun h=>by simp at h)]
    exact hN []
   ·unfold J4 at h;rw[List.headD_cons,hs]at h;cases h
  |[v]=>
   have he:gF d [C9,v]=Ug v:=by unfold gF;rw[aJ ⟨rfl,rfl⟩];rfl
   have hr:J4 [C9,v]=match rG v with|none=>none|some g'=>some (g',[]):=by
    unfold J4
    rw[List.headD_cons,hs,aJ (show([103]:List UInt8).length+1=[C9,v].length from rfl)]
    show fM [103] [v] [] []=_
    rw[fM,aF (by decide),aJ rfl]
    cases rG v<;>rfl
   rw[he,hr]
   unfold Ug
   cases hp:rG v with
   |none=>exact⟨fun _=>rfl,fun r h=>by cases h⟩
   |some g=>
    refine⟨fun h=>(by cases h),fun r h=> ?_⟩
    obtain rfl:=(bI h).symm
    exact⟨_,rfl,.inl (.inl ⟨rfl,(vw hp).1,rfl⟩)⟩
  |a::b::vs=>
   refine⟨fun _=> ?_,fun r h=> ?_⟩
   ·unfold gF
    rw[aF (fun h=>by simp at h)]
    show(match jn lL (a::b::vs)with|none=>none|some ns=>cW d C9 ns)=none
    split
    ·rfl
    ·exact hN _
   ·unfold J4 at h;rw[List.headD_cons,hs,aF (by simp)]at h;cases h
 have hs:fw w=[63]:=by unfold fw;rw[aF hA,aF hB,aF hC,aF hE,aF hG]
 refine⟨fun _=> ?_,fun r h=> ?_⟩
 ·unfold gF
  rw[aF (fun h=>hG h.2)]
  show(match jn lL vs with|none=>none|some ns=>cW d w ns)=none
  split
  ·rfl
  ·exact hN _
 ·unfold J4 at h
  rw[List.headD_cons,hs]at h
  split at h
  ·rename_i hl
   match vs,hl with
   |[v],_=>rw[List.tail_cons,fM,aF (by decide),aF (by decide)]at h;cases h
  ·cases h
end Go.Proofs.YtcnfcnoooecchaaGreatDoor
