import Derived.Test.YtcnfcnoooecchaaGreatDoorRunScriptK1
set_option linter.unusedVariables false
set_option linter.unusedSimpArgs false
namespace Go.Proofs.YtcnfcnoooecchaaGreatDoor
open Go Go.Mx
theorem ye(f:Nat->Int):∀n,bG f (n+1)=f 0+bG (fun k=>f (k+1)) n
 |0=>by simp[bG]
 |n+1=>by rw[bG,ye f n,bG];omega
theorem Kh(f:Nat->Int){a:Nat}:∀{n:Nat},a+1<n->bG (fun k=>f (fy a (a+1) k)) n=bG f n
 |n+2,h=>by
  by_cases e:a=n
  ·subst e
   have h1:bG (fun k=>f (fy a (a+1) k)) a=bG f a:=cC fun k hk=>by
    (try simp only)
    unfold fy
    rw[if_neg (by omega),if_neg (by omega)]
   have h2:fy a (a+1) a=a+1:=by unfold fy;rw[if_pos rfl]
   have h3:fy a (a+1) (a+1)=a:=by unfold fy;rw[if_neg (by omega),if_pos rfl]
   rw[bG,bG,bG,bG,h1,h2,h3]
   omega
  ·have ih:=Kh f (show a+1<n+1 by omega)
   show bG (fun k=>f (fy a (a+1) k)) (n+1)+f (fy a (a+1) (n+1))=bG f (n+1)+f (n+1)
   rw[ih]
   have h2:fy a (a+1) (n+1)=n+1:=by unfold fy;rw[if_neg (by omega),if_neg (by omega)]
   rw[h2]
theorem tZ:∀{n a:Nat}(C:jO),a+1<n->cH n (fun i c=>C i (fy a (a+1) c))= -cH n C
 |n+1,a,C,h=>by
  rw[cH,cH]
  have key:∀k,k<n+1->(jS k*C 0 (fy a (a+1) k)*cH n (fun i j=>C (i+1) (fy a (a+1) (fm k j))))= -(fun k=>jS k*C 0 k*cH n (fun i j=>C (i+1) (fm k j))) (fy a (a+1) k):=fun k hk=>by
   simp only
   by_cases e1:k=a
   ·subst e1
    have s1:fy k (k+1) k=k+1:=by unfold fy;rw[if_pos rfl]
    rw[s1,kK]
    have:(fun i j=>C (i+1) (fy k (k+1) (fm k j)))=fun i j=>C (i+1) (fm (k+1) j):=by
     funext i j
     congr 1
     unfold fy fm
     by_cases x:j<k
     ·rw[if_pos x,if_neg (by omega),if_neg (by omega),if_pos (by omega)]
     ·rw[if_neg x,if_neg (by omega)]
      by_cases y:j=k
      ·rw[if_pos (by omega),if_pos (by omega)];exact y.symm
      ·rw[if_neg (by omega),if_neg (by omega)]
    rw[this,Int.neg_mul,Int.neg_mul,Int.neg_neg]
   by_cases e2:k=a+1
   ·subst e2
    have s1:fy a (a+1) (a+1)=a:=by unfold fy;rw[if_neg (by omega),if_pos rfl]
    rw[s1,kK]
    have:(fun i j=>C (i+1) (fy a (a+1) (fm (a+1) j)))=fun i j=>C (i+1) (fm a j):=by
     funext i j
     congr 1
     unfold fy fm
     by_cases x:j<a
     ·rw[if_pos (show j<a+1 by omega),if_pos x,if_neg (by omega),if_neg (by omega)]
     ·rw[if_neg x]
      by_cases y:j=a
      ·rw[if_pos (show j<a+1 by omega),if_pos y];omega
      ·rw[if_neg (show¬j<a+1 by omega),if_neg (by omega),if_neg (by omega)]
    rw[this,Int.neg_mul,Int.neg_mul]
   have s1:fy a (a+1) k=k:=by unfold fy;rw[if_neg e1,if_neg e2]
   rw[s1,<-Int.mul_neg]
   congr 1
   by_cases l:k<a
   ·obtain⟨b,rfl⟩:∃b,a=b+1:=⟨a-1,by omega⟩
    rw[<-tZ (n:=n) (a:=b) (fun i j=>C (i+1) (fm k j)) (by omega)]
    congr 1
    funext i j
    congr 1
    unfold fy fm
    (repeat' split)<;>omega
   ·rw[<-tZ (n:=n) (a:=a) (fun i j=>C (i+1) (fm k j)) (by omega)]
    congr 1
    funext i j
    congr 1
    unfold fy fm
    (repeat' split)<;>omega
  have e:=cC key
  rw[e,mh,Kh (fun k=>jS k*C 0 k*cH n (fun i j=>C (i+1) (fm k j))) h]
def Md(j c:Nat):Nat:=if c=0 then j else if c<=j then c-1 else c
theorem Bx:∀{n j:Nat}(C:jO),j<n->cH n (fun i c=>C i (Md j c))=jS j*cH n C
 |n,0,C,h=>by
  have:(fun i c=>C i (Md 0 c))=C:=by
   funext i c
   congr 1
   unfold Md
   by_cases e:c=0
   ·rw[if_pos e];exact e.symm
   ·rw[if_neg e,if_neg (by omega)]
  rw[this]
  show cH n C=1*cH n C
  rw[Int.one_mul]
 |n,j+1,C,h=>by
  have:(fun i c=>C i (Md (j+1) c))=fun i c=>(fun i c=>C i (fy j (j+1) c)) i (Md j c):=by
   funext i c
   (try simp only)
   congr 1
   unfold Md fy
   by_cases e:c=0
   ·rw[if_pos e,if_pos e,if_pos rfl]
   ·rw[if_neg e,if_neg e]
    by_cases l:c<=j
    ·rw[if_pos (by omega),if_pos l,if_neg (by omega),if_neg (by omega)]
    ·rw[if_neg l]
     by_cases z:c=j+1
     ·rw[if_pos (by omega),if_neg (by omega),if_pos z];omega
     ·rw[if_neg (by omega),if_neg (by omega),if_neg z]
  rw[this,Bx (fun i c=>C i (fy j (j+1) c)) (by omega),tZ C h,kK,Int.mul_neg,Int.neg_mul]
def nA(A:jO)(j:Nat)(r:Nat->Int):jO:=fun i k=>if k=j then r i else A i k
theorem Wf(j:Nat):jS j*jS j=1:=by unfold jS;split<;>rfl
theorem Wg{n:Nat}(A:jO)(r:Nat->Int){i:Nat}(hi:i<n):bG (fun j=>A i j*cH n (nA A j r)) n=cH n A*r i:=by
 have hz:cH (n+1) (fun a b=>(fun(x:Nat)(y:Nat)=>match y with|0=>r x|y+1=>A x y) (match a with|0=>i|a+1=>a) b)=0:=
  E9 (i:=0) (j:=i+1) _ (by omega) (by omega) (by omega) rfl
 rw[cH,ye]at hz
 have h0:jS 0*(fun(x:Nat)(y:Nat)=>match y with|0=>r x|y+1=>A x y) i 0*cH n (fun a b=>(fun(x:Nat)(y:Nat)=>match y with|0=>r x|y+1=>A x y) a (fm 0 b))=r i*cH n A:=by
  show 1*r i*cH n _=_
  rw[Int.one_mul]
  rfl
 have hs:∀j,j<n->jS (j+1)*A i j*cH n (fun a b=>(fun(x:Nat)(y:Nat)=>match y with|0=>r x|y+1=>A x y) a (fm (j+1) b))= -(A i j*cH n (nA A j r)):=fun j hj=>by
  have e:(fun a b=>(fun(x:Nat)(y:Nat)=>match y with|0=>r x|y+1=>A x y) a (fm (j+1) b))=fun a b=>nA A j r a (Md j b):=by
   funext a b
   cases b with
   |zero=>simp[fm,Md,nA]
   |succ b=>
    (try simp only)
    by_cases l:b+1<=j
    ·have s1:fm (j+1) (b+1)=b+1:=by unfold fm;rw[if_pos (by omega)]
     have s2:Md j (b+1)=b:=by unfold Md;rw[if_neg (by omega),if_pos l];rfl
     rw[s1,s2]
     unfold nA
     rw[if_neg (by omega)]
    ·have s1:fm (j+1) (b+1)=b+2:=by unfold fm;rw[if_neg (by omega)]
     have s2:Md j (b+1)=b+1:=by unfold Md;rw[if_neg (by omega),if_neg l]
     rw[s1,s2]
     unfold nA
     rw[if_neg (by omega)]
  rw[e,Bx (nA A j r) hj,kK,Int.neg_mul,Int.neg_mul]
  congr 1
  rw[Int.mul_assoc,Int.mul_left_comm (A i j),<-Int.mul_assoc,Wf,Int.one_mul]
 have e2:bG (fun j=>jS (j+1)*A i j*cH n (fun a b=>(fun(x:Nat)(y:Nat)=>match y with|0=>r x|y+1=>A x y) a (fm (j+1) b))) n= -bG (fun j=>A i j*cH n (nA A j r)) n:=by
  rw[<-mh]
  exact cC hs
 have e3:r i*cH n A+ -bG (fun j=>A i j*cH n (nA A j r)) n=0:=by
  rw[<-h0,<-e2]
  exact hz
 rw[Int.mul_comm (cH n A)]
 omega
def qg(a b:Int)(p:Nat):Bool:= !decide ((p:Int)=a)&& !decide ((p:Int)=b)
theorem kO{a b:Int}{p:Nat}:qg a b p=true↔(p:Int)≠a/\(p:Int)≠b:=by unfold qg;simp
def bM(n:Nat)(a b:Int):List Nat:=(List.range n).filter (qg a b)
theorem dY{n:Nat}{a b:Int}{p:Nat}:p∈bM n a b↔p<n/\(p:Int)≠a/\(p:Int)≠b:=by
 unfold bM
 rw[List.mem_filter,List.mem_range,kO]
theorem CO(n:Nat)(a b:Int):(bM n a b).Nodup:=List.Pairwise.filter _ List.nodup_range
def gf(g:List (List Int))(a b:Int):Tn:=(bM g.length a b).map fun p:Nat=>((p:Int),g.getD p [])
def Oe(g:List (List Int))(a b:Int):Bool:=(List.range g.length).all fun p:Nat=> !(decide ((ga g p).getD a.toNat 0<0)&&decide ((ga g p).getD b.toNat 0<0))&& !(qg a b p&&decide ((g.getD p []).length=0))
def lx(g:List (List Int))(a b:Int):Bool:=aM g&&iq 0 ((g.length:Int)-1) a&&iq 0 ((g.length:Int)-1) b&& !decide (a=b)
def HX(g:List (List Int))(a b:Int):Bool:=lx g a b&&Oe g a b
structure Can(g:List (List Int))(a b:Int):Prop where
 bE:aM g=true
 a0:0<=a
 a1:a<(g.length:Int)
 b0:0<=b
 b1:b<(g.length:Int)
 ne:a≠b
 cT:∀p:Nat,p<g.length->0<=(ga g p).getD a.toNat 0\/0<=(ga g p).getD b.toNat 0
 out:∀p:Nat,p<g.length->(p:Int)≠a->(p:Int)≠b->(g.getD p []).length≠0
theorem HZ{g:List (List Int)}{a b:Int}(h:lx g a b=true):aM g=true/\(0<=a/\a<(g.length:Int))/\(0<=b/\b<(g.length:Int))/\a≠b:=by
 unfold lx at h
 simp only[Bool.and_eq_true,Bool.not_eq_true',decide_eq_false_iff_not,aX]at h
 exact⟨h.1.1.1,by omega,by omega,h.2⟩
theorem Of{g:List (List Int)}{a b:Int}(h:HX g a b=true):Can g a b:=by
 unfold HX at h
 rw[Bool.and_eq_true]at h
 obtain⟨hg,⟨a0,a1⟩,⟨b0,b1⟩,dZ⟩:=HZ h.1
 have he:=h.2
 unfold Oe at he
 rw[List.all_eq_true]at he
 refine⟨hg,a0,a1,b0,b1,dZ,fun p hp=> ?_,fun p hp pa pb hz=> ?_⟩
 ·have:=he p (List.mem_range.2 hp)
  simp only[Bool.and_eq_true,Bool.not_eq_true',Bool.and_eq_false_iff,decide_eq_false_iff_not]at this
  omega
 ·have:=he p (List.mem_range.2 hp)
  rw[kO.2 ⟨pa,pb⟩,decide_eq_true hz]at this
  simp at this
theorem Can.turn{g:List (List Int)}{a b:Int}(h:Can g a b):Can g b a:=⟨h.bE,h.b0,h.b1,h.a0,h.a1,fun e=>h.ne e.symm,fun p hp=>(h.cT p hp).symm,fun p hp x y=>h.out p hp y x⟩
def pf(f:Int->Int)(l:List Int):Int:=(l.map f).sum
theorem pg(f:Int->Int):pf f []=0:=rfl
theorem ie(f:Int->Int)(x:Int)(l:List Int):pf f (x::l)=f x+pf f l:=by unfold pf;rw[List.map_cons,List.sum_cons]
theorem Fz(f f':Int->Int):∀l,pf (fun x=>f x+f' x) l=pf f l+pf f' l
 |[]=>rfl
 |x::l=>by rw[ie,ie,ie,Fz f f' l];omega
theorem FA(c:Int)(f:Int->Int):∀l,pf (fun x=>c*f x) l=c*pf f l
 |[]=>by rw[pg,pg,Int.mul_zero]
 |x::l=>by rw[ie,ie,FA c f l,Int.mul_add]
theorem yf(c:Int):∀l:List Int,pf (fun _=>c) l=l.length*c
 |[]=>by rw[pg];simp
 |x::l=>by rw[ie,yf c l,List.length_cons];rw[show((l.length+1:Nat):Int)=(l.length:Int)+1 by omega,Int.add_mul];omega
theorem Og{f:Int->Int}{u:Int}:∀l:List Int,(∀x,x∈l->u<=f x)->(l.length:Int)*u<=pf f l/\(pf f l<=l.length*u->∀x,x∈l->f x=u)
 |[],_=>⟨by rw[pg];simp,fun _ x hx=>by simp at hx⟩
 |x::l,h=>by
  obtain⟨h1,h2⟩:=Og l fun y hy=>h y (List.mem_cons_of_mem _ hy)
  have h0:=h x List.mem_cons_self
  rw[ie,List.length_cons,show((l.length+1:Nat):Int)=(l.length:Int)+1 by omega,Int.add_mul,Int.one_mul]
  refine⟨by omega,fun hle y hy=> ?_⟩
  rcases List.mem_cons.1 hy with rfl|hy
  ·omega
  ·exact h2 (by omega) y hy
theorem Oh(f:Int->Int):∀n:Nat,0<n->∃p:Nat,p<n/\∀q:Nat,q<n->f p<=f q
 |1,_=>⟨0,by omega,fun q hq=>by rw[show q=0 by omega];exact Int.le_refl _⟩
 |n+2,_=>by
  obtain⟨p,hp,hq⟩:=Oh f (n+1) (by omega)
  by_cases h:f p<=f ((n+1:Nat):Int)
  ·refine⟨p,by omega,fun q h2=> ?_⟩
   by_cases e:q=n+1
   ·rw[e];exact h
   ·exact hq q (by omega)
  ·refine⟨n+1,by omega,fun q h2=> ?_⟩
   by_cases e:q=n+1
   ·rw[e];exact Int.le_refl _
   ·have:=hq q (by omega);omega
theorem Can.low{g:List (List Int)}{a b:Int}(C:Can g a b)(f:Int->Int)(ha:0<=f a)(hb:0<=f b)(H:∀p:Nat,p<g.length->(p:Int)≠a->(p:Int)≠b->pf f (g.getD p [])<=(g.getD p []).length*f p):∀p:Nat,p<g.length->0<=f p:=fun p0 Np=>by
 obtain⟨p,hp,hm⟩:=Oh f g.length (by omega)
 refine Classical.byContradiction fun hn=> ?_
 have hu:f p<0:=by have:=hm p0 Np;omega
 have key:∀(k:Nat)(q:Int),Way g p k q->f q=f p:=by
  intro k
  induction k with
  |zero=>intro q hq;rw[<-show(p:Int)=q from hq]
  |succ k ih=>
   rintro q ⟨x,hx,hq⟩
   have xr:=Way.rng C.bE (show(0:Int)<=p by omega) (by omega) hx
   have ex:=ih x hx
   have xe:((x.toNat:Nat):Int)=x:=by omega
   have hle:=H x.toNat (by omega) (by rw[xe];intro e;rw[e]at ex;omega) (by rw[xe];intro e;rw[e]at ex;omega)
   rw[xe,ex]at hle
   refine(Og (u:=f p) _ fun y hy=> ?_).2 hle q hq
   have hy':=hy
   rw[aS (by omega)]at hy'
   have yr:=(aT C.bE (List.getElem_mem (show x.toNat<g.length by omega))).2 y hy'
   have:=hm y.toNat (by omega)
   rw[show((y.toNat:Nat):Int)=y by omega]at this
   exact this
 rcases C.cT p hp with h|h
 ·have:=key _ _ (wv (p:=(p:Int)) C.bE (by omega) (by omega) C.a0 C.a1 h)
  omega
 ·have:=key _ _ (wv (p:=(p:Int)) C.bE (by omega) (by omega) C.b0 C.b1 h)
  omega
theorem Way.fst{g:List (List Int)}{p:Int}:∀{k:Nat}{s:Int},Way g p (k+1) s->∃e,e∈g.getD p.toNat []/\Way g e k s
 |0,s,h=>by
  obtain⟨x,hx,hs⟩:=h
  rw[<-show p=x from hx]at hs
  exact⟨s,hs,rfl⟩
 |k+1,s,h=>by
  obtain⟨x,hx,hs⟩:=h
  obtain⟨e,he,hw⟩:=Way.fst hx
  exact⟨e,he,x,hw,hs⟩
def qY(g:List (List Int))(a b p:Int):Nat:=(if(ga g p).getD a.toNat 0<0 then(ga g p).getD b.toNat 0 else if(ga g p).getD b.toNat 0<0 then(ga g p).getD a.toNat 0 else min ((ga g p).getD a.toNat 0) ((ga g p).getD b.toNat 0)).toNat
theorem Can.dst{g:List (List Int)}{a b:Int}(C:Can g a b){p:Nat}(hp:p<g.length):(Way g p (qY g a b p) a\/Way g p (qY g a b p) b)/\∀k,Way g p k a\/Way g p k b->qY g a b p<=k:=by
 have p0:(0:Int)<=p:=by omega
 have p1:(p:Int)<(g.length:Int):=by omega
 have wa:=wv (p:=(p:Int)) (q:=a) C.bE p0 p1 C.a0 C.a1
 have wb:=wv (p:=(p:Int)) (q:=b) C.bE p0 p1 C.b0 C.b1
 have hf:=C.cT p hp
 have la:∀k,Way g p k a->_:=fun k h=>HG C.bE p0 p1 h
 have lb:∀k,Way g p k b->_:=fun k h=>HG C.bE p0 p1 h
 unfold qY
 generalize (ga g (p:Int)).getD a.toNat 0=x at*
 generalize (ga g (p:Int)).getD b.toNat 0=y at*
 refine⟨?_,fun k hk=> ?_⟩
 ·split
  ·exact .inr (wb (by omega))
  ·split
   ·exact .inl (wa (by omega))
   ·by_cases h:x<=y
    ·rw[Int.min_eq_left h];exact .inl (wa (by omega))
    ·rw[Int.min_eq_right (by omega)];exact .inr (wb (by omega))
 ·rcases hk with h|h
  ·have:=la k h
   rw[if_neg (by omega)]
   split<;>omega
  ·have:=lb k h
   split
   ·omega
   ·rw[if_neg (by omega)];omega
theorem Can.Wi{g:List (List Int)}{a b:Int}(C:Can g a b){p:Nat}(hp:p<g.length)(pa:(p:Int)≠a)(pb:(p:Int)≠b):∃e,e∈g.getD p []/\qY g a b e<qY g a b p:=by
 obtain⟨hw,_⟩:=C.dst hp
 have hz:qY g a b p≠0:=fun h=>by
  rw[h]at hw
  rcases hw with h|h
  ·exact pa h
  ·exact pb h
 obtain⟨m,hm⟩:∃m,qY g a b p=m+1:=⟨qY g a b p-1,by omega⟩
 rw[hm]at hw⊢
 have key:∀s,Way g p (m+1) s->s=a\/s=b->∃e,e∈g.getD p []/\qY g a b e<m+1:=fun s h hs=>by
  obtain⟨e,he,hv⟩:=Way.fst h
  rw[show((p:Int)).toNat=p from rfl]at he
  refine⟨e,he,?_⟩
  rw[aS hp]at he
  have er:=(aT C.bE (List.getElem_mem hp)).2 e he
  have:=(C.dst (p:=e.toNat) (by omega)).2 m
  rw[show((e.toNat:Nat):Int)=e by omega]at this
  have:=this (by rcases hs with rfl|rfl;exact .inl hv;exact .inr hv)
  omega
 rcases hw with h|h
 ·exact key a h (.inl rfl)
 ·exact key b h (.inr rfl)
theorem vt{α β:Type}(f:α->List β)(c:α->β):∀l:List α,(∀x,x∈l->c x∈f x)->l.map c∈dA (l.map f)
 |[],_=>List.mem_singleton.2 rfl
 |x::l,h=>by
  rw[List.map_cons,List.map_cons,dA,List.mem_flatMap]
  exact⟨c x,h x List.mem_cons_self,List.mem_map.2 ⟨_,vt f c l fun y hy=>h y (List.mem_cons_of_mem _ hy),rfl⟩⟩
theorem FB{α:Type}:∀(l:List (List α))(m:Nat),(∀x,x∈l->x.length<=m)->(dA l).length<=m^l.length
 |[],m,_=>by simp[dA]
 |x::l,m,h=>by
  have ih:=FB l m fun y hy=>h y (List.mem_cons_of_mem _ hy)
  have hx:=h x List.mem_cons_self
  rw[dA,List.length_flatMap,List.length_cons,Nat.pow_succ]
  have:(x.map fun a=>((dA l).map (a:: ·)).length)=x.map fun _=>(dA l).length:=List.map_congr_left fun a _=>by rw[List.length_map]
  rw[this,List.map_const',List.sum_replicate_nat]
  rw[Nat.mul_comm (m^l.length)]
  exact Nat.mul_le_mul hx ih
theorem FC{α β γ:Type}(f:α->β)(c:α->γ):∀l:List α,(l.map f).zip (l.map c)=l.map fun x=>(f x,c x)
 |[]=>rfl
 |x::l=>by rw[List.map_cons,List.map_cons,List.map_cons,List.zip_cons_cons,FC f c l]
def jP(g:List (List Int))(a b:Int):Int:=cH (bM g.length a b).length (iy (gf g a b))
theorem yg(g:List (List Int))(a b:Int):(gf g a b).length=(bM g.length a b).length:=by unfold gf;rw[List.length_map]
theorem Ki(g:List (List Int))(a b:Int):((gf g a b).map (·.1)).Nodup:=by
 unfold gf
 rw[List.map_map]
 refine List.Pairwise.map _ (fun x y h e=>h ?_) (CO g.length a b)
 simp only[Function.comp]at e
 omega
theorem Kj(g:List (List Int))(a b:Int):jP g a b=(((dA ((gf g a b).map (·.2))).countP fun c=>Ma (bM g.length a b).length (((gf g a b).map (·.1)).zip c):Nat):Int):=by
 unfold jP
 rw[CE _ _ (yg g a b) (Ki g a b),xU _ _ (yg g a b)]
theorem Can.pos{g:List (List Int)}{a b:Int}(C:Can g a b):0<jP g a b:=by
 rw[Kj]
 have step:∀p:Nat,∃e:Int,p∈bM g.length a b->e∈g.getD p []/\qY g a b e<qY g a b p:=fun p=>by
  by_cases hp:p∈bM g.length a b
  ·obtain⟨h1,h2,h3⟩:=dY.1 hp
   obtain⟨e,he⟩:=C.Wi h1 h2 h3
   exact⟨e,fun _=>he⟩
  ·exact⟨0,fun h=>absurd h hp⟩
 let f:Nat->Int:=fun p=>Classical.choose (step p)
 have hf:∀p:Nat,p∈bM g.length a b->f p∈g.getD p []/\qY g a b (f p)<qY g a b p:=fun p=>Classical.choose_spec (step p)
 have hc:(bM g.length a b).map f∈dA ((gf g a b).map (·.2)):=by
  unfold gf
  rw[List.map_map]
  exact vt _ _ _ fun p hp=>(hf p hp).1
 have hk:Ma (bM g.length a b).length (((gf g a b).map (·.1)).zip ((bM g.length a b).map f))=true:=by
  unfold gf
  rw[List.map_map,FC]
  refine(CF _ _ (by rw[List.length_map]) ?_).2 ⟨fun x=>qY g a b x,fun t ht _=> ?_⟩
  ·have:=Ki g a b
   unfold gf at this
   rw[List.map_map]at this⊢
   exact this
  ·obtain⟨p,hp,rfl⟩:=List.mem_map.1 ht
   exact(hf p hp).2
 have:0<(dA ((gf g a b).map (·.2))).countP fun c=>Ma (bM g.length a b).length (((gf g a b).map (·.1)).zip c):=List.countP_pos_iff.2 ⟨_,hc,hk⟩
 omega
theorem sG{n:Nat}{a b:Int}(h0:0<=a)(h1:a<(n:Int))(k0:0<=b)(k1:b<(n:Int))(dZ:a≠b):(bM n a b).length+2=n:=by
 have key:∀m:Nat,(bM m a b).length+((if a<(m:Int)then 1 else 0)+(if b<(m:Int)then 1 else 0))=m:=by
  intro m
  induction m with
  |zero=>rw[if_neg (by omega),if_neg (by omega)];rfl
  |succ m ih=>
   unfold bM at ih⊢
   rw[List.range_succ,List.filter_append,List.length_append]
   by_cases e1:(m:Int)=a
   ·rw[List.filter_cons_of_neg (by rw[kO];exact fun h=>h.1 e1),List.filter_nil,List.length_nil]
    by_cases e2:b<(m:Int)
    ·rw[if_neg (by omega),if_pos e2]at ih
     rw[if_pos (by omega),if_pos (by omega)];omega
    ·rw[if_neg (by omega),if_neg e2]at ih
     rw[if_pos (by omega),if_neg (by omega)];omega
   ·by_cases e2:(m:Int)=b
    ·rw[List.filter_cons_of_neg (by rw[kO];exact fun h=>h.2 e2),List.filter_nil,List.length_nil]
     by_cases e3:a<(m:Int)
     ·rw[if_pos e3,if_neg (by omega)]at ih
      rw[if_pos (by omega),if_pos (by omega)];omega
     ·rw[if_neg e3,if_neg (by omega)]at ih
      rw[if_neg (by omega),if_pos (by omega)];omega
    ·rw[List.filter_cons_of_pos (kO.2 ⟨e1,e2⟩),List.filter_nil,List.length_cons,List.length_nil]
     rw[show(if a<((m+1:Nat):Int)then 1 else 0)=(if a<(m:Int)then 1 else 0) by split<;>split<;>omega,show(if b<((m+1:Nat):Int)then 1 else 0)=(if b<(m:Int)then 1 else 0) by split<;>split<;>omega]
     omega
 have:=key n
 rw[if_pos h1,if_pos k1]at this
 omega
theorem Can.den{g:List (List Int)}{a b:Int}(C:Can g a b):1<=jP g a b/\jP g a b<=15625:=by
 refine⟨C.pos,?_⟩
 rw[Kj]
 have hl:=sG C.a0 C.a1 C.b0 C.b1 C.ne
 have gl:=aO C.bE
 have h1:=List.countP_le_length (p:=fun c=>Ma (bM g.length a b).length (((gf g a b).map (·.1)).zip c)) (l:=dA ((gf g a b).map (·.2)))
 have h2:=FB ((gf g a b).map (·.2)) 5 fun x hx=>by
  unfold gf at hx
  rw[List.map_map]at hx
  obtain⟨p,hp,rfl⟩:=List.mem_map.1 hx
  have hp:=(dY.1 hp).1
  show(g.getD p []).length<=5
  rw[aS hp]
  exact(aT C.bE (List.getElem_mem hp)).1
 rw[List.length_map,yg]at h2
 have h3:5^(bM g.length a b).length<=5^6:=Nat.pow_le_pow_right (by omega) (by omega)
 have h4:(5:Nat)^6=15625:=rfl
 omega
def H6(g:List (List Int))(a b:Int)(own:Int->Int)(A B:Int)(i:Nat):Int:=own ((bM g.length a b).getD i 0:Nat)+A*fe a (g.getD ((bM g.length a b).getD i 0) [])+B*fe b (g.getD ((bM g.length a b).getD i 0) [])
def vu(g:List (List Int))(a b:Int)(own:Int->Int)(A B:Int)(j:Nat):Int:=cH (bM g.length a b).length (nA (iy (gf g a b)) j (H6 g a b own A B))
def Ec(g:List (List Int))(a b:Int)(own:Int->Int)(A B:Int)(q:Int):Int:=if q=a then A*jP g a b else if q=b then B*jP g a b else vu g a b own A B ((bM g.length a b).idxOf q.toNat)
theorem ua(x:Nat->Int)(L:Int):∀{i m:Nat},i<m->bG (fun j=>(if i=j then L else 0)*x j) m=L*x i
 |i,m+1,h=>by
  rw[bG]
  by_cases e:i=m
  ·subst e
   rw[je fun j hj=>by rw[if_neg (show¬i=j by omega),Int.zero_mul]]
   rw[if_pos rfl,Int.zero_add]
  ·rw[ua x L (show i<m by omega),if_neg e,Int.zero_mul,Int.add_zero]
theorem kP{g:List (List Int)}{a b:Int}{j:Nat}(hj:j<(bM g.length a b).length):nu (gf g a b) j=((bM g.length a b)[j]:Nat)/\zK (gf g a b) j=g.getD (bM g.length a b)[j] []:=by
 unfold nu zK gf
 rw[List.getD_eq_getElem?_getD,List.getElem?_eq_getElem (by rw[List.length_map];exact hj),List.getElem_map]
 exact⟨rfl,rfl⟩
theorem CP{n:Nat}{a b:Int}{j:Nat}(hj:j<(bM n a b).length):(bM n a b).idxOf (bM n a b)[j]=j:=(CO n a b).idxOf_getElem j hj
theorem Oi{g:List (List Int)}{a b:Int}(own:Int->Int)(A B:Int)(dZ:a≠b):∀l:List Int,(∀x,x∈l->0<=x/\x<(g.length:Int))->pf (Ec g a b own A B) l=A*jP g a b*fe a l+B*jP g a b*fe b l+bG (fun j=>fe (nu (gf g a b) j) l*vu g a b own A B j) (bM g.length a b).length
 |[],_=>by
  rw[pg,je fun j _=>by rw[fe,Int.zero_mul]]
  simp[fe]
 |y::l,h=>by
  have ih:=Oi own A B dZ l fun x hx=>h x (List.mem_cons_of_mem _ hx)
  have hy:=h y List.mem_cons_self
  rw[ie,ih,fe,fe]
  have e1:bG (fun j=>fe (nu (gf g a b) j) (y::l)*vu g a b own A B j) (bM g.length a b).length=bG (fun j=>(if y=nu (gf g a b) j then 1 else 0)*vu g a b own A B j) (bM g.length a b).length+bG (fun j=>fe (nu (gf g a b) j) l*vu g a b own A B j) (bM g.length a b).length:=by
   rw[<-mf]
   exact cC fun j _=>by(try simp only);rw[fe,Int.add_mul]
  rw[e1]
  by_cases ea:y=a
  ·have e2:bG (fun j=>(if y=nu (gf g a b) j then 1 else 0)*vu g a b own A B j) (bM g.length a b).length=0:=je fun j hj=>by
    (try simp only)
    rw[if_neg,Int.zero_mul]
    rw[(kP hj).1]
    have:=(dY.1 (List.getElem_mem hj)).2.1
    omega
   rw[e2]
   unfold Ec
   rw[if_pos ea,if_pos ea,if_neg (by omega),Int.zero_add (fe b l),Int.mul_add,Int.mul_one]
   omega
  ·by_cases eb:y=b
   ·have e2:bG (fun j=>(if y=nu (gf g a b) j then 1 else 0)*vu g a b own A B j) (bM g.length a b).length=0:=je fun j hj=>by
     (try simp only)
     rw[if_neg,Int.zero_mul]
     rw[(kP hj).1]
     have:=(dY.1 (List.getElem_mem hj)).2.2
     omega
    rw[e2]
    unfold Ec
    rw[if_neg ea,if_pos eb,if_neg ea,if_pos eb,Int.zero_add (fe a l),Int.mul_add (B*jP g a b),Int.mul_one]
    omega
   ·have hm:y.toNat∈bM g.length a b:=dY.2 ⟨by omega,by omega,by omega⟩
    have hi:=List.idxOf_lt_length_iff.2 hm
    have e2:bG (fun j=>(if y=nu (gf g a b) j then 1 else 0)*vu g a b own A B j) (bM g.length a b).length=vu g a b own A B ((bM g.length a b).idxOf y.toNat):=by
     have e3:=ua (vu g a b own A B) 1 hi
     rw[Int.one_mul]at e3
     rw[<-e3]
     refine cC fun j hj=> ?_
     (try simp only)
     congr 1
     rw[(kP hj).1]
     by_cases e4:(bM g.length a b).idxOf y.toNat=j
     ·rw[if_pos e4,if_pos]
      subst e4
      rw[List.getElem_idxOf]
      omega
     ·rw[if_neg e4,if_neg]
      intro e5
      apply e4
      rw[show y.toNat=(bM g.length a b)[j] by omega]
      exact CP hj
    rw[e2]
    unfold Ec
    rw[if_neg ea,if_neg eb,if_neg ea,if_neg eb,Int.zero_add (fe a l),Int.zero_add (fe b l)]
    omega
theorem Can.bal{g:List (List Int)}{a b:Int}(C:Can g a b)(own:Int->Int)(A B:Int){p:Nat}(hp:p<g.length)(pa:(p:Int)≠a)(pb:(p:Int)≠b):((g.getD p []).length:Int)*Ec g a b own A B p=pf (Ec g a b own A B) (g.getD p [])+own p*jP g a b:=by
 have hm:p∈bM g.length a b:=dY.2 ⟨hp,pa,pb⟩
 have hi:=List.idxOf_lt_length_iff.2 hm
 have hr:∀x,x∈g.getD p []->0<=x/\x<(g.length:Int):=fun x hx=>by
  rw[aS hp]at hx
  exact(aT C.bE (List.getElem_mem hp)).2 x hx
 have hc:=Wg (iy (gf g a b)) (H6 g a b own A B) hi
 have hg:(bM g.length a b)[(bM g.length a b).idxOf p]=p:=List.getElem_idxOf hi
 have e1:bG (fun j=>iy (gf g a b) ((bM g.length a b).idxOf p) j*cH (bM g.length a b).length (nA (iy (gf g a b)) j (H6 g a b own A B))) (bM g.length a b).length=((g.getD p []).length:Int)*vu g a b own A B ((bM g.length a b).idxOf p)+ -bG (fun j=>fe (nu (gf g a b) j) (g.getD p [])*vu g a b own A B j) (bM g.length a b).length:=by
  rw[<-mh,<-ua (vu g a b own A B) _ hi,<-mf]
  refine cC fun j hj=> ?_
  (try simp only)
  unfold iy
  rw[(kP hi).2,hg,Int.sub_mul,Int.sub_eq_add_neg]
  rfl
 have e2:H6 g a b own A B ((bM g.length a b).idxOf p)=own p+A*fe a (g.getD p [])+B*fe b (g.getD p []):=by
  unfold H6
  rw[show(bM g.length a b).getD ((bM g.length a b).idxOf p) 0=p by rw[List.getD_eq_getElem?_getD,List.getElem?_eq_getElem hi,Option.getD_some,hg]]
 rw[e1,e2]at hc
 rw[Oi own A B C.ne _ hr]
 have e3:Ec g a b own A B p=vu g a b own A B ((bM g.length a b).idxOf p):=by
  unfold Ec
  rw[if_neg pa,if_neg pb]
  rfl
 rw[e3]
 have e4:cH (bM g.length a b).length (iy (gf g a b))=jP g a b:=rfl
 rw[e4,Int.mul_add,Int.mul_add]at hc
 have e5:jP g a b*own p=own p*jP g a b:=Int.mul_comm _ _
 have e6:jP g a b*(A*fe a (g.getD p []))=A*jP g a b*fe a (g.getD p []):=by rw[<-Int.mul_assoc,Int.mul_comm (jP g a b)]
 have e7:jP g a b*(B*fe b (g.getD p []))=B*jP g a b*fe b (g.getD p []):=by rw[<-Int.mul_assoc,Int.mul_comm (jP g a b)]
 rw[e5,e6,e7]at hc
 omega
def zM(g:List (List Int))(a b q:Int):Int:=Ec g a b (fun _=>0) 1 0 q
def stN(g:List (List Int))(a b q:Int):Int:=Ec g a b (fun p=>((g.getD p.toNat []).length:Int)) 0 0 q
theorem Up(g:List (List Int))(a b:Int):zM g a b a=jP g a b:=by unfold zM Ec;rw[if_pos rfl,Int.one_mul]
theorem Uq(g:List (List Int)){a b:Int}(h:a≠b):zM g a b b=0:=by unfold zM Ec;rw[if_neg fun e=>h e.symm,if_pos rfl,Int.zero_mul]
theorem Can.ch{g:List (List Int)}{a b:Int}(C:Can g a b){p:Nat}(hp:p<g.length)(pa:(p:Int)≠a)(pb:(p:Int)≠b):((g.getD p []).length:Int)*zM g a b p=pf (zM g a b) (g.getD p []):=by
 have:=C.bal (fun _=>0) 1 0 hp pa pb
 simp only[Int.zero_mul,Int.add_zero]at this
 exact this
theorem Can.Wj{g:List (List Int)}{a b:Int}(C:Can g a b){p:Nat}(hp:p<g.length):0<=zM g a b p/\zM g a b p<=jP g a b:=by
 have hd:=C.pos
 refine⟨C.low (zM g a b) (by rw[Up];omega) (by rw[Uq g C.ne];omega) (fun p hp pa pb=>by rw[C.ch hp pa pb];exact Int.le_refl _) p hp,?_⟩
 have:=C.low (fun q=>jP g a b+ -1*zM g a b q) (by(try simp only);rw[Up];omega) (by(try simp only);rw[Uq g C.ne];omega) (fun p hp pa pb=>by
  (try simp only)
  rw[Fz,yf,FA,<-C.ch hp pa pb,Int.mul_add]
  rw[Int.mul_left_comm]
  exact Int.le_refl _) p hp
 (try simp only at this)
 omega
theorem Can.st{g:List (List Int)}{a b:Int}(C:Can g a b){p:Nat}(hp:p<g.length)(pa:(p:Int)≠a)(pb:(p:Int)≠b):((g.getD p []).length:Int)*stN g a b p=pf (stN g a b) (g.getD p [])+((g.getD p []).length:Int)*jP g a b:=C.bal (fun p=>((g.getD p.toNat []).length:Int)) 0 0 hp pa pb
@[reducible] def tR:TypeId:=153
@[reducible] def tRs:TypeId:=186
theorem rRs:mX Tryz.prog tRs=some (tR,2,16,[VI 0,VI 0]):=by kernel_rfl
theorem qZ{x:Int}(h: -9223372036854775808<x)(h':x<9223372036854775808):max x (aL (0-x))=(x.natAbs:Int):=by
 rw[aG _ (by omega) (by omega)]
 by_cases e:0<=x
 ·rw[Int.max_eq_left (by omega)];omega
 ·rw[Int.max_eq_right (by omega)];omega
theorem Kk(m k:Nat):Int.tmod (m:Int) (k:Int)=((m%k:Nat):Int):=by rw[Int.ofNat_tmod]
def jW(x d:Int):Int×Int:=(x/(Int.gcd x d:Int),d/(Int.gcd x d:Int))
theorem wH{x d:Int}(h:0<d):0<Int.gcd x d:=Int.gcd_pos_of_ne_zero_right _ (by omega)
theorem Oj{x d:Int}:(Int.gcd x d:Int)*(jW x d).1=x/\(Int.gcd x d:Int)*(jW x d).2=d:=⟨Int.mul_ediv_cancel' (Int.gcd_dvd_left ..),Int.mul_ediv_cancel' (Int.gcd_dvd_right ..)⟩
theorem Kl{x d:Int}:Int.tdiv x (Int.gcd x d:Int)=(jW x d).1/\Int.tdiv d (Int.gcd x d:Int)=(jW x d).2:=⟨Int.tdiv_eq_ediv_of_dvd (Int.gcd_dvd_left ..),Int.tdiv_eq_ediv_of_dvd (Int.gcd_dvd_right ..)⟩
theorem yh{g x y:Int}(hg:0<g)(h:g*x=y):x.natAbs<=y.natAbs:=by
 rw[<-h,Int.natAbs_mul]
 exact Nat.le_mul_of_pos_left _ (by omega)
theorem FD{x d:Int}(h:0<d):(jW x d).1.natAbs<=x.natAbs/\(jW x d).2.natAbs<=d.natAbs:=by
 have hg:=wH (x:=x) h
 have hm:=Oj (x:=x) (d:=d)
 exact⟨yh (by omega) hm.1,yh (by omega) hm.2⟩
theorem abV(a b:Int)(ha: -9223372036854775808<a/\a<9223372036854775808)(hb: -9223372036854775808<b/\b<9223372036854775808)(h:Heap):vf Tryz.prog 263 #[VI a,VI b] h (VI (Int.gcd a b)):=by
 intro K HK
 refine ahU a b h K (B4 _ _ _ _ ⟨_,rfl,B4 _ _ _ _ ⟨_,rfl,?_⟩⟩)
 rw[qZ ha.1 ha.2,qZ hb.1 hb.2]
 refine⟨fun n x y h'=>∃m:Nat,x=m/\y=n/\Nat.gcd m n=Int.gcd a b/\Fr No h h',⟨b.natAbs,a.natAbs,rfl,rfl,rfl,Fr.refl _ _⟩,?_⟩
 rintro n x y h1 ⟨m,rfl,rfl,hg,f1⟩ bY
 refine⟨fun e=> ?_,fun e=> ?_⟩
 ·have e:=bD e
  simp only[decide_eq_false_iff_not]at e
  refine⟨e,m%n,Nat.mod_lt _ (by omega),n,rfl,Kk m n,?_,f1⟩
  rw[<-hg,Nat.gcd_comm m n,Nat.gcd_rec n m,Nat.gcd_comm]
 ·have e:=aZ e
  simp only[decide_eq_true_eq]at e
  have:n=0:=by omega
  subst this
  rw[Nat.gcd_zero_right]at hg
  rw[hg]
  exact HK h1 f1
theorem RN(x d:Int)(hx: -9223372036854775808<x/\x<9223372036854775808)(hd:0<d)(hd2:d<9223372036854775808)(h:Heap):vf Tryz.prog 219 #[VI x,VI d] h (.agg #[VI (jW x d).1,VI (jW x d).2]):=by
 intro K HK
 refine ag8 x d h K fun b1 h1 eD f1 bY=> ?_
 have f1:=f1.aF
 refine abV x d hx ⟨by omega,hd2⟩ h1 _ fun h2 f2=>⟨_,rfl,bY.aB f2,?_⟩
 refine⟨fun y h'=>y=(Int.gcd x d:Int)/\Fr No h h',⟨fun e=>by simp only[decide_eq_true_eq]at e;omega,fun _=>⟨rfl,f1.aA f2⟩⟩,?_⟩
 rintro y h3 ⟨rfl,f3⟩ cF
 have hg:=wH (x:=x) hd
 have ht:=Kl (x:=x) (d:=d)
 have hb:=FD (x:=x) hd
 rw[ht.1,ht.2,aG _ (by omega) (by omega),aG _ (by omega) (by omega)]
 refine⟨by omega,by omega,fun h4 f4 dS=>HK h4 (f3.fresh f4 fun k hk=> ?_)⟩
 simp only[In,List.mem_cons,List.not_mem_nil,or_false]at hk
 omega
theorem Ok(a b:Int)(h:Heap)(K:Value->Heap->Prop)(HK:K (VI (max a b)) h):aE Tryz.prog 122 #[VI a,VI b] h K:=by
 refine abj a b h K ⟨fun e=> ?_,fun e=> ?_⟩
 ·simp only[decide_eq_true_eq]at e
  rw[Int.max_eq_left (by omega)]at HK
  exact HK
 ·simp only[decide_eq_false_iff_not]at e
  rw[Int.max_eq_right (by omega)]at HK
  exact HK
theorem RP(a:Int)(ha: -9223372036854775808<a)(GB:a<9223372036854775808)(h:Heap)(K:Value->Heap->Prop)(HK:K (VI a.natAbs) h):aE Tryz.prog 272 #[VI a] h K:=
 ah9 a h K (Ok _ _ _ _ ⟨_,rfl,.nil,by rw[qZ ha GB];exact HK⟩)
theorem Ly(x d:Int)(hx: -9223372036854775808<x/\x<9223372036854775808)(hd:0<d)(hd2:d<9223372036854775808)(h:Heap):vf Tryz.prog 236 #[VI x,VI d] h (.agg #[VI (jW x d).1,VI (jW x d).2]):=by
 intro K HK
 refine v236 x d h K fun b1 h1 eD f1 bY=> ?_
 have f1:=f1.aF
 refine⟨fun y z h'=>y=x/\z=d/\Fr No h h',⟨fun e=>by simp only[decide_eq_true_eq]at e;omega,fun _=>⟨rfl,rfl,f1⟩⟩,?_⟩
 rintro y z h2 ⟨rfl,rfl,f2⟩ bW
 refine RP y hx.1 hx.2 h2 _ ⟨_,rfl,bW,?_⟩
 refine⟨fun n p q h'=>∃m:Nat,p=m/\q=n/\Nat.gcd m n=Int.gcd y z/\Fr No h h',⟨z.natAbs,y.natAbs,rfl,by omega,rfl,f2⟩,?_⟩
 rintro n p q h3 ⟨m,rfl,rfl,hg,f3⟩ cF
 refine⟨fun e=> ?_,fun e=> ?_⟩
 ·simp only[decide_eq_true_eq]at e
  refine⟨by omega,m%n,Nat.mod_lt _ (by omega),n,rfl,Kk m n,?_,f3⟩
  rw[<-hg,Nat.gcd_comm m n,Nat.gcd_rec n m,Nat.gcd_comm]
 ·simp only[decide_eq_false_iff_not]at e
  have:n=0:=by omega
  subst this
  rw[Nat.gcd_zero_right]at hg
  rw[hg]
  have hg:=wH (x:=y) hd
  have ht:=Kl (x:=y) (d:=z)
  have hb:=FD (x:=y) hd
  rw[ht.1,ht.2,aG _ (by omega) (by omega),aG _ (by omega) (by omega)]
  refine⟨by omega,by omega,fun h4 f4 dS=>HK h4 (f3.fresh f4 fun k hk=> ?_)⟩
  simp only[In,List.mem_cons,List.not_mem_nil,or_false]at hk
  omega
def CQ(g:List (List Int))(a b:Int)(p:Nat):Bool:= !(decide ((ga g p).getD a.toNat 0<0)&&decide ((ga g p).getD b.toNat 0<0))&& !(qg a b p&&decide ((g.getD p []).length=0))
theorem Km{g:List (List Int)}{a b:Int}{p:Nat}(hp:p<g.length)(h:CQ g a b p=false):Oe g a b=false:=List.all_eq_false.2 ⟨p,List.mem_range.2 hp,by unfold CQ at h;rw[h];decide⟩
theorem FE{g:List (List Int)}{a b:Int}(h:∀p,p<g.length->CQ g a b p=true):Oe g a b=true:=List.all_eq_true.2 fun p hp=>h p (List.mem_range.1 hp)
theorem FF{S:Nat->Prop}{h:Heap}{t:Sl}{cT:List Int}(R:aQ S h t cT){b:Int}(b0:0<=b)(b1:b<(cT.length:Int)){x p a l:Int}{KF KN:Prop}(hF:(!(decide (x<0)&&decide (cT.getD b.toNat 0<0))&& !((!decide (p=a)&& !decide (p=b))&&decide (l=0)))=false->KF)(hN:(!(decide (x<0)&&decide (cT.getD b.toNat 0<0))&& !((!decide (p=a)&& !decide (p=b))&&decide (l=0)))=true->KN):
 ((decide (x<0))=true->dQ t b/\∃y:Int,aR h (Sl.at t b 1)=some (VI y)/\((decide (y<0))=true->KF)/\((decide (y<0))=false->((!decide (p=a))=true->((!decide (p=b))=true->((decide (l=0))=true->KF)/\((decide (l=0))=false->KN))/\((!decide (p=b))=false->KN))/\((!decide (p=a))=false->KN)))/\
 ((decide (x<0))=false->((!decide (p=a))=true->((!decide (p=b))=true->((decide (l=0))=true->KF)/\((decide (l=0))=false->KN))/\((!decide (p=b))=false->KN))/\((!decide (p=a))=false->KN)):=by
 refine⟨fun e1=>⟨R.bB b0 b1,_,R.get b0 b1,fun e2=>hF ?_,fun e2=>⟨fun e3=>⟨fun e4=>⟨fun e5=>hF ?_,fun e5=>hN ?_⟩,fun e4=>hN ?_⟩,fun e3=>hN ?_⟩⟩,fun e1=>⟨fun e3=>⟨fun e4=>⟨fun e5=>hF ?_,fun e5=>hN ?_⟩,fun e4=>hN ?_⟩,fun e3=>hN ?_⟩⟩
 all_goals (try rw[<-aN (by omega)]at e2)
 all_goals (rw[e1];(try rw[e2]);(try rw[e3]);(try rw[e4]);(try rw[e5]);first|rfl|simp)
theorem Ol{S:Nat->Prop}{h:Heap}{g:Sl}{aD:List (List Int)}(G:bU S h g aD)(a b:Int):vf Tryz.prog 217 #[.agg #[g.v],VI a,VI b] h (VB (HX aD a b)):=by
 intro K HK
 unfold HX at HK
 refine ag5 g a b h K fun b1 h1 eD f1 bY=> ?_
 have f1:=f1.aF
 refine aP fx (fun k=>h1.size<=k) (fun _ h=>h) 2 (by omega) [VI a,VI b] rfl rfl fun t h2 n2 c2 o2 f2 m2 _=>⟨t,rfl,bY.aB f2,?_⟩
 have o2:aQ (fun k=>h1.size<=k) h2 t [a,b]:=o2.eQ
 have f12:=f1.aA f2
 have bW:=bY.aB f2
 refine rZ (G.no f12) o2 _ fun h3 f3=>⟨_,rfl,bW.aB f3,fun e=> ?_,fun e=> ?_⟩
 all_goals simp only[List.all_cons,List.all_nil,Bool.and_true]at e
 all_goals have f13:=f12.aA f3
 ·have e:=bD e
  have:lx aD a b=false:=by unfold lx;rw[Bool.and_assoc (aM aD),e];rfl
  rw[this,Bool.false_and]at HK
  exact HK h3 f13
 have e:=aZ e
 refine⟨fun e2=> ?_,fun e2=> ?_⟩
 ·have:lx aD a b=false:=by unfold lx;rw[e2,Bool.not_true,Bool.and_false]
  rw[this,Bool.false_and]at HK
  exact HK h3 f13
 have hgo:lx aD a b=true:=by unfold lx;rw[Bool.and_assoc (aM aD),e,e2];rfl
 obtain⟨hg,⟨a0,a1⟩,⟨b0,b1⟩,dZ⟩:=HZ hgo
 rw[hgo,Bool.true_and]at HK
 refine⟨fun n i h'=>0<=i/\i+n=(aD.length:Int)/\(∀q:Nat,(q:Int)<i->CQ aD a b q=true)/\Fr No h h',⟨aD.length,by omega,by omega,fun q hq=>by omega,f13⟩,?_⟩
 rintro n i h4 ⟨i0,i1,i2,f4⟩ dS
 have G4:=G.no f4
 refine⟨fun e3=> ?_,fun e3=> ?_⟩
 ·have hi:=G4.lt e3
  have ei:((i.toNat:Nat):Int)=i:=by omega
  obtain⟨si,ci,ri⟩:=G4.get i0 hi
  have eg:aD.getD i.toNat []=aD[i.toNat]'(by omega):=aS (by omega)
  have ln:=ri.len
  refine⟨G4.bB i0 hi,si,ci,Ba G4 hg i0 hi _ fun t h5 o5 hl f5=>⟨t,rfl,dS.aB f5,?_⟩⟩
  have r5:aQ _ h5 t _:=Ow.eQ o5
  have f45:=f4.aA f5
  have key:∀v,(!(decide ((ga aD i)[a.toNat]'(by omega)<0)&&decide ((ga aD i).getD b.toNat 0<0))&& !((!decide (i=a)&& !decide (i=b))&&decide ((si.n:Int)=0)))=v->CQ aD a b i.toNat=v:=fun v hv=>by
   rw[<-hv]
   unfold CQ qg
   rw[ei,eg,aN (show a.toNat<(ga aD i).length by omega),show decide ((aD[i.toNat]'(by omega)).length=0)=decide ((si.n:Int)=0)from decide_eq_decide.2 ⟨fun _=>by omega,fun _=>by omega⟩]
  refine⟨r5.bB a0 (by omega),_,r5.get a0 (by omega),FF r5 b0 (by omega) (fun hq=> ?_) fun hq=> ?_⟩
  ·rw[Km (by omega) (key _ hq)]at HK
   exact HK h5 f45
  ·rw[G4.succ i0 hi]
   refine⟨n-1,by omega,by omega,by omega,fun q h2=> ?_,f45⟩
   by_cases h3:(q:Int)<i
   ·exact i2 q h3
   ·rw[show q=i.toNat by omega];exact key _ hq
 ·have hi:=G4.ge e3
  rw[FE fun p hp=>i2 p (by omega)]at HK
  exact HK h4 f4
theorem Lz{S:Nat->Prop}{h:Heap}{g:Sl}{aD:List (List Int)}(G:bU S h g aD)(a b:Int):vf Tryz.prog 232 #[.agg #[g.v],VI a,VI b] h (VB (lx aD a b)):=by
 intro K HK
 refine v232 g a b h K fun b1 h1 eD f1 bY=> ?_
 have f1:=f1.aF
 refine cQ (G.no f1) a _ fun h2 f2=>⟨_,rfl,bY.aB f2,fun e=> ?_,fun e=> ?_⟩
 ·refine cQ (G.no (f1.aA f2)) b _ fun h3 f3=>⟨_,rfl,(bY.aB f2).aB f3,fun e2=> ?_,fun e2=> ?_⟩
  ·unfold lx at HK
   rw[e]at HK
   rw[Bool.and_eq_true]at e2
   rw[e2.2]at HK
   exact HK h3 ((f1.aA f2).aA f3)
  ·unfold lx at HK
   rw[Bool.and_eq_true]at e
   rw[e.1,Bool.true_and]at e2
   rw[e2,Bool.and_false,Bool.false_and]at HK
   exact HK h3 ((f1.aA f2).aA f3)
 ·unfold lx at HK
  rw[e]at HK
  exact HK h2 (f1.aA f2)
theorem RQ{S:Nat->Prop}{h:Heap}{g:Sl}{aD:List (List Int)}(G:bU S h g aD){a b:Int}(hgo:lx aD a b=true):vf Tryz.prog 233 #[.agg #[g.v],VI a,VI b] h (VB (Oe aD a b)):=by
 intro K HK
 obtain⟨hg,⟨a0,a1⟩,⟨b0,b1⟩,dZ⟩:=HZ hgo
 refine v233 g a b h K fun b1 h1 eD f1 bY=> ?_
 have f1:=f1.aF
 refine⟨fun n i h'=>0<=i/\i+n=(aD.length:Int)/\(∀q:Nat,(q:Int)<i->CQ aD a b q=true)/\Fr No h h',⟨aD.length,by omega,by omega,fun q hq=>by omega,f1⟩,?_⟩
 rintro n i h4 ⟨i0,i1,i2,f4⟩ dS
 have G4:=G.no f4
 refine⟨fun e3=> ?_,fun e3=> ?_⟩
 ·have hi:=G4.lt e3
  have ei:((i.toNat:Nat):Int)=i:=by omega
  obtain⟨si,ci,ri⟩:=G4.get i0 hi
  have eg:aD.getD i.toNat []=aD[i.toNat]'(by omega):=aS (by omega)
  have ln:=ri.len
  refine⟨G4.bB i0 hi,si,ci,JL G4 hg i0 hi _ fun t h5 o5 hl f5=>⟨t,rfl,dS.aB f5,?_⟩⟩
  have r5:aQ _ h5 t _:=Ow.eQ o5
  have f45:=f4.aA f5
  have key:∀v,(!(decide ((ga aD i)[a.toNat]'(by omega)<0)&&decide ((ga aD i).getD b.toNat 0<0))&& !((!decide (i=a)&& !decide (i=b))&&decide ((si.n:Int)=0)))=v->CQ aD a b i.toNat=v:=fun v hv=>by
   rw[<-hv]
   unfold CQ qg
   rw[ei,eg,aN (show a.toNat<(ga aD i).length by omega),show decide ((aD[i.toNat]'(by omega)).length=0)=decide ((si.n:Int)=0)from decide_eq_decide.2 ⟨fun _=>by omega,fun _=>by omega⟩]
  refine⟨r5.bB a0 (by omega),_,r5.get a0 (by omega),FF r5 b0 (by omega) (fun hq=> ?_) fun hq=> ?_⟩
  ·rw[Km (by omega) (key _ hq)]at HK
   exact HK h5 f45
  ·rw[G4.succ i0 hi]
   refine⟨n-1,by omega,by omega,by omega,fun q h2=> ?_,f45⟩
   by_cases h3:(q:Int)<i
   ·exact i2 q h3
   ·rw[show q=i.toNat by omega];exact key _ hq
 ·have hi:=G4.ge e3
  rw[FE fun p hp=>i2 p (by omega)]at HK
  exact HK h4 f4
theorem Om{S:Nat->Prop}{h:Heap}{g:Sl}{aD:List (List Int)}(G:bU S h g aD)(a b:Int):vf Tryz.prog 185 #[.agg #[g.v],VI a,VI b] h (VB (HX aD a b)):=by
 intro K HK
 unfold HX at HK
 refine agn g a b h K fun b1 h1 eD f1 bY=> ?_
 have f1:=f1.aF
 refine Lz (G.no f1) a b _ fun h2 f2=>⟨_,rfl,bY.aB f2,fun e=> ?_,fun e=> ?_⟩
 ·rw[e,Bool.true_and]at HK
  exact RQ (G.no (f1.aA f2)) e _ fun h3 f3=>⟨_,rfl,(bY.aB f2).aB f3,HK h3 ((f1.aA f2).aA f3)⟩
 ·rw[e,Bool.false_and]at HK
  exact HK h2 (f1.aA f2)
def dO(ps:List Nat)(p:Nat)(l:List Int)(L:Int):List Int:=ps.map fun q:Nat=>(if q=p then L else 0)-fe q l
theorem cP(ps:List Nat)(p:Nat)(l:List Int)(L:Int):(dO ps p l L).length=ps.length:=by unfold dO;rw[List.length_map]
theorem ft{ps:List Nat}{p:Nat}{l:List Int}{L:Int}{j:Nat}(h:j<(dO ps p l L).length):(dO ps p l L)[j]=(if ps[j]'(by rw[cP]at h;exact h)=p then L else 0)-fe (ps[j]'(by rw[cP]at h;exact h):Nat) l:=by simp[dO]
theorem H8(ps:List Nat)(p:Nat):dO ps p [] 0=List.replicate ps.length 0:=by
 apply List.ext_getElem (by rw[cP,List.length_replicate])
 intro j h1 h2
 rw[ft h1,List.getElem_replicate,fe]
 split<;>rfl
theorem CR{ps:List Nat}(nd:ps.Nodup){i j:Nat}(hi:i<ps.length)(hj:j<ps.length)(h:ps[i]=ps[j]):i=j:=by
 have hp:=List.pairwise_iff_getElem.1 nd
 rcases Nat.lt_trichotomy i j with a|a|a
 ·exact absurd h (hp i j hi hj a)
 ·exact a
 ·exact absurd h.symm (hp j i hj hi a)
theorem H9{ps:List Nat}(nd:ps.Nodup){p:Nat}{l:List Int}{L x:Int}{i:Nat}(hi:i<ps.length)(e:((ps[i]:Nat):Int)=x):dO ps p (l++[x]) L=(dO ps p l L).set i ((dO ps p l L).getD i 0-1):=by
 have hl:i<(dO ps p l L).length:=by rw[cP];exact hi
 have hd:=aN hl
 rw[ft hl]at hd
 rw[hd]
 apply List.ext_getElem (by rw[List.length_set,cP,cP])
 intro j h1 h2
 have hj:j<(dO ps p l L).length:=by rw[cP]at h1⊢;exact h1
 have Fb:j<ps.length:=by rw[cP]at hj;exact hj
 rw[ft h1,List.getElem_set,kM,ft hj]
 simp only[fe]
 by_cases c:i=j
 ·subst c
  rw[if_pos (show i=i from rfl),if_pos (show x=((ps[i]:Nat):Int)from e.symm)];omega
 ·rw[if_neg (show¬i=j from c),if_neg (show¬x=((ps[j]:Nat):Int)from fun h=>c (CR nd hi Fb (by omega)))];omega
theorem yi{ps:List Nat}{p:Nat}{l:List Int}{L x:Int}(h:∀q,q∈ps->((q:Nat):Int)≠x):dO ps p (l++[x]) L=dO ps p l L:=by
 unfold dO
 refine List.map_congr_left fun q hq=> ?_
 have hz:(if x=(q:Int)then(1:Int)else 0)=0:=if_neg fun e=>h q hq e.symm
 rw[kM]
 simp only[fe]
 rw[hz];omega
theorem LA{ps:List Nat}(nd:ps.Nodup){l:List Int}{L:Int}{i:Nat}(hi:i<ps.length):dO ps ps[i] l L=(dO ps ps[i] l 0).set i ((dO ps ps[i] l 0).getD i 0+L):=by
 have hl:i<(dO ps ps[i] l 0).length:=by rw[cP];exact hi
 have hd:=aN hl
 rw[ft hl]at hd
 rw[hd]
 apply List.ext_getElem (by rw[List.length_set,cP,cP])
 intro j h1 h2
 have hj:j<(dO ps ps[i] l 0).length:=by rw[cP]at h1⊢;exact h1
 have Fb:j<ps.length:=by rw[cP]at hj;exact hj
 rw[ft h1,List.getElem_set,ft hj]
 by_cases c:i=j
 ·subst c
  rw[if_pos rfl,if_pos rfl,if_pos rfl];omega
 ·rw[if_neg c,if_neg fun h=>c (CR nd hi Fb h.symm),if_neg fun h=>c (CR nd hi Fb h.symm)]
def qy(g:List (List Int))(a b:Int):List (List Int):=(bM g.length a b).map fun p=>dO (bM g.length a b) p (g.getD p []) (g.getD p []).length
def FG(g:List (List Int))(a b:Int)(own:Int->Int)(A B:Int)(p:Nat):Int:=own p+A*fe a (g.getD p [])+B*fe b (g.getD p [])
def my(g:List (List Int))(a b:Int)(own:Int->Int)(A B:Int):List Int:=(bM g.length a b).map (FG g a b own A B)
theorem jX(g:List (List Int))(a b:Int):(qy g a b).length=(bM g.length a b).length/\Sq (bM g.length a b).length (qy g a b):=by
 have e:(qy g a b).length=(bM g.length a b).length:=by unfold qy;rw[List.length_map]
 refine⟨e,e,fun i hi=> ?_⟩
 rw[show(qy g a b)[i]=_ from List.getElem_map _,cP]
theorem CS(g:List (List Int))(a b:Int){i j:Nat}(hi:i<(bM g.length a b).length)(hj:j<(bM g.length a b).length):bS (qy g a b) i j=iy (gf g a b) i j:=by
 have hr:i<(qy g a b).length:=by rw[(jX g a b).1];exact hi
 have er:(qy g a b)[i]=dO (bM g.length a b) (bM g.length a b)[i] (g.getD (bM g.length a b)[i] []) (g.getD (bM g.length a b)[i] []).length:=List.getElem_map _
 unfold bS iy
 rw[aS hr,er,aN (by rw[cP];exact hj),ft (by rw[cP];exact hj),(kP hi).2,(kP hj).1]
 congr 1
 by_cases e:i=j
 ·subst e;rw[if_pos rfl,if_pos rfl]
 ·rw[if_neg e,if_neg fun h=>e (CR (CO _ _ _) hi hj h.symm)]
theorem uc{g:List (List Int)}(hg:aM g=true)(a b:Int):Small (bM g.length a b).length (bS (qy g a b)):=fun i j hi hj=>by
 rw[CS g a b hi hj]
 unfold iy
 rw[(kP hi).2]
 have hp:=(dY.1 (List.getElem_mem hi)).1
 have hb:(g.getD (bM g.length a b)[i] []).length<=5:=by rw[aS hp];exact(aT hg (List.getElem_mem hp)).1
 have:=jh (nu (gf g a b) j) (g.getD (bM g.length a b)[i] [])
 split<;>omega
theorem Kn(g:List (List Int))(a b:Int):cH (bM g.length a b).length (bS (qy g a b))=jP g a b:=dG fun i j hi hj=>CS g a b hi hj
theorem mD(g:List (List Int))(a b:Int)(own:Int->Int)(A B:Int):(my g a b own A B).length=(bM g.length a b).length:=by unfold my;rw[List.length_map]
theorem sH(g:List (List Int))(a b:Int)(own:Int->Int)(A B:Int){i:Nat}(hi:i<(bM g.length a b).length):(my g a b own A B).getD i 0=H6 g a b own A B i:=by
 rw[aN (by rw[mD];exact hi)]
 refine(show(my g a b own A B)[i]'(by rw[mD];exact hi)=FG g a b own A B (bM g.length a b)[i]from List.getElem_map _).trans ?_
 have e1:(bM g.length a b).getD i 0=(bM g.length a b)[i]:=by rw[List.getD_eq_getElem?_getD,List.getElem?_eq_getElem hi,Option.getD_some]
 unfold H6 FG
 rw[e1]
theorem Ia(g:List (List Int))(a b:Int)(own:Int->Int)(A B:Int)(k:Nat):cH (bM g.length a b).length (nA (bS (qy g a b)) k fun i=>(my g a b own A B).getD i 0)=vu g a b own A B k:=by
 refine dG fun i j hi hj=> ?_
 unfold nA
 split
 ·exact sH g a b own A B hi
 ·exact CS g a b hi hj
def sI(rows:List (List Int))(k:Nat)(r:List Int):List (List Int):=rows.zipIdx.map fun t=>t.1.set k (r.getD t.2 0)
theorem kQ(rows:List (List Int))(k:Nat)(r:List Int):(sI rows k r).length=rows.length:=by unfold sI;rw[List.length_map,List.length_zipIdx]
theorem sJ{rows:List (List Int)}{k:Nat}{r:List Int}{i:Nat}(hi:i<rows.length):(sI rows k r)[i]'(by rw[kQ];exact hi)=rows[i].set k (r.getD i 0):=by
 refine(List.getElem_map (l:=rows.zipIdx) _ (h:=by rw[List.length_map,List.length_zipIdx];exact hi)).trans ?_
 rw[List.getElem_zipIdx]
 (try simp only[Nat.zero_add])
theorem Ko{n:Nat}{rows:List (List Int)}(Q:Sq n rows)(k:Nat)(r:List Int):Sq n (sI rows k r):=⟨by rw[kQ];exact Q.len,fun i hi=>by
 rw[kQ]at hi
 rw[sJ hi,List.length_set]
 exact Q.row i hi⟩
theorem FH{n:Nat}{rows:List (List Int)}(Q:Sq n rows){k:Nat}{r:List Int}{i j:Nat}(hi:i<n)(hj:j<n):bS (sI rows k r) i j=nA (bS rows) k (fun i=>r.getD i 0) i j:=by
 have hl:=Q.len
 have iG:i<rows.length:=by omega
 have hr:=Q.row i iG
 have h1:i<(sI rows k r).length:=by rw[kQ];exact iG
 have h2:j<((sI rows k r)[i]'h1).length:=by rw[sJ iG,List.length_set,hr];exact hj
 rw[gA h1 h2]
 have:((sI rows k r)[i]'h1)[j]'h2=(rows[i].set k (r.getD i 0))[j]'(by rw[List.length_set,hr];exact hj):=by congr 1;exact sJ iG
 rw[this,List.getElem_set]
 unfold nA
 by_cases e:k=j
 ·rw[if_pos e,if_pos e.symm]
 ·rw[if_neg e,if_neg fun h=>e h.symm,gA iG (by rw[hr];exact hj)]
theorem q6{n:Nat}{rows:List (List Int)}(Q:Sq n rows)(S:Small n (bS rows)){k:Nat}{r:List Int}(hr:∀i,i<n->(r.getD i 0).natAbs<=10):Small n (bS (sI rows k r)):=fun i j hi hj=>by
 rw[FH Q hi hj]
 unfold nA
 split
 ·exact hr i hi
 ·exact S i j hi hj
theorem yj{n:Nat}{rows:List (List Int)}(Q:Sq n rows)(k:Nat)(r:List Int):cH n (bS (sI rows k r))=cH n (nA (bS rows) k fun i=>r.getD i 0):=dG fun i j hi hj=>FH Q hi hj
theorem Bz{rows:List (List Int)}{k:Nat}{r:List Int}{i:Nat}(hi:i<rows.length):(sI rows k r).take (i+1)=(sI rows k r).take i++[rows[i].set k (r.getD i 0)]:=by
 rw[List.take_succ_eq_append_getElem (by rw[kQ];exact hi),sJ hi]
def yk(g:List (List Int))(a b:Int)(own:Int->Int)(A B:Int)(k:Nat):List Int:=(List.range g.length).map fun q:Nat=>if(q:Int)=a then A*jP g a b else if(q:Int)=b then B*jP g a b else if(bM g.length a b).idxOf q<k then vu g a b own A B ((bM g.length a b).idxOf q)else 0
theorem kR(g:List (List Int))(a b:Int)(own:Int->Int)(A B:Int)(k:Nat):(yk g a b own A B k).length=g.length:=by unfold yk;rw[List.length_map,List.length_range]
theorem sK{g:List (List Int)}{a b:Int}{own:Int->Int}{A B:Int}{k q:Nat}(h:q<(yk g a b own A B k).length):(yk g a b own A B k)[q]=if(q:Int)=a then A*jP g a b else if(q:Int)=b then B*jP g a b else if(bM g.length a b).idxOf q<k then vu g a b own A B ((bM g.length a b).idxOf q)else 0:=by
 refine(List.getElem_map (l:=List.range g.length) _ (h:=h)).trans ?_
 rw[List.getElem_range]
theorem LB{g:List (List Int)}{a b:Int}(own:Int->Int)(A B:Int)(a0:0<=a)(b0:0<=b)(dZ:a≠b):yk g a b own A B 0=((List.replicate g.length 0).set a.toNat (A*jP g a b)).set b.toNat (B*jP g a b):=by
 apply List.ext_getElem (by rw[kR,List.length_set,List.length_set,List.length_replicate])
 intro q h1 h2
 rw[sK h1,List.getElem_set,List.getElem_set,List.getElem_replicate]
 by_cases ea:(q:Int)=a
 ·rw[if_pos ea,if_neg (by omega),if_pos (by omega)]
 ·rw[if_neg ea]
  by_cases eb:(q:Int)=b
  ·rw[if_pos eb,if_pos (by omega)]
  ·rw[if_neg eb,if_neg (by omega),if_neg (by omega),if_neg (by omega)]
theorem LC{g:List (List Int)}{a b:Int}(own:Int->Int)(A B:Int){k:Nat}(hk:k<(bM g.length a b).length):yk g a b own A B (k+1)=(yk g a b own A B k).set ((bM g.length a b)[k]) (vu g a b own A B k):=by
 apply List.ext_getElem (by rw[kR,List.length_set,kR])
 intro q h1 h2
 have h3:q<(yk g a b own A B k).length:=by rw[List.length_set]at h2;exact h2
 have hm:=dY.1 (List.getElem_mem hk)
 rw[sK h1,List.getElem_set,sK h3]
 by_cases e:(bM g.length a b)[k]=q
 ·rw[if_pos e,if_neg (by omega),if_neg (by omega)]
  subst e
  rw[CP hk,if_pos (by omega)]
 ·rw[if_neg e]
  by_cases ea:(q:Int)=a
  ·rw[if_pos ea,if_pos ea]
  ·rw[if_neg ea,if_neg ea]
   by_cases eb:(q:Int)=b
   ·rw[if_pos eb,if_pos eb]
   ·rw[if_neg eb,if_neg eb]
    have hq:q∈bM g.length a b:=dY.2 ⟨by rw[kR]at h3;exact h3,ea,eb⟩
    have hi:=List.idxOf_lt_length_iff.2 hq
    by_cases l:(bM g.length a b).idxOf q<k
    ·rw[if_pos l,if_pos (by omega)]
    ·rw[if_neg l,if_neg]
     intro h
     apply e
     have:(bM g.length a b).idxOf q=k:=by omega
     subst this
     exact List.getElem_idxOf hi
def CU(g:List (List Int))(a b:Int)(own:Int->Int)(A B:Int):List Int:=(List.range g.length).map fun q:Nat=>Ec g a b own A B q
theorem FI(g:List (List Int))(a b:Int)(own:Int->Int)(A B:Int):(CU g a b own A B).length=g.length:=by unfold CU;rw[List.length_map,List.length_range]
theorem FJ{g:List (List Int)}{a b:Int}{own:Int->Int}{A B:Int}{q:Nat}(h:q<(CU g a b own A B).length):(CU g a b own A B)[q]=Ec g a b own A B q:=by
 refine(List.getElem_map (l:=List.range g.length) _ (h:=h)).trans ?_
 rw[List.getElem_range]
theorem On(g:List (List Int))(a b:Int)(own:Int->Int)(A B:Int):yk g a b own A B (bM g.length a b).length=CU g a b own A B:=by
 apply List.ext_getElem (by rw[kR,FI])
 intro q h1 h2
 rw[sK h1,FJ h2]
 unfold Ec
 by_cases ea:(q:Int)=a
 ·rw[if_pos ea,if_pos ea]
 ·rw[if_neg ea,if_neg ea]
  by_cases eb:(q:Int)=b
  ·rw[if_pos eb,if_pos eb]
  ·rw[if_neg eb,if_neg eb,if_pos]
   ·rfl
   ·exact List.idxOf_lt_length_iff.2 (dY.2 ⟨by rw[kR]at h1;exact h1,ea,eb⟩)
theorem BA{g:List (List Int)}(hg:aM g=true){a b:Int}{own:Int->Int}{A B:Int}(hn:(bM g.length a b).length<=7)(hr:∀i,i<(bM g.length a b).length->(H6 g a b own A B i).natAbs<=10)(k:Nat):(vu g a b own A B k).natAbs<=50400000000:=by
 rw[<-Ia,<-yj (jX g a b).2]
 refine Nat.le_trans (mm (q6 (jX g a b).2 (uc hg a b) fun i hi=>by rw[sH g a b own A B hi];exact hr i hi)) ?_
 exact Nat.le_trans (xT hn) (by rw[Wc];exact Nat.le_refl _)
theorem FK{n:Nat}{a b:Int}{i:Nat}(hi:(i:Nat)<n):bM (i+1) a b=if qg a b i then bM i a b++[i]else bM i a b:=by
 unfold bM
 rw[List.range_succ,List.filter_append]
 cases h:qg a b i with
 |true=>rw[if_pos rfl,List.filter_cons_of_pos h,List.filter_nil]
 |false=>rw[if_neg (by decide),List.filter_cons_of_neg (by rw[h];decide),List.filter_nil,List.append_nil]
theorem nB{ps:List Nat}{i:Nat}(h:i<(ps.map fun p:Nat=>(p:Int)).length):(ps.map fun p:Nat=>(p:Int))[i]=((ps[i]'(by rw[List.length_map]at h;exact h):Nat):Int):=List.getElem_map _
theorem gT(x y:Int)(l:List Int):fe x (l++[y])=fe x l+(if y=x then 1 else 0):=by rw[kM];simp only[fe];omega
theorem pi{l:List Int}{a:Int}(h:l.length<=5)(j:Nat):0<=fe a (l.take j)/\fe a (l.take j)<=5:=by
 have:=jh a (l.take j)
 rw[List.length_take]at this
 omega
theorem Oo{A o:Int}(hA:A=0\/A=1)(h0:0<=o)(h5:o<=5):0<=A*o/\A*o<=5:=by
 rcases hA with rfl|rfl<;>omega
set_option maxHeartbeats 4000000 in
theorem Wk{h h8:Heap}{g LD rt inner:Sl}{aD:List (List Int)}{a b:Int}(C:Can aD a b){own:Int->Int}{A B:Int}(hA:A=0\/A=1)(hB:B=0\/B=1)(hr:∀i,i<(bM aD.length a b).length->(H6 aD a b own A B i).natAbs<=10)(gn:g.n=aD.length){b1:Nat}(g8:Fr No h h8)(fO:Vars h8 [(b1,[g.v])])
 (M8:bU (fun k=>k<h8.size) h8 LD (qy aD a b)) (R8:aQ (fun k=>k<h8.size) h8 rt (my aD a b own A B)) (I8:aQ (fun k=>k<h8.size) h8 inner ((bM aD.length a b).map fun p:Nat=>(p:Int))) (K:Value->Heap->Prop) (HK:∀t h',bR h' (Iv h.size h'.size) t (CU aD a b own A B)->Fr No h h'->K (.tuple #[t.v,VI (jP aD a b)]) h'):
 aE Tryz.prog 212 #[(Sl.v LD)] h8 fun abW RR=>∃ud:Int,abW=(VI ud)/\Vars RR [(b1,[(Sl.v g)])]/\
 jQ Tryz.prog (Instr.makeSlice qQ (VI (g.n:Int)) (VI (g.n:Int))) RR fun abX FL=>∃iJ:Sl,abX=(Sl.v iJ)/\Vars FL [(b1,[(Sl.v g)])]/\
 dQ iJ a/\
 dT FL (Sl.at iJ a 1)/\Vars (cK FL (Sl.at iJ a 1) (VI (aL (A*ud)))) [(b1,[(Sl.v g)])]/\
 ∀ue:Heap,ue=cK FL (Sl.at iJ a 1) (VI (aL (A*ud)))->Vars ue [(b1,[(Sl.v g)])]->
 dQ iJ b/\
 dT ue (Sl.at iJ b 1)/\Vars (cK ue (Sl.at iJ b 1) (VI (aL (B*ud)))) [(b1,[(Sl.v g)])]/\
 ∀Oq:Heap,Oq=cK ue (Sl.at iJ b 1) (VI (aL (B*ud)))->Vars Oq [(b1,[(Sl.v g)])]->
 ∃Oa:Nat->Int->Heap->Prop,(∃n0:Nat,Oa n0 0 Oq)/\
 ∀(n_5:Nat)(lR:Int)(lS:Heap),Oa n_5 lR lS->Vars lS [(b1,[(Sl.v g)])]->
 ((decide (lR<(inner.n:Int)))=true->
 dQ inner lR/\
 ∃yl:Int,aR lS (Sl.at inner lR 1)=some (VI yl)/\
 jQ Tryz.prog (Instr.buildSlice ng 0 #[]) lS fun abY CV=>∃Ot:Sl,abY=(Sl.v Ot)/\Vars CV [(b1,[(Sl.v g)])]/\
 ∃We:Nat->Sl->Int->Heap->Prop,(∃n0:Nat,We n0 Ot 0 CV)/\
 ∀(n_6:Nat)(uf:Sl)(pj:Int)(CW:Heap),We n_6 uf pj CW->Vars CW [(b1,[(Sl.v g)])]->
 ((decide (pj<(LD.n:Int)))=true->
 dQ LD pj/\
 ∃Ou:Sl,aR CW (Sl.at LD pj 1)=some (Sl.v Ou)/\
 aE Tryz.prog 152 #[(Sl.v Ou)] CW fun abZ CX=>∃ug:Sl,abZ=(Sl.v ug)/\Vars CX [(b1,[(Sl.v g)])]/\
 dQ rt pj/\
 ∃Ib:Int,aR CX (Sl.at rt pj 1)=some (VI Ib)/\
 dQ ug lR/\
 dT CX (Sl.at ug lR 1)/\Vars (cK CX (Sl.at ug lR 1) (VI Ib)) [(b1,[(Sl.v g)])]/\
 ∀sL:Heap,sL=cK CX (Sl.at ug lR 1) (VI Ib)->Vars sL [(b1,[(Sl.v g)])]->
 jQ Tryz.prog (Instr.buildSlice ng 1 #[(0,(Sl.v ug))]) sL fun ab0 sM=>∃Ov:Sl,ab0=(Sl.v Ov)/\Vars sM [(b1,[(Sl.v g)])]/\
 jQ Tryz.prog (bK ng ng ng (Sl.v uf) (Sl.v Ov)) sM fun ab1 ym=>∃Ox:Sl,ab1=(Sl.v Ox)/\Vars ym [(b1,[(Sl.v g)])]/\
 ∃m:Nat,m<n_6/\We m Ox (aL (pj+1)) ym)/\
 ((decide (pj<(LD.n:Int)))=false->
 aE Tryz.prog 212 #[(Sl.v uf)] CW fun ab2 FM=>∃Ic:Int,ab2=(VI Ic)/\Vars FM [(b1,[(Sl.v g)])]/\
 dQ iJ yl/\
 dT FM (Sl.at iJ yl 1)/\Vars (cK FM (Sl.at iJ yl 1) (VI Ic)) [(b1,[(Sl.v g)])]/\
 ∀CY:Heap,CY=cK FM (Sl.at iJ yl 1) (VI Ic)->Vars CY [(b1,[(Sl.v g)])]->
 ∃m:Nat,m<n_5/\Oa m (aL (lR+1)) CY))/\
 ((decide (lR<(inner.n:Int)))=false->
 K (Value.tuple #[(Sl.v iJ),(VI ud)]) lS):=by
 have hg:=C.bE
 have gl:=aO hg
 have il:=sG C.a0 C.a1 C.b0 C.b1 C.ne
 have l1:b1<h8.size:=fO.head.lt
 have tq:∀{F:Nat->Prop},(∀k,F k->h8.size<=k)->∀p,p∈[(b1,[g.v])]->¬F p.1:=fun hF p hp hk=>by
  simp only[List.mem_cons,List.not_mem_nil,or_false]at hp
  subst hp
  have:=hF _ hk
  (try simp only at this)
  omega
 have NC:∀q,q∈bM aD.length a b->q<aD.length:=fun q hq=>(dY.1 hq).1
 have hQ:=(jX aD a b).2
 have hS:=uc hg a b
 have hDe:=Kn aD a b
 have hCe:=Ia aD a b own A B
 have hz0:=LB (g:=aD) own A B C.a0 C.b0 C.ne
 have MD:=fun k hk=>LC (g:=aD) (a:=a) (b:=b) own A B (k:=k) hk
 have VF:=On aD a b own A B
 have hRb:∀i,i<(bM aD.length a b).length->((my aD a b own A B).getD i 0).natAbs<=10:=fun i hi=>by rw[sH aD a b own A B hi];exact hr i hi
 have dn:=C.den
 have ml:=(jX aD a b).1
 have rl:=mD aD a b own A B
 generalize bM aD.length a b=ps at*
 have Ur:(ps.map fun p:Nat=>(p:Int)).length=ps.length:=List.length_map _
 have hQ':Sq (qy aD a b).length (qy aD a b):=by rw[ml];exact hQ
 have hS':Small (qy aD a b).length (bS (qy aD a b)):=by rw[ml];exact hS
 refine lQ M8 hQ' (by omega) hS' _ fun GH f22=>⟨_,rfl,fO.aB f22,?_⟩
 rw[ml,hDe]
 have z22:=f22.size
 refine eA fx (fun k=>GH.size<=k) (fun _ h=>h) .i64 .i64 g.n g.n (Nat.le_refl _) (by omega) fun t Qe n23 c23 o23 f23 m23 _=>⟨t,rfl,(fO.aB f22).aB f23,?_⟩
 have z23:=f23.size
 have ai1:=(fO.aB f22).aB f23
 have o23:bR Qe (Iv GH.size Qe.size) t (List.replicate aD.length 0):=by
  have e:(List.replicate g.n [VI 0]).flatten=(List.replicate aD.length (0:Int)).map VI:=by rw[gn];simp[List.flatten_replicate_singleton]
  rw[e]at o23;exact Ow.fV o23
 have Wl:∀p,p∈[(b1,[g.v])]->¬Iv GH.size Qe.size p.1:=tq fun k hk=>by have:=hk.1;omega
 refine fW o23 C.a0 (by rw[List.length_replicate];exact C.a1) ai1 Wl _ fun h24 o24 f24 V24=> ?_
 refine fW o24 C.b0 (by rw[List.length_set,List.length_replicate];exact C.b1) V24 Wl _ fun K7 o25 f25 V25=> ?_
 have wd:∀X:Int,X=0\/X=1->aL (X*jP aD a b)=X*jP aD a b:=fun X hX=>aG _ (by rcases hX with rfl|rfl<;>omega) (by rcases hX with rfl|rfl<;>omega)
 rw[wd A hA,wd B hB,<-hz0]at o25
 have ab3:=f24.trans f25
 have M23:bU (fun k=>k<GH.size) Qe LD (qy aD a b):=((M8.no f22).no f23).mono fun k hk=>by omega
 have R23:aQ (fun k=>k<GH.size) Qe rt (my aD a b own A B):=((R8.no f22).no f23).mono fun k hk=>by omega
 have I23:aQ (fun k=>k<GH.size) Qe inner (ps.map fun p:Nat=>(p:Int)):=((I8.no f22).no f23).mono fun k hk=>by omega
 refine⟨fun m k h'=>0<=k/\k+m=(ps.length:Int)/\bR h' (Iv GH.size Qe.size) t (yk aD a b own A B k.toNat)/\Fr (fun q=>GH.size<=q) Qe h',⟨ps.length,Int.le_refl _,by omega,o25,ab3.mono fun q _ hq=>hq.1⟩,?_⟩
 rintro m3 k vm ⟨k0,k1,o26,f26⟩ tJ
 have z26:=f26.size
 have g26:Fr No h vm:=(((g8.aA f22).aA f23)).fresh f26 fun q hq=>by have:=g8.size;omega
 have Oy:∀{T:Nat->Prop}{x y:Heap},Fr T x y->(∀q,T q->GH.size<=q)->∀q,q<GH.size->¬T q:=fun _ hT q hq hk=>by have:=hT q hk;omega
 have M26:=M23.fr f26 (Oy f26 fun q hq=>hq)
 have R26:=R23.fr f26 (Oy f26 fun q hq=>hq)
 have I26:=I23.fr f26 (Oy f26 fun q hq=>hq)
 refine⟨fun e3=> ?_,fun e3=> ?_⟩
 ·have hk:=I26.lt e3
  have Qd:k.toNat<ps.length:=by omega
  have cI:=I26.get k0 hk
  rw[nB]at cI
  have hpm:=List.getElem_mem Qd
  have Ie:=NC _ hpm
  have Wm:=MD k.toNat Qd
  refine⟨I26.bB k0 hk,_,cI,?_⟩
  refine aP qb (fun q=>vm.size<=q) (fun _ h=>h) 0 (by omega) [] rfl rfl fun ot Re n27 c27 Nz f27 m27 _=>⟨ot,rfl,tJ.aB f27,?_⟩
  have ai3:gO Re (fun q=>vm.size<=q) ot []:=⟨[],rfl,Nz,fun i h1=>by simp at h1,fun i j h1=>by simp at h1,fun i h1=>by simp at h1⟩
  refine⟨fun m x i h'=>0<=i/\i+m=(ps.length:Int)/\gO h' (fun q=>vm.size<=q) x ((sI (qy aD a b) k.toNat (my aD a b own A B)).take i.toNat)/\Fr (fun q=>vm.size<=q) vm h',⟨ps.length,Int.le_refl _,by omega,ai3,f27.aB⟩,?_⟩
  rintro m4 x i h28 ⟨i0,i1,o28,f28⟩ LF
  have z28:=f28.size
  have M28:=M26.fr f28 (Oy f28 fun q hq=>by omega)
  have R28:=R26.fr f28 (Oy f28 fun q hq=>by omega)
  refine⟨fun e4=> ?_,fun e4=> ?_⟩
  ·have hi:=M28.lt e4
   obtain⟨si,ci,ri⟩:=M28.get i0 hi
   have ai4:=hQ'.row i.toNat (by omega)
   refine⟨M28.bB i0 hi,si,ci,wi ri (by omega) _ fun t2 h29 o29 f29=>⟨t2,rfl,LF.aB f29,?_⟩⟩
   have R29:=R28.no f29
   have z29:=f29.size
   refine⟨R29.bB i0 (by omega),_,R29.get i0 (by omega),fW (o29.mono (F':=fun q=>h28.size<=q) fun q _ hq=>hq.1) k0 (by omega) (LF.aB f29) (tq fun q hq=>by omega) _ fun h30 o30 f30 V30=> ?_⟩
   have z30:=f30.size
   refine jJ (lo:=vm.size) (m:=h28.size) (dR.fr (dR.fV o28) (f29.aB.trans f30) fun q _ hq gI=>by have:=hq.2;omega) o30 z28 (by omega) V30 (fun p hp=>by simp only[List.mem_cons,List.not_mem_nil,or_false]at hp;subst hp;show b1<vm.size;omega) (by rw[List.length_take];omega) _ fun t3 VA o32 f32 V32=> ?_
   rw[M28.succ i0 hi]
   refine⟨m4-1,by omega,by omega,by omega,?_,((f28.trans f29.aB).trans (f30.mono fun q _ hq=>by omega)).trans f32⟩
   rw[show(i+1).toNat=i.toNat+1 by omega,Bz (by omega),aN (by omega)]
   exact o32
  ·have hi:=M28.ge e4
   have pl:=kQ (qy aD a b) k.toNat (my aD a b own A B)
   rw[List.take_of_length_le (by omega)]at o28
   have Qp:=Ko hQ k.toNat (my aD a b own A B)
   have Sp:=q6 hQ hS (k:=k.toNat) hRb
   have dp:=yj hQ k.toNat (my aD a b own A B)
   rw[hCe]at dp
   refine lQ (dR.rd o28) (by rw[pl,ml];exact Qp) (by omega) (by rw[pl,ml];exact Sp) _ fun h33 f33=>⟨_,rfl,LF.aB f33,?_⟩
   rw[pl,ml,dp]
   have Us:=f28.trans f33.aB
   have o33:bR h33 (Iv GH.size Qe.size) t (yk aD a b own A B k.toNat):=o26.fr Us fun q hq gI=>by have:=(o26.aH hq).1.2;omega
   refine fW o33 (i:=((ps[k.toNat]' Qd:Nat):Int)) (by omega) (by rw[kR];omega) (LF.aB f33) Wl _ fun h34 o34 f34 V34=> ?_
   rw[I26.succ k0 hk]
   refine⟨m3-1,by omega,by omega,by omega,?_,(f26.trans (Us.mono fun q _ hq=>by omega)).trans (f34.mono fun q _ hq=>hq.1)⟩
   rw[show(k+1).toNat=k.toNat+1 by omega,Wm]
   simp only[Int.toNat_natCast]at o34
   exact o34
 ·have hk:=I26.ge e3
  rw[show k.toNat=ps.length by omega,VF]at o26
  exact HK t vm (o26.mono fun q _ hq=>⟨by have:=hq.1;have:=g8.size;omega,by have:=hq.2;omega⟩) g26
set_option maxHeartbeats 4000000 in
theorem Oz{S:Nat->Prop}{h:Heap}{g:Sl}{aD:List (List Int)}(G:bU S h g aD){a b:Int}(C:Can aD a b)(ow:Value)(own:Int->Int){A B:Int}(hA:A=0\/A=1)(hB:B=0\/B=1)(hw:∀p:Nat,0<=own p/\own p<=5)(hr:∀i,i<(bM aD.length a b).length->(H6 aD a b own A B i).natAbs<=10)
 (hO:∀(p:Nat)(h':Heap)(K':Value->Heap->Prop),p<aD.length->Fr No h h'->K' (VI (own p)) h'->fA Tryz.prog ow [VI p] h' K') (K:Value->Heap->Prop) (HK:∀t h',bR h' (Iv h.size h'.size) t (CU aD a b own A B)->Fr No h h'->K (.tuple #[t.v,VI (jP aD a b)]) h'):aE Tryz.prog 261 #[.agg #[g.v],VI a,VI b,ow,VI A,VI B] h K:=by
 have hg:=C.bE
 have gl:=aO hg
 have dZ:=C.ne
 have il:=sG C.a0 C.a1 C.b0 C.b1 C.ne
 refine ahQ g a b ow A B h K fun b1 h1 eD f1 bY=> ?_
 have f1:=f1.aF
 have z1:=f1.size
 have l1:b1<h1.size:=bY.head.lt
 have tq:∀{F:Nat->Prop},(∀k,F k->h1.size<=k)->∀p,p∈[(b1,[g.v])]->¬F p.1:=fun hF p hp hk=>by
  simp only[List.mem_cons,List.not_mem_nil,or_false]at hp
  subst hp
  have:=hF _ hk
  (try simp only at this)
  omega
 refine aP fx (fun k=>h1.size<=k) (fun _ h=>h) 0 (by omega) [] rfl rfl fun u h2 n2 c2 o2 f2 m2 _=>⟨u,rfl,bY.aB f2,?_⟩
 refine⟨fun m x p h'=>0<=p/\p+m=(aD.length:Int)/\bR h' (fun k=>h1.size<=k) x ((bM p.toNat a b).map fun p:Nat=>(p:Int))/\Fr (fun k=>h1.size<=k) h1 h',⟨aD.length,Int.le_refl _,by omega,o2,f2.aB⟩,?_⟩
 rintro m inner p h3 ⟨p0,p1,o3,f3⟩ cF
 have g3:=f1.fresh f3 fun k hk=>by omega
 have gn:=G.len
 refine⟨fun e=> ?_,fun e=> ?_⟩
 ·have hp:=G.lt e
  have eit:=FK (a:=a) (b:=b) (show p.toNat<p.toNat+1 by omega)
  rw[G.succ p0 hp]
  have next:qg a b p.toNat=false->∃m':Nat,m'<m/\0<=p+1/\p+1+m'=(aD.length:Int)/\bR h3 (fun k=>h1.size<=k) inner ((bM (p+1).toNat a b).map fun p:Nat=>(p:Int))/\Fr (fun k=>h1.size<=k) h1 h3:=fun hi=>by
   rw[show(p+1).toNat=p.toNat+1 by omega,eit,hi]
   exact⟨m-1,by omega,by omega,by omega,o3,f3⟩
  refine⟨fun e2=>⟨fun e3=> ?_,fun e3=>next ?_⟩,fun e2=>next ?_⟩
  ·have e2:=bD e2
   have e3:=bD e3
   simp only[decide_eq_false_iff_not]at e2 e3
   have hi:qg a b p.toNat=true:=kO.2 ⟨by omega,by omega⟩
   refine sv (lo:=h1.size) o3 f3.size cF (fun p hp=>by simp only[List.mem_cons,List.not_mem_nil,or_false]at hp;subst hp;exact l1) (by rw[List.length_map];unfold bM;have:=List.length_filter_le (qg a b) (List.range p.toNat);rw[List.length_range]at this;omega) _ fun t h4 o4 f4 V4=> ?_
   refine⟨m-1,by omega,by omega,by omega,?_,f3.trans f4⟩
   rw[show(p+1).toNat=p.toNat+1 by omega,eit,hi,if_pos rfl,List.map_append,List.map_cons,List.map_nil,Int.toNat_of_nonneg p0]
   exact o4
  ·have e3:=aZ e3
   simp only[decide_eq_true_eq]at e3
   exact Bool.eq_false_iff.2 fun h=>(kO.1 h).2 (by omega)
  ·have e2:=aZ e2
   simp only[decide_eq_true_eq]at e2
   exact Bool.eq_false_iff.2 fun h=>(kO.1 h).1 (by omega)
 have hp:=G.ge e
 rw[show p.toNat=aD.length by omega]at o3
 have rI:aQ (fun k=>k<h3.size) h3 inner ((bM aD.length a b).map fun p:Nat=>(p:Int)):=aQ.low o3.eQ
 have mn:∀q,q∈bM aD.length a b->(q:Int)≠a/\(q:Int)≠b:=fun q hq=>(dY.1 hq).2
 have NC:∀q,q∈bM aD.length a b->q<aD.length:=fun q hq=>(dY.1 hq).1
 have hMg:∀(i:Nat)(h:i<(bM aD.length a b).length),(qy aD a b).getD i []=dO (bM aD.length a b) (bM aD.length a b)[i] (aD.getD (bM aD.length a b)[i] []) (aD.getD (bM aD.length a b)[i] []).length:=fun i h=>(aS (by rw[(jX aD a b).1];exact h)).trans (List.getElem_map _)
 have hRg:∀(i:Nat)(h:i<(bM aD.length a b).length),(my aD a b own A B).getD i 0=FG aD a b own A B (bM aD.length a b)[i]:=fun i h=>(aN (by rw[mD];exact h)).trans (List.getElem_map _)
 have dn:=C.den
 have ml:=(jX aD a b).1
 have rl:=mD aD a b own A B
 have hr':∀i,i<(bM aD.length a b).length->(H6 aD a b own A B i).natAbs<=10:=hr
 clear hr
 generalize OA:bM aD.length a b=ps at mn NC hMg hRg il ml rl o3 rI
 have nd:ps.Nodup:=by rw[<-OA];exact CO _ _ _
 have z3:=f3.size
 refine aP qb (fun k=>h3.size<=k) (fun _ h=>h) 0 (by omega) [] rfl rfl fun m0 h6 n6 c6 o6 f6 m6 _=>⟨m0,rfl,cF.aB f6,?_⟩
 refine aP fx (fun k=>h6.size<=k) (fun _ h=>h) 0 (by omega) [] rfl rfl fun r0 h7 n7 c7 o7 f7 m7 _=>⟨r0,rfl,(cF.aB f6).aB f7,?_⟩
 have z6:=f6.size
 have z7:=f7.size
 refine⟨fun m LD rt i h'=>0<=i/\i+m=(ps.length:Int)/\gO h' (fun k=>h3.size<=k/\¬rt.own k) LD ((qy aD a b).take i.toNat)/\bR h' (fun k=>h3.size<=k) rt ((my aD a b own A B).take i.toNat)/\Fr (fun k=>h3.size<=k) h3 h',⟨ps.length,Int.le_refl _,by omega,⟨[],rfl,(o6.no f7).mono fun k hk hF=>⟨hF,fun hr=> ?_⟩,fun i h1=>by simp at h1,fun i j h1=>by simp at h1,fun i h1=>by simp at h1⟩,o7.mono fun k _ hk=>by omega,f6.aB.trans f7.aB⟩,?_⟩
 ·have h1:=(o6.aH hk).2
  have h2:=(o7.aH hr).1
  (try simp only at h2)
  omega
 rintro m LD rt i h8 ⟨i0,i1,om,or',f8⟩ fO
 have g8:=(g3.fresh f8 fun k hk=>by have:=g3.size;omega)
 have z8:=f8.size
 have Wn:=rI.fr f8 fun k hk aI=>by omega
 have Ur:(ps.map fun p:Nat=>(p:Int)).length=ps.length:=List.length_map _
 refine⟨fun e2=> ?_,fun e2=> ?_⟩
 ·have hi:=Wn.lt e2
  have iG:i.toNat<ps.length:=by omega
  have cI:=Wn.get i0 hi
  rw[nB]at cI
  have hpm:=List.getElem_mem iG
  have Ie:=NC _ hpm
  have gI:=mn _ hpm
  generalize hP:ps[i.toNat]' iG=P at cI hpm Ie gI
  have mi:LD.n=i.toNat:=by have:=om.len;rw[List.length_take]at this;omega
  refine⟨Wn.bB i0 hi,_,cI,?_⟩
  have Ut:inner.n=ps.length:=by have:=rI.len;rw[Ur]at this;exact this
  have gm:=aT hg (List.getElem_mem Ie)
  have eg:aD.getD P []=aD[P]:=aS Ie
  refine⟨fun x s h'=>bR h' (fun k=>h8.size<=k) x (List.replicate ps.length 0)/\s=own P/\Fr No h8 h',⟨?_,?_⟩,?_⟩
  ·refine eA fx (fun k=>h8.size<=k) (fun _ h=>h) .i64 .i64 inner.n inner.n (Nat.le_refl _) (by omega) fun t h9 n9 c9 o9 f9 m9 _=>⟨t,rfl,fO.aB f9,?_⟩
   refine hO P h9 _ Ie (g8.aA f9) ⟨_,rfl,fO.aB f9,?_,rfl,f9⟩
   have e:(List.replicate inner.n [VI 0]).flatten=(List.replicate ps.length (0:Int)).map VI:=by rw[Ut];simp[List.flatten_replicate_singleton]
   rw[e]at o9;exact o9
  ·refine hO P h8 _ Ie g8 ⟨_,rfl,fO,?_⟩
   refine eA fx (fun k=>h8.size<=k) (fun _ h=>h) .i64 .i64 inner.n inner.n (Nat.le_refl _) (by omega) fun t h9 n9 c9 o9 f9 m9 _=>⟨t,rfl,fO.aB f9,?_,rfl,f9⟩
   have e:(List.replicate inner.n [VI 0]).flatten=(List.replicate ps.length (0:Int)).map VI:=by rw[Ut];simp[List.flatten_replicate_singleton]
   rw[e]at o9;exact o9
  rintro x s qR ⟨Lv,rfl,f13⟩ K1
  have G8:=G.no g8
  obtain⟨sp,cp8,rp8⟩:=G8.get (i:=(P:Int)) (by omega) (by omega)
  simp only[Int.toNat_natCast]at rp8
  have ln:=rp8.len
  have cpk:∀{h':Heap},Fr (fun k=>h8.size<=k) h8 h'->aR h' (g.at (P:Int) 1)=some sp.v:=fun f=>dD cp8 f (by have:=oC cp8;omega)
  have bB:=G8.bB (i:=(P:Int)) (by omega) (by omega)
  refine⟨bB,sp,cpk f13.aB,?_⟩
  rw[<-H8 ps P]at Lv
  refine⟨fun m2 s j h'=>0<=j/\j+m2=(aD[P].length:Int)/\s=own P+A*fe a (aD[P].take j.toNat)+B*fe b (aD[P].take j.toNat)/\bR h' (fun k=>h8.size<=k) x (dO ps P (aD[P].take j.toNat) 0)/\Fr (fun k=>h8.size<=k) h8 h',⟨aD[P].length,Int.le_refl _,by omega,by simp[fe],by simpa using Lv,f13.aB⟩,?_⟩
  rintro m2 s j LG ⟨j0,j1,rfl,Wo,f14⟩ LH
  have OB:=rp8.low.fr f14 fun k hk aI=>by omega
  have wP:=hw P
  have oa:=Oo hA (pi gm.1 j.toNat).1 (pi (a:=a) gm.1 j.toNat).2
  have ob:=Oo hB (pi gm.1 j.toNat).1 (pi (a:=b) gm.1 j.toNat).2
  have L9:=cP ps P (aD[P].take j.toNat) 0
  refine⟨fun e3=> ?_,fun e3=> ?_⟩
  ·have hj:=OB.lt e3
   have hv:=gm.2 _ (List.getElem_mem (show j.toNat<aD[P].length by omega))
   have hc:=OB.get j0 hj
   have tk:aD[P].take (j+1).toNat=_:=dX _ j0 hj
   generalize aD[P][j.toNat]'(by omega)=v at hv hc tk
   rw[OB.succ j0 hj]
   have nxt:∀(s':Int)(h':Heap),s'=own P+A*fe a (aD[P].take (j+1).toNat)+B*fe b (aD[P].take (j+1).toNat)->bR h' (fun k=>h8.size<=k) x (dO ps P (aD[P].take (j+1).toNat) 0)->Fr (fun k=>h8.size<=k) h8 h'->∃m':Nat,m'<m2/\0<=j+1/\j+1+m'=(aD[P].length:Int)/\s'=own P+A*fe a (aD[P].take (j+1).toNat)+B*fe b (aD[P].take (j+1).toNat)/\bR h' (fun k=>h8.size<=k) x (dO ps P (aD[P].take (j+1).toNat) 0)/\Fr (fun k=>h8.size<=k) h8 h':=fun s' h' a1 a2 a3=>⟨m2-1,by omega,by omega,by omega,a1,a2,a3⟩
   refine⟨OB.bB j0 hj,_,hc,fun e4=> ?_,fun e4=>⟨fun e5=> ?_,fun e5=> ?_⟩⟩
   ·simp only[decide_eq_true_eq]at e4
    refine nxt _ _ ?_ ?_ f14
    ·rw[tk,gT,gT,if_pos e4,if_neg (by omega),aG _ (by omega) (by omega),Int.mul_add,Int.mul_one,Int.add_zero]
     omega
    ·rw[tk,yi fun q hq=>by rw[e4];exact(mn q hq).1]
     exact Wo
   ·simp only[decide_eq_true_eq,decide_eq_false_iff_not]at e4 e5
    refine nxt _ _ ?_ ?_ f14
    ·rw[tk,gT,gT,if_neg e4,if_pos e5,aG _ (by omega) (by omega),Int.mul_add B,Int.mul_one,Int.add_zero]
     omega
    ·rw[tk,yi fun q hq=>by rw[e5];exact(mn q hq).2]
     exact Wo
   ·simp only[decide_eq_false_iff_not]at e4 e5
    have ai7:=Wn.fr f14 fun k hk aI=>by omega
    refine xJ ai7 v _ (fun hn=>absurd ?_ hn) fun q hq ev _=>⟨_,rfl,LH,?_⟩
    ·rw[List.mem_map]
     exact⟨v.toNat,by rw[<-OA];exact dY.2 ⟨by omega,by omega,by omega⟩,by omega⟩
    rw[Ur]at hq
    rw[aN (by rw[Ur];exact hq),nB]at ev
    have Uu:=Wo.eQ
    have hql:q<(dO ps P (aD[P].take j.toNat) 0).length:=by rw[L9];exact hq
    refine⟨aQ.bB Uu (by omega) (by omega),_,aQ.get Uu (i:=(q:Int)) (by omega) (by omega),fW (F:=fun k=>h8.size<=k) Wo (i:=(q:Int)) (by omega) (by omega) LH (tq fun k hk=>by omega) _ fun Wp o16 f16 V16=> ?_⟩
    refine nxt _ _ ?_ ?_ (f14.trans f16)
    ·rw[tk,gT,gT,if_neg e4,if_neg e5,Int.add_zero,Int.add_zero]
    ·rw[tk,H9 nd hq ev,aN hql]
     simp only[Int.toNat_natCast]at o16
     have hb:aL ((dO ps P (aD[P].take j.toNat) 0)[q]-1)=(dO ps P (aD[P].take j.toNat) 0)[q]-1:=by
      rw[ft]
      have:=pi (a:=((ps[q]:Nat):Int)) gm.1 j.toNat
      exact aG _ (by split<;>omega) (by split<;>omega)
     rw[hb]at o16
     exact o16
  ·have hj:=OB.ge e3
   rw[List.take_of_length_le (by omega)]at Wo oa ob L9
   have Uu:=Wo.eQ
   have Un:i.toNat<(dO ps P aD[P] 0).length:=by rw[L9];exact iG
   have mI:(LD.n:Int)=i:=by omega
   rw[mI,List.take_of_length_le (by omega)]
   refine⟨aQ.bB Uu i0 (by omega),_,aQ.get Uu i0 (by omega),bB,sp,cpk f14,fW (F:=fun k=>h8.size<=k) Wo i0 (by omega) LH (tq fun k hk=>by omega) _ fun h17 o17 f17 V17=> ?_⟩
   have abD:(dO ps P aD[P] 0).set i.toNat (aL ((dO ps P aD[P] 0)[i.toNat]' Un+(sp.n:Int)))=dO ps P (aD.getD P []) (aD.getD P []).length:=by
    have h1:=LA (l:=aD[P]) (L:=(aD[P].length:Int)) nd iG
    rw[hP]at h1
    rw[eg,h1,aN Un]
    congr 1
    rw[ft]
    have:=pi (a:=((ps[i.toNat]:Nat):Int)) gm.1 aD[P].length
    rw[List.take_length]at this
    have:=gm.1
    exact(aG _ (by split<;>omega) (by split<;>omega)).trans (by omega)
   rw[abD]at o17
   have OC:=f14.trans f17
   have z17:=OC.size
   have aoM:=dR.fr om OC fun k hk _ aI=>by omega
   have Wq:(qy aD a b).take (i+1).toNat=(qy aD a b).take i.toNat++[dO ps P (aD.getD P []) (aD.getD P []).length]:=by
    rw[show(i+1).toNat=i.toNat+1 by omega,List.take_succ_eq_append_getElem (by omega)]
    rw[<-aS (by omega),hMg i.toNat iG,hP]
   have Wr:(my aD a b own A B).take (i+1).toNat=(my aD a b own A B).take i.toNat++[own P+A*fe a aD[P]+B*fe b aD[P]]:=by
    rw[show(i+1).toNat=i.toNat+1 by omega,List.take_succ_eq_append_getElem (by omega),<-aN (by omega),hRg i.toNat iG,hP]
    unfold FG
    rw[eg]
   have rtl:∀{k},rt.own k->k<h8.size:=fun hk=>(or'.aH hk).2
   refine xQ (F:=fun k=>h3.size<=k/\¬rt.own k) (m:=h8.size) (dR.fr (om.mono fun k hk hF=>(⟨hF,hk⟩:(h3.size<=k/\¬rt.own k)/\k<h8.size)) OC fun k _ hk aI=>by have:=hk.2;omega) o17 (fun k hk=>⟨by omega,fun aI=>by have:=rtl aI;omega⟩) z17 V17 (tq (F:=fun k=>h3.size<=k/\¬rt.own k) fun k hk=>by have:=hk.1;omega) (by rw[List.length_take];omega) _ fun t LI o19 f19 V19=> ?_
   have z19:=f19.size
   have aja:=or'.fr OC fun k hk aI=>by have:=rtl hk;omega
   have acd:=aja.fr f19 fun k hk aI=>aI.2 hk
   refine aP fx (fun k=>LI.size<=k) (fun _ h=>h) 1 (by omega) [VI (own P+A*fe a aD[P]+B*fe b aD[P])] rfl rfl fun u2 h20 n20 c20 o20 f20 m20 _=>⟨u2,rfl,V19.aB f20,?_⟩
   have z20:=f20.size
   have ru:aQ (fun k=>LI.size<=k) h20 u2 [own P+A*fe a aD[P]+B*fe b aD[P]]:=o20.eQ
   refine bL fx (acd.no f20) (fun k hk=>by omega) ru (fc _) (by have h1:=aQ.len acd.eQ;have h2:=ru.len;simp at h1 h2;omega) fun y h21 n21 o21 f21 d21=>⟨y,rfl,(V19.aB f20).fr f21 (fun q hq hk=>tq (F:=fun k=>h1.size<=k) (fun k hk=>hk) q hq (by have:=(or'.aH hk).1;omega)),?_⟩
   rw[Wn.succ i0 hi]
   (try simp only)
   rw[Wq,Wr]
   refine⟨m-1,by omega,by omega,by omega,?_,by show Ow _ _ _ _ _ _;rw[List.map_append];exact o21,((f8.trans (OC.mono fun k _ hk=>by omega)).trans (f19.mono fun k _ hk=>hk.1)).trans (f20.aB.trans (f21.mono fun k _ hk=>(or'.aH hk).1))⟩
   refine(dR.fr (dR.no (o19.mono fun k hk hF=>(⟨hF,hk⟩:(h3.size<=k/\¬rt.own k)/\k<LI.size)) f20) f21 fun k _ hk aI=>hk.1.2 aI).mono fun k _ hF=>⟨hF.1.1,fun aI=> ?_⟩
   rcases d21 k aI with hd|hd
   ·exact hF.1.2 hd
   ·have:=hF.2
    omega
 ·have hi:=Wn.ge e2
  have iG:i.toNat=ps.length:=by omega
  rw[List.take_of_length_le (by omega)]at om or'
  have M8:bU (fun k=>k<h8.size) h8 LD (qy aD a b):=(dR.rd om).mono fun k hk=>hk.2
  have R8:aQ (fun k=>k<h8.size) h8 rt (my aD a b own A B):=aQ.low or'.eQ
  have I8:aQ (fun k=>k<h8.size) h8 inner (ps.map fun p:Nat=>(p:Int)):=Wn.mono fun k hk=>by omega
  rw[<-OA]at I8
  exact Wk C hA hB hr' gn g8 fO M8 R8 I8 K HK
theorem RS{full:List Int}{m j:Nat}(h:j<m)(hl:full.length=m):(full.take j++(List.replicate m (0:Int)).drop j).set j 0=full.take j++(List.replicate m (0:Int)).drop j:=by
 rw[List.set_append_right _ _ (by rw[List.length_take];omega),List.length_take,show j-min j full.length=0 by omega,List.drop_replicate]
 obtain⟨d,hd⟩:∃d,m-j=d+1:=⟨m-j-1,by omega⟩
 rw[hd,List.replicate_succ]
 rfl
set_option maxHeartbeats 4000000 in
theorem Ig{S:Nat->Prop}{h:Heap}{g:Sl}{aD:List (List Int)}(G:bU S h g aD)(hg:aM aD=true)(a b:Int)(K:Value->Heap->Prop)(HK:∀t u h',aQ (fun k=>k<h'.size) h' t ((bM aD.length a b).map fun p:Nat=>(p:Int))->bU (fun k=>k<h'.size) h' u (qy aD a b)->Fr No h h'->K (.tuple #[t.v,u.v]) h'):aE Tryz.prog 234 #[.agg #[g.v],VI a,VI b] h K:=by
 have gl:=aO hg
 refine v234 g a b h K fun b1 h1 eD f1 bY=> ?_
 have f1:=f1.aF
 have z1:=f1.size
 have l1:b1<h1.size:=bY.head.lt
 have gn:=G.len
 refine⟨fun m x p h'=>0<=p/\p+m=(aD.length:Int)/\bR h' (fun k=>h1.size<=k) x ((bM p.toNat a b).map fun p:Nat=>(p:Int))/\Fr (fun k=>h1.size<=k) h1 h',⟨aD.length,Int.le_refl _,by omega,Ow.nil _ _ _ _,Fr.refl _ _⟩,?_⟩
 rintro m pl p h3 ⟨p0,p1,o3,f3⟩ cF
 have g3:=f1.fresh f3 fun k hk=>by omega
 refine⟨fun e=> ?_,fun e=> ?_⟩
 ·have hp:=G.lt e
  have eit:=FK (a:=a) (b:=b) (show p.toNat<p.toNat+1 by omega)
  rw[G.succ p0 hp]
  have next:qg a b p.toNat=false->∃m':Nat,m'<m/\0<=p+1/\p+1+m'=(aD.length:Int)/\bR h3 (fun k=>h1.size<=k) pl ((bM (p+1).toNat a b).map fun p:Nat=>(p:Int))/\Fr (fun k=>h1.size<=k) h1 h3:=fun hi=>by
   rw[show(p+1).toNat=p.toNat+1 by omega,eit,hi]
   exact⟨m-1,by omega,by omega,by omega,o3,f3⟩
  refine⟨fun e2=>⟨fun e3=> ?_,fun e3=>next ?_⟩,fun e2=>next ?_⟩
  ·have e2:=bD e2
   have e3:=bD e3
   simp only[decide_eq_false_iff_not]at e2 e3
   have hi:qg a b p.toNat=true:=kO.2 ⟨by omega,by omega⟩
   refine sv (lo:=h1.size) o3 f3.size cF (fun p hp=>by simp only[List.mem_cons,List.not_mem_nil,or_false]at hp;subst hp;exact l1) (by rw[List.length_map];unfold bM;have:=List.length_filter_le (qg a b) (List.range p.toNat);rw[List.length_range]at this;omega) _ fun t h4 o4 f4 V4=> ?_
   refine⟨m-1,by omega,by omega,by omega,?_,f3.trans f4⟩
   rw[show(p+1).toNat=p.toNat+1 by omega,eit,hi,if_pos rfl,List.map_append,List.map_cons,List.map_nil,Int.toNat_of_nonneg p0]
   exact o4
  ·have e3:=aZ e3
   simp only[decide_eq_true_eq]at e3
   exact Bool.eq_false_iff.2 fun h=>(kO.1 h).2 (by omega)
  ·have e2:=aZ e2
   simp only[decide_eq_true_eq]at e2
   exact Bool.eq_false_iff.2 fun h=>(kO.1 h).1 (by omega)
 have hp:=G.ge e
 rw[show p.toNat=aD.length by omega]at o3
 have z3:=f3.size
 have rI:aQ (fun k=>k<h3.size) h3 pl ((bM aD.length a b).map fun p:Nat=>(p:Int)):=aQ.low o3.eQ
 have NC:∀q,q∈bM aD.length a b->q<aD.length:=fun q hq=>(dY.1 hq).1
 have hMg:∀(i:Nat)(h:i<(bM aD.length a b).length),(qy aD a b).getD i []=dO (bM aD.length a b) (bM aD.length a b)[i] (aD.getD (bM aD.length a b)[i] []) (aD.getD (bM aD.length a b)[i] []).length:=fun i h=>(aS (by rw[(jX aD a b).1];exact h)).trans (List.getElem_map _)
 have ml:=(jX aD a b).1
 have ajb:(bM aD.length a b).length<=8:=by unfold bM;have:=List.length_filter_le (qg a b) (List.range aD.length);rw[List.length_range]at this;omega
 generalize OA:bM aD.length a b=ps at NC hMg ml o3 rI ajb
 have Ur:(ps.map fun p:Nat=>(p:Int)).length=ps.length:=List.length_map _
 have pn:pl.n=ps.length:=by have:=rI.len;rw[Ur]at this;exact this
 refine⟨fun m x i h'=>0<=i/\i+m=(ps.length:Int)/\gO h' (fun k=>h3.size<=k) x ((qy aD a b).take i.toNat)/\Fr (fun k=>h3.size<=k) h3 h',⟨ps.length,Int.le_refl _,by omega,dR.nil _ _ _ _,Fr.refl _ _⟩,?_⟩
 rintro m2 x i h5 ⟨i0,i1,o5,f5⟩ gh
 have z5:=f5.size
 have g5:=g3.fresh f5 fun k hk=>by have:=g3.size;omega
 have Ww:=rI.fr f5 fun k hk aI=>by omega
 refine⟨fun e2=> ?_,fun e2=> ?_⟩
 ·have hi:=Ww.lt e2
  have iG:i.toNat<ps.length:=by omega
  have cI:=Ww.get i0 hi
  rw[nB]at cI
  have Ie:=NC _ (List.getElem_mem iG)
  have hMi:=hMg i.toNat iG
  generalize ps[i.toNat]' iG=P at cI Ie hMi
  have gm:=aT hg (List.getElem_mem Ie)
  have eg:aD.getD P []=aD[P]:=aS Ie
  rw[eg]at hMi
  have G5:=G.no g5
  obtain⟨sp,cp5,rp5⟩:=G5.get (i:=(P:Int)) (by omega) (by omega)
  simp only[Int.toNat_natCast]at rp5
  have ln:=rp5.len
  have cpk:∀{h':Heap},Fr (fun k=>h5.size<=k) h5 h'->aR h' (g.at (P:Int) 1)=some sp.v:=fun f=>dD cp5 f (by have:=oC cp5;omega)
  have bB:=G5.bB (i:=(P:Int)) (by omega) (by omega)
  have fl:=cP ps P aD[P] (aD[P].length:Int)
  have fg:∀j(h:j<ps.length),(dO ps P aD[P] (aD[P].length:Int))[j]'(by rw[fl];exact h)=(if ps[j]=P then(aD[P].length:Int)else 0)-fe (ps[j]:Nat) aD[P]:=fun j h=>ft _
  generalize hF:dO ps P aD[P] (aD[P].length:Int)=F at hMi fl fg
  refine⟨Ww.bB i0 hi,_,cI,?_⟩
  refine eA fx (fun k=>h5.size<=k) (fun _ h=>h) .i64 .i64 pl.n pl.n (Nat.le_refl _) (by omega) fun t h6 n6 c6 o6 f6 m6 _=>⟨t,rfl,gh.aB f6,?_⟩
  have o6:bR h6 (fun k=>h5.size<=k) t (List.replicate ps.length 0):=by
   have e:(List.replicate pl.n [VI 0]).flatten=(List.replicate ps.length (0:Int)).map VI:=by rw[pn];simp[List.flatten_replicate_singleton]
   rw[e]at o6;exact o6
  have off:∀p,p∈[(b1,[g.v])]->¬h5.size<=p.1:=fun p hp=>by
   simp only[List.mem_cons,List.not_mem_nil,or_false]at hp
   subst hp
   show¬h5.size<=b1
   omega
  refine⟨fun m j h'=>0<=j/\j+m=(ps.length:Int)/\bR h' (fun k=>h5.size<=k) t (F.take j.toNat++(List.replicate ps.length (0:Int)).drop j.toNat)/\Fr (fun k=>h5.size<=k) h5 h',⟨ps.length,Int.le_refl _,by omega,by simpa using o6,f6.aB⟩,?_⟩
  rintro m3 j h7 ⟨j0,j1,o7,f7⟩ jv
  have rI7:=Ww.fr f7 fun k hk aI=>by omega
  have tl:(F.take j.toNat++(List.replicate ps.length (0:Int)).drop j.toNat).length=ps.length:=by rw[List.length_append,List.length_take,List.length_drop,List.length_replicate];omega
  refine⟨fun e3=> ?_,fun e3=> ?_⟩
  ·have hj:=rI7.lt e3
   have Fb:j.toNat<ps.length:=by omega
   have cJ:=rI7.get j0 hj
   rw[nB]at cJ
   have hFj:=fg j.toNat Fb
   generalize ps[j.toNat]' Fb=Q at cJ hFj
   have mz:=RS Fb fl
   generalize hT:F.take j.toNat++(List.replicate ps.length (0:Int)).drop j.toNat=T at o7 tl mz
   have jl:j<(T.length:Int):=by omega
   have Uv:∀{v:Int}(h:j.toNat<(T.set j.toNat v).length),(T.set j.toNat v)[j.toNat]'h=v:=fun h=>by rw[List.getElem_set];exact if_pos rfl
   refine⟨rI7.bB j0 hj,_,cJ,?_⟩
   refine⟨fun h'=>bR h' (fun k=>h5.size<=k) t (T.set j.toNat (if Q=P then(aD[P].length:Int)else 0))/\Fr (fun k=>h5.size<=k) h5 h',⟨fun e4=> ?_,fun e4=> ?_⟩,?_⟩
   ·simp only[decide_eq_true_eq]at e4
    have R7:=o7.eQ
    have hz:T[j.toNat]'(by omega)=0:=by
     have:=Uv (v:=0) (by rw[List.length_set];omega)
     rw[<-this]
     congr 1
     exact mz.symm
    refine⟨aQ.bB R7 j0 jl,_,aQ.get R7 j0 jl,bB,sp,cpk f7,fW (F:=fun k=>h5.size<=k) o7 j0 jl jv off _ fun h8 o8 f8 V8=>⟨?_,f7.trans f8⟩⟩
    rw[if_pos (by omega)]
    rw[hz,aG _ (by omega) (by omega),Int.zero_add,ln]at o8
    exact o8
   ·simp only[decide_eq_false_iff_not]at e4
    refine⟨?_,f7⟩
    rw[if_neg (by omega),mz]
    exact o7
   rintro h9 ⟨o9,f9⟩ fP
   refine⟨bB,sp,cpk f9,?_⟩
   refine⟨fun m q h'=>0<=q/\q+m=(aD[P].length:Int)/\bR h' (fun k=>h5.size<=k) t (T.set j.toNat ((if Q=P then(aD[P].length:Int)else 0)-fe (Q:Int) (aD[P].take q.toNat)))/\Fr (fun k=>h5.size<=k) h5 h',⟨aD[P].length,Int.le_refl _,by omega,by simpa[fe]using o9,f9⟩,?_⟩
   rintro m4 q dV ⟨q0,q1,mM,f10⟩ dL
   have OD:=rp5.low.fr f10 fun k hk aI=>by omega
   refine⟨fun e5=> ?_,fun e5=> ?_⟩
   ·have hq:=OD.lt e5
    have hc:=OD.get q0 hq
    have tk:aD[P].take (q+1).toNat=_:=dX _ q0 hq
    have so:=pi (a:=(Q:Int)) gm.1 q.toNat
    generalize aD[P][q.toNat]'(by omega)=v at hc tk
    rw[OD.succ q0 hq]
    refine⟨OD.bB q0 hq,_,hc,fun e6=> ?_,fun e6=> ?_⟩
    ·simp only[decide_eq_true_eq]at e6
     have R10:=mM.eQ
     have sl:(T.set j.toNat ((if Q=P then(aD[P].length:Int)else 0)-fe (Q:Int) (aD[P].take q.toNat))).length=T.length:=List.length_set
     refine⟨aQ.bB R10 j0 (by omega),_,aQ.get R10 j0 (by omega),fW (F:=fun k=>h5.size<=k) mM j0 (by omega) dL off _ fun hH lL f11 V11=> ?_⟩
     refine⟨m4-1,by omega,by omega,by omega,?_,f10.trans f11⟩
     rw[tk,gT,if_pos e6]
     rw[List.set_set,Uv,aG _ (by split<;>omega) (by split<;>omega)]at lL
     rw[show∀x y:Int,x-(y+1)=x-y-1 by omega]
     exact lL
    ·simp only[decide_eq_false_iff_not]at e6
     refine⟨m4-1,by omega,by omega,by omega,?_,f10⟩
     rw[tk,gT,if_neg e6,Int.add_zero]
     exact mM
   ·have hq:=OD.ge e5
    rw[List.take_of_length_le (by omega),<-hFj,<-hT]at mM
    have sm:=Jl F (List.replicate ps.length (0:Int)) j.toNat (by omega) (by rw[List.length_replicate];omega)
    rw[sm]at mM
    rw[rI7.succ j0 hj]
    refine⟨m3-1,by omega,by omega,by omega,?_,f10⟩
    rw[show(j+1).toNat=j.toNat+1 by omega]
    exact mM
  ·have hj:=rI7.ge e3
   rw[List.take_of_length_le (by omega),List.drop_eq_nil_of_le (by rw[List.length_replicate];omega),List.append_nil]at o7
   have z7:=f7.size
   refine jJ (lo:=h3.size) (m:=h5.size) (dR.fr (dR.fV o5) f7 fun k _ hk aI=>by have:=hk.2;omega) o7 z5 z7 jv (fun p hp=>by simp only[List.mem_cons,List.not_mem_nil,or_false]at hp;subst hp;show b1<h3.size;omega) (by rw[List.length_take];omega) _ fun t2 gK Nt f12 V12=> ?_
   rw[Ww.succ i0 hi]
   refine⟨m2-1,by omega,by omega,by omega,?_,(f5.trans (f7.mono fun k _ hk=>by omega)).trans f12⟩
   rw[show(i+1).toNat=i.toNat+1 by omega,List.take_succ_eq_append_getElem (by omega),<-aS (by omega),hMi]
   exact Nt
 ·have hi:=Ww.ge e2
  rw[List.take_of_length_le (by omega)]at o5
  rw[OA]at HK
  exact HK pl x h5 (Ww.mono fun k hk=>by omega) ((dR.rd o5).mono fun k hk=>hk.2) g5
def Ih(rows:List (List Int))(r:List Int):List Int:=(List.range rows.length).map fun j=>cH rows.length (nA (bS rows) j fun i=>r.getD i 0)
set_option maxHeartbeats 2000000 in
theorem LJ{S S2:Nat->Prop}{h:Heap}{m r:Sl}{rows:List (List Int)}{rs:List Int}(M:bU S h m rows)(R:aQ S2 h r rs)(hl:rs.length=rows.length)(Q:Sq rows.length rows)(hn:rows.length<=7)(hb:Small rows.length (bS rows))(hr:∀i,i<rows.length->(rs.getD i 0).natAbs<=10)(K:Value->Heap->Prop)(HK:∀t h',aQ (fun k=>k<h'.size) h' t (Ih rows rs)->Fr No h h'->K (.tuple #[t.v,VI (cH rows.length (bS rows))]) h'):aE Tryz.prog 235 #[m.v,r.v] h K:=by
 refine ahr m r h K ?_
 refine wG rows.length M Q hn hb _ fun h1 f1=>⟨_,rfl,.nil,?_⟩
 have M1:=M.low.no f1
 have R1:=aQ.low R|>.no f1
 have z1:=f1.size
 have sl:(Ih rows rs).length=rows.length:=by unfold Ih;rw[List.length_map,List.length_range]
 refine⟨fun n x k h'=>0<=k/\k+n=(rows.length:Int)/\bR h' (fun q=>h1.size<=q) x ((Ih rows rs).take k.toNat)/\Fr (fun q=>h1.size<=q) h1 h',⟨rows.length,Int.le_refl _,by omega,Ow.nil _ _ _ _,Fr.refl _ _⟩,?_⟩
 rintro n x k h2 ⟨k0,k1,o2,f2⟩ bW
 have M2:=M1.fr f2 fun q hq gI=>by omega
 have R2:=R1.fr f2 fun q hq gI=>by omega
 have z2:=f2.size
 refine⟨fun e=> ?_,fun e=> ?_⟩
 ·have hk:=M2.lt e
  refine⟨fun n x i h'=>0<=i/\i+n=(rows.length:Int)/\gO h' (fun q=>h2.size<=q) x ((sI rows k.toNat rs).take i.toNat)/\Fr (fun q=>h2.size<=q) h2 h',⟨rows.length,Int.le_refl _,by omega,dR.nil _ _ _ _,Fr.refl _ _⟩,?_⟩
  rintro n2 y i h3 ⟨i0,i1,o3,f3⟩ cF
  have M3:=M2.fr f3 fun q hq gI=>by omega
  have R3:=R2.fr f3 fun q hq gI=>by omega
  have z3:=f3.size
  refine⟨fun e2=> ?_,fun e2=> ?_⟩
  ·have hi:=M3.lt e2
   obtain⟨si,ci,ri⟩:=M3.get i0 hi
   have ai4:=Q.row i.toNat (by omega)
   refine⟨M3.bB i0 hi,si,ci,pP ri (by omega) _ fun t2 h4 o4 f4=>⟨t2,rfl,.nil,?_⟩⟩
   have R4:=R3.no f4
   have z4:=f4.size
   refine⟨R4.bB i0 (by omega),_,R4.get i0 (by omega),fW (o4.mono (F':=fun q=>h3.size<=q) fun q _ hq=>hq.1) k0 (by omega) .nil (fun p hp=>by simp at hp) _ fun h5 o5 f5 V5=> ?_⟩
   have z5:=f5.size
   refine jJ (lo:=h2.size) (m:=h3.size) (dR.fr (dR.fV o3) (f4.aB.trans f5) fun q _ hq gI=>by have:=hq.2;omega) o5 z3 (by omega) .nil (fun p hp=>by simp at hp) (by rw[List.length_take];omega) _ fun t3 h6 o6 f6 V6=> ?_
   rw[M3.succ i0 hi]
   refine⟨n2-1,by omega,by omega,by omega,?_,((f3.trans f4.aB).trans (f5.mono fun q _ hq=>by omega)).trans f6⟩
   rw[show(i+1).toNat=i.toNat+1 by omega,Bz (by omega),aN (by omega)]
   exact o6
  ·have hi:=M3.ge e2
   have pl:=kQ rows k.toNat rs
   rw[List.take_of_length_le (by omega)]at o3
   refine wG rows.length (dR.rd o3) (Ko Q k.toNat rs) hn (q6 Q hb hr) _ fun h4 f4=>⟨_,rfl,.nil,?_⟩
   rw[yj Q]
   have f24:=f3.trans f4.aB
   have z4:=f24.size
   refine sv (lo:=h1.size) ((Ow.fV o2).fr f24 (fun q hq gI=>by have:=(o2.aH hq).2;omega)|>.mono fun q _ hq=>hq.1) (by omega) .nil (fun p hp=>by simp at hp) (by rw[List.length_take];omega) _ fun t5 h5 o5 f5 V5=> ?_
   rw[M2.succ k0 hk]
   refine⟨n-1,by omega,by omega,by omega,?_,(f2.trans (f24.mono fun q _ hq=>by omega)).trans f5⟩
   rw[show(k+1).toNat=k.toNat+1 by omega,List.take_succ_eq_append_getElem (by omega)]
   have:(Ih rows rs)[k.toNat]'(by omega)=cH rows.length (nA (bS rows) k.toNat fun i=>rs.getD i 0):=by
    refine(List.getElem_map (l:=List.range rows.length) _ (h:=by rw[List.length_map,List.length_range];omega)).trans ?_
    rw[List.getElem_range]
   rw[this]
   exact o5
 ·have hk:=M2.ge e
  rw[List.take_of_length_le (by omega)]at o2
  exact HK x h2 (aQ.low o2.eQ) (f1.fresh f2 fun q hq=>by omega)
abbrev qh:=Int×Int
def qi:List qh->List Value
 |[]=>[]
 |r::l=>VI r.1::VI r.2::qi l
theorem sN:∀l:List qh,(qi l).length=l.length*2
 |[]=>rfl
 |r::l=>by rw[qi,List.length_cons,List.length_cons,sN l,List.length_cons];omega
theorem FN:∀(l:List qh)(i:Nat)(h:i<l.length),(qi l)[i*2]?=some (VI l[i].1)/\(qi l)[i*2+1]?=some (VI l[i].2)
 |r::l,0,_=>⟨rfl,rfl⟩
 |r::l,i+1,h=>by
  have:=FN l i (by simpa using h)
  rw[qi,show(i+1)*2=i*2+1+1 by omega]
  simpa using this
theorem FO:∀(l:List qh)(i:Nat)(x y:Int),((qi l).set (i*2) (VI x)).set (i*2+1) (VI y)=qi (l.set i (x,y))
 |[],i,x,y=>by simp[qi]
 |r::l,0,x,y=>by simp[qi]
 |r::l,i+1,x,y=>by
  rw[qi,show(i+1)*2=i*2+1+1 by omega,List.set_cons_succ,List.set_cons_succ,List.set_cons_succ,List.set_cons_succ,FO l i x y,List.set_cons_succ,qi]
@[reducible] def OwQ(h:Heap)(F:Nat->Prop)(s:Sl)(l:List qh):Prop:=Ow h F tR 2 s (qi l)
def GI(S:Nat->Prop)(h:Heap)(s:Sl)(l:List qh):Prop:=cM S h 2 s (qi l)
theorem GI.len{S:Nat->Prop}{h:Heap}{s:Sl}{l:List qh}(H:GI S h s l):s.n=l.length:=by
 have:=cM.len H
 rw[sN]at this
 omega
theorem GI.get{S:Nat->Prop}{h:Heap}{s:Sl}{l:List qh}(H:GI S h s l){i:Int}(h0:0<=i)(h1:i<(l.length:Int)):dQ s i/\lk h (s.at i 2) [VI (l[i.toNat]'(by omega)).1,VI (l[i.toNat]'(by omega)).2]:=by
 have hl:=GI.len H
 have hn:=sN l
 obtain⟨g1,g2⟩:=FN l i.toNat (by omega)
 obtain⟨a,ha,_,c1⟩:=cM.cell H (i.toNat*2) (by omega)
 obtain⟨a',GB,_,c2⟩:=cM.cell H (i.toNat*2+1) (by omega)
 rw[ha]at GB
 obtain rfl:a=a':=by simpa using GB
 rw[List.getElem?_eq_getElem (by omega)]at g1 g2
 rw[Option.some.inj g1]at c1
 rw[Option.some.inj g2]at c2
 refine⟨⟨by simp[ha],h0,by omega⟩,fun j hj=> ?_⟩
 have QN:s.at i 2=a.add (i.toNat*2):=by simp[Sl.at,ha]
 rw[QN,xf]
 match j,hj with
 |0,_=>exact c1
 |1,_=>simpa using c2
theorem GI.fr{S T:Nat->Prop}{h h':Heap}{s:Sl}{l:List qh}(H:GI S h s l)(hf:Fr T h h')(hd:∀k,S k->¬T k):GI S h' s l:=cM.fr H hf hd
theorem GI.no{S:Nat->Prop}{h h':Heap}{s:Sl}{l:List qh}(H:GI S h s l)(hf:Fr No h h'):GI S h' s l:=cM.no H hf
theorem GI.low{S:Nat->Prop}{h:Heap}{s:Sl}{l:List qh}(H:GI S h s l):GI (fun k=>k<h.size) h s l:=(cM.lt H).mono fun _ h=>h.2
theorem OE:li Tryz.prog tR=some 2:=by kernel_rfl
theorem CZ{L:List (Nat×List Value)}{F:Nat->Prop}{h:Heap}{s:Sl}{l:List qh}{i:Int}{x y:Int}(O:OwQ h F s l)(h0:0<=i)(h1:i<(l.length:Int))(hL:Vars h L)(tK:∀p,p∈L->¬F p.1)(R:Heap->Prop)(HR:∀h',OwQ h' F s (l.set i.toNat (x,y))->Fr F h h'->Vars h' L->R h'):dQ s i/\Aj Tryz.prog (Instr.storeAt tR (Value.pointer (some (Sl.at s i 2))) (Value.agg #[VI x,VI y])) h fun rv h'=>Vars h' L/\R h':=by
 have hn:=O.len
 rw[sN]at hn
 have hi:i<(s.n:Int):=by omega
 refine⟨O.bB h0 hi,⟨fun w hw=> ?_⟩⟩
 subst hw
 obtain⟨w1,o1,f1⟩:=O.store h0 hi 0 (by omega) (VI x)
 obtain⟨w2,_,_⟩:=O.store h0 hi 1 (by omega) (VI y)
 obtain⟨_,o2,f2⟩:=o1.store h0 hi 1 (by omega) (VI y)
 obtain⟨w',r1,r2,r3⟩:=oB (P:=Tryz.prog) (kG OE w) (a:=s.at i 2) (v:= .agg #[VI x,VI y]) (vs:=[VI x,VI y]) rfl rfl (fun v hv=>by simp only[List.mem_cons,List.not_mem_nil,or_false]at hv;rcases hv with rfl|rfl<;>rfl) (fun j hj=>by
  match j,hj with
  |0,_=>exact⟨w1.cell,w1.free⟩
  |1,_=>exact⟨w2.cell,w2.free⟩)
 refine⟨w',r1,r2,?_⟩
 rw[r3]
 simp only[List.zipIdx_cons,List.zipIdx_nil,List.foldl_cons,List.foldl_nil,Nat.zero_add]
 rw[Nat.add_zero,FO]at o2
 have f:Fr F w.heap _:=(f1.trans f2).mono fun k _ hk=>(O.aH hk).1
 have V:=hL.fr f tK
 exact⟨V,HR _ o2 f V⟩
def o0:Int->Int:=fun _=>0
theorem OG{d:Int}(h:0<d):jW d d=(1,1):=by
 unfold jW
 rw[Int.gcd_self,show((d.natAbs:Nat):Int)=d by omega,Int.ediv_self (by omega)]
theorem LK{d:Int}(h:0<d):jW 0 d=(0,1):=by
 unfold jW
 rw[Int.gcd_zero_left,show((d.natAbs:Nat):Int)=d by omega,Int.ediv_self (by omega),Int.zero_ediv]
def chR(g:List (List Int))(a b:Int):List qh:=(List.range g.length).map fun q:Nat=>jW (zM g a b q) (jP g a b)
theorem Kp(g:List (List Int))(a b:Int):(chR g a b).length=g.length:=by unfold chR;rw[List.length_map,List.length_range]
theorem Kq{g:List (List Int)}{a b:Int}{q:Nat}(h:q<(chR g a b).length):(chR g a b)[q]=jW (zM g a b q) (jP g a b):=by
 refine(List.getElem_map (l:=List.range g.length) _ (h:=h)).trans ?_
 rw[List.getElem_range]
theorem Can.Ct{g:List (List Int)}{a b:Int}(C:Can g a b):∀i,i<(bM g.length a b).length->(H6 g a b o0 1 0 i).natAbs<=10:=fun i hi=>by
 have e:H6 g a b o0 1 0 i=fe a (g.getD ((bM g.length a b).getD i 0) []):=by
  unfold H6 o0
  omega
 have hp:=(dY.1 (List.getElem_mem hi)).1
 have e1:(bM g.length a b).getD i 0=(bM g.length a b)[i]:=by rw[List.getD_eq_getElem?_getD,List.getElem?_eq_getElem hi,Option.getD_some]
 rw[e,e1,aS hp]
 have h1:=jh a g[(bM g.length a b)[i]]
 have h2:=(aT C.bE (List.getElem_mem hp)).1
 omega
theorem Can.RW{g:List (List Int)}{a b:Int}(C:Can g a b){own:Int->Int}{A B:Int}(hA:A=0\/A=1)(hB:B=0\/B=1)(hr:∀i,i<(bM g.length a b).length->(H6 g a b own A B i).natAbs<=10)(q:Int):(Ec g a b own A B q).natAbs<=50400000000:=by
 have hd:=C.den
 have gl:=aO C.bE
 have il:=sG C.a0 C.a1 C.b0 C.b1 C.ne
 unfold Ec
 split
 ·rcases hA with rfl|rfl<;>omega
 ·split
  ·rcases hB with rfl|rfl<;>omega
  ·exact BA C.bE (by omega) hr _
theorem LM{S:Nat->Prop}{h:Heap}{g:Sl}{aD:List (List Int)}(G:bU S h g aD){a b:Int}(C:Can aD a b)(K:Value->Heap->Prop)(HK:∀t h',bR h' (Iv h.size h'.size) t (CU aD a b o0 1 0)->Fr No h h'->K (.tuple #[t.v,VI (jP aD a b)]) h'):aE Tryz.prog 218 #[.agg #[g.v],VI a,VI b] h K:=by
 refine v218 g a b h K fun b1 h1 eD f1 bY=> ?_
 have f1:=f1.aF
 refine Oz (G.no f1) C (.func (.func 262) #[] #[]) o0 (.inr rfl) (.inl rfl) (fun p=>⟨Int.le_refl _,by unfold o0;omega⟩) C.Ct (fun p h' K' _ _ hk=>ahS _ _ _ hk) _ fun t h2 o2 f2=>⟨t,_,rfl,bY.aB f2,HK t h2 ?_ (f1.aA f2)⟩
 exact o2.mono fun k _ hk=>⟨Nat.le_trans f1.size hk.1,hk.2⟩
def rC(g:List (List Int))(p a b:Int):qh×Bool:=if(HX g a b&&iq 0 ((g.length:Int)-1) p)=true then(jW (zM g a b p) (jP g a b),true)else((0,0),false)
theorem vv{S:Nat->Prop}{h:Heap}{g:Sl}{aD:List (List Int)}(G:bU S h g aD)(p a b:Int)(K:Value->Heap->Prop)(HK:∀h',Fr No h h'->K (.tuple #[.agg #[VI (rC aD p a b).1.1,VI (rC aD p a b).1.2],VB (rC aD p a b).2]) h'):aE Tryz.prog 169 #[.agg #[g.v],VI p,VI a,VI b] h K:=by
 refine afY g p a b h K fun b1 b2 h2 eD dK f2 bW=> ?_
 have f2:=f2.aF
 have box:∀{x y:Heap},Fr No h x->Fr (In [b2]) x y->Fr No h y:=fun f f'=>f.fresh f' fun k hk=>by
  simp only[In,List.mem_cons,List.not_mem_nil,or_false]at hk
  omega
 unfold rC at HK
 refine Ol (G.no f2) a b _ fun h3 f3=>⟨_,rfl,bW.aB f3,fun e=>fun dV f10 _=> ?_,fun e=> ?_⟩
 ·rw[bD e,Bool.false_and]at HK
  exact HK dV (box (f2.aA f3) f10)
 have e:=aZ e
 rw[e,Bool.true_and]at HK
 have C:=Of e
 have hd:=C.den
 have f13:=f2.aA f3
 have cF:=bW.aB f3
 refine aP fx (fun k=>h3.size<=k) (fun _ h=>h) 1 (by omega) [VI p] rfl rfl fun t h4 n4 c4 o4 f4 m4 _=>⟨t,rfl,cF.aB f4,?_⟩
 have o4:aQ (fun k=>h3.size<=k) h4 t [p]:=o4.eQ
 refine rZ (G.no (f13.aA f4)) o4 _ fun h5 f5=>⟨_,rfl,(cF.aB f4).aB f5,fun e2=>fun h6 f6 _=> ?_,fun e2=> ?_⟩
 all_goals simp only[List.all_cons,List.all_nil,Bool.and_true,C.bE,Bool.true_and]at e2
 all_goals have f15:=f13.aA (f4.aA f5)
 ·rw[bD e2]at HK
  exact HK h6 (box f15 f6)
 have e2:=aZ e2
 rw[e2,if_pos rfl]at HK
 have pr:=aX.1 e2
 refine LM (G.no f15) C _ fun t h7 o7 f7=>⟨t,_,rfl,((cF.aB f4).aB f5).aB f7,?_⟩
 have r7:aQ _ h7 t (CU aD a b o0 1 0):=Ow.eQ o7
 have ol:=FI aD a b o0 1 0
 have hv:=C.RW (own:=o0) (.inr rfl) (.inl rfl) C.Ct p
 refine⟨r7.bB pr.1 (by omega),_,r7.get pr.1 (by omega),?_⟩
 rw[FJ,show(((p.toNat:Nat):Int))=p by omega]
 exact RN _ _ (by omega) (by omega) (by omega) h7 _ fun h8 f8=>⟨_,_,rfl,(((cF.aB f4).aB f5).aB f7).aB f8,fun h9 f9 _=>HK h9 (box (f15.aA (f7.aA f8)) f9)⟩
def qz(n:Nat)(a b:Int)(d:Int)(ps:List Nat)(f:Nat->Int)(k:Nat):List qh:=(List.range n).map fun q:Nat=>if(q:Int)=a then(1,1)else if(q:Int)=b then(0,1)else if ps.idxOf q<k then jW (f (ps.idxOf q)) d else(0,0)
theorem ji(n:Nat)(a b:Int)(d:Int)(ps:List Nat)(f:Nat->Int)(k:Nat):(qz n a b d ps f k).length=n:=by unfold qz;rw[List.length_map,List.length_range]
theorem pV{n:Nat}{a b d:Int}{ps:List Nat}{f:Nat->Int}{k q:Nat}(h:q<(qz n a b d ps f k).length):(qz n a b d ps f k)[q]=if(q:Int)=a then(1,1)else if(q:Int)=b then(0,1)else if ps.idxOf q<k then jW (f (ps.idxOf q)) d else(0,0):=by
 refine(List.getElem_map (l:=List.range n) _ (h:=h)).trans ?_
 rw[List.getElem_range]
theorem Ii{n:Nat}{a b:Int}(d:Int)(ps:List Nat)(f:Nat->Int)(a0:0<=a)(b0:0<=b)(dZ:a≠b):qz n a b d ps f 0=((List.replicate n ((0,0):qh)).set a.toNat (1,1)).set b.toNat (0,1):=by
 apply List.ext_getElem (by rw[ji,List.length_set,List.length_set,List.length_replicate])
 intro q h1 h2
 rw[pV h1,List.getElem_set,List.getElem_set,List.getElem_replicate]
 by_cases ea:(q:Int)=a
 ·rw[if_pos ea,if_neg (by omega),if_pos (by omega)]
 ·rw[if_neg ea]
  by_cases eb:(q:Int)=b
  ·rw[if_pos eb,if_pos (by omega)]
  ·rw[if_neg eb,if_neg (by omega),if_neg (by omega),if_neg (by omega)]
theorem Ij{n:Nat}{a b:Int}(d:Int)(f:Nat->Int){k:Nat}(hk:k<(bM n a b).length):qz n a b d (bM n a b) f (k+1)=(qz n a b d (bM n a b) f k).set ((bM n a b)[k]) (jW (f k) d):=by
 apply List.ext_getElem (by rw[ji,List.length_set,ji])
 intro q h1 h2
 have h3:q<(qz n a b d (bM n a b) f k).length:=by rw[List.length_set]at h2;exact h2
 have hm:=dY.1 (List.getElem_mem hk)
 rw[pV h1,List.getElem_set,pV h3]
 by_cases e:(bM n a b)[k]=q
 ·rw[if_pos e,if_neg (by omega),if_neg (by omega)]
  subst e
  rw[CP hk,if_pos (by omega)]
 ·rw[if_neg e]
  by_cases ea:(q:Int)=a
  ·rw[if_pos ea,if_pos ea]
  ·rw[if_neg ea,if_neg ea]
   by_cases eb:(q:Int)=b
   ·rw[if_pos eb,if_pos eb]
   ·rw[if_neg eb,if_neg eb]
    have hq:q∈bM n a b:=dY.2 ⟨by rw[ji]at h3;exact h3,ea,eb⟩
    have hi:=List.idxOf_lt_length_iff.2 hq
    by_cases l:(bM n a b).idxOf q<k
    ·rw[if_pos l,if_pos (by omega)]
    ·rw[if_neg l,if_neg]
     intro h
     apply e
     have:(bM n a b).idxOf q=k:=by omega
     subst this
     exact List.getElem_idxOf hi
theorem LN{g:List (List Int)}{a b:Int}(hd:0<jP g a b):qz g.length a b (jP g a b) (bM g.length a b) (vu g a b o0 1 0) (bM g.length a b).length=chR g a b:=by
 apply List.ext_getElem (by rw[ji,Kp])
 intro q h1 h2
 rw[pV h1,Kq h2]
 unfold zM Ec
 by_cases ea:(q:Int)=a
 ·rw[if_pos ea,if_pos ea,Int.one_mul,OG hd]
 ·rw[if_neg ea,if_neg ea]
  by_cases eb:(q:Int)=b
  ·rw[if_pos eb,if_pos eb,Int.zero_mul,LK hd]
  ·rw[if_neg eb,if_neg eb,if_pos]
   ·rfl
   ·exact List.idxOf_lt_length_iff.2 (dY.2 ⟨by rw[ji]at h1;exact h1,ea,eb⟩)
theorem RX(g:List (List Int))(a b:Int)(own:Int->Int)(A B:Int):Ih (qy g a b) (my g a b own A B)=(List.range (bM g.length a b).length).map (vu g a b own A B):=by
 unfold Ih
 rw[(jX g a b).1]
 exact List.map_congr_left fun k _=>Ia g a b own A B k
set_option maxHeartbeats 4000000 in
theorem FP{S:Nat->Prop}{h:Heap}{g:Sl}{aD:List (List Int)}(G:bU S h g aD){a b:Int}(C:Can aD a b)(K:Value->Heap->Prop)(HK:∀t h',GI (fun k=>k<h'.size) h' t (chR aD a b)->Fr No h h'->K t.v h'):aE Tryz.prog 186 #[.agg #[g.v],VI a,VI b] h K:=by
 have hg:=C.bE
 have gl:=aO hg
 have dn:=C.den
 have gn:=G.len
 have il:=sG C.a0 C.a1 C.b0 C.b1 C.ne
 refine agp g a b h K fun b1 h1 eD f1 bY=> ?_
 have f1:=f1.aF
 refine Ig (G.no f1) hg a b _ fun pl m h2 P2 M2 f2=>⟨pl,m,rfl,bY.aB f2,?_⟩
 have l1:b1<h1.size:=bY.head.lt
 have z2:=f2.size
 have E7:=f1.aA f2
 have NC:∀q,q∈bM aD.length a b->q<aD.length:=fun q hq=>(dY.1 hq).1
 have Ur:((bM aD.length a b).map fun p:Nat=>(p:Int)).length=(bM aD.length a b).length:=List.length_map _
 have pn:pl.n=(bM aD.length a b).length:=by have:=P2.len;rw[Ur]at this;exact this
 have rl:=mD aD a b o0 1 0
 have ml:=(jX aD a b).1
 have tq:∀{F:Nat->Prop},(∀k,F k->h2.size<=k)->∀p,p∈[(b1,[g.v])]->¬F p.1:=fun hF p hp hk=>by
  simp only[List.mem_cons,List.not_mem_nil,or_false]at hp
  subst hp
  have:=hF _ hk
  (try simp only at this)
  omega
 refine⟨fun m x i h'=>0<=i/\i+m=((bM aD.length a b).length:Int)/\bR h' (fun k=>h2.size<=k) x ((my aD a b o0 1 0).take i.toNat)/\Fr (fun k=>h2.size<=k) h2 h',⟨(bM aD.length a b).length,by omega,by omega,Ow.nil _ _ _ _,Fr.refl _ _⟩,?_⟩
 rintro m1 x i h3 ⟨i0,i1,o3,f3⟩ cF
 have P3:=P2.fr f3 fun k hk aI=>by omega
 have M3:=M2.fr f3 fun k hk aI=>by omega
 have z3:=f3.size
 have gq:=E7.fresh f3 fun k hk=>by have:=E7.size;omega
 refine⟨fun e=> ?_,fun e=> ?_⟩
 ·have hi:=P3.lt e
  have iG:i.toNat<(bM aD.length a b).length:=by omega
  have cI:=P3.get i0 hi
  rw[nB]at cI
  have Ie:=NC _ (List.getElem_mem iG)
  have hRi:(my aD a b o0 1 0)[i.toNat]'(by omega)=FG aD a b o0 1 0 (bM aD.length a b)[i.toNat]:=List.getElem_map _
  generalize (bM aD.length a b)[i.toNat]' iG=Q at cI Ie hRi
  have G3:=G.no gq
  obtain⟨sp,cp,rp⟩:=G3.get (i:=(Q:Int)) (by omega) (by omega)
  simp only[Int.toNat_natCast]at rp
  have gm:=aT hg (List.getElem_mem Ie)
  refine⟨P3.bB i0 hi,_,cI,G3.bB (by omega) (by omega),sp,cp,?_⟩
  refine⟨fun m s j h'=>0<=j/\j+m=(aD[Q].length:Int)/\s=fe a (aD[Q].take j.toNat)/\h'=h3,⟨aD[Q].length,by omega,by omega,rfl,rfl⟩,?_⟩
  rintro m2 s j h4 ⟨j0,j1,rfl,rfl⟩ dS
  refine⟨fun e2=> ?_,fun e2=> ?_⟩
  ·have hj:=rp.lt e2
   have hc:=rp.get j0 hj
   have tk:aD[Q].take (j+1).toNat=_:=dX _ j0 hj
   have so:=pi (a:=a) gm.1 j.toNat
   generalize aD[Q][j.toNat]'(by omega)=v at hc tk
   rw[rp.succ j0 hj]
   refine⟨rp.bB j0 hj,_,hc,fun e3=> ?_,fun e3=> ?_⟩
   ·simp only[decide_eq_true_eq]at e3
    refine⟨m2-1,by omega,by omega,by omega,?_,rfl⟩
    rw[tk,gT,if_pos e3,aG _ (by omega) (by omega)]
   ·simp only[decide_eq_false_iff_not]at e3
    refine⟨m2-1,by omega,by omega,by omega,?_,rfl⟩
    rw[tk,gT,if_neg e3,Int.add_zero]
  ·have hj:=rp.ge e2
   rw[List.take_of_length_le (by omega)]
   refine sv (lo:=h2.size) o3 z3 cF (fun p hp=>by simp only[List.mem_cons,List.not_mem_nil,or_false]at hp;subst hp;show b1<h2.size;omega) (by rw[List.length_take];omega) _ fun t h5 o5 f5 V5=> ?_
   rw[P3.succ i0 hi]
   refine⟨m1-1,by omega,by omega,by omega,?_,f3.trans f5⟩
   rw[show(i+1).toNat=i.toNat+1 by omega,List.take_succ_eq_append_getElem (by omega),hRi]
   have:FG aD a b o0 1 0 Q=fe a aD[Q]:=by
    unfold FG o0
    rw[aS Ie]
    omega
   rw[this]
   exact o5
 ·have hi:=P3.ge e
  rw[List.take_of_length_le (by omega)]at o3
  have hQ':Sq (qy aD a b).length (qy aD a b):=by rw[ml];exact(jX aD a b).2
  have hS':Small (qy aD a b).length (bS (qy aD a b)):=by rw[ml];exact uc hg a b
  refine LJ M3 (Ow.eQ o3:aQ _ h3 x _) (by omega) hQ' (by omega) hS' (fun i hi=>by rw[sH aD a b o0 1 0 (by omega)];exact C.Ct i (by omega)) _ fun t h7 S7 f7=>⟨t,_,rfl,cF.aB f7,?_⟩
  rw[RX]at S7
  rw[ml,Kn]
  have z7:=f7.size
  have jv:=cF.aB f7
  refine eA rRs (fun k=>h7.size<=k) (fun _ h=>h) .i64 .i64 g.n g.n (Nat.le_refl _) (by omega) fun u h8 n8 c8 o8 f8 m8 _=>⟨u,rfl,jv.aB f8,?_⟩
  have z8:=f8.size
  have Vq:OwQ h8 (fun k=>h7.size<=k) u (List.replicate aD.length (0,0)):=by
   have e:(List.replicate g.n [VI 0,VI 0]).flatten=qi (List.replicate aD.length (0,0)):=by
    rw[gn]
    generalize aD.length=n
    induction n with
    |zero=>rfl
    |succ n ih=>rw[List.replicate_succ,List.flatten_cons,ih,List.replicate_succ,qi];rfl
   rw[e]at o8
   exact o8
  have Wx:=tq (F:=fun k=>h7.size<=k) fun k hk=>by omega
  refine CZ (L:=[(b1,[g.v])]) (F:=fun k=>h7.size<=k) (x:=1) (y:=1) Vq C.a0 (by rw[List.length_replicate];exact C.a1) (jv.aB f8) Wx _ fun h9 o9 f9 V9=> ?_
  refine CZ (L:=[(b1,[g.v])]) (F:=fun k=>h7.size<=k) (x:=0) (y:=1) o9 C.b0 (by rw[List.length_set,List.length_replicate];exact C.b1) V9 Wx _ fun dV mM f10 V10=> ?_
  rw[<-Ii (jP aD a b) (bM aD.length a b) (vu aD a b o0 1 0) C.a0 C.b0 C.ne]at mM
  refine⟨fun m k h'=>0<=k/\k+m=((bM aD.length a b).length:Int)/\OwQ h' (fun q=>h7.size<=q) u (qz aD.length a b (jP aD a b) (bM aD.length a b) (vu aD a b o0 1 0) k.toNat)/\Fr (fun q=>h7.size<=q) h8 h',⟨(bM aD.length a b).length,by omega,by omega,mM,f9.trans f10⟩,?_⟩
  rintro m3 k hH ⟨k0,k1,lL,f11⟩ iu
  have P11:=((P3.no f7).no f8).fr f11 fun q hq gI=>by omega
  have S11:=(S7.no f8).fr f11 fun q hq gI=>by omega
  refine⟨fun e3=> ?_,fun e3=> ?_⟩
  ·have hk:=P11.lt e3
   have Qd:k.toNat<(bM aD.length a b).length:=by omega
   have cI:=P11.get k0 hk
   rw[nB]at cI
   have Ie:=NC _ (List.getElem_mem Qd)
   have Wm:=Ij (jP aD a b) (vu aD a b o0 1 0) Qd
   have cS:=S11.get (i:=k) k0 (by rw[List.length_map,List.length_range];omega)
   have eS:((List.range (bM aD.length a b).length).map (vu aD a b o0 1 0))[k.toNat]'(by rw[List.length_map,List.length_range];omega)=vu aD a b o0 1 0 k.toNat:=by rw[List.getElem_map,List.getElem_range]
   rw[eS]at cS
   have hcb:=BA hg (a:=a) (b:=b) (by omega) C.Ct k.toNat
   refine⟨P11.bB k0 hk,_,cI,S11.bB k0 (by rw[List.length_map,List.length_range];omega),_,cS,Ly _ _ (by omega) (by omega) (by omega) hH _ fun gK f12=>⟨_,_,rfl,iu.aB f12,?_⟩⟩
   refine CZ (L:=[(b1,[g.v])]) (F:=fun q=>h7.size<=q) (lL.no f12) (i:=(((bM aD.length a b)[k.toNat]' Qd:Nat):Int)) (by omega) (by rw[ji];omega) (iu.aB f12) Wx _ fun qR Lv f13 V13=> ?_
   rw[P11.succ k0 hk]
   refine⟨m3-1,by omega,by omega,by omega,?_,f11.trans (f12.aB.trans f13)⟩
   rw[show(k+1).toNat=k.toNat+1 by omega,Wm]
   simp only[Int.toNat_natCast]at Lv
   exact Lv
  ·have hk:=P11.ge e3
   rw[show k.toNat=(bM aD.length a b).length by omega,LN (by omega)]at lL
   exact HK u hH (GI.low lL.eQ) ((gq.aA (f7.aA f8)).fresh f11 fun q hq=>by have:=gq.size;omega)
theorem mE{S:Nat->Prop}{h:Heap}{g:Sl}{aD:List (List Int)}(G:bU S h g aD)(p a b:Int)(K:Value->Heap->Prop)(HK:∀h',Fr No h h'->K (.tuple #[.agg #[VI (rC aD p a b).1.1,VI (rC aD p a b).1.2],VB (rC aD p a b).2]) h'):aE Tryz.prog 139 #[.agg #[g.v],VI p,VI a,VI b] h K:=by
 refine v139 g p a b h K fun b1 b2 h2 eD dK f2 bW=> ?_
 have f2:=f2.aF
 have box:∀{x y:Heap},Fr No h x->Fr (In [b2]) x y->Fr No h y:=fun f f'=>f.fresh f' fun k hk=>by
  simp only[In,List.mem_cons,List.not_mem_nil,or_false]at hk
  omega
 unfold rC at HK
 refine Om (G.no f2) a b _ fun h3 f3=>⟨_,rfl,bW.aB f3,fun e=>fun dV f10 _=> ?_,fun e=> ?_⟩
 ·rw[bD e,Bool.false_and]at HK
  exact HK dV (box (f2.aA f3) f10)
 have e:=aZ e
 rw[e,Bool.true_and]at HK
 have C:=Of e
 have hd:=C.den
 have f13:=f2.aA f3
 have cF:=bW.aB f3
 refine cQ (G.no f13) p _ fun h5 f5=>⟨_,rfl,cF.aB f5,fun e2=>fun h6 f6 _=> ?_,fun e2=> ?_⟩
 all_goals simp only[C.bE,Bool.true_and]at e2
 all_goals have f15:=f13.aA f5
 ·rw[bD e2]at HK
  exact HK h6 (box f15 f6)
 have e2:=aZ e2
 rw[e2,if_pos rfl]at HK
 have pr:=aX.1 e2
 refine FP (G.no f15) C _ fun t h7 Q7 f7=>⟨t,rfl,(cF.aB f5).aB f7,?_⟩
 obtain⟨ib,cc⟩:=Q7.get (i:=p) pr.1 (by rw[Kp];omega)
 rw[Kq,show(((p.toNat:Nat):Int))=p by omega]at cc
 exact⟨ib,_,_,cc,fun h9 f9 _=>HK h9 (box (f15.aA f7) f9)⟩
def Wy(g:List (List Int))(s:Int):Bool:=aM g&&iq 0 ((g.length:Int)-1) s
theorem Uw{g:List (List Int)}{s:Int}(h:Wy g s=true):aM g=true/\0<=s/\s<(g.length:Int):=by
 obtain⟨a,b⟩:=Bool.and_eq_true_iff.1 h
 have:=aX.1 b
 exact⟨a,this.1,by omega⟩
def ra(g:List (List Int))(s:Int):Int×Bool:=if Wy g s then(tY g s,true)else(0,false)
theorem C7{S:Nat->Prop}{h:Heap}{g:Sl}{aD:List (List Int)}(G:bU S h g aD)(s:Int)(K:Value->Heap->Prop)(HK:∀h',Fr No h h'->K (.tuple #[VI (ra aD s).1,VB (ra aD s).2]) h'):aE Tryz.prog 165 #[.agg #[g.v],VI s] h K:=by
 refine afS g s h K fun b1 h2 eD f2 bW=> ?_
 have f2:=f2.aF
 refine aP fx (fun k=>h2.size<=k) (fun _ h=>h) 1 (by omega) [VI s] rfl rfl fun t h3 n3 c3 o3 f3 m3 _=>⟨t,rfl,bW.aB f3,?_⟩
 have r3:aQ (fun k=>h2.size<=k) h3 t [s]:=o3.eQ
 have gq:=f2.aA f3
 refine rZ (G.no gq) r3 _ fun h4 f4=>⟨_,rfl,(bW.aB f3).aB f4,fun e=> ?_,fun e=> ?_⟩
 all_goals simp only[List.all_cons,List.all_nil,Bool.and_true]at e
 all_goals have jx:=gq.aA f4
 ·have er:ra aD s=(0,false):=by unfold ra Wy;rw[bD e];rfl
  rw[er]at HK
  exact HK h4 jx
 have e:Wy aD s=true:=aZ e
 obtain⟨hg,s0,s1⟩:=Uw e
 have gl:=aO hg
 have er:ra aD s=(tY aD s,true):=by unfold ra;rw[if_pos e]
 rw[er]at HK
 obtain⟨ll,Q⟩:=HW s0 s1
 refine Lx (G.no jx) hg s0 s1 _ fun t5 h5 o5 f5=>⟨t5,rfl,((bW.aB f3).aB f4).aB f5,?_⟩
 refine lQ (dR.rd o5) (by rw[ll];exact Q) (by omega) (by rw[ll];exact Bv hg s0 s1) _ fun h6 f6=>⟨_,rfl,(((bW.aB f3).aB f4).aB f5).aB f6,?_⟩
 rw[ll]
 exact HK h6 (jx.aA (f5.aA f6))
theorem sO{S:Nat->Prop}{h:Heap}{g:Sl}{aD:List (List Int)}(G:bU S h g aD)(s:Int)(K:Value->Heap->Prop)(HK:∀h',Fr No h h'->K (.tuple #[VI (ra aD s).1,VB (ra aD s).2]) h'):aE Tryz.prog 137 #[.agg #[g.v],VI s] h K:=by
 refine afp g s h K fun b1 h2 eD f2 bW=> ?_
 have f2:=f2.aF
 refine cQ (G.no f2) s _ fun h4 f4=>⟨_,rfl,bW.aB f4,fun e=> ?_,fun e=> ?_⟩
 all_goals have jx:=f2.aA f4
 ·have er:ra aD s=(0,false):=by unfold ra Wy;rw[bD e];rfl
  rw[er]at HK
  exact HK h4 jx
 have e:Wy aD s=true:=aZ e
 obtain⟨hg,s0,s1⟩:=Uw e
 have gl:=aO hg
 have er:ra aD s=(tY aD s,true):=by unfold ra;rw[if_pos e]
 rw[er]at HK
 obtain⟨ll,Q⟩:=HW s0 s1
 refine Fy (G.no jx) hg s0 s1 _ fun t5 h5 o5 f5=>⟨t5,rfl,(bW.aB f4).aB f5,?_⟩
 refine wG (aD.length-1) (dR.rd o5) Q (by omega) (Bv hg s0 s1) _ fun h6 f6=>⟨_,rfl,((bW.aB f4).aB f5).aB f6,?_⟩
 exact HK h6 (jx.aA (f5.aA f6))
theorem yn{g:List (List Int)}:∀(m:Nat)(t:List Int)(s:St)(t':List Int)(s':St),runT g nL m t s=some (t',s')->t'.length=t.length+m
 |0,t,s,t',s',h=>by
  simp only[runT,Option.some.injEq,Prod.mk.injEq]at h
  rw[h.1]
  rfl
 |m+1,t,s,t',s',h=>by
  rw[runT]at h
  split at h
  ·cases h
  ·have:=yn m _ _ _ _ h
   simp[nL]at this
   omega
theorem RY{F:Nat->Prop}{b b':Nat}{h:Heap}{o w:Sl}{ps:List Int}{q:Int}(V:dC h b [o.v])(V':dC h b' [w.v,VI q])(RZ:b'≠b)(O:bR h F o ps)(UY:∀k,h.size<=k->F k)(hb:¬o.own b)(hb':¬o.own b')(hn:ps.length<=1000000)(x:Int)(K:Value->Heap->Prop)
 (HK:∀h' o' v,dC h' b [o'.v]->bR h' F o' (ps++[q])->(∀k,o'.own k->o.own k\/h.size<=k)->Fr (fun k=>k=b\/o.own k) h h'->K v h'):fA Tryz.prog (.func (.func 208) #[] #[VP b 0,VP b' 0]) [VI x] h K:=by
 refine v208 x b o b' w q h K (.cons V (by simpa using RZ) (.cons V' (by simp) .nil)) ?_
 refine aP fx (fun k=>h.size<=k) (fun _ h=>h) 1 (by omega) [VI q] rfl rfl fun v h1 n1 c1 o1 f1 m1 _=>⟨v,rfl,.cons (V.fr f1 fun h=>h) (by simpa using RZ) (.cons (V'.fr f1 fun h=>h) (by simp) .nil),?_⟩
 have z1:=f1.size
 have o1:aQ v.own h1 v [q]:=o1.rd
 have O1:=Ow.no O f1
 refine bL fx O1 (fun k hk=>UY k (by omega)) o1 (fc _) (by have h1:=aQ.len O1.eQ;have h2:=o1.len;simp at h2;omega) fun y h2 n2 o2 f2 d2=>⟨y,rfl,.cons ((V.fr f1 fun h=>h).fr f2 hb) (by simpa using RZ) (.cons ((V'.fr f1 fun h=>h).fr f2 hb') (by simp) .nil),fun h3 f3 cF=> ?_⟩
 rw[<-List.map_append]at o2
 have hbl:=V.lt
 have Vb:∀k,In [b] k->k=b:=fun k hk=>by simpa[In]using hk
 have hyb:¬y.own b:=fun hk=>by
  rcases d2 b hk with h1|h1
  ·exact hb h1
  ·omega
 refine HK h3 y _ cF.head (Ow.fr o2 f3 fun k hk aI=>hyb (by have:=Vb k aI;subst this;exact hk)) (fun k hk=>(d2 k hk).imp id fun h=>by omega) ?_
 exact(f1.aB.trans (f2.mono fun k _ hk=> .inr hk)).trans (f3.mono fun k _ hk=> .inl (Vb k hk))
theorem yp{S S':Nat->Prop}{h:Heap}{g w:Sl}{aD:List (List Int)}{rs:List Int}(G:bU S h g aD)(H:aQ S' h w rs)(p n:Int)(K:Value->Heap->Prop)(HK:∀t h',bR h' (Iv h.size h'.size) t (iH aD rs p n).1->Fr No h h'->K (.tuple #[t.v,VB (iH aD rs p n).2]) h'):aE Tryz.prog 162 #[.agg #[g.v],.agg #[w.v,VI p],VI n] h K:=by
 refine v162 g w p n h K fun b1 b2 h2 eD dK f2 bW=> ?_
 have f2:=f2.aF
 have no:iH aD rs p n=([],false)->∀h',Fr No h h'->K (.tuple #[aC.v,VB false]) h':=fun e h' f=>by
  have:=HK aC h' (by rw[e];exact Ow.nil _ _ _ _) f
  rw[e]at this
  exact this
 refine Cs (G.no f2) (H.no f2) p n 200 _ fun h3 f3=>⟨_,rfl,bW.aB f3,fun e=> ?_,fun e=> ?_⟩
 ·exact no (by unfold iH;rw[if_neg (by rw[bD e];simp)]) _ (f2.aA f3)
 have e:=aZ e
 have e2:iH aD rs p n=match runT aD nL n.toNat [p] (rs,p)with
  |none=>([],false)
  |some (t,_)=>(t,true):=by unfold iH;exact if_pos e
 rw[Bool.and_eq_true,aX]at e
 have W:=cV e.1
 have Rb:=aO W.bE
 have gq:=f2.aA f3
 have z03:=gq.size
 have hL:=bW.aB f3
 have l2:b2<h3.size:=hL.head.lt
 have l1:b1<h3.size:=hL.tail.head.lt
 have fj:Fr No h3 h3:=Fr.refl _ _
 have cp:∀{h1:Heap}{K:Value->Heap->Prop},Fr No h3 h1->(∀t h2,bR h2 (Iv h1.size h2.size) t rs->Fr No h1 h2->K (.agg #[t.v,VI p]) h2)->aE Tryz.prog 110 #[.agg #[w.v,VI p]] h1 K:=fun f HK=>ic ((H.no gq).no f) p (by have:=W.len;simp only at this;omega) _ HK
 have lit:∀{h1:Heap}{K:Value->Heap->Prop},Fr No h3 h1->(∀t h2,bR h2 (Iv h1.size h2.size) t [p]->Fr No h1 h2->K t.v h2)->jQ Tryz.prog (Instr.buildSlice qQ 1 #[(0,VI p)]) h1 K:=fun _ HK=>aP fx (fun k=>_<=k) (fun _ h=>h) 1 (by omega) [VI p] rfl rfl fun t h2 n2 c2 o2 f2 m2 _=>HK t h2 (Ow.fV o2) f2
 refine⟨fun bN xw xp bO xo h'=>xp=p/\∃i1 j1 i2 j2,bR h' (Iv i1 j1) xw rs/\bR h' (Iv i2 j2) xo [p]/\(j1<=i2\/j2<=i1)/\(bN<i1\/j1<=bN)/\(bN<i2\/j2<=bN)/\(bO<i1\/j1<=bO)/\(bO<i2\/j2<=bO)/\h3.size<=i1/\h3.size<=i2/\h3.size<=bN/\h3.size<=bO/\j1<=h'.size/\j2<=h'.size/\bN≠bO/\Fr No h3 h',?_,?_⟩
 ·refine⟨?_,?_,?_,?_⟩
  ·refine cp fj fun u_1 nS dW R0=>⟨u_1,_,rfl,hL.aB R0,?_⟩
   replace hL:=hL.aB R0
   have acg:=R0.size
   replace fj:=fj.aA R0
   refine⟨?_,?_,?_⟩
   ·refine lit fj fun u_2 R5 LO OH=>⟨u_2,rfl,hL.aB OH,?_⟩
    replace hL:=hL.aB OH
    have ach:=OH.size
    replace dW:=dW.no OH
    replace fj:=fj.aA OH
    refine⟨?_,?_⟩
    ·intro jK LP R9 Wz WA LQ hL
     have WB:jK<R9.size:=(hL.tail).head.lt
     have WC:LP<R9.size:=(hL).head.lt
     have WD:jK≠LP:=hL.ne (jK,_) List.mem_cons_self
     replace LQ:=LQ.aF
     have aci:=LQ.size
     replace dW:=dW.no LQ
     replace LO:=LO.no LQ
     replace fj:=fj.aA LQ
     exact⟨rfl,h3.size,nS.size,nS.size,R5.size,dW,LO,by omega,by omega,by omega,by omega,by omega,by omega,by omega,by omega,by omega,by omega,by omega,by omega,fj⟩
    ·intro Kr LR sP WE WG LS hL
     have WH:Kr<sP.size:=(hL.tail).head.lt
     have WI:LR<sP.size:=(hL).head.lt
     have WJ:Kr≠LR:=hL.ne (Kr,_) List.mem_cons_self
     replace LS:=LS.aF
     have acj:=LS.size
     replace dW:=dW.no LS
     replace LO:=LO.no LS
     replace fj:=fj.aA LS
     exact⟨rfl,h3.size,nS.size,nS.size,R5.size,dW,LO,by omega,by omega,by omega,by omega,by omega,by omega,by omega,by omega,by omega,by omega,by omega,by omega,fj⟩
   ·intro Qf rc WL OI hL
    have WM:Qf<rc.size:=(hL).head.lt
    replace OI:=OI.aF
    have ack:=OI.size
    replace dW:=dW.no OI
    replace fj:=fj.aA OI
    refine⟨?_,?_⟩
    ·refine lit fj fun u_6 WN WQ OJ=>⟨u_6,rfl,hL.aB OJ,?_⟩
     replace hL:=hL.aB OJ
     have acm:=OJ.size
     replace dW:=dW.no OJ
     replace fj:=fj.aA OJ
     intro qj WR Sa LU hL
     have Sb:qj<WR.size:=(hL).head.lt
     replace LU:=LU.cB (lo:=nS.size) (hi:=rc.size) ⟨⟨by omega,by omega⟩,trivial⟩
     have acn:=LU.size
     replace dW:=dW.iv LU (by omega)
     replace WQ:=WQ.iv LU (by omega)
     replace fj:=fj.aJ LU (by omega)
     exact⟨rfl,h3.size,nS.size,rc.size,WN.size,dW,WQ,by omega,by omega,by omega,by omega,by omega,by omega,by omega,by omega,by omega,by omega,by omega,by omega,fj⟩
    ·intro uh yq Sc OK hL
     have Sd:uh<yq.size:=(hL).head.lt
     replace OK:=OK.aF
     have aco:=OK.size
     replace dW:=dW.no OK
     replace fj:=fj.aA OK
     refine⟨?_,?_⟩
     ·refine lit fj fun u_9 WS Se OL=>⟨u_9,rfl,hL.aB OL,?_⟩
      replace hL:=hL.aB OL
      have acp:=OL.size
      replace dW:=dW.no OL
      replace fj:=fj.aA OL
      intro RR C8 hL
      have WT:=C8.size
      replace dW:=dW.fr C8 fun k hk aI=>by have h1:=(dW.aH hk).1;have h2:=h1.1;have h3:=h1.2;simp only[In,List.mem_cons,List.not_mem_nil,or_false]at aI;omega
      replace Se:=Se.fr C8 fun k hk aI=>by have h1:=(Se.aH hk).1;have h2:=h1.1;have h3:=h1.2;simp only[In,List.mem_cons,List.not_mem_nil,or_false]at aI;omega
      replace fj:=fj.fresh C8 fun k hk=>by simp only[In,List.mem_cons,List.not_mem_nil,or_false]at hk;omega
      exact⟨rfl,h3.size,nS.size,yq.size,WS.size,dW,Se,by omega,by omega,by omega,by omega,by omega,by omega,by omega,by omega,by omega,by omega,by omega,by omega,fj⟩
     ·intro FL yt hL
      replace yt:=yt.cB (lo:=nS.size) (hi:=rc.size) ⟨⟨by omega,by omega⟩,trivial⟩
      have WU:=yt.size
      replace dW:=dW.iv yt (by omega)
      replace fj:=fj.aJ yt (by omega)
      refine lit fj fun WV ue Ik yu=>⟨WV,rfl,hL.aB yu,?_⟩
      replace hL:=hL.aB yu
      have WW:=yu.size
      replace dW:=dW.no yu
      replace fj:=fj.aA yu
      intro Oq ui hL
      replace ui:=ui.cB (lo:=rc.size) (hi:=yq.size) ⟨⟨by omega,by omega⟩,trivial⟩
      have WX:=ui.size
      replace dW:=dW.iv ui (by omega)
      replace Ik:=Ik.iv ui (by omega)
      replace fj:=fj.aJ ui (by omega)
      exact⟨rfl,h3.size,nS.size,FL.size,ue.size,dW,Ik,by omega,by omega,by omega,by omega,by omega,by omega,by omega,by omega,by omega,by omega,by omega,by omega,fj⟩
   ·intro Aa lS Sf yv hL
    have Si:Aa<lS.size:=(hL).head.lt
    replace yv:=yv.aF
    have WY:=yv.size
    replace dW:=dW.no yv
    replace fj:=fj.aA yv
    refine⟨?_,?_⟩
    ·refine lit fj fun WZ CV Il yw=>⟨WZ,rfl,hL.aB yw,?_⟩
     replace hL:=hL.aB yw
     have W4:=yw.size
     replace dW:=dW.no yw
     replace fj:=fj.aA yw
     intro lT sL Sj uj hL
     have Sk:lT<sL.size:=(hL).head.lt
     replace uj:=uj.cB (lo:=nS.size) (hi:=lS.size) ⟨⟨by omega,by omega⟩,trivial⟩
     have Xa:=uj.size
     replace dW:=dW.iv uj (by omega)
     replace Il:=Il.iv uj (by omega)
     replace fj:=fj.aJ uj (by omega)
     exact⟨rfl,h3.size,nS.size,lS.size,CV.size,dW,Il,by omega,by omega,by omega,by omega,by omega,by omega,by omega,by omega,by omega,by omega,by omega,by omega,fj⟩
    ·intro k7 sM Sm yx hL
     have Sn:k7<sM.size:=(hL).head.lt
     replace yx:=yx.aF
     have Xb:=yx.size
     replace dW:=dW.no yx
     replace fj:=fj.aA yx
     refine⟨?_,?_⟩
     ·refine lit fj fun Xc ym C9 yy=>⟨Xc,rfl,hL.aB yy,?_⟩
      replace hL:=hL.aB yy
      have Xd:=yy.size
      replace dW:=dW.no yy
      replace fj:=fj.aA yy
      intro CY Da hL
      have Xe:=Da.size
      replace dW:=dW.fr Da fun k hk aI=>by have h1:=(dW.aH hk).1;have h2:=h1.1;have h3:=h1.2;simp only[In,List.mem_cons,List.not_mem_nil,or_false]at aI;omega
      replace C9:=C9.fr Da fun k hk aI=>by have h1:=(C9.aH hk).1;have h2:=h1.1;have h3:=h1.2;simp only[In,List.mem_cons,List.not_mem_nil,or_false]at aI;omega
      replace fj:=fj.fresh Da fun k hk=>by simp only[In,List.mem_cons,List.not_mem_nil,or_false]at hk;omega
      exact⟨rfl,h3.size,nS.size,sM.size,ym.size,dW,C9,by omega,by omega,by omega,by omega,by omega,by omega,by omega,by omega,by omega,by omega,by omega,by omega,fj⟩
     ·intro Im yz hL
      replace yz:=yz.cB (lo:=lS.size) (hi:=sM.size) ⟨⟨by omega,by omega⟩,trivial⟩
      have Xf:=yz.size
      replace dW:=dW.iv yz (by omega)
      replace fj:=fj.aJ yz (by omega)
      refine lit fj fun Xg FQ Io yA=>⟨Xg,rfl,hL.aB yA,?_⟩
      replace hL:=hL.aB yA
      have Xh:=yA.size
      replace dW:=dW.no yA
      replace fj:=fj.aA yA
      intro OM uk hL
      replace uk:=uk.cB (lo:=nS.size) (hi:=lS.size) ⟨⟨by omega,by omega⟩,trivial⟩
      have Xi:=uk.size
      replace dW:=dW.iv uk (by omega)
      replace Io:=Io.iv uk (by omega)
      replace fj:=fj.aJ uk (by omega)
      exact⟨rfl,h3.size,nS.size,Im.size,FQ.size,dW,Io,by omega,by omega,by omega,by omega,by omega,by omega,by omega,by omega,by omega,by omega,by omega,by omega,fj⟩
  ·refine lit fj fun Xj jY bX Db=>⟨Xj,rfl,hL.aB Db,?_⟩
   replace hL:=hL.aB Db
   have Xk:=Db.size
   replace fj:=fj.aA Db
   refine⟨?_,?_,?_⟩
   ·refine cp fj fun Xl Dc ul yB=>⟨Xl,_,rfl,hL.aB yB,?_⟩
    replace hL:=hL.aB yB
    have Xm:=yB.size
    replace bX:=bX.no yB
    replace fj:=fj.aA yB
    refine⟨?_,?_⟩
    ·intro rf vO Dd Sr Ss um hL
     have Su:rf<Dd.size:=(hL.tail).head.lt
     have Sv:vO<Dd.size:=(hL).head.lt
     have Sx:rf≠vO:=hL.ne (rf,_) List.mem_cons_self
     replace um:=um.aF
     have Xn:=um.size
     replace bX:=bX.no um
     replace ul:=ul.no um
     replace fj:=fj.aA um
     exact⟨rfl,jY.size,Dc.size,h3.size,jY.size,ul,bX,by omega,by omega,by omega,by omega,by omega,by omega,by omega,by omega,by omega,by omega,by omega,by omega,fj⟩
    ·intro rh vP De Sy Sz uo hL
     have SA:rh<De.size:=(hL.tail).head.lt
     have SB:vP<De.size:=(hL).head.lt
     have SC:rh≠vP:=hL.ne (rh,_) List.mem_cons_self
     replace uo:=uo.aF
     have Xo:=uo.size
     replace bX:=bX.no uo
     replace ul:=ul.no uo
     replace fj:=fj.aA uo
     exact⟨rfl,jY.size,Dc.size,h3.size,jY.size,ul,bX,by omega,by omega,by omega,by omega,by omega,by omega,by omega,by omega,by omega,by omega,by omega,by omega,fj⟩
   ·intro Xp Ab SD yC hL
    have SE:Xp<Ab.size:=(hL).head.lt
    replace yC:=yC.aF
    have Xq:=yC.size
    replace bX:=bX.no yC
    replace fj:=fj.aA yC
    refine⟨?_,?_⟩
    ·refine cp fj fun Xr Ip Iq yD=>⟨Xr,_,rfl,hL.aB yD,?_⟩
     replace hL:=hL.aB yD
     have Xs:=yD.size
     replace bX:=bX.no yD
     replace fj:=fj.aA yD
     intro Xt Xu SG uq hL
     have SH:Xt<Xu.size:=(hL).head.lt
     replace uq:=uq.cB (lo:=jY.size) (hi:=Ab.size) ⟨⟨by omega,by omega⟩,trivial⟩
     have Xv:=uq.size
     replace bX:=bX.iv uq (by omega)
     replace Iq:=Iq.iv uq (by omega)
     replace fj:=fj.aJ uq (by omega)
     exact⟨rfl,Ab.size,Ip.size,h3.size,jY.size,Iq,bX,by omega,by omega,by omega,by omega,by omega,by omega,by omega,by omega,by omega,by omega,by omega,by omega,fj⟩
    ·intro Xw ON SI yE hL
     have SJ:Xw<ON.size:=(hL).head.lt
     replace yE:=yE.aF
     have Xx:=yE.size
     replace bX:=bX.no yE
     replace fj:=fj.aA yE
     refine cp fj fun Xy Xz Df yF=>⟨Xy,_,rfl,hL.aB yF,?_⟩
     replace hL:=hL.aB yF
     have XA:=yF.size
     replace bX:=bX.no yF
     replace fj:=fj.aA yF
     intro ajj Dg hL
     have XB:=Dg.size
     replace bX:=bX.fr Dg fun k hk aI=>by have h1:=(bX.aH hk).1;have h2:=h1.1;have h3:=h1.2;simp only[In,List.mem_cons,List.not_mem_nil,or_false]at aI;omega
     replace Df:=Df.fr Dg fun k hk aI=>by have h1:=(Df.aH hk).1;have h2:=h1.1;have h3:=h1.2;simp only[In,List.mem_cons,List.not_mem_nil,or_false]at aI;omega
     replace fj:=fj.fresh Dg fun k hk=>by simp only[In,List.mem_cons,List.not_mem_nil,or_false]at hk;omega
     exact⟨rfl,ON.size,Xz.size,h3.size,jY.size,Df,bX,by omega,by omega,by omega,by omega,by omega,by omega,by omega,by omega,by omega,by omega,by omega,by omega,fj⟩
   ·intro XC Ir SK yG hL
    have SL:XC<Ir.size:=(hL).head.lt
    replace yG:=yG.aF
    have XD:=yG.size
    replace bX:=bX.no yG
    replace fj:=fj.aA yG
    refine⟨?_,?_⟩
    ·refine cp fj fun XE XF Is yH=>⟨XE,_,rfl,hL.aB yH,?_⟩
     replace hL:=hL.aB yH
     have XG:=yH.size
     replace bX:=bX.no yH
     replace fj:=fj.aA yH
     intro XH XI SM ur hL
     have SN:XH<XI.size:=(hL).head.lt
     replace ur:=ur.cB (lo:=jY.size) (hi:=Ir.size) ⟨⟨by omega,by omega⟩,trivial⟩
     have XJ:=ur.size
     replace bX:=bX.iv ur (by omega)
     replace Is:=Is.iv ur (by omega)
     replace fj:=fj.aJ ur (by omega)
     exact⟨rfl,Ir.size,XF.size,h3.size,jY.size,Is,bX,by omega,by omega,by omega,by omega,by omega,by omega,by omega,by omega,by omega,by omega,by omega,by omega,fj⟩
    ·intro XK OO SO yI hL
     have SP:XK<OO.size:=(hL).head.lt
     replace yI:=yI.aF
     have XL:=yI.size
     replace bX:=bX.no yI
     replace fj:=fj.aA yI
     refine cp fj fun XM XN Dh yJ=>⟨XM,_,rfl,hL.aB yJ,?_⟩
     replace hL:=hL.aB yJ
     have XO:=yJ.size
     replace bX:=bX.no yJ
     replace fj:=fj.aA yJ
     intro ajk Di hL
     have XP:=Di.size
     replace bX:=bX.fr Di fun k hk aI=>by have h1:=(bX.aH hk).1;have h2:=h1.1;have h3:=h1.2;simp only[In,List.mem_cons,List.not_mem_nil,or_false]at aI;omega
     replace Dh:=Dh.fr Di fun k hk aI=>by have h1:=(Dh.aH hk).1;have h2:=h1.1;have h3:=h1.2;simp only[In,List.mem_cons,List.not_mem_nil,or_false]at aI;omega
     replace fj:=fj.fresh Di fun k hk=>by simp only[In,List.mem_cons,List.not_mem_nil,or_false]at hk;omega
     exact⟨rfl,OO.size,XN.size,h3.size,jY.size,Dh,bX,by omega,by omega,by omega,by omega,by omega,by omega,by omega,by omega,by omega,by omega,by omega,by omega,fj⟩
  ·intro XQ kS SQ Dm hL
   have SR:XQ<kS.size:=(hL).head.lt
   replace Dm:=Dm.aF
   have XR:=Dm.size
   replace fj:=fj.aA Dm
   refine⟨?_,?_,?_⟩
   ·refine cp fj fun XS yK fu Dn=>⟨XS,_,rfl,hL.aB Dn,?_⟩
    replace hL:=hL.aB Dn
    have XT:=Dn.size
    replace fj:=fj.aA Dn
    refine⟨?_,?_⟩
    ·refine lit fj fun XU XV Iu yL=>⟨XU,rfl,hL.aB yL,?_⟩
     replace hL:=hL.aB yL
     have XW:=yL.size
     replace fu:=fu.no yL
     replace fj:=fj.aA yL
     intro XX XY SS uu hL
     have SU:XX<XY.size:=(hL).head.lt
     replace uu:=uu.cB (lo:=h3.size) (hi:=kS.size) ⟨⟨by omega,by omega⟩,trivial⟩
     have XZ:=uu.size
     replace fu:=fu.iv uu (by omega)
     replace Iu:=Iu.iv uu (by omega)
     replace fj:=fj.aJ uu (by omega)
     exact⟨rfl,kS.size,yK.size,yK.size,XV.size,fu,Iu,by omega,by omega,by omega,by omega,by omega,by omega,by omega,by omega,by omega,by omega,by omega,by omega,fj⟩
    ·intro X1 Iw SV yM hL
     have SW:X1<Iw.size:=(hL).head.lt
     replace yM:=yM.aF
     have X2:=yM.size
     replace fu:=fu.no yM
     replace fj:=fj.aA yM
     refine⟨?_,?_⟩
     ·refine lit fj fun X3 X4 Dp yN=>⟨X3,rfl,hL.aB yN,?_⟩
      replace hL:=hL.aB yN
      have X5:=yN.size
      replace fu:=fu.no yN
      replace fj:=fj.aA yN
      intro ajl Dq hL
      have X6:=Dq.size
      replace fu:=fu.fr Dq fun k hk aI=>by have h1:=(fu.aH hk).1;have h2:=h1.1;have h3:=h1.2;simp only[In,List.mem_cons,List.not_mem_nil,or_false]at aI;omega
      replace Dp:=Dp.fr Dq fun k hk aI=>by have h1:=(Dp.aH hk).1;have h2:=h1.1;have h3:=h1.2;simp only[In,List.mem_cons,List.not_mem_nil,or_false]at aI;omega
      replace fj:=fj.fresh Dq fun k hk=>by simp only[In,List.mem_cons,List.not_mem_nil,or_false]at hk;omega
      exact⟨rfl,kS.size,yK.size,Iw.size,X4.size,fu,Dp,by omega,by omega,by omega,by omega,by omega,by omega,by omega,by omega,by omega,by omega,by omega,by omega,fj⟩
     ·intro X7 yO hL
      replace yO:=yO.cB (lo:=h3.size) (hi:=kS.size) ⟨⟨by omega,by omega⟩,trivial⟩
      have X8:=yO.size
      replace fu:=fu.iv yO (by omega)
      replace fj:=fj.aJ yO (by omega)
      refine lit fj fun X9 Ya Ix yP=>⟨X9,rfl,hL.aB yP,?_⟩
      replace hL:=hL.aB yP
      have Yb:=yP.size
      replace fu:=fu.no yP
      replace fj:=fj.aA yP
      intro ajm uv hL
      replace uv:=uv.cB (lo:=yK.size) (hi:=Iw.size) ⟨⟨by omega,by omega⟩,trivial⟩
      have Yc:=uv.size
      replace fu:=fu.iv uv (by omega)
      replace Ix:=Ix.iv uv (by omega)
      replace fj:=fj.aJ uv (by omega)
      exact⟨rfl,kS.size,yK.size,X7.size,Ya.size,fu,Ix,by omega,by omega,by omega,by omega,by omega,by omega,by omega,by omega,by omega,by omega,by omega,by omega,fj⟩
   ·refine lit fj fun Yd Iy jk Dr=>⟨Yd,rfl,hL.aB Dr,?_⟩
    replace hL:=hL.aB Dr
    have Ye:=Dr.size
    replace fj:=fj.aA Dr
    refine⟨?_,?_⟩
    ·refine cp fj fun Yf Yg Iz yQ=>⟨Yf,_,rfl,hL.aB yQ,?_⟩
     replace hL:=hL.aB yQ
     have Yh:=yQ.size
     replace jk:=jk.no yQ
     replace fj:=fj.aA yQ
     intro Yi Yj SX uw hL
     have SY:Yi<Yj.size:=(hL).head.lt
     replace uw:=uw.cB (lo:=h3.size) (hi:=kS.size) ⟨⟨by omega,by omega⟩,trivial⟩
     have Yk:=uw.size
     replace jk:=jk.iv uw (by omega)
     replace Iz:=Iz.iv uw (by omega)
     replace fj:=fj.aJ uw (by omega)
     exact⟨rfl,Iy.size,Yg.size,kS.size,Iy.size,Iz,jk,by omega,by omega,by omega,by omega,by omega,by omega,by omega,by omega,by omega,by omega,by omega,by omega,fj⟩
    ·intro Yl OP SZ yR hL
     have S0:Yl<OP.size:=(hL).head.lt
     replace yR:=yR.aF
     have Ym:=yR.size
     replace jk:=jk.no yR
     replace fj:=fj.aA yR
     refine cp fj fun Yn Yo Ds yS=>⟨Yn,_,rfl,hL.aB yS,?_⟩
     replace hL:=hL.aB yS
     have Yp:=yS.size
     replace jk:=jk.no yS
     replace fj:=fj.aA yS
     intro ajn Dt hL
     have Yq:=Dt.size
     replace jk:=jk.fr Dt fun k hk aI=>by have h1:=(jk.aH hk).1;have h2:=h1.1;have h3:=h1.2;simp only[In,List.mem_cons,List.not_mem_nil,or_false]at aI;omega
     replace Ds:=Ds.fr Dt fun k hk aI=>by have h1:=(Ds.aH hk).1;have h2:=h1.1;have h3:=h1.2;simp only[In,List.mem_cons,List.not_mem_nil,or_false]at aI;omega
     replace fj:=fj.fresh Dt fun k hk=>by simp only[In,List.mem_cons,List.not_mem_nil,or_false]at hk;omega
     exact⟨rfl,OP.size,Yo.size,kS.size,Iy.size,Ds,jk,by omega,by omega,by omega,by omega,by omega,by omega,by omega,by omega,by omega,by omega,by omega,by omega,fj⟩
   ·intro Yr yT Ta Du hL
    have Tb:Yr<yT.size:=(hL).head.lt
    replace Du:=Du.aF
    have Ys:=Du.size
    replace fj:=fj.aA Du
    refine⟨?_,?_⟩
    ·refine cp fj fun Yt IA jm Dv=>⟨Yt,_,rfl,hL.aB Dv,?_⟩
     replace hL:=hL.aB Dv
     have Yu:=Dv.size
     replace fj:=fj.aA Dv
     refine⟨?_,?_⟩
     ·refine lit fj fun Yw Yy Dw yU=>⟨Yw,rfl,hL.aB yU,?_⟩
      replace hL:=hL.aB yU
      have Yz:=yU.size
      replace jm:=jm.no yU
      replace fj:=fj.aA yU
      intro ajo Dx hL
      have YA:=Dx.size
      replace jm:=jm.fr Dx fun k hk aI=>by have h1:=(jm.aH hk).1;have h2:=h1.1;have h3:=h1.2;simp only[In,List.mem_cons,List.not_mem_nil,or_false]at aI;omega
      replace Dw:=Dw.fr Dx fun k hk aI=>by have h1:=(Dw.aH hk).1;have h2:=h1.1;have h3:=h1.2;simp only[In,List.mem_cons,List.not_mem_nil,or_false]at aI;omega
      replace fj:=fj.fresh Dx fun k hk=>by simp only[In,List.mem_cons,List.not_mem_nil,or_false]at hk;omega
      exact⟨rfl,yT.size,IA.size,IA.size,Yy.size,jm,Dw,by omega,by omega,by omega,by omega,by omega,by omega,by omega,by omega,by omega,by omega,by omega,by omega,fj⟩
     ·intro YB yV hL
      replace yV:=yV.cB (lo:=h3.size) (hi:=kS.size) ⟨⟨by omega,by omega⟩,trivial⟩
      have YC:=yV.size
      replace jm:=jm.iv yV (by omega)
      replace fj:=fj.aJ yV (by omega)
      refine lit fj fun YD YE IB yW=>⟨YD,rfl,hL.aB yW,?_⟩
      replace hL:=hL.aB yW
      have YF:=yW.size
      replace jm:=jm.no yW
      replace fj:=fj.aA yW
      intro ajp ux hL
      replace ux:=ux.cB (lo:=kS.size) (hi:=yT.size) ⟨⟨by omega,by omega⟩,trivial⟩
      have YG:=ux.size
      replace jm:=jm.iv ux (by omega)
      replace IB:=IB.iv ux (by omega)
      replace fj:=fj.aJ ux (by omega)
      exact⟨rfl,yT.size,IA.size,YB.size,YE.size,jm,IB,by omega,by omega,by omega,by omega,by omega,by omega,by omega,by omega,by omega,by omega,by omega,by omega,fj⟩
    ·refine lit fj fun YH OQ uy Dy=>⟨YH,rfl,hL.aB Dy,?_⟩
     replace hL:=hL.aB Dy
     have YI:=Dy.size
     replace fj:=fj.aA Dy
     refine cp fj fun YJ YK Dz yX=>⟨YJ,_,rfl,hL.aB yX,?_⟩
     replace hL:=hL.aB yX
     have YL:=yX.size
     replace uy:=uy.no yX
     replace fj:=fj.aA yX
     intro ajq DA hL
     have YM:=DA.size
     replace uy:=uy.fr DA fun k hk aI=>by have h1:=(uy.aH hk).1;have h2:=h1.1;have h3:=h1.2;simp only[In,List.mem_cons,List.not_mem_nil,or_false]at aI;omega
     replace Dz:=Dz.fr DA fun k hk aI=>by have h1:=(Dz.aH hk).1;have h2:=h1.1;have h3:=h1.2;simp only[In,List.mem_cons,List.not_mem_nil,or_false]at aI;omega
     replace fj:=fj.fresh DA fun k hk=>by simp only[In,List.mem_cons,List.not_mem_nil,or_false]at hk;omega
     exact⟨rfl,OQ.size,YK.size,yT.size,OQ.size,Dz,uy,by omega,by omega,by omega,by omega,by omega,by omega,by omega,by omega,by omega,by omega,by omega,by omega,fj⟩
  ·intro YN gB Tc DB hL
   have Td:YN<gB.size:=(hL).head.lt
   replace DB:=DB.aF
   have YO:=DB.size
   replace fj:=fj.aA DB
   refine⟨?_,?_,?_⟩
   ·refine cp fj fun YP po fw DC=>⟨YP,_,rfl,hL.aB DC,?_⟩
    replace hL:=hL.aB DC
    have YQ:=DC.size
    replace fj:=fj.aA DC
    refine⟨?_,?_⟩
    ·refine lit fj fun YR OR IC yY=>⟨YR,rfl,hL.aB yY,?_⟩
     replace hL:=hL.aB yY
     have YS:=yY.size
     replace fw:=fw.no yY
     replace fj:=fj.aA yY
     intro YT OS Te uz hL
     have Tf:YT<OS.size:=(hL).head.lt
     replace uz:=uz.cB (lo:=h3.size) (hi:=gB.size) ⟨⟨by omega,by omega⟩,trivial⟩
     have YU:=uz.size
     replace fw:=fw.iv uz (by omega)
     replace IC:=IC.iv uz (by omega)
     replace fj:=fj.aJ uz (by omega)
     exact⟨rfl,gB.size,po.size,po.size,OR.size,fw,IC,by omega,by omega,by omega,by omega,by omega,by omega,by omega,by omega,by omega,by omega,by omega,by omega,fj⟩
    ·intro YV yZ Tg y0 hL
     have Th:YV<yZ.size:=(hL).head.lt
     replace y0:=y0.aF
     have YW:=y0.size
     replace fw:=fw.no y0
     replace fj:=fj.aA y0
     refine⟨?_,?_⟩
     ·refine lit fj fun YX OT DD y9=>⟨YX,rfl,hL.aB y9,?_⟩
      replace hL:=hL.aB y9
      have YY:=y9.size
      replace fw:=fw.no y9
      replace fj:=fj.aA y9
      intro acq DE hL
      have YZ:=DE.size
      replace fw:=fw.fr DE fun k hk aI=>by have h1:=(fw.aH hk).1;have h2:=h1.1;have h3:=h1.2;simp only[In,List.mem_cons,List.not_mem_nil,or_false]at aI;omega
      replace DD:=DD.fr DE fun k hk aI=>by have h1:=(DD.aH hk).1;have h2:=h1.1;have h3:=h1.2;simp only[In,List.mem_cons,List.not_mem_nil,or_false]at aI;omega
      replace fj:=fj.fresh DE fun k hk=>by simp only[In,List.mem_cons,List.not_mem_nil,or_false]at hk;omega
      exact⟨rfl,gB.size,po.size,yZ.size,OT.size,fw,DD,by omega,by omega,by omega,by omega,by omega,by omega,by omega,by omega,by omega,by omega,by omega,by omega,fj⟩
     ·intro OU za hL
      replace za:=za.cB (lo:=po.size) (hi:=yZ.size) ⟨⟨by omega,by omega⟩,trivial⟩
      have Y0:=za.size
      replace fw:=fw.iv za (by omega)
      replace fj:=fj.aJ za (by omega)
      refine lit fj fun Y1 OV ID zc=>⟨Y1,rfl,hL.aB zc,?_⟩
      replace hL:=hL.aB zc
      have Y2:=zc.size
      replace fw:=fw.no zc
      replace fj:=fj.aA zc
      intro acr uA hL
      replace uA:=uA.cB (lo:=h3.size) (hi:=gB.size) ⟨⟨by omega,by omega⟩,trivial⟩
      have Y3:=uA.size
      replace fw:=fw.iv uA (by omega)
      replace ID:=ID.iv uA (by omega)
      replace fj:=fj.aJ uA (by omega)
      exact⟨rfl,gB.size,po.size,OU.size,OV.size,fw,ID,by omega,by omega,by omega,by omega,by omega,by omega,by omega,by omega,by omega,by omega,by omega,by omega,fj⟩
   ·refine lit fj fun Y4 zd jn DF=>⟨Y4,rfl,hL.aB DF,?_⟩
    replace hL:=hL.aB DF
    have Y5:=DF.size
    replace fj:=fj.aA DF
    refine⟨?_,?_⟩
    ·refine cp fj fun Y6 OW IE ze=>⟨Y6,_,rfl,hL.aB ze,?_⟩
     replace hL:=hL.aB ze
     have Y7:=ze.size
     replace jn:=jn.no ze
     replace fj:=fj.aA ze
     intro Y8 OX Ti uB hL
     have Tj:Y8<OX.size:=(hL).head.lt
     replace uB:=uB.cB (lo:=h3.size) (hi:=gB.size) ⟨⟨by omega,by omega⟩,trivial⟩
     have Y9:=uB.size
     replace jn:=jn.iv uB (by omega)
     replace IE:=IE.iv uB (by omega)
     replace fj:=fj.aJ uB (by omega)
     exact⟨rfl,zd.size,OW.size,gB.size,zd.size,IE,jn,by omega,by omega,by omega,by omega,by omega,by omega,by omega,by omega,by omega,by omega,by omega,by omega,fj⟩
    ·intro Za FR Tk zf hL
     have Tl:Za<FR.size:=(hL).head.lt
     replace zf:=zf.aF
     have Zb:=zf.size
     replace jn:=jn.no zf
     replace fj:=fj.aA zf
     refine cp fj fun Zc OY DG zg=>⟨Zc,_,rfl,hL.aB zg,?_⟩
     replace hL:=hL.aB zg
     have Zd:=zg.size
     replace jn:=jn.no zg
     replace fj:=fj.aA zg
     intro acs DH hL
     have Ze:=DH.size
     replace jn:=jn.fr DH fun k hk aI=>by have h1:=(jn.aH hk).1;have h2:=h1.1;have h3:=h1.2;simp only[In,List.mem_cons,List.not_mem_nil,or_false]at aI;omega
     replace DG:=DG.fr DH fun k hk aI=>by have h1:=(DG.aH hk).1;have h2:=h1.1;have h3:=h1.2;simp only[In,List.mem_cons,List.not_mem_nil,or_false]at aI;omega
     replace fj:=fj.fresh DH fun k hk=>by simp only[In,List.mem_cons,List.not_mem_nil,or_false]at hk;omega
     exact⟨rfl,FR.size,OY.size,gB.size,zd.size,DG,jn,by omega,by omega,by omega,by omega,by omega,by omega,by omega,by omega,by omega,by omega,by omega,by omega,fj⟩
   ·intro Zf pp Tm DI hL
    have Tp:Zf<pp.size:=(hL).head.lt
    replace DI:=DI.aF
    have Zg:=DI.size
    replace fj:=fj.aA DI
    refine⟨?_,?_⟩
    ·refine cp fj fun Zh zh jo DJ=>⟨Zh,_,rfl,hL.aB DJ,?_⟩
     replace hL:=hL.aB DJ
     have Zi:=DJ.size
     replace fj:=fj.aA DJ
     refine⟨?_,?_⟩
     ·refine lit fj fun Zj OZ DK zi=>⟨Zj,rfl,hL.aB zi,?_⟩
      replace hL:=hL.aB zi
      have Zk:=zi.size
      replace jo:=jo.no zi
      replace fj:=fj.aA zi
      intro acu DL hL
      have Zl:=DL.size
      replace jo:=jo.fr DL fun k hk aI=>by have h1:=(jo.aH hk).1;have h2:=h1.1;have h3:=h1.2;simp only[In,List.mem_cons,List.not_mem_nil,or_false]at aI;omega
      replace DK:=DK.fr DL fun k hk aI=>by have h1:=(DK.aH hk).1;have h2:=h1.1;have h3:=h1.2;simp only[In,List.mem_cons,List.not_mem_nil,or_false]at aI;omega
      replace fj:=fj.fresh DL fun k hk=>by simp only[In,List.mem_cons,List.not_mem_nil,or_false]at hk;omega
      exact⟨rfl,pp.size,zh.size,zh.size,OZ.size,jo,DK,by omega,by omega,by omega,by omega,by omega,by omega,by omega,by omega,by omega,by omega,by omega,by omega,fj⟩
     ·intro O0 zj hL
      replace zj:=zj.cB (lo:=gB.size) (hi:=pp.size) ⟨⟨by omega,by omega⟩,trivial⟩
      have Zm:=zj.size
      replace jo:=jo.iv zj (by omega)
      replace fj:=fj.aJ zj (by omega)
      refine lit fj fun Zn O8 IF zk=>⟨Zn,rfl,hL.aB zk,?_⟩
      replace hL:=hL.aB zk
      have Zo:=zk.size
      replace jo:=jo.no zk
      replace fj:=fj.aA zk
      intro acv uC hL
      replace uC:=uC.cB (lo:=h3.size) (hi:=gB.size) ⟨⟨by omega,by omega⟩,trivial⟩
      have Zp:=uC.size
      replace jo:=jo.iv uC (by omega)
      replace IF:=IF.iv uC (by omega)
      replace fj:=fj.aJ uC (by omega)
      exact⟨rfl,pp.size,zh.size,O0.size,O8.size,jo,IF,by omega,by omega,by omega,by omega,by omega,by omega,by omega,by omega,by omega,by omega,by omega,by omega,fj⟩
    ·refine lit fj fun Zq FT uD DM=>⟨Zq,rfl,hL.aB DM,?_⟩
     replace hL:=hL.aB DM
     have Zr:=DM.size
     replace fj:=fj.aA DM
     refine cp fj fun Zs O9 DN zm=>⟨Zs,_,rfl,hL.aB zm,?_⟩
     replace hL:=hL.aB zm
     have Zt:=zm.size
     replace uD:=uD.no zm
     replace fj:=fj.aA zm
     intro acw DO hL
     have Zu:=DO.size
     replace uD:=uD.fr DO fun k hk aI=>by have h1:=(uD.aH hk).1;have h2:=h1.1;have h3:=h1.2;simp only[In,List.mem_cons,List.not_mem_nil,or_false]at aI;omega
     replace DN:=DN.fr DO fun k hk aI=>by have h1:=(DN.aH hk).1;have h2:=h1.1;have h3:=h1.2;simp only[In,List.mem_cons,List.not_mem_nil,or_false]at aI;omega
     replace fj:=fj.fresh DO fun k hk=>by simp only[In,List.mem_cons,List.not_mem_nil,or_false]at hk;omega
     exact⟨rfl,FT.size,O9.size,pp.size,FT.size,DN,uD,by omega,by omega,by omega,by omega,by omega,by omega,by omega,by omega,by omega,by omega,by omega,by omega,fj⟩
 rintro bN x1 x2 bO x3 zn ⟨rfl,i1,j1,i2,j2,o1,o2,d12,dN1,dN2,dO1,dO2,e1,e2',e3,e4,e5,e6,dZ,f134⟩ kT
 have f0:=gq.aA f134
 have ajs:=f134.size
 have lO:bO<zn.size:=kT.head.lt
 have lN:bN<zn.size:=kT.tail.head.lt
 have Zv:bU (fun k=>k<h3.size) zn g aD:=(G.no gq).low.no f134
 have xN:¬x1.own bN:=fun hk=>by have h1:=(o1.aH hk).1.1;have h2:=(o1.aH hk).1.2;omega
 have xO:¬x3.own bO:=fun hk=>by have h1:=(o2.aH hk).1.1;have h2:=(o2.aH hk).1.2;omega
 have x1O:¬x1.own bO:=fun hk=>by have h1:=(o1.aH hk).1.1;have h2:=(o1.aH hk).1.2;omega
 have x3N:¬x3.own bN:=fun hk=>by have h1:=(o2.aH hk).1.1;have h2:=(o2.aH hk).1.2;omega
 have JK:∀k,x1.own k->¬x3.own k:=fun k h1 h3=>by have a1:=(o1.aH h1).1.1;have a2:=(o1.aH h1).1.2;have a3:=(o2.aH h3).1.1;have a4:=(o2.aH h3).1.2;omega
 have x1g:∀k,x1.own k->h3.size<=k/\k<zn.size:=fun k hk=>⟨by have:=(o1.aH hk).1.1;omega,(o1.aH hk).2⟩
 have x3g:∀k,x3.own k->h3.size<=k/\k<zn.size:=fun k hk=>⟨by have:=(o2.aH hk).1.1;omega,(o2.aH hk).2⟩
 --what the Zw region and the other one are off
 have qd:∀k,(k=bN\/x1.own k)\/(k=bO\/x3.own k)->h3.size<=k:=fun k hk=>by
  rcases hk with(rfl|hk)|(rfl|hk)
  ·omega
  ·exact(x1g k hk).1
  ·omega
  ·exact(x3g k hk).1
 refine Nu (s0:=(rs,x2)) (F:=fun k=>k=bN\/x1.own k) (S:=fun k=>k<h3.size) nL
  (fun N t h'=>∃o:Sl,dC h' bO [o.v]/\bR h' (fun k=>h3.size<=k) o t/\∀k,o.own k->x3.own k\/N<=k) (fun k=>k=bO\/x3.own k)
  Zv kT.tail.head (o1.mono fun k hk _=> .inr hk) (fun k hk=>⟨fun h=>by have:=qd k (.inl h);omega,fun h=>by have:=qd k (.inr h);omega⟩) (.inl rfl) xN W n (by omega) (by omega) _ [x2]
  (fun k hk=>by rcases hk with rfl|hk;exact lN;exact(x1g k hk).2)
  (fun k hk=>⟨fun h=>by
   rcases hk with rfl|hk<;>rcases h with rfl|h
   ·exact dZ rfl
   ·exact x1O h
   ·exact x3N hk
   ·exact JK k h hk,by rcases hk with rfl|hk;exact lO;exact(x3g k hk).2⟩)
  (fun N hN=>⟨x3,kT.head,o2.mono fun k _ hk=>by have:=hk.1;omega,fun k hk=> .inl hk⟩)
  (fun N t h1 h2 U ⟨o,v1,v2,v3⟩ f hU=>⟨o,v1.fr f fun h=>(hU _ h).1 (.inl rfl),v2.fr f fun k hk aI=>by
   rcases v3 k hk with h|h
   ·exact(hU k aI).1 (.inr h)
   ·have:=(hU k aI).2;omega,v3⟩)
  (fun N t s s' h1 K hN hN2 ⟨o,v1,v2,v3⟩ V O W hs hm HK=> ?_) _ (fun hr N t h9 q hN ⟨o,v1,v2,v3⟩ v9 f9=> ?_) fun t' s' hr N h9 hN ⟨o,v1,v2,v3⟩ o9 W9 v9 f9=> ?_
 ·obtain⟨m,hm,hr⟩:=hm
  have hl:=yn m _ _ _ _ hr
  have ob:¬o.own bO:=fun hk=>by
   rcases v3 _ hk with h|h
   ·exact xO h
   ·omega
  have ob':¬o.own bN:=fun hk=>by
   rcases v3 _ hk with h|h
   ·exact x3N h
   ·omega
  refine RY v1 V dZ v2 (fun k hk=>by omega) ob ob' (by simp at hl;omega) s.2 K fun h2 o' v w1 w2 w3 w4=>HK h2 v ⟨o',w1,w2,fun k hk=> ?_⟩ (w4.mono fun k _ hk=> ?_)
  ·rcases w3 k hk with h|h
   ·exact v3 k h
   ·exact .inr (by omega)
  ·rcases hk with rfl|hk
   ·exact .inl (.inl rfl)
   ·exact(v3 k hk).imp .inr id
 ·have fP:Vars h9 [(bO,[o.v]),(bN,[x1.v,VI q]),(b2,[w.v,VI x2]),(b1,[g.v])]:= .cons v1 (fun p hp=>by
   have:=kT.ne
   simp only[List.mem_cons,List.not_mem_nil,or_false]at hp
   rcases hp with rfl|rfl|rfl<;>simp only<;>omega) (.cons v9 (fun p hp=>by
   simp only[List.mem_cons,List.not_mem_nil,or_false]at hp
   rcases hp with rfl|rfl<;>simp only<;>omega) (kT.tail.tail.fr f9 fun p hp hk=>by
   have:=qd _ hk
   simp only[List.mem_cons,List.not_mem_nil,or_false]at hp
   rcases hp with rfl|rfl<;>simp only at this<;>omega))
  refine⟨o,x1,q,false,rfl,fP,fun _=> ?_,fun e=>by simp at e⟩
  rw[hr]at e2
  exact no e2 h9 (f0.fresh f9 fun k hk=>by have:=qd k hk;omega)
 ·have fP:Vars h9 [(bO,[o.v]),(bN,[x1.v,VI s'.2]),(b2,[w.v,VI x2]),(b1,[g.v])]:= .cons v1 (fun p hp=>by
   simp only[List.mem_cons,List.not_mem_nil,or_false]at hp
   rcases hp with rfl|rfl|rfl<;>simp only<;>omega) (.cons v9 (fun p hp=>by
   simp only[List.mem_cons,List.not_mem_nil,or_false]at hp
   rcases hp with rfl|rfl<;>simp only<;>omega) (kT.tail.tail.fr f9 fun p hp hk=>by
   have:=qd _ hk
   simp only[List.mem_cons,List.not_mem_nil,or_false]at hp
   rcases hp with rfl|rfl<;>simp only at this<;>omega))
  refine⟨o,x1,s'.2,true,rfl,fP,fun e=>by simp at e,fun _=> ?_⟩
  rw[hr]at e2
  have:=HK o h9 (by rw[e2];exact v2.mono fun k hk hF=>⟨by omega,(v2.aH hk).2⟩) (f0.fresh f9 fun k hk=>by have:=qd k hk;omega)
  rw[e2]at this
  exact this
theorem zo{g:List (List Int)}:∀(m k:Nat)(t:List Int)(s:St)(t':List Int)(s':St),(∀x,x∈t->0<=x/\x<=(k:Int))->runT g Hx m t s=some (t',s')->t'.length=t.length/\∀x,x∈t'->0<=x/\x<=((k+m:Nat):Int)
 |0,k,t,s,t',s',hk,h=>by
  simp only[runT,Option.some.injEq,Prod.mk.injEq]at h
  rw[<-h.1]
  exact⟨rfl,by simpa using hk⟩
 |m+1,k,t,s,t',s',hk,h=>by
  rw[runT]at h
  split at h
  ·cases h
  ·rename_i s2 hs
   have:=zo m (k+1) _ _ _ _ (xI (i:=s2.2.toNat) hk) h
   rw[show k+(m+1)=k+1+m by omega]
   exact⟨this.1.trans (oN _ _),this.2⟩
theorem Pa(g:List (List Int))(rs:List Int)(p n:Int):(nT g rs p n).1.length<=8:=by
 unfold nT
 split
 ·rename_i h
  rw[Bool.and_eq_true,aX]at h
  have W:=cV h.1
  have:=aO W.bE
  split
  ·simp
  ·rename_i t s hs
   have:=(zo n.toNat 0 _ _ _ _ (fun x hx=>by simp only[List.mem_replicate]at hx;omega) hs).1
   simp at this
   simp only
   omega
 ·simp
theorem Zx{F:Nat->Prop}{b b':Nat}{h:Heap}{o w:Sl}{ps:List Int}{q:Int}(V:dC h b [o.v])(V':dC h b' [w.v,VI q])(RZ:b'≠b)(O:bR h F o ps)(hb:¬o.own b)(hb':¬o.own b')(h0:0<=q)(h1:q<(ps.length:Int))(hv:∀x,x∈ps->0<=x/\x<=1000000)(x:Int)(K:Value->Heap->Prop)
 (HK:∀h' v,dC h' b [o.v]->bR h' F o (bump ps q.toNat)->Fr o.own h h'->K v h'):fA Tryz.prog (.func (.func 209) #[] #[VP b 0,VP b' 0]) [VI x] h K:=by
 have R:aQ F h o ps:=O.eQ
 have hl:=R.len
 have hm:=hv _ (List.getElem_mem (show q.toNat<ps.length by omega))
 refine agR x b o b' w q h K (.cons V (by simpa using RZ) (.cons V' (by simp) .nil)) ⟨R.bB h0 h1,_,R.get h0 h1,R.bB h0 h1,?_⟩
 rw[aG _ (by omega) (by omega)]
 obtain⟨w1,w2,w3⟩:=O.eX h0 (by omega) (VI ((ps[q.toNat]'(by omega))+1))
 have hL:Vars (cK h (o.at q 1) (VI ((ps[q.toNat]'(by omega))+1))) [(b,[o.v]),(b',[w.v,VI q])]:= .cons (V.fr w3 hb) (by simpa using RZ) (.cons (V'.fr w3 hb') (by simp) .nil)
 refine⟨w1,hL,fun h2 e2 _=> ?_⟩
 subst e2
 rw[<-List.map_set]at w2
 have e:ps.set q.toNat ((ps[q.toNat]'(by omega))+1)=bump ps q.toNat:=by unfold bump;rw[aN (by omega)]
 rw[e]at w2
 exact HK _ _ hL.head w2 w3
theorem IG{S S':Nat->Prop}{h:Heap}{g w:Sl}{aD:List (List Int)}{rs:List Int}(G:bU S h g aD)(H:aQ S' h w rs)(p n:Int)(K:Value->Heap->Prop)(HK:∀t h',bR h' (Iv h.size h'.size) t (nT aD rs p n).1->Fr No h h'->K (.tuple #[t.v,VB (nT aD rs p n).2]) h'):aE Tryz.prog 163 #[.agg #[g.v],.agg #[w.v,VI p],VI n] h K:=by
 refine afP g w p n h K fun b1 b2 h2 eD dK f2 bW=> ?_
 have f2:=f2.aF
 have no:nT aD rs p n=([],false)->∀h',Fr No h h'->K (.tuple #[aC.v,VB false]) h':=fun e h' f=>by
  have:=HK aC h' (by rw[e];exact Ow.nil _ _ _ _) f
  rw[e]at this
  exact this
 refine Cs (G.no f2) (H.no f2) p n 2000 _ fun h3 f3=>⟨_,rfl,bW.aB f3,fun e=> ?_,fun e=> ?_⟩
 ·exact no (by unfold nT;rw[if_neg (by rw[bD e];simp)]) _ (f2.aA f3)
 have e:=aZ e
 have e2:nT aD rs p n=match runT aD Hx n.toNat (List.replicate aD.length 0) (rs,p)with
  |none=>([],false)
  |some (t,_)=>(t,true):=by unfold nT;exact if_pos e
 rw[Bool.and_eq_true,aX]at e
 have W:=cV e.1
 have Rb:=aO W.bE
 have gq:=f2.aA f3
 have z03:=gq.size
 have hL:=bW.aB f3
 have l2:b2<h3.size:=hL.head.lt
 have l1:b1<h3.size:=hL.tail.head.lt
 have fj:Fr No h3 h3:=Fr.refl _ _
 have cp:∀{h1:Heap}{K:Value->Heap->Prop},Fr No h3 h1->(∀t h2,bR h2 (Iv h1.size h2.size) t rs->Fr No h1 h2->K (.agg #[t.v,VI p]) h2)->aE Tryz.prog 110 #[.agg #[w.v,VI p]] h1 K:=fun f HK=>ic ((H.no gq).no f) p (by have:=W.len;simp only at this;omega) _ HK
 have mk:∀{h1:Heap}{K:Value->Heap->Prop},Fr No h3 h1->(∀t h2,bR h2 (Iv h1.size h2.size) t (List.replicate aD.length 0)->Fr No h1 h2->K t.v h2)->jQ Tryz.prog (Instr.makeSlice qQ (VI (g.n:Int)) (VI (g.n:Int))) h1 K:=fun _ HK=>eA fx (fun k=>_<=k) (fun _ h=>h) .i64 .i64 g.n g.n (Nat.le_refl _) (by rw[G.len];omega) fun t h2 n2 c2 o2 f2 m2 _=>HK t h2 (Ow.fV (by
  have e:(List.replicate g.n [VI 0]).flatten=(List.replicate aD.length (0:Int)).map VI:=by rw[G.len];simp[List.flatten_replicate_singleton]
  rw[e]at o2;exact o2)) f2
 refine⟨fun bN xw xp bO xo h'=>xp=p/\∃i1 j1 i2 j2,bR h' (Iv i1 j1) xw rs/\bR h' (Iv i2 j2) xo (List.replicate aD.length 0)/\(j1<=i2\/j2<=i1)/\(bN<i1\/j1<=bN)/\(bN<i2\/j2<=bN)/\(bO<i1\/j1<=bO)/\(bO<i2\/j2<=bO)/\h3.size<=i1/\h3.size<=i2/\h3.size<=bN/\h3.size<=bO/\j1<=h'.size/\j2<=h'.size/\bN≠bO/\Fr No h3 h',?_,?_⟩
 ·refine⟨?_,?_,?_,?_⟩
  ·refine cp fj fun u_1 nS dW R0=>⟨u_1,_,rfl,hL.aB R0,?_⟩
   replace hL:=hL.aB R0
   have acg:=R0.size
   replace fj:=fj.aA R0
   refine⟨?_,?_,?_⟩
   ·refine mk fj fun u_2 R5 LO OH=>⟨u_2,rfl,hL.aB OH,?_⟩
    replace hL:=hL.aB OH
    have ach:=OH.size
    replace dW:=dW.no OH
    replace fj:=fj.aA OH
    refine⟨?_,?_⟩
    ·intro jK LP R9 Wz WA LQ hL
     have WB:jK<R9.size:=(hL.tail).head.lt
     have WC:LP<R9.size:=(hL).head.lt
     have WD:jK≠LP:=hL.ne (jK,_) List.mem_cons_self
     replace LQ:=LQ.aF
     have aci:=LQ.size
     replace dW:=dW.no LQ
     replace LO:=LO.no LQ
     replace fj:=fj.aA LQ
     exact⟨rfl,h3.size,nS.size,nS.size,R5.size,dW,LO,by omega,by omega,by omega,by omega,by omega,by omega,by omega,by omega,by omega,by omega,by omega,by omega,fj⟩
    ·intro Kr LR sP WE WG LS hL
     have WH:Kr<sP.size:=(hL.tail).head.lt
     have WI:LR<sP.size:=(hL).head.lt
     have WJ:Kr≠LR:=hL.ne (Kr,_) List.mem_cons_self
     replace LS:=LS.aF
     have acj:=LS.size
     replace dW:=dW.no LS
     replace LO:=LO.no LS
     replace fj:=fj.aA LS
     exact⟨rfl,h3.size,nS.size,nS.size,R5.size,dW,LO,by omega,by omega,by omega,by omega,by omega,by omega,by omega,by omega,by omega,by omega,by omega,by omega,fj⟩
   ·intro Qf rc WL OI hL
    have WM:Qf<rc.size:=(hL).head.lt
    replace OI:=OI.aF
    have ack:=OI.size
    replace dW:=dW.no OI
    replace fj:=fj.aA OI
    refine⟨?_,?_⟩
    ·refine mk fj fun u_6 WN WQ OJ=>⟨u_6,rfl,hL.aB OJ,?_⟩
     replace hL:=hL.aB OJ
     have acm:=OJ.size
     replace dW:=dW.no OJ
     replace fj:=fj.aA OJ
     intro qj WR Sa LU hL
     have Sb:qj<WR.size:=(hL).head.lt
     replace LU:=LU.cB (lo:=nS.size) (hi:=rc.size) ⟨⟨by omega,by omega⟩,trivial⟩
     have acn:=LU.size
     replace dW:=dW.iv LU (by omega)
     replace WQ:=WQ.iv LU (by omega)
     replace fj:=fj.aJ LU (by omega)
     exact⟨rfl,h3.size,nS.size,rc.size,WN.size,dW,WQ,by omega,by omega,by omega,by omega,by omega,by omega,by omega,by omega,by omega,by omega,by omega,by omega,fj⟩
    ·intro uh yq Sc OK hL
     have Sd:uh<yq.size:=(hL).head.lt
     replace OK:=OK.aF
     have aco:=OK.size
     replace dW:=dW.no OK
     replace fj:=fj.aA OK
     refine⟨?_,?_⟩
     ·refine mk fj fun u_9 WS Se OL=>⟨u_9,rfl,hL.aB OL,?_⟩
      replace hL:=hL.aB OL
      have acp:=OL.size
      replace dW:=dW.no OL
      replace fj:=fj.aA OL
      intro RR C8 hL
      have WT:=C8.size
      replace dW:=dW.fr C8 fun k hk aI=>by have h1:=(dW.aH hk).1;have h2:=h1.1;have h3:=h1.2;simp only[In,List.mem_cons,List.not_mem_nil,or_false]at aI;omega
      replace Se:=Se.fr C8 fun k hk aI=>by have h1:=(Se.aH hk).1;have h2:=h1.1;have h3:=h1.2;simp only[In,List.mem_cons,List.not_mem_nil,or_false]at aI;omega
      replace fj:=fj.fresh C8 fun k hk=>by simp only[In,List.mem_cons,List.not_mem_nil,or_false]at hk;omega
      exact⟨rfl,h3.size,nS.size,yq.size,WS.size,dW,Se,by omega,by omega,by omega,by omega,by omega,by omega,by omega,by omega,by omega,by omega,by omega,by omega,fj⟩
     ·intro FL yt hL
      replace yt:=yt.cB (lo:=nS.size) (hi:=rc.size) ⟨⟨by omega,by omega⟩,trivial⟩
      have WU:=yt.size
      replace dW:=dW.iv yt (by omega)
      replace fj:=fj.aJ yt (by omega)
      refine mk fj fun WV ue Ik yu=>⟨WV,rfl,hL.aB yu,?_⟩
      replace hL:=hL.aB yu
      have WW:=yu.size
      replace dW:=dW.no yu
      replace fj:=fj.aA yu
      intro Oq ui hL
      replace ui:=ui.cB (lo:=rc.size) (hi:=yq.size) ⟨⟨by omega,by omega⟩,trivial⟩
      have WX:=ui.size
      replace dW:=dW.iv ui (by omega)
      replace Ik:=Ik.iv ui (by omega)
      replace fj:=fj.aJ ui (by omega)
      exact⟨rfl,h3.size,nS.size,FL.size,ue.size,dW,Ik,by omega,by omega,by omega,by omega,by omega,by omega,by omega,by omega,by omega,by omega,by omega,by omega,fj⟩
   ·intro Aa lS Sf yv hL
    have Si:Aa<lS.size:=(hL).head.lt
    replace yv:=yv.aF
    have WY:=yv.size
    replace dW:=dW.no yv
    replace fj:=fj.aA yv
    refine⟨?_,?_⟩
    ·refine mk fj fun WZ CV Il yw=>⟨WZ,rfl,hL.aB yw,?_⟩
     replace hL:=hL.aB yw
     have W4:=yw.size
     replace dW:=dW.no yw
     replace fj:=fj.aA yw
     intro lT sL Sj uj hL
     have Sk:lT<sL.size:=(hL).head.lt
     replace uj:=uj.cB (lo:=nS.size) (hi:=lS.size) ⟨⟨by omega,by omega⟩,trivial⟩
     have Xa:=uj.size
     replace dW:=dW.iv uj (by omega)
     replace Il:=Il.iv uj (by omega)
     replace fj:=fj.aJ uj (by omega)
     exact⟨rfl,h3.size,nS.size,lS.size,CV.size,dW,Il,by omega,by omega,by omega,by omega,by omega,by omega,by omega,by omega,by omega,by omega,by omega,by omega,fj⟩
    ·intro k7 sM Sm yx hL
     have Sn:k7<sM.size:=(hL).head.lt
     replace yx:=yx.aF
     have Xb:=yx.size
     replace dW:=dW.no yx
     replace fj:=fj.aA yx
     refine⟨?_,?_⟩
     ·refine mk fj fun Xc ym C9 yy=>⟨Xc,rfl,hL.aB yy,?_⟩
      replace hL:=hL.aB yy
      have Xd:=yy.size
      replace dW:=dW.no yy
      replace fj:=fj.aA yy
      intro CY Da hL
      have Xe:=Da.size
      replace dW:=dW.fr Da fun k hk aI=>by have h1:=(dW.aH hk).1;have h2:=h1.1;have h3:=h1.2;simp only[In,List.mem_cons,List.not_mem_nil,or_false]at aI;omega
      replace C9:=C9.fr Da fun k hk aI=>by have h1:=(C9.aH hk).1;have h2:=h1.1;have h3:=h1.2;simp only[In,List.mem_cons,List.not_mem_nil,or_false]at aI;omega
      replace fj:=fj.fresh Da fun k hk=>by simp only[In,List.mem_cons,List.not_mem_nil,or_false]at hk;omega
      exact⟨rfl,h3.size,nS.size,sM.size,ym.size,dW,C9,by omega,by omega,by omega,by omega,by omega,by omega,by omega,by omega,by omega,by omega,by omega,by omega,fj⟩
     ·intro Im yz hL
      replace yz:=yz.cB (lo:=lS.size) (hi:=sM.size) ⟨⟨by omega,by omega⟩,trivial⟩
      have Xf:=yz.size
      replace dW:=dW.iv yz (by omega)
      replace fj:=fj.aJ yz (by omega)
      refine mk fj fun Xg FQ Io yA=>⟨Xg,rfl,hL.aB yA,?_⟩
      replace hL:=hL.aB yA
      have Xh:=yA.size
      replace dW:=dW.no yA
      replace fj:=fj.aA yA
      intro OM uk hL
      replace uk:=uk.cB (lo:=nS.size) (hi:=lS.size) ⟨⟨by omega,by omega⟩,trivial⟩
      have Xi:=uk.size
      replace dW:=dW.iv uk (by omega)
      replace Io:=Io.iv uk (by omega)
      replace fj:=fj.aJ uk (by omega)
      exact⟨rfl,h3.size,nS.size,Im.size,FQ.size,dW,Io,by omega,by omega,by omega,by omega,by omega,by omega,by omega,by omega,by omega,by omega,by omega,by omega,fj⟩
  ·refine mk fj fun Xj jY bX Db=>⟨Xj,rfl,hL.aB Db,?_⟩
   replace hL:=hL.aB Db
   have Xk:=Db.size
   replace fj:=fj.aA Db
   refine⟨?_,?_,?_⟩
   ·refine cp fj fun Xl Dc ul yB=>⟨Xl,_,rfl,hL.aB yB,?_⟩
    replace hL:=hL.aB yB
    have Xm:=yB.size
    replace bX:=bX.no yB
    replace fj:=fj.aA yB
    refine⟨?_,?_⟩
    ·intro rf vO Dd Sr Ss um hL
     have Su:rf<Dd.size:=(hL.tail).head.lt
     have Sv:vO<Dd.size:=(hL).head.lt
     have Sx:rf≠vO:=hL.ne (rf,_) List.mem_cons_self
     replace um:=um.aF
     have Xn:=um.size
     replace bX:=bX.no um
     replace ul:=ul.no um
     replace fj:=fj.aA um
     exact⟨rfl,jY.size,Dc.size,h3.size,jY.size,ul,bX,by omega,by omega,by omega,by omega,by omega,by omega,by omega,by omega,by omega,by omega,by omega,by omega,fj⟩
    ·intro rh vP De Sy Sz uo hL
     have SA:rh<De.size:=(hL.tail).head.lt
     have SB:vP<De.size:=(hL).head.lt
     have SC:rh≠vP:=hL.ne (rh,_) List.mem_cons_self
     replace uo:=uo.aF
     have Xo:=uo.size
     replace bX:=bX.no uo
     replace ul:=ul.no uo
     replace fj:=fj.aA uo
     exact⟨rfl,jY.size,Dc.size,h3.size,jY.size,ul,bX,by omega,by omega,by omega,by omega,by omega,by omega,by omega,by omega,by omega,by omega,by omega,by omega,fj⟩
   ·intro Xp Ab SD yC hL
    have SE:Xp<Ab.size:=(hL).head.lt
    replace yC:=yC.aF
    have Xq:=yC.size
    replace bX:=bX.no yC
    replace fj:=fj.aA yC
    refine⟨?_,?_⟩
    ·refine cp fj fun Xr Ip Iq yD=>⟨Xr,_,rfl,hL.aB yD,?_⟩
     replace hL:=hL.aB yD
     have Xs:=yD.size
     replace bX:=bX.no yD
     replace fj:=fj.aA yD
     intro Xt Xu SG uq hL
     have SH:Xt<Xu.size:=(hL).head.lt
     replace uq:=uq.cB (lo:=jY.size) (hi:=Ab.size) ⟨⟨by omega,by omega⟩,trivial⟩
     have Xv:=uq.size
     replace bX:=bX.iv uq (by omega)
     replace Iq:=Iq.iv uq (by omega)
     replace fj:=fj.aJ uq (by omega)
     exact⟨rfl,Ab.size,Ip.size,h3.size,jY.size,Iq,bX,by omega,by omega,by omega,by omega,by omega,by omega,by omega,by omega,by omega,by omega,by omega,by omega,fj⟩
    ·intro Xw ON SI yE hL
     have SJ:Xw<ON.size:=(hL).head.lt
     replace yE:=yE.aF
     have Xx:=yE.size
     replace bX:=bX.no yE
     replace fj:=fj.aA yE
     refine cp fj fun Xy Xz Df yF=>⟨Xy,_,rfl,hL.aB yF,?_⟩
     replace hL:=hL.aB yF
     have XA:=yF.size
     replace bX:=bX.no yF
     replace fj:=fj.aA yF
     intro ajj Dg hL
     have XB:=Dg.size
     replace bX:=bX.fr Dg fun k hk aI=>by have h1:=(bX.aH hk).1;have h2:=h1.1;have h3:=h1.2;simp only[In,List.mem_cons,List.not_mem_nil,or_false]at aI;omega
     replace Df:=Df.fr Dg fun k hk aI=>by have h1:=(Df.aH hk).1;have h2:=h1.1;have h3:=h1.2;simp only[In,List.mem_cons,List.not_mem_nil,or_false]at aI;omega
     replace fj:=fj.fresh Dg fun k hk=>by simp only[In,List.mem_cons,List.not_mem_nil,or_false]at hk;omega
     exact⟨rfl,ON.size,Xz.size,h3.size,jY.size,Df,bX,by omega,by omega,by omega,by omega,by omega,by omega,by omega,by omega,by omega,by omega,by omega,by omega,fj⟩
   ·intro XC Ir SK yG hL
    have SL:XC<Ir.size:=(hL).head.lt
    replace yG:=yG.aF
    have XD:=yG.size
    replace bX:=bX.no yG
    replace fj:=fj.aA yG
    refine⟨?_,?_⟩
    ·refine cp fj fun XE XF Is yH=>⟨XE,_,rfl,hL.aB yH,?_⟩
     replace hL:=hL.aB yH
     have XG:=yH.size
     replace bX:=bX.no yH
     replace fj:=fj.aA yH
     intro XH XI SM ur hL
     have SN:XH<XI.size:=(hL).head.lt
     replace ur:=ur.cB (lo:=jY.size) (hi:=Ir.size) ⟨⟨by omega,by omega⟩,trivial⟩
     have XJ:=ur.size
     replace bX:=bX.iv ur (by omega)
     replace Is:=Is.iv ur (by omega)
     replace fj:=fj.aJ ur (by omega)
     exact⟨rfl,Ir.size,XF.size,h3.size,jY.size,Is,bX,by omega,by omega,by omega,by omega,by omega,by omega,by omega,by omega,by omega,by omega,by omega,by omega,fj⟩
    ·intro XK OO SO yI hL
     have SP:XK<OO.size:=(hL).head.lt
     replace yI:=yI.aF
     have XL:=yI.size
     replace bX:=bX.no yI
     replace fj:=fj.aA yI
     refine cp fj fun XM XN Dh yJ=>⟨XM,_,rfl,hL.aB yJ,?_⟩
     replace hL:=hL.aB yJ
     have XO:=yJ.size
     replace bX:=bX.no yJ
     replace fj:=fj.aA yJ
     intro ajk Di hL
     have XP:=Di.size
     replace bX:=bX.fr Di fun k hk aI=>by have h1:=(bX.aH hk).1;have h2:=h1.1;have h3:=h1.2;simp only[In,List.mem_cons,List.not_mem_nil,or_false]at aI;omega
     replace Dh:=Dh.fr Di fun k hk aI=>by have h1:=(Dh.aH hk).1;have h2:=h1.1;have h3:=h1.2;simp only[In,List.mem_cons,List.not_mem_nil,or_false]at aI;omega
     replace fj:=fj.fresh Di fun k hk=>by simp only[In,List.mem_cons,List.not_mem_nil,or_false]at hk;omega
     exact⟨rfl,OO.size,XN.size,h3.size,jY.size,Dh,bX,by omega,by omega,by omega,by omega,by omega,by omega,by omega,by omega,by omega,by omega,by omega,by omega,fj⟩
  ·intro XQ kS SQ Dm hL
   have SR:XQ<kS.size:=(hL).head.lt
   replace Dm:=Dm.aF
   have XR:=Dm.size
   replace fj:=fj.aA Dm
   refine⟨?_,?_,?_⟩
   ·refine cp fj fun XS yK fu Dn=>⟨XS,_,rfl,hL.aB Dn,?_⟩
    replace hL:=hL.aB Dn
    have XT:=Dn.size
    replace fj:=fj.aA Dn
    refine⟨?_,?_⟩
    ·refine mk fj fun XU XV Iu yL=>⟨XU,rfl,hL.aB yL,?_⟩
     replace hL:=hL.aB yL
     have XW:=yL.size
     replace fu:=fu.no yL
     replace fj:=fj.aA yL
     intro XX XY SS uu hL
     have SU:XX<XY.size:=(hL).head.lt
     replace uu:=uu.cB (lo:=h3.size) (hi:=kS.size) ⟨⟨by omega,by omega⟩,trivial⟩
     have XZ:=uu.size
     replace fu:=fu.iv uu (by omega)
     replace Iu:=Iu.iv uu (by omega)
     replace fj:=fj.aJ uu (by omega)
     exact⟨rfl,kS.size,yK.size,yK.size,XV.size,fu,Iu,by omega,by omega,by omega,by omega,by omega,by omega,by omega,by omega,by omega,by omega,by omega,by omega,fj⟩
    ·intro X1 Iw SV yM hL
     have SW:X1<Iw.size:=(hL).head.lt
     replace yM:=yM.aF
     have X2:=yM.size
     replace fu:=fu.no yM
     replace fj:=fj.aA yM
     refine⟨?_,?_⟩
     ·refine mk fj fun X3 X4 Dp yN=>⟨X3,rfl,hL.aB yN,?_⟩
      replace hL:=hL.aB yN
      have X5:=yN.size
      replace fu:=fu.no yN
      replace fj:=fj.aA yN
      intro ajl Dq hL
      have X6:=Dq.size
      replace fu:=fu.fr Dq fun k hk aI=>by have h1:=(fu.aH hk).1;have h2:=h1.1;have h3:=h1.2;simp only[In,List.mem_cons,List.not_mem_nil,or_false]at aI;omega
      replace Dp:=Dp.fr Dq fun k hk aI=>by have h1:=(Dp.aH hk).1;have h2:=h1.1;have h3:=h1.2;simp only[In,List.mem_cons,List.not_mem_nil,or_false]at aI;omega
      replace fj:=fj.fresh Dq fun k hk=>by simp only[In,List.mem_cons,List.not_mem_nil,or_false]at hk;omega
      exact⟨rfl,kS.size,yK.size,Iw.size,X4.size,fu,Dp,by omega,by omega,by omega,by omega,by omega,by omega,by omega,by omega,by omega,by omega,by omega,by omega,fj⟩
     ·intro X7 yO hL
      replace yO:=yO.cB (lo:=h3.size) (hi:=kS.size) ⟨⟨by omega,by omega⟩,trivial⟩
      have X8:=yO.size
      replace fu:=fu.iv yO (by omega)
      replace fj:=fj.aJ yO (by omega)
      refine mk fj fun X9 Ya Ix yP=>⟨X9,rfl,hL.aB yP,?_⟩
      replace hL:=hL.aB yP
      have Yb:=yP.size
      replace fu:=fu.no yP
      replace fj:=fj.aA yP
      intro ajm uv hL
      replace uv:=uv.cB (lo:=yK.size) (hi:=Iw.size) ⟨⟨by omega,by omega⟩,trivial⟩
      have Yc:=uv.size
      replace fu:=fu.iv uv (by omega)
      replace Ix:=Ix.iv uv (by omega)
      replace fj:=fj.aJ uv (by omega)
      exact⟨rfl,kS.size,yK.size,X7.size,Ya.size,fu,Ix,by omega,by omega,by omega,by omega,by omega,by omega,by omega,by omega,by omega,by omega,by omega,by omega,fj⟩
   ·refine mk fj fun Yd Iy jk Dr=>⟨Yd,rfl,hL.aB Dr,?_⟩
    replace hL:=hL.aB Dr
    have Ye:=Dr.size
    replace fj:=fj.aA Dr
    refine⟨?_,?_⟩
    ·refine cp fj fun Yf Yg Iz yQ=>⟨Yf,_,rfl,hL.aB yQ,?_⟩
     replace hL:=hL.aB yQ
     have Yh:=yQ.size
     replace jk:=jk.no yQ
     replace fj:=fj.aA yQ
     intro Yi Yj SX uw hL
     have SY:Yi<Yj.size:=(hL).head.lt
     replace uw:=uw.cB (lo:=h3.size) (hi:=kS.size) ⟨⟨by omega,by omega⟩,trivial⟩
     have Yk:=uw.size
     replace jk:=jk.iv uw (by omega)
     replace Iz:=Iz.iv uw (by omega)
     replace fj:=fj.aJ uw (by omega)
     exact⟨rfl,Iy.size,Yg.size,kS.size,Iy.size,Iz,jk,by omega,by omega,by omega,by omega,by omega,by omega,by omega,by omega,by omega,by omega,by omega,by omega,fj⟩
    ·intro Yl OP SZ yR hL
     have S0:Yl<OP.size:=(hL).head.lt
     replace yR:=yR.aF
     have Ym:=yR.size
     replace jk:=jk.no yR
     replace fj:=fj.aA yR
     refine cp fj fun Yn Yo Ds yS=>⟨Yn,_,rfl,hL.aB yS,?_⟩
     replace hL:=hL.aB yS
     have Yp:=yS.size
     replace jk:=jk.no yS
     replace fj:=fj.aA yS
     intro ajn Dt hL
     have Yq:=Dt.size
     replace jk:=jk.fr Dt fun k hk aI=>by have h1:=(jk.aH hk).1;have h2:=h1.1;have h3:=h1.2;simp only[In,List.mem_cons,List.not_mem_nil,or_false]at aI;omega
     replace Ds:=Ds.fr Dt fun k hk aI=>by have h1:=(Ds.aH hk).1;have h2:=h1.1;have h3:=h1.2;simp only[In,List.mem_cons,List.not_mem_nil,or_false]at aI;omega
     replace fj:=fj.fresh Dt fun k hk=>by simp only[In,List.mem_cons,List.not_mem_nil,or_false]at hk;omega
     exact⟨rfl,OP.size,Yo.size,kS.size,Iy.size,Ds,jk,by omega,by omega,by omega,by omega,by omega,by omega,by omega,by omega,by omega,by omega,by omega,by omega,fj⟩
   ·intro Yr yT Ta Du hL
    have Tb:Yr<yT.size:=(hL).head.lt
    replace Du:=Du.aF
    have Ys:=Du.size
    replace fj:=fj.aA Du
    refine⟨?_,?_⟩
    ·refine cp fj fun Yt IA jm Dv=>⟨Yt,_,rfl,hL.aB Dv,?_⟩
     replace hL:=hL.aB Dv
     have Yu:=Dv.size
     replace fj:=fj.aA Dv
     refine⟨?_,?_⟩
     ·refine mk fj fun Yw Yy Dw yU=>⟨Yw,rfl,hL.aB yU,?_⟩
      replace hL:=hL.aB yU
      have Yz:=yU.size
      replace jm:=jm.no yU
      replace fj:=fj.aA yU
      intro ajo Dx hL
      have YA:=Dx.size
      replace jm:=jm.fr Dx fun k hk aI=>by have h1:=(jm.aH hk).1;have h2:=h1.1;have h3:=h1.2;simp only[In,List.mem_cons,List.not_mem_nil,or_false]at aI;omega
      replace Dw:=Dw.fr Dx fun k hk aI=>by have h1:=(Dw.aH hk).1;have h2:=h1.1;have h3:=h1.2;simp only[In,List.mem_cons,List.not_mem_nil,or_false]at aI;omega
      replace fj:=fj.fresh Dx fun k hk=>by simp only[In,List.mem_cons,List.not_mem_nil,or_false]at hk;omega
      exact⟨rfl,yT.size,IA.size,IA.size,Yy.size,jm,Dw,by omega,by omega,by omega,by omega,by omega,by omega,by omega,by omega,by omega,by omega,by omega,by omega,fj⟩
     ·intro YB yV hL
      replace yV:=yV.cB (lo:=h3.size) (hi:=kS.size) ⟨⟨by omega,by omega⟩,trivial⟩
      have YC:=yV.size
      replace jm:=jm.iv yV (by omega)
      replace fj:=fj.aJ yV (by omega)
      refine mk fj fun YD YE IB yW=>⟨YD,rfl,hL.aB yW,?_⟩
      replace hL:=hL.aB yW
      have YF:=yW.size
      replace jm:=jm.no yW
      replace fj:=fj.aA yW
      intro ajp ux hL
      replace ux:=ux.cB (lo:=kS.size) (hi:=yT.size) ⟨⟨by omega,by omega⟩,trivial⟩
      have YG:=ux.size
      replace jm:=jm.iv ux (by omega)
      replace IB:=IB.iv ux (by omega)
      replace fj:=fj.aJ ux (by omega)
      exact⟨rfl,yT.size,IA.size,YB.size,YE.size,jm,IB,by omega,by omega,by omega,by omega,by omega,by omega,by omega,by omega,by omega,by omega,by omega,by omega,fj⟩
    ·refine mk fj fun YH OQ uy Dy=>⟨YH,rfl,hL.aB Dy,?_⟩
     replace hL:=hL.aB Dy
     have YI:=Dy.size
     replace fj:=fj.aA Dy
     refine cp fj fun YJ YK Dz yX=>⟨YJ,_,rfl,hL.aB yX,?_⟩
     replace hL:=hL.aB yX
     have YL:=yX.size
     replace uy:=uy.no yX
     replace fj:=fj.aA yX
     intro ajq DA hL
     have YM:=DA.size
     replace uy:=uy.fr DA fun k hk aI=>by have h1:=(uy.aH hk).1;have h2:=h1.1;have h3:=h1.2;simp only[In,List.mem_cons,List.not_mem_nil,or_false]at aI;omega
     replace Dz:=Dz.fr DA fun k hk aI=>by have h1:=(Dz.aH hk).1;have h2:=h1.1;have h3:=h1.2;simp only[In,List.mem_cons,List.not_mem_nil,or_false]at aI;omega
     replace fj:=fj.fresh DA fun k hk=>by simp only[In,List.mem_cons,List.not_mem_nil,or_false]at hk;omega
     exact⟨rfl,OQ.size,YK.size,yT.size,OQ.size,Dz,uy,by omega,by omega,by omega,by omega,by omega,by omega,by omega,by omega,by omega,by omega,by omega,by omega,fj⟩
  ·intro YN gB Tc DB hL
   have Td:YN<gB.size:=(hL).head.lt
   replace DB:=DB.aF
   have YO:=DB.size
   replace fj:=fj.aA DB
   refine⟨?_,?_,?_⟩
   ·refine cp fj fun YP po fw DC=>⟨YP,_,rfl,hL.aB DC,?_⟩
    replace hL:=hL.aB DC
    have YQ:=DC.size
    replace fj:=fj.aA DC
    refine⟨?_,?_⟩
    ·refine mk fj fun YR OR IC yY=>⟨YR,rfl,hL.aB yY,?_⟩
     replace hL:=hL.aB yY
     have YS:=yY.size
     replace fw:=fw.no yY
     replace fj:=fj.aA yY
     intro YT OS Te uz hL
     have Tf:YT<OS.size:=(hL).head.lt
     replace uz:=uz.cB (lo:=h3.size) (hi:=gB.size) ⟨⟨by omega,by omega⟩,trivial⟩
     have YU:=uz.size
     replace fw:=fw.iv uz (by omega)
     replace IC:=IC.iv uz (by omega)
     replace fj:=fj.aJ uz (by omega)
     exact⟨rfl,gB.size,po.size,po.size,OR.size,fw,IC,by omega,by omega,by omega,by omega,by omega,by omega,by omega,by omega,by omega,by omega,by omega,by omega,fj⟩
    ·intro YV yZ Tg y0 hL
     have Th:YV<yZ.size:=(hL).head.lt
     replace y0:=y0.aF
     have YW:=y0.size
     replace fw:=fw.no y0
     replace fj:=fj.aA y0
     refine⟨?_,?_⟩
     ·refine mk fj fun YX OT DD y9=>⟨YX,rfl,hL.aB y9,?_⟩
      replace hL:=hL.aB y9
      have YY:=y9.size
      replace fw:=fw.no y9
      replace fj:=fj.aA y9
      intro acq DE hL
      have YZ:=DE.size
      replace fw:=fw.fr DE fun k hk aI=>by have h1:=(fw.aH hk).1;have h2:=h1.1;have h3:=h1.2;simp only[In,List.mem_cons,List.not_mem_nil,or_false]at aI;omega
      replace DD:=DD.fr DE fun k hk aI=>by have h1:=(DD.aH hk).1;have h2:=h1.1;have h3:=h1.2;simp only[In,List.mem_cons,List.not_mem_nil,or_false]at aI;omega
      replace fj:=fj.fresh DE fun k hk=>by simp only[In,List.mem_cons,List.not_mem_nil,or_false]at hk;omega
      exact⟨rfl,gB.size,po.size,yZ.size,OT.size,fw,DD,by omega,by omega,by omega,by omega,by omega,by omega,by omega,by omega,by omega,by omega,by omega,by omega,fj⟩
     ·intro OU za hL
      replace za:=za.cB (lo:=po.size) (hi:=yZ.size) ⟨⟨by omega,by omega⟩,trivial⟩
      have Y0:=za.size
      replace fw:=fw.iv za (by omega)
      replace fj:=fj.aJ za (by omega)
      refine mk fj fun Y1 OV ID zc=>⟨Y1,rfl,hL.aB zc,?_⟩
      replace hL:=hL.aB zc
      have Y2:=zc.size
      replace fw:=fw.no zc
      replace fj:=fj.aA zc
      intro acr uA hL
      replace uA:=uA.cB (lo:=h3.size) (hi:=gB.size) ⟨⟨by omega,by omega⟩,trivial⟩
      have Y3:=uA.size
      replace fw:=fw.iv uA (by omega)
      replace ID:=ID.iv uA (by omega)
      replace fj:=fj.aJ uA (by omega)
      exact⟨rfl,gB.size,po.size,OU.size,OV.size,fw,ID,by omega,by omega,by omega,by omega,by omega,by omega,by omega,by omega,by omega,by omega,by omega,by omega,fj⟩
   ·refine mk fj fun Y4 zd jn DF=>⟨Y4,rfl,hL.aB DF,?_⟩
    replace hL:=hL.aB DF
    have Y5:=DF.size
    replace fj:=fj.aA DF
    refine⟨?_,?_⟩
    ·refine cp fj fun Y6 OW IE ze=>⟨Y6,_,rfl,hL.aB ze,?_⟩
     replace hL:=hL.aB ze
     have Y7:=ze.size
     replace jn:=jn.no ze
     replace fj:=fj.aA ze
     intro Y8 OX Ti uB hL
     have Tj:Y8<OX.size:=(hL).head.lt
     replace uB:=uB.cB (lo:=h3.size) (hi:=gB.size) ⟨⟨by omega,by omega⟩,trivial⟩
     have Y9:=uB.size
     replace jn:=jn.iv uB (by omega)
     replace IE:=IE.iv uB (by omega)
     replace fj:=fj.aJ uB (by omega)
     exact⟨rfl,zd.size,OW.size,gB.size,zd.size,IE,jn,by omega,by omega,by omega,by omega,by omega,by omega,by omega,by omega,by omega,by omega,by omega,by omega,fj⟩
    ·intro Za FR Tk zf hL
     have Tl:Za<FR.size:=(hL).head.lt
     replace zf:=zf.aF
     have Zb:=zf.size
     replace jn:=jn.no zf
     replace fj:=fj.aA zf
     refine cp fj fun Zc OY DG zg=>⟨Zc,_,rfl,hL.aB zg,?_⟩
     replace hL:=hL.aB zg
     have Zd:=zg.size
     replace jn:=jn.no zg
     replace fj:=fj.aA zg
     intro acs DH hL
     have Ze:=DH.size
     replace jn:=jn.fr DH fun k hk aI=>by have h1:=(jn.aH hk).1;have h2:=h1.1;have h3:=h1.2;simp only[In,List.mem_cons,List.not_mem_nil,or_false]at aI;omega
     replace DG:=DG.fr DH fun k hk aI=>by have h1:=(DG.aH hk).1;have h2:=h1.1;have h3:=h1.2;simp only[In,List.mem_cons,List.not_mem_nil,or_false]at aI;omega
     replace fj:=fj.fresh DH fun k hk=>by simp only[In,List.mem_cons,List.not_mem_nil,or_false]at hk;omega
     exact⟨rfl,FR.size,OY.size,gB.size,zd.size,DG,jn,by omega,by omega,by omega,by omega,by omega,by omega,by omega,by omega,by omega,by omega,by omega,by omega,fj⟩
   ·intro Zf pp Tm DI hL
    have Tp:Zf<pp.size:=(hL).head.lt
    replace DI:=DI.aF
    have Zg:=DI.size
    replace fj:=fj.aA DI
    refine⟨?_,?_⟩
    ·refine cp fj fun Zh zh jo DJ=>⟨Zh,_,rfl,hL.aB DJ,?_⟩
     replace hL:=hL.aB DJ
     have Zi:=DJ.size
     replace fj:=fj.aA DJ
     refine⟨?_,?_⟩
     ·refine mk fj fun Zj OZ DK zi=>⟨Zj,rfl,hL.aB zi,?_⟩
      replace hL:=hL.aB zi
      have Zk:=zi.size
      replace jo:=jo.no zi
      replace fj:=fj.aA zi
      intro acu DL hL
      have Zl:=DL.size
      replace jo:=jo.fr DL fun k hk aI=>by have h1:=(jo.aH hk).1;have h2:=h1.1;have h3:=h1.2;simp only[In,List.mem_cons,List.not_mem_nil,or_false]at aI;omega
      replace DK:=DK.fr DL fun k hk aI=>by have h1:=(DK.aH hk).1;have h2:=h1.1;have h3:=h1.2;simp only[In,List.mem_cons,List.not_mem_nil,or_false]at aI;omega
      replace fj:=fj.fresh DL fun k hk=>by simp only[In,List.mem_cons,List.not_mem_nil,or_false]at hk;omega
      exact⟨rfl,pp.size,zh.size,zh.size,OZ.size,jo,DK,by omega,by omega,by omega,by omega,by omega,by omega,by omega,by omega,by omega,by omega,by omega,by omega,fj⟩
     ·intro O0 zj hL
      replace zj:=zj.cB (lo:=gB.size) (hi:=pp.size) ⟨⟨by omega,by omega⟩,trivial⟩
      have Zm:=zj.size
      replace jo:=jo.iv zj (by omega)
      replace fj:=fj.aJ zj (by omega)
      refine mk fj fun Zn O8 IF zk=>⟨Zn,rfl,hL.aB zk,?_⟩
      replace hL:=hL.aB zk
      have Zo:=zk.size
      replace jo:=jo.no zk
      replace fj:=fj.aA zk
      intro acv uC hL
      replace uC:=uC.cB (lo:=h3.size) (hi:=gB.size) ⟨⟨by omega,by omega⟩,trivial⟩
      have Zp:=uC.size
      replace jo:=jo.iv uC (by omega)
      replace IF:=IF.iv uC (by omega)
      replace fj:=fj.aJ uC (by omega)
      exact⟨rfl,pp.size,zh.size,O0.size,O8.size,jo,IF,by omega,by omega,by omega,by omega,by omega,by omega,by omega,by omega,by omega,by omega,by omega,by omega,fj⟩
    ·refine mk fj fun Zq FT uD DM=>⟨Zq,rfl,hL.aB DM,?_⟩
     replace hL:=hL.aB DM
     have Zr:=DM.size
     replace fj:=fj.aA DM
     refine cp fj fun Zs O9 DN zm=>⟨Zs,_,rfl,hL.aB zm,?_⟩
     replace hL:=hL.aB zm
     have Zt:=zm.size
     replace uD:=uD.no zm
     replace fj:=fj.aA zm
     intro acw DO hL
     have Zu:=DO.size
     replace uD:=uD.fr DO fun k hk aI=>by have h1:=(uD.aH hk).1;have h2:=h1.1;have h3:=h1.2;simp only[In,List.mem_cons,List.not_mem_nil,or_false]at aI;omega
     replace DN:=DN.fr DO fun k hk aI=>by have h1:=(DN.aH hk).1;have h2:=h1.1;have h3:=h1.2;simp only[In,List.mem_cons,List.not_mem_nil,or_false]at aI;omega
     replace fj:=fj.fresh DO fun k hk=>by simp only[In,List.mem_cons,List.not_mem_nil,or_false]at hk;omega
     exact⟨rfl,FT.size,O9.size,pp.size,FT.size,DN,uD,by omega,by omega,by omega,by omega,by omega,by omega,by omega,by omega,by omega,by omega,by omega,by omega,fj⟩
 rintro bN x1 x2 bO x3 zn ⟨rfl,i1,j1,i2,j2,o1,o2,d12,dN1,dN2,dO1,dO2,e1,e2',e3,e4,e5,e6,dZ,f134⟩ kT
 have f0:=gq.aA f134
 have ajs:=f134.size
 have lO:bO<zn.size:=kT.head.lt
 have lN:bN<zn.size:=kT.tail.head.lt
 have Zv:bU (fun k=>k<h3.size) zn g aD:=(G.no gq).low.no f134
 have xN:¬x1.own bN:=fun hk=>by have h1:=(o1.aH hk).1.1;have h2:=(o1.aH hk).1.2;omega
 have xO:¬x3.own bO:=fun hk=>by have h1:=(o2.aH hk).1.1;have h2:=(o2.aH hk).1.2;omega
 have x1O:¬x1.own bO:=fun hk=>by have h1:=(o1.aH hk).1.1;have h2:=(o1.aH hk).1.2;omega
 have x3N:¬x3.own bN:=fun hk=>by have h1:=(o2.aH hk).1.1;have h2:=(o2.aH hk).1.2;omega
 have JK:∀k,x1.own k->¬x3.own k:=fun k h1 h3=>by have a1:=(o1.aH h1).1.1;have a2:=(o1.aH h1).1.2;have a3:=(o2.aH h3).1.1;have a4:=(o2.aH h3).1.2;omega
 have x1g:∀k,x1.own k->h3.size<=k/\k<zn.size:=fun k hk=>⟨by have:=(o1.aH hk).1.1;omega,(o1.aH hk).2⟩
 have x3g:∀k,x3.own k->h3.size<=k/\k<zn.size:=fun k hk=>⟨by have:=(o2.aH hk).1.1;omega,(o2.aH hk).2⟩
 --what the Zw region and the other one are off
 have qd:∀k,(k=bN\/x1.own k)\/(k=bO\/x3.own k)->h3.size<=k:=fun k hk=>by
  rcases hk with(rfl|hk)|(rfl|hk)
  ·omega
  ·exact(x1g k hk).1
  ·omega
  ·exact(x3g k hk).1
 refine Nu (s0:=(rs,x2)) (F:=fun k=>k=bN\/x1.own k) (S:=fun k=>k<h3.size) Hx
  (fun N t h'=>∃o:Sl,dC h' bO [o.v]/\bR h' (fun k=>h3.size<=k) o t/\∀k,o.own k->x3.own k\/N<=k) (fun k=>k=bO\/x3.own k)
  Zv kT.tail.head (o1.mono fun k hk _=> .inr hk) (fun k hk=>⟨fun h=>by have:=qd k (.inl h);omega,fun h=>by have:=qd k (.inr h);omega⟩) (.inl rfl) xN W n (by omega) (by omega) _ (List.replicate aD.length 0)
  (fun k hk=>by rcases hk with rfl|hk;exact lN;exact(x1g k hk).2)
  (fun k hk=>⟨fun h=>by
   rcases hk with rfl|hk<;>rcases h with rfl|h
   ·exact dZ rfl
   ·exact x1O h
   ·exact x3N hk
   ·exact JK k h hk,by rcases hk with rfl|hk;exact lO;exact(x3g k hk).2⟩)
  (fun N hN=>⟨x3,kT.head,o2.mono fun k _ hk=>by have:=hk.1;omega,fun k hk=> .inl hk⟩)
  (fun N t h1 h2 U ⟨o,v1,v2,v3⟩ f hU=>⟨o,v1.fr f fun h=>(hU _ h).1 (.inl rfl),v2.fr f fun k hk aI=>by
   rcases v3 k hk with h|h
   ·exact(hU k aI).1 (.inr h)
   ·have:=(hU k aI).2;omega,v3⟩)
  (fun N t s s' h1 K hN hN2 ⟨o,v1,v2,v3⟩ V O W hs hm HK=> ?_) _ (fun hr N t h9 q hN ⟨o,v1,v2,v3⟩ v9 f9=> ?_) fun t' s' hr N h9 hN ⟨o,v1,v2,v3⟩ o9 W9 v9 f9=> ?_
 ·obtain⟨m,hm,hr⟩:=hm
  have hl:=zo m 0 _ _ _ _ (fun x hx=>by simp only[List.mem_replicate]at hx;omega) hr
  have ob:¬o.own bO:=fun hk=>by
   rcases v3 _ hk with h|h
   ·exact xO h
   ·omega
  have ob':¬o.own bN:=fun hk=>by
   rcases v3 _ hk with h|h
   ·exact x3N h
   ·omega
  have W':=W.step hs
  have ht:t.length=aD.length:=by rw[hl.1];simp
  refine Zx v1 V dZ v2 ob ob' W'.lo (by rw[ht];exact W'.hi) (fun x hx=>by have:=hl.2 x hx;omega) s.2 K fun h2 v w1 w2 w4=>HK h2 v ⟨o,w1,w2,v3⟩ (w4.mono fun k _ hk=>(v3 k hk).imp .inr id)
 ·have fP:Vars h9 [(bO,[o.v]),(bN,[x1.v,VI q]),(b2,[w.v,VI x2]),(b1,[g.v])]:= .cons v1 (fun p hp=>by
   have:=kT.ne
   simp only[List.mem_cons,List.not_mem_nil,or_false]at hp
   rcases hp with rfl|rfl|rfl<;>simp only<;>omega) (.cons v9 (fun p hp=>by
   simp only[List.mem_cons,List.not_mem_nil,or_false]at hp
   rcases hp with rfl|rfl<;>simp only<;>omega) (kT.tail.tail.fr f9 fun p hp hk=>by
   have:=qd _ hk
   simp only[List.mem_cons,List.not_mem_nil,or_false]at hp
   rcases hp with rfl|rfl<;>simp only at this<;>omega))
  refine⟨o,x1,q,false,rfl,fP,fun _=> ?_,fun e=>by simp at e⟩
  rw[hr]at e2
  exact no e2 h9 (f0.fresh f9 fun k hk=>by have:=qd k hk;omega)
 ·have fP:Vars h9 [(bO,[o.v]),(bN,[x1.v,VI s'.2]),(b2,[w.v,VI x2]),(b1,[g.v])]:= .cons v1 (fun p hp=>by
   simp only[List.mem_cons,List.not_mem_nil,or_false]at hp
   rcases hp with rfl|rfl|rfl<;>simp only<;>omega) (.cons v9 (fun p hp=>by
   simp only[List.mem_cons,List.not_mem_nil,or_false]at hp
   rcases hp with rfl|rfl<;>simp only<;>omega) (kT.tail.tail.fr f9 fun p hp hk=>by
   have:=qd _ hk
   simp only[List.mem_cons,List.not_mem_nil,or_false]at hp
   rcases hp with rfl|rfl<;>simp only at this<;>omega))
  refine⟨o,x1,s'.2,true,rfl,fP,fun e=>by simp at e,fun _=> ?_⟩
  rw[hr]at e2
  have:=HK o h9 (by rw[e2];exact v2.mono fun k hk hF=>⟨by omega,(v2.aH hk).2⟩) (f0.fresh f9 fun k hk=>by have:=qd k hk;omega)
  rw[e2]at this
  exact this
end Go.Proofs.YtcnfcnoooecchaaGreatDoor
