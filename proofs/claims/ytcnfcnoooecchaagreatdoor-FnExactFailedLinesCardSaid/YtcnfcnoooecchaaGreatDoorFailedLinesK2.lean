import Derived.Test.YtcnfcnoooecchaaGreatDoorFailedLinesK1
set_option linter.unusedVariables false
set_option linter.unusedSimpArgs false
namespace Go.Proofs.YtcnfcnoooecchaaGreatDoor
open Go Go.Mx
theorem yn(f:Nat->Int):∀n,bH f (n+1)=f 0+bH (fun k=>f (k+1)) n
 |0=>by simp[bH]
 |n+1=>by rw[bH,yn f n,bH];omega
theorem Kp(f:Nat->Int){a:Nat}:∀{n:Nat},a+1<n->bH (fun k=>f (fA a (a+1) k)) n=bH f n
 |n+2,h=>by
  by_cases e:a=n
  ·subst e
   have h1:bH (fun k=>f (fA a (a+1) k)) a=bH f a:=cC fun k hk=>by
    (try simp only)
    unfold fA
    rw[if_neg (by omega),if_neg (by omega)]
   have h2:fA a (a+1) a=a+1:=by unfold fA;rw[if_pos rfl]
   have h3:fA a (a+1) (a+1)=a:=by unfold fA;rw[if_neg (by omega),if_pos rfl]
   rw[bH,bH,bH,bH,h1,h2,h3]
   omega
  ·have ih:=Kp f (show a+1<n+1 by omega)
   show bH (fun k=>f (fA a (a+1) k)) (n+1)+f (fA a (a+1) (n+1))=bH f (n+1)+f (n+1)
   rw[ih]
   have h2:fA a (a+1) (n+1)=n+1:=by unfold fA;rw[if_neg (by omega),if_neg (by omega)]
   rw[h2]
theorem uf:∀{n a:Nat}(C:jQ),a+1<n->cH n (fun i c=>C i (fA a (a+1) c))= -cH n C
 |n+1,a,C,h=>by
  rw[cH,cH]
  have key:∀k,k<n+1->(jT k*C 0 (fA a (a+1) k)*cH n (fun i j=>C (i+1) (fA a (a+1) (fo k j))))= -(fun k=>jT k*C 0 k*cH n (fun i j=>C (i+1) (fo k j))) (fA a (a+1) k):=fun k hk=>by
   simp only
   by_cases e1:k=a
   ·subst e1
    have s1:fA k (k+1) k=k+1:=by unfold fA;rw[if_pos rfl]
    rw[s1,kM]
    have:(fun i j=>C (i+1) (fA k (k+1) (fo k j)))=fun i j=>C (i+1) (fo (k+1) j):=by
     funext i j
     congr 1
     unfold fA fo
     by_cases x:j<k
     ·rw[if_pos x,if_neg (by omega),if_neg (by omega),if_pos (by omega)]
     ·rw[if_neg x,if_neg (by omega)]
      by_cases y:j=k
      ·rw[if_pos (by omega),if_pos (by omega)];exact y.symm
      ·rw[if_neg (by omega),if_neg (by omega)]
    rw[this,Int.neg_mul,Int.neg_mul,Int.neg_neg]
   by_cases e2:k=a+1
   ·subst e2
    have s1:fA a (a+1) (a+1)=a:=by unfold fA;rw[if_neg (by omega),if_pos rfl]
    rw[s1,kM]
    have:(fun i j=>C (i+1) (fA a (a+1) (fo (a+1) j)))=fun i j=>C (i+1) (fo a j):=by
     funext i j
     congr 1
     unfold fA fo
     by_cases x:j<a
     ·rw[if_pos (show j<a+1 by omega),if_pos x,if_neg (by omega),if_neg (by omega)]
     ·rw[if_neg x]
      by_cases y:j=a
      ·rw[if_pos (show j<a+1 by omega),if_pos y];omega
      ·rw[if_neg (show¬j<a+1 by omega),if_neg (by omega),if_neg (by omega)]
    rw[this,Int.neg_mul,Int.neg_mul]
   have s1:fA a (a+1) k=k:=by unfold fA;rw[if_neg e1,if_neg e2]
   rw[s1,<-Int.mul_neg]
   congr 1
   by_cases l:k<a
   ·obtain⟨b,rfl⟩:∃b,a=b+1:=⟨a-1,by omega⟩
    rw[<-uf (n:=n) (a:=b) (fun i j=>C (i+1) (fo k j)) (by omega)]
    congr 1
    funext i j
    congr 1
    unfold fA fo
    (repeat' split)<;>omega
   ·rw[<-uf (n:=n) (a:=a) (fun i j=>C (i+1) (fo k j)) (by omega)]
    congr 1
    funext i j
    congr 1
    unfold fA fo
    (repeat' split)<;>omega
  have e:=cC key
  rw[e,mq,Kp (fun k=>jT k*C 0 k*cH n (fun i j=>C (i+1) (fo k j))) h]
def Mm(j c:Nat):Nat:=if c=0 then j else if c<=j then c-1 else c
theorem BG:∀{n j:Nat}(C:jQ),j<n->cH n (fun i c=>C i (Mm j c))=jT j*cH n C
 |n,0,C,h=>by
  have:(fun i c=>C i (Mm 0 c))=C:=by
   funext i c
   congr 1
   unfold Mm
   by_cases e:c=0
   ·rw[if_pos e];exact e.symm
   ·rw[if_neg e,if_neg (by omega)]
  rw[this]
  show cH n C=1*cH n C
  rw[Int.one_mul]
 |n,j+1,C,h=>by
  have:(fun i c=>C i (Mm (j+1) c))=fun i c=>(fun i c=>C i (fA j (j+1) c)) i (Mm j c):=by
   funext i c
   (try simp only)
   congr 1
   unfold Mm fA
   by_cases e:c=0
   ·rw[if_pos e,if_pos e,if_pos rfl]
   ·rw[if_neg e,if_neg e]
    by_cases l:c<=j
    ·rw[if_pos (by omega),if_pos l,if_neg (by omega),if_neg (by omega)]
    ·rw[if_neg l]
     by_cases z:c=j+1
     ·rw[if_pos (by omega),if_neg (by omega),if_pos z];omega
     ·rw[if_neg (by omega),if_neg (by omega),if_neg z]
  rw[this,BG (fun i c=>C i (fA j (j+1) c)) (by omega),uf C h,kM,Int.mul_neg,Int.neg_mul]
def nD(A:jQ)(j:Nat)(r:Nat->Int):jQ:=fun i k=>if k=j then r i else A i k
theorem Wo(j:Nat):jT j*jT j=1:=by unfold jT;split<;>rfl
theorem Wp{n:Nat}(A:jQ)(r:Nat->Int){i:Nat}(hi:i<n):bH (fun j=>A i j*cH n (nD A j r)) n=cH n A*r i:=by
 have hz:cH (n+1) (fun a b=>(fun(x:Nat)(y:Nat)=>match y with|0=>r x|y+1=>A x y) (match a with|0=>i|a+1=>a) b)=0:=
  Fk (i:=0) (j:=i+1) _ (by omega) (by omega) (by omega) rfl
 rw[cH,yn]at hz
 have h0:jT 0*(fun(x:Nat)(y:Nat)=>match y with|0=>r x|y+1=>A x y) i 0*cH n (fun a b=>(fun(x:Nat)(y:Nat)=>match y with|0=>r x|y+1=>A x y) a (fo 0 b))=r i*cH n A:=by
  show 1*r i*cH n _=_
  rw[Int.one_mul]
  rfl
 have hs:∀j,j<n->jT (j+1)*A i j*cH n (fun a b=>(fun(x:Nat)(y:Nat)=>match y with|0=>r x|y+1=>A x y) a (fo (j+1) b))= -(A i j*cH n (nD A j r)):=fun j hj=>by
  have e:(fun a b=>(fun(x:Nat)(y:Nat)=>match y with|0=>r x|y+1=>A x y) a (fo (j+1) b))=fun a b=>nD A j r a (Mm j b):=by
   funext a b
   cases b with
   |zero=>simp[fo,Mm,nD]
   |succ b=>
    (try simp only)
    by_cases l:b+1<=j
    ·have s1:fo (j+1) (b+1)=b+1:=by unfold fo;rw[if_pos (by omega)]
     have s2:Mm j (b+1)=b:=by unfold Mm;rw[if_neg (by omega),if_pos l];rfl
     rw[s1,s2]
     unfold nD
     rw[if_neg (by omega)]
    ·have s1:fo (j+1) (b+1)=b+2:=by unfold fo;rw[if_neg (by omega)]
     have s2:Mm j (b+1)=b+1:=by unfold Mm;rw[if_neg (by omega),if_neg l]
     rw[s1,s2]
     unfold nD
     rw[if_neg (by omega)]
  rw[e,BG (nD A j r) hj,kM,Int.neg_mul,Int.neg_mul]
  congr 1
  rw[Int.mul_assoc,Int.mul_left_comm (A i j),<-Int.mul_assoc,Wo,Int.one_mul]
 have e2:bH (fun j=>jT (j+1)*A i j*cH n (fun a b=>(fun(x:Nat)(y:Nat)=>match y with|0=>r x|y+1=>A x y) a (fo (j+1) b))) n= -bH (fun j=>A i j*cH n (nD A j r)) n:=by
  rw[<-mq]
  exact cC hs
 have e3:r i*cH n A+ -bH (fun j=>A i j*cH n (nD A j r)) n=0:=by
  rw[<-h0,<-e2]
  exact hz
 rw[Int.mul_comm (cH n A)]
 omega
def qk(a b:Int)(p:Nat):Bool:= !decide ((p:Int)=a)&& !decide ((p:Int)=b)
theorem kQ{a b:Int}{p:Nat}:qk a b p=true↔(p:Int)≠a/\(p:Int)≠b:=by unfold qk;simp
def bP(n:Nat)(a b:Int):List Nat:=(List.range n).filter (qk a b)
theorem dY{n:Nat}{a b:Int}{p:Nat}:p∈bP n a b↔p<n/\(p:Int)≠a/\(p:Int)≠b:=by
 unfold bP
 rw[List.mem_filter,List.mem_range,kQ]
theorem CY(n:Nat)(a b:Int):(bP n a b).Nodup:=List.Pairwise.filter _ List.nodup_range
def gh(g:List (List Int))(a b:Int):Tn:=(bP g.length a b).map fun p:Nat=>((p:Int),g.getD p [])
def Oo(g:List (List Int))(a b:Int):Bool:=(List.range g.length).all fun p:Nat=> !(decide ((gf g p).getD a.toNat 0<0)&&decide ((gf g p).getD b.toNat 0<0))&& !(qk a b p&&decide ((g.getD p []).length=0))
def lA(g:List (List Int))(a b:Int):Bool:=aM g&&iz 0 ((g.length:Int)-1) a&&iz 0 ((g.length:Int)-1) b&& !decide (a=b)
def Ig(g:List (List Int))(a b:Int):Bool:=lA g a b&&Oo g a b
structure Can(g:List (List Int))(a b:Int):Prop where
 bF:aM g=true
 a0:0<=a
 a1:a<(g.length:Int)
 b0:0<=b
 b1:b<(g.length:Int)
 ne:a≠b
 cT:∀p:Nat,p<g.length->0<=(gf g p).getD a.toNat 0\/0<=(gf g p).getD b.toNat 0
 out:∀p:Nat,p<g.length->(p:Int)≠a->(p:Int)≠b->(g.getD p []).length≠0
theorem Ih{g:List (List Int)}{a b:Int}(h:lA g a b=true):aM g=true/\(0<=a/\a<(g.length:Int))/\(0<=b/\b<(g.length:Int))/\a≠b:=by
 unfold lA at h
 simp only[Bool.and_eq_true,Bool.not_eq_true',decide_eq_false_iff_not,aY]at h
 exact⟨h.1.1.1,by omega,by omega,h.2⟩
theorem Oq{g:List (List Int)}{a b:Int}(h:Ig g a b=true):Can g a b:=by
 unfold Ig at h
 rw[Bool.and_eq_true]at h
 obtain⟨hg,⟨a0,a1⟩,⟨b0,b1⟩,dZ⟩:=Ih h.1
 have he:=h.2
 unfold Oo at he
 rw[List.all_eq_true]at he
 refine⟨hg,a0,a1,b0,b1,dZ,fun p hp=> ?_,fun p hp pa pb hz=> ?_⟩
 ·have:=he p (List.mem_range.2 hp)
  simp only[Bool.and_eq_true,Bool.not_eq_true',Bool.and_eq_false_iff,decide_eq_false_iff_not]at this
  omega
 ·have:=he p (List.mem_range.2 hp)
  rw[kQ.2 ⟨pa,pb⟩,decide_eq_true hz]at this
  simp at this
theorem Can.turn{g:List (List Int)}{a b:Int}(h:Can g a b):Can g b a:=⟨h.bF,h.b0,h.b1,h.a0,h.a1,fun e=>h.ne e.symm,fun p hp=>(h.cT p hp).symm,fun p hp x y=>h.out p hp y x⟩
def pg(f:Int->Int)(l:List Int):Int:=(l.map f).sum
theorem pi(f:Int->Int):pg f []=0:=rfl
theorem ik(f:Int->Int)(x:Int)(l:List Int):pg f (x::l)=f x+pg f l:=by unfold pg;rw[List.map_cons,List.sum_cons]
theorem FJ(f f':Int->Int):∀l,pg (fun x=>f x+f' x) l=pg f l+pg f' l
 |[]=>rfl
 |x::l=>by rw[ik,ik,ik,FJ f f' l];omega
theorem FK(c:Int)(f:Int->Int):∀l,pg (fun x=>c*f x) l=c*pg f l
 |[]=>by rw[pi,pi,Int.mul_zero]
 |x::l=>by rw[ik,ik,FK c f l,Int.mul_add]
theorem yp(c:Int):∀l:List Int,pg (fun _=>c) l=l.length*c
 |[]=>by rw[pi];simp
 |x::l=>by rw[ik,yp c l,List.length_cons];rw[show((l.length+1:Nat):Int)=(l.length:Int)+1 by omega,Int.add_mul];omega
theorem Ot{f:Int->Int}{u:Int}:∀l:List Int,(∀x,x∈l->u<=f x)->(l.length:Int)*u<=pg f l/\(pg f l<=l.length*u->∀x,x∈l->f x=u)
 |[],_=>⟨by rw[pi];simp,fun _ x hx=>by simp at hx⟩
 |x::l,h=>by
  obtain⟨h1,h2⟩:=Ot l fun y hy=>h y (List.mem_cons_of_mem _ hy)
  have h0:=h x List.mem_cons_self
  rw[ik,List.length_cons,show((l.length+1:Nat):Int)=(l.length:Int)+1 by omega,Int.add_mul,Int.one_mul]
  refine⟨by omega,fun hle y hy=> ?_⟩
  rcases List.mem_cons.1 hy with rfl|hy
  ·omega
  ·exact h2 (by omega) y hy
theorem Ou(f:Int->Int):∀n:Nat,0<n->∃p:Nat,p<n/\∀q:Nat,q<n->f p<=f q
 |1,_=>⟨0,by omega,fun q hq=>by rw[show q=0 by omega];exact Int.le_refl _⟩
 |n+2,_=>by
  obtain⟨p,hp,hq⟩:=Ou f (n+1) (by omega)
  by_cases h:f p<=f ((n+1:Nat):Int)
  ·refine⟨p,by omega,fun q h2=> ?_⟩
   by_cases e:q=n+1
   ·rw[e];exact h
   ·exact hq q (by omega)
  ·refine⟨n+1,by omega,fun q h2=> ?_⟩
   by_cases e:q=n+1
   ·rw[e];exact Int.le_refl _
   ·have:=hq q (by omega);omega
theorem Can.low{g:List (List Int)}{a b:Int}(C:Can g a b)(f:Int->Int)(ha:0<=f a)(hb:0<=f b)(H:∀p:Nat,p<g.length->(p:Int)≠a->(p:Int)≠b->pg f (g.getD p [])<=(g.getD p []).length*f p):∀p:Nat,p<g.length->0<=f p:=fun p0 NA=>by
 obtain⟨p,hp,hm⟩:=Ou f g.length (by omega)
 refine Classical.byContradiction fun hn=> ?_
 have hu:f p<0:=by have:=hm p0 NA;omega
 have key:∀(k:Nat)(q:Int),Way g p k q->f q=f p:=by
  intro k
  induction k with
  |zero=>intro q hq;rw[<-show(p:Int)=q from hq]
  |succ k ih=>
   rintro q ⟨x,hx,hq⟩
   have xr:=Way.rng C.bF (show(0:Int)<=p by omega) (by omega) hx
   have ex:=ih x hx
   have xe:((x.toNat:Nat):Int)=x:=by omega
   have hle:=H x.toNat (by omega) (by rw[xe];intro e;rw[e]at ex;omega) (by rw[xe];intro e;rw[e]at ex;omega)
   rw[xe,ex]at hle
   refine(Ot (u:=f p) _ fun y hy=> ?_).2 hle q hq
   have hy':=hy
   rw[aS (by omega)]at hy'
   have yr:=(aT C.bF (List.getElem_mem (show x.toNat<g.length by omega))).2 y hy'
   have:=hm y.toNat (by omega)
   rw[show((y.toNat:Nat):Int)=y by omega]at this
   exact this
 rcases C.cT p hp with h|h
 ·have:=key _ _ (wD (p:=(p:Int)) C.bF (by omega) (by omega) C.a0 C.a1 h)
  omega
 ·have:=key _ _ (wD (p:=(p:Int)) C.bF (by omega) (by omega) C.b0 C.b1 h)
  omega
theorem Way.fst{g:List (List Int)}{p:Int}:∀{k:Nat}{s:Int},Way g p (k+1) s->∃e,e∈g.getD p.toNat []/\Way g e k s
 |0,s,h=>by
  obtain⟨x,hx,hs⟩:=h
  rw[<-show p=x from hx]at hs
  exact⟨s,hs,rfl⟩
 |k+1,s,h=>by
  obtain⟨x,hx,hs⟩:=h
  obtain⟨e,he,hw⟩:=Way.fst hx
  exact⟨e,he,x,hw,hs⟩
def rf(g:List (List Int))(a b p:Int):Nat:=(if(gf g p).getD a.toNat 0<0 then(gf g p).getD b.toNat 0 else if(gf g p).getD b.toNat 0<0 then(gf g p).getD a.toNat 0 else min ((gf g p).getD a.toNat 0) ((gf g p).getD b.toNat 0)).toNat
theorem Can.dst{g:List (List Int)}{a b:Int}(C:Can g a b){p:Nat}(hp:p<g.length):(Way g p (rf g a b p) a\/Way g p (rf g a b p) b)/\∀k,Way g p k a\/Way g p k b->rf g a b p<=k:=by
 have p0:(0:Int)<=p:=by omega
 have p1:(p:Int)<(g.length:Int):=by omega
 have wa:=wD (p:=(p:Int)) (q:=a) C.bF p0 p1 C.a0 C.a1
 have wb:=wD (p:=(p:Int)) (q:=b) C.bF p0 p1 C.b0 C.b1
 have hf:=C.cT p hp
 have la:∀k,Way g p k a->_:=fun k h=>HU C.bF p0 p1 h
 have lb:∀k,Way g p k b->_:=fun k h=>HU C.bF p0 p1 h
 unfold rf
 generalize (gf g (p:Int)).getD a.toNat 0=x at*
 generalize (gf g (p:Int)).getD b.toNat 0=y at*
 refine⟨?_,fun k hk=> ?_⟩
 ·split
  ·exact .inr (wb (by omega))
  ·split
   ·exact .inl (wa (by omega))
   ·by_cases h:x<=y
    ·rw[Int.min_eq_left h];exact .inl (wa (by omega))
    ·rw[Int.min_eq_right (by omega)];exact .inr (wb (by omega))
 ·rcases hk with h|h
  ·have:=la k h
   rw[if_neg (by omega)]
   split<;>omega
  ·have:=lb k h
   split
   ·omega
   ·rw[if_neg (by omega)];omega
theorem Can.Wq{g:List (List Int)}{a b:Int}(C:Can g a b){p:Nat}(hp:p<g.length)(pa:(p:Int)≠a)(pb:(p:Int)≠b):∃e,e∈g.getD p []/\rf g a b e<rf g a b p:=by
 obtain⟨hw,_⟩:=C.dst hp
 have hz:rf g a b p≠0:=fun h=>by
  rw[h]at hw
  rcases hw with h|h
  ·exact pa h
  ·exact pb h
 obtain⟨m,hm⟩:∃m,rf g a b p=m+1:=⟨rf g a b p-1,by omega⟩
 rw[hm]at hw⊢
 have key:∀s,Way g p (m+1) s->s=a\/s=b->∃e,e∈g.getD p []/\rf g a b e<m+1:=fun s h hs=>by
  obtain⟨e,he,hv⟩:=Way.fst h
  rw[show((p:Int)).toNat=p from rfl]at he
  refine⟨e,he,?_⟩
  rw[aS hp]at he
  have er:=(aT C.bF (List.getElem_mem hp)).2 e he
  have:=(C.dst (p:=e.toNat) (by omega)).2 m
  rw[show((e.toNat:Nat):Int)=e by omega]at this
  have:=this (by rcases hs with rfl|rfl;exact .inl hv;exact .inr hv)
  omega
 rcases hw with h|h
 ·exact key a h (.inl rfl)
 ·exact key b h (.inr rfl)
theorem vz{α β:Type}(f:α->List β)(c:α->β):∀l:List α,(∀x,x∈l->c x∈f x)->l.map c∈dA (l.map f)
 |[],_=>List.mem_singleton.2 rfl
 |x::l,h=>by
  rw[List.map_cons,List.map_cons,dA,List.mem_flatMap]
  exact⟨c x,h x List.mem_cons_self,List.mem_map.2 ⟨_,vz f c l fun y hy=>h y (List.mem_cons_of_mem _ hy),rfl⟩⟩
theorem FL{α:Type}:∀(l:List (List α))(m:Nat),(∀x,x∈l->x.length<=m)->(dA l).length<=m^l.length
 |[],m,_=>by simp[dA]
 |x::l,m,h=>by
  have ih:=FL l m fun y hy=>h y (List.mem_cons_of_mem _ hy)
  have hx:=h x List.mem_cons_self
  rw[dA,List.length_flatMap,List.length_cons,Nat.pow_succ]
  have:(x.map fun a=>((dA l).map (a:: ·)).length)=x.map fun _=>(dA l).length:=List.map_congr_left fun a _=>by rw[List.length_map]
  rw[this,List.map_const',List.sum_replicate_nat]
  rw[Nat.mul_comm (m^l.length)]
  exact Nat.mul_le_mul hx ih
theorem FM{α β γ:Type}(f:α->β)(c:α->γ):∀l:List α,(l.map f).zip (l.map c)=l.map fun x=>(f x,c x)
 |[]=>rfl
 |x::l=>by rw[List.map_cons,List.map_cons,List.map_cons,List.zip_cons_cons,FM f c l]
def jR(g:List (List Int))(a b:Int):Int:=cH (bP g.length a b).length (iB (gh g a b))
theorem yq(g:List (List Int))(a b:Int):(gh g a b).length=(bP g.length a b).length:=by unfold gh;rw[List.length_map]
theorem Kq(g:List (List Int))(a b:Int):((gh g a b).map (·.1)).Nodup:=by
 unfold gh
 rw[List.map_map]
 refine List.Pairwise.map _ (fun x y h e=>h ?_) (CY g.length a b)
 simp only[Function.comp]at e
 omega
theorem Kr(g:List (List Int))(a b:Int):jR g a b=(((dA ((gh g a b).map (·.2))).countP fun c=>Mj (bP g.length a b).length (((gh g a b).map (·.1)).zip c):Nat):Int):=by
 unfold jR
 rw[CN _ _ (yq g a b) (Kq g a b),yd _ _ (yq g a b)]
theorem Can.pos{g:List (List Int)}{a b:Int}(C:Can g a b):0<jR g a b:=by
 rw[Kr]
 have step:∀p:Nat,∃e:Int,p∈bP g.length a b->e∈g.getD p []/\rf g a b e<rf g a b p:=fun p=>by
  by_cases hp:p∈bP g.length a b
  ·obtain⟨h1,h2,h3⟩:=dY.1 hp
   obtain⟨e,he⟩:=C.Wq h1 h2 h3
   exact⟨e,fun _=>he⟩
  ·exact⟨0,fun h=>absurd h hp⟩
 let f:Nat->Int:=fun p=>Classical.choose (step p)
 have hf:∀p:Nat,p∈bP g.length a b->f p∈g.getD p []/\rf g a b (f p)<rf g a b p:=fun p=>Classical.choose_spec (step p)
 have hc:(bP g.length a b).map f∈dA ((gh g a b).map (·.2)):=by
  unfold gh
  rw[List.map_map]
  exact vz _ _ _ fun p hp=>(hf p hp).1
 have hk:Mj (bP g.length a b).length (((gh g a b).map (·.1)).zip ((bP g.length a b).map f))=true:=by
  unfold gh
  rw[List.map_map,FM]
  refine(CO _ _ (by rw[List.length_map]) ?_).2 ⟨fun x=>rf g a b x,fun t ht _=> ?_⟩
  ·have:=Kq g a b
   unfold gh at this
   rw[List.map_map]at this⊢
   exact this
  ·obtain⟨p,hp,rfl⟩:=List.mem_map.1 ht
   exact(hf p hp).2
 have:0<(dA ((gh g a b).map (·.2))).countP fun c=>Mj (bP g.length a b).length (((gh g a b).map (·.1)).zip c):=List.countP_pos_iff.2 ⟨_,hc,hk⟩
 omega
theorem sM{n:Nat}{a b:Int}(h0:0<=a)(h1:a<(n:Int))(k0:0<=b)(k1:b<(n:Int))(dZ:a≠b):(bP n a b).length+2=n:=by
 have key:∀m:Nat,(bP m a b).length+((if a<(m:Int)then 1 else 0)+(if b<(m:Int)then 1 else 0))=m:=by
  intro m
  induction m with
  |zero=>rw[if_neg (by omega),if_neg (by omega)];rfl
  |succ m ih=>
   unfold bP at ih⊢
   rw[List.range_succ,List.filter_append,List.length_append]
   by_cases e1:(m:Int)=a
   ·rw[List.filter_cons_of_neg (by rw[kQ];exact fun h=>h.1 e1),List.filter_nil,List.length_nil]
    by_cases e2:b<(m:Int)
    ·rw[if_neg (by omega),if_pos e2]at ih
     rw[if_pos (by omega),if_pos (by omega)];omega
    ·rw[if_neg (by omega),if_neg e2]at ih
     rw[if_pos (by omega),if_neg (by omega)];omega
   ·by_cases e2:(m:Int)=b
    ·rw[List.filter_cons_of_neg (by rw[kQ];exact fun h=>h.2 e2),List.filter_nil,List.length_nil]
     by_cases e3:a<(m:Int)
     ·rw[if_pos e3,if_neg (by omega)]at ih
      rw[if_pos (by omega),if_pos (by omega)];omega
     ·rw[if_neg e3,if_neg (by omega)]at ih
      rw[if_neg (by omega),if_pos (by omega)];omega
    ·rw[List.filter_cons_of_pos (kQ.2 ⟨e1,e2⟩),List.filter_nil,List.length_cons,List.length_nil]
     rw[show(if a<((m+1:Nat):Int)then 1 else 0)=(if a<(m:Int)then 1 else 0) by split<;>split<;>omega,show(if b<((m+1:Nat):Int)then 1 else 0)=(if b<(m:Int)then 1 else 0) by split<;>split<;>omega]
     omega
 have:=key n
 rw[if_pos h1,if_pos k1]at this
 omega
theorem Can.den{g:List (List Int)}{a b:Int}(C:Can g a b):1<=jR g a b/\jR g a b<=15625:=by
 refine⟨C.pos,?_⟩
 rw[Kr]
 have hl:=sM C.a0 C.a1 C.b0 C.b1 C.ne
 have gl:=aO C.bF
 have h1:=List.countP_le_length (p:=fun c=>Mj (bP g.length a b).length (((gh g a b).map (·.1)).zip c)) (l:=dA ((gh g a b).map (·.2)))
 have h2:=FL ((gh g a b).map (·.2)) 5 fun x hx=>by
  unfold gh at hx
  rw[List.map_map]at hx
  obtain⟨p,hp,rfl⟩:=List.mem_map.1 hx
  have hp:=(dY.1 hp).1
  show(g.getD p []).length<=5
  rw[aS hp]
  exact(aT C.bF (List.getElem_mem hp)).1
 rw[List.length_map,yq]at h2
 have h3:5^(bP g.length a b).length<=5^6:=Nat.pow_le_pow_right (by omega) (by omega)
 have h4:(5:Nat)^6=15625:=rfl
 omega
def Ii(g:List (List Int))(a b:Int)(own:Int->Int)(A B:Int)(i:Nat):Int:=own ((bP g.length a b).getD i 0:Nat)+A*ff a (g.getD ((bP g.length a b).getD i 0) [])+B*ff b (g.getD ((bP g.length a b).getD i 0) [])
def vA(g:List (List Int))(a b:Int)(own:Int->Int)(A B:Int)(j:Nat):Int:=cH (bP g.length a b).length (nD (iB (gh g a b)) j (Ii g a b own A B))
def El(g:List (List Int))(a b:Int)(own:Int->Int)(A B:Int)(q:Int):Int:=if q=a then A*jR g a b else if q=b then B*jR g a b else vA g a b own A B ((bP g.length a b).idxOf q.toNat)
theorem ug(x:Nat->Int)(L:Int):∀{i m:Nat},i<m->bH (fun j=>(if i=j then L else 0)*x j) m=L*x i
 |i,m+1,h=>by
  rw[bH]
  by_cases e:i=m
  ·subst e
   rw[ji fun j hj=>by rw[if_neg (show¬i=j by omega),Int.zero_mul]]
   rw[if_pos rfl,Int.zero_add]
  ·rw[ug x L (show i<m by omega),if_neg e,Int.zero_mul,Int.add_zero]
theorem kR{g:List (List Int)}{a b:Int}{j:Nat}(hj:j<(bP g.length a b).length):nB (gh g a b) j=((bP g.length a b)[j]:Nat)/\zS (gh g a b) j=g.getD (bP g.length a b)[j] []:=by
 unfold nB zS gh
 rw[List.getD_eq_getElem?_getD,List.getElem?_eq_getElem (by rw[List.length_map];exact hj),List.getElem_map]
 exact⟨rfl,rfl⟩
theorem CZ{n:Nat}{a b:Int}{j:Nat}(hj:j<(bP n a b).length):(bP n a b).idxOf (bP n a b)[j]=j:=(CY n a b).idxOf_getElem j hj
theorem Ov{g:List (List Int)}{a b:Int}(own:Int->Int)(A B:Int)(dZ:a≠b):∀l:List Int,(∀x,x∈l->0<=x/\x<(g.length:Int))->pg (El g a b own A B) l=A*jR g a b*ff a l+B*jR g a b*ff b l+bH (fun j=>ff (nB (gh g a b) j) l*vA g a b own A B j) (bP g.length a b).length
 |[],_=>by
  rw[pi,ji fun j _=>by rw[ff,Int.zero_mul]]
  simp[ff]
 |y::l,h=>by
  have ih:=Ov own A B dZ l fun x hx=>h x (List.mem_cons_of_mem _ hx)
  have hy:=h y List.mem_cons_self
  rw[ik,ih,ff,ff]
  have e1:bH (fun j=>ff (nB (gh g a b) j) (y::l)*vA g a b own A B j) (bP g.length a b).length=bH (fun j=>(if y=nB (gh g a b) j then 1 else 0)*vA g a b own A B j) (bP g.length a b).length+bH (fun j=>ff (nB (gh g a b) j) l*vA g a b own A B j) (bP g.length a b).length:=by
   rw[<-mm]
   exact cC fun j _=>by(try simp only);rw[ff,Int.add_mul]
  rw[e1]
  by_cases ea:y=a
  ·have e2:bH (fun j=>(if y=nB (gh g a b) j then 1 else 0)*vA g a b own A B j) (bP g.length a b).length=0:=ji fun j hj=>by
    (try simp only)
    rw[if_neg,Int.zero_mul]
    rw[(kR hj).1]
    have:=(dY.1 (List.getElem_mem hj)).2.1
    omega
   rw[e2]
   unfold El
   rw[if_pos ea,if_pos ea,if_neg (by omega),Int.zero_add (ff b l),Int.mul_add,Int.mul_one]
   omega
  ·by_cases eb:y=b
   ·have e2:bH (fun j=>(if y=nB (gh g a b) j then 1 else 0)*vA g a b own A B j) (bP g.length a b).length=0:=ji fun j hj=>by
     (try simp only)
     rw[if_neg,Int.zero_mul]
     rw[(kR hj).1]
     have:=(dY.1 (List.getElem_mem hj)).2.2
     omega
    rw[e2]
    unfold El
    rw[if_neg ea,if_pos eb,if_neg ea,if_pos eb,Int.zero_add (ff a l),Int.mul_add (B*jR g a b),Int.mul_one]
    omega
   ·have hm:y.toNat∈bP g.length a b:=dY.2 ⟨by omega,by omega,by omega⟩
    have hi:=List.idxOf_lt_length_iff.2 hm
    have e2:bH (fun j=>(if y=nB (gh g a b) j then 1 else 0)*vA g a b own A B j) (bP g.length a b).length=vA g a b own A B ((bP g.length a b).idxOf y.toNat):=by
     have e3:=ug (vA g a b own A B) 1 hi
     rw[Int.one_mul]at e3
     rw[<-e3]
     refine cC fun j hj=> ?_
     (try simp only)
     congr 1
     rw[(kR hj).1]
     by_cases e4:(bP g.length a b).idxOf y.toNat=j
     ·rw[if_pos e4,if_pos]
      subst e4
      rw[List.getElem_idxOf]
      omega
     ·rw[if_neg e4,if_neg]
      intro e5
      apply e4
      rw[show y.toNat=(bP g.length a b)[j] by omega]
      exact CZ hj
    rw[e2]
    unfold El
    rw[if_neg ea,if_neg eb,if_neg ea,if_neg eb,Int.zero_add (ff a l),Int.zero_add (ff b l)]
    omega
theorem Can.bal{g:List (List Int)}{a b:Int}(C:Can g a b)(own:Int->Int)(A B:Int){p:Nat}(hp:p<g.length)(pa:(p:Int)≠a)(pb:(p:Int)≠b):((g.getD p []).length:Int)*El g a b own A B p=pg (El g a b own A B) (g.getD p [])+own p*jR g a b:=by
 have hm:p∈bP g.length a b:=dY.2 ⟨hp,pa,pb⟩
 have hi:=List.idxOf_lt_length_iff.2 hm
 have hr:∀x,x∈g.getD p []->0<=x/\x<(g.length:Int):=fun x hx=>by
  rw[aS hp]at hx
  exact(aT C.bF (List.getElem_mem hp)).2 x hx
 have hc:=Wp (iB (gh g a b)) (Ii g a b own A B) hi
 have hg:(bP g.length a b)[(bP g.length a b).idxOf p]=p:=List.getElem_idxOf hi
 have e1:bH (fun j=>iB (gh g a b) ((bP g.length a b).idxOf p) j*cH (bP g.length a b).length (nD (iB (gh g a b)) j (Ii g a b own A B))) (bP g.length a b).length=((g.getD p []).length:Int)*vA g a b own A B ((bP g.length a b).idxOf p)+ -bH (fun j=>ff (nB (gh g a b) j) (g.getD p [])*vA g a b own A B j) (bP g.length a b).length:=by
  rw[<-mq,<-ug (vA g a b own A B) _ hi,<-mm]
  refine cC fun j hj=> ?_
  (try simp only)
  unfold iB
  rw[(kR hi).2,hg,Int.sub_mul,Int.sub_eq_add_neg]
  rfl
 have e2:Ii g a b own A B ((bP g.length a b).idxOf p)=own p+A*ff a (g.getD p [])+B*ff b (g.getD p []):=by
  unfold Ii
  rw[show(bP g.length a b).getD ((bP g.length a b).idxOf p) 0=p by rw[List.getD_eq_getElem?_getD,List.getElem?_eq_getElem hi,Option.getD_some,hg]]
 rw[e1,e2]at hc
 rw[Ov own A B C.ne _ hr]
 have e3:El g a b own A B p=vA g a b own A B ((bP g.length a b).idxOf p):=by
  unfold El
  rw[if_neg pa,if_neg pb]
  rfl
 rw[e3]
 have e4:cH (bP g.length a b).length (iB (gh g a b))=jR g a b:=rfl
 rw[e4,Int.mul_add,Int.mul_add]at hc
 have e5:jR g a b*own p=own p*jR g a b:=Int.mul_comm _ _
 have e6:jR g a b*(A*ff a (g.getD p []))=A*jR g a b*ff a (g.getD p []):=by rw[<-Int.mul_assoc,Int.mul_comm (jR g a b)]
 have e7:jR g a b*(B*ff b (g.getD p []))=B*jR g a b*ff b (g.getD p []):=by rw[<-Int.mul_assoc,Int.mul_comm (jR g a b)]
 rw[e5,e6,e7]at hc
 omega
def zT(g:List (List Int))(a b q:Int):Int:=El g a b (fun _=>0) 1 0 q
def stN(g:List (List Int))(a b q:Int):Int:=El g a b (fun p=>((g.getD p.toNat []).length:Int)) 0 0 q
theorem Ux(g:List (List Int))(a b:Int):zT g a b a=jR g a b:=by unfold zT El;rw[if_pos rfl,Int.one_mul]
theorem Uy(g:List (List Int)){a b:Int}(h:a≠b):zT g a b b=0:=by unfold zT El;rw[if_neg fun e=>h e.symm,if_pos rfl,Int.zero_mul]
theorem Can.ch{g:List (List Int)}{a b:Int}(C:Can g a b){p:Nat}(hp:p<g.length)(pa:(p:Int)≠a)(pb:(p:Int)≠b):((g.getD p []).length:Int)*zT g a b p=pg (zT g a b) (g.getD p []):=by
 have:=C.bal (fun _=>0) 1 0 hp pa pb
 simp only[Int.zero_mul,Int.add_zero]at this
 exact this
theorem Can.Wr{g:List (List Int)}{a b:Int}(C:Can g a b){p:Nat}(hp:p<g.length):0<=zT g a b p/\zT g a b p<=jR g a b:=by
 have hd:=C.pos
 refine⟨C.low (zT g a b) (by rw[Ux];omega) (by rw[Uy g C.ne];omega) (fun p hp pa pb=>by rw[C.ch hp pa pb];exact Int.le_refl _) p hp,?_⟩
 have:=C.low (fun q=>jR g a b+ -1*zT g a b q) (by(try simp only);rw[Ux];omega) (by(try simp only);rw[Uy g C.ne];omega) (fun p hp pa pb=>by
  (try simp only)
  rw[FJ,yp,FK,<-C.ch hp pa pb,Int.mul_add]
  rw[Int.mul_left_comm]
  exact Int.le_refl _) p hp
 (try simp only at this)
 omega
theorem Can.st{g:List (List Int)}{a b:Int}(C:Can g a b){p:Nat}(hp:p<g.length)(pa:(p:Int)≠a)(pb:(p:Int)≠b):((g.getD p []).length:Int)*stN g a b p=pg (stN g a b) (g.getD p [])+((g.getD p []).length:Int)*jR g a b:=C.bal (fun p=>((g.getD p.toNat []).length:Int)) 0 0 hp pa pb
@[reducible] def tR:TypeId:=153
@[reducible] def tRs:TypeId:=186
theorem rRs:nb Tryz.prog tRs=some (tR,2,16,[VI 0,VI 0]):=by kernel_rfl
theorem rh{x:Int}(h: -9223372036854775808<x)(h':x<9223372036854775808):max x (aL (0-x))=(x.natAbs:Int):=by
 rw[aG _ (by omega) (by omega)]
 by_cases e:0<=x
 ·rw[Int.max_eq_left (by omega)];omega
 ·rw[Int.max_eq_right (by omega)];omega
theorem Ks(m k:Nat):Int.tmod (m:Int) (k:Int)=((m%k:Nat):Int):=by rw[Int.ofNat_tmod]
def jX(x d:Int):Int×Int:=(x/(Int.gcd x d:Int),d/(Int.gcd x d:Int))
theorem wN{x d:Int}(h:0<d):0<Int.gcd x d:=Int.gcd_pos_of_ne_zero_right _ (by omega)
theorem Ox{x d:Int}:(Int.gcd x d:Int)*(jX x d).1=x/\(Int.gcd x d:Int)*(jX x d).2=d:=⟨Int.mul_ediv_cancel' (Int.gcd_dvd_left ..),Int.mul_ediv_cancel' (Int.gcd_dvd_right ..)⟩
theorem Kt{x d:Int}:Int.tdiv x (Int.gcd x d:Int)=(jX x d).1/\Int.tdiv d (Int.gcd x d:Int)=(jX x d).2:=⟨Int.tdiv_eq_ediv_of_dvd (Int.gcd_dvd_left ..),Int.tdiv_eq_ediv_of_dvd (Int.gcd_dvd_right ..)⟩
theorem yt{g x y:Int}(hg:0<g)(h:g*x=y):x.natAbs<=y.natAbs:=by
 rw[<-h,Int.natAbs_mul]
 exact Nat.le_mul_of_pos_left _ (by omega)
theorem FN{x d:Int}(h:0<d):(jX x d).1.natAbs<=x.natAbs/\(jX x d).2.natAbs<=d.natAbs:=by
 have hg:=wN (x:=x) h
 have hm:=Ox (x:=x) (d:=d)
 exact⟨yt (by omega) hm.1,yt (by omega) hm.2⟩
theorem ab3(a b:Int)(ha: -9223372036854775808<a/\a<9223372036854775808)(hb: -9223372036854775808<b/\b<9223372036854775808)(h:Heap):vl Tryz.prog 263 #[VI a,VI b] h (VI (Int.gcd a b)):=by
 intro K HK
 refine ah2 a b h K (Ce _ _ _ _ ⟨_,rfl,Ce _ _ _ _ ⟨_,rfl,?_⟩⟩)
 rw[rh ha.1 ha.2,rh hb.1 hb.2]
 refine⟨fun n x y h'=>∃m:Nat,x=m/\y=n/\Nat.gcd m n=Int.gcd a b/\Fr No h h',⟨b.natAbs,a.natAbs,rfl,rfl,rfl,Fr.refl _ _⟩,?_⟩
 rintro n x y h1 ⟨m,rfl,rfl,hg,f1⟩ bY
 refine⟨fun e=> ?_,fun e=> ?_⟩
 ·have e:=bA e
  simp only[decide_eq_false_iff_not]at e
  refine⟨e,m%n,Nat.mod_lt _ (by omega),n,rfl,Ks m n,?_,f1⟩
  rw[<-hg,Nat.gcd_comm m n,Nat.gcd_rec n m,Nat.gcd_comm]
 ·have e:=aX e
  simp only[decide_eq_true_eq]at e
  have:n=0:=by omega
  subst this
  rw[Nat.gcd_zero_right]at hg
  rw[hg]
  exact HK h1 f1
theorem R0(x d:Int)(hx: -9223372036854775808<x/\x<9223372036854775808)(hd:0<d)(hd2:d<9223372036854775808)(h:Heap):vl Tryz.prog 219 #[VI x,VI d] h (.agg #[VI (jX x d).1,VI (jX x d).2]):=by
 intro K HK
 refine ahg x d h K fun b1 h1 eD f1 bY=> ?_
 have f1:=f1.aF
 refine ab3 x d hx ⟨by omega,hd2⟩ h1 _ fun h2 f2=>⟨_,rfl,bY.aB f2,?_⟩
 refine⟨fun y h'=>y=(Int.gcd x d:Int)/\Fr No h h',⟨fun e=>by simp only[decide_eq_true_eq]at e;omega,fun _=>⟨rfl,f1.aA f2⟩⟩,?_⟩
 rintro y h3 ⟨rfl,f3⟩ cF
 have hg:=wN (x:=x) hd
 have ht:=Kt (x:=x) (d:=d)
 have hb:=FN (x:=x) hd
 rw[ht.1,ht.2,aG _ (by omega) (by omega),aG _ (by omega) (by omega)]
 refine⟨by omega,by omega,fun h4 f4 dS=>HK h4 (f3.fresh f4 fun k hk=> ?_)⟩
 simp only[In,List.mem_cons,List.not_mem_nil,or_false]at hk
 omega
theorem Oy(a b:Int)(h:Heap)(K:Value->Heap->Prop)(HK:K (VI (max a b)) h):aE Tryz.prog 122 #[VI a,VI b] h K:=by
 refine abr a b h K ⟨fun e=> ?_,fun e=> ?_⟩
 ·simp only[decide_eq_true_eq]at e
  rw[Int.max_eq_left (by omega)]at HK
  exact HK
 ·simp only[decide_eq_false_iff_not]at e
  rw[Int.max_eq_right (by omega)]at HK
  exact HK
theorem R5(a:Int)(ha: -9223372036854775808<a)(GM:a<9223372036854775808)(h:Heap)(K:Value->Heap->Prop)(HK:K (VI a.natAbs) h):aE Tryz.prog 272 #[VI a] h K:=
 aii a h K (Oy _ _ _ _ ⟨_,rfl,.nil,by rw[rh ha GM];exact HK⟩)
theorem LI(x d:Int)(hx: -9223372036854775808<x/\x<9223372036854775808)(hd:0<d)(hd2:d<9223372036854775808)(h:Heap):vl Tryz.prog 236 #[VI x,VI d] h (.agg #[VI (jX x d).1,VI (jX x d).2]):=by
 intro K HK
 refine v236 x d h K fun b1 h1 eD f1 bY=> ?_
 have f1:=f1.aF
 refine⟨fun y z h'=>y=x/\z=d/\Fr No h h',⟨fun e=>by simp only[decide_eq_true_eq]at e;omega,fun _=>⟨rfl,rfl,f1⟩⟩,?_⟩
 rintro y z h2 ⟨rfl,rfl,f2⟩ bW
 refine R5 y hx.1 hx.2 h2 _ ⟨_,rfl,bW,?_⟩
 refine⟨fun n p q h'=>∃m:Nat,p=m/\q=n/\Nat.gcd m n=Int.gcd y z/\Fr No h h',⟨z.natAbs,y.natAbs,rfl,by omega,rfl,f2⟩,?_⟩
 rintro n p q h3 ⟨m,rfl,rfl,hg,f3⟩ cF
 refine⟨fun e=> ?_,fun e=> ?_⟩
 ·simp only[decide_eq_true_eq]at e
  refine⟨by omega,m%n,Nat.mod_lt _ (by omega),n,rfl,Ks m n,?_,f3⟩
  rw[<-hg,Nat.gcd_comm m n,Nat.gcd_rec n m,Nat.gcd_comm]
 ·simp only[decide_eq_false_iff_not]at e
  have:n=0:=by omega
  subst this
  rw[Nat.gcd_zero_right]at hg
  rw[hg]
  have hg:=wN (x:=y) hd
  have ht:=Kt (x:=y) (d:=z)
  have hb:=FN (x:=y) hd
  rw[ht.1,ht.2,aG _ (by omega) (by omega),aG _ (by omega) (by omega)]
  refine⟨by omega,by omega,fun h4 f4 dS=>HK h4 (f3.fresh f4 fun k hk=> ?_)⟩
  simp only[In,List.mem_cons,List.not_mem_nil,or_false]at hk
  omega
def C7(g:List (List Int))(a b:Int)(p:Nat):Bool:= !(decide ((gf g p).getD a.toNat 0<0)&&decide ((gf g p).getD b.toNat 0<0))&& !(qk a b p&&decide ((g.getD p []).length=0))
theorem Ku{g:List (List Int)}{a b:Int}{p:Nat}(hp:p<g.length)(h:C7 g a b p=false):Oo g a b=false:=List.all_eq_false.2 ⟨p,List.mem_range.2 hp,by unfold C7 at h;rw[h];decide⟩
theorem FO{g:List (List Int)}{a b:Int}(h:∀p,p<g.length->C7 g a b p=true):Oo g a b=true:=List.all_eq_true.2 fun p hp=>h p (List.mem_range.1 hp)
theorem FP{S:Nat->Prop}{h:Heap}{t:Sl}{cT:List Int}(R:aQ S h t cT){b:Int}(b0:0<=b)(b1:b<(cT.length:Int)){x p a l:Int}{KF KN:Prop}(hF:(!(decide (x<0)&&decide (cT.getD b.toNat 0<0))&& !((!decide (p=a)&& !decide (p=b))&&decide (l=0)))=false->KF)(hN:(!(decide (x<0)&&decide (cT.getD b.toNat 0<0))&& !((!decide (p=a)&& !decide (p=b))&&decide (l=0)))=true->KN):
 ((decide (x<0))=true->dN t b/\∃y:Int,aR h (Sl.at t b 1)=some (VI y)/\((decide (y<0))=true->KF)/\((decide (y<0))=false->((!decide (p=a))=true->((!decide (p=b))=true->((decide (l=0))=true->KF)/\((decide (l=0))=false->KN))/\((!decide (p=b))=false->KN))/\((!decide (p=a))=false->KN)))/\
 ((decide (x<0))=false->((!decide (p=a))=true->((!decide (p=b))=true->((decide (l=0))=true->KF)/\((decide (l=0))=false->KN))/\((!decide (p=b))=false->KN))/\((!decide (p=a))=false->KN)):=by
 refine⟨fun e1=>⟨R.bC b0 b1,_,R.get b0 b1,fun e2=>hF ?_,fun e2=>⟨fun e3=>⟨fun e4=>⟨fun e5=>hF ?_,fun e5=>hN ?_⟩,fun e4=>hN ?_⟩,fun e3=>hN ?_⟩⟩,fun e1=>⟨fun e3=>⟨fun e4=>⟨fun e5=>hF ?_,fun e5=>hN ?_⟩,fun e4=>hN ?_⟩,fun e3=>hN ?_⟩⟩
 all_goals (try rw[<-aN (by omega)]at e2)
 all_goals (rw[e1];(try rw[e2]);(try rw[e3]);(try rw[e4]);(try rw[e5]);first|rfl|simp)
theorem Oz{S:Nat->Prop}{h:Heap}{g:Sl}{aD:List (List Int)}(G:bU S h g aD)(a b:Int):vl Tryz.prog 217 #[.agg #[g.v],VI a,VI b] h (VB (Ig aD a b)):=by
 intro K HK
 unfold Ig at HK
 refine ahd g a b h K fun b1 h1 eD f1 bY=> ?_
 have f1:=f1.aF
 refine aP fu (fun k=>h1.size<=k) (fun _ h=>h) 2 (by omega) [VI a,VI b] rfl rfl fun t h2 n2 c2 o2 f2 m2 _=>⟨t,rfl,bY.aB f2,?_⟩
 have o2:aQ (fun k=>h1.size<=k) h2 t [a,b]:=o2.eW
 have f12:=f1.aA f2
 have bW:=bY.aB f2
 refine su (G.no f12) o2 _ fun h3 f3=>⟨_,rfl,bW.aB f3,fun e=> ?_,fun e=> ?_⟩
 all_goals simp only[List.all_cons,List.all_nil,Bool.and_true]at e
 all_goals have f13:=f12.aA f3
 ·have e:=bA e
  have:lA aD a b=false:=by unfold lA;rw[Bool.and_assoc (aM aD),e];rfl
  rw[this,Bool.false_and]at HK
  exact HK h3 f13
 have e:=aX e
 refine⟨fun e2=> ?_,fun e2=> ?_⟩
 ·have:lA aD a b=false:=by unfold lA;rw[e2,Bool.not_true,Bool.and_false]
  rw[this,Bool.false_and]at HK
  exact HK h3 f13
 have hgo:lA aD a b=true:=by unfold lA;rw[Bool.and_assoc (aM aD),e,e2];rfl
 obtain⟨hg,⟨a0,a1⟩,⟨b0,b1⟩,dZ⟩:=Ih hgo
 rw[hgo,Bool.true_and]at HK
 refine⟨fun n i h'=>0<=i/\i+n=(aD.length:Int)/\(∀q:Nat,(q:Int)<i->C7 aD a b q=true)/\Fr No h h',⟨aD.length,by omega,by omega,fun q hq=>by omega,f13⟩,?_⟩
 rintro n i h4 ⟨i0,i1,i2,f4⟩ dS
 have G4:=G.no f4
 refine⟨fun e3=> ?_,fun e3=> ?_⟩
 ·have hi:=G4.lt e3
  have ei:((i.toNat:Nat):Int)=i:=by omega
  obtain⟨si,ci,ri⟩:=G4.get i0 hi
  have eg:aD.getD i.toNat []=aD[i.toNat]'(by omega):=aS (by omega)
  have ln:=ri.len
  refine⟨G4.bC i0 hi,si,ci,Bi G4 hg i0 hi _ fun t h5 o5 hl f5=>⟨t,rfl,dS.aB f5,?_⟩⟩
  have r5:aQ _ h5 t _:=Ow.eW o5
  have f45:=f4.aA f5
  have key:∀v,(!(decide ((gf aD i)[a.toNat]'(by omega)<0)&&decide ((gf aD i).getD b.toNat 0<0))&& !((!decide (i=a)&& !decide (i=b))&&decide ((si.n:Int)=0)))=v->C7 aD a b i.toNat=v:=fun v hv=>by
   rw[<-hv]
   unfold C7 qk
   rw[ei,eg,aN (show a.toNat<(gf aD i).length by omega),show decide ((aD[i.toNat]'(by omega)).length=0)=decide ((si.n:Int)=0)from decide_eq_decide.2 ⟨fun _=>by omega,fun _=>by omega⟩]
  refine⟨r5.bC a0 (by omega),_,r5.get a0 (by omega),FP r5 b0 (by omega) (fun hq=> ?_) fun hq=> ?_⟩
  ·rw[Ku (by omega) (key _ hq)]at HK
   exact HK h5 f45
  ·rw[G4.succ i0 hi]
   refine⟨n-1,by omega,by omega,by omega,fun q h2=> ?_,f45⟩
   by_cases h3:(q:Int)<i
   ·exact i2 q h3
   ·rw[show q=i.toNat by omega];exact key _ hq
 ·have hi:=G4.ge e3
  rw[FO fun p hp=>i2 p (by omega)]at HK
  exact HK h4 f4
theorem LJ{S:Nat->Prop}{h:Heap}{g:Sl}{aD:List (List Int)}(G:bU S h g aD)(a b:Int):vl Tryz.prog 232 #[.agg #[g.v],VI a,VI b] h (VB (lA aD a b)):=by
 intro K HK
 refine v232 g a b h K fun b1 h1 eD f1 bY=> ?_
 have f1:=f1.aF
 refine cQ (G.no f1) a _ fun h2 f2=>⟨_,rfl,bY.aB f2,fun e=> ?_,fun e=> ?_⟩
 ·refine cQ (G.no (f1.aA f2)) b _ fun h3 f3=>⟨_,rfl,(bY.aB f2).aB f3,fun e2=> ?_,fun e2=> ?_⟩
  ·unfold lA at HK
   rw[e]at HK
   rw[Bool.and_eq_true]at e2
   rw[e2.2]at HK
   exact HK h3 ((f1.aA f2).aA f3)
  ·unfold lA at HK
   rw[Bool.and_eq_true]at e
   rw[e.1,Bool.true_and]at e2
   rw[e2,Bool.and_false,Bool.false_and]at HK
   exact HK h3 ((f1.aA f2).aA f3)
 ·unfold lA at HK
  rw[e]at HK
  exact HK h2 (f1.aA f2)
theorem R9{S:Nat->Prop}{h:Heap}{g:Sl}{aD:List (List Int)}(G:bU S h g aD){a b:Int}(hgo:lA aD a b=true):vl Tryz.prog 233 #[.agg #[g.v],VI a,VI b] h (VB (Oo aD a b)):=by
 intro K HK
 obtain⟨hg,⟨a0,a1⟩,⟨b0,b1⟩,dZ⟩:=Ih hgo
 refine v233 g a b h K fun b1 h1 eD f1 bY=> ?_
 have f1:=f1.aF
 refine⟨fun n i h'=>0<=i/\i+n=(aD.length:Int)/\(∀q:Nat,(q:Int)<i->C7 aD a b q=true)/\Fr No h h',⟨aD.length,by omega,by omega,fun q hq=>by omega,f1⟩,?_⟩
 rintro n i h4 ⟨i0,i1,i2,f4⟩ dS
 have G4:=G.no f4
 refine⟨fun e3=> ?_,fun e3=> ?_⟩
 ·have hi:=G4.lt e3
  have ei:((i.toNat:Nat):Int)=i:=by omega
  obtain⟨si,ci,ri⟩:=G4.get i0 hi
  have eg:aD.getD i.toNat []=aD[i.toNat]'(by omega):=aS (by omega)
  have ln:=ri.len
  refine⟨G4.bC i0 hi,si,ci,JT G4 hg i0 hi _ fun t h5 o5 hl f5=>⟨t,rfl,dS.aB f5,?_⟩⟩
  have r5:aQ _ h5 t _:=Ow.eW o5
  have f45:=f4.aA f5
  have key:∀v,(!(decide ((gf aD i)[a.toNat]'(by omega)<0)&&decide ((gf aD i).getD b.toNat 0<0))&& !((!decide (i=a)&& !decide (i=b))&&decide ((si.n:Int)=0)))=v->C7 aD a b i.toNat=v:=fun v hv=>by
   rw[<-hv]
   unfold C7 qk
   rw[ei,eg,aN (show a.toNat<(gf aD i).length by omega),show decide ((aD[i.toNat]'(by omega)).length=0)=decide ((si.n:Int)=0)from decide_eq_decide.2 ⟨fun _=>by omega,fun _=>by omega⟩]
  refine⟨r5.bC a0 (by omega),_,r5.get a0 (by omega),FP r5 b0 (by omega) (fun hq=> ?_) fun hq=> ?_⟩
  ·rw[Ku (by omega) (key _ hq)]at HK
   exact HK h5 f45
  ·rw[G4.succ i0 hi]
   refine⟨n-1,by omega,by omega,by omega,fun q h2=> ?_,f45⟩
   by_cases h3:(q:Int)<i
   ·exact i2 q h3
   ·rw[show q=i.toNat by omega];exact key _ hq
 ·have hi:=G4.ge e3
  rw[FO fun p hp=>i2 p (by omega)]at HK
  exact HK h4 f4
theorem OA{S:Nat->Prop}{h:Heap}{g:Sl}{aD:List (List Int)}(G:bU S h g aD)(a b:Int):vl Tryz.prog 185 #[.agg #[g.v],VI a,VI b] h (VB (Ig aD a b)):=by
 intro K HK
 unfold Ig at HK
 refine agv g a b h K fun b1 h1 eD f1 bY=> ?_
 have f1:=f1.aF
 refine LJ (G.no f1) a b _ fun h2 f2=>⟨_,rfl,bY.aB f2,fun e=> ?_,fun e=> ?_⟩
 ·rw[e,Bool.true_and]at HK
  exact R9 (G.no (f1.aA f2)) e _ fun h3 f3=>⟨_,rfl,(bY.aB f2).aB f3,HK h3 ((f1.aA f2).aA f3)⟩
 ·rw[e,Bool.false_and]at HK
  exact HK h2 (f1.aA f2)
def dP(ps:List Nat)(p:Nat)(l:List Int)(L:Int):List Int:=ps.map fun q:Nat=>(if q=p then L else 0)-ff q l
theorem cP(ps:List Nat)(p:Nat)(l:List Int)(L:Int):(dP ps p l L).length=ps.length:=by unfold dP;rw[List.length_map]
theorem fw{ps:List Nat}{p:Nat}{l:List Int}{L:Int}{j:Nat}(h:j<(dP ps p l L).length):(dP ps p l L)[j]=(if ps[j]'(by rw[cP]at h;exact h)=p then L else 0)-ff (ps[j]'(by rw[cP]at h;exact h):Nat) l:=by simp[dP]
theorem Ij(ps:List Nat)(p:Nat):dP ps p [] 0=List.replicate ps.length 0:=by
 apply List.ext_getElem (by rw[cP,List.length_replicate])
 intro j h1 h2
 rw[fw h1,List.getElem_replicate,ff]
 split<;>rfl
theorem C8{ps:List Nat}(nd:ps.Nodup){i j:Nat}(hi:i<ps.length)(hj:j<ps.length)(h:ps[i]=ps[j]):i=j:=by
 have hp:=List.pairwise_iff_getElem.1 nd
 rcases Nat.lt_trichotomy i j with a|a|a
 ·exact absurd h (hp i j hi hj a)
 ·exact a
 ·exact absurd h.symm (hp j i hj hi a)
theorem Ik{ps:List Nat}(nd:ps.Nodup){p:Nat}{l:List Int}{L x:Int}{i:Nat}(hi:i<ps.length)(e:((ps[i]:Nat):Int)=x):dP ps p (l++[x]) L=(dP ps p l L).set i ((dP ps p l L).getD i 0-1):=by
 have hl:i<(dP ps p l L).length:=by rw[cP];exact hi
 have hd:=aN hl
 rw[fw hl]at hd
 rw[hd]
 apply List.ext_getElem (by rw[List.length_set,cP,cP])
 intro j h1 h2
 have hj:j<(dP ps p l L).length:=by rw[cP]at h1⊢;exact h1
 have Fm:j<ps.length:=by rw[cP]at hj;exact hj
 rw[fw h1,List.getElem_set,kO,fw hj]
 simp only[ff]
 by_cases c:i=j
 ·subst c
  rw[if_pos (show i=i from rfl),if_pos (show x=((ps[i]:Nat):Int)from e.symm)];omega
 ·rw[if_neg (show¬i=j from c),if_neg (show¬x=((ps[j]:Nat):Int)from fun h=>c (C8 nd hi Fm (by omega)))];omega
theorem yu{ps:List Nat}{p:Nat}{l:List Int}{L x:Int}(h:∀q,q∈ps->((q:Nat):Int)≠x):dP ps p (l++[x]) L=dP ps p l L:=by
 unfold dP
 refine List.map_congr_left fun q hq=> ?_
 have hz:(if x=(q:Int)then(1:Int)else 0)=0:=if_neg fun e=>h q hq e.symm
 rw[kO]
 simp only[ff]
 rw[hz];omega
theorem LK{ps:List Nat}(nd:ps.Nodup){l:List Int}{L:Int}{i:Nat}(hi:i<ps.length):dP ps ps[i] l L=(dP ps ps[i] l 0).set i ((dP ps ps[i] l 0).getD i 0+L):=by
 have hl:i<(dP ps ps[i] l 0).length:=by rw[cP];exact hi
 have hd:=aN hl
 rw[fw hl]at hd
 rw[hd]
 apply List.ext_getElem (by rw[List.length_set,cP,cP])
 intro j h1 h2
 have hj:j<(dP ps ps[i] l 0).length:=by rw[cP]at h1⊢;exact h1
 have Fm:j<ps.length:=by rw[cP]at hj;exact hj
 rw[fw h1,List.getElem_set,fw hj]
 by_cases c:i=j
 ·subst c
  rw[if_pos rfl,if_pos rfl,if_pos rfl];omega
 ·rw[if_neg c,if_neg fun h=>c (C8 nd hi Fm h.symm),if_neg fun h=>c (C8 nd hi Fm h.symm)]
def qD(g:List (List Int))(a b:Int):List (List Int):=(bP g.length a b).map fun p=>dP (bP g.length a b) p (g.getD p []) (g.getD p []).length
def FQ(g:List (List Int))(a b:Int)(own:Int->Int)(A B:Int)(p:Nat):Int:=own p+A*ff a (g.getD p [])+B*ff b (g.getD p [])
def mF(g:List (List Int))(a b:Int)(own:Int->Int)(A B:Int):List Int:=(bP g.length a b).map (FQ g a b own A B)
theorem jY(g:List (List Int))(a b:Int):(qD g a b).length=(bP g.length a b).length/\Sq (bP g.length a b).length (qD g a b):=by
 have e:(qD g a b).length=(bP g.length a b).length:=by unfold qD;rw[List.length_map]
 refine⟨e,e,fun i hi=> ?_⟩
 rw[show(qD g a b)[i]=_ from List.getElem_map _,cP]
theorem C9(g:List (List Int))(a b:Int){i j:Nat}(hi:i<(bP g.length a b).length)(hj:j<(bP g.length a b).length):bS (qD g a b) i j=iB (gh g a b) i j:=by
 have hr:i<(qD g a b).length:=by rw[(jY g a b).1];exact hi
 have er:(qD g a b)[i]=dP (bP g.length a b) (bP g.length a b)[i] (g.getD (bP g.length a b)[i] []) (g.getD (bP g.length a b)[i] []).length:=List.getElem_map _
 unfold bS iB
 rw[aS hr,er,aN (by rw[cP];exact hj),fw (by rw[cP];exact hj),(kR hi).2,(kR hj).1]
 congr 1
 by_cases e:i=j
 ·subst e;rw[if_pos rfl,if_pos rfl]
 ·rw[if_neg e,if_neg fun h=>e (C8 (CY _ _ _) hi hj h.symm)]
theorem uh{g:List (List Int)}(hg:aM g=true)(a b:Int):Small (bP g.length a b).length (bS (qD g a b)):=fun i j hi hj=>by
 rw[C9 g a b hi hj]
 unfold iB
 rw[(kR hi).2]
 have hp:=(dY.1 (List.getElem_mem hi)).1
 have hb:(g.getD (bP g.length a b)[i] []).length<=5:=by rw[aS hp];exact(aT hg (List.getElem_mem hp)).1
 have:=jn (nB (gh g a b) j) (g.getD (bP g.length a b)[i] [])
 split<;>omega
theorem Kv(g:List (List Int))(a b:Int):cH (bP g.length a b).length (bS (qD g a b))=jR g a b:=dF fun i j hi hj=>C9 g a b hi hj
theorem mG(g:List (List Int))(a b:Int)(own:Int->Int)(A B:Int):(mF g a b own A B).length=(bP g.length a b).length:=by unfold mF;rw[List.length_map]
theorem sN(g:List (List Int))(a b:Int)(own:Int->Int)(A B:Int){i:Nat}(hi:i<(bP g.length a b).length):(mF g a b own A B).getD i 0=Ii g a b own A B i:=by
 rw[aN (by rw[mG];exact hi)]
 refine(show(mF g a b own A B)[i]'(by rw[mG];exact hi)=FQ g a b own A B (bP g.length a b)[i]from List.getElem_map _).trans ?_
 have e1:(bP g.length a b).getD i 0=(bP g.length a b)[i]:=by rw[List.getD_eq_getElem?_getD,List.getElem?_eq_getElem hi,Option.getD_some]
 unfold Ii FQ
 rw[e1]
theorem Il(g:List (List Int))(a b:Int)(own:Int->Int)(A B:Int)(k:Nat):cH (bP g.length a b).length (nD (bS (qD g a b)) k fun i=>(mF g a b own A B).getD i 0)=vA g a b own A B k:=by
 refine dF fun i j hi hj=> ?_
 unfold nD
 split
 ·exact sN g a b own A B hi
 ·exact C9 g a b hi hj
def sO(rows:List (List Int))(k:Nat)(r:List Int):List (List Int):=rows.zipIdx.map fun t=>t.1.set k (r.getD t.2 0)
theorem kS(rows:List (List Int))(k:Nat)(r:List Int):(sO rows k r).length=rows.length:=by unfold sO;rw[List.length_map,List.length_zipIdx]
theorem sP{rows:List (List Int)}{k:Nat}{r:List Int}{i:Nat}(hi:i<rows.length):(sO rows k r)[i]'(by rw[kS];exact hi)=rows[i].set k (r.getD i 0):=by
 refine(List.getElem_map (l:=rows.zipIdx) _ (h:=by rw[List.length_map,List.length_zipIdx];exact hi)).trans ?_
 rw[List.getElem_zipIdx]
 (try simp only[Nat.zero_add])
theorem Kw{n:Nat}{rows:List (List Int)}(Q:Sq n rows)(k:Nat)(r:List Int):Sq n (sO rows k r):=⟨by rw[kS];exact Q.len,fun i hi=>by
 rw[kS]at hi
 rw[sP hi,List.length_set]
 exact Q.row i hi⟩
theorem FR{n:Nat}{rows:List (List Int)}(Q:Sq n rows){k:Nat}{r:List Int}{i j:Nat}(hi:i<n)(hj:j<n):bS (sO rows k r) i j=nD (bS rows) k (fun i=>r.getD i 0) i j:=by
 have hl:=Q.len
 have hH:i<rows.length:=by omega
 have hr:=Q.row i hH
 have h1:i<(sO rows k r).length:=by rw[kS];exact hH
 have h2:j<((sO rows k r)[i]'h1).length:=by rw[sP hH,List.length_set,hr];exact hj
 rw[gC h1 h2]
 have:((sO rows k r)[i]'h1)[j]'h2=(rows[i].set k (r.getD i 0))[j]'(by rw[List.length_set,hr];exact hj):=by congr 1;exact sP hH
 rw[this,List.getElem_set]
 unfold nD
 by_cases e:k=j
 ·rw[if_pos e,if_pos e.symm]
 ·rw[if_neg e,if_neg fun h=>e h.symm,gC hH (by rw[hr];exact hj)]
theorem rm{n:Nat}{rows:List (List Int)}(Q:Sq n rows)(S:Small n (bS rows)){k:Nat}{r:List Int}(hr:∀i,i<n->(r.getD i 0).natAbs<=10):Small n (bS (sO rows k r)):=fun i j hi hj=>by
 rw[FR Q hi hj]
 unfold nD
 split
 ·exact hr i hi
 ·exact S i j hi hj
theorem yv{n:Nat}{rows:List (List Int)}(Q:Sq n rows)(k:Nat)(r:List Int):cH n (bS (sO rows k r))=cH n (nD (bS rows) k fun i=>r.getD i 0):=dF fun i j hi hj=>FR Q hi hj
theorem BH{rows:List (List Int)}{k:Nat}{r:List Int}{i:Nat}(hi:i<rows.length):(sO rows k r).take (i+1)=(sO rows k r).take i++[rows[i].set k (r.getD i 0)]:=by
 rw[List.take_succ_eq_append_getElem (by rw[kS];exact hi),sP hi]
def yw(g:List (List Int))(a b:Int)(own:Int->Int)(A B:Int)(k:Nat):List Int:=(List.range g.length).map fun q:Nat=>if(q:Int)=a then A*jR g a b else if(q:Int)=b then B*jR g a b else if(bP g.length a b).idxOf q<k then vA g a b own A B ((bP g.length a b).idxOf q)else 0
theorem kT(g:List (List Int))(a b:Int)(own:Int->Int)(A B:Int)(k:Nat):(yw g a b own A B k).length=g.length:=by unfold yw;rw[List.length_map,List.length_range]
theorem sQ{g:List (List Int)}{a b:Int}{own:Int->Int}{A B:Int}{k q:Nat}(h:q<(yw g a b own A B k).length):(yw g a b own A B k)[q]=if(q:Int)=a then A*jR g a b else if(q:Int)=b then B*jR g a b else if(bP g.length a b).idxOf q<k then vA g a b own A B ((bP g.length a b).idxOf q)else 0:=by
 refine(List.getElem_map (l:=List.range g.length) _ (h:=h)).trans ?_
 rw[List.getElem_range]
theorem LM{g:List (List Int)}{a b:Int}(own:Int->Int)(A B:Int)(a0:0<=a)(b0:0<=b)(dZ:a≠b):yw g a b own A B 0=((List.replicate g.length 0).set a.toNat (A*jR g a b)).set b.toNat (B*jR g a b):=by
 apply List.ext_getElem (by rw[kT,List.length_set,List.length_set,List.length_replicate])
 intro q h1 h2
 rw[sQ h1,List.getElem_set,List.getElem_set,List.getElem_replicate]
 by_cases ea:(q:Int)=a
 ·rw[if_pos ea,if_neg (by omega),if_pos (by omega)]
 ·rw[if_neg ea]
  by_cases eb:(q:Int)=b
  ·rw[if_pos eb,if_pos (by omega)]
  ·rw[if_neg eb,if_neg (by omega),if_neg (by omega),if_neg (by omega)]
theorem LN{g:List (List Int)}{a b:Int}(own:Int->Int)(A B:Int){k:Nat}(hk:k<(bP g.length a b).length):yw g a b own A B (k+1)=(yw g a b own A B k).set ((bP g.length a b)[k]) (vA g a b own A B k):=by
 apply List.ext_getElem (by rw[kT,List.length_set,kT])
 intro q h1 h2
 have h3:q<(yw g a b own A B k).length:=by rw[List.length_set]at h2;exact h2
 have hm:=dY.1 (List.getElem_mem hk)
 rw[sQ h1,List.getElem_set,sQ h3]
 by_cases e:(bP g.length a b)[k]=q
 ·rw[if_pos e,if_neg (by omega),if_neg (by omega)]
  subst e
  rw[CZ hk,if_pos (by omega)]
 ·rw[if_neg e]
  by_cases ea:(q:Int)=a
  ·rw[if_pos ea,if_pos ea]
  ·rw[if_neg ea,if_neg ea]
   by_cases eb:(q:Int)=b
   ·rw[if_pos eb,if_pos eb]
   ·rw[if_neg eb,if_neg eb]
    have hq:q∈bP g.length a b:=dY.2 ⟨by rw[kT]at h3;exact h3,ea,eb⟩
    have hi:=List.idxOf_lt_length_iff.2 hq
    by_cases l:(bP g.length a b).idxOf q<k
    ·rw[if_pos l,if_pos (by omega)]
    ·rw[if_neg l,if_neg]
     intro h
     apply e
     have:(bP g.length a b).idxOf q=k:=by omega
     subst this
     exact List.getElem_idxOf hi
def Da(g:List (List Int))(a b:Int)(own:Int->Int)(A B:Int):List Int:=(List.range g.length).map fun q:Nat=>El g a b own A B q
theorem FT(g:List (List Int))(a b:Int)(own:Int->Int)(A B:Int):(Da g a b own A B).length=g.length:=by unfold Da;rw[List.length_map,List.length_range]
theorem FU{g:List (List Int)}{a b:Int}{own:Int->Int}{A B:Int}{q:Nat}(h:q<(Da g a b own A B).length):(Da g a b own A B)[q]=El g a b own A B q:=by
 refine(List.getElem_map (l:=List.range g.length) _ (h:=h)).trans ?_
 rw[List.getElem_range]
theorem OB(g:List (List Int))(a b:Int)(own:Int->Int)(A B:Int):yw g a b own A B (bP g.length a b).length=Da g a b own A B:=by
 apply List.ext_getElem (by rw[kT,FT])
 intro q h1 h2
 rw[sQ h1,FU h2]
 unfold El
 by_cases ea:(q:Int)=a
 ·rw[if_pos ea,if_pos ea]
 ·rw[if_neg ea,if_neg ea]
  by_cases eb:(q:Int)=b
  ·rw[if_pos eb,if_pos eb]
  ·rw[if_neg eb,if_neg eb,if_pos]
   ·rfl
   ·exact List.idxOf_lt_length_iff.2 (dY.2 ⟨by rw[kT]at h1;exact h1,ea,eb⟩)
theorem BI{g:List (List Int)}(hg:aM g=true){a b:Int}{own:Int->Int}{A B:Int}(hn:(bP g.length a b).length<=7)(hr:∀i,i<(bP g.length a b).length->(Ii g a b own A B i).natAbs<=10)(k:Nat):(vA g a b own A B k).natAbs<=50400000000:=by
 rw[<-Il,<-yv (jY g a b).2]
 refine Nat.le_trans (mr (rm (jY g a b).2 (uh hg a b) fun i hi=>by rw[sN g a b own A B hi];exact hr i hi)) ?_
 exact Nat.le_trans (yc hn) (by rw[Wl];exact Nat.le_refl _)
theorem FV{n:Nat}{a b:Int}{i:Nat}(hi:(i:Nat)<n):bP (i+1) a b=if qk a b i then bP i a b++[i]else bP i a b:=by
 unfold bP
 rw[List.range_succ,List.filter_append]
 cases h:qk a b i with
 |true=>rw[if_pos rfl,List.filter_cons_of_pos h,List.filter_nil]
 |false=>rw[if_neg (by decide),List.filter_cons_of_neg (by rw[h];decide),List.filter_nil,List.append_nil]
theorem nE{ps:List Nat}{i:Nat}(h:i<(ps.map fun p:Nat=>(p:Int)).length):(ps.map fun p:Nat=>(p:Int))[i]=((ps[i]'(by rw[List.length_map]at h;exact h):Nat):Int):=List.getElem_map _
theorem gV(x y:Int)(l:List Int):ff x (l++[y])=ff x l+(if y=x then 1 else 0):=by rw[kO];simp only[ff];omega
theorem pj{l:List Int}{a:Int}(h:l.length<=5)(j:Nat):0<=ff a (l.take j)/\ff a (l.take j)<=5:=by
 have:=jn a (l.take j)
 rw[List.length_take]at this
 omega
theorem OC{A o:Int}(hA:A=0\/A=1)(h0:0<=o)(h5:o<=5):0<=A*o/\A*o<=5:=by
 rcases hA with rfl|rfl<;>omega
set_option maxHeartbeats 4000000 in
theorem Ww{h h8:Heap}{g LO rt inner:Sl}{aD:List (List Int)}{a b:Int}(C:Can aD a b){own:Int->Int}{A B:Int}(hA:A=0\/A=1)(hB:B=0\/B=1)(hr:∀i,i<(bP aD.length a b).length->(Ii aD a b own A B i).natAbs<=10)(gn:g.n=aD.length){b1:Nat}(g8:Fr No h h8)(fP:Vars h8 [(b1,[g.v])])
 (M8:bU (fun k=>k<h8.size) h8 LO (qD aD a b)) (R8:aQ (fun k=>k<h8.size) h8 rt (mF aD a b own A B)) (I8:aQ (fun k=>k<h8.size) h8 inner ((bP aD.length a b).map fun p:Nat=>(p:Int))) (K:Value->Heap->Prop) (HK:∀t h',bL h' (Iv h.size h'.size) t (Da aD a b own A B)->Fr No h h'->K (.tuple #[t.v,VI (jR aD a b)]) h'):
 aE Tryz.prog 212 #[(Sl.v LO)] h8 fun ab4 Sa=>∃ui:Int,ab4=(VI ui)/\Vars Sa [(b1,[(Sl.v g)])]/\
 iU Tryz.prog (Instr.makeSlice lP (VI (g.n:Int)) (VI (g.n:Int))) Sa fun ab5 FW=>∃iL:Sl,ab5=(Sl.v iL)/\Vars FW [(b1,[(Sl.v g)])]/\
 dN iL a/\
 dT FW (Sl.at iL a 1)/\Vars (cL FW (Sl.at iL a 1) (VI (aL (A*ui)))) [(b1,[(Sl.v g)])]/\
 ∀uj:Heap,uj=cL FW (Sl.at iL a 1) (VI (aL (A*ui)))->Vars uj [(b1,[(Sl.v g)])]->
 dN iL b/\
 dT uj (Sl.at iL b 1)/\Vars (cL uj (Sl.at iL b 1) (VI (aL (B*ui)))) [(b1,[(Sl.v g)])]/\
 ∀OD:Heap,OD=cL uj (Sl.at iL b 1) (VI (aL (B*ui)))->Vars OD [(b1,[(Sl.v g)])]->
 ∃Ok:Nat->Int->Heap->Prop,(∃n0:Nat,Ok n0 0 OD)/\
 ∀(n_5:Nat)(lV:Int)(lW:Heap),Ok n_5 lV lW->Vars lW [(b1,[(Sl.v g)])]->
 ((decide (lV<(inner.n:Int)))=true->
 dN inner lV/\
 ∃yx:Int,aR lW (Sl.at inner lV 1)=some (VI yx)/\
 iU Tryz.prog (Instr.buildSlice nk 0 #[]) lW fun ab6 Db=>∃OE:Sl,ab6=(Sl.v OE)/\Vars Db [(b1,[(Sl.v g)])]/\
 ∃Wn:Nat->Sl->Int->Heap->Prop,(∃n0:Nat,Wn n0 OE 0 Db)/\
 ∀(n_6:Nat)(uk:Sl)(po:Int)(Dc:Heap),Wn n_6 uk po Dc->Vars Dc [(b1,[(Sl.v g)])]->
 ((decide (po<(LO.n:Int)))=true->
 dN LO po/\
 ∃OG:Sl,aR Dc (Sl.at LO po 1)=some (Sl.v OG)/\
 aE Tryz.prog 152 #[(Sl.v OG)] Dc fun ab7 Dd=>∃ul:Sl,ab7=(Sl.v ul)/\Vars Dd [(b1,[(Sl.v g)])]/\
 dN rt po/\
 ∃Im:Int,aR Dd (Sl.at rt po 1)=some (VI Im)/\
 dN ul lV/\
 dT Dd (Sl.at ul lV 1)/\Vars (cL Dd (Sl.at ul lV 1) (VI Im)) [(b1,[(Sl.v g)])]/\
 ∀sR:Heap,sR=cL Dd (Sl.at ul lV 1) (VI Im)->Vars sR [(b1,[(Sl.v g)])]->
 iU Tryz.prog (Instr.buildSlice nk 1 #[(0,(Sl.v ul))]) sR fun ab8 sS=>∃OH:Sl,ab8=(Sl.v OH)/\Vars sS [(b1,[(Sl.v g)])]/\
 iU Tryz.prog (bE nk nk nk (Sl.v uk) (Sl.v OH)) sS fun ab9 yy=>∃OI:Sl,ab9=(Sl.v OI)/\Vars yy [(b1,[(Sl.v g)])]/\
 ∃m:Nat,m<n_6/\Wn m OI (aL (po+1)) yy)/\
 ((decide (po<(LO.n:Int)))=false->
 aE Tryz.prog 212 #[(Sl.v uk)] Dc fun aca FY=>∃Io:Int,aca=(VI Io)/\Vars FY [(b1,[(Sl.v g)])]/\
 dN iL yx/\
 dT FY (Sl.at iL yx 1)/\Vars (cL FY (Sl.at iL yx 1) (VI Io)) [(b1,[(Sl.v g)])]/\
 ∀De:Heap,De=cL FY (Sl.at iL yx 1) (VI Io)->Vars De [(b1,[(Sl.v g)])]->
 ∃m:Nat,m<n_5/\Ok m (aL (lV+1)) De))/\
 ((decide (lV<(inner.n:Int)))=false->
 K (Value.tuple #[(Sl.v iL),(VI ui)]) lW):=by
 have hg:=C.bF
 have gl:=aO hg
 have il:=sM C.a0 C.a1 C.b0 C.b1 C.ne
 have l1:b1<h8.size:=fP.head.lt
 have tD:∀{F:Nat->Prop},(∀k,F k->h8.size<=k)->∀p,p∈[(b1,[g.v])]->¬F p.1:=fun hF p hp hk=>by
  simp only[List.mem_cons,List.not_mem_nil,or_false]at hp
  subst hp
  have:=hF _ hk
  (try simp only at this)
  omega
 have NM:∀q,q∈bP aD.length a b->q<aD.length:=fun q hq=>(dY.1 hq).1
 have hQ:=(jY aD a b).2
 have hS:=uh hg a b
 have hDe:=Kv aD a b
 have hCe:=Il aD a b own A B
 have hz0:=LM (g:=aD) own A B C.a0 C.b0 C.ne
 have MM:=fun k hk=>LN (g:=aD) (a:=a) (b:=b) own A B (k:=k) hk
 have VO:=OB aD a b own A B
 have hRb:∀i,i<(bP aD.length a b).length->((mF aD a b own A B).getD i 0).natAbs<=10:=fun i hi=>by rw[sN aD a b own A B hi];exact hr i hi
 have dn:=C.den
 have ml:=(jY aD a b).1
 have rl:=mG aD a b own A B
 generalize bP aD.length a b=ps at*
 have Uz:(ps.map fun p:Nat=>(p:Int)).length=ps.length:=List.length_map _
 have hQ':Sq (qD aD a b).length (qD aD a b):=by rw[ml];exact hQ
 have hS':Small (qD aD a b).length (bS (qD aD a b)):=by rw[ml];exact hS
 refine lU M8 hQ' (by omega) hS' _ fun GS f22=>⟨_,rfl,fP.aB f22,?_⟩
 rw[ml,hDe]
 have z22:=f22.size
 refine eA fu (fun k=>GS.size<=k) (fun _ h=>h) .i64 .i64 g.n g.n (Nat.le_refl _) (by omega) fun t Qq n23 c23 o23 f23 m23 _=>⟨t,rfl,(fP.aB f22).aB f23,?_⟩
 have z23:=f23.size
 have ai9:=(fP.aB f22).aB f23
 have o23:bL Qq (Iv GS.size Qq.size) t (List.replicate aD.length 0):=by
  have e:(List.replicate g.n [VI 0]).flatten=(List.replicate aD.length (0:Int)).map VI:=by rw[gn];simp[List.flatten_replicate_singleton]
  rw[e]at o23;exact Ow.fW o23
 have Wx:∀p,p∈[(b1,[g.v])]->¬Iv GS.size Qq.size p.1:=tD fun k hk=>by have:=hk.1;omega
 refine fZ o23 C.a0 (by rw[List.length_replicate];exact C.a1) ai9 Wx _ fun h24 o24 f24 V24=> ?_
 refine fZ o24 C.b0 (by rw[List.length_set,List.length_replicate];exact C.b1) V24 Wx _ fun Lh o25 f25 V25=> ?_
 have wd:∀X:Int,X=0\/X=1->aL (X*jR aD a b)=X*jR aD a b:=fun X hX=>aG _ (by rcases hX with rfl|rfl<;>omega) (by rcases hX with rfl|rfl<;>omega)
 rw[wd A hA,wd B hB,<-hz0]at o25
 have acb:=f24.trans f25
 have M23:bU (fun k=>k<GS.size) Qq LO (qD aD a b):=((M8.no f22).no f23).mono fun k hk=>by omega
 have R23:aQ (fun k=>k<GS.size) Qq rt (mF aD a b own A B):=((R8.no f22).no f23).mono fun k hk=>by omega
 have I23:aQ (fun k=>k<GS.size) Qq inner (ps.map fun p:Nat=>(p:Int)):=((I8.no f22).no f23).mono fun k hk=>by omega
 refine⟨fun m k h'=>0<=k/\k+m=(ps.length:Int)/\bL h' (Iv GS.size Qq.size) t (yw aD a b own A B k.toNat)/\Fr (fun q=>GS.size<=q) Qq h',⟨ps.length,Int.le_refl _,by omega,o25,acb.mono fun q _ hq=>hq.1⟩,?_⟩
 rintro m3 k vu ⟨k0,k1,o26,f26⟩ tP
 have z26:=f26.size
 have g26:Fr No h vu:=(((g8.aA f22).aA f23)).fresh f26 fun q hq=>by have:=g8.size;omega
 have OJ:∀{T:Nat->Prop}{x y:Heap},Fr T x y->(∀q,T q->GS.size<=q)->∀q,q<GS.size->¬T q:=fun _ hT q hq hk=>by have:=hT q hk;omega
 have M26:=M23.fr f26 (OJ f26 fun q hq=>hq)
 have R26:=R23.fr f26 (OJ f26 fun q hq=>hq)
 have I26:=I23.fr f26 (OJ f26 fun q hq=>hq)
 refine⟨fun e3=> ?_,fun e3=> ?_⟩
 ·have hk:=I26.lt e3
  have Qo:k.toNat<ps.length:=by omega
  have cI:=I26.get k0 hk
  rw[nE]at cI
  have hpm:=List.getElem_mem Qo
  have Ip:=NM _ hpm
  have Wy:=MM k.toNat Qo
  refine⟨I26.bC k0 hk,_,cI,?_⟩
  refine aP qg (fun q=>vu.size<=q) (fun _ h=>h) 0 (by omega) [] rfl rfl fun ot Rp n27 c27 NJ f27 m27 _=>⟨ot,rfl,tP.aB f27,?_⟩
  have ajb:gQ Rp (fun q=>vu.size<=q) ot []:=⟨[],rfl,NJ,fun i h1=>by simp at h1,fun i j h1=>by simp at h1,fun i h1=>by simp at h1⟩
  refine⟨fun m x i h'=>0<=i/\i+m=(ps.length:Int)/\gQ h' (fun q=>vu.size<=q) x ((sO (qD aD a b) k.toNat (mF aD a b own A B)).take i.toNat)/\Fr (fun q=>vu.size<=q) vu h',⟨ps.length,Int.le_refl _,by omega,ajb,f27.aB⟩,?_⟩
  rintro m4 x i h28 ⟨i0,i1,o28,f28⟩ LP
  have z28:=f28.size
  have M28:=M26.fr f28 (OJ f28 fun q hq=>by omega)
  have R28:=R26.fr f28 (OJ f28 fun q hq=>by omega)
  refine⟨fun e4=> ?_,fun e4=> ?_⟩
  ·have hi:=M28.lt e4
   obtain⟨si,ci,ri⟩:=M28.get i0 hi
   have ajc:=hQ'.row i.toNat (by omega)
   refine⟨M28.bC i0 hi,si,ci,wv ri (by omega) _ fun t2 h29 o29 f29=>⟨t2,rfl,LP.aB f29,?_⟩⟩
   have R29:=R28.no f29
   have z29:=f29.size
   refine⟨R29.bC i0 (by omega),_,R29.get i0 (by omega),fZ (o29.mono (F':=fun q=>h28.size<=q) fun q _ hq=>hq.1) k0 (by omega) (LP.aB f29) (tD fun q hq=>by omega) _ fun h30 o30 f30 V30=> ?_⟩
   have z30:=f30.size
   refine jL (lo:=vu.size) (m:=h28.size) (dR.fr (dR.fW o28) (f29.aB.trans f30) fun q _ hq gK=>by have:=hq.2;omega) o30 z28 (by omega) V30 (fun p hp=>by simp only[List.mem_cons,List.not_mem_nil,or_false]at hp;subst hp;show b1<vu.size;omega) (by rw[List.length_take];omega) _ fun t3 VJ o32 f32 V32=> ?_
   rw[M28.succ i0 hi]
   refine⟨m4-1,by omega,by omega,by omega,?_,((f28.trans f29.aB).trans (f30.mono fun q _ hq=>by omega)).trans f32⟩
   rw[show(i+1).toNat=i.toNat+1 by omega,BH (by omega),aN (by omega)]
   exact o32
  ·have hi:=M28.ge e4
   have pl:=kS (qD aD a b) k.toNat (mF aD a b own A B)
   rw[List.take_of_length_le (by omega)]at o28
   have Qp:=Kw hQ k.toNat (mF aD a b own A B)
   have Sp:=rm hQ hS (k:=k.toNat) hRb
   have dp:=yv hQ k.toNat (mF aD a b own A B)
   rw[hCe]at dp
   refine lU (dR.rd o28) (by rw[pl,ml];exact Qp) (by omega) (by rw[pl,ml];exact Sp) _ fun h33 f33=>⟨_,rfl,LP.aB f33,?_⟩
   rw[pl,ml,dp]
   have UA:=f28.trans f33.aB
   have o33:bL h33 (Iv GS.size Qq.size) t (yw aD a b own A B k.toNat):=o26.fr UA fun q hq gK=>by have:=(o26.aH hq).1.2;omega
   refine fZ o33 (i:=((ps[k.toNat]' Qo:Nat):Int)) (by omega) (by rw[kT];omega) (LP.aB f33) Wx _ fun h34 o34 f34 V34=> ?_
   rw[I26.succ k0 hk]
   refine⟨m3-1,by omega,by omega,by omega,?_,(f26.trans (UA.mono fun q _ hq=>by omega)).trans (f34.mono fun q _ hq=>hq.1)⟩
   rw[show(k+1).toNat=k.toNat+1 by omega,Wy]
   simp only[Int.toNat_natCast]at o34
   exact o34
 ·have hk:=I26.ge e3
  rw[show k.toNat=ps.length by omega,VO]at o26
  exact HK t vu (o26.mono fun q _ hq=>⟨by have:=hq.1;have:=g8.size;omega,by have:=hq.2;omega⟩) g26
set_option maxHeartbeats 4000000 in
theorem OK{S:Nat->Prop}{h:Heap}{g:Sl}{aD:List (List Int)}(G:bU S h g aD){a b:Int}(C:Can aD a b)(ow:Value)(own:Int->Int){A B:Int}(hA:A=0\/A=1)(hB:B=0\/B=1)(hw:∀p:Nat,0<=own p/\own p<=5)(hr:∀i,i<(bP aD.length a b).length->(Ii aD a b own A B i).natAbs<=10)
 (hO:∀(p:Nat)(h':Heap)(K':Value->Heap->Prop),p<aD.length->Fr No h h'->K' (VI (own p)) h'->fC Tryz.prog ow [VI p] h' K') (K:Value->Heap->Prop) (HK:∀t h',bL h' (Iv h.size h'.size) t (Da aD a b own A B)->Fr No h h'->K (.tuple #[t.v,VI (jR aD a b)]) h'):aE Tryz.prog 261 #[.agg #[g.v],VI a,VI b,ow,VI A,VI B] h K:=by
 have hg:=C.bF
 have gl:=aO hg
 have dZ:=C.ne
 have il:=sM C.a0 C.a1 C.b0 C.b1 C.ne
 refine ahY g a b ow A B h K fun b1 h1 eD f1 bY=> ?_
 have f1:=f1.aF
 have z1:=f1.size
 have l1:b1<h1.size:=bY.head.lt
 have tD:∀{F:Nat->Prop},(∀k,F k->h1.size<=k)->∀p,p∈[(b1,[g.v])]->¬F p.1:=fun hF p hp hk=>by
  simp only[List.mem_cons,List.not_mem_nil,or_false]at hp
  subst hp
  have:=hF _ hk
  (try simp only at this)
  omega
 refine aP fu (fun k=>h1.size<=k) (fun _ h=>h) 0 (by omega) [] rfl rfl fun u h2 n2 c2 o2 f2 m2 _=>⟨u,rfl,bY.aB f2,?_⟩
 refine⟨fun m x p h'=>0<=p/\p+m=(aD.length:Int)/\bL h' (fun k=>h1.size<=k) x ((bP p.toNat a b).map fun p:Nat=>(p:Int))/\Fr (fun k=>h1.size<=k) h1 h',⟨aD.length,Int.le_refl _,by omega,o2,f2.aB⟩,?_⟩
 rintro m inner p h3 ⟨p0,p1,o3,f3⟩ cF
 have g3:=f1.fresh f3 fun k hk=>by omega
 have gn:=G.len
 refine⟨fun e=> ?_,fun e=> ?_⟩
 ·have hp:=G.lt e
  have eit:=FV (a:=a) (b:=b) (show p.toNat<p.toNat+1 by omega)
  rw[G.succ p0 hp]
  have next:qk a b p.toNat=false->∃m':Nat,m'<m/\0<=p+1/\p+1+m'=(aD.length:Int)/\bL h3 (fun k=>h1.size<=k) inner ((bP (p+1).toNat a b).map fun p:Nat=>(p:Int))/\Fr (fun k=>h1.size<=k) h1 h3:=fun hi=>by
   rw[show(p+1).toNat=p.toNat+1 by omega,eit,hi]
   exact⟨m-1,by omega,by omega,by omega,o3,f3⟩
  refine⟨fun e2=>⟨fun e3=> ?_,fun e3=>next ?_⟩,fun e2=>next ?_⟩
  ·have e2:=bA e2
   have e3:=bA e3
   simp only[decide_eq_false_iff_not]at e2 e3
   have hi:qk a b p.toNat=true:=kQ.2 ⟨by omega,by omega⟩
   refine pV (lo:=h1.size) o3 f3.size cF (fun p hp=>by simp only[List.mem_cons,List.not_mem_nil,or_false]at hp;subst hp;exact l1) (by rw[List.length_map];unfold bP;have:=List.length_filter_le (qk a b) (List.range p.toNat);rw[List.length_range]at this;omega) _ fun t h4 o4 f4 V4=> ?_
   refine⟨m-1,by omega,by omega,by omega,?_,f3.trans f4⟩
   rw[show(p+1).toNat=p.toNat+1 by omega,eit,hi,if_pos rfl,List.map_append,List.map_cons,List.map_nil,Int.toNat_of_nonneg p0]
   exact o4
  ·have e3:=aX e3
   simp only[decide_eq_true_eq]at e3
   exact Bool.eq_false_iff.2 fun h=>(kQ.1 h).2 (by omega)
  ·have e2:=aX e2
   simp only[decide_eq_true_eq]at e2
   exact Bool.eq_false_iff.2 fun h=>(kQ.1 h).1 (by omega)
 have hp:=G.ge e
 rw[show p.toNat=aD.length by omega]at o3
 have rI:aQ (fun k=>k<h3.size) h3 inner ((bP aD.length a b).map fun p:Nat=>(p:Int)):=aQ.low o3.eW
 have mu:∀q,q∈bP aD.length a b->(q:Int)≠a/\(q:Int)≠b:=fun q hq=>(dY.1 hq).2
 have NM:∀q,q∈bP aD.length a b->q<aD.length:=fun q hq=>(dY.1 hq).1
 have hMg:∀(i:Nat)(h:i<(bP aD.length a b).length),(qD aD a b).getD i []=dP (bP aD.length a b) (bP aD.length a b)[i] (aD.getD (bP aD.length a b)[i] []) (aD.getD (bP aD.length a b)[i] []).length:=fun i h=>(aS (by rw[(jY aD a b).1];exact h)).trans (List.getElem_map _)
 have hRg:∀(i:Nat)(h:i<(bP aD.length a b).length),(mF aD a b own A B).getD i 0=FQ aD a b own A B (bP aD.length a b)[i]:=fun i h=>(aN (by rw[mG];exact h)).trans (List.getElem_map _)
 have dn:=C.den
 have ml:=(jY aD a b).1
 have rl:=mG aD a b own A B
 have hr':∀i,i<(bP aD.length a b).length->(Ii aD a b own A B i).natAbs<=10:=hr
 clear hr
 generalize OL:bP aD.length a b=ps at mu NM hMg hRg il ml rl o3 rI
 have nd:ps.Nodup:=by rw[<-OL];exact CY _ _ _
 have z3:=f3.size
 refine aP qg (fun k=>h3.size<=k) (fun _ h=>h) 0 (by omega) [] rfl rfl fun m0 h6 n6 c6 o6 f6 m6 _=>⟨m0,rfl,cF.aB f6,?_⟩
 refine aP fu (fun k=>h6.size<=k) (fun _ h=>h) 0 (by omega) [] rfl rfl fun r0 h7 n7 c7 o7 f7 m7 _=>⟨r0,rfl,(cF.aB f6).aB f7,?_⟩
 have z6:=f6.size
 have z7:=f7.size
 refine⟨fun m LO rt i h'=>0<=i/\i+m=(ps.length:Int)/\gQ h' (fun k=>h3.size<=k/\¬rt.own k) LO ((qD aD a b).take i.toNat)/\bL h' (fun k=>h3.size<=k) rt ((mF aD a b own A B).take i.toNat)/\Fr (fun k=>h3.size<=k) h3 h',⟨ps.length,Int.le_refl _,by omega,⟨[],rfl,(o6.no f7).mono fun k hk hF=>⟨hF,fun hr=> ?_⟩,fun i h1=>by simp at h1,fun i j h1=>by simp at h1,fun i h1=>by simp at h1⟩,o7.mono fun k _ hk=>by omega,f6.aB.trans f7.aB⟩,?_⟩
 ·have h1:=(o6.aH hk).2
  have h2:=(o7.aH hr).1
  (try simp only at h2)
  omega
 rintro m LO rt i h8 ⟨i0,i1,om,or',f8⟩ fP
 have g8:=(g3.fresh f8 fun k hk=>by have:=g3.size;omega)
 have z8:=f8.size
 have Wz:=rI.fr f8 fun k hk aI=>by omega
 have Uz:(ps.map fun p:Nat=>(p:Int)).length=ps.length:=List.length_map _
 refine⟨fun e2=> ?_,fun e2=> ?_⟩
 ·have hi:=Wz.lt e2
  have hH:i.toNat<ps.length:=by omega
  have cI:=Wz.get i0 hi
  rw[nE]at cI
  have hpm:=List.getElem_mem hH
  have Ip:=NM _ hpm
  have gK:=mu _ hpm
  generalize hP:ps[i.toNat]' hH=P at cI hpm Ip gK
  have mi:LO.n=i.toNat:=by have:=om.len;rw[List.length_take]at this;omega
  refine⟨Wz.bC i0 hi,_,cI,?_⟩
  have UB:inner.n=ps.length:=by have:=rI.len;rw[Uz]at this;exact this
  have gm:=aT hg (List.getElem_mem Ip)
  have eg:aD.getD P []=aD[P]:=aS Ip
  refine⟨fun x s h'=>bL h' (fun k=>h8.size<=k) x (List.replicate ps.length 0)/\s=own P/\Fr No h8 h',⟨?_,?_⟩,?_⟩
  ·refine eA fu (fun k=>h8.size<=k) (fun _ h=>h) .i64 .i64 inner.n inner.n (Nat.le_refl _) (by omega) fun t h9 n9 c9 o9 f9 m9 _=>⟨t,rfl,fP.aB f9,?_⟩
   refine hO P h9 _ Ip (g8.aA f9) ⟨_,rfl,fP.aB f9,?_,rfl,f9⟩
   have e:(List.replicate inner.n [VI 0]).flatten=(List.replicate ps.length (0:Int)).map VI:=by rw[UB];simp[List.flatten_replicate_singleton]
   rw[e]at o9;exact o9
  ·refine hO P h8 _ Ip g8 ⟨_,rfl,fP,?_⟩
   refine eA fu (fun k=>h8.size<=k) (fun _ h=>h) .i64 .i64 inner.n inner.n (Nat.le_refl _) (by omega) fun t h9 n9 c9 o9 f9 m9 _=>⟨t,rfl,fP.aB f9,?_,rfl,f9⟩
   have e:(List.replicate inner.n [VI 0]).flatten=(List.replicate ps.length (0:Int)).map VI:=by rw[UB];simp[List.flatten_replicate_singleton]
   rw[e]at o9;exact o9
  rintro x s qT ⟨LF,rfl,f13⟩ Lb
  have G8:=G.no g8
  obtain⟨sp,cp8,rp8⟩:=G8.get (i:=(P:Int)) (by omega) (by omega)
  simp only[Int.toNat_natCast]at rp8
  have ln:=rp8.len
  have cpk:∀{h':Heap},Fr (fun k=>h8.size<=k) h8 h'->aR h' (g.at (P:Int) 1)=some sp.v:=fun f=>dI cp8 f (by have:=oE cp8;omega)
  have bC:=G8.bC (i:=(P:Int)) (by omega) (by omega)
  refine⟨bC,sp,cpk f13.aB,?_⟩
  rw[<-Ij ps P]at LF
  refine⟨fun m2 s j h'=>0<=j/\j+m2=(aD[P].length:Int)/\s=own P+A*ff a (aD[P].take j.toNat)+B*ff b (aD[P].take j.toNat)/\bL h' (fun k=>h8.size<=k) x (dP ps P (aD[P].take j.toNat) 0)/\Fr (fun k=>h8.size<=k) h8 h',⟨aD[P].length,Int.le_refl _,by omega,by simp[ff],by simpa using LF,f13.aB⟩,?_⟩
  rintro m2 s j LQ ⟨j0,j1,rfl,WA,f14⟩ LR
  have OM:=rp8.low.fr f14 fun k hk aI=>by omega
  have wP:=hw P
  have oa:=OC hA (pj gm.1 j.toNat).1 (pj (a:=a) gm.1 j.toNat).2
  have ob:=OC hB (pj gm.1 j.toNat).1 (pj (a:=b) gm.1 j.toNat).2
  have Mi:=cP ps P (aD[P].take j.toNat) 0
  refine⟨fun e3=> ?_,fun e3=> ?_⟩
  ·have hj:=OM.lt e3
   have hv:=gm.2 _ (List.getElem_mem (show j.toNat<aD[P].length by omega))
   have hc:=OM.get j0 hj
   have tk:aD[P].take (j+1).toNat=_:=dX _ j0 hj
   generalize aD[P][j.toNat]'(by omega)=v at hv hc tk
   rw[OM.succ j0 hj]
   have nxt:∀(s':Int)(h':Heap),s'=own P+A*ff a (aD[P].take (j+1).toNat)+B*ff b (aD[P].take (j+1).toNat)->bL h' (fun k=>h8.size<=k) x (dP ps P (aD[P].take (j+1).toNat) 0)->Fr (fun k=>h8.size<=k) h8 h'->∃m':Nat,m'<m2/\0<=j+1/\j+1+m'=(aD[P].length:Int)/\s'=own P+A*ff a (aD[P].take (j+1).toNat)+B*ff b (aD[P].take (j+1).toNat)/\bL h' (fun k=>h8.size<=k) x (dP ps P (aD[P].take (j+1).toNat) 0)/\Fr (fun k=>h8.size<=k) h8 h':=fun s' h' a1 a2 a3=>⟨m2-1,by omega,by omega,by omega,a1,a2,a3⟩
   refine⟨OM.bC j0 hj,_,hc,fun e4=> ?_,fun e4=>⟨fun e5=> ?_,fun e5=> ?_⟩⟩
   ·simp only[decide_eq_true_eq]at e4
    refine nxt _ _ ?_ ?_ f14
    ·rw[tk,gV,gV,if_pos e4,if_neg (by omega),aG _ (by omega) (by omega),Int.mul_add,Int.mul_one,Int.add_zero]
     omega
    ·rw[tk,yu fun q hq=>by rw[e4];exact(mu q hq).1]
     exact WA
   ·simp only[decide_eq_true_eq,decide_eq_false_iff_not]at e4 e5
    refine nxt _ _ ?_ ?_ f14
    ·rw[tk,gV,gV,if_neg e4,if_pos e5,aG _ (by omega) (by omega),Int.mul_add B,Int.mul_one,Int.add_zero]
     omega
    ·rw[tk,yu fun q hq=>by rw[e5];exact(mu q hq).2]
     exact WA
   ·simp only[decide_eq_false_iff_not]at e4 e5
    have ajf:=Wz.fr f14 fun k hk aI=>by omega
    refine xU ajf v _ (fun hn=>absurd ?_ hn) fun q hq ev _=>⟨_,rfl,LR,?_⟩
    ·rw[List.mem_map]
     exact⟨v.toNat,by rw[<-OL];exact dY.2 ⟨by omega,by omega,by omega⟩,by omega⟩
    rw[Uz]at hq
    rw[aN (by rw[Uz];exact hq),nE]at ev
    have UC:=WA.eW
    have hql:q<(dP ps P (aD[P].take j.toNat) 0).length:=by rw[Mi];exact hq
    refine⟨aQ.bC UC (by omega) (by omega),_,aQ.get UC (i:=(q:Int)) (by omega) (by omega),fZ (F:=fun k=>h8.size<=k) WA (i:=(q:Int)) (by omega) (by omega) LR (tD fun k hk=>by omega) _ fun WB o16 f16 V16=> ?_⟩
    refine nxt _ _ ?_ ?_ (f14.trans f16)
    ·rw[tk,gV,gV,if_neg e4,if_neg e5,Int.add_zero,Int.add_zero]
    ·rw[tk,Ik nd hq ev,aN hql]
     simp only[Int.toNat_natCast]at o16
     have hb:aL ((dP ps P (aD[P].take j.toNat) 0)[q]-1)=(dP ps P (aD[P].take j.toNat) 0)[q]-1:=by
      rw[fw]
      have:=pj (a:=((ps[q]:Nat):Int)) gm.1 j.toNat
      exact aG _ (by split<;>omega) (by split<;>omega)
     rw[hb]at o16
     exact o16
  ·have hj:=OM.ge e3
   rw[List.take_of_length_le (by omega)]at WA oa ob Mi
   have UC:=WA.eW
   have Uv:i.toNat<(dP ps P aD[P] 0).length:=by rw[Mi];exact hH
   have mI:(LO.n:Int)=i:=by omega
   rw[mI,List.take_of_length_le (by omega)]
   refine⟨aQ.bC UC i0 (by omega),_,aQ.get UC i0 (by omega),bC,sp,cpk f14,fZ (F:=fun k=>h8.size<=k) WA i0 (by omega) LR (tD fun k hk=>by omega) _ fun h17 o17 f17 V17=> ?_⟩
   have abL:(dP ps P aD[P] 0).set i.toNat (aL ((dP ps P aD[P] 0)[i.toNat]' Uv+(sp.n:Int)))=dP ps P (aD.getD P []) (aD.getD P []).length:=by
    have h1:=LK (l:=aD[P]) (L:=(aD[P].length:Int)) nd hH
    rw[hP]at h1
    rw[eg,h1,aN Uv]
    congr 1
    rw[fw]
    have:=pj (a:=((ps[i.toNat]:Nat):Int)) gm.1 aD[P].length
    rw[List.take_length]at this
    have:=gm.1
    exact(aG _ (by split<;>omega) (by split<;>omega)).trans (by omega)
   rw[abL]at o17
   have ON:=f14.trans f17
   have z17:=ON.size
   have aoU:=dR.fr om ON fun k hk _ aI=>by omega
   have WC:(qD aD a b).take (i+1).toNat=(qD aD a b).take i.toNat++[dP ps P (aD.getD P []) (aD.getD P []).length]:=by
    rw[show(i+1).toNat=i.toNat+1 by omega,List.take_succ_eq_append_getElem (by omega)]
    rw[<-aS (by omega),hMg i.toNat hH,hP]
   have WD:(mF aD a b own A B).take (i+1).toNat=(mF aD a b own A B).take i.toNat++[own P+A*ff a aD[P]+B*ff b aD[P]]:=by
    rw[show(i+1).toNat=i.toNat+1 by omega,List.take_succ_eq_append_getElem (by omega),<-aN (by omega),hRg i.toNat hH,hP]
    unfold FQ
    rw[eg]
   have rtl:∀{k},rt.own k->k<h8.size:=fun hk=>(or'.aH hk).2
   refine xZ (F:=fun k=>h3.size<=k/\¬rt.own k) (m:=h8.size) (dR.fr (om.mono fun k hk hF=>(⟨hF,hk⟩:(h3.size<=k/\¬rt.own k)/\k<h8.size)) ON fun k _ hk aI=>by have:=hk.2;omega) o17 (fun k hk=>⟨by omega,fun aI=>by have:=rtl aI;omega⟩) z17 V17 (tD (F:=fun k=>h3.size<=k/\¬rt.own k) fun k hk=>by have:=hk.1;omega) (by rw[List.length_take];omega) _ fun t LS o19 f19 V19=> ?_
   have z19:=f19.size
   have aji:=or'.fr ON fun k hk aI=>by have:=rtl hk;omega
   have acm:=aji.fr f19 fun k hk aI=>aI.2 hk
   refine aP fu (fun k=>LS.size<=k) (fun _ h=>h) 1 (by omega) [VI (own P+A*ff a aD[P]+B*ff b aD[P])] rfl rfl fun u2 h20 n20 c20 o20 f20 m20 _=>⟨u2,rfl,V19.aB f20,?_⟩
   have z20:=f20.size
   have ru:aQ (fun k=>LS.size<=k) h20 u2 [own P+A*ff a aD[P]+B*ff b aD[P]]:=o20.eW
   refine bM fu (acm.no f20) (fun k hk=>by omega) ru (fe _) (by have h1:=aQ.len acm.eW;have h2:=ru.len;simp at h1 h2;omega) fun y h21 n21 o21 f21 d21=>⟨y,rfl,(V19.aB f20).fr f21 (fun q hq hk=>tD (F:=fun k=>h1.size<=k) (fun k hk=>hk) q hq (by have:=(or'.aH hk).1;omega)),?_⟩
   rw[Wz.succ i0 hi]
   (try simp only)
   rw[WC,WD]
   refine⟨m-1,by omega,by omega,by omega,?_,by show Ow _ _ _ _ _ _;rw[List.map_append];exact o21,((f8.trans (ON.mono fun k _ hk=>by omega)).trans (f19.mono fun k _ hk=>hk.1)).trans (f20.aB.trans (f21.mono fun k _ hk=>(or'.aH hk).1))⟩
   refine(dR.fr (dR.no (o19.mono fun k hk hF=>(⟨hF,hk⟩:(h3.size<=k/\¬rt.own k)/\k<LS.size)) f20) f21 fun k _ hk aI=>hk.1.2 aI).mono fun k _ hF=>⟨hF.1.1,fun aI=> ?_⟩
   rcases d21 k aI with hd|hd
   ·exact hF.1.2 hd
   ·have:=hF.2
    omega
 ·have hi:=Wz.ge e2
  have hH:i.toNat=ps.length:=by omega
  rw[List.take_of_length_le (by omega)]at om or'
  have M8:bU (fun k=>k<h8.size) h8 LO (qD aD a b):=(dR.rd om).mono fun k hk=>hk.2
  have R8:aQ (fun k=>k<h8.size) h8 rt (mF aD a b own A B):=aQ.low or'.eW
  have I8:aQ (fun k=>k<h8.size) h8 inner (ps.map fun p:Nat=>(p:Int)):=Wz.mono fun k hk=>by omega
  rw[<-OL]at I8
  exact Ww C hA hB hr' gn g8 fP M8 R8 I8 K HK
theorem Sb{full:List Int}{m j:Nat}(h:j<m)(hl:full.length=m):(full.take j++(List.replicate m (0:Int)).drop j).set j 0=full.take j++(List.replicate m (0:Int)).drop j:=by
 rw[List.set_append_right _ _ (by rw[List.length_take];omega),List.length_take,show j-min j full.length=0 by omega,List.drop_replicate]
 obtain⟨d,hd⟩:∃d,m-j=d+1:=⟨m-j-1,by omega⟩
 rw[hd,List.replicate_succ]
 rfl
set_option maxHeartbeats 4000000 in
theorem Iq{S:Nat->Prop}{h:Heap}{g:Sl}{aD:List (List Int)}(G:bU S h g aD)(hg:aM aD=true)(a b:Int)(K:Value->Heap->Prop)(HK:∀t u h',aQ (fun k=>k<h'.size) h' t ((bP aD.length a b).map fun p:Nat=>(p:Int))->bU (fun k=>k<h'.size) h' u (qD aD a b)->Fr No h h'->K (.tuple #[t.v,u.v]) h'):aE Tryz.prog 234 #[.agg #[g.v],VI a,VI b] h K:=by
 have gl:=aO hg
 refine v234 g a b h K fun b1 h1 eD f1 bY=> ?_
 have f1:=f1.aF
 have z1:=f1.size
 have l1:b1<h1.size:=bY.head.lt
 have gn:=G.len
 refine⟨fun m x p h'=>0<=p/\p+m=(aD.length:Int)/\bL h' (fun k=>h1.size<=k) x ((bP p.toNat a b).map fun p:Nat=>(p:Int))/\Fr (fun k=>h1.size<=k) h1 h',⟨aD.length,Int.le_refl _,by omega,Ow.nil _ _ _ _,Fr.refl _ _⟩,?_⟩
 rintro m pl p h3 ⟨p0,p1,o3,f3⟩ cF
 have g3:=f1.fresh f3 fun k hk=>by omega
 refine⟨fun e=> ?_,fun e=> ?_⟩
 ·have hp:=G.lt e
  have eit:=FV (a:=a) (b:=b) (show p.toNat<p.toNat+1 by omega)
  rw[G.succ p0 hp]
  have next:qk a b p.toNat=false->∃m':Nat,m'<m/\0<=p+1/\p+1+m'=(aD.length:Int)/\bL h3 (fun k=>h1.size<=k) pl ((bP (p+1).toNat a b).map fun p:Nat=>(p:Int))/\Fr (fun k=>h1.size<=k) h1 h3:=fun hi=>by
   rw[show(p+1).toNat=p.toNat+1 by omega,eit,hi]
   exact⟨m-1,by omega,by omega,by omega,o3,f3⟩
  refine⟨fun e2=>⟨fun e3=> ?_,fun e3=>next ?_⟩,fun e2=>next ?_⟩
  ·have e2:=bA e2
   have e3:=bA e3
   simp only[decide_eq_false_iff_not]at e2 e3
   have hi:qk a b p.toNat=true:=kQ.2 ⟨by omega,by omega⟩
   refine pV (lo:=h1.size) o3 f3.size cF (fun p hp=>by simp only[List.mem_cons,List.not_mem_nil,or_false]at hp;subst hp;exact l1) (by rw[List.length_map];unfold bP;have:=List.length_filter_le (qk a b) (List.range p.toNat);rw[List.length_range]at this;omega) _ fun t h4 o4 f4 V4=> ?_
   refine⟨m-1,by omega,by omega,by omega,?_,f3.trans f4⟩
   rw[show(p+1).toNat=p.toNat+1 by omega,eit,hi,if_pos rfl,List.map_append,List.map_cons,List.map_nil,Int.toNat_of_nonneg p0]
   exact o4
  ·have e3:=aX e3
   simp only[decide_eq_true_eq]at e3
   exact Bool.eq_false_iff.2 fun h=>(kQ.1 h).2 (by omega)
  ·have e2:=aX e2
   simp only[decide_eq_true_eq]at e2
   exact Bool.eq_false_iff.2 fun h=>(kQ.1 h).1 (by omega)
 have hp:=G.ge e
 rw[show p.toNat=aD.length by omega]at o3
 have z3:=f3.size
 have rI:aQ (fun k=>k<h3.size) h3 pl ((bP aD.length a b).map fun p:Nat=>(p:Int)):=aQ.low o3.eW
 have NM:∀q,q∈bP aD.length a b->q<aD.length:=fun q hq=>(dY.1 hq).1
 have hMg:∀(i:Nat)(h:i<(bP aD.length a b).length),(qD aD a b).getD i []=dP (bP aD.length a b) (bP aD.length a b)[i] (aD.getD (bP aD.length a b)[i] []) (aD.getD (bP aD.length a b)[i] []).length:=fun i h=>(aS (by rw[(jY aD a b).1];exact h)).trans (List.getElem_map _)
 have ml:=(jY aD a b).1
 have ajj:(bP aD.length a b).length<=8:=by unfold bP;have:=List.length_filter_le (qk a b) (List.range aD.length);rw[List.length_range]at this;omega
 generalize OL:bP aD.length a b=ps at NM hMg ml o3 rI ajj
 have Uz:(ps.map fun p:Nat=>(p:Int)).length=ps.length:=List.length_map _
 have pn:pl.n=ps.length:=by have:=rI.len;rw[Uz]at this;exact this
 refine⟨fun m x i h'=>0<=i/\i+m=(ps.length:Int)/\gQ h' (fun k=>h3.size<=k) x ((qD aD a b).take i.toNat)/\Fr (fun k=>h3.size<=k) h3 h',⟨ps.length,Int.le_refl _,by omega,dR.nil _ _ _ _,Fr.refl _ _⟩,?_⟩
 rintro m2 x i h5 ⟨i0,i1,o5,f5⟩ gj
 have z5:=f5.size
 have g5:=g3.fresh f5 fun k hk=>by have:=g3.size;omega
 have WE:=rI.fr f5 fun k hk aI=>by omega
 refine⟨fun e2=> ?_,fun e2=> ?_⟩
 ·have hi:=WE.lt e2
  have hH:i.toNat<ps.length:=by omega
  have cI:=WE.get i0 hi
  rw[nE]at cI
  have Ip:=NM _ (List.getElem_mem hH)
  have hMi:=hMg i.toNat hH
  generalize ps[i.toNat]' hH=P at cI Ip hMi
  have gm:=aT hg (List.getElem_mem Ip)
  have eg:aD.getD P []=aD[P]:=aS Ip
  rw[eg]at hMi
  have G5:=G.no g5
  obtain⟨sp,cp5,rp5⟩:=G5.get (i:=(P:Int)) (by omega) (by omega)
  simp only[Int.toNat_natCast]at rp5
  have ln:=rp5.len
  have cpk:∀{h':Heap},Fr (fun k=>h5.size<=k) h5 h'->aR h' (g.at (P:Int) 1)=some sp.v:=fun f=>dI cp5 f (by have:=oE cp5;omega)
  have bC:=G5.bC (i:=(P:Int)) (by omega) (by omega)
  have fl:=cP ps P aD[P] (aD[P].length:Int)
  have fg:∀j(h:j<ps.length),(dP ps P aD[P] (aD[P].length:Int))[j]'(by rw[fl];exact h)=(if ps[j]=P then(aD[P].length:Int)else 0)-ff (ps[j]:Nat) aD[P]:=fun j h=>fw _
  generalize hF:dP ps P aD[P] (aD[P].length:Int)=F at hMi fl fg
  refine⟨WE.bC i0 hi,_,cI,?_⟩
  refine eA fu (fun k=>h5.size<=k) (fun _ h=>h) .i64 .i64 pl.n pl.n (Nat.le_refl _) (by omega) fun t h6 n6 c6 o6 f6 m6 _=>⟨t,rfl,gj.aB f6,?_⟩
  have o6:bL h6 (fun k=>h5.size<=k) t (List.replicate ps.length 0):=by
   have e:(List.replicate pl.n [VI 0]).flatten=(List.replicate ps.length (0:Int)).map VI:=by rw[pn];simp[List.flatten_replicate_singleton]
   rw[e]at o6;exact o6
  have off:∀p,p∈[(b1,[g.v])]->¬h5.size<=p.1:=fun p hp=>by
   simp only[List.mem_cons,List.not_mem_nil,or_false]at hp
   subst hp
   show¬h5.size<=b1
   omega
  refine⟨fun m j h'=>0<=j/\j+m=(ps.length:Int)/\bL h' (fun k=>h5.size<=k) t (F.take j.toNat++(List.replicate ps.length (0:Int)).drop j.toNat)/\Fr (fun k=>h5.size<=k) h5 h',⟨ps.length,Int.le_refl _,by omega,by simpa using o6,f6.aB⟩,?_⟩
  rintro m3 j h7 ⟨j0,j1,o7,f7⟩ jA
  have rI7:=WE.fr f7 fun k hk aI=>by omega
  have tl:(F.take j.toNat++(List.replicate ps.length (0:Int)).drop j.toNat).length=ps.length:=by rw[List.length_append,List.length_take,List.length_drop,List.length_replicate];omega
  refine⟨fun e3=> ?_,fun e3=> ?_⟩
  ·have hj:=rI7.lt e3
   have Fm:j.toNat<ps.length:=by omega
   have cJ:=rI7.get j0 hj
   rw[nE]at cJ
   have hFj:=fg j.toNat Fm
   generalize ps[j.toNat]' Fm=Q at cJ hFj
   have mz:=Sb Fm fl
   generalize hT:F.take j.toNat++(List.replicate ps.length (0:Int)).drop j.toNat=T at o7 tl mz
   have jl:j<(T.length:Int):=by omega
   have UD:∀{v:Int}(h:j.toNat<(T.set j.toNat v).length),(T.set j.toNat v)[j.toNat]'h=v:=fun h=>by rw[List.getElem_set];exact if_pos rfl
   refine⟨rI7.bC j0 hj,_,cJ,?_⟩
   refine⟨fun h'=>bL h' (fun k=>h5.size<=k) t (T.set j.toNat (if Q=P then(aD[P].length:Int)else 0))/\Fr (fun k=>h5.size<=k) h5 h',⟨fun e4=> ?_,fun e4=> ?_⟩,?_⟩
   ·simp only[decide_eq_true_eq]at e4
    have R7:=o7.eW
    have hz:T[j.toNat]'(by omega)=0:=by
     have:=UD (v:=0) (by rw[List.length_set];omega)
     rw[<-this]
     congr 1
     exact mz.symm
    refine⟨aQ.bC R7 j0 jl,_,aQ.get R7 j0 jl,bC,sp,cpk f7,fZ (F:=fun k=>h5.size<=k) o7 j0 jl jA off _ fun h8 o8 f8 V8=>⟨?_,f7.trans f8⟩⟩
    rw[if_pos (by omega)]
    rw[hz,aG _ (by omega) (by omega),Int.zero_add,ln]at o8
    exact o8
   ·simp only[decide_eq_false_iff_not]at e4
    refine⟨?_,f7⟩
    rw[if_neg (by omega),mz]
    exact o7
   rintro h9 ⟨o9,f9⟩ fQ
   refine⟨bC,sp,cpk f9,?_⟩
   refine⟨fun m q h'=>0<=q/\q+m=(aD[P].length:Int)/\bL h' (fun k=>h5.size<=k) t (T.set j.toNat ((if Q=P then(aD[P].length:Int)else 0)-ff (Q:Int) (aD[P].take q.toNat)))/\Fr (fun k=>h5.size<=k) h5 h',⟨aD[P].length,Int.le_refl _,by omega,by simpa[ff]using o9,f9⟩,?_⟩
   rintro m4 q dV ⟨q0,q1,mP,f10⟩ dL
   have OO:=rp5.low.fr f10 fun k hk aI=>by omega
   refine⟨fun e5=> ?_,fun e5=> ?_⟩
   ·have hq:=OO.lt e5
    have hc:=OO.get q0 hq
    have tk:aD[P].take (q+1).toNat=_:=dX _ q0 hq
    have so:=pj (a:=(Q:Int)) gm.1 q.toNat
    generalize aD[P][q.toNat]'(by omega)=v at hc tk
    rw[OO.succ q0 hq]
    refine⟨OO.bC q0 hq,_,hc,fun e6=> ?_,fun e6=> ?_⟩
    ·simp only[decide_eq_true_eq]at e6
     have R10:=mP.eW
     have sl:(T.set j.toNat ((if Q=P then(aD[P].length:Int)else 0)-ff (Q:Int) (aD[P].take q.toNat))).length=T.length:=List.length_set
     refine⟨aQ.bC R10 j0 (by omega),_,aQ.get R10 j0 (by omega),fZ (F:=fun k=>h5.size<=k) mP j0 (by omega) dL off _ fun ic lR f11 V11=> ?_⟩
     refine⟨m4-1,by omega,by omega,by omega,?_,f10.trans f11⟩
     rw[tk,gV,if_pos e6]
     rw[List.set_set,UD,aG _ (by split<;>omega) (by split<;>omega)]at lR
     rw[show∀x y:Int,x-(y+1)=x-y-1 by omega]
     exact lR
    ·simp only[decide_eq_false_iff_not]at e6
     refine⟨m4-1,by omega,by omega,by omega,?_,f10⟩
     rw[tk,gV,if_neg e6,Int.add_zero]
     exact mP
   ·have hq:=OO.ge e5
    rw[List.take_of_length_le (by omega),<-hFj,<-hT]at mP
    have sm:=Jt F (List.replicate ps.length (0:Int)) j.toNat (by omega) (by rw[List.length_replicate];omega)
    rw[sm]at mP
    rw[rI7.succ j0 hj]
    refine⟨m3-1,by omega,by omega,by omega,?_,f10⟩
    rw[show(j+1).toNat=j.toNat+1 by omega]
    exact mP
  ·have hj:=rI7.ge e3
   rw[List.take_of_length_le (by omega),List.drop_eq_nil_of_le (by rw[List.length_replicate];omega),List.append_nil]at o7
   have z7:=f7.size
   refine jL (lo:=h3.size) (m:=h5.size) (dR.fr (dR.fW o5) f7 fun k _ hk aI=>by have:=hk.2;omega) o7 z5 z7 jA (fun p hp=>by simp only[List.mem_cons,List.not_mem_nil,or_false]at hp;subst hp;show b1<h3.size;omega) (by rw[List.length_take];omega) _ fun t2 gM NE f12 V12=> ?_
   rw[WE.succ i0 hi]
   refine⟨m2-1,by omega,by omega,by omega,?_,(f5.trans (f7.mono fun k _ hk=>by omega)).trans f12⟩
   rw[show(i+1).toNat=i.toNat+1 by omega,List.take_succ_eq_append_getElem (by omega),<-aS (by omega),hMi]
   exact NE
 ·have hi:=WE.ge e2
  rw[List.take_of_length_le (by omega)]at o5
  rw[OL]at HK
  exact HK pl x h5 (WE.mono fun k hk=>by omega) ((dR.rd o5).mono fun k hk=>hk.2) g5
def Ir(rows:List (List Int))(r:List Int):List Int:=(List.range rows.length).map fun j=>cH rows.length (nD (bS rows) j fun i=>r.getD i 0)
set_option maxHeartbeats 2000000 in
theorem LU{S S2:Nat->Prop}{h:Heap}{m r:Sl}{rows:List (List Int)}{rs:List Int}(M:bU S h m rows)(R:aQ S2 h r rs)(hl:rs.length=rows.length)(Q:Sq rows.length rows)(hn:rows.length<=7)(hb:Small rows.length (bS rows))(hr:∀i,i<rows.length->(rs.getD i 0).natAbs<=10)(K:Value->Heap->Prop)(HK:∀t h',aQ (fun k=>k<h'.size) h' t (Ir rows rs)->Fr No h h'->K (.tuple #[t.v,VI (cH rows.length (bS rows))]) h'):aE Tryz.prog 235 #[m.v,r.v] h K:=by
 refine ahz m r h K ?_
 refine wM rows.length M Q hn hb _ fun h1 f1=>⟨_,rfl,.nil,?_⟩
 have M1:=M.low.no f1
 have R1:=aQ.low R|>.no f1
 have z1:=f1.size
 have sl:(Ir rows rs).length=rows.length:=by unfold Ir;rw[List.length_map,List.length_range]
 refine⟨fun n x k h'=>0<=k/\k+n=(rows.length:Int)/\bL h' (fun q=>h1.size<=q) x ((Ir rows rs).take k.toNat)/\Fr (fun q=>h1.size<=q) h1 h',⟨rows.length,Int.le_refl _,by omega,Ow.nil _ _ _ _,Fr.refl _ _⟩,?_⟩
 rintro n x k h2 ⟨k0,k1,o2,f2⟩ bW
 have M2:=M1.fr f2 fun q hq gK=>by omega
 have R2:=R1.fr f2 fun q hq gK=>by omega
 have z2:=f2.size
 refine⟨fun e=> ?_,fun e=> ?_⟩
 ·have hk:=M2.lt e
  refine⟨fun n x i h'=>0<=i/\i+n=(rows.length:Int)/\gQ h' (fun q=>h2.size<=q) x ((sO rows k.toNat rs).take i.toNat)/\Fr (fun q=>h2.size<=q) h2 h',⟨rows.length,Int.le_refl _,by omega,dR.nil _ _ _ _,Fr.refl _ _⟩,?_⟩
  rintro n2 y i h3 ⟨i0,i1,o3,f3⟩ cF
  have M3:=M2.fr f3 fun q hq gK=>by omega
  have R3:=R2.fr f3 fun q hq gK=>by omega
  have z3:=f3.size
  refine⟨fun e2=> ?_,fun e2=> ?_⟩
  ·have hi:=M3.lt e2
   obtain⟨si,ci,ri⟩:=M3.get i0 hi
   have ajc:=Q.row i.toNat (by omega)
   refine⟨M3.bC i0 hi,si,ci,pT ri (by omega) _ fun t2 h4 o4 f4=>⟨t2,rfl,.nil,?_⟩⟩
   have R4:=R3.no f4
   have z4:=f4.size
   refine⟨R4.bC i0 (by omega),_,R4.get i0 (by omega),fZ (o4.mono (F':=fun q=>h3.size<=q) fun q _ hq=>hq.1) k0 (by omega) .nil (fun p hp=>by simp at hp) _ fun h5 o5 f5 V5=> ?_⟩
   have z5:=f5.size
   refine jL (lo:=h2.size) (m:=h3.size) (dR.fr (dR.fW o3) (f4.aB.trans f5) fun q _ hq gK=>by have:=hq.2;omega) o5 z3 (by omega) .nil (fun p hp=>by simp at hp) (by rw[List.length_take];omega) _ fun t3 h6 o6 f6 V6=> ?_
   rw[M3.succ i0 hi]
   refine⟨n2-1,by omega,by omega,by omega,?_,((f3.trans f4.aB).trans (f5.mono fun q _ hq=>by omega)).trans f6⟩
   rw[show(i+1).toNat=i.toNat+1 by omega,BH (by omega),aN (by omega)]
   exact o6
  ·have hi:=M3.ge e2
   have pl:=kS rows k.toNat rs
   rw[List.take_of_length_le (by omega)]at o3
   refine wM rows.length (dR.rd o3) (Kw Q k.toNat rs) hn (rm Q hb hr) _ fun h4 f4=>⟨_,rfl,.nil,?_⟩
   rw[yv Q]
   have f24:=f3.trans f4.aB
   have z4:=f24.size
   refine pV (lo:=h1.size) ((Ow.fW o2).fr f24 (fun q hq gK=>by have:=(o2.aH hq).2;omega)|>.mono fun q _ hq=>hq.1) (by omega) .nil (fun p hp=>by simp at hp) (by rw[List.length_take];omega) _ fun t5 h5 o5 f5 V5=> ?_
   rw[M2.succ k0 hk]
   refine⟨n-1,by omega,by omega,by omega,?_,(f2.trans (f24.mono fun q _ hq=>by omega)).trans f5⟩
   rw[show(k+1).toNat=k.toNat+1 by omega,List.take_succ_eq_append_getElem (by omega)]
   have:(Ir rows rs)[k.toNat]'(by omega)=cH rows.length (nD (bS rows) k.toNat fun i=>rs.getD i 0):=by
    refine(List.getElem_map (l:=List.range rows.length) _ (h:=by rw[List.length_map,List.length_range];omega)).trans ?_
    rw[List.getElem_range]
   rw[this]
   exact o5
 ·have hk:=M2.ge e
  rw[List.take_of_length_le (by omega)]at o2
  exact HK x h2 (aQ.low o2.eW) (f1.fresh f2 fun q hq=>by omega)
abbrev qm:=Int×Int
def qn:List qm->List Value
 |[]=>[]
 |r::l=>VI r.1::VI r.2::qn l
theorem sT:∀l:List qm,(qn l).length=l.length*2
 |[]=>rfl
 |r::l=>by rw[qn,List.length_cons,List.length_cons,sT l,List.length_cons];omega
theorem FZ:∀(l:List qm)(i:Nat)(h:i<l.length),(qn l)[i*2]?=some (VI l[i].1)/\(qn l)[i*2+1]?=some (VI l[i].2)
 |r::l,0,_=>⟨rfl,rfl⟩
 |r::l,i+1,h=>by
  have:=FZ l i (by simpa using h)
  rw[qn,show(i+1)*2=i*2+1+1 by omega]
  simpa using this
theorem F0:∀(l:List qm)(i:Nat)(x y:Int),((qn l).set (i*2) (VI x)).set (i*2+1) (VI y)=qn (l.set i (x,y))
 |[],i,x,y=>by simp[qn]
 |r::l,0,x,y=>by simp[qn]
 |r::l,i+1,x,y=>by
  rw[qn,show(i+1)*2=i*2+1+1 by omega,List.set_cons_succ,List.set_cons_succ,List.set_cons_succ,List.set_cons_succ,F0 l i x y,List.set_cons_succ,qn]
@[reducible] def OwQ(h:Heap)(F:Nat->Prop)(s:Sl)(l:List qm):Prop:=Ow h F tR 2 s (qn l)
def GU(S:Nat->Prop)(h:Heap)(s:Sl)(l:List qm):Prop:=cK S h 2 s (qn l)
theorem GU.len{S:Nat->Prop}{h:Heap}{s:Sl}{l:List qm}(H:GU S h s l):s.n=l.length:=by
 have:=cK.len H
 rw[sT]at this
 omega
theorem GU.get{S:Nat->Prop}{h:Heap}{s:Sl}{l:List qm}(H:GU S h s l){i:Int}(h0:0<=i)(h1:i<(l.length:Int)):dN s i/\lr h (s.at i 2) [VI (l[i.toNat]'(by omega)).1,VI (l[i.toNat]'(by omega)).2]:=by
 have hl:=GU.len H
 have hn:=sT l
 obtain⟨g1,g2⟩:=FZ l i.toNat (by omega)
 obtain⟨a,ha,_,c1⟩:=cK.cell H (i.toNat*2) (by omega)
 obtain⟨a',GM,_,c2⟩:=cK.cell H (i.toNat*2+1) (by omega)
 rw[ha]at GM
 obtain rfl:a=a':=by simpa using GM
 rw[List.getElem?_eq_getElem (by omega)]at g1 g2
 rw[Option.some.inj g1]at c1
 rw[Option.some.inj g2]at c2
 refine⟨⟨by simp[ha],h0,by omega⟩,fun j hj=> ?_⟩
 have QX:s.at i 2=a.add (i.toNat*2):=by simp[Sl.at,ha]
 rw[QX,xq]
 match j,hj with
 |0,_=>exact c1
 |1,_=>simpa using c2
theorem GU.fr{S T:Nat->Prop}{h h':Heap}{s:Sl}{l:List qm}(H:GU S h s l)(hf:Fr T h h')(hd:∀k,S k->¬T k):GU S h' s l:=cK.fr H hf hd
theorem GU.no{S:Nat->Prop}{h h':Heap}{s:Sl}{l:List qm}(H:GU S h s l)(hf:Fr No h h'):GU S h' s l:=cK.no H hf
theorem GU.low{S:Nat->Prop}{h:Heap}{s:Sl}{l:List qm}(H:GU S h s l):GU (fun k=>k<h.size) h s l:=(cK.lt H).mono fun _ h=>h.2
theorem OP:lq Tryz.prog tR=some 2:=by kernel_rfl
theorem Df{L:List (Nat×List Value)}{F:Nat->Prop}{h:Heap}{s:Sl}{l:List qm}{i:Int}{x y:Int}(O:OwQ h F s l)(h0:0<=i)(h1:i<(l.length:Int))(hL:Vars h L)(qW:∀p,p∈L->¬F p.1)(R:Heap->Prop)(HR:∀h',OwQ h' F s (l.set i.toNat (x,y))->Fr F h h'->Vars h' L->R h'):dN s i/\At Tryz.prog (Instr.storeAt tR (Value.pointer (some (Sl.at s i 2))) (Value.agg #[VI x,VI y])) h fun rv h'=>Vars h' L/\R h':=by
 have hn:=O.len
 rw[sT]at hn
 have hi:i<(s.n:Int):=by omega
 refine⟨O.bC h0 hi,⟨fun w hw=> ?_⟩⟩
 subst hw
 obtain⟨w1,o1,f1⟩:=O.store h0 hi 0 (by omega) (VI x)
 obtain⟨w2,_,_⟩:=O.store h0 hi 1 (by omega) (VI y)
 obtain⟨_,o2,f2⟩:=o1.store h0 hi 1 (by omega) (VI y)
 obtain⟨w',r1,r2,r3⟩:=oD (P:=Tryz.prog) (kH OP w) (a:=s.at i 2) (v:= .agg #[VI x,VI y]) (vs:=[VI x,VI y]) rfl rfl (fun v hv=>by simp only[List.mem_cons,List.not_mem_nil,or_false]at hv;rcases hv with rfl|rfl<;>rfl) (fun j hj=>by
  match j,hj with
  |0,_=>exact⟨w1.cell,w1.free⟩
  |1,_=>exact⟨w2.cell,w2.free⟩)
 refine⟨w',r1,r2,?_⟩
 rw[r3]
 simp only[List.zipIdx_cons,List.zipIdx_nil,List.foldl_cons,List.foldl_nil,Nat.zero_add]
 rw[Nat.add_zero,F0]at o2
 have f:Fr F w.heap _:=(f1.trans f2).mono fun k _ hk=>(O.aH hk).1
 have V:=hL.fr f qW
 exact⟨V,HR _ o2 f V⟩
def o0:Int->Int:=fun _=>0
theorem OQ{d:Int}(h:0<d):jX d d=(1,1):=by
 unfold jX
 rw[Int.gcd_self,show((d.natAbs:Nat):Int)=d by omega,Int.ediv_self (by omega)]
theorem LV{d:Int}(h:0<d):jX 0 d=(0,1):=by
 unfold jX
 rw[Int.gcd_zero_left,show((d.natAbs:Nat):Int)=d by omega,Int.ediv_self (by omega),Int.zero_ediv]
def chR(g:List (List Int))(a b:Int):List qm:=(List.range g.length).map fun q:Nat=>jX (zT g a b q) (jR g a b)
theorem Kx(g:List (List Int))(a b:Int):(chR g a b).length=g.length:=by unfold chR;rw[List.length_map,List.length_range]
theorem Ky{g:List (List Int)}{a b:Int}{q:Nat}(h:q<(chR g a b).length):(chR g a b)[q]=jX (zT g a b q) (jR g a b):=by
 refine(List.getElem_map (l:=List.range g.length) _ (h:=h)).trans ?_
 rw[List.getElem_range]
theorem Can.CC{g:List (List Int)}{a b:Int}(C:Can g a b):∀i,i<(bP g.length a b).length->(Ii g a b o0 1 0 i).natAbs<=10:=fun i hi=>by
 have e:Ii g a b o0 1 0 i=ff a (g.getD ((bP g.length a b).getD i 0) []):=by
  unfold Ii o0
  omega
 have hp:=(dY.1 (List.getElem_mem hi)).1
 have e1:(bP g.length a b).getD i 0=(bP g.length a b)[i]:=by rw[List.getD_eq_getElem?_getD,List.getElem?_eq_getElem hi,Option.getD_some]
 rw[e,e1,aS hp]
 have h1:=jn a g[(bP g.length a b)[i]]
 have h2:=(aT C.bF (List.getElem_mem hp)).1
 omega
theorem Can.Sc{g:List (List Int)}{a b:Int}(C:Can g a b){own:Int->Int}{A B:Int}(hA:A=0\/A=1)(hB:B=0\/B=1)(hr:∀i,i<(bP g.length a b).length->(Ii g a b own A B i).natAbs<=10)(q:Int):(El g a b own A B q).natAbs<=50400000000:=by
 have hd:=C.den
 have gl:=aO C.bF
 have il:=sM C.a0 C.a1 C.b0 C.b1 C.ne
 unfold El
 split
 ·rcases hA with rfl|rfl<;>omega
 ·split
  ·rcases hB with rfl|rfl<;>omega
  ·exact BI C.bF (by omega) hr _
theorem LW{S:Nat->Prop}{h:Heap}{g:Sl}{aD:List (List Int)}(G:bU S h g aD){a b:Int}(C:Can aD a b)(K:Value->Heap->Prop)(HK:∀t h',bL h' (Iv h.size h'.size) t (Da aD a b o0 1 0)->Fr No h h'->K (.tuple #[t.v,VI (jR aD a b)]) h'):aE Tryz.prog 218 #[.agg #[g.v],VI a,VI b] h K:=by
 refine v218 g a b h K fun b1 h1 eD f1 bY=> ?_
 have f1:=f1.aF
 refine OK (G.no f1) C (.func (.func 262) #[] #[]) o0 (.inr rfl) (.inl rfl) (fun p=>⟨Int.le_refl _,by unfold o0;omega⟩) C.CC (fun p h' K' _ _ hk=>ah0 _ _ _ hk) _ fun t h2 o2 f2=>⟨t,_,rfl,bY.aB f2,HK t h2 ?_ (f1.aA f2)⟩
 exact o2.mono fun k _ hk=>⟨Nat.le_trans f1.size hk.1,hk.2⟩
def rK(g:List (List Int))(p a b:Int):qm×Bool:=if(Ig g a b&&iz 0 ((g.length:Int)-1) p)=true then(jX (zT g a b p) (jR g a b),true)else((0,0),false)
theorem vB{S:Nat->Prop}{h:Heap}{g:Sl}{aD:List (List Int)}(G:bU S h g aD)(p a b:Int)(K:Value->Heap->Prop)(HK:∀h',Fr No h h'->K (.tuple #[.agg #[VI (rK aD p a b).1.1,VI (rK aD p a b).1.2],VB (rK aD p a b).2]) h'):aE Tryz.prog 169 #[.agg #[g.v],VI p,VI a,VI b] h K:=by
 refine af6 g p a b h K fun b1 b2 h2 eD dK f2 bW=> ?_
 have f2:=f2.aF
 have box:∀{x y:Heap},Fr No h x->Fr (In [b2]) x y->Fr No h y:=fun f f'=>f.fresh f' fun k hk=>by
  simp only[In,List.mem_cons,List.not_mem_nil,or_false]at hk
  omega
 unfold rK at HK
 refine Oz (G.no f2) a b _ fun h3 f3=>⟨_,rfl,bW.aB f3,fun e=>fun dV f10 _=> ?_,fun e=> ?_⟩
 ·rw[bA e,Bool.false_and]at HK
  exact HK dV (box (f2.aA f3) f10)
 have e:=aX e
 rw[e,Bool.true_and]at HK
 have C:=Oq e
 have hd:=C.den
 have f13:=f2.aA f3
 have cF:=bW.aB f3
 refine aP fu (fun k=>h3.size<=k) (fun _ h=>h) 1 (by omega) [VI p] rfl rfl fun t h4 n4 c4 o4 f4 m4 _=>⟨t,rfl,cF.aB f4,?_⟩
 have o4:aQ (fun k=>h3.size<=k) h4 t [p]:=o4.eW
 refine su (G.no (f13.aA f4)) o4 _ fun h5 f5=>⟨_,rfl,(cF.aB f4).aB f5,fun e2=>fun h6 f6 _=> ?_,fun e2=> ?_⟩
 all_goals simp only[List.all_cons,List.all_nil,Bool.and_true,C.bF,Bool.true_and]at e2
 all_goals have f15:=f13.aA (f4.aA f5)
 ·rw[bA e2]at HK
  exact HK h6 (box f15 f6)
 have e2:=aX e2
 rw[e2,if_pos rfl]at HK
 have pr:=aY.1 e2
 refine LW (G.no f15) C _ fun t h7 o7 f7=>⟨t,_,rfl,((cF.aB f4).aB f5).aB f7,?_⟩
 have r7:aQ _ h7 t (Da aD a b o0 1 0):=Ow.eW o7
 have ol:=FT aD a b o0 1 0
 have hv:=C.Sc (own:=o0) (.inr rfl) (.inl rfl) C.CC p
 refine⟨r7.bC pr.1 (by omega),_,r7.get pr.1 (by omega),?_⟩
 rw[FU,show(((p.toNat:Nat):Int))=p by omega]
 exact R0 _ _ (by omega) (by omega) (by omega) h7 _ fun h8 f8=>⟨_,_,rfl,(((cF.aB f4).aB f5).aB f7).aB f8,fun h9 f9 _=>HK h9 (box (f15.aA (f7.aA f8)) f9)⟩
def qE(n:Nat)(a b:Int)(d:Int)(ps:List Nat)(f:Nat->Int)(k:Nat):List qm:=(List.range n).map fun q:Nat=>if(q:Int)=a then(1,1)else if(q:Int)=b then(0,1)else if ps.idxOf q<k then jX (f (ps.idxOf q)) d else(0,0)
theorem jo(n:Nat)(a b:Int)(d:Int)(ps:List Nat)(f:Nat->Int)(k:Nat):(qE n a b d ps f k).length=n:=by unfold qE;rw[List.length_map,List.length_range]
theorem pZ{n:Nat}{a b d:Int}{ps:List Nat}{f:Nat->Int}{k q:Nat}(h:q<(qE n a b d ps f k).length):(qE n a b d ps f k)[q]=if(q:Int)=a then(1,1)else if(q:Int)=b then(0,1)else if ps.idxOf q<k then jX (f (ps.idxOf q)) d else(0,0):=by
 refine(List.getElem_map (l:=List.range n) _ (h:=h)).trans ?_
 rw[List.getElem_range]
theorem Is{n:Nat}{a b:Int}(d:Int)(ps:List Nat)(f:Nat->Int)(a0:0<=a)(b0:0<=b)(dZ:a≠b):qE n a b d ps f 0=((List.replicate n ((0,0):qm)).set a.toNat (1,1)).set b.toNat (0,1):=by
 apply List.ext_getElem (by rw[jo,List.length_set,List.length_set,List.length_replicate])
 intro q h1 h2
 rw[pZ h1,List.getElem_set,List.getElem_set,List.getElem_replicate]
 by_cases ea:(q:Int)=a
 ·rw[if_pos ea,if_neg (by omega),if_pos (by omega)]
 ·rw[if_neg ea]
  by_cases eb:(q:Int)=b
  ·rw[if_pos eb,if_pos (by omega)]
  ·rw[if_neg eb,if_neg (by omega),if_neg (by omega),if_neg (by omega)]
theorem Iu{n:Nat}{a b:Int}(d:Int)(f:Nat->Int){k:Nat}(hk:k<(bP n a b).length):qE n a b d (bP n a b) f (k+1)=(qE n a b d (bP n a b) f k).set ((bP n a b)[k]) (jX (f k) d):=by
 apply List.ext_getElem (by rw[jo,List.length_set,jo])
 intro q h1 h2
 have h3:q<(qE n a b d (bP n a b) f k).length:=by rw[List.length_set]at h2;exact h2
 have hm:=dY.1 (List.getElem_mem hk)
 rw[pZ h1,List.getElem_set,pZ h3]
 by_cases e:(bP n a b)[k]=q
 ·rw[if_pos e,if_neg (by omega),if_neg (by omega)]
  subst e
  rw[CZ hk,if_pos (by omega)]
 ·rw[if_neg e]
  by_cases ea:(q:Int)=a
  ·rw[if_pos ea,if_pos ea]
  ·rw[if_neg ea,if_neg ea]
   by_cases eb:(q:Int)=b
   ·rw[if_pos eb,if_pos eb]
   ·rw[if_neg eb,if_neg eb]
    have hq:q∈bP n a b:=dY.2 ⟨by rw[jo]at h3;exact h3,ea,eb⟩
    have hi:=List.idxOf_lt_length_iff.2 hq
    by_cases l:(bP n a b).idxOf q<k
    ·rw[if_pos l,if_pos (by omega)]
    ·rw[if_neg l,if_neg]
     intro h
     apply e
     have:(bP n a b).idxOf q=k:=by omega
     subst this
     exact List.getElem_idxOf hi
theorem LX{g:List (List Int)}{a b:Int}(hd:0<jR g a b):qE g.length a b (jR g a b) (bP g.length a b) (vA g a b o0 1 0) (bP g.length a b).length=chR g a b:=by
 apply List.ext_getElem (by rw[jo,Kx])
 intro q h1 h2
 rw[pZ h1,Ky h2]
 unfold zT El
 by_cases ea:(q:Int)=a
 ·rw[if_pos ea,if_pos ea,Int.one_mul,OQ hd]
 ·rw[if_neg ea,if_neg ea]
  by_cases eb:(q:Int)=b
  ·rw[if_pos eb,if_pos eb,Int.zero_mul,LV hd]
  ·rw[if_neg eb,if_neg eb,if_pos]
   ·rfl
   ·exact List.idxOf_lt_length_iff.2 (dY.2 ⟨by rw[jo]at h1;exact h1,ea,eb⟩)
theorem Sd(g:List (List Int))(a b:Int)(own:Int->Int)(A B:Int):Ir (qD g a b) (mF g a b own A B)=(List.range (bP g.length a b).length).map (vA g a b own A B):=by
 unfold Ir
 rw[(jY g a b).1]
 exact List.map_congr_left fun k _=>Il g a b own A B k
set_option maxHeartbeats 4000000 in
theorem Ga{S:Nat->Prop}{h:Heap}{g:Sl}{aD:List (List Int)}(G:bU S h g aD){a b:Int}(C:Can aD a b)(K:Value->Heap->Prop)(HK:∀t h',GU (fun k=>k<h'.size) h' t (chR aD a b)->Fr No h h'->K t.v h'):aE Tryz.prog 186 #[.agg #[g.v],VI a,VI b] h K:=by
 have hg:=C.bF
 have gl:=aO hg
 have dn:=C.den
 have gn:=G.len
 have il:=sM C.a0 C.a1 C.b0 C.b1 C.ne
 refine agx g a b h K fun b1 h1 eD f1 bY=> ?_
 have f1:=f1.aF
 refine Iq (G.no f1) hg a b _ fun pl m h2 P2 M2 f2=>⟨pl,m,rfl,bY.aB f2,?_⟩
 have l1:b1<h1.size:=bY.head.lt
 have z2:=f2.size
 have Fi:=f1.aA f2
 have NM:∀q,q∈bP aD.length a b->q<aD.length:=fun q hq=>(dY.1 hq).1
 have Uz:((bP aD.length a b).map fun p:Nat=>(p:Int)).length=(bP aD.length a b).length:=List.length_map _
 have pn:pl.n=(bP aD.length a b).length:=by have:=P2.len;rw[Uz]at this;exact this
 have rl:=mG aD a b o0 1 0
 have ml:=(jY aD a b).1
 have tD:∀{F:Nat->Prop},(∀k,F k->h2.size<=k)->∀p,p∈[(b1,[g.v])]->¬F p.1:=fun hF p hp hk=>by
  simp only[List.mem_cons,List.not_mem_nil,or_false]at hp
  subst hp
  have:=hF _ hk
  (try simp only at this)
  omega
 refine⟨fun m x i h'=>0<=i/\i+m=((bP aD.length a b).length:Int)/\bL h' (fun k=>h2.size<=k) x ((mF aD a b o0 1 0).take i.toNat)/\Fr (fun k=>h2.size<=k) h2 h',⟨(bP aD.length a b).length,by omega,by omega,Ow.nil _ _ _ _,Fr.refl _ _⟩,?_⟩
 rintro m1 x i h3 ⟨i0,i1,o3,f3⟩ cF
 have P3:=P2.fr f3 fun k hk aI=>by omega
 have M3:=M2.fr f3 fun k hk aI=>by omega
 have z3:=f3.size
 have gr:=Fi.fresh f3 fun k hk=>by have:=Fi.size;omega
 refine⟨fun e=> ?_,fun e=> ?_⟩
 ·have hi:=P3.lt e
  have hH:i.toNat<(bP aD.length a b).length:=by omega
  have cI:=P3.get i0 hi
  rw[nE]at cI
  have Ip:=NM _ (List.getElem_mem hH)
  have hRi:(mF aD a b o0 1 0)[i.toNat]'(by omega)=FQ aD a b o0 1 0 (bP aD.length a b)[i.toNat]:=List.getElem_map _
  generalize (bP aD.length a b)[i.toNat]' hH=Q at cI Ip hRi
  have G3:=G.no gr
  obtain⟨sp,cp,rp⟩:=G3.get (i:=(Q:Int)) (by omega) (by omega)
  simp only[Int.toNat_natCast]at rp
  have gm:=aT hg (List.getElem_mem Ip)
  refine⟨P3.bC i0 hi,_,cI,G3.bC (by omega) (by omega),sp,cp,?_⟩
  refine⟨fun m s j h'=>0<=j/\j+m=(aD[Q].length:Int)/\s=ff a (aD[Q].take j.toNat)/\h'=h3,⟨aD[Q].length,by omega,by omega,rfl,rfl⟩,?_⟩
  rintro m2 s j h4 ⟨j0,j1,rfl,rfl⟩ dS
  refine⟨fun e2=> ?_,fun e2=> ?_⟩
  ·have hj:=rp.lt e2
   have hc:=rp.get j0 hj
   have tk:aD[Q].take (j+1).toNat=_:=dX _ j0 hj
   have so:=pj (a:=a) gm.1 j.toNat
   generalize aD[Q][j.toNat]'(by omega)=v at hc tk
   rw[rp.succ j0 hj]
   refine⟨rp.bC j0 hj,_,hc,fun e3=> ?_,fun e3=> ?_⟩
   ·simp only[decide_eq_true_eq]at e3
    refine⟨m2-1,by omega,by omega,by omega,?_,rfl⟩
    rw[tk,gV,if_pos e3,aG _ (by omega) (by omega)]
   ·simp only[decide_eq_false_iff_not]at e3
    refine⟨m2-1,by omega,by omega,by omega,?_,rfl⟩
    rw[tk,gV,if_neg e3,Int.add_zero]
  ·have hj:=rp.ge e2
   rw[List.take_of_length_le (by omega)]
   refine pV (lo:=h2.size) o3 z3 cF (fun p hp=>by simp only[List.mem_cons,List.not_mem_nil,or_false]at hp;subst hp;show b1<h2.size;omega) (by rw[List.length_take];omega) _ fun t h5 o5 f5 V5=> ?_
   rw[P3.succ i0 hi]
   refine⟨m1-1,by omega,by omega,by omega,?_,f3.trans f5⟩
   rw[show(i+1).toNat=i.toNat+1 by omega,List.take_succ_eq_append_getElem (by omega),hRi]
   have:FQ aD a b o0 1 0 Q=ff a aD[Q]:=by
    unfold FQ o0
    rw[aS Ip]
    omega
   rw[this]
   exact o5
 ·have hi:=P3.ge e
  rw[List.take_of_length_le (by omega)]at o3
  have hQ':Sq (qD aD a b).length (qD aD a b):=by rw[ml];exact(jY aD a b).2
  have hS':Small (qD aD a b).length (bS (qD aD a b)):=by rw[ml];exact uh hg a b
  refine LU M3 (Ow.eW o3:aQ _ h3 x _) (by omega) hQ' (by omega) hS' (fun i hi=>by rw[sN aD a b o0 1 0 (by omega)];exact C.CC i (by omega)) _ fun t h7 S7 f7=>⟨t,_,rfl,cF.aB f7,?_⟩
  rw[Sd]at S7
  rw[ml,Kv]
  have z7:=f7.size
  have jA:=cF.aB f7
  refine eA rRs (fun k=>h7.size<=k) (fun _ h=>h) .i64 .i64 g.n g.n (Nat.le_refl _) (by omega) fun u h8 n8 c8 o8 f8 m8 _=>⟨u,rfl,jA.aB f8,?_⟩
  have z8:=f8.size
  have Vx:OwQ h8 (fun k=>h7.size<=k) u (List.replicate aD.length (0,0)):=by
   have e:(List.replicate g.n [VI 0,VI 0]).flatten=qn (List.replicate aD.length (0,0)):=by
    rw[gn]
    generalize aD.length=n
    induction n with
    |zero=>rfl
    |succ n ih=>rw[List.replicate_succ,List.flatten_cons,ih,List.replicate_succ,qn];rfl
   rw[e]at o8
   exact o8
  have WG:=tD (F:=fun k=>h7.size<=k) fun k hk=>by omega
  refine Df (L:=[(b1,[g.v])]) (F:=fun k=>h7.size<=k) (x:=1) (y:=1) Vx C.a0 (by rw[List.length_replicate];exact C.a1) (jA.aB f8) WG _ fun h9 o9 f9 V9=> ?_
  refine Df (L:=[(b1,[g.v])]) (F:=fun k=>h7.size<=k) (x:=0) (y:=1) o9 C.b0 (by rw[List.length_set,List.length_replicate];exact C.b1) V9 WG _ fun dV mP f10 V10=> ?_
  rw[<-Is (jR aD a b) (bP aD.length a b) (vA aD a b o0 1 0) C.a0 C.b0 C.ne]at mP
  refine⟨fun m k h'=>0<=k/\k+m=((bP aD.length a b).length:Int)/\OwQ h' (fun q=>h7.size<=q) u (qE aD.length a b (jR aD a b) (bP aD.length a b) (vA aD a b o0 1 0) k.toNat)/\Fr (fun q=>h7.size<=q) h8 h',⟨(bP aD.length a b).length,by omega,by omega,mP,f9.trans f10⟩,?_⟩
  rintro m3 k ic ⟨k0,k1,lR,f11⟩ iA
  have P11:=((P3.no f7).no f8).fr f11 fun q hq gK=>by omega
  have S11:=(S7.no f8).fr f11 fun q hq gK=>by omega
  refine⟨fun e3=> ?_,fun e3=> ?_⟩
  ·have hk:=P11.lt e3
   have Qo:k.toNat<(bP aD.length a b).length:=by omega
   have cI:=P11.get k0 hk
   rw[nE]at cI
   have Ip:=NM _ (List.getElem_mem Qo)
   have Wy:=Iu (jR aD a b) (vA aD a b o0 1 0) Qo
   have cS:=S11.get (i:=k) k0 (by rw[List.length_map,List.length_range];omega)
   have eS:((List.range (bP aD.length a b).length).map (vA aD a b o0 1 0))[k.toNat]'(by rw[List.length_map,List.length_range];omega)=vA aD a b o0 1 0 k.toNat:=by rw[List.getElem_map,List.getElem_range]
   rw[eS]at cS
   have hcb:=BI hg (a:=a) (b:=b) (by omega) C.CC k.toNat
   refine⟨P11.bC k0 hk,_,cI,S11.bC k0 (by rw[List.length_map,List.length_range];omega),_,cS,LI _ _ (by omega) (by omega) (by omega) ic _ fun gM f12=>⟨_,_,rfl,iA.aB f12,?_⟩⟩
   refine Df (L:=[(b1,[g.v])]) (F:=fun q=>h7.size<=q) (lR.no f12) (i:=(((bP aD.length a b)[k.toNat]' Qo:Nat):Int)) (by omega) (by rw[jo];omega) (iA.aB f12) WG _ fun qT LF f13 V13=> ?_
   rw[P11.succ k0 hk]
   refine⟨m3-1,by omega,by omega,by omega,?_,f11.trans (f12.aB.trans f13)⟩
   rw[show(k+1).toNat=k.toNat+1 by omega,Wy]
   simp only[Int.toNat_natCast]at LF
   exact LF
  ·have hk:=P11.ge e3
   rw[show k.toNat=(bP aD.length a b).length by omega,LX (by omega)]at lR
   exact HK u ic (GU.low lR.eW) ((gr.aA (f7.aA f8)).fresh f11 fun q hq=>by have:=gr.size;omega)
theorem mH{S:Nat->Prop}{h:Heap}{g:Sl}{aD:List (List Int)}(G:bU S h g aD)(p a b:Int)(K:Value->Heap->Prop)(HK:∀h',Fr No h h'->K (.tuple #[.agg #[VI (rK aD p a b).1.1,VI (rK aD p a b).1.2],VB (rK aD p a b).2]) h'):aE Tryz.prog 139 #[.agg #[g.v],VI p,VI a,VI b] h K:=by
 refine v139 g p a b h K fun b1 b2 h2 eD dK f2 bW=> ?_
 have f2:=f2.aF
 have box:∀{x y:Heap},Fr No h x->Fr (In [b2]) x y->Fr No h y:=fun f f'=>f.fresh f' fun k hk=>by
  simp only[In,List.mem_cons,List.not_mem_nil,or_false]at hk
  omega
 unfold rK at HK
 refine OA (G.no f2) a b _ fun h3 f3=>⟨_,rfl,bW.aB f3,fun e=>fun dV f10 _=> ?_,fun e=> ?_⟩
 ·rw[bA e,Bool.false_and]at HK
  exact HK dV (box (f2.aA f3) f10)
 have e:=aX e
 rw[e,Bool.true_and]at HK
 have C:=Oq e
 have hd:=C.den
 have f13:=f2.aA f3
 have cF:=bW.aB f3
 refine cQ (G.no f13) p _ fun h5 f5=>⟨_,rfl,cF.aB f5,fun e2=>fun h6 f6 _=> ?_,fun e2=> ?_⟩
 all_goals simp only[C.bF,Bool.true_and]at e2
 all_goals have f15:=f13.aA f5
 ·rw[bA e2]at HK
  exact HK h6 (box f15 f6)
 have e2:=aX e2
 rw[e2,if_pos rfl]at HK
 have pr:=aY.1 e2
 refine Ga (G.no f15) C _ fun t h7 Q7 f7=>⟨t,rfl,(cF.aB f5).aB f7,?_⟩
 obtain⟨ib,cc⟩:=Q7.get (i:=p) pr.1 (by rw[Kx];omega)
 rw[Ky,show(((p.toNat:Nat):Int))=p by omega]at cc
 exact⟨ib,_,_,cc,fun h9 f9 _=>HK h9 (box (f15.aA f7) f9)⟩
def WH(g:List (List Int))(s:Int):Bool:=aM g&&iz 0 ((g.length:Int)-1) s
theorem UE{g:List (List Int)}{s:Int}(h:WH g s=true):aM g=true/\0<=s/\s<(g.length:Int):=by
 obtain⟨a,b⟩:=Bool.and_eq_true_iff.1 h
 have:=aY.1 b
 exact⟨a,this.1,by omega⟩
def ry(g:List (List Int))(s:Int):Int×Bool:=if WH g s then(ue g s,true)else(0,false)
theorem Dg{S:Nat->Prop}{h:Heap}{g:Sl}{aD:List (List Int)}(G:bU S h g aD)(s:Int)(K:Value->Heap->Prop)(HK:∀h',Fr No h h'->K (.tuple #[VI (ry aD s).1,VB (ry aD s).2]) h'):aE Tryz.prog 165 #[.agg #[g.v],VI s] h K:=by
 refine af0 g s h K fun b1 h2 eD f2 bW=> ?_
 have f2:=f2.aF
 refine aP fu (fun k=>h2.size<=k) (fun _ h=>h) 1 (by omega) [VI s] rfl rfl fun t h3 n3 c3 o3 f3 m3 _=>⟨t,rfl,bW.aB f3,?_⟩
 have r3:aQ (fun k=>h2.size<=k) h3 t [s]:=o3.eW
 have gr:=f2.aA f3
 refine su (G.no gr) r3 _ fun h4 f4=>⟨_,rfl,(bW.aB f3).aB f4,fun e=> ?_,fun e=> ?_⟩
 all_goals simp only[List.all_cons,List.all_nil,Bool.and_true]at e
 all_goals have jh:=gr.aA f4
 ·have er:ry aD s=(0,false):=by unfold ry WH;rw[bA e];rfl
  rw[er]at HK
  exact HK h4 jh
 have e:WH aD s=true:=aX e
 obtain⟨hg,s0,s1⟩:=UE e
 have gl:=aO hg
 have er:ry aD s=(ue aD s,true):=by unfold ry;rw[if_pos e]
 rw[er]at HK
 obtain⟨ll,Q⟩:=Ie s0 s1
 refine LH (G.no jh) hg s0 s1 _ fun t5 h5 o5 f5=>⟨t5,rfl,((bW.aB f3).aB f4).aB f5,?_⟩
 refine lU (dR.rd o5) (by rw[ll];exact Q) (by omega) (by rw[ll];exact BE hg s0 s1) _ fun h6 f6=>⟨_,rfl,(((bW.aB f3).aB f4).aB f5).aB f6,?_⟩
 rw[ll]
 exact HK h6 (jh.aA (f5.aA f6))
theorem sU{S:Nat->Prop}{h:Heap}{g:Sl}{aD:List (List Int)}(G:bU S h g aD)(s:Int)(K:Value->Heap->Prop)(HK:∀h',Fr No h h'->K (.tuple #[VI (ry aD s).1,VB (ry aD s).2]) h'):aE Tryz.prog 137 #[.agg #[g.v],VI s] h K:=by
 refine afx g s h K fun b1 h2 eD f2 bW=> ?_
 have f2:=f2.aF
 refine cQ (G.no f2) s _ fun h4 f4=>⟨_,rfl,bW.aB f4,fun e=> ?_,fun e=> ?_⟩
 all_goals have jh:=f2.aA f4
 ·have er:ry aD s=(0,false):=by unfold ry WH;rw[bA e];rfl
  rw[er]at HK
  exact HK h4 jh
 have e:WH aD s=true:=aX e
 obtain⟨hg,s0,s1⟩:=UE e
 have gl:=aO hg
 have er:ry aD s=(ue aD s,true):=by unfold ry;rw[if_pos e]
 rw[er]at HK
 obtain⟨ll,Q⟩:=Ie s0 s1
 refine FI (G.no jh) hg s0 s1 _ fun t5 h5 o5 f5=>⟨t5,rfl,(bW.aB f4).aB f5,?_⟩
 refine wM (aD.length-1) (dR.rd o5) Q (by omega) (BE hg s0 s1) _ fun h6 f6=>⟨_,rfl,((bW.aB f4).aB f5).aB f6,?_⟩
 exact HK h6 (jh.aA (f5.aA f6))
theorem yz{g:List (List Int)}:∀(m:Nat)(t:List Int)(s:St)(t':List Int)(s':St),runT g nO m t s=some (t',s')->t'.length=t.length+m
 |0,t,s,t',s',h=>by
  simp only[runT,Option.some.injEq,Prod.mk.injEq]at h
  rw[h.1]
  rfl
 |m+1,t,s,t',s',h=>by
  rw[runT]at h
  split at h
  ·cases h
  ·have:=yz m _ _ _ _ h
   simp[nO]at this
   omega
theorem Se{F:Nat->Prop}{b b':Nat}{h:Heap}{o w:Sl}{ps:List Int}{q:Int}(V:dC h b [o.v])(V':dC h b' [w.v,VI q])(Sf:b'≠b)(O:bL h F o ps)(U5:∀k,h.size<=k->F k)(hb:¬o.own b)(hb':¬o.own b')(hn:ps.length<=1000000)(x:Int)(K:Value->Heap->Prop)
 (HK:∀h' o' v,dC h' b [o'.v]->bL h' F o' (ps++[q])->(∀k,o'.own k->o.own k\/h.size<=k)->Fr (fun k=>k=b\/o.own k) h h'->K v h'):fC Tryz.prog (.func (.func 208) #[] #[VP b 0,VP b' 0]) [VI x] h K:=by
 refine v208 x b o b' w q h K (.cons V (by simpa using Sf) (.cons V' (by simp) .nil)) ?_
 refine aP fu (fun k=>h.size<=k) (fun _ h=>h) 1 (by omega) [VI q] rfl rfl fun v h1 n1 c1 o1 f1 m1 _=>⟨v,rfl,.cons (V.fr f1 fun h=>h) (by simpa using Sf) (.cons (V'.fr f1 fun h=>h) (by simp) .nil),?_⟩
 have z1:=f1.size
 have o1:aQ v.own h1 v [q]:=o1.rd
 have O1:=Ow.no O f1
 refine bM fu O1 (fun k hk=>U5 k (by omega)) o1 (fe _) (by have h1:=aQ.len O1.eW;have h2:=o1.len;simp at h2;omega) fun y h2 n2 o2 f2 d2=>⟨y,rfl,.cons ((V.fr f1 fun h=>h).fr f2 hb) (by simpa using Sf) (.cons ((V'.fr f1 fun h=>h).fr f2 hb') (by simp) .nil),fun h3 f3 cF=> ?_⟩
 rw[<-List.map_append]at o2
 have hbl:=V.lt
 have Vj:∀k,In [b] k->k=b:=fun k hk=>by simpa[In]using hk
 have hyb:¬y.own b:=fun hk=>by
  rcases d2 b hk with h1|h1
  ·exact hb h1
  ·omega
 refine HK h3 y _ cF.head (Ow.fr o2 f3 fun k hk aI=>hyb (by have:=Vj k aI;subst this;exact hk)) (fun k hk=>(d2 k hk).imp id fun h=>by omega) ?_
 exact(f1.aB.trans (f2.mono fun k _ hk=> .inr hk)).trans (f3.mono fun k _ hk=> .inl (Vj k hk))
theorem yA{S S':Nat->Prop}{h:Heap}{g w:Sl}{aD:List (List Int)}{rs:List Int}(G:bU S h g aD)(H:aQ S' h w rs)(p n:Int)(K:Value->Heap->Prop)(HK:∀t h',bL h' (Iv h.size h'.size) t (iJ aD rs p n).1->Fr No h h'->K (.tuple #[t.v,VB (iJ aD rs p n).2]) h'):aE Tryz.prog 162 #[.agg #[g.v],.agg #[w.v,VI p],VI n] h K:=by
 refine v162 g w p n h K fun b1 b2 h2 eD dK f2 bW=> ?_
 have f2:=f2.aF
 have no:iJ aD rs p n=([],false)->∀h',Fr No h h'->K (.tuple #[aC.v,VB false]) h':=fun e h' f=>by
  have:=HK aC h' (by rw[e];exact Ow.nil _ _ _ _) f
  rw[e]at this
  exact this
 refine CB (G.no f2) (H.no f2) p n 200 _ fun h3 f3=>⟨_,rfl,bW.aB f3,fun e=> ?_,fun e=> ?_⟩
 ·exact no (by unfold iJ;rw[if_neg (by rw[bA e];simp)]) _ (f2.aA f3)
 have e:=aX e
 have e2:iJ aD rs p n=match runT aD nO n.toNat [p] (rs,p)with
  |none=>([],false)
  |some (t,_)=>(t,true):=by unfold iJ;exact if_pos e
 rw[Bool.and_eq_true,aY]at e
 have W:=cV e.1
 have Rm:=aO W.bF
 have gr:=f2.aA f3
 have z03:=gr.size
 have hL:=bW.aB f3
 have l2:b2<h3.size:=hL.head.lt
 have l1:b1<h3.size:=hL.tail.head.lt
 have fj:Fr No h3 h3:=Fr.refl _ _
 have cp:∀{h1:Heap}{K:Value->Heap->Prop},Fr No h3 h1->(∀t h2,bL h2 (Iv h1.size h2.size) t rs->Fr No h1 h2->K (.agg #[t.v,VI p]) h2)->aE Tryz.prog 110 #[.agg #[w.v,VI p]] h1 K:=fun f HK=>ij ((H.no gr).no f) p (by have:=W.len;simp only at this;omega) _ HK
 have lit:∀{h1:Heap}{K:Value->Heap->Prop},Fr No h3 h1->(∀t h2,bL h2 (Iv h1.size h2.size) t [p]->Fr No h1 h2->K t.v h2)->iU Tryz.prog (Instr.buildSlice lP 1 #[(0,VI p)]) h1 K:=fun _ HK=>aP fu (fun k=>_<=k) (fun _ h=>h) 1 (by omega) [VI p] rfl rfl fun t h2 n2 c2 o2 f2 m2 _=>HK t h2 (Ow.fW o2) f2
 refine⟨fun bN xw xp bO xo h'=>xp=p/\∃i1 j1 i2 j2,bL h' (Iv i1 j1) xw rs/\bL h' (Iv i2 j2) xo [p]/\(j1<=i2\/j2<=i1)/\(bN<i1\/j1<=bN)/\(bN<i2\/j2<=bN)/\(bO<i1\/j1<=bO)/\(bO<i2\/j2<=bO)/\h3.size<=i1/\h3.size<=i2/\h3.size<=bN/\h3.size<=bO/\j1<=h'.size/\j2<=h'.size/\bN≠bO/\Fr No h3 h',?_,?_⟩
 ·refine⟨?_,?_,?_,?_⟩
  ·refine cp fj fun u_1 nV dW Si=>⟨u_1,_,rfl,hL.aB Si,?_⟩
   replace hL:=hL.aB Si
   have acp:=Si.size
   replace fj:=fj.aA Si
   refine⟨?_,?_,?_⟩
   ·refine lit fj fun u_2 Sj LY OR=>⟨u_2,rfl,hL.aB OR,?_⟩
    replace hL:=hL.aB OR
    have acq:=OR.size
    replace dW:=dW.no OR
    replace fj:=fj.aA OR
    refine⟨?_,?_⟩
    ·intro jM LZ Sk WI WJ L1 hL
     have WL:jM<Sk.size:=(hL.tail).head.lt
     have WM:LZ<Sk.size:=(hL).head.lt
     have WN:jM≠LZ:=hL.ne (jM,_) List.mem_cons_self
     replace L1:=L1.aF
     have acr:=L1.size
     replace dW:=dW.no L1
     replace LY:=LY.no L1
     replace fj:=fj.aA L1
     exact⟨rfl,h3.size,nV.size,nV.size,Sj.size,dW,LY,by omega,by omega,by omega,by omega,by omega,by omega,by omega,by omega,by omega,by omega,by omega,by omega,fj⟩
    ·intro Kz L2 sV WQ WR L3 hL
     have WS:Kz<sV.size:=(hL.tail).head.lt
     have WT:L2<sV.size:=(hL).head.lt
     have WU:Kz≠L2:=hL.ne (Kz,_) List.mem_cons_self
     replace L3:=L3.aF
     have acs:=L3.size
     replace dW:=dW.no L3
     replace LY:=LY.no L3
     replace fj:=fj.aA L3
     exact⟨rfl,h3.size,nV.size,nV.size,Sj.size,dW,LY,by omega,by omega,by omega,by omega,by omega,by omega,by omega,by omega,by omega,by omega,by omega,by omega,fj⟩
   ·intro Qs rz WV OS hL
    have WW:Qs<rz.size:=(hL).head.lt
    replace OS:=OS.aF
    have acu:=OS.size
    replace dW:=dW.no OS
    replace fj:=fj.aA OS
    refine⟨?_,?_⟩
    ·refine lit fj fun u_6 WX WY OT=>⟨u_6,rfl,hL.aB OT,?_⟩
     replace hL:=hL.aB OT
     have acv:=OT.size
     replace dW:=dW.no OT
     replace fj:=fj.aA OT
     intro qo WZ Sm L4 hL
     have Sn:qo<WZ.size:=(hL).head.lt
     replace L4:=L4.cB (lo:=nV.size) (hi:=rz.size) ⟨⟨by omega,by omega⟩,trivial⟩
     have acw:=L4.size
     replace dW:=dW.iv L4 (by omega)
     replace WY:=WY.iv L4 (by omega)
     replace fj:=fj.aJ L4 (by omega)
     exact⟨rfl,h3.size,nV.size,rz.size,WX.size,dW,WY,by omega,by omega,by omega,by omega,by omega,by omega,by omega,by omega,by omega,by omega,by omega,by omega,fj⟩
    ·intro um yB Sr OU hL
     have Ss:um<yB.size:=(hL).head.lt
     replace OU:=OU.aF
     have acx:=OU.size
     replace dW:=dW.no OU
     replace fj:=fj.aA OU
     refine⟨?_,?_⟩
     ·refine lit fj fun u_9 W4 Su OV=>⟨u_9,rfl,hL.aB OV,?_⟩
      replace hL:=hL.aB OV
      have acy:=OV.size
      replace dW:=dW.no OV
      replace fj:=fj.aA OV
      intro Sa Dh hL
      have Xa:=Dh.size
      replace dW:=dW.fr Dh fun k hk aI=>by have h1:=(dW.aH hk).1;have h2:=h1.1;have h3:=h1.2;simp only[In,List.mem_cons,List.not_mem_nil,or_false]at aI;omega
      replace Su:=Su.fr Dh fun k hk aI=>by have h1:=(Su.aH hk).1;have h2:=h1.1;have h3:=h1.2;simp only[In,List.mem_cons,List.not_mem_nil,or_false]at aI;omega
      replace fj:=fj.fresh Dh fun k hk=>by simp only[In,List.mem_cons,List.not_mem_nil,or_false]at hk;omega
      exact⟨rfl,h3.size,nV.size,yB.size,W4.size,dW,Su,by omega,by omega,by omega,by omega,by omega,by omega,by omega,by omega,by omega,by omega,by omega,by omega,fj⟩
     ·intro FW yC hL
      replace yC:=yC.cB (lo:=nV.size) (hi:=rz.size) ⟨⟨by omega,by omega⟩,trivial⟩
      have Xb:=yC.size
      replace dW:=dW.iv yC (by omega)
      replace fj:=fj.aJ yC (by omega)
      refine lit fj fun Xc uj Iw yD=>⟨Xc,rfl,hL.aB yD,?_⟩
      replace hL:=hL.aB yD
      have Xd:=yD.size
      replace dW:=dW.no yD
      replace fj:=fj.aA yD
      intro OD uo hL
      replace uo:=uo.cB (lo:=rz.size) (hi:=yB.size) ⟨⟨by omega,by omega⟩,trivial⟩
      have Xe:=uo.size
      replace dW:=dW.iv uo (by omega)
      replace Iw:=Iw.iv uo (by omega)
      replace fj:=fj.aJ uo (by omega)
      exact⟨rfl,h3.size,nV.size,FW.size,uj.size,dW,Iw,by omega,by omega,by omega,by omega,by omega,by omega,by omega,by omega,by omega,by omega,by omega,by omega,fj⟩
   ·intro Aj lW Sv yE hL
    have Sx:Aj<lW.size:=(hL).head.lt
    replace yE:=yE.aF
    have Xf:=yE.size
    replace dW:=dW.no yE
    replace fj:=fj.aA yE
    refine⟨?_,?_⟩
    ·refine lit fj fun Xg Db Ix yF=>⟨Xg,rfl,hL.aB yF,?_⟩
     replace hL:=hL.aB yF
     have Xh:=yF.size
     replace dW:=dW.no yF
     replace fj:=fj.aA yF
     intro lX sR Sy uq hL
     have Sz:lX<sR.size:=(hL).head.lt
     replace uq:=uq.cB (lo:=nV.size) (hi:=lW.size) ⟨⟨by omega,by omega⟩,trivial⟩
     have Xi:=uq.size
     replace dW:=dW.iv uq (by omega)
     replace Ix:=Ix.iv uq (by omega)
     replace fj:=fj.aJ uq (by omega)
     exact⟨rfl,h3.size,nV.size,lW.size,Db.size,dW,Ix,by omega,by omega,by omega,by omega,by omega,by omega,by omega,by omega,by omega,by omega,by omega,by omega,fj⟩
    ·intro lc sS SA yG hL
     have SB:lc<sS.size:=(hL).head.lt
     replace yG:=yG.aF
     have Xj:=yG.size
     replace dW:=dW.no yG
     replace fj:=fj.aA yG
     refine⟨?_,?_⟩
     ·refine lit fj fun Xk yy Di yH=>⟨Xk,rfl,hL.aB yH,?_⟩
      replace hL:=hL.aB yH
      have Xl:=yH.size
      replace dW:=dW.no yH
      replace fj:=fj.aA yH
      intro De Dm hL
      have Xm:=Dm.size
      replace dW:=dW.fr Dm fun k hk aI=>by have h1:=(dW.aH hk).1;have h2:=h1.1;have h3:=h1.2;simp only[In,List.mem_cons,List.not_mem_nil,or_false]at aI;omega
      replace Di:=Di.fr Dm fun k hk aI=>by have h1:=(Di.aH hk).1;have h2:=h1.1;have h3:=h1.2;simp only[In,List.mem_cons,List.not_mem_nil,or_false]at aI;omega
      replace fj:=fj.fresh Dm fun k hk=>by simp only[In,List.mem_cons,List.not_mem_nil,or_false]at hk;omega
      exact⟨rfl,h3.size,nV.size,sS.size,yy.size,dW,Di,by omega,by omega,by omega,by omega,by omega,by omega,by omega,by omega,by omega,by omega,by omega,by omega,fj⟩
     ·intro Iy yI hL
      replace yI:=yI.cB (lo:=lW.size) (hi:=sS.size) ⟨⟨by omega,by omega⟩,trivial⟩
      have Xn:=yI.size
      replace dW:=dW.iv yI (by omega)
      replace fj:=fj.aJ yI (by omega)
      refine lit fj fun Xo Gb Iz yJ=>⟨Xo,rfl,hL.aB yJ,?_⟩
      replace hL:=hL.aB yJ
      have Xp:=yJ.size
      replace dW:=dW.no yJ
      replace fj:=fj.aA yJ
      intro OW ur hL
      replace ur:=ur.cB (lo:=nV.size) (hi:=lW.size) ⟨⟨by omega,by omega⟩,trivial⟩
      have Xq:=ur.size
      replace dW:=dW.iv ur (by omega)
      replace Iz:=Iz.iv ur (by omega)
      replace fj:=fj.aJ ur (by omega)
      exact⟨rfl,h3.size,nV.size,Iy.size,Gb.size,dW,Iz,by omega,by omega,by omega,by omega,by omega,by omega,by omega,by omega,by omega,by omega,by omega,by omega,fj⟩
  ·refine lit fj fun Xr jZ bX Dn=>⟨Xr,rfl,hL.aB Dn,?_⟩
   replace hL:=hL.aB Dn
   have Xs:=Dn.size
   replace fj:=fj.aA Dn
   refine⟨?_,?_,?_⟩
   ·refine cp fj fun Xt Dp uu yK=>⟨Xt,_,rfl,hL.aB yK,?_⟩
    replace hL:=hL.aB yK
    have Xu:=yK.size
    replace bX:=bX.no yK
    replace fj:=fj.aA yK
    refine⟨?_,?_⟩
    ·intro rA vT Dq SC SD uv hL
     have SE:rA<Dq.size:=(hL.tail).head.lt
     have SG:vT<Dq.size:=(hL).head.lt
     have SH:rA≠vT:=hL.ne (rA,_) List.mem_cons_self
     replace uv:=uv.aF
     have Xv:=uv.size
     replace bX:=bX.no uv
     replace uu:=uu.no uv
     replace fj:=fj.aA uv
     exact⟨rfl,jZ.size,Dp.size,h3.size,jZ.size,uu,bX,by omega,by omega,by omega,by omega,by omega,by omega,by omega,by omega,by omega,by omega,by omega,by omega,fj⟩
    ·intro rB vU Dr SI SJ uw hL
     have SK:rB<Dr.size:=(hL.tail).head.lt
     have SL:vU<Dr.size:=(hL).head.lt
     have SM:rB≠vU:=hL.ne (rB,_) List.mem_cons_self
     replace uw:=uw.aF
     have Xw:=uw.size
     replace bX:=bX.no uw
     replace uu:=uu.no uw
     replace fj:=fj.aA uw
     exact⟨rfl,jZ.size,Dp.size,h3.size,jZ.size,uu,bX,by omega,by omega,by omega,by omega,by omega,by omega,by omega,by omega,by omega,by omega,by omega,by omega,fj⟩
   ·intro Xx Ak SN yL hL
    have SO:Xx<Ak.size:=(hL).head.lt
    replace yL:=yL.aF
    have Xy:=yL.size
    replace bX:=bX.no yL
    replace fj:=fj.aA yL
    refine⟨?_,?_⟩
    ·refine cp fj fun Xz IA IB yM=>⟨Xz,_,rfl,hL.aB yM,?_⟩
     replace hL:=hL.aB yM
     have XA:=yM.size
     replace bX:=bX.no yM
     replace fj:=fj.aA yM
     intro XB XC SP ux hL
     have SQ:XB<XC.size:=(hL).head.lt
     replace ux:=ux.cB (lo:=jZ.size) (hi:=Ak.size) ⟨⟨by omega,by omega⟩,trivial⟩
     have XD:=ux.size
     replace bX:=bX.iv ux (by omega)
     replace IB:=IB.iv ux (by omega)
     replace fj:=fj.aJ ux (by omega)
     exact⟨rfl,Ak.size,IA.size,h3.size,jZ.size,IB,bX,by omega,by omega,by omega,by omega,by omega,by omega,by omega,by omega,by omega,by omega,by omega,by omega,fj⟩
    ·intro XE OX SR yN hL
     have SS:XE<OX.size:=(hL).head.lt
     replace yN:=yN.aF
     have XF:=yN.size
     replace bX:=bX.no yN
     replace fj:=fj.aA yN
     refine cp fj fun XG XH Ds yO=>⟨XG,_,rfl,hL.aB yO,?_⟩
     replace hL:=hL.aB yO
     have XI:=yO.size
     replace bX:=bX.no yO
     replace fj:=fj.aA yO
     intro ajr Dt hL
     have XJ:=Dt.size
     replace bX:=bX.fr Dt fun k hk aI=>by have h1:=(bX.aH hk).1;have h2:=h1.1;have h3:=h1.2;simp only[In,List.mem_cons,List.not_mem_nil,or_false]at aI;omega
     replace Ds:=Ds.fr Dt fun k hk aI=>by have h1:=(Ds.aH hk).1;have h2:=h1.1;have h3:=h1.2;simp only[In,List.mem_cons,List.not_mem_nil,or_false]at aI;omega
     replace fj:=fj.fresh Dt fun k hk=>by simp only[In,List.mem_cons,List.not_mem_nil,or_false]at hk;omega
     exact⟨rfl,OX.size,XH.size,h3.size,jZ.size,Ds,bX,by omega,by omega,by omega,by omega,by omega,by omega,by omega,by omega,by omega,by omega,by omega,by omega,fj⟩
   ·intro XK IC SU yP hL
    have SV:XK<IC.size:=(hL).head.lt
    replace yP:=yP.aF
    have XL:=yP.size
    replace bX:=bX.no yP
    replace fj:=fj.aA yP
    refine⟨?_,?_⟩
    ·refine cp fj fun XM XN ID yQ=>⟨XM,_,rfl,hL.aB yQ,?_⟩
     replace hL:=hL.aB yQ
     have XO:=yQ.size
     replace bX:=bX.no yQ
     replace fj:=fj.aA yQ
     intro XP XQ SW uy hL
     have SX:XP<XQ.size:=(hL).head.lt
     replace uy:=uy.cB (lo:=jZ.size) (hi:=IC.size) ⟨⟨by omega,by omega⟩,trivial⟩
     have XR:=uy.size
     replace bX:=bX.iv uy (by omega)
     replace ID:=ID.iv uy (by omega)
     replace fj:=fj.aJ uy (by omega)
     exact⟨rfl,IC.size,XN.size,h3.size,jZ.size,ID,bX,by omega,by omega,by omega,by omega,by omega,by omega,by omega,by omega,by omega,by omega,by omega,by omega,fj⟩
    ·intro XS OY SY yR hL
     have SZ:XS<OY.size:=(hL).head.lt
     replace yR:=yR.aF
     have XT:=yR.size
     replace bX:=bX.no yR
     replace fj:=fj.aA yR
     refine cp fj fun XU XV Du yS=>⟨XU,_,rfl,hL.aB yS,?_⟩
     replace hL:=hL.aB yS
     have XW:=yS.size
     replace bX:=bX.no yS
     replace fj:=fj.aA yS
     intro ajs Dv hL
     have XX:=Dv.size
     replace bX:=bX.fr Dv fun k hk aI=>by have h1:=(bX.aH hk).1;have h2:=h1.1;have h3:=h1.2;simp only[In,List.mem_cons,List.not_mem_nil,or_false]at aI;omega
     replace Du:=Du.fr Dv fun k hk aI=>by have h1:=(Du.aH hk).1;have h2:=h1.1;have h3:=h1.2;simp only[In,List.mem_cons,List.not_mem_nil,or_false]at aI;omega
     replace fj:=fj.fresh Dv fun k hk=>by simp only[In,List.mem_cons,List.not_mem_nil,or_false]at hk;omega
     exact⟨rfl,OY.size,XV.size,h3.size,jZ.size,Du,bX,by omega,by omega,by omega,by omega,by omega,by omega,by omega,by omega,by omega,by omega,by omega,by omega,fj⟩
  ·intro XY kU S0 Dw hL
   have Ta:XY<kU.size:=(hL).head.lt
   replace Dw:=Dw.aF
   have XZ:=Dw.size
   replace fj:=fj.aA Dw
   refine⟨?_,?_,?_⟩
   ·refine cp fj fun X1 yT fx Dx=>⟨X1,_,rfl,hL.aB Dx,?_⟩
    replace hL:=hL.aB Dx
    have X2:=Dx.size
    replace fj:=fj.aA Dx
    refine⟨?_,?_⟩
    ·refine lit fj fun X3 X4 IE yU=>⟨X3,rfl,hL.aB yU,?_⟩
     replace hL:=hL.aB yU
     have X5:=yU.size
     replace fx:=fx.no yU
     replace fj:=fj.aA yU
     intro X6 X7 Tb uz hL
     have Tc:X6<X7.size:=(hL).head.lt
     replace uz:=uz.cB (lo:=h3.size) (hi:=kU.size) ⟨⟨by omega,by omega⟩,trivial⟩
     have X8:=uz.size
     replace fx:=fx.iv uz (by omega)
     replace IE:=IE.iv uz (by omega)
     replace fj:=fj.aJ uz (by omega)
     exact⟨rfl,kU.size,yT.size,yT.size,X4.size,fx,IE,by omega,by omega,by omega,by omega,by omega,by omega,by omega,by omega,by omega,by omega,by omega,by omega,fj⟩
    ·intro X9 IF Td yV hL
     have Te:X9<IF.size:=(hL).head.lt
     replace yV:=yV.aF
     have Ya:=yV.size
     replace fx:=fx.no yV
     replace fj:=fj.aA yV
     refine⟨?_,?_⟩
     ·refine lit fj fun Yb Yc Dy yW=>⟨Yb,rfl,hL.aB yW,?_⟩
      replace hL:=hL.aB yW
      have Yd:=yW.size
      replace fx:=fx.no yW
      replace fj:=fj.aA yW
      intro ajt Dz hL
      have Ye:=Dz.size
      replace fx:=fx.fr Dz fun k hk aI=>by have h1:=(fx.aH hk).1;have h2:=h1.1;have h3:=h1.2;simp only[In,List.mem_cons,List.not_mem_nil,or_false]at aI;omega
      replace Dy:=Dy.fr Dz fun k hk aI=>by have h1:=(Dy.aH hk).1;have h2:=h1.1;have h3:=h1.2;simp only[In,List.mem_cons,List.not_mem_nil,or_false]at aI;omega
      replace fj:=fj.fresh Dz fun k hk=>by simp only[In,List.mem_cons,List.not_mem_nil,or_false]at hk;omega
      exact⟨rfl,kU.size,yT.size,IF.size,Yc.size,fx,Dy,by omega,by omega,by omega,by omega,by omega,by omega,by omega,by omega,by omega,by omega,by omega,by omega,fj⟩
     ·intro Yf yX hL
      replace yX:=yX.cB (lo:=h3.size) (hi:=kU.size) ⟨⟨by omega,by omega⟩,trivial⟩
      have Yg:=yX.size
      replace fx:=fx.iv yX (by omega)
      replace fj:=fj.aJ yX (by omega)
      refine lit fj fun Yh Yi IG yY=>⟨Yh,rfl,hL.aB yY,?_⟩
      replace hL:=hL.aB yY
      have Yj:=yY.size
      replace fx:=fx.no yY
      replace fj:=fj.aA yY
      intro aju uA hL
      replace uA:=uA.cB (lo:=yT.size) (hi:=IF.size) ⟨⟨by omega,by omega⟩,trivial⟩
      have Yk:=uA.size
      replace fx:=fx.iv uA (by omega)
      replace IG:=IG.iv uA (by omega)
      replace fj:=fj.aJ uA (by omega)
      exact⟨rfl,kU.size,yT.size,Yf.size,Yi.size,fx,IG,by omega,by omega,by omega,by omega,by omega,by omega,by omega,by omega,by omega,by omega,by omega,by omega,fj⟩
   ·refine lit fj fun Yl IH jq DA=>⟨Yl,rfl,hL.aB DA,?_⟩
    replace hL:=hL.aB DA
    have Ym:=DA.size
    replace fj:=fj.aA DA
    refine⟨?_,?_⟩
    ·refine cp fj fun Yn Yo II yZ=>⟨Yn,_,rfl,hL.aB yZ,?_⟩
     replace hL:=hL.aB yZ
     have Yp:=yZ.size
     replace jq:=jq.no yZ
     replace fj:=fj.aA yZ
     intro Yq Yr Tf uB hL
     have Tg:Yq<Yr.size:=(hL).head.lt
     replace uB:=uB.cB (lo:=h3.size) (hi:=kU.size) ⟨⟨by omega,by omega⟩,trivial⟩
     have Ys:=uB.size
     replace jq:=jq.iv uB (by omega)
     replace II:=II.iv uB (by omega)
     replace fj:=fj.aJ uB (by omega)
     exact⟨rfl,IH.size,Yo.size,kU.size,IH.size,II,jq,by omega,by omega,by omega,by omega,by omega,by omega,by omega,by omega,by omega,by omega,by omega,by omega,fj⟩
    ·intro Yt OZ Th y0 hL
     have Ti:Yt<OZ.size:=(hL).head.lt
     replace y0:=y0.aF
     have Yu:=y0.size
     replace jq:=jq.no y0
     replace fj:=fj.aA y0
     refine cp fj fun Yw Yy DB y9=>⟨Yw,_,rfl,hL.aB y9,?_⟩
     replace hL:=hL.aB y9
     have Yz:=y9.size
     replace jq:=jq.no y9
     replace fj:=fj.aA y9
     intro ajv DC hL
     have YA:=DC.size
     replace jq:=jq.fr DC fun k hk aI=>by have h1:=(jq.aH hk).1;have h2:=h1.1;have h3:=h1.2;simp only[In,List.mem_cons,List.not_mem_nil,or_false]at aI;omega
     replace DB:=DB.fr DC fun k hk aI=>by have h1:=(DB.aH hk).1;have h2:=h1.1;have h3:=h1.2;simp only[In,List.mem_cons,List.not_mem_nil,or_false]at aI;omega
     replace fj:=fj.fresh DC fun k hk=>by simp only[In,List.mem_cons,List.not_mem_nil,or_false]at hk;omega
     exact⟨rfl,OZ.size,Yy.size,kU.size,IH.size,DB,jq,by omega,by omega,by omega,by omega,by omega,by omega,by omega,by omega,by omega,by omega,by omega,by omega,fj⟩
   ·intro YB za Tj DD hL
    have Tk:YB<za.size:=(hL).head.lt
    replace DD:=DD.aF
    have YC:=DD.size
    replace fj:=fj.aA DD
    refine⟨?_,?_⟩
    ·refine cp fj fun YD IJ jr DE=>⟨YD,_,rfl,hL.aB DE,?_⟩
     replace hL:=hL.aB DE
     have YE:=DE.size
     replace fj:=fj.aA DE
     refine⟨?_,?_⟩
     ·refine lit fj fun YF YG DF zc=>⟨YF,rfl,hL.aB zc,?_⟩
      replace hL:=hL.aB zc
      have YH:=zc.size
      replace jr:=jr.no zc
      replace fj:=fj.aA zc
      intro ajw DG hL
      have YI:=DG.size
      replace jr:=jr.fr DG fun k hk aI=>by have h1:=(jr.aH hk).1;have h2:=h1.1;have h3:=h1.2;simp only[In,List.mem_cons,List.not_mem_nil,or_false]at aI;omega
      replace DF:=DF.fr DG fun k hk aI=>by have h1:=(DF.aH hk).1;have h2:=h1.1;have h3:=h1.2;simp only[In,List.mem_cons,List.not_mem_nil,or_false]at aI;omega
      replace fj:=fj.fresh DG fun k hk=>by simp only[In,List.mem_cons,List.not_mem_nil,or_false]at hk;omega
      exact⟨rfl,za.size,IJ.size,IJ.size,YG.size,jr,DF,by omega,by omega,by omega,by omega,by omega,by omega,by omega,by omega,by omega,by omega,by omega,by omega,fj⟩
     ·intro YJ zd hL
      replace zd:=zd.cB (lo:=h3.size) (hi:=kU.size) ⟨⟨by omega,by omega⟩,trivial⟩
      have YK:=zd.size
      replace jr:=jr.iv zd (by omega)
      replace fj:=fj.aJ zd (by omega)
      refine lit fj fun YL YM IK ze=>⟨YL,rfl,hL.aB ze,?_⟩
      replace hL:=hL.aB ze
      have YN:=ze.size
      replace jr:=jr.no ze
      replace fj:=fj.aA ze
      intro ajx uC hL
      replace uC:=uC.cB (lo:=kU.size) (hi:=za.size) ⟨⟨by omega,by omega⟩,trivial⟩
      have YO:=uC.size
      replace jr:=jr.iv uC (by omega)
      replace IK:=IK.iv uC (by omega)
      replace fj:=fj.aJ uC (by omega)
      exact⟨rfl,za.size,IJ.size,YJ.size,YM.size,jr,IK,by omega,by omega,by omega,by omega,by omega,by omega,by omega,by omega,by omega,by omega,by omega,by omega,fj⟩
    ·refine lit fj fun YP O0 uD DH=>⟨YP,rfl,hL.aB DH,?_⟩
     replace hL:=hL.aB DH
     have YQ:=DH.size
     replace fj:=fj.aA DH
     refine cp fj fun YR YS DI zf=>⟨YR,_,rfl,hL.aB zf,?_⟩
     replace hL:=hL.aB zf
     have YT:=zf.size
     replace uD:=uD.no zf
     replace fj:=fj.aA zf
     intro ajy DJ hL
     have YU:=DJ.size
     replace uD:=uD.fr DJ fun k hk aI=>by have h1:=(uD.aH hk).1;have h2:=h1.1;have h3:=h1.2;simp only[In,List.mem_cons,List.not_mem_nil,or_false]at aI;omega
     replace DI:=DI.fr DJ fun k hk aI=>by have h1:=(DI.aH hk).1;have h2:=h1.1;have h3:=h1.2;simp only[In,List.mem_cons,List.not_mem_nil,or_false]at aI;omega
     replace fj:=fj.fresh DJ fun k hk=>by simp only[In,List.mem_cons,List.not_mem_nil,or_false]at hk;omega
     exact⟨rfl,O0.size,YS.size,za.size,O0.size,DI,uD,by omega,by omega,by omega,by omega,by omega,by omega,by omega,by omega,by omega,by omega,by omega,by omega,fj⟩
  ·intro YV gD Tl DK hL
   have Tm:YV<gD.size:=(hL).head.lt
   replace DK:=DK.aF
   have YW:=DK.size
   replace fj:=fj.aA DK
   refine⟨?_,?_,?_⟩
   ·refine cp fj fun YX pp fy DL=>⟨YX,_,rfl,hL.aB DL,?_⟩
    replace hL:=hL.aB DL
    have YY:=DL.size
    replace fj:=fj.aA DL
    refine⟨?_,?_⟩
    ·refine lit fj fun YZ O8 IL zg=>⟨YZ,rfl,hL.aB zg,?_⟩
     replace hL:=hL.aB zg
     have Y0:=zg.size
     replace fy:=fy.no zg
     replace fj:=fj.aA zg
     intro Y1 Pa Tp uE hL
     have Tq:Y1<Pa.size:=(hL).head.lt
     replace uE:=uE.cB (lo:=h3.size) (hi:=gD.size) ⟨⟨by omega,by omega⟩,trivial⟩
     have Y2:=uE.size
     replace fy:=fy.iv uE (by omega)
     replace IL:=IL.iv uE (by omega)
     replace fj:=fj.aJ uE (by omega)
     exact⟨rfl,gD.size,pp.size,pp.size,O8.size,fy,IL,by omega,by omega,by omega,by omega,by omega,by omega,by omega,by omega,by omega,by omega,by omega,by omega,fj⟩
    ·intro Y3 zh Tr zi hL
     have Tt:Y3<zh.size:=(hL).head.lt
     replace zi:=zi.aF
     have Y4:=zi.size
     replace fy:=fy.no zi
     replace fj:=fj.aA zi
     refine⟨?_,?_⟩
     ·refine lit fj fun Y5 Pb DM zj=>⟨Y5,rfl,hL.aB zj,?_⟩
      replace hL:=hL.aB zj
      have Y6:=zj.size
      replace fy:=fy.no zj
      replace fj:=fj.aA zj
      intro acz DN hL
      have Y7:=DN.size
      replace fy:=fy.fr DN fun k hk aI=>by have h1:=(fy.aH hk).1;have h2:=h1.1;have h3:=h1.2;simp only[In,List.mem_cons,List.not_mem_nil,or_false]at aI;omega
      replace DM:=DM.fr DN fun k hk aI=>by have h1:=(DM.aH hk).1;have h2:=h1.1;have h3:=h1.2;simp only[In,List.mem_cons,List.not_mem_nil,or_false]at aI;omega
      replace fj:=fj.fresh DN fun k hk=>by simp only[In,List.mem_cons,List.not_mem_nil,or_false]at hk;omega
      exact⟨rfl,gD.size,pp.size,zh.size,Pb.size,fy,DM,by omega,by omega,by omega,by omega,by omega,by omega,by omega,by omega,by omega,by omega,by omega,by omega,fj⟩
     ·intro Pc zk hL
      replace zk:=zk.cB (lo:=pp.size) (hi:=zh.size) ⟨⟨by omega,by omega⟩,trivial⟩
      have Y8:=zk.size
      replace fy:=fy.iv zk (by omega)
      replace fj:=fj.aJ zk (by omega)
      refine lit fj fun Y9 Pd IM zm=>⟨Y9,rfl,hL.aB zm,?_⟩
      replace hL:=hL.aB zm
      have Za:=zm.size
      replace fy:=fy.no zm
      replace fj:=fj.aA zm
      intro acA uF hL
      replace uF:=uF.cB (lo:=h3.size) (hi:=gD.size) ⟨⟨by omega,by omega⟩,trivial⟩
      have Zb:=uF.size
      replace fy:=fy.iv uF (by omega)
      replace IM:=IM.iv uF (by omega)
      replace fj:=fj.aJ uF (by omega)
      exact⟨rfl,gD.size,pp.size,Pc.size,Pd.size,fy,IM,by omega,by omega,by omega,by omega,by omega,by omega,by omega,by omega,by omega,by omega,by omega,by omega,fj⟩
   ·refine lit fj fun Zc zn js DO=>⟨Zc,rfl,hL.aB DO,?_⟩
    replace hL:=hL.aB DO
    have Zd:=DO.size
    replace fj:=fj.aA DO
    refine⟨?_,?_⟩
    ·refine cp fj fun Ze Pe IP zo=>⟨Ze,_,rfl,hL.aB zo,?_⟩
     replace hL:=hL.aB zo
     have Zf:=zo.size
     replace js:=js.no zo
     replace fj:=fj.aA zo
     intro Zg Pf Tu uG hL
     have Tw:Zg<Pf.size:=(hL).head.lt
     replace uG:=uG.cB (lo:=h3.size) (hi:=gD.size) ⟨⟨by omega,by omega⟩,trivial⟩
     have Zh:=uG.size
     replace js:=js.iv uG (by omega)
     replace IP:=IP.iv uG (by omega)
     replace fj:=fj.aJ uG (by omega)
     exact⟨rfl,zn.size,Pe.size,gD.size,zn.size,IP,js,by omega,by omega,by omega,by omega,by omega,by omega,by omega,by omega,by omega,by omega,by omega,by omega,fj⟩
    ·intro Zi Gc Tx zp hL
     have Ty:Zi<Gc.size:=(hL).head.lt
     replace zp:=zp.aF
     have Zj:=zp.size
     replace js:=js.no zp
     replace fj:=fj.aA zp
     refine cp fj fun Zk Pg DP zq=>⟨Zk,_,rfl,hL.aB zq,?_⟩
     replace hL:=hL.aB zq
     have Zl:=zq.size
     replace js:=js.no zq
     replace fj:=fj.aA zq
     intro acB DQ hL
     have Zm:=DQ.size
     replace js:=js.fr DQ fun k hk aI=>by have h1:=(js.aH hk).1;have h2:=h1.1;have h3:=h1.2;simp only[In,List.mem_cons,List.not_mem_nil,or_false]at aI;omega
     replace DP:=DP.fr DQ fun k hk aI=>by have h1:=(DP.aH hk).1;have h2:=h1.1;have h3:=h1.2;simp only[In,List.mem_cons,List.not_mem_nil,or_false]at aI;omega
     replace fj:=fj.fresh DQ fun k hk=>by simp only[In,List.mem_cons,List.not_mem_nil,or_false]at hk;omega
     exact⟨rfl,Gc.size,Pg.size,gD.size,zn.size,DP,js,by omega,by omega,by omega,by omega,by omega,by omega,by omega,by omega,by omega,by omega,by omega,by omega,fj⟩
   ·intro Zn pq Tz DR hL
    have TA:Zn<pq.size:=(hL).head.lt
    replace DR:=DR.aF
    have Zo:=DR.size
    replace fj:=fj.aA DR
    refine⟨?_,?_⟩
    ·refine cp fj fun Zp zr jt DS=>⟨Zp,_,rfl,hL.aB DS,?_⟩
     replace hL:=hL.aB DS
     have Zq:=DS.size
     replace fj:=fj.aA DS
     refine⟨?_,?_⟩
     ·refine lit fj fun Zr Ph DT zt=>⟨Zr,rfl,hL.aB zt,?_⟩
      replace hL:=hL.aB zt
      have Zs:=zt.size
      replace jt:=jt.no zt
      replace fj:=fj.aA zt
      intro acC DU hL
      have Zt:=DU.size
      replace jt:=jt.fr DU fun k hk aI=>by have h1:=(jt.aH hk).1;have h2:=h1.1;have h3:=h1.2;simp only[In,List.mem_cons,List.not_mem_nil,or_false]at aI;omega
      replace DT:=DT.fr DU fun k hk aI=>by have h1:=(DT.aH hk).1;have h2:=h1.1;have h3:=h1.2;simp only[In,List.mem_cons,List.not_mem_nil,or_false]at aI;omega
      replace fj:=fj.fresh DU fun k hk=>by simp only[In,List.mem_cons,List.not_mem_nil,or_false]at hk;omega
      exact⟨rfl,pq.size,zr.size,zr.size,Ph.size,jt,DT,by omega,by omega,by omega,by omega,by omega,by omega,by omega,by omega,by omega,by omega,by omega,by omega,fj⟩
     ·intro Pj zu hL
      replace zu:=zu.cB (lo:=gD.size) (hi:=pq.size) ⟨⟨by omega,by omega⟩,trivial⟩
      have Zu:=zu.size
      replace jt:=jt.iv zu (by omega)
      replace fj:=fj.aJ zu (by omega)
      refine lit fj fun Zv Pk IQ zw=>⟨Zv,rfl,hL.aB zw,?_⟩
      replace hL:=hL.aB zw
      have Zw:=zw.size
      replace jt:=jt.no zw
      replace fj:=fj.aA zw
      intro acD uH hL
      replace uH:=uH.cB (lo:=h3.size) (hi:=gD.size) ⟨⟨by omega,by omega⟩,trivial⟩
      have Zx:=uH.size
      replace jt:=jt.iv uH (by omega)
      replace IQ:=IQ.iv uH (by omega)
      replace fj:=fj.aJ uH (by omega)
      exact⟨rfl,pq.size,zr.size,Pj.size,Pk.size,jt,IQ,by omega,by omega,by omega,by omega,by omega,by omega,by omega,by omega,by omega,by omega,by omega,by omega,fj⟩
    ·refine lit fj fun Zy Gd uI DV=>⟨Zy,rfl,hL.aB DV,?_⟩
     replace hL:=hL.aB DV
     have Zz:=DV.size
     replace fj:=fj.aA DV
     refine cp fj fun ZA Pl DW zx=>⟨ZA,_,rfl,hL.aB zx,?_⟩
     replace hL:=hL.aB zx
     have ZB:=zx.size
     replace uI:=uI.no zx
     replace fj:=fj.aA zx
     intro acE DX hL
     have ZC:=DX.size
     replace uI:=uI.fr DX fun k hk aI=>by have h1:=(uI.aH hk).1;have h2:=h1.1;have h3:=h1.2;simp only[In,List.mem_cons,List.not_mem_nil,or_false]at aI;omega
     replace DW:=DW.fr DX fun k hk aI=>by have h1:=(DW.aH hk).1;have h2:=h1.1;have h3:=h1.2;simp only[In,List.mem_cons,List.not_mem_nil,or_false]at aI;omega
     replace fj:=fj.fresh DX fun k hk=>by simp only[In,List.mem_cons,List.not_mem_nil,or_false]at hk;omega
     exact⟨rfl,Gd.size,Pl.size,pq.size,Gd.size,DW,uI,by omega,by omega,by omega,by omega,by omega,by omega,by omega,by omega,by omega,by omega,by omega,by omega,fj⟩
 rintro bN x1 x2 bO x3 zy ⟨rfl,i1,j1,i2,j2,o1,o2,d12,dN1,dN2,dO1,dO2,e1,e2',e3,e4,e5,e6,dZ,f134⟩ kV
 have f0:=gr.aA f134
 have ajA:=f134.size
 have lO:bO<zy.size:=kV.head.lt
 have lN:bN<zy.size:=kV.tail.head.lt
 have ZD:bU (fun k=>k<h3.size) zy g aD:=(G.no gr).low.no f134
 have xN:¬x1.own bN:=fun hk=>by have h1:=(o1.aH hk).1.1;have h2:=(o1.aH hk).1.2;omega
 have xO:¬x3.own bO:=fun hk=>by have h1:=(o2.aH hk).1.1;have h2:=(o2.aH hk).1.2;omega
 have x1O:¬x1.own bO:=fun hk=>by have h1:=(o1.aH hk).1.1;have h2:=(o1.aH hk).1.2;omega
 have x3N:¬x3.own bN:=fun hk=>by have h1:=(o2.aH hk).1.1;have h2:=(o2.aH hk).1.2;omega
 have JS:∀k,x1.own k->¬x3.own k:=fun k h1 h3=>by have a1:=(o1.aH h1).1.1;have a2:=(o1.aH h1).1.2;have a3:=(o2.aH h3).1.1;have a4:=(o2.aH h3).1.2;omega
 have x1g:∀k,x1.own k->h3.size<=k/\k<zy.size:=fun k hk=>⟨by have:=(o1.aH hk).1.1;omega,(o1.aH hk).2⟩
 have x3g:∀k,x3.own k->h3.size<=k/\k<zy.size:=fun k hk=>⟨by have:=(o2.aH hk).1.1;omega,(o2.aH hk).2⟩
 --what the ZE region and the other one are off
 have qh:∀k,(k=bN\/x1.own k)\/(k=bO\/x3.own k)->h3.size<=k:=fun k hk=>by
  rcases hk with(rfl|hk)|(rfl|hk)
  ·omega
  ·exact(x1g k hk).1
  ·omega
  ·exact(x3g k hk).1
 refine NF (s0:=(rs,x2)) (F:=fun k=>k=bN\/x1.own k) (S:=fun k=>k<h3.size) nO
  (fun N t h'=>∃o:Sl,dC h' bO [o.v]/\bL h' (fun k=>h3.size<=k) o t/\∀k,o.own k->x3.own k\/N<=k) (fun k=>k=bO\/x3.own k)
  ZD kV.tail.head (o1.mono fun k hk _=> .inr hk) (fun k hk=>⟨fun h=>by have:=qh k (.inl h);omega,fun h=>by have:=qh k (.inr h);omega⟩) (.inl rfl) xN W n (by omega) (by omega) _ [x2]
  (fun k hk=>by rcases hk with rfl|hk;exact lN;exact(x1g k hk).2)
  (fun k hk=>⟨fun h=>by
   rcases hk with rfl|hk<;>rcases h with rfl|h
   ·exact dZ rfl
   ·exact x1O h
   ·exact x3N hk
   ·exact JS k h hk,by rcases hk with rfl|hk;exact lO;exact(x3g k hk).2⟩)
  (fun N hN=>⟨x3,kV.head,o2.mono fun k _ hk=>by have:=hk.1;omega,fun k hk=> .inl hk⟩)
  (fun N t h1 h2 U ⟨o,v1,v2,v3⟩ f hU=>⟨o,v1.fr f fun h=>(hU _ h).1 (.inl rfl),v2.fr f fun k hk aI=>by
   rcases v3 k hk with h|h
   ·exact(hU k aI).1 (.inr h)
   ·have:=(hU k aI).2;omega,v3⟩)
  (fun N t s s' h1 K hN hN2 ⟨o,v1,v2,v3⟩ V O W hs hm HK=> ?_) _ (fun hr N t h9 q hN ⟨o,v1,v2,v3⟩ v9 f9=> ?_) fun t' s' hr N h9 hN ⟨o,v1,v2,v3⟩ o9 W9 v9 f9=> ?_
 ·obtain⟨m,hm,hr⟩:=hm
  have hl:=yz m _ _ _ _ hr
  have ob:¬o.own bO:=fun hk=>by
   rcases v3 _ hk with h|h
   ·exact xO h
   ·omega
  have ob':¬o.own bN:=fun hk=>by
   rcases v3 _ hk with h|h
   ·exact x3N h
   ·omega
  refine Se v1 V dZ v2 (fun k hk=>by omega) ob ob' (by simp at hl;omega) s.2 K fun h2 o' v w1 w2 w3 w4=>HK h2 v ⟨o',w1,w2,fun k hk=> ?_⟩ (w4.mono fun k _ hk=> ?_)
  ·rcases w3 k hk with h|h
   ·exact v3 k h
   ·exact .inr (by omega)
  ·rcases hk with rfl|hk
   ·exact .inl (.inl rfl)
   ·exact(v3 k hk).imp .inr id
 ·have fQ:Vars h9 [(bO,[o.v]),(bN,[x1.v,VI q]),(b2,[w.v,VI x2]),(b1,[g.v])]:= .cons v1 (fun p hp=>by
   have:=kV.ne
   simp only[List.mem_cons,List.not_mem_nil,or_false]at hp
   rcases hp with rfl|rfl|rfl<;>simp only<;>omega) (.cons v9 (fun p hp=>by
   simp only[List.mem_cons,List.not_mem_nil,or_false]at hp
   rcases hp with rfl|rfl<;>simp only<;>omega) (kV.tail.tail.fr f9 fun p hp hk=>by
   have:=qh _ hk
   simp only[List.mem_cons,List.not_mem_nil,or_false]at hp
   rcases hp with rfl|rfl<;>simp only at this<;>omega))
  refine⟨o,x1,q,false,rfl,fQ,fun _=> ?_,fun e=>by simp at e⟩
  rw[hr]at e2
  exact no e2 h9 (f0.fresh f9 fun k hk=>by have:=qh k hk;omega)
 ·have fQ:Vars h9 [(bO,[o.v]),(bN,[x1.v,VI s'.2]),(b2,[w.v,VI x2]),(b1,[g.v])]:= .cons v1 (fun p hp=>by
   simp only[List.mem_cons,List.not_mem_nil,or_false]at hp
   rcases hp with rfl|rfl|rfl<;>simp only<;>omega) (.cons v9 (fun p hp=>by
   simp only[List.mem_cons,List.not_mem_nil,or_false]at hp
   rcases hp with rfl|rfl<;>simp only<;>omega) (kV.tail.tail.fr f9 fun p hp hk=>by
   have:=qh _ hk
   simp only[List.mem_cons,List.not_mem_nil,or_false]at hp
   rcases hp with rfl|rfl<;>simp only at this<;>omega))
  refine⟨o,x1,s'.2,true,rfl,fQ,fun e=>by simp at e,fun _=> ?_⟩
  rw[hr]at e2
  have:=HK o h9 (by rw[e2];exact v2.mono fun k hk hF=>⟨by omega,(v2.aH hk).2⟩) (f0.fresh f9 fun k hk=>by have:=qh k hk;omega)
  rw[e2]at this
  exact this
theorem zz{g:List (List Int)}:∀(m k:Nat)(t:List Int)(s:St)(t':List Int)(s':St),(∀x,x∈t->0<=x/\x<=(k:Int))->runT g HJ m t s=some (t',s')->t'.length=t.length/\∀x,x∈t'->0<=x/\x<=((k+m:Nat):Int)
 |0,k,t,s,t',s',hk,h=>by
  simp only[runT,Option.some.injEq,Prod.mk.injEq]at h
  rw[<-h.1]
  exact⟨rfl,by simpa using hk⟩
 |m+1,k,t,s,t',s',hk,h=>by
  rw[runT]at h
  split at h
  ·cases h
  ·rename_i s2 hs
   have:=zz m (k+1) _ _ _ _ (xT (i:=s2.2.toNat) hk) h
   rw[show k+(m+1)=k+1+m by omega]
   exact⟨this.1.trans (oQ _ _),this.2⟩
theorem Pm(g:List (List Int))(rs:List Int)(p n:Int):(nW g rs p n).1.length<=8:=by
 unfold nW
 split
 ·rename_i h
  rw[Bool.and_eq_true,aY]at h
  have W:=cV h.1
  have:=aO W.bF
  split
  ·simp
  ·rename_i t s hs
   have:=(zz n.toNat 0 _ _ _ _ (fun x hx=>by simp only[List.mem_replicate]at hx;omega) hs).1
   simp at this
   simp only
   omega
 ·simp
theorem ZF{F:Nat->Prop}{b b':Nat}{h:Heap}{o w:Sl}{ps:List Int}{q:Int}(V:dC h b [o.v])(V':dC h b' [w.v,VI q])(Sf:b'≠b)(O:bL h F o ps)(hb:¬o.own b)(hb':¬o.own b')(h0:0<=q)(h1:q<(ps.length:Int))(hv:∀x,x∈ps->0<=x/\x<=1000000)(x:Int)(K:Value->Heap->Prop)
 (HK:∀h' v,dC h' b [o.v]->bL h' F o (bump ps q.toNat)->Fr o.own h h'->K v h'):fC Tryz.prog (.func (.func 209) #[] #[VP b 0,VP b' 0]) [VI x] h K:=by
 have R:aQ F h o ps:=O.eW
 have hl:=R.len
 have hm:=hv _ (List.getElem_mem (show q.toNat<ps.length by omega))
 refine agZ x b o b' w q h K (.cons V (by simpa using Sf) (.cons V' (by simp) .nil)) ⟨R.bC h0 h1,_,R.get h0 h1,R.bC h0 h1,?_⟩
 rw[aG _ (by omega) (by omega)]
 obtain⟨w1,w2,w3⟩:=O.eY h0 (by omega) (VI ((ps[q.toNat]'(by omega))+1))
 have hL:Vars (cL h (o.at q 1) (VI ((ps[q.toNat]'(by omega))+1))) [(b,[o.v]),(b',[w.v,VI q])]:= .cons (V.fr w3 hb) (by simpa using Sf) (.cons (V'.fr w3 hb') (by simp) .nil)
 refine⟨w1,hL,fun h2 e2 _=> ?_⟩
 subst e2
 rw[<-List.map_set]at w2
 have e:ps.set q.toNat ((ps[q.toNat]'(by omega))+1)=bump ps q.toNat:=by unfold bump;rw[aN (by omega)]
 rw[e]at w2
 exact HK _ _ hL.head w2 w3
theorem IR{S S':Nat->Prop}{h:Heap}{g w:Sl}{aD:List (List Int)}{rs:List Int}(G:bU S h g aD)(H:aQ S' h w rs)(p n:Int)(K:Value->Heap->Prop)(HK:∀t h',bL h' (Iv h.size h'.size) t (nW aD rs p n).1->Fr No h h'->K (.tuple #[t.v,VB (nW aD rs p n).2]) h'):aE Tryz.prog 163 #[.agg #[g.v],.agg #[w.v,VI p],VI n] h K:=by
 refine afX g w p n h K fun b1 b2 h2 eD dK f2 bW=> ?_
 have f2:=f2.aF
 have no:nW aD rs p n=([],false)->∀h',Fr No h h'->K (.tuple #[aC.v,VB false]) h':=fun e h' f=>by
  have:=HK aC h' (by rw[e];exact Ow.nil _ _ _ _) f
  rw[e]at this
  exact this
 refine CB (G.no f2) (H.no f2) p n 2000 _ fun h3 f3=>⟨_,rfl,bW.aB f3,fun e=> ?_,fun e=> ?_⟩
 ·exact no (by unfold nW;rw[if_neg (by rw[bA e];simp)]) _ (f2.aA f3)
 have e:=aX e
 have e2:nW aD rs p n=match runT aD HJ n.toNat (List.replicate aD.length 0) (rs,p)with
  |none=>([],false)
  |some (t,_)=>(t,true):=by unfold nW;exact if_pos e
 rw[Bool.and_eq_true,aY]at e
 have W:=cV e.1
 have Rm:=aO W.bF
 have gr:=f2.aA f3
 have z03:=gr.size
 have hL:=bW.aB f3
 have l2:b2<h3.size:=hL.head.lt
 have l1:b1<h3.size:=hL.tail.head.lt
 have fj:Fr No h3 h3:=Fr.refl _ _
 have cp:∀{h1:Heap}{K:Value->Heap->Prop},Fr No h3 h1->(∀t h2,bL h2 (Iv h1.size h2.size) t rs->Fr No h1 h2->K (.agg #[t.v,VI p]) h2)->aE Tryz.prog 110 #[.agg #[w.v,VI p]] h1 K:=fun f HK=>ij ((H.no gr).no f) p (by have:=W.len;simp only at this;omega) _ HK
 have mk:∀{h1:Heap}{K:Value->Heap->Prop},Fr No h3 h1->(∀t h2,bL h2 (Iv h1.size h2.size) t (List.replicate aD.length 0)->Fr No h1 h2->K t.v h2)->iU Tryz.prog (Instr.makeSlice lP (VI (g.n:Int)) (VI (g.n:Int))) h1 K:=fun _ HK=>eA fu (fun k=>_<=k) (fun _ h=>h) .i64 .i64 g.n g.n (Nat.le_refl _) (by rw[G.len];omega) fun t h2 n2 c2 o2 f2 m2 _=>HK t h2 (Ow.fW (by
  have e:(List.replicate g.n [VI 0]).flatten=(List.replicate aD.length (0:Int)).map VI:=by rw[G.len];simp[List.flatten_replicate_singleton]
  rw[e]at o2;exact o2)) f2
 refine⟨fun bN xw xp bO xo h'=>xp=p/\∃i1 j1 i2 j2,bL h' (Iv i1 j1) xw rs/\bL h' (Iv i2 j2) xo (List.replicate aD.length 0)/\(j1<=i2\/j2<=i1)/\(bN<i1\/j1<=bN)/\(bN<i2\/j2<=bN)/\(bO<i1\/j1<=bO)/\(bO<i2\/j2<=bO)/\h3.size<=i1/\h3.size<=i2/\h3.size<=bN/\h3.size<=bO/\j1<=h'.size/\j2<=h'.size/\bN≠bO/\Fr No h3 h',?_,?_⟩
 ·refine⟨?_,?_,?_,?_⟩
  ·refine cp fj fun u_1 nV dW Si=>⟨u_1,_,rfl,hL.aB Si,?_⟩
   replace hL:=hL.aB Si
   have acp:=Si.size
   replace fj:=fj.aA Si
   refine⟨?_,?_,?_⟩
   ·refine mk fj fun u_2 Sj LY OR=>⟨u_2,rfl,hL.aB OR,?_⟩
    replace hL:=hL.aB OR
    have acq:=OR.size
    replace dW:=dW.no OR
    replace fj:=fj.aA OR
    refine⟨?_,?_⟩
    ·intro jM LZ Sk WI WJ L1 hL
     have WL:jM<Sk.size:=(hL.tail).head.lt
     have WM:LZ<Sk.size:=(hL).head.lt
     have WN:jM≠LZ:=hL.ne (jM,_) List.mem_cons_self
     replace L1:=L1.aF
     have acr:=L1.size
     replace dW:=dW.no L1
     replace LY:=LY.no L1
     replace fj:=fj.aA L1
     exact⟨rfl,h3.size,nV.size,nV.size,Sj.size,dW,LY,by omega,by omega,by omega,by omega,by omega,by omega,by omega,by omega,by omega,by omega,by omega,by omega,fj⟩
    ·intro Kz L2 sV WQ WR L3 hL
     have WS:Kz<sV.size:=(hL.tail).head.lt
     have WT:L2<sV.size:=(hL).head.lt
     have WU:Kz≠L2:=hL.ne (Kz,_) List.mem_cons_self
     replace L3:=L3.aF
     have acs:=L3.size
     replace dW:=dW.no L3
     replace LY:=LY.no L3
     replace fj:=fj.aA L3
     exact⟨rfl,h3.size,nV.size,nV.size,Sj.size,dW,LY,by omega,by omega,by omega,by omega,by omega,by omega,by omega,by omega,by omega,by omega,by omega,by omega,fj⟩
   ·intro Qs rz WV OS hL
    have WW:Qs<rz.size:=(hL).head.lt
    replace OS:=OS.aF
    have acu:=OS.size
    replace dW:=dW.no OS
    replace fj:=fj.aA OS
    refine⟨?_,?_⟩
    ·refine mk fj fun u_6 WX WY OT=>⟨u_6,rfl,hL.aB OT,?_⟩
     replace hL:=hL.aB OT
     have acv:=OT.size
     replace dW:=dW.no OT
     replace fj:=fj.aA OT
     intro qo WZ Sm L4 hL
     have Sn:qo<WZ.size:=(hL).head.lt
     replace L4:=L4.cB (lo:=nV.size) (hi:=rz.size) ⟨⟨by omega,by omega⟩,trivial⟩
     have acw:=L4.size
     replace dW:=dW.iv L4 (by omega)
     replace WY:=WY.iv L4 (by omega)
     replace fj:=fj.aJ L4 (by omega)
     exact⟨rfl,h3.size,nV.size,rz.size,WX.size,dW,WY,by omega,by omega,by omega,by omega,by omega,by omega,by omega,by omega,by omega,by omega,by omega,by omega,fj⟩
    ·intro um yB Sr OU hL
     have Ss:um<yB.size:=(hL).head.lt
     replace OU:=OU.aF
     have acx:=OU.size
     replace dW:=dW.no OU
     replace fj:=fj.aA OU
     refine⟨?_,?_⟩
     ·refine mk fj fun u_9 W4 Su OV=>⟨u_9,rfl,hL.aB OV,?_⟩
      replace hL:=hL.aB OV
      have acy:=OV.size
      replace dW:=dW.no OV
      replace fj:=fj.aA OV
      intro Sa Dh hL
      have Xa:=Dh.size
      replace dW:=dW.fr Dh fun k hk aI=>by have h1:=(dW.aH hk).1;have h2:=h1.1;have h3:=h1.2;simp only[In,List.mem_cons,List.not_mem_nil,or_false]at aI;omega
      replace Su:=Su.fr Dh fun k hk aI=>by have h1:=(Su.aH hk).1;have h2:=h1.1;have h3:=h1.2;simp only[In,List.mem_cons,List.not_mem_nil,or_false]at aI;omega
      replace fj:=fj.fresh Dh fun k hk=>by simp only[In,List.mem_cons,List.not_mem_nil,or_false]at hk;omega
      exact⟨rfl,h3.size,nV.size,yB.size,W4.size,dW,Su,by omega,by omega,by omega,by omega,by omega,by omega,by omega,by omega,by omega,by omega,by omega,by omega,fj⟩
     ·intro FW yC hL
      replace yC:=yC.cB (lo:=nV.size) (hi:=rz.size) ⟨⟨by omega,by omega⟩,trivial⟩
      have Xb:=yC.size
      replace dW:=dW.iv yC (by omega)
      replace fj:=fj.aJ yC (by omega)
      refine mk fj fun Xc uj Iw yD=>⟨Xc,rfl,hL.aB yD,?_⟩
      replace hL:=hL.aB yD
      have Xd:=yD.size
      replace dW:=dW.no yD
      replace fj:=fj.aA yD
      intro OD uo hL
      replace uo:=uo.cB (lo:=rz.size) (hi:=yB.size) ⟨⟨by omega,by omega⟩,trivial⟩
      have Xe:=uo.size
      replace dW:=dW.iv uo (by omega)
      replace Iw:=Iw.iv uo (by omega)
      replace fj:=fj.aJ uo (by omega)
      exact⟨rfl,h3.size,nV.size,FW.size,uj.size,dW,Iw,by omega,by omega,by omega,by omega,by omega,by omega,by omega,by omega,by omega,by omega,by omega,by omega,fj⟩
   ·intro Aj lW Sv yE hL
    have Sx:Aj<lW.size:=(hL).head.lt
    replace yE:=yE.aF
    have Xf:=yE.size
    replace dW:=dW.no yE
    replace fj:=fj.aA yE
    refine⟨?_,?_⟩
    ·refine mk fj fun Xg Db Ix yF=>⟨Xg,rfl,hL.aB yF,?_⟩
     replace hL:=hL.aB yF
     have Xh:=yF.size
     replace dW:=dW.no yF
     replace fj:=fj.aA yF
     intro lX sR Sy uq hL
     have Sz:lX<sR.size:=(hL).head.lt
     replace uq:=uq.cB (lo:=nV.size) (hi:=lW.size) ⟨⟨by omega,by omega⟩,trivial⟩
     have Xi:=uq.size
     replace dW:=dW.iv uq (by omega)
     replace Ix:=Ix.iv uq (by omega)
     replace fj:=fj.aJ uq (by omega)
     exact⟨rfl,h3.size,nV.size,lW.size,Db.size,dW,Ix,by omega,by omega,by omega,by omega,by omega,by omega,by omega,by omega,by omega,by omega,by omega,by omega,fj⟩
    ·intro lc sS SA yG hL
     have SB:lc<sS.size:=(hL).head.lt
     replace yG:=yG.aF
     have Xj:=yG.size
     replace dW:=dW.no yG
     replace fj:=fj.aA yG
     refine⟨?_,?_⟩
     ·refine mk fj fun Xk yy Di yH=>⟨Xk,rfl,hL.aB yH,?_⟩
      replace hL:=hL.aB yH
      have Xl:=yH.size
      replace dW:=dW.no yH
      replace fj:=fj.aA yH
      intro De Dm hL
      have Xm:=Dm.size
      replace dW:=dW.fr Dm fun k hk aI=>by have h1:=(dW.aH hk).1;have h2:=h1.1;have h3:=h1.2;simp only[In,List.mem_cons,List.not_mem_nil,or_false]at aI;omega
      replace Di:=Di.fr Dm fun k hk aI=>by have h1:=(Di.aH hk).1;have h2:=h1.1;have h3:=h1.2;simp only[In,List.mem_cons,List.not_mem_nil,or_false]at aI;omega
      replace fj:=fj.fresh Dm fun k hk=>by simp only[In,List.mem_cons,List.not_mem_nil,or_false]at hk;omega
      exact⟨rfl,h3.size,nV.size,sS.size,yy.size,dW,Di,by omega,by omega,by omega,by omega,by omega,by omega,by omega,by omega,by omega,by omega,by omega,by omega,fj⟩
     ·intro Iy yI hL
      replace yI:=yI.cB (lo:=lW.size) (hi:=sS.size) ⟨⟨by omega,by omega⟩,trivial⟩
      have Xn:=yI.size
      replace dW:=dW.iv yI (by omega)
      replace fj:=fj.aJ yI (by omega)
      refine mk fj fun Xo Gb Iz yJ=>⟨Xo,rfl,hL.aB yJ,?_⟩
      replace hL:=hL.aB yJ
      have Xp:=yJ.size
      replace dW:=dW.no yJ
      replace fj:=fj.aA yJ
      intro OW ur hL
      replace ur:=ur.cB (lo:=nV.size) (hi:=lW.size) ⟨⟨by omega,by omega⟩,trivial⟩
      have Xq:=ur.size
      replace dW:=dW.iv ur (by omega)
      replace Iz:=Iz.iv ur (by omega)
      replace fj:=fj.aJ ur (by omega)
      exact⟨rfl,h3.size,nV.size,Iy.size,Gb.size,dW,Iz,by omega,by omega,by omega,by omega,by omega,by omega,by omega,by omega,by omega,by omega,by omega,by omega,fj⟩
  ·refine mk fj fun Xr jZ bX Dn=>⟨Xr,rfl,hL.aB Dn,?_⟩
   replace hL:=hL.aB Dn
   have Xs:=Dn.size
   replace fj:=fj.aA Dn
   refine⟨?_,?_,?_⟩
   ·refine cp fj fun Xt Dp uu yK=>⟨Xt,_,rfl,hL.aB yK,?_⟩
    replace hL:=hL.aB yK
    have Xu:=yK.size
    replace bX:=bX.no yK
    replace fj:=fj.aA yK
    refine⟨?_,?_⟩
    ·intro rA vT Dq SC SD uv hL
     have SE:rA<Dq.size:=(hL.tail).head.lt
     have SG:vT<Dq.size:=(hL).head.lt
     have SH:rA≠vT:=hL.ne (rA,_) List.mem_cons_self
     replace uv:=uv.aF
     have Xv:=uv.size
     replace bX:=bX.no uv
     replace uu:=uu.no uv
     replace fj:=fj.aA uv
     exact⟨rfl,jZ.size,Dp.size,h3.size,jZ.size,uu,bX,by omega,by omega,by omega,by omega,by omega,by omega,by omega,by omega,by omega,by omega,by omega,by omega,fj⟩
    ·intro rB vU Dr SI SJ uw hL
     have SK:rB<Dr.size:=(hL.tail).head.lt
     have SL:vU<Dr.size:=(hL).head.lt
     have SM:rB≠vU:=hL.ne (rB,_) List.mem_cons_self
     replace uw:=uw.aF
     have Xw:=uw.size
     replace bX:=bX.no uw
     replace uu:=uu.no uw
     replace fj:=fj.aA uw
     exact⟨rfl,jZ.size,Dp.size,h3.size,jZ.size,uu,bX,by omega,by omega,by omega,by omega,by omega,by omega,by omega,by omega,by omega,by omega,by omega,by omega,fj⟩
   ·intro Xx Ak SN yL hL
    have SO:Xx<Ak.size:=(hL).head.lt
    replace yL:=yL.aF
    have Xy:=yL.size
    replace bX:=bX.no yL
    replace fj:=fj.aA yL
    refine⟨?_,?_⟩
    ·refine cp fj fun Xz IA IB yM=>⟨Xz,_,rfl,hL.aB yM,?_⟩
     replace hL:=hL.aB yM
     have XA:=yM.size
     replace bX:=bX.no yM
     replace fj:=fj.aA yM
     intro XB XC SP ux hL
     have SQ:XB<XC.size:=(hL).head.lt
     replace ux:=ux.cB (lo:=jZ.size) (hi:=Ak.size) ⟨⟨by omega,by omega⟩,trivial⟩
     have XD:=ux.size
     replace bX:=bX.iv ux (by omega)
     replace IB:=IB.iv ux (by omega)
     replace fj:=fj.aJ ux (by omega)
     exact⟨rfl,Ak.size,IA.size,h3.size,jZ.size,IB,bX,by omega,by omega,by omega,by omega,by omega,by omega,by omega,by omega,by omega,by omega,by omega,by omega,fj⟩
    ·intro XE OX SR yN hL
     have SS:XE<OX.size:=(hL).head.lt
     replace yN:=yN.aF
     have XF:=yN.size
     replace bX:=bX.no yN
     replace fj:=fj.aA yN
     refine cp fj fun XG XH Ds yO=>⟨XG,_,rfl,hL.aB yO,?_⟩
     replace hL:=hL.aB yO
     have XI:=yO.size
     replace bX:=bX.no yO
     replace fj:=fj.aA yO
     intro ajr Dt hL
     have XJ:=Dt.size
     replace bX:=bX.fr Dt fun k hk aI=>by have h1:=(bX.aH hk).1;have h2:=h1.1;have h3:=h1.2;simp only[In,List.mem_cons,List.not_mem_nil,or_false]at aI;omega
     replace Ds:=Ds.fr Dt fun k hk aI=>by have h1:=(Ds.aH hk).1;have h2:=h1.1;have h3:=h1.2;simp only[In,List.mem_cons,List.not_mem_nil,or_false]at aI;omega
     replace fj:=fj.fresh Dt fun k hk=>by simp only[In,List.mem_cons,List.not_mem_nil,or_false]at hk;omega
     exact⟨rfl,OX.size,XH.size,h3.size,jZ.size,Ds,bX,by omega,by omega,by omega,by omega,by omega,by omega,by omega,by omega,by omega,by omega,by omega,by omega,fj⟩
   ·intro XK IC SU yP hL
    have SV:XK<IC.size:=(hL).head.lt
    replace yP:=yP.aF
    have XL:=yP.size
    replace bX:=bX.no yP
    replace fj:=fj.aA yP
    refine⟨?_,?_⟩
    ·refine cp fj fun XM XN ID yQ=>⟨XM,_,rfl,hL.aB yQ,?_⟩
     replace hL:=hL.aB yQ
     have XO:=yQ.size
     replace bX:=bX.no yQ
     replace fj:=fj.aA yQ
     intro XP XQ SW uy hL
     have SX:XP<XQ.size:=(hL).head.lt
     replace uy:=uy.cB (lo:=jZ.size) (hi:=IC.size) ⟨⟨by omega,by omega⟩,trivial⟩
     have XR:=uy.size
     replace bX:=bX.iv uy (by omega)
     replace ID:=ID.iv uy (by omega)
     replace fj:=fj.aJ uy (by omega)
     exact⟨rfl,IC.size,XN.size,h3.size,jZ.size,ID,bX,by omega,by omega,by omega,by omega,by omega,by omega,by omega,by omega,by omega,by omega,by omega,by omega,fj⟩
    ·intro XS OY SY yR hL
     have SZ:XS<OY.size:=(hL).head.lt
     replace yR:=yR.aF
     have XT:=yR.size
     replace bX:=bX.no yR
     replace fj:=fj.aA yR
     refine cp fj fun XU XV Du yS=>⟨XU,_,rfl,hL.aB yS,?_⟩
     replace hL:=hL.aB yS
     have XW:=yS.size
     replace bX:=bX.no yS
     replace fj:=fj.aA yS
     intro ajs Dv hL
     have XX:=Dv.size
     replace bX:=bX.fr Dv fun k hk aI=>by have h1:=(bX.aH hk).1;have h2:=h1.1;have h3:=h1.2;simp only[In,List.mem_cons,List.not_mem_nil,or_false]at aI;omega
     replace Du:=Du.fr Dv fun k hk aI=>by have h1:=(Du.aH hk).1;have h2:=h1.1;have h3:=h1.2;simp only[In,List.mem_cons,List.not_mem_nil,or_false]at aI;omega
     replace fj:=fj.fresh Dv fun k hk=>by simp only[In,List.mem_cons,List.not_mem_nil,or_false]at hk;omega
     exact⟨rfl,OY.size,XV.size,h3.size,jZ.size,Du,bX,by omega,by omega,by omega,by omega,by omega,by omega,by omega,by omega,by omega,by omega,by omega,by omega,fj⟩
  ·intro XY kU S0 Dw hL
   have Ta:XY<kU.size:=(hL).head.lt
   replace Dw:=Dw.aF
   have XZ:=Dw.size
   replace fj:=fj.aA Dw
   refine⟨?_,?_,?_⟩
   ·refine cp fj fun X1 yT fx Dx=>⟨X1,_,rfl,hL.aB Dx,?_⟩
    replace hL:=hL.aB Dx
    have X2:=Dx.size
    replace fj:=fj.aA Dx
    refine⟨?_,?_⟩
    ·refine mk fj fun X3 X4 IE yU=>⟨X3,rfl,hL.aB yU,?_⟩
     replace hL:=hL.aB yU
     have X5:=yU.size
     replace fx:=fx.no yU
     replace fj:=fj.aA yU
     intro X6 X7 Tb uz hL
     have Tc:X6<X7.size:=(hL).head.lt
     replace uz:=uz.cB (lo:=h3.size) (hi:=kU.size) ⟨⟨by omega,by omega⟩,trivial⟩
     have X8:=uz.size
     replace fx:=fx.iv uz (by omega)
     replace IE:=IE.iv uz (by omega)
     replace fj:=fj.aJ uz (by omega)
     exact⟨rfl,kU.size,yT.size,yT.size,X4.size,fx,IE,by omega,by omega,by omega,by omega,by omega,by omega,by omega,by omega,by omega,by omega,by omega,by omega,fj⟩
    ·intro X9 IF Td yV hL
     have Te:X9<IF.size:=(hL).head.lt
     replace yV:=yV.aF
     have Ya:=yV.size
     replace fx:=fx.no yV
     replace fj:=fj.aA yV
     refine⟨?_,?_⟩
     ·refine mk fj fun Yb Yc Dy yW=>⟨Yb,rfl,hL.aB yW,?_⟩
      replace hL:=hL.aB yW
      have Yd:=yW.size
      replace fx:=fx.no yW
      replace fj:=fj.aA yW
      intro ajt Dz hL
      have Ye:=Dz.size
      replace fx:=fx.fr Dz fun k hk aI=>by have h1:=(fx.aH hk).1;have h2:=h1.1;have h3:=h1.2;simp only[In,List.mem_cons,List.not_mem_nil,or_false]at aI;omega
      replace Dy:=Dy.fr Dz fun k hk aI=>by have h1:=(Dy.aH hk).1;have h2:=h1.1;have h3:=h1.2;simp only[In,List.mem_cons,List.not_mem_nil,or_false]at aI;omega
      replace fj:=fj.fresh Dz fun k hk=>by simp only[In,List.mem_cons,List.not_mem_nil,or_false]at hk;omega
      exact⟨rfl,kU.size,yT.size,IF.size,Yc.size,fx,Dy,by omega,by omega,by omega,by omega,by omega,by omega,by omega,by omega,by omega,by omega,by omega,by omega,fj⟩
     ·intro Yf yX hL
      replace yX:=yX.cB (lo:=h3.size) (hi:=kU.size) ⟨⟨by omega,by omega⟩,trivial⟩
      have Yg:=yX.size
      replace fx:=fx.iv yX (by omega)
      replace fj:=fj.aJ yX (by omega)
      refine mk fj fun Yh Yi IG yY=>⟨Yh,rfl,hL.aB yY,?_⟩
      replace hL:=hL.aB yY
      have Yj:=yY.size
      replace fx:=fx.no yY
      replace fj:=fj.aA yY
      intro aju uA hL
      replace uA:=uA.cB (lo:=yT.size) (hi:=IF.size) ⟨⟨by omega,by omega⟩,trivial⟩
      have Yk:=uA.size
      replace fx:=fx.iv uA (by omega)
      replace IG:=IG.iv uA (by omega)
      replace fj:=fj.aJ uA (by omega)
      exact⟨rfl,kU.size,yT.size,Yf.size,Yi.size,fx,IG,by omega,by omega,by omega,by omega,by omega,by omega,by omega,by omega,by omega,by omega,by omega,by omega,fj⟩
   ·refine mk fj fun Yl IH jq DA=>⟨Yl,rfl,hL.aB DA,?_⟩
    replace hL:=hL.aB DA
    have Ym:=DA.size
    replace fj:=fj.aA DA
    refine⟨?_,?_⟩
    ·refine cp fj fun Yn Yo II yZ=>⟨Yn,_,rfl,hL.aB yZ,?_⟩
     replace hL:=hL.aB yZ
     have Yp:=yZ.size
     replace jq:=jq.no yZ
     replace fj:=fj.aA yZ
     intro Yq Yr Tf uB hL
     have Tg:Yq<Yr.size:=(hL).head.lt
     replace uB:=uB.cB (lo:=h3.size) (hi:=kU.size) ⟨⟨by omega,by omega⟩,trivial⟩
     have Ys:=uB.size
     replace jq:=jq.iv uB (by omega)
     replace II:=II.iv uB (by omega)
     replace fj:=fj.aJ uB (by omega)
     exact⟨rfl,IH.size,Yo.size,kU.size,IH.size,II,jq,by omega,by omega,by omega,by omega,by omega,by omega,by omega,by omega,by omega,by omega,by omega,by omega,fj⟩
    ·intro Yt OZ Th y0 hL
     have Ti:Yt<OZ.size:=(hL).head.lt
     replace y0:=y0.aF
     have Yu:=y0.size
     replace jq:=jq.no y0
     replace fj:=fj.aA y0
     refine cp fj fun Yw Yy DB y9=>⟨Yw,_,rfl,hL.aB y9,?_⟩
     replace hL:=hL.aB y9
     have Yz:=y9.size
     replace jq:=jq.no y9
     replace fj:=fj.aA y9
     intro ajv DC hL
     have YA:=DC.size
     replace jq:=jq.fr DC fun k hk aI=>by have h1:=(jq.aH hk).1;have h2:=h1.1;have h3:=h1.2;simp only[In,List.mem_cons,List.not_mem_nil,or_false]at aI;omega
     replace DB:=DB.fr DC fun k hk aI=>by have h1:=(DB.aH hk).1;have h2:=h1.1;have h3:=h1.2;simp only[In,List.mem_cons,List.not_mem_nil,or_false]at aI;omega
     replace fj:=fj.fresh DC fun k hk=>by simp only[In,List.mem_cons,List.not_mem_nil,or_false]at hk;omega
     exact⟨rfl,OZ.size,Yy.size,kU.size,IH.size,DB,jq,by omega,by omega,by omega,by omega,by omega,by omega,by omega,by omega,by omega,by omega,by omega,by omega,fj⟩
   ·intro YB za Tj DD hL
    have Tk:YB<za.size:=(hL).head.lt
    replace DD:=DD.aF
    have YC:=DD.size
    replace fj:=fj.aA DD
    refine⟨?_,?_⟩
    ·refine cp fj fun YD IJ jr DE=>⟨YD,_,rfl,hL.aB DE,?_⟩
     replace hL:=hL.aB DE
     have YE:=DE.size
     replace fj:=fj.aA DE
     refine⟨?_,?_⟩
     ·refine mk fj fun YF YG DF zc=>⟨YF,rfl,hL.aB zc,?_⟩
      replace hL:=hL.aB zc
      have YH:=zc.size
      replace jr:=jr.no zc
      replace fj:=fj.aA zc
      intro ajw DG hL
      have YI:=DG.size
      replace jr:=jr.fr DG fun k hk aI=>by have h1:=(jr.aH hk).1;have h2:=h1.1;have h3:=h1.2;simp only[In,List.mem_cons,List.not_mem_nil,or_false]at aI;omega
      replace DF:=DF.fr DG fun k hk aI=>by have h1:=(DF.aH hk).1;have h2:=h1.1;have h3:=h1.2;simp only[In,List.mem_cons,List.not_mem_nil,or_false]at aI;omega
      replace fj:=fj.fresh DG fun k hk=>by simp only[In,List.mem_cons,List.not_mem_nil,or_false]at hk;omega
      exact⟨rfl,za.size,IJ.size,IJ.size,YG.size,jr,DF,by omega,by omega,by omega,by omega,by omega,by omega,by omega,by omega,by omega,by omega,by omega,by omega,fj⟩
     ·intro YJ zd hL
      replace zd:=zd.cB (lo:=h3.size) (hi:=kU.size) ⟨⟨by omega,by omega⟩,trivial⟩
      have YK:=zd.size
      replace jr:=jr.iv zd (by omega)
      replace fj:=fj.aJ zd (by omega)
      refine mk fj fun YL YM IK ze=>⟨YL,rfl,hL.aB ze,?_⟩
      replace hL:=hL.aB ze
      have YN:=ze.size
      replace jr:=jr.no ze
      replace fj:=fj.aA ze
      intro ajx uC hL
      replace uC:=uC.cB (lo:=kU.size) (hi:=za.size) ⟨⟨by omega,by omega⟩,trivial⟩
      have YO:=uC.size
      replace jr:=jr.iv uC (by omega)
      replace IK:=IK.iv uC (by omega)
      replace fj:=fj.aJ uC (by omega)
      exact⟨rfl,za.size,IJ.size,YJ.size,YM.size,jr,IK,by omega,by omega,by omega,by omega,by omega,by omega,by omega,by omega,by omega,by omega,by omega,by omega,fj⟩
    ·refine mk fj fun YP O0 uD DH=>⟨YP,rfl,hL.aB DH,?_⟩
     replace hL:=hL.aB DH
     have YQ:=DH.size
     replace fj:=fj.aA DH
     refine cp fj fun YR YS DI zf=>⟨YR,_,rfl,hL.aB zf,?_⟩
     replace hL:=hL.aB zf
     have YT:=zf.size
     replace uD:=uD.no zf
     replace fj:=fj.aA zf
     intro ajy DJ hL
     have YU:=DJ.size
     replace uD:=uD.fr DJ fun k hk aI=>by have h1:=(uD.aH hk).1;have h2:=h1.1;have h3:=h1.2;simp only[In,List.mem_cons,List.not_mem_nil,or_false]at aI;omega
     replace DI:=DI.fr DJ fun k hk aI=>by have h1:=(DI.aH hk).1;have h2:=h1.1;have h3:=h1.2;simp only[In,List.mem_cons,List.not_mem_nil,or_false]at aI;omega
     replace fj:=fj.fresh DJ fun k hk=>by simp only[In,List.mem_cons,List.not_mem_nil,or_false]at hk;omega
     exact⟨rfl,O0.size,YS.size,za.size,O0.size,DI,uD,by omega,by omega,by omega,by omega,by omega,by omega,by omega,by omega,by omega,by omega,by omega,by omega,fj⟩
  ·intro YV gD Tl DK hL
   have Tm:YV<gD.size:=(hL).head.lt
   replace DK:=DK.aF
   have YW:=DK.size
   replace fj:=fj.aA DK
   refine⟨?_,?_,?_⟩
   ·refine cp fj fun YX pp fy DL=>⟨YX,_,rfl,hL.aB DL,?_⟩
    replace hL:=hL.aB DL
    have YY:=DL.size
    replace fj:=fj.aA DL
    refine⟨?_,?_⟩
    ·refine mk fj fun YZ O8 IL zg=>⟨YZ,rfl,hL.aB zg,?_⟩
     replace hL:=hL.aB zg
     have Y0:=zg.size
     replace fy:=fy.no zg
     replace fj:=fj.aA zg
     intro Y1 Pa Tp uE hL
     have Tq:Y1<Pa.size:=(hL).head.lt
     replace uE:=uE.cB (lo:=h3.size) (hi:=gD.size) ⟨⟨by omega,by omega⟩,trivial⟩
     have Y2:=uE.size
     replace fy:=fy.iv uE (by omega)
     replace IL:=IL.iv uE (by omega)
     replace fj:=fj.aJ uE (by omega)
     exact⟨rfl,gD.size,pp.size,pp.size,O8.size,fy,IL,by omega,by omega,by omega,by omega,by omega,by omega,by omega,by omega,by omega,by omega,by omega,by omega,fj⟩
    ·intro Y3 zh Tr zi hL
     have Tt:Y3<zh.size:=(hL).head.lt
     replace zi:=zi.aF
     have Y4:=zi.size
     replace fy:=fy.no zi
     replace fj:=fj.aA zi
     refine⟨?_,?_⟩
     ·refine mk fj fun Y5 Pb DM zj=>⟨Y5,rfl,hL.aB zj,?_⟩
      replace hL:=hL.aB zj
      have Y6:=zj.size
      replace fy:=fy.no zj
      replace fj:=fj.aA zj
      intro acz DN hL
      have Y7:=DN.size
      replace fy:=fy.fr DN fun k hk aI=>by have h1:=(fy.aH hk).1;have h2:=h1.1;have h3:=h1.2;simp only[In,List.mem_cons,List.not_mem_nil,or_false]at aI;omega
      replace DM:=DM.fr DN fun k hk aI=>by have h1:=(DM.aH hk).1;have h2:=h1.1;have h3:=h1.2;simp only[In,List.mem_cons,List.not_mem_nil,or_false]at aI;omega
      replace fj:=fj.fresh DN fun k hk=>by simp only[In,List.mem_cons,List.not_mem_nil,or_false]at hk;omega
      exact⟨rfl,gD.size,pp.size,zh.size,Pb.size,fy,DM,by omega,by omega,by omega,by omega,by omega,by omega,by omega,by omega,by omega,by omega,by omega,by omega,fj⟩
     ·intro Pc zk hL
      replace zk:=zk.cB (lo:=pp.size) (hi:=zh.size) ⟨⟨by omega,by omega⟩,trivial⟩
      have Y8:=zk.size
      replace fy:=fy.iv zk (by omega)
      replace fj:=fj.aJ zk (by omega)
      refine mk fj fun Y9 Pd IM zm=>⟨Y9,rfl,hL.aB zm,?_⟩
      replace hL:=hL.aB zm
      have Za:=zm.size
      replace fy:=fy.no zm
      replace fj:=fj.aA zm
      intro acA uF hL
      replace uF:=uF.cB (lo:=h3.size) (hi:=gD.size) ⟨⟨by omega,by omega⟩,trivial⟩
      have Zb:=uF.size
      replace fy:=fy.iv uF (by omega)
      replace IM:=IM.iv uF (by omega)
      replace fj:=fj.aJ uF (by omega)
      exact⟨rfl,gD.size,pp.size,Pc.size,Pd.size,fy,IM,by omega,by omega,by omega,by omega,by omega,by omega,by omega,by omega,by omega,by omega,by omega,by omega,fj⟩
   ·refine mk fj fun Zc zn js DO=>⟨Zc,rfl,hL.aB DO,?_⟩
    replace hL:=hL.aB DO
    have Zd:=DO.size
    replace fj:=fj.aA DO
    refine⟨?_,?_⟩
    ·refine cp fj fun Ze Pe IP zo=>⟨Ze,_,rfl,hL.aB zo,?_⟩
     replace hL:=hL.aB zo
     have Zf:=zo.size
     replace js:=js.no zo
     replace fj:=fj.aA zo
     intro Zg Pf Tu uG hL
     have Tw:Zg<Pf.size:=(hL).head.lt
     replace uG:=uG.cB (lo:=h3.size) (hi:=gD.size) ⟨⟨by omega,by omega⟩,trivial⟩
     have Zh:=uG.size
     replace js:=js.iv uG (by omega)
     replace IP:=IP.iv uG (by omega)
     replace fj:=fj.aJ uG (by omega)
     exact⟨rfl,zn.size,Pe.size,gD.size,zn.size,IP,js,by omega,by omega,by omega,by omega,by omega,by omega,by omega,by omega,by omega,by omega,by omega,by omega,fj⟩
    ·intro Zi Gc Tx zp hL
     have Ty:Zi<Gc.size:=(hL).head.lt
     replace zp:=zp.aF
     have Zj:=zp.size
     replace js:=js.no zp
     replace fj:=fj.aA zp
     refine cp fj fun Zk Pg DP zq=>⟨Zk,_,rfl,hL.aB zq,?_⟩
     replace hL:=hL.aB zq
     have Zl:=zq.size
     replace js:=js.no zq
     replace fj:=fj.aA zq
     intro acB DQ hL
     have Zm:=DQ.size
     replace js:=js.fr DQ fun k hk aI=>by have h1:=(js.aH hk).1;have h2:=h1.1;have h3:=h1.2;simp only[In,List.mem_cons,List.not_mem_nil,or_false]at aI;omega
     replace DP:=DP.fr DQ fun k hk aI=>by have h1:=(DP.aH hk).1;have h2:=h1.1;have h3:=h1.2;simp only[In,List.mem_cons,List.not_mem_nil,or_false]at aI;omega
     replace fj:=fj.fresh DQ fun k hk=>by simp only[In,List.mem_cons,List.not_mem_nil,or_false]at hk;omega
     exact⟨rfl,Gc.size,Pg.size,gD.size,zn.size,DP,js,by omega,by omega,by omega,by omega,by omega,by omega,by omega,by omega,by omega,by omega,by omega,by omega,fj⟩
   ·intro Zn pq Tz DR hL
    have TA:Zn<pq.size:=(hL).head.lt
    replace DR:=DR.aF
    have Zo:=DR.size
    replace fj:=fj.aA DR
    refine⟨?_,?_⟩
    ·refine cp fj fun Zp zr jt DS=>⟨Zp,_,rfl,hL.aB DS,?_⟩
     replace hL:=hL.aB DS
     have Zq:=DS.size
     replace fj:=fj.aA DS
     refine⟨?_,?_⟩
     ·refine mk fj fun Zr Ph DT zt=>⟨Zr,rfl,hL.aB zt,?_⟩
      replace hL:=hL.aB zt
      have Zs:=zt.size
      replace jt:=jt.no zt
      replace fj:=fj.aA zt
      intro acC DU hL
      have Zt:=DU.size
      replace jt:=jt.fr DU fun k hk aI=>by have h1:=(jt.aH hk).1;have h2:=h1.1;have h3:=h1.2;simp only[In,List.mem_cons,List.not_mem_nil,or_false]at aI;omega
      replace DT:=DT.fr DU fun k hk aI=>by have h1:=(DT.aH hk).1;have h2:=h1.1;have h3:=h1.2;simp only[In,List.mem_cons,List.not_mem_nil,or_false]at aI;omega
      replace fj:=fj.fresh DU fun k hk=>by simp only[In,List.mem_cons,List.not_mem_nil,or_false]at hk;omega
      exact⟨rfl,pq.size,zr.size,zr.size,Ph.size,jt,DT,by omega,by omega,by omega,by omega,by omega,by omega,by omega,by omega,by omega,by omega,by omega,by omega,fj⟩
     ·intro Pj zu hL
      replace zu:=zu.cB (lo:=gD.size) (hi:=pq.size) ⟨⟨by omega,by omega⟩,trivial⟩
      have Zu:=zu.size
      replace jt:=jt.iv zu (by omega)
      replace fj:=fj.aJ zu (by omega)
      refine mk fj fun Zv Pk IQ zw=>⟨Zv,rfl,hL.aB zw,?_⟩
      replace hL:=hL.aB zw
      have Zw:=zw.size
      replace jt:=jt.no zw
      replace fj:=fj.aA zw
      intro acD uH hL
      replace uH:=uH.cB (lo:=h3.size) (hi:=gD.size) ⟨⟨by omega,by omega⟩,trivial⟩
      have Zx:=uH.size
      replace jt:=jt.iv uH (by omega)
      replace IQ:=IQ.iv uH (by omega)
      replace fj:=fj.aJ uH (by omega)
      exact⟨rfl,pq.size,zr.size,Pj.size,Pk.size,jt,IQ,by omega,by omega,by omega,by omega,by omega,by omega,by omega,by omega,by omega,by omega,by omega,by omega,fj⟩
    ·refine mk fj fun Zy Gd uI DV=>⟨Zy,rfl,hL.aB DV,?_⟩
     replace hL:=hL.aB DV
     have Zz:=DV.size
     replace fj:=fj.aA DV
     refine cp fj fun ZA Pl DW zx=>⟨ZA,_,rfl,hL.aB zx,?_⟩
     replace hL:=hL.aB zx
     have ZB:=zx.size
     replace uI:=uI.no zx
     replace fj:=fj.aA zx
     intro acE DX hL
     have ZC:=DX.size
     replace uI:=uI.fr DX fun k hk aI=>by have h1:=(uI.aH hk).1;have h2:=h1.1;have h3:=h1.2;simp only[In,List.mem_cons,List.not_mem_nil,or_false]at aI;omega
     replace DW:=DW.fr DX fun k hk aI=>by have h1:=(DW.aH hk).1;have h2:=h1.1;have h3:=h1.2;simp only[In,List.mem_cons,List.not_mem_nil,or_false]at aI;omega
     replace fj:=fj.fresh DX fun k hk=>by simp only[In,List.mem_cons,List.not_mem_nil,or_false]at hk;omega
     exact⟨rfl,Gd.size,Pl.size,pq.size,Gd.size,DW,uI,by omega,by omega,by omega,by omega,by omega,by omega,by omega,by omega,by omega,by omega,by omega,by omega,fj⟩
 rintro bN x1 x2 bO x3 zy ⟨rfl,i1,j1,i2,j2,o1,o2,d12,dN1,dN2,dO1,dO2,e1,e2',e3,e4,e5,e6,dZ,f134⟩ kV
 have f0:=gr.aA f134
 have ajA:=f134.size
 have lO:bO<zy.size:=kV.head.lt
 have lN:bN<zy.size:=kV.tail.head.lt
 have ZD:bU (fun k=>k<h3.size) zy g aD:=(G.no gr).low.no f134
 have xN:¬x1.own bN:=fun hk=>by have h1:=(o1.aH hk).1.1;have h2:=(o1.aH hk).1.2;omega
 have xO:¬x3.own bO:=fun hk=>by have h1:=(o2.aH hk).1.1;have h2:=(o2.aH hk).1.2;omega
 have x1O:¬x1.own bO:=fun hk=>by have h1:=(o1.aH hk).1.1;have h2:=(o1.aH hk).1.2;omega
 have x3N:¬x3.own bN:=fun hk=>by have h1:=(o2.aH hk).1.1;have h2:=(o2.aH hk).1.2;omega
 have JS:∀k,x1.own k->¬x3.own k:=fun k h1 h3=>by have a1:=(o1.aH h1).1.1;have a2:=(o1.aH h1).1.2;have a3:=(o2.aH h3).1.1;have a4:=(o2.aH h3).1.2;omega
 have x1g:∀k,x1.own k->h3.size<=k/\k<zy.size:=fun k hk=>⟨by have:=(o1.aH hk).1.1;omega,(o1.aH hk).2⟩
 have x3g:∀k,x3.own k->h3.size<=k/\k<zy.size:=fun k hk=>⟨by have:=(o2.aH hk).1.1;omega,(o2.aH hk).2⟩
 --what the ZE region and the other one are off
 have qh:∀k,(k=bN\/x1.own k)\/(k=bO\/x3.own k)->h3.size<=k:=fun k hk=>by
  rcases hk with(rfl|hk)|(rfl|hk)
  ·omega
  ·exact(x1g k hk).1
  ·omega
  ·exact(x3g k hk).1
 refine NF (s0:=(rs,x2)) (F:=fun k=>k=bN\/x1.own k) (S:=fun k=>k<h3.size) HJ
  (fun N t h'=>∃o:Sl,dC h' bO [o.v]/\bL h' (fun k=>h3.size<=k) o t/\∀k,o.own k->x3.own k\/N<=k) (fun k=>k=bO\/x3.own k)
  ZD kV.tail.head (o1.mono fun k hk _=> .inr hk) (fun k hk=>⟨fun h=>by have:=qh k (.inl h);omega,fun h=>by have:=qh k (.inr h);omega⟩) (.inl rfl) xN W n (by omega) (by omega) _ (List.replicate aD.length 0)
  (fun k hk=>by rcases hk with rfl|hk;exact lN;exact(x1g k hk).2)
  (fun k hk=>⟨fun h=>by
   rcases hk with rfl|hk<;>rcases h with rfl|h
   ·exact dZ rfl
   ·exact x1O h
   ·exact x3N hk
   ·exact JS k h hk,by rcases hk with rfl|hk;exact lO;exact(x3g k hk).2⟩)
  (fun N hN=>⟨x3,kV.head,o2.mono fun k _ hk=>by have:=hk.1;omega,fun k hk=> .inl hk⟩)
  (fun N t h1 h2 U ⟨o,v1,v2,v3⟩ f hU=>⟨o,v1.fr f fun h=>(hU _ h).1 (.inl rfl),v2.fr f fun k hk aI=>by
   rcases v3 k hk with h|h
   ·exact(hU k aI).1 (.inr h)
   ·have:=(hU k aI).2;omega,v3⟩)
  (fun N t s s' h1 K hN hN2 ⟨o,v1,v2,v3⟩ V O W hs hm HK=> ?_) _ (fun hr N t h9 q hN ⟨o,v1,v2,v3⟩ v9 f9=> ?_) fun t' s' hr N h9 hN ⟨o,v1,v2,v3⟩ o9 W9 v9 f9=> ?_
 ·obtain⟨m,hm,hr⟩:=hm
  have hl:=zz m 0 _ _ _ _ (fun x hx=>by simp only[List.mem_replicate]at hx;omega) hr
  have ob:¬o.own bO:=fun hk=>by
   rcases v3 _ hk with h|h
   ·exact xO h
   ·omega
  have ob':¬o.own bN:=fun hk=>by
   rcases v3 _ hk with h|h
   ·exact x3N h
   ·omega
  have W':=W.step hs
  have ht:t.length=aD.length:=by rw[hl.1];simp
  refine ZF v1 V dZ v2 ob ob' W'.lo (by rw[ht];exact W'.hi) (fun x hx=>by have:=hl.2 x hx;omega) s.2 K fun h2 v w1 w2 w4=>HK h2 v ⟨o,w1,w2,v3⟩ (w4.mono fun k _ hk=>(v3 k hk).imp .inr id)
 ·have fQ:Vars h9 [(bO,[o.v]),(bN,[x1.v,VI q]),(b2,[w.v,VI x2]),(b1,[g.v])]:= .cons v1 (fun p hp=>by
   have:=kV.ne
   simp only[List.mem_cons,List.not_mem_nil,or_false]at hp
   rcases hp with rfl|rfl|rfl<;>simp only<;>omega) (.cons v9 (fun p hp=>by
   simp only[List.mem_cons,List.not_mem_nil,or_false]at hp
   rcases hp with rfl|rfl<;>simp only<;>omega) (kV.tail.tail.fr f9 fun p hp hk=>by
   have:=qh _ hk
   simp only[List.mem_cons,List.not_mem_nil,or_false]at hp
   rcases hp with rfl|rfl<;>simp only at this<;>omega))
  refine⟨o,x1,q,false,rfl,fQ,fun _=> ?_,fun e=>by simp at e⟩
  rw[hr]at e2
  exact no e2 h9 (f0.fresh f9 fun k hk=>by have:=qh k hk;omega)
 ·have fQ:Vars h9 [(bO,[o.v]),(bN,[x1.v,VI s'.2]),(b2,[w.v,VI x2]),(b1,[g.v])]:= .cons v1 (fun p hp=>by
   simp only[List.mem_cons,List.not_mem_nil,or_false]at hp
   rcases hp with rfl|rfl|rfl<;>simp only<;>omega) (.cons v9 (fun p hp=>by
   simp only[List.mem_cons,List.not_mem_nil,or_false]at hp
   rcases hp with rfl|rfl<;>simp only<;>omega) (kV.tail.tail.fr f9 fun p hp hk=>by
   have:=qh _ hk
   simp only[List.mem_cons,List.not_mem_nil,or_false]at hp
   rcases hp with rfl|rfl<;>simp only at this<;>omega))
  refine⟨o,x1,s'.2,true,rfl,fQ,fun e=>by simp at e,fun _=> ?_⟩
  rw[hr]at e2
  have:=HK o h9 (by rw[e2];exact v2.mono fun k hk hF=>⟨by omega,(v2.aH hk).2⟩) (f0.fresh f9 fun k hk=>by have:=qh k hk;omega)
  rw[e2]at this
  exact this
end Go.Proofs.YtcnfcnoooecchaaGreatDoor
