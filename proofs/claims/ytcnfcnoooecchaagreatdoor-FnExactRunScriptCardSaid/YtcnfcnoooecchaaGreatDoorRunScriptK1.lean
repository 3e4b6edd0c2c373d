import Derived.Test.YtcnfcnoooecchaaGreatDoorRunScriptK0
set_option linter.unusedVariables false
set_option linter.unusedSimpArgs false
namespace Go.Proofs.YtcnfcnoooecchaaGreatDoor
open Go Go.Mx
theorem Fa(b:Int)(A:jO):∀n,cH n (fun i j=>b*A i j)=b^n*cH n A
 |0=>by simp[cH]
 |n+1=>by
  rw[cH,cH,<-mg]
  refine cC fun k hk=> ?_
  (try simp only)
  rw[Fa b (fun i j=>A (i+1) (fm k j)) n,Int.pow_succ,Int.mul_left_comm (jS k),Int.mul_assoc b,Int.mul_left_comm,Int.mul_comm (b^n) b,Int.mul_assoc b,Int.mul_left_comm (b^n),<-Int.mul_assoc]
  first
  |done
  |simp only[Int.mul_assoc,Int.mul_comm,Int.mul_left_comm]
def lP(m:Nat)(r:Nat->Nat)(i:Nat):Nat:=if i<m then i else m+r (i-m)
def sA(n m:Nat)(last:Int)(O A:jO):Prop:=
 ∀(k:Nat)(r c:Nat->Nat),(∀i,i<=k->r i<n-m)->(∀i,i<=k->c i<n-m)->cH (k+1) (fun i j=>A (r i) (c j))=last^k*cH (m+k+1) (fun i j=>O (lP m r i) (lP m c j))
theorem sA.start(n:Nat)(O:jO):sA n 0 1 O O:=fun k r c hr hc=>by
 rw[Int.one_pow,Int.one_mul,Nat.zero_add]
 exact dG fun i j _ _=>by simp[lP]
theorem Rp(A:jO):cH 1 A=A 0 0:=by simp[cH,bG,jS]
theorem Rq(A:jO):cH 2 A=A 0 0*A 1 1-A 1 0*A 0 1:=by
 simp only[cH,bG,jS,fm]
 simp
 rw[Int.neg_mul,Int.mul_comm (A 0 1)]
 omega
theorem sA.ent{n m:Nat}{last:Int}{O A:jO}(H:sA n m last O A){i j:Nat}(hi:i<n-m)(hj:j<n-m):A i j=cH (m+1) (fun a b=>O (lP m (fun _=>i) a) (lP m (fun _=>j) b)):=by
 have:=H 0 (fun _=>i) (fun _=>j) (fun _ _=>hi) (fun _ _=>hj)
 rw[Rp,Int.pow_zero,Int.one_mul]at this
 exact this
def NO(r:Nat->Nat):Nat->Nat
 |0=>0
 |i+1=>r i+1
theorem JN(m:Nat)(r:Nat->Nat)(i:Nat):lP m (NO r) i=lP (m+1) r i:=by
 unfold lP
 by_cases h:i<m
 ·rw[if_pos h,if_pos (by omega)]
 ·rw[if_neg h]
  by_cases e:i=m
  ·subst e;rw[if_pos (by omega),Nat.sub_self];rfl
  ·rw[if_neg (by omega)]
   obtain⟨d,rfl⟩:∃d,i=m+1+d:=⟨i-(m+1),by omega⟩
   rw[show m+1+d-m=d+1 by omega,show m+1+d-(m+1)=d by omega]
   show m+(r d+1)=_
   omega
theorem sA.exact{n m:Nat}{last:Int}{O A:jO}(H:sA n m last O A){i j:Nat}(hi:i+1<n-m)(hj:j+1<n-m):∃q,CC A i j=last*q:=by
 have:=H 1 (NO fun _=>i) (NO fun _=>j) (fun a ha=>by cases a with|zero=>exact(by show 0<_;omega)|succ a=>exact hi) (fun a ha=>by cases a with|zero=>exact(by show 0<_;omega)|succ a=>exact hj)
 rw[Rq]at this
 exact⟨_,by unfold CC;rw[Int.pow_one]at this;exact this⟩
theorem JO{a b q:Int}(h:a=b*q)(hb:b≠0):a.tdiv b=q:=by rw[h];exact Int.mul_tdiv_cancel_left _ hb
theorem sA.step{n m:Nat}{last:Int}{O A A':jO}(H:sA n m last O A)(hl:last≠0)(ha:A 0 0≠0)(hA:∀i j,i+1<n-m->j+1<n-m->A' i j=(CC A i j).tdiv last):sA n (m+1) (A 0 0) O A':=fun k r c hr hc=>by
 have e1:cH (k+1) (fun i j=>last*A' (r i) (c j))=cH (k+1) (CC fun i j=>A (NO r i) (NO c j)):=dG fun i j hi hj=>by
  have iG:=hr i (by omega)
  have Fb:=hc j (by omega)
  (try simp only)
  obtain⟨q,hq⟩:=H.exact (i:=r i) (j:=c j) (by omega) (by omega)
  rw[hA _ _ (by omega) (by omega),JO hq hl,<-hq]
  rfl
 rw[Fa last (fun i j=>A' (r i) (c j))]at e1
 have e2:=NN (n:=k) (B:=fun i j=>A (NO r i) (NO c j)) ha
 have e3:=H (k+1) (NO r) (NO c) (fun i hi=>by cases i with|zero=>exact(by have:=hr 0 (by omega);show 0<_;omega)|succ i=>exact(by have:=hr i (by omega);show r i+1<_;omega)) (fun i hi=>by cases i with|zero=>exact(by have:=hc 0 (by omega);show 0<_;omega)|succ i=>exact(by have:=hc i (by omega);show c i+1<_;omega))
 rw[<-e2,e3]at e1
 have e4:(fun i j=>O (lP m (NO r) i) (lP m (NO c) j))=fun i j=>O (lP (m+1) r i) (lP (m+1) c j):=by funext i j;rw[JN,JN]
 rw[e4,Int.mul_left_comm]at e1
 have e5:=(Int.mul_eq_mul_left_iff (show last^(k+1)≠0 from Int.pow_ne_zero hl)).1 e1
 rw[e5,show m+(k+1)+1=m+1+k+1 by omega]
 rfl
theorem sA.swap{n m p:Nat}{last:Int}{O A:jO}(H:sA n m last O A)(hp:p<n-m):sA n m last (fun i=>O (fy m (m+p) i)) (fun i=>A (fy 0 p i)):=fun k r c hr hc=>by
 have:=H k (fun i=>fy 0 p (r i)) c (fun i hi=>by have:=hr i hi;unfold fy;split<;>(try split)<;>omega) hc
 (try simp only)
 rw[this]
 congr 2
 funext i j
 congr 1
 unfold lP
 by_cases h:i<m
 ·rw[if_pos h,if_pos h];unfold fy;rw[if_neg (by omega),if_neg (by omega)]
 ·rw[if_neg h,if_neg h]
  show m+fy 0 p (r (i-m))=fy m (m+p) (m+r (i-m))
  generalize r (i-m)=x
  unfold fy
  by_cases a:x=0
  ·rw[if_pos a,if_pos (show m+x=m by omega)]
  ·rw[if_neg a,if_neg (show¬m+x=m by omega)]
   by_cases b:x=p
   ·rw[if_pos b,if_pos (show m+x=m+p by omega)];omega
   ·rw[if_neg b,if_neg (show¬m+x=m+p by omega)]
theorem JP(m i:Nat):lP m (fun x=>x) i=i:=by unfold lP;split<;>(try simp only)<;>omega
theorem sA.none{n m:Nat}{last:Int}{O A:jO}(H:sA n m last O A)(hm:m<n)(hl:last≠0)(h0:∀i,i<n-m->A i 0=0):cH n O=0:=by
 have:=H (n-m-1) (fun x=>x) (fun x=>x) (fun i hi=>by omega) (fun i hi=>by omega)
 rw[xR (fun i j=>A i j) fun i hi=>h0 i (by omega)]at this
 have e:(fun i j=>O (lP m (fun x=>x) i) (lP m (fun x=>x) j))=O:=by funext i j;rw[JP,JP]
 rw[e,show m+(n-m-1)+1=n by omega]at this
 rcases Int.mul_eq_zero.1 this.symm with h|h
 ·exact absurd h (Int.pow_ne_zero hl)
 ·exact h
theorem sA.last{n m:Nat}{last:Int}{O A:jO}(H:sA n m last O A)(hm:m+1=n):A 0 0=cH n O:=by
 rw[H.ent (i:=0) (j:=0) (by omega) (by omega),hm]
 have e:(fun a b=>O (lP m (fun _=>0) a) (lP m (fun _=>0) b))=fun a b=>O (if a<m then a else m) (if b<m then b else m):=by funext a b;rfl
 rw[e]
 refine dG fun i j hi hj=> ?_
 rw[show(if i<m then i else m)=i by split<;>omega,show(if j<m then j else m)=j by split<;>omega]
def GG:Nat->Nat
 |0=>1
 |n+1=>(n+1)*10*GG n
theorem qT{f:Nat->Int}{b:Nat}:∀{n:Nat},(∀i,i<n->(f i).natAbs<=b)->(bG f n).natAbs<=n*b
 |0,_=>by simp[bG]
 |n+1,h=>by
  rw[bG]
  have h1:=qT (f:=f) (b:=b) (n:=n) fun i hi=>h i (by omega)
  have h2:=h n (by omega)
  have h3:=Int.natAbs_add_le (bG f n) (f n)
  rw[Nat.succ_mul]
  omega
theorem JQ(k:Nat):(jS k).natAbs=1:=by unfold jS;split<;>rfl
theorem mm:∀{n:Nat}{A:jO},(∀i j,i<n->j<n->(A i j).natAbs<=10)->(cH n A).natAbs<=GG n
 |0,_,_=>by simp[cH,GG]
 |n+1,A,h=>by
  rw[cH,GG,Nat.mul_assoc]
  refine qT fun k hk=> ?_
  (try simp only)
  rw[Int.natAbs_mul,Int.natAbs_mul,JQ,Nat.one_mul]
  exact Nat.mul_le_mul (h 0 k (by omega) hk) (mm fun i j hi hj=>h (i+1) (fm k j) (by omega) (by unfold fm;split<;>omega))
theorem xT:∀{n m:Nat},n<=m->GG n<=GG m
 |n,0,h=>by rw[show n=0 by omega];exact Nat.le_refl _
 |n,m+1,h=>by
  by_cases e:n=m+1
  ·rw[e];exact Nat.le_refl _
  ·have h1:=xT (n:=n) (m:=m) (by omega)
   have h2:GG m<=GG (m+1):=by rw[GG];exact Nat.le_mul_of_pos_left _ (by omega)
   omega
def Small(n:Nat)(O:jO):Prop:=∀i j,i<n->j<n->(O i j).natAbs<=10
theorem sA.abN{n m:Nat}{last:Int}{O A:jO}(H:sA n m last O A)(hO:Small n O){i j:Nat}(hi:i<n-m)(hj:j<n-m):(A i j).natAbs<=GG (m+1):=by
 rw[H.ent hi hj]
 refine mm fun a b ha hb=>hO _ _ ?_ ?_
 ·unfold lP;split<;>(try simp only)<;>omega
 ·unfold lP;split<;>(try simp only)<;>omega
def fe(x:Int):List Int->Int
 |[]=>0
 |y::l=>(if y=x then 1 else 0)+fe x l
def CD(p q x:Int):Int:=if x=p then q else x
abbrev Tn:=List (Int×List Int)
def qU(p q:Int)(ts:Tn):Tn:=ts.map fun t=>(t.1,t.2.map (CD p q))
def nu(ts:Tn)(i:Nat):Int:=(ts.getD i (0,[])).1
def zK(ts:Tn)(i:Nat):List Int:=(ts.getD i (0,[])).2
def iy(ts:Tn):jO:=fun i j=>(if i=j then((zK ts i).length:Int)else 0)-fe (nu ts j) (zK ts i)
def Lk:Nat->Tn->Int
 |0,_=>1
 |_+1,[]=>1
 |n+1,(p,ex)::ts=>(ex.map fun q=>if q=p then 0 else Lk n (qU p q ts)).sum
theorem JR{p q x:Int}(h:x≠p):∀l:List Int,fe x (l.map (CD p q))=fe x l+(if q=x then fe p l else 0)
 |[]=>by simp[fe]
 |y::l=>by
  rw[List.map_cons,fe,fe,fe,JR h l]
  unfold CD
  by_cases a:y=p
  ·rw[if_pos a,if_neg (show¬y=x from fun e=>h (e.symm.trans a)),if_pos a]
   by_cases b:q=x
   ·rw[if_pos b,if_pos b,if_pos b];omega
   ·rw[if_neg b,if_neg b,if_neg b];omega
  ·rw[if_neg a,if_neg a]
   by_cases b:q=x
   ·rw[if_pos b,if_pos b];omega
   ·rw[if_neg b,if_neg b];omega
theorem Rr(p q:Int)(ts:Tn)(i:Nat):nu (qU p q ts) i=nu ts i:=by
 unfold nu qU
 rw[List.getD_eq_getElem?_getD,List.getD_eq_getElem?_getD,List.getElem?_map]
 cases ts[i]?<;>rfl
theorem Rs(p q:Int)(ts:Tn)(i:Nat):zK (qU p q ts) i=(zK ts i).map (CD p q):=by
 unfold zK qU
 rw[List.getD_eq_getElem?_getD,List.getD_eq_getElem?_getD,List.getElem?_map]
 cases ts[i]?<;>rfl
theorem Rt{ts:Tn}{i:Nat}(h:i<ts.length):nu ts i∈ts.map (·.1):=by
 unfold nu
 rw[List.getD_eq_getElem?_getD,List.getElem?_eq_getElem h]
 exact List.mem_map.2 ⟨_,List.getElem_mem h,rfl⟩
theorem Bg(p q:Int)(ts:Tn):(qU p q ts).map (·.1)=ts.map (·.1):=by
 unfold qU
 rw[List.map_map]
 rfl
theorem NP{n:Nat}{p q:Int}{ex:List Int}{ts:Tn}(hn:ts.length=n)(hd:((p,ex)::ts).map (·.1)|>.Nodup):
 cH (n+1) (dE (iy ((p,ex)::ts)) 0 fun j=>(if 0=j then 1 else 0)-(if q=nu ((p,ex)::ts) j then 1 else 0))=if q=p then 0 else cH n (iy (qU p q ts)):=by
 have hp:∀j,j<n->nu ((p,ex)::ts) (j+1)=nu ts j/\nu ts j≠p:=fun j hj=>⟨rfl,fun e=>by
  have h1:=Rt (ts:=ts) (i:=j) (by omega)
  rw[e]at h1
  rw[List.map_cons,List.nodup_cons]at hd
  exact hd.1 h1⟩
 have h0:nu ((p,ex)::ts) 0=p:=rfl
 by_cases e:q=p
 ·rw[if_pos e]
  rw[show cH (n+1) (dE (iy ((p,ex)::ts)) 0 fun j=>(if 0=j then 1 else 0)-(if q=nu ((p,ex)::ts) j then 1 else 0))=cH (n+1) (dE (iy ((p,ex)::ts)) 0 fun _=>0)from dG fun i j hi hj=>by
   unfold dE
   by_cases a:i=0
   ·rw[if_pos a,if_pos a]
    cases j with
    |zero=>rw[h0,if_pos rfl,if_pos e];rfl
    |succ j=>rw[(hp j (by omega)).1,if_neg (by omega),if_neg fun x=>(hp j (by omega)).2 (x.symm.trans e)];rfl
   ·rw[if_neg a,if_neg a]]
  exact nn _ (by omega)
 ·rw[if_neg e]
  rw[<-nq (n:=n) (dE (iy ((p,ex)::ts)) 0 fun j=>(if 0=j then 1 else 0)-(if q=nu ((p,ex)::ts) j then 1 else 0)) (fun r=>fe p (zK ((p,ex)::ts) r)) n (Nat.le_refl _)]
  rw[xS]
  ·have e1:(if 1<=0/\0<=n then fe p (zK ((p,ex)::ts) 0)*dE (iy ((p,ex)::ts)) 0 (fun j=>(if 0=j then 1 else 0)-(if q=nu ((p,ex)::ts) j then 1 else 0)) 0 0+dE (iy ((p,ex)::ts)) 0 (fun j=>(if 0=j then 1 else 0)-(if q=nu ((p,ex)::ts) j then 1 else 0)) 0 0 else dE (iy ((p,ex)::ts)) 0 (fun j=>(if 0=j then 1 else 0)-(if q=nu ((p,ex)::ts) j then 1 else 0)) 0 0)=(1:Int):=by
    rw[if_neg (by omega)]
    unfold dE
    rw[if_pos rfl,h0,if_pos rfl,if_neg e];rfl
   (try simp only)
   first
   |rw[e1,Int.one_mul]
   |(have e1:=e1
     simp only at e1
     rw[e1,Int.one_mul])
   refine dG fun i j hi hj=> ?_
   (try simp only)
   rw[if_pos (by omega)]
   unfold dE
   rw[if_pos rfl,if_neg (show¬i+1=0 by omega)]
   (try simp only)
   rw[(hp j hj).1,if_neg (show¬0=j+1 by omega)]
   unfold iy
   rw[Rs,Rr,JR (hp j hj).2,List.length_map,(hp j hj).1]
   have e2:zK ((p,ex)::ts) (i+1)=zK ts i:=rfl
   rw[e2]
   by_cases a:q=nu ts j
   ·rw[if_pos a,if_pos a]
    by_cases b:i=j
    ·rw[if_pos b,if_pos (by omega)];omega
    ·rw[if_neg b,if_neg (by omega)];omega
   ·rw[if_neg a,if_neg a]
    by_cases b:i=j
    ·rw[if_pos b,if_pos (by omega)];omega
    ·rw[if_neg b,if_neg (by omega)];omega
  ·intro i h1 h2
   (try simp only)
   rw[if_pos (show 1<=i/\i<=n by omega)]
   unfold dE
   rw[if_neg (show¬i=0 by omega),if_pos (show 0=0 from rfl)]
   (try simp only)
   rw[h0,if_neg e]
   unfold iy
   rw[if_neg (show¬i=0 by omega),h0]
   simp
   omega
theorem CE:∀(n:Nat)(ts:Tn),ts.length=n->(ts.map (·.1)).Nodup->cH n (iy ts)=Lk n ts
 |0,ts,_,_=>by rw[cH];cases ts<;>rfl
 |n+1,(p,ex)::ts,h,hd=>by
  have hn:ts.length=n:=by simpa using h
  have PZ:(ts.map (·.1)).Nodup:=by
   rw[List.map_cons,List.nodup_cons]at hd
   exact hd.2
  have key:∀l:List Int,cH (n+1) (dE (iy ((p,ex)::ts)) 0 fun j=>(if 0=j then(l.length:Int)else 0)-fe (nu ((p,ex)::ts) j) l)=(l.map fun q=>if q=p then 0 else Lk n (qU p q ts)).sum:=by
   intro l
   induction l with
   |nil=>
    have:(fun j:Nat=>(if 0=j then((([]:List Int).length:Nat):Int)else 0)-fe (nu ((p,ex)::ts) j) [])=fun _=>0:=by
     funext j
     simp[fe]
    rw[this,nn _ (by omega)]
    rfl
   |cons q l ih=>
    have:(fun j:Nat=>(if 0=j then(((q::l).length:Nat):Int)else 0)-fe (nu ((p,ex)::ts) j) (q::l))=fun j=>1*((if 0=j then 1 else 0)-(if q=nu ((p,ex)::ts) j then 1 else 0))+((if 0=j then(l.length:Int)else 0)-fe (nu ((p,ex)::ts) j) l):=by
     funext j
     rw[fe,List.length_cons]
     by_cases a:0=j
     ·rw[if_pos a,if_pos a,if_pos a];omega
     ·rw[if_neg a,if_neg a,if_neg a];omega
    rw[this,sx (iy ((p,ex)::ts)) 1 (fun j=>(if 0=j then 1 else 0)-(if q=nu ((p,ex)::ts) j then 1 else 0)) (fun j=>(if 0=j then(l.length:Int)else 0)-fe (nu ((p,ex)::ts) j) l) (by omega),ih,NP hn hd,List.map_cons,List.sum_cons,Int.one_mul]
    congr 1
    by_cases a:q=p
    ·rw[if_pos a,if_pos a]
    ·rw[if_neg a,if_neg a,CE n (qU p q ts) (by unfold qU;simpa using hn) (by rw[Bg];exact PZ)]
  have e:dE (iy ((p,ex)::ts)) 0 (fun j=>(if 0=j then(ex.length:Int)else 0)-fe (nu ((p,ex)::ts) j) ex)=iy ((p,ex)::ts):=by
   have:=Bd (iy ((p,ex)::ts)) 0
   exact this
  rw[Lk,<-key ex,e]
def dA{α:Type}:List (List α)->List (List α)
 |[]=>[[]]
 |c::cs=>c.flatMap fun x=>(dA cs).map (x:: ·)
theorem Bh{α β:Type}(f:α->β):∀cs:List (List α),dA (cs.map (·.map f))=(dA cs).map (·.map f)
 |[]=>rfl
 |c::cs=>by
  rw[List.map_cons,dA,dA,Bh f cs,List.map_flatMap,List.flatMap_map]
  congr 1
  funext x
  rw[List.map_map,List.map_map]
  rfl
def Ma:Nat->List (Int×Int)->Bool
 |0,_=>true
 |_+1,[]=>true
 |n+1,(p,q)::l=> !decide (q=p)&&Ma n (l.map fun t=>(t.1,CD p q t.2))
theorem JS(p q:Int):∀(ns c:List Int),ns.zip (c.map (CD p q))=(ns.zip c).map fun t=>(t.1,CD p q t.2)
 |[],_=>by simp
 |_::_,[]=>by simp
 |x::ns,y::c=>by rw[List.map_cons,List.zip_cons_cons,List.zip_cons_cons,List.map_cons,JS p q ns c]
theorem vo:∀l:List Nat,((l.sum:Nat):Int)=(l.map fun n:Nat=>(n:Int)).sum
 |[]=>rfl
 |x::l=>by rw[List.sum_cons,List.map_cons,List.sum_cons,<-vo l];omega
theorem xU:∀(n:Nat)(ts:Tn),ts.length=n->Lk n ts=(((dA (ts.map (·.2))).countP fun c=>Ma n ((ts.map (·.1)).zip c):Nat):Int)
 |0,ts,h=>by
  rw[List.length_eq_zero_iff.1 h]
  rfl
 |n+1,(p,ex)::ts,h=>by
  have hn:ts.length=n:=by simpa using h
  have e0:dA (((p,ex)::ts).map (·.2))=ex.flatMap fun q=>(dA (ts.map (·.2))).map (q:: ·):=rfl
  rw[Lk,e0,List.countP_flatMap,vo,List.map_map]
  congr 1
  refine List.map_congr_left fun q _=> ?_
  (try simp only[Function.comp])
  rw[List.countP_map]
  by_cases e:q=p
  ·rw[if_pos e]
   have:((dA (ts.map (·.2))).countP ((fun c=>Ma (n+1) ((((p,ex)::ts).map (·.1)).zip c))∘fun c=>q::c))=0:=by
    rw[List.countP_eq_zero]
    intro c _
    simp[Ma,e]
   rw[this];rfl
  ·rw[if_neg e,xU n (qU p q ts) (by unfold qU;simpa using hn),Bg]
   have e1:(qU p q ts).map (·.2)=(ts.map (·.2)).map (·.map (CD p q)):=by
    unfold qU
    rw[List.map_map,List.map_map]
    rfl
   rw[e1,Bh,List.countP_map]
   congr 1
   refine List.countP_congr fun c _=> ?_
   (try simp only[Function.comp])
   rw[JS,List.map_cons,List.zip_cons_cons,Ma]
   simp[e]
theorem CF:∀(n:Nat)(l:List (Int×Int)),l.length=n->(l.map (·.1)).Nodup->(Ma n l=true↔∃rk:Int->Nat,∀t,t∈l->t.2∈l.map (·.1)->rk t.2<rk t.1)
 |0,l,h,_=>by
  rw[List.length_eq_zero_iff.1 h]
  exact⟨fun _=>⟨fun _=>0,fun t ht=>by simp at ht⟩,fun _=>rfl⟩
 |n+1,(p,q)::l,h,hd=>by
  have hn:l.length=n:=by simpa using h
  rw[List.map_cons,List.nodup_cons]at hd
  have ih:=CF n (l.map fun t=>(t.1,CD p q t.2)) (by simpa using hn) (by rw[List.map_map];exact hd.2)
  have nm:(l.map fun t=>(t.1,CD p q t.2)).map (·.1)=l.map (·.1):=by rw[List.map_map];rfl
  rw[nm]at ih
  rw[Ma,Bool.and_eq_true,ih]
  constructor
  ·rintro⟨hq,rk,H⟩
   have hq:¬q=p:=by simpa using hq
   refine⟨fun x=>if x=p then(if q∈l.map (·.1)then 2*rk q+3 else 1)else 2*rk x+2,fun t ht hm=> ?_⟩
   rcases List.mem_cons.1 ht with rfl|ht
   ·show(if q=p then(if q∈l.map (·.1)then 2*rk q+3 else 1)else 2*rk q+2)<(if p=p then(if q∈l.map (·.1)then 2*rk q+3 else 1)else 2*rk p+2)
    have hm':q∈l.map (·.1):=by
     rw[List.map_cons]at hm
     rcases List.mem_cons.1 hm with e|e
     ·exact absurd e hq
     ·exact e
    rw[if_neg hq,if_pos rfl,if_pos hm']
    omega
   ·have tp:t.1≠p:=fun e=>hd.1 (e▸List.mem_map.2 ⟨t,ht,rfl⟩)
    show(if t.2=p then(if q∈l.map (·.1)then 2*rk q+3 else 1)else 2*rk t.2+2)<(if t.1=p then(if q∈l.map (·.1)then 2*rk q+3 else 1)else 2*rk t.1+2)
    rw[if_neg tp]
    have H':=H (t.1,CD p q t.2) (List.mem_map.2 ⟨t,ht,rfl⟩)
    (try simp only at H')
    by_cases e:t.2=p
    ·rw[if_pos e]
     have er:CD p q t.2=q:=by unfold CD;rw[if_pos e]
     rw[er]at H'
     by_cases c:q∈l.map (·.1)
     ·rw[if_pos c];have:=H' c;omega
     ·rw[if_neg c];omega
    ·rw[if_neg e]
     have er:CD p q t.2=t.2:=by unfold CD;rw[if_neg e]
     rw[er]at H'
     rw[List.map_cons]at hm
     rcases List.mem_cons.1 hm with a|a
     ·exact absurd a e
     ·have:=H' a;omega
  ·rintro⟨rk,H⟩
   have H0:=H (p,q) (List.mem_cons_self ..)
   (try simp only at H0)
   refine⟨?_,rk,fun t ht hm=> ?_⟩
   ·have:¬q=p:=fun e=>by
     have:=H0 (by rw[List.map_cons,e];exact List.mem_cons_self ..)
     rw[e]at this
     omega
    simpa using this
   ·obtain⟨u,hu,rfl⟩:=List.mem_map.1 ht
    (try simp only at hm⊢)
    have Hu:=H u (List.mem_cons_of_mem _ hu)
    rw[List.map_cons]at H0 Hu
    by_cases e:u.2=p
    ·have er:CD p q u.2=q:=by unfold CD;rw[if_pos e]
     rw[er]at hm⊢
     have h1:=Hu (by rw[e];exact List.mem_cons_self ..)
     have h2:=H0 (List.mem_cons_of_mem _ hm)
     rw[e]at h1
     omega
    ·have er:CD p q u.2=u.2:=by unfold CD;rw[if_neg e]
     rw[er]at hm⊢
     exact Hu (List.mem_cons_of_mem _ hm)
def Mb(f:Int->Int)(sink:Int)(n:Nat):Nat->Nat->Int->Option Nat
 |0,_,_=>none
 |r+1,m,a=>if a=sink then some m else if f a<0\/n<m then none else Mb f sink n r (m+1) (f a)
def Ll(g:List (List Int))(rs:List Int)(sink:Int):Nat->Option (List Int)
 |0=>some []
 |i+1=>match Ll g rs sink i with
  |none=>none
  |some l=>match Mb (nx g rs) sink g.length (g.length+3) 0 i with
   |none=>none
   |some m=>some (l++[(m:Int)])
def Fc(g:List (List Int))(rs:List Int)(sink:Int):Bool:=(Ll g rs sink g.length).isSome
theorem Fe{g:List (List Int)}{rs:List Int}{sink:Int}{i:Nat}(h:Ll g rs sink i=none):∀m,Ll g rs sink (i+m)=none
 |0=>h
 |m+1=>by rw[<-Nat.add_assoc,Ll,Fe h m]
theorem VO{g:List (List Int)}{rs:List Int}{sink:Int}{i n:Nat}(h:Ll g rs sink i=none)(hi:i<=n):Ll g rs sink n=none:=by
 have:=Fe h (n-i)
 rwa [show i+(n-i)=n by omega]at this
theorem Ru{g:List (List Int)}{rs:List Int}{sink:Int}(h:∀p:Nat,p<g.length->(Mb (nx g rs) sink g.length (g.length+3) 0 p).isSome=true):Fc g rs sink=true:=by
 have:∀i,i<=g.length->(Ll g rs sink i).isSome=true:=by
  intro i
  induction i with
  |zero=>intro _;rfl
  |succ i ih=>
   intro hi
   have h1:=ih (by omega)
   have h2:=h i (by omega)
   rw[Ll]
   cases h3:Ll g rs sink i with
   |none=>rw[h3]at h1;cases h1
   |some l=>
    cases h4:Mb (nx g rs) sink g.length (g.length+3) 0 i with
    |none=>rw[h4]at h2;cases h2
    |some m=>rfl
 exact this _ (Nat.le_refl _)
def Ff(n:Nat):List Int:=(List.range n).map fun i:Nat=>(i:Int)
def tM(g:List (List Int))(s:Int)(p:Nat):List Int:=if(p:Int)=s\/(g.getD p []).length=0 then[0]else Ff (g.getD p []).length
def qV(g:List (List Int))(s:Int):List (List Int):=dA ((List.range g.length).map (tM g s))
def CG(g:List (List Int))(s:Int):List (List Int):=(qV g s).filter fun rs=>Fc g rs s
def gQ(s:Int)(p:Nat):Bool:= !decide ((p:Int)=s)
theorem jT{s:Int}{p:Nat}:gQ s p=true↔(p:Int)≠s:=by unfold gQ;simp
theorem tN{s:Int}{p:Nat}(e:(p:Int)=s):¬gQ s p=true:=fun h=>jT.1 h e
theorem Fg(s:Int)(n:Nat):(((List.range n).filter (gQ s)).map fun p:Nat=>(p:Int)).Nodup:=by
 unfold List.Nodup
 rw[List.pairwise_map]
 exact(List.Pairwise.filter _ List.nodup_range).imp fun h e=>h (by omega)
def fG(g:List (List Int))(s:Int):Tn:=((List.range g.length).filter (gQ s)).map fun p:Nat=>((p:Int),g.getD p [])
theorem tO{α:Type}:∀(cs:List (List α))(l:List α),l∈dA cs↔l.length=cs.length/\∀i(h1:i<l.length)(h2:i<cs.length),l[i]∈cs[i]
 |[],l=>by
  rw[dA,List.mem_singleton]
  constructor
  ·rintro rfl;exact⟨rfl,fun i h1=>absurd h1 (by simp)⟩
  ·rintro⟨h,_⟩;exact List.length_eq_zero_iff.1 h
 |c::cs,l=>by
  rw[dA,List.mem_flatMap]
  constructor
  ·rintro⟨x,hx,hl⟩
   obtain⟨m,hm,rfl⟩:=List.mem_map.1 hl
   obtain⟨h1,h2⟩:=(tO cs m).1 hm
   refine⟨by simp[h1],fun i a b=> ?_⟩
   cases i with
   |zero=>exact hx
   |succ i=>exact h2 i (by simpa using a) (by simpa using b)
  ·rintro⟨h1,h2⟩
   cases l with
   |nil=>simp at h1
   |cons x m=>
    refine⟨x,h2 0 (by simp) (by simp),List.mem_map.2 ⟨m,(tO cs m).2 ⟨by simpa using h1,fun i a b=> ?_⟩,rfl⟩⟩
    exact h2 (i+1) (by simpa using a) (by simpa using b)
theorem NQ{n:Nat}{x:Int}:x∈Ff n↔0<=x/\x<(n:Int):=by
 unfold Ff
 rw[List.mem_map]
 constructor
 ·rintro⟨i,hi,rfl⟩
  rw[List.mem_range]at hi
  omega
 ·rintro⟨h0,h1⟩
  exact⟨x.toNat,List.mem_range.2 (by omega),by omega⟩
theorem NR{g:List (List Int)}{s:Int}{rs:List Int}(hg:aM g=true){a:Int}(h0:0<=a)(h1:a<(g.length:Int))(h:rs∈qV g s):gj g (rs,a)/\(0<=s->rs.getD s.toNat 0=0):=by
 obtain⟨e1,e2⟩:=(tO _ _).1 h
 rw[List.length_map,List.length_range]at e1
 have e3:∀i(h:i<rs.length),rs[i]∈tM g s i:=fun i hi=>by
  have:=e2 i hi (by rw[List.length_map,List.length_range];omega)
  rw[List.getElem_map,List.getElem_range]at this
  exact this
 refine⟨⟨hg,e1,h0,h1,fun i hi iG=> ?_⟩,fun hs=> ?_⟩
 ·have:=e3 i hi
  unfold tM at this
  rw[aS iG]at this
  (try simp only)
  split at this
  ·rw[List.mem_singleton]at this
   (try simp only at this)
   omega
  ·have:=NQ.1 this
   (try simp only at this)
   omega
 ·by_cases hh:s.toNat<rs.length
  ·have:=e3 s.toNat hh
   unfold tM at this
   rw[if_pos (.inl (by omega)),List.mem_singleton]at this
   rw[aN hh,this]
  ·rw[List.getD_eq_getElem?_getD,List.getElem?_eq_none (by omega)];rfl
theorem Bi{g:List (List Int)}{rs:List Int}{s p:Int}{n:Nat}:∀(r m j:Nat),(Mb (nx g rs) s n r m (cR g rs p j)).isSome=true->∃k,cR g rs p k=s
 |0,m,j,h=>by rw[Mb]at h;cases h
 |r+1,m,j,h=>by
  rw[Mb]at h
  by_cases e:cR g rs p j=s
  ·exact⟨j,e⟩
  ·rw[if_neg e]at h
   split at h
   ·cases h
   ·exact Bi r (m+1) (j+1) h
theorem Bj{g:List (List Int)}{rs:List Int}{s p:Int}{n:Nat}(hs:0<=s):∀(k r m j:Nat),cR g rs p (j+k)=s->m+k<=n+1->k<r->(Mb (nx g rs) s n r m (cR g rs p j)).isSome=true
 |k,0,m,j,_,_,h=>by omega
 |k,r+1,m,j,h,h1,h2=>by
  rw[Mb]
  by_cases e:cR g rs p j=s
  ·rw[if_pos e];rfl
  ·rw[if_neg e]
   cases k with
   |zero=>exact absurd h e
   |succ k=>
    have h3:¬nx g rs (cR g rs p j)<0:=fun hh=>by
     have:cR g rs p (j+1)<0:=hh
     have:=fI (m:=j+(k+1)) this (by omega)
     omega
    rw[if_neg (by omega)]
    exact Bj hs k r (m+1) (j+1) (by rw[show j+1+k=j+(k+1) by omega];exact h) (by omega) (by omega)
theorem Lm{g:List (List Int)}{rs:List Int}{a s p:Int}(W:gj g (rs,a))(h0:0<=p)(h1:p<(g.length:Int))(hs:0<=s){k:Nat}(h:cR g rs p k=s):∃m,m<g.length/\cR g rs p m=s:=by
 by_cases hn:cR g rs p g.length<0
 ·refine⟨k,Nat.not_le.1 fun hh=> ?_,h⟩
  have:=fI hn hh
  omega
 ·obtain⟨i,d,e1,e2,e3⟩:=sf W h0 h1 (by omega)
  by_cases hk:k<g.length
  ·exact⟨k,hk,h⟩
  ·have:=wo e3 (k-i)
   rw[show i+(k-i)=k by omega,h]at this
   have:=Nat.mod_lt (k-i) (show 0<d by omega)
   exact⟨i+(k-i)%d,by omega,by omega⟩
theorem Bk{g:List (List Int)}{rs:List Int}{a s:Int}(W:gj g (rs,a))(hs:0<=s):Fc g rs s=true↔∀p:Nat,p<g.length->∃k,cR g rs p k=s:=by
 constructor
 ·intro h p hp
  have:(Mb (nx g rs) s g.length (g.length+3) 0 (cR g rs p 0)).isSome=true:=by
   show(Mb (nx g rs) s g.length (g.length+3) 0 p).isSome=true
   cases hh:Mb (nx g rs) s g.length (g.length+3) 0 p with
   |some m=>rfl
   |none=>
    exfalso
    have e1:Ll g rs s (p+1)=none:=by
     rw[Ll]
     cases Ll g rs s p with
     |none=>rfl
     |some l=>(try simp only);rw[hh]
    unfold Fc at h
    rw[VO e1 (by omega)]at h
    cases h
  exact Bi _ _ _ this
 ·intro h
  refine Ru fun p hp=> ?_
  obtain⟨k,hk⟩:=h p hp
  obtain⟨m,hm,e⟩:=Lm W (p:=(p:Int)) (by omega) (by omega) hs hk
  exact Bj (p:=(p:Int)) hs m _ 0 0 (by rw[Nat.zero_add];exact e) (by omega) (by omega)
def gz(g:List (List Int))(s:Int)(ps:List Nat)(rs:List Int):List (Int×Int):=((ps.zip rs).filter fun t=>gQ s t.1).map fun t=>((t.1:Int),(g.getD t.1 []).getD t.2.toNat 0)
theorem JT{g:List (List Int)}{s:Int}{p:Nat}(e:(p:Int)≠s)(r:Int)(ps:List Nat)(rs:List Int):gz g s (p::ps) (r::rs)=((p:Int),(g.getD p []).getD r.toNat 0)::gz g s ps rs:=by
 unfold gz
 rw[List.zip_cons_cons,List.filter_cons_of_pos (p:=fun t:Nat×Int=>gQ s t.1) (a:=(p,r)) (jT.2 e),List.map_cons]
theorem JU{g:List (List Int)}{s:Int}{p:Nat}(e:(p:Int)=s)(r:Int)(ps:List Nat)(rs:List Int):gz g s (p::ps) (r::rs)=gz g s ps rs:=by
 unfold gz
 rw[List.zip_cons_cons,List.filter_cons_of_neg (p:=fun t:Nat×Int=>gQ s t.1) (a:=(p,r)) (tN e)]
theorem Rv(ex:List Int):(Ff ex.length).map (fun k=>ex.getD k.toNat 0)=ex:=by
 apply List.ext_getElem
 ·simp[Ff]
 ·intro i h1 h2
  simp only[Ff,List.getElem_map,List.getElem_range]
  rw[show((i:Nat):Int).toNat=i by omega,aN h2]
theorem JW(g:List (List Int))(s:Int):∀ps:List Nat,(∀p,p∈ps->(p:Int)≠s->(g.getD p []).length≠0)->
 (dA (ps.map (tM g s))).map (fun rs=>(gz g s ps rs).map (·.2))=dA ((ps.filter (gQ s)).map fun p:Nat=>g.getD p [])
 |[],_=>rfl
 |p::ps,h=>by
  have ih:=JW g s ps fun q hq=>h q (List.mem_cons_of_mem _ hq)
  rw[List.map_cons,dA,List.map_flatMap]
  by_cases e:(p:Int)=s
  ·have hc:tM g s p=[0]:=by unfold tM;rw[if_pos (.inl e)]
   rw[hc,List.filter_cons_of_neg (tN e),<-ih,List.flatMap_cons,List.flatMap_nil,List.append_nil,List.map_map]
   refine List.map_congr_left fun rs _=> ?_
   (try simp only[Function.comp])
   rw[JU e]
  ·have hc:tM g s p=Ff (g.getD p []).length:=by
    unfold tM
    rw[if_neg fun hh=>by
     rcases hh with hh|hh
     ·exact e hh
     ·exact h p (List.mem_cons_self ..) e hh]
   rw[hc,List.filter_cons_of_pos (jT.2 e),List.map_cons,dA,<-ih]
   have:∀l:List Int,(l.flatMap fun x=>((dA (ps.map (tM g s))).map (x:: ·)).map fun rs=>(gz g s (p::ps) rs).map (·.2))=(l.map fun k=>(g.getD p []).getD k.toNat 0).flatMap fun x=>((dA (ps.map (tM g s))).map fun rs=>(gz g s ps rs).map (·.2)).map (x:: ·):=by
    intro l
    rw[List.flatMap_map]
    congr 1
    funext x
    rw[List.map_map,List.map_map]
    refine List.map_congr_left fun rs _=> ?_
    (try simp only[Function.comp])
    rw[JT e,List.map_cons]
   rw[this,Rv]
theorem pS(g:List (List Int))(s:Int):∀(ps:List Nat)(rs:List Int),rs.length=ps.length->(gz g s ps rs).map (·.1)=(ps.filter (gQ s)).map fun p:Nat=>(p:Int)
 |[],rs,h=>by simp[gz]
 |p::ps,[],h=>by simp at h
 |p::ps,r::rs,h=>by
  have ih:=pS g s ps rs (by simpa using h)
  by_cases e:(p:Int)=s
  ·rw[JU e,List.filter_cons_of_neg (tN e)]
   exact ih
  ·rw[JT e,List.filter_cons_of_pos (jT.2 e),List.map_cons,List.map_cons,ih]
theorem JX{g:List (List Int)}{s:Int}{rs:List Int}(h:rs.length=g.length){t:Int×Int}:t∈gz g s (List.range g.length) rs↔∃p:Nat,p<g.length/\(p:Int)≠s/\t=((p:Int),(g.getD p []).getD (rs.getD p 0).toNat 0):=by
 unfold gz
 rw[List.mem_map]
 constructor
 ·rintro⟨u,hu,rfl⟩
  rw[List.mem_filter]at hu
  obtain⟨i,hi,e⟩:=List.getElem_of_mem hu.1
  rw[List.length_zip,List.length_range]at hi
  rw[List.getElem_zip,List.getElem_range]at e
  have hir:i<rs.length:=by have:=Nat.min_le_right g.length rs.length;omega
  refine⟨i,by omega,?_,?_⟩
  ·have:=hu.2
   rw[<-e]at this
   exact jT.1 this
  ·rw[<-e]
   (try simp only)
   rw[aN hir]
 ·rintro⟨p,hp,dZ,rfl⟩
  refine⟨(p,rs.getD p 0),List.mem_filter.2 ⟨?_,jT.2 dZ⟩,rfl⟩
  have hz:p<((List.range g.length).zip rs).length:=by rw[List.length_zip,List.length_range];omega
  have:=List.getElem_mem hz
  rw[List.getElem_zip,List.getElem_range]at this
  rw[aN (by omega)]
  exact this
theorem Ln{g:List (List Int)}{rs:List Int}{s p:Int}:∀k,cR g rs p k=s->∃m,m<=k/\cR g rs p m=s/\∀j,j<m->cR g rs p j≠s:=by
 intro k
 induction k using Nat.strongRecOn with
 |ind k ih=>
  intro h
  by_cases hx:∃j,j<k/\cR g rs p j=s
  ·obtain⟨j,a,b⟩:=hx
   obtain⟨m,m1,m2⟩:=ih j a b
   exact⟨m,by omega,m2⟩
  ·exact⟨k,Nat.le_refl _,h,fun j hj e=>hx ⟨j,hj,e⟩⟩
theorem xV{g:List (List Int)}{rs:List Int}(p:Int):∀k,cR g rs (nx g rs p) k=cR g rs p (k+1)
 |0=>rfl
 |k+1=>by rw[cR,xV p k];rfl
theorem Rw{g:List (List Int)}{s a:Int}{rs:List Int}(W:gj g (rs,a))(h0:0<=s)(h1:s<(g.length:Int))(dZ:∀p:Nat,p<g.length->(p:Int)≠s->(g.getD p []).length≠0):
 Ma (gz g s (List.range g.length) rs).length (gz g s (List.range g.length) rs)=Fc g rs s:=by
 have hl:rs.length=g.length:=W.len
 have hn:(gz g s (List.range g.length) rs).map (·.1)=((List.range g.length).filter (gQ s)).map fun p:Nat=>(p:Int):=pS g s _ _ (by rw[List.length_range];exact hl)
 have nd:((gz g s (List.range g.length) rs).map (·.1)).Nodup:=by
  rw[hn]
  exact Fg s _
 have nm:∀x:Int,x∈(gz g s (List.range g.length) rs).map (·.1)↔0<=x/\x<(g.length:Int)/\x≠s:=fun x=>by
  rw[hn,List.mem_map]
  constructor
  ·rintro⟨p,hp,rfl⟩
   rw[List.mem_filter,List.mem_range]at hp
   have:=jT.1 hp.2
   omega
  ·rintro⟨a,b,c⟩
   exact⟨x.toNat,List.mem_filter.2 ⟨List.mem_range.2 (by omega),jT.2 (by omega)⟩,by omega⟩
 have nxe:∀p:Nat,p<g.length->(p:Int)≠s->(g.getD p []).getD (rs.getD p 0).toNat 0=nx g rs p/\0<=nx g rs p/\nx g rs p<(g.length:Int):=fun p hp mn=>by
  have a1:=dZ p hp mn
  obtain⟨hr,hm,h2,e⟩:=wm W (p:=(p:Int)) (by omega) (by omega) (by rw[aS hp]at a1;exact a1)
  have hm':=(aT W.bE (List.getElem_mem (show(p:Int).toNat<g.length by omega))).2 _ (List.getElem_mem hm)
  refine⟨?_,by rw[e];omega,by rw[e];omega⟩
  unfold nx
  rw[if_neg (by omega),show((p:Nat):Int).toNat=p by omega,if_neg a1]
 rw[Bool.eq_iff_iff,CF _ _ rfl nd,Bk W h0]
 constructor
 ·rintro⟨rk,H⟩
  have:∀(n:Nat)(p:Nat),p<g.length->rk p<n->∃k,cR g rs p k=s:=by
   intro n
   induction n with
   |zero=>intro p _ h;omega
   |succ n ih=>
    intro p hp hk
    by_cases e:(p:Int)=s
    ·exact⟨0,e⟩
    ·obtain⟨x1,x2,x3⟩:=nxe p hp e
     by_cases e2:nx g rs p=s
     ·exact⟨1,e2⟩
     ·have:=H _ ((JX hl).2 ⟨p,hp,e,rfl⟩) (by(try simp only);rw[x1];exact(nm _).2 ⟨x2,x3,e2⟩)
      (try simp only at this)
      rw[x1]at this
      obtain⟨k,Qd⟩:=ih (nx g rs p).toNat (by omega) (by rw[show(((nx g rs p).toNat:Nat):Int)=nx g rs p by omega];omega)
      rw[show(((nx g rs p).toNat:Nat):Int)=nx g rs p by omega,xV]at Qd
      exact⟨k+1,Qd⟩
  exact fun p hp=>this _ p hp (Nat.lt_succ_self _)
 ·intro H
  have hf:∀p:Int,∃m:Nat,0<=p->p<(g.length:Int)->cR g rs p m=s/\∀j,j<m->cR g rs p j≠s:=fun p=>by
   by_cases hp:0<=p/\p<(g.length:Int)
   ·obtain⟨k,hk⟩:=H p.toNat (by omega)
    rw[show((p.toNat:Nat):Int)=p by omega]at hk
    obtain⟨m,_,m2⟩:=Ln k hk
    exact⟨m,fun _ _=>m2⟩
   ·exact⟨0,fun a b=>absurd ⟨a,b⟩ hp⟩
  refine⟨fun p=>Classical.choose (hf p),fun t ht hm=> ?_⟩
  obtain⟨p,hp,mn,rfl⟩:=(JX hl).1 ht
  obtain⟨x1,x2,x3⟩:=nxe p hp mn
  (try simp only at hm⊢)
  rw[x1]at hm⊢
  obtain⟨a1,a2⟩:=Classical.choose_spec (hf (nx g rs p)) x2 x3
  obtain⟨b1,b2⟩:=Classical.choose_spec (hf (p:Int)) (by omega) (by omega)
  revert a1 a2 b1 b2
  generalize Classical.choose (hf (nx g rs p))=u
  generalize Classical.choose (hf (p:Int))=v
  intro a1 a2 b1 b2
  cases v with
  |zero=>exact absurd b1 mn
  |succ v=>
   rw[<-xV]at b1
   refine Nat.not_le.1 fun hh=> ?_
   exact a2 v (by omega) b1
theorem prod_nil{α:Type}:∀cs:List (List α),[]∈cs->dA cs=[]
 |[],h=>by simp at h
 |c::cs,h=>by
  rw[dA]
  rcases List.mem_cons.1 h with h|h
  ·rw[<-h];rfl
  ·rw[prod_nil cs h]
   simp
theorem Fh{g:List (List Int)}{s:Int}(hg:aM g=true)(h0:0<=s)(h1:s<(g.length:Int)):((CG g s).length:Int)=cH (g.length-1) (iy (fG g s)):=by
 have hl:(fG g s).length=g.length-1:=by
  unfold fG
  rw[List.length_map]
  have:∀n:Nat,((List.range n).filter (gQ s)).length=if s.toNat<n then n-1 else n:=by
   intro n
   induction n with
   |zero=>rfl
   |succ n ih=>
    rw[List.range_succ,List.filter_append,List.length_append,ih]
    by_cases e:(n:Int)=s
    ·rw[List.filter_cons_of_neg (tN e),if_neg (by omega),if_pos (by omega)];simp
    ·rw[List.filter_cons_of_pos (jT.2 e)]
     by_cases c:s.toNat<n
     ·rw[if_pos c,if_pos (by omega)];simp;omega
     ·rw[if_neg c,if_neg (by omega)];simp
  rw[this,if_pos (by omega)]
 have nd:((fG g s).map (·.1)).Nodup:=by
  unfold fG
  rw[List.map_map]
  exact Fg s _
 rw[CE _ _ hl nd,xU _ _ hl]
 congr 1
 unfold CG
 rw[<-List.countP_eq_length_filter]
 have ex:(fG g s).map (·.2)=((List.range g.length).filter (gQ s)).map fun p:Nat=>g.getD p []:=by
  unfold fG
  rw[List.map_map]
  rfl
 have en:(fG g s).map (·.1)=((List.range g.length).filter (gQ s)).map fun p:Nat=>(p:Int):=by
  unfold fG
  rw[List.map_map]
  rfl
 by_cases dZ:∀p:Nat,p<g.length->(p:Int)≠s->(g.getD p []).length≠0
 ·rw[ex,<-JW g s (List.range g.length) fun p hp=>dZ p (List.mem_range.1 hp),List.countP_map]
  show(qV g s).countP _=(qV g s).countP _
  refine List.countP_congr fun rs JY=> ?_
  (try simp only[Function.comp])
  have W:=(NR (a:=s) hg h0 h1 JY).1
  have hrl:rs.length=g.length:=W.len
  rw[en,<-pS g s (List.range g.length) rs (by rw[List.length_range];exact hrl)]
  have hz:((gz g s (List.range g.length) rs).map (·.1)).zip ((gz g s (List.range g.length) rs).map (·.2))=gz g s (List.range g.length) rs:=by
   generalize gz g s (List.range g.length) rs=l
   induction l with
   |nil=>rfl
   |cons a l ih=>rw[List.map_cons,List.map_cons,List.zip_cons_cons,ih]
  have hlen:(gz g s (List.range g.length) rs).length=g.length-1:=by
   have:=congrArg List.length (pS g s (List.range g.length) rs (by rw[List.length_range];exact hrl))
   rw[List.length_map]at this
   rw[this,<-en,List.length_map,hl]
  rw[hz,<-hlen,Rw W h0 h1 dZ]
 ·have:∃p:Nat,p<g.length/\(p:Int)≠s/\(g.getD p []).length=0:=by
   refine Classical.byContradiction fun hh=>dZ fun p hp mn hz=>hh ⟨p,hp,mn,hz⟩
  obtain⟨p,hp,mn,hz⟩:=this
  have e1:dA ((fG g s).map (·.2))=[]:=by
   refine prod_nil _ ?_
   rw[ex,List.mem_map]
   exact⟨p,List.mem_filter.2 ⟨List.mem_range.2 hp,jT.2 mn⟩,List.length_eq_zero_iff.1 hz⟩
  rw[e1,List.countP_nil,List.countP_eq_zero]
  intro rs JY hh
  have W:=(NR (a:=s) hg h0 h1 JY).1
  obtain⟨k,hk⟩:=(Bk W h0).1 hh p hp
  cases k with
  |zero=>exact mn hk
  |succ k=>
   have:cR g rs p 1<0:=by
    show nx g rs p<0
    unfold nx
    rw[if_neg (by omega),show((p:Nat):Int).toNat=p by omega,if_pos hz]
    omega
   have:=fI this (show 1<=k+1 by omega)
   omega
def Way(g:List (List Int))(p:Int):Nat->Int->Prop
 |0,q=>p=q
 |k+1,q=>∃x,Way g p k x/\q∈g.getD x.toNat []
theorem Way.rng{g:List (List Int)}(hg:aM g=true){p:Int}(h0:0<=p)(h1:p<(g.length:Int)):∀{k:Nat}{q:Int},Way g p k q->0<=q/\q<(g.length:Int)
 |0,q,h=>by rw[<-show p=q from h];exact⟨h0,h1⟩
 |k+1,q,h=>by
  obtain⟨x,hx,hq⟩:=h
  have hr:=Way.rng hg h0 h1 hx
  rw[aS (by omega)]at hq
  exact(aT hg (List.getElem_mem (show x.toNat<g.length by omega))).2 q hq
theorem Way.trans{g:List (List Int)}{p q r:Int}{a:Nat}(h:Way g p a q):∀{b:Nat},Way g q b r->Way g p (a+b) r
 |0,k=>by rw[<-show q=r from k];exact h
 |b+1,k=>by
  obtain⟨x,hx,hr⟩:=k
  exact⟨x,h.trans hx,hr⟩
theorem kL{l:List Int}{i j:Nat}{v:Int}(hi:i<l.length):(l.set i v).getD j 0=if i=j then v else l.getD j 0:=by
 rw[List.getD_eq_getElem?_getD,List.getElem?_set,List.getD_eq_getElem?_getD]
 by_cases h:i=j
 ·subst h;simp[hi]
 ·simp[h]
structure BIn(x:Int)(qs cT:List Int)(dJ new:List Int):Prop where
 len:dJ.length=cT.length
 rN:∀y:Nat,0<=cT.getD y 0->dJ.getD y 0=cT.getD y 0
 VR:∀y:Nat,cT.getD y 0<0->dJ.getD y 0=cT.getD y 0\/dJ.getD y 0=cT.getD x.toNat 0+1/\(y:Int)∈qs/\(y:Int)∈new
 met:∀y,y∈qs->0<=dJ.getD y.toNat 0
 nw:∀z,z∈new->z∈qs/\dJ.getD z.toNat 0=cT.getD x.toNat 0+1
 cnt:new.length+iT dJ=iT cT
theorem qW(x:Int):∀(qs cT out:List Int),(∀q,q∈qs->0<=q/\q<(cT.length:Int))->0<=cT.getD x.toNat 0->∃dJ new,lu x qs (cT,out)=(dJ,out++new)/\BIn x qs cT dJ new
 |[],cT,out,_,_=>⟨cT,[],by rw[lu,List.append_nil],rfl,fun _ _=>rfl,fun _ _=> .inl rfl,fun y hy=>by simp at hy,fun z hz=>by simp at hz,by simp⟩
 |q::qs,cT,out,hr,hx=>by
  have hq:=hr q List.mem_cons_self
  rw[lu]
  by_cases hn:cT.getD q.toNat 0<0
  ·rw[if_pos hn]
   simp only
   have hqx:q.toNat≠x.toNat:=fun e=>by rw[e]at hn;omega
   have gx:(cT.set q.toNat (cT.getD x.toNat 0+1)).getD x.toNat 0=cT.getD x.toNat 0:=by rw[kL (by omega),if_neg hqx]
   obtain⟨dJ,new,e,B⟩:=qW x qs (cT.set q.toNat (cT.getD x.toNat 0+1)) (out++[q]) (fun r h=>by rw[List.length_set];exact hr r (List.mem_cons_of_mem _ h)) (by rw[gx];exact hx)
   have hc:=xP (l:=cT) (i:=q.toNat) (v:=cT.getD x.toNat 0+1) (by omega) (by rw[<-aN (by omega)];exact hn) (by omega)
   have hqf:dJ.getD q.toNat 0=cT.getD x.toNat 0+1:=by
    have:=B.rN q.toNat (by rw[kL (by omega),if_pos rfl];omega)
    rw[this,kL (by omega),if_pos rfl]
   refine⟨dJ,q::new,by rw[e,List.append_assoc];rfl,by rw[B.len,List.length_set],fun y hy=> ?_,fun y hy=> ?_,fun y hy=> ?_,fun z hz=> ?_,by have:=B.cnt;simp only[List.length_cons];omega⟩
   ·have dZ:q.toNat≠y:=fun e=>by rw[e]at hn;omega
    have:=B.rN y (by rw[kL (by omega),if_neg dZ];exact hy)
    rw[this,kL (by omega),if_neg dZ]
   ·by_cases dZ:q.toNat=y
    ·subst dZ
     refine .inr ⟨hqf,?_,?_⟩<;>rw[show((q.toNat:Nat):Int)=q by omega]<;>exact List.mem_cons_self
    ·have g1:(cT.set q.toNat (cT.getD x.toNat 0+1)).getD y 0=cT.getD y 0:=by rw[kL (by omega),if_neg dZ]
     rcases B.VR y (by rw[g1];exact hy)with h|⟨h1,h2,h3⟩
     ·exact .inl (h.trans g1)
     ·exact .inr ⟨by rw[h1,gx],List.mem_cons_of_mem _ h2,List.mem_cons_of_mem _ h3⟩
   ·rcases List.mem_cons.1 hy with rfl|hy
    ·rw[hqf];omega
    ·exact B.met y hy
   ·rcases List.mem_cons.1 hz with rfl|hz
    ·exact⟨List.mem_cons_self,hqf⟩
    ·have:=B.nw z hz
     exact⟨List.mem_cons_of_mem _ this.1,by rw[this.2,gx]⟩
  ·rw[if_neg hn]
   obtain⟨dJ,new,e,B⟩:=qW x qs cT out (fun r h=>hr r (List.mem_cons_of_mem _ h)) hx
   refine⟨dJ,new,e,B.len,B.rN,fun y hy=> ?_,fun y hy=> ?_,fun z hz=>⟨List.mem_cons_of_mem _ (B.nw z hz).1,(B.nw z hz).2⟩,B.cnt⟩
   ·rcases B.VR y hy with h|⟨h1,h2,h3⟩
    ·exact .inl h
    ·exact .inr ⟨h1,List.mem_cons_of_mem _ h2,h3⟩
   ·rcases List.mem_cons.1 hy with rfl|hy
    ·rw[B.rN _ (by omega)];omega
    ·exact B.met y hy
structure BQ(g:List (List Int))(p:Int)(cT qu:List Int):Prop where
 len:cT.length=g.length
 way:∀y:Nat,y<g.length->0<=cT.getD y 0->Way g p (cT.getD y 0).toNat y
 lo:∀y:Nat,-1<=cT.getD y 0
 qin:∀x,x∈qu->0<=x/\x<(g.length:Int)/\0<=cT.getD x.toNat 0
 ord:qu.Pairwise fun a b=>cT.getD a.toNat 0<=cT.getD b.toNat 0
 top:∀x r,qu=x::r->∀y:Nat,y<g.length->cT.getD y 0<=cT.getD x.toNat 0+1
 done:∀x:Nat,x<g.length->0<=cT.getD x 0->(x:Int)∈qu\/∀y,y∈g.getD x []->0<=cT.getD y.toNat 0/\cT.getD y.toNat 0<=cT.getD x 0+1
 home:cT.getD p.toNat 0=0
 hi:∀y:Nat,y<g.length->cT.getD y 0+iT cT<g.length
theorem Fi{g:List (List Int)}(hg:aM g=true){p:Int}:∀(f:Nat)(cT qu:List Int),BQ g p cT qu->qu.length+iT cT<=f->BQ g p (Cz g f cT qu) []
 |0,cT,qu,B,h=>by
  have:qu=[]:=List.eq_nil_of_length_eq_zero (by omega)
  subst this
  exact B
 |f+1,cT,[],B,h=>B
 |f+1,cT,x::rest,B,h=>by
  have hx:=B.qin x List.mem_cons_self
  have L9:x.toNat<g.length:=by omega
  have hq:∀q,q∈g.getD x.toNat []->0<=q/\q<(cT.length:Int):=fun q hq=>by
   rw[aS L9]at hq
   rw[B.len]
   exact(aT hg (List.getElem_mem L9)).2 q hq
  obtain⟨dJ,new,e,C⟩:=qW x (g.getD x.toNat []) cT [] hq hx.2.2
  rw[Cz,e]
  simp only[List.nil_append]
  have gx:dJ.getD x.toNat 0=cT.getD x.toNat 0:=C.rN _ hx.2.2
  have ald:∀y:Nat,0<=cT.getD y 0->dJ.getD y 0=cT.getD y 0:=C.rN
  have hle:∀y:Nat,y<g.length->dJ.getD y 0<=cT.getD x.toNat 0+1:=fun y hy=>by
   by_cases h0:0<=cT.getD y 0
   ·rw[C.rN y h0];exact B.top x rest rfl y hy
   ·rcases C.VR y (by omega)with h|⟨h,_⟩
    ·rw[h];omega
    ·omega
  have Fj:∀z,z∈rest->dJ.getD z.toNat 0=cT.getD z.toNat 0:=fun z hz=>C.rN _ (B.qin z (List.mem_cons_of_mem _ hz)).2.2
  obtain⟨o1,o2⟩:=List.pairwise_cons.1 B.ord
  refine Fi hg f dJ (rest++new) ⟨by rw[C.len,B.len],fun y hy h0=> ?_,fun y=> ?_,fun z hz=> ?_,?_,fun z r hz y hy=> ?_,fun y hy h0=> ?_,?_,fun y hy=> ?_⟩ ?_
  ·by_cases h1:0<=cT.getD y 0
   ·rw[C.rN y h1];exact B.way y hy h1
   ·rcases C.VR y (by omega)with h|⟨h,h2,_⟩
    ·rw[h]at h0;omega
    ·rw[h,show(cT.getD x.toNat 0+1).toNat=(cT.getD x.toNat 0).toNat+1 by omega]
     refine⟨x,?_,h2⟩
     have:=B.way x.toNat L9 hx.2.2
     rwa [show((x.toNat:Nat):Int)=x by omega]at this
  ·by_cases h1:0<=cT.getD y 0
   ·rw[C.rN y h1];omega
   ·have:=B.lo y
    rcases C.VR y (by omega)with h|⟨h,_⟩<;>omega
  ·rcases List.mem_append.1 hz with hz|hz
   ·have:=B.qin z (List.mem_cons_of_mem _ hz)
    exact⟨this.1,this.2.1,by rw[Fj z hz];exact this.2.2⟩
   ·have a:=C.nw z hz
    have b:=hq z a.1
    rw[B.len]at b
    exact⟨b.1,b.2,by rw[a.2];omega⟩
  ·rw[List.pairwise_append]
   refine⟨o2.imp_of_mem fun{a b} ha hb hab=>by rw[Fj a ha,Fj b hb];exact hab,?_,fun a ha b hb=> ?_⟩
   ·rw[List.pairwise_iff_getElem]
    intro i j hi hj _
    rw[(C.nw _ (List.getElem_mem hi)).2,(C.nw _ (List.getElem_mem hj)).2]
    omega
   ·rw[Fj a ha,(C.nw b hb).2]
    have:=B.qin a (List.mem_cons_of_mem _ ha)
    exact B.top x rest rfl a.toNat (by omega)
  ·have hz1:cT.getD x.toNat 0<=dJ.getD z.toNat 0:=by
    have hzm:z∈rest++new:=by rw[hz];exact List.mem_cons_self
    rcases List.mem_append.1 hzm with h|h
    ·rw[Fj z h];exact o1 z h
    ·rw[(C.nw z h).2];omega
   have:=hle y hy
   omega
  ·by_cases hyx:(y:Int)=x
   ·refine .inr fun z hz=> ?_
    have aiQ:y=x.toNat:=by omega
    rw[aiQ]at hz⊢
    have:=hq z hz
    rw[B.len]at this
    exact⟨C.met z hz,by rw[gx];exact hle z.toNat (by omega)⟩
   ·by_cases h1:0<=cT.getD y 0
    ·rcases B.done y hy h1 with h|h
     ·rcases List.mem_cons.1 h with h|h
      ·exact absurd h hyx
      ·exact .inl (List.mem_append.2 (.inl h))
     ·refine .inr fun z hz=> ?_
      obtain⟨a,b⟩:=h z hz
      rw[C.rN _ a,C.rN _ h1]
      exact⟨a,b⟩
    ·rcases C.VR y (by omega)with h|⟨_,_,h⟩
     ·rw[h]at h0;omega
     ·exact .inl (List.mem_append.2 (.inr h))
  ·rw[C.rN _ (by rw[B.home];omega)];exact B.home
  ·have hc:=C.cnt
   by_cases h1:0<=cT.getD y 0
   ·rw[C.rN y h1];have:=B.hi y hy;omega
   ·rcases C.VR y (by omega)with h|⟨h,_,h3⟩
    ·rw[h];have:=B.hi y hy;omega
    ·have:=List.length_pos_of_mem h3
     have:=B.hi x.toNat L9
     rw[h];omega
  ·have:=C.cnt
   simp only[List.length_cons,List.length_append]at*
   omega
theorem HF{g:List (List Int)}(hg:aM g=true){p:Int}(h0:0<=p)(h1:p<(g.length:Int)):BQ g p (ga g p) []:=by
 obtain⟨b1,b2⟩:=VK (n:=g.length) (p:=p.toNat) (by omega)
 have gd:∀y:Nat,((List.replicate g.length (-1:Int)).set p.toNat 0).getD y 0=if p.toNat=y then 0 else if y<g.length then-1 else 0:=fun y=>by
  rw[kL (by simp;omega)]
  split
  ·rfl
  ·rw[List.getD_eq_getElem?_getD,List.getElem?_replicate];split<;>rfl
 refine Fi hg g.length _ [p] ⟨by simp,fun y hy h=> ?_,fun y=> ?_,fun x hx=> ?_,by simp,fun x r hx y hy=> ?_,fun x hx h=> ?_,?_,fun y hy=> ?_⟩ (by simp only[List.length_cons,List.length_nil];omega)
 ·rw[gd]at h⊢
  split at h
  ·rename_i e
   rw[if_pos e]
   show p=(y:Int)
   omega
  ·simp at h
 ·rw[gd];split
  ·omega
  ·split<;>omega
 ·simp only[List.mem_cons,List.not_mem_nil,or_false]at hx
  subst hx
  exact⟨h0,h1,by rw[gd,if_pos rfl];omega⟩
 ·simp only[List.cons.injEq]at hx
  rw[<-hx.1,gd,gd,if_pos rfl]
  split
  ·omega
  ·(try split)<;>omega
 ·rw[gd]at h
  split at h
  ·exact .inl (by simp;omega)
  ·simp at h
 ·rw[gd,if_pos rfl]
 ·rw[gd]
  split
  ·omega
  ·(try split)<;>omega
theorem HG{g:List (List Int)}(hg:aM g=true){p:Int}(h0:0<=p)(h1:p<(g.length:Int)):∀{k:Nat}{q:Int},Way g p k q->0<=(ga g p).getD q.toNat 0/\(ga g p).getD q.toNat 0<=k
 |0,q,h=>by rw[<-show p=q from h,(HF hg h0 h1).home];omega
 |k+1,q,h=>by
  obtain⟨x,hx,hq⟩:=h
  obtain⟨a,b⟩:=HG hg h0 h1 hx
  have hr:=hx.rng hg h0 h1
  rcases(HF hg h0 h1).done x.toNat (by omega) a with c|c
  ·simp at c
  ·have:=c q hq
   omega
theorem wv{g:List (List Int)}(hg:aM g=true){p q:Int}(h0:0<=p)(h1:p<(g.length:Int))(q0:0<=q)(q1:q<(g.length:Int))(h:0<=(ga g p).getD q.toNat 0):Way g p ((ga g p).getD q.toNat 0).toNat q:=by
 have:=(HF hg h0 h1).way q.toNat (by omega) h
 rwa [show((q.toNat:Nat):Int)=q by omega]at this
@[reducible] def Ry:TypeId:=52
theorem Mc:mX Tryz.prog Ry=some (9,1,16,[VS (⟨#[]⟩:ByteArray)]):=by kernel_rfl
theorem Rz(xs:List ByteArray):(xs.map VS).all fp=true:=by simp[List.all_eq_true,fp]
@[reducible] def vK(h:Heap)(F:Nat->Prop)(s:Sl)(xs:List ByteArray):Prop:=Ow h F 9 1 s (xs.map VS)
theorem HH(g o j:Nat):(⟨g,o,none⟩:Addr).add j=⟨g,o+j,none⟩:=by
 unfold Addr.add
 by_cases h:j=0<;>simp[h]
theorem JZ(w:World)(a:Addr):w.cell? a=aR w.heap a:=rfl
theorem eN(a b:List UInt8):((⟨a.toArray⟩:ByteArray)++(⟨b.toArray⟩:ByteArray))=⟨(a++b).toArray⟩:=by
 apply ByteArray.ext
 simp[ByteArray.data_append]
theorem bZ(a:List UInt8):(⟨a.toArray⟩:ByteArray).size=a.length:=by simp[ByteArray.size]
theorem sB{n:Nat}(h:n<100):(Lib.decDigits n).length<=2:=by
 by_cases h1:n<10
 ·rw[Lib.decDigits_one h1];simp
 ·rw[Lib.decDigits_two h1 h];simp
theorem xW:∀(xs:List (List UInt8)),(∀x,x∈xs->x.length<=2)->(Lib.join xs [44]).length<=3*xs.length
 |[],_=>by simp[Lib.join_nil]
 |x::r,h=>by
  rw[Lib.join_length]
  have:∀(l:List (List UInt8)),(∀x,x∈l->x.length<=2)->Lib.lens l<=2*l.length:=by
   intro l
   induction l with
   |nil=>intro _;simp[Lib.lens]
   |cons a l ih=>
    intro hl
    have h1:=ih fun y hy=>hl y (List.mem_cons_of_mem _ hy)
    have h2:=hl a (List.mem_cons_self ..)
    simp only[Lib.lens,List.map_cons,List.sum_cons,List.length_cons]at h1⊢
    omega
  have:=this _ h
  simp only[List.length_cons,List.length_nil]at this⊢
  omega
def dN(rs:List Int):List UInt8:=if rs.length=0 then[45]else Lib.join (rs.map fun x=>Lib.decDigits x.toNat) [44]
theorem tP{rs:List Int}(h:∀x,x∈rs->0<=x/\x<100):(dN rs).length<=3*rs.length+1:=by
 unfold dN
 split
 ·simp
 ·have:=xW (rs.map fun x=>Lib.decDigits x.toNat) fun y hy=>by
   obtain⟨x,hx,rfl⟩:=List.mem_map.1 hy
   exact sB (by have:=h x hx;omega)
  rw[List.length_map]at this
  omega
theorem NS{h:Heap}{n:Int}(h0:0<=n)(h1:n<100)(K:Value->Heap->Prop)(HK:K (VS ⟨(Lib.decDigits n.toNat).toArray⟩) h):aE Tryz.prog 92 #[VI n] h K:=by
 obtain⟨i,rfl⟩:∃i:Nat,n=(i:Int):=⟨n.toNat,by omega⟩
 refine⟨fun w hw=> .inr ⟨92,_,w,Go.Proofs.enters_of Tryz.func92 (by kernel_rfl) rfl _ _,rfl,?_⟩⟩
 subst hw
 refine(Tryz.strconv_Itoa_small i (by omega) w).mono ?_
 rintro e w' ⟨rfl,rfl⟩
 rw[Int.toNat_natCast]at HK
 exact⟨_,rfl,cN.refl _,HK⟩
theorem HI{S:Nat->Prop}{h:Heap}{s:Sl}{ts:List ByteArray}{sep:ByteArray}(H:cM S h 1 s (ts.map VS))(dZ:ts≠[])(hN:ts.length<=1000000)(hl:(Lib.join (ts.map (·.data.toList)) sep.data.toList).length<=1000000)(K:Value->Heap->Prop)(HK:∀h',Fr No h h'->K (VS ⟨(Lib.join (ts.map (·.data.toList)) sep.data.toList).toArray⟩) h'):aE Tryz.prog 90 #[s.v,VS sep] h K:=by
 refine⟨fun w hw=> .inr ⟨90,_,w,Go.Proofs.enters_of Tryz.func90 (by kernel_rfl) rfl _ _,rfl,?_⟩⟩
 subst hw
 have hlen:=H.len
 simp only[List.length_map,Nat.mul_one]at hlen
 have Ra:=H.cap
 have aiR:0<ts.length:=List.length_pos_iff.2 dZ
 obtain⟨a,ha,_,hc⟩:=cM.cell H 0 (by simpa using aiR)
 have Mz:a.spot=none:=by
  cases hs:a.spot with
  |none=>rfl
  |some sp=>exfalso;unfold aR at hc;simp[Addr.add,hs]at hc;split at hc<;>simp at hc
 obtain⟨g,o,q⟩:=a
 simp only at Mz
 subst Mz
 have hv:s.v= .slice (some ⟨g,o,none⟩) ts.length s.c:=by unfold Sl.v;rw[ha,hlen]
 rw[hv]
 refine(Tryz.strings_Join g o s.c ts sep w (fun j x hj=> ?_) ?_ (by omega) (by omega) (by omega)).mono ?_
 ·have Hz:j<ts.length:=(List.getElem?_eq_some_iff.1 hj).1
  obtain⟨a',GB,_,P1⟩:=cM.cell H j (by simp;omega)
  rw[ha]at GB
  cases GB
  rw[HH]at P1
  rw[JZ,P1]
  rw[List.getElem?_eq_getElem Hz]at hj
  simp only[Option.some.injEq]at hj
  simp[hj]
 ·have:=oC hc;rw[pJ]at this;exact this
 ·rintro e w' ⟨rfl,hb⟩
  exact⟨_,rfl,⟨hb.os,hb.tape,hb.output⟩,HK _ ⟨hb.size,fun k hk _=>hb.block k hk⟩⟩
theorem mq{L:List (Nat×List Value)}{F:Nat->Prop}{h:Heap}{o:Sl}{xs:List ByteArray}{x:ByteArray}(O:vK h F o xs)(hF:∀k,h.size<=k->F k)(hL:Vars h L)(tK:∀p,p∈L->¬F p.1)(hb:xs.length<=1000000)(R:Sl->Heap->Prop)(HR:∀t h',vK h' F t (xs++[x])->Fr F h h'->Vars h' L->R t h'):jQ Tryz.prog (Instr.buildSlice Ry 1 #[(0,VS x)]) h fun rv h1=>∃t:Sl,rv=t.v/\Vars h1 L/\jQ Tryz.prog (bK Ry Ry Ry o.v t.v) h1 fun Hy h2=>∃t2:Sl,Hy=t2.v/\Vars h2 L/\R t2 h2:=by
 refine aP Mc (fun k=>h.size<=k) (fun _ h=>h) 1 (by omega) [VS x] rfl rfl fun t h1 n1 c1 o1 f1 m1 _=>⟨t,rfl,hL.aB f1,?_⟩
 have z1:=f1.size
 have O1:vK h1 F o xs:=Ow.no O f1
 have on:=O1.rd.len
 have tn:=o1.rd.len
 simp only[List.length_map,Nat.mul_one,List.length_cons,List.length_nil]at on tn
 refine bL Mc O1 (fun k hk=>hF k (by omega)) o1.rd (Rz [x]) (by omega) fun s' h2 n2 o2 f2 d2=> ?_
 have g2:Fr F h1 h2:=f2.mono fun k _ hk=>(O1.aH hk).1
 have V2:Vars h2 L:=(hL.aB f1).fr g2 tK
 exact⟨s',rfl,V2,HR s' h2 (by rw[vK,List.map_append];exact o2) (f1.aB.trans g2) V2⟩
theorem xX{S:Nat->Prop}{h:Heap}{s:Sl}{rs:List Int}(H:aQ S h s rs)(B:∀x,x∈rs->0<=x/\x<100)(hn:rs.length<=1000)(K:Value->Heap->Prop)(HK:∀h',Fr No h h'->K (VS ⟨(dN rs).toArray⟩) h'):aE Tryz.prog 89 #[s.v] h K:=by
 have sn:=aQ.len H
 refine v89 s h K ⟨fun e=> ?_,fun e=> ?_⟩
 ·simp only[decide_eq_true_eq]at e
  have:=HK h (Fr.refl _ _)
  unfold dN at this
  rw[if_pos (by omega)]at this
  exact this
 simp only[decide_eq_false_iff_not]at e
 refine aP Mc (fun k=>h.size<=k) (fun _ h=>h) 0 (by omega) [] rfl rfl fun o h1 n1 c1 o1 f1 m1 _=>⟨o,rfl,.nil,?_⟩
 have z1:=f1.size
 have Rf:vK h1 (fun k=>h.size<=k) o []:=o1
 have vp:∀{x:Heap},Fr (fun k=>h.size<=k) h x->Fr No h x:=fun f=>f.mono fun k hk aI=>absurd aI (by omega)
 refine⟨fun m x p h'=>0<=p/\p+m=(rs.length:Int)/\vK h' (fun k=>h.size<=k) x ((rs.take p.toNat).map fun y=>(⟨(Lib.decDigits y.toNat).toArray⟩:ByteArray))/\Fr (fun k=>h.size<=k) h h',⟨rs.length,by omega,by omega,by simpa using Rf,f1.aB⟩,?_⟩
 rintro m x p h2 ⟨p0,p1,o2,f2⟩ bW
 have z2:=f2.size
 have H2:=H.no (vp f2)
 refine⟨fun e2=> ?_,fun e2=> ?_⟩
 ·have hp:=H2.lt e2
  have bx:=B _ (List.getElem_mem (show p.toNat<rs.length by omega))
  refine⟨H2.bB p0 hp,_,H2.get p0 hp,NS bx.1 bx.2 _ ⟨_,rfl,.nil,?_⟩⟩
  refine mq o2 (fun k hk=>by omega) .nil (fun q hq=>by cases hq) (by simp;omega) _ fun t h5 o5 f5 _=> ?_
  rw[H2.succ p0 hp]
  refine⟨m-1,by omega,by omega,by omega,?_,f2.trans f5⟩
  rw[show(p+1).toNat=p.toNat+1 by omega,List.take_add_one,List.getElem?_eq_getElem (show p.toNat<rs.length by omega)]
  rw[List.map_append]
  exact o5
 ·have hp:=H2.ge e2
  rw[List.take_of_length_le (by omega)]at o2
  have hm:((rs.map fun y=>(⟨(Lib.decDigits y.toNat).toArray⟩:ByteArray)).map (·.data.toList))=rs.map fun y=>Lib.decDigits y.toNat:=by simp
  have VH:=xW (rs.map fun x=>Lib.decDigits x.toNat) fun y hy=>by
   obtain⟨x,hx,rfl⟩:=List.mem_map.1 hy
   exact sB (by have:=B x hx;omega)
  rw[List.length_map]at VH
  refine HI o2.eQ (fun hh=>by have:=congrArg List.length hh;simp at this;simp[this]at sn;omega) (by simp;omega) (by rw[hm];show(Lib.join _ [44]).length<=_;omega) _ fun h3 f3=>⟨_,rfl,.nil,?_⟩
  have:=HK h3 ((vp f2).trans f3)
  unfold dN at this
  rw[if_neg (by omega)]at this
  rw[hm]
  exact this
theorem RA:mX Tryz.prog 22=some (5,1,1,[.int .u8 0]):=by kernel_rfl
theorem oS{F:Nat->Prop}{h:Heap}{s:Sl}{x:Int}{bs:List UInt8}(H:cM F h 1 s [Value.int .u8 x])(hb:(strOfNums [x])=⟨bs.toArray⟩){K:Value->Prop}(HK:K (VS ⟨bs.toArray⟩)):zN Tryz.prog (convert 22 9 s.v) h K:=by
 have hlen:=H.len
 simp only[List.length_cons,List.length_nil,Nat.mul_one]at hlen
 obtain⟨a,ha,_,hc⟩:=cM.cell H 0 (by simp)
 have Mz:a.spot=none:=by
  cases hs:a.spot with
  |none=>rfl
  |some sp=>exfalso;unfold aR at hc;simp[Addr.add,hs]at hc;split at hc<;>simp at hc
 obtain⟨g,o,q⟩:=a
 simp only at Mz
 subst Mz
 have hv:s.v= .slice (some ⟨g,o,none⟩) 1 s.c:=by unfold Sl.v;rw[ha,<-hlen]
 refine⟨_,fun w hw=> ?_,HK⟩
 subst hw
 rw[hv,run_convert_bytes_arg w 22 5 (by kernel_rfl) (by kernel_rfl) g o 1 s.c [x] rfl (fun i hi=>by
  have:i=0:=by omega
  subst this
  rw[HH]at hc
  rw[JZ,hc]
  rfl) 9 (by kernel_rfl),hb]
theorem J1{h:Heap}{n:Int}(h0:0<=n)(h1:n<10)(K:Value->Heap->Prop)(HK:∀h',Fr No h h'->K (VS ⟨(Lib.decDigits n.toNat).toArray⟩) h'):aE Tryz.prog 73 #[VI n] h K:=by
 refine v73 n h K ⟨fun e=> ?_,fun e=> ?_⟩
 ·rw[aG _ (by omega) (by omega)]
  refine jI (show Tryz.prog.underlying _=some (.int .i64)from by kernel_rfl) (show Tryz.prog.underlying _=some (.int .u8)from by kernel_rfl) (48+n) ⟨48+n,?_,?_⟩
  ·show Value.int .u8 (IntKind.u8.wrap (48+n))=_
   have:IntKind.u8.wrap (48+n)=48+n:=by
    show(48+n)%256=48+n
    omega
   rw[this]
  refine aP RA (fun k=>h.size<=k) (fun _ h=>h) 1 (by omega) [.int .u8 (48+n)] rfl rfl fun w h6 n6 c6 o6 f6 m6 _=>⟨w,rfl,.nil,?_⟩
  refine oS (bs:=Lib.decDigits n.toNat) o6.eQ ?_ ⟨_,rfl,HK h6 f6⟩
  rw[Lib.decDigits_one (show n.toNat<10 by omega)]
  apply ByteArray.ext
  apply Array.toList_inj.1
  rw[strOfNums_data]
  simp only[List.map_cons,List.map_nil,List.cons.injEq,and_true]
  have:(48+n).toNat=48+n.toNat:=by omega
  rw[this]
 ·simp only[decide_eq_false_iff_not]at e
  omega
theorem qX(c:UInt8):∀(xs:List (List UInt8)),(∀x,x∈xs->x.length<=40)->(Lib.join xs [c]).length<=41*xs.length
 |[],_=>by simp[Lib.join_nil]
 |x::r,h=>by
  rw[Lib.join_length]
  have:∀(l:List (List UInt8)),(∀x,x∈l->x.length<=40)->Lib.lens l<=40*l.length:=by
   intro l
   induction l with
   |nil=>intro _;simp[Lib.lens]
   |cons a l ih=>
    intro hl
    have h1:=ih fun y hy=>hl y (List.mem_cons_of_mem _ hy)
    have h2:=hl a (List.mem_cons_self ..)
    simp only[Lib.lens,List.map_cons,List.sum_cons,List.length_cons]at h1⊢
    omega
  have:=this _ h
  simp only[List.length_cons,List.length_nil]at this⊢
  omega
theorem Lo(xs:List (List UInt8))(y sep:List UInt8):Lib.join (xs++[y]) sep=Lib.join xs sep++(if xs.length=0 then[]else sep)++y:=by
 cases xs with
 |nil=>simp[Lib.join_nil,Lib.join_one]
 |cons x r=>
  rw[List.cons_append,Lib.join_cons,Lib.join_cons]
  simp[Lib.joinTail]
theorem tQ{α:Type}(f:α->List UInt8)(sep:List UInt8){xs:List α}{i:Nat}(hi:i<xs.length):Lib.join ((xs.take (i+1)).map f) sep=Lib.join ((xs.take i).map f) sep++(if i=0 then[]else sep)++f xs[i]:=by
 rw[List.take_add_one,List.getElem?_eq_getElem hi,Option.toList_some,List.map_append,List.map_cons,List.map_nil,Lo]
 congr 2
 simp only[List.length_map,List.length_take]
 by_cases h:i=0
 ·simp[h]
 ·rw[if_neg h,if_neg (by omega)]
def gr(c:UInt8):List UInt8->List (List UInt8)
 |[]=>[[]]
 |x::l=>if x=c then[]::gr c l else match gr c l with
  |[]=>[[x]]
  |w::ws=>(x::w)::ws
def tS(c:UInt8):List (List UInt8)->List UInt8
 |[]=>[]
 |[w]=>w
 |w::v::ws=>w++c::tS c (v::ws)
theorem sC(c:UInt8):∀ws,Lib.join ws [c]=tS c ws
 |[]=>rfl
 |[w]=>by simp[Lib.join,tS,List.intercalate]
 |w::v::ws=>by
  rw[tS,<-sC c (v::ws)]
  simp[Lib.join,List.intercalate]
theorem xY(c:UInt8):∀l,gr c l≠[]
 |[]=>by simp[gr]
 |x::l=>by
  rw[gr]
  split
  ·simp
  ·split<;>simp
theorem oT(c:UInt8):∀l,(gr c l).length<=l.length+1
 |[]=>Nat.le_refl _
 |x::l=>by
  have ih:=oT c l
  rw[gr,List.length_cons]
  split
  ·rw[List.length_cons];omega
  ·split
   ·simp
   ·rename_i h
    rw[h]at ih
    rw[List.length_cons]at ih⊢
    omega
theorem wx(c:UInt8)(w:List UInt8){ws:List (List UInt8)}(h:ws≠[]):tS c (w::ws)=w++c::tS c ws:=by
 cases ws with
 |nil=>exact absurd rfl h
 |cons v ws=>rfl
theorem Fk(c:UInt8):∀l,tS c (gr c l)=l
 |[]=>rfl
 |x::l=>by
  have ih:=Fk c l
  have hn:=xY c l
  rw[gr]
  by_cases e:x=c
  ·rw[if_pos e,wx c [] hn,ih,e];rfl
  ·rw[if_neg e]
   cases h:gr c l with
   |nil=>exact absurd h hn
   |cons w ws=>
    rw[h]at ih
    (try simp only)
    cases ws with
    |nil=>rw[tS]at ih⊢;rw[ih]
    |cons v ws=>rw[tS]at ih⊢;rw[<-ih];rfl
theorem CH{c:UInt8}:∀{w:List UInt8},c∉w->gr c w=[w]
 |[],_=>rfl
 |x::w,h=>by
  have h1:x≠c:=fun e=>h (e▸List.mem_cons_self)
  have h2:c∉w:=fun e=>h (List.mem_cons_of_mem _ e)
  rw[gr,if_neg h1,CH h2]
theorem HJ{c:UInt8}(r:List UInt8):∀{w:List UInt8},c∉w->gr c (w++c::r)=w::gr c r
 |[],_=>by rw[List.nil_append,gr,if_pos rfl]
 |x::w,h=>by
  have h1:x≠c:=fun e=>h (e▸List.mem_cons_self)
  have h2:c∉w:=fun e=>h (List.mem_cons_of_mem _ e)
  rw[List.cons_append,gr,if_neg h1,HJ r h2]
theorem NT{c:UInt8}:∀{ws:List (List UInt8)},ws≠[]->(∀w,w∈ws->c∉w)->gr c (tS c ws)=ws
 |[],h,_=>absurd rfl h
 |[w],_,h=>by rw[tS];exact CH (h w List.mem_cons_self)
 |w::v::ws,_,h=>by
  rw[tS,HJ _ (h w List.mem_cons_self),NT (by simp) fun u hu=>h u (List.mem_cons_of_mem _ hu)]
theorem J2{c:UInt8}:∀{l:List UInt8},Lib.indexByte l c= -1->gr c l=[l]
 |[],_=>rfl
 |x::l,h=>by
  unfold Lib.indexByte at h
  by_cases e:x=c
  ·rw[if_pos (beq_iff_eq.2 e)]at h;cases h
  ·rw[if_neg (fun h=>e (beq_iff_eq.1 h))]at h
   have hg:=Lib.indexByte_ge l c
   split at h
   ·rename_i hm
    rw[gr,if_neg e,J2 (beq_iff_eq.1 hm)]
   ·omega
theorem NU{c:UInt8}:∀{l:List UInt8}{i:Nat},Lib.indexByte l c=i->gr c l=l.take i::gr c (l.drop (i+1))
 |[],i,h=>by simp[Lib.indexByte]at h
 |x::l,i,h=>by
  unfold Lib.indexByte at h
  by_cases e:x=c
  ·rw[if_pos (beq_iff_eq.2 e)]at h
   have:i=0:=by omega
   subst this
   rw[gr,if_pos e]
   rfl
  ·rw[if_neg (fun h=>e (beq_iff_eq.1 h))]at h
   have hg:=Lib.indexByte_ge l c
   split at h
   ·omega
   ·rename_i hm
    have hm:Lib.indexByte l c≠ -1:=fun h=>hm (beq_iff_eq.2 h)
    obtain⟨j,hj⟩:∃j:Nat,i=j+1:=⟨i-1,by omega⟩
    subst hj
    rw[gr,if_neg e,NU (i:=j) (by omega)]
    rfl
theorem Fl(c:UInt8):∀(n:Nat)(l:List UInt8),l.length<=n->Lib.splitK [c] 0 (Lib.count l [c]) l=gr c l
 |n,l,hn=>by
  have hi:=Lib.index_one l c
  have hg:=Lib.indexByte_ge l c
  by_cases h:Lib.indexByte l c= -1
  ·rw[Lib.count_miss (by rw[hi];exact h),Lib.splitK,J2 h]
  ·obtain⟨i,wq⟩:∃i:Nat,Lib.indexByte l c=i:=⟨(Lib.indexByte l c).toNat,by omega⟩
   have hl:l≠[]:=fun e=>by rw[e]at h;exact h rfl
   rw[Lib.count_hit (by simp) (by rw[hi];exact wq),Nat.add_comm,Lib.splitK,hi,wq,if_neg (fun e=>by have:=beq_iff_eq.1 e;omega),NU wq]
   rw[Int.toNat_natCast,Nat.add_zero,List.length_singleton]
   congr 1
   cases n with
   |zero=>exact absurd (List.length_eq_zero_iff.1 (by omega)) hl
   |succ n=>exact Fl c n _ (by have:=List.length_pos_iff.2 hl;rw[List.length_drop];omega)
def tT(g:List (List Int)):List UInt8:=Lib.join (g.map dN) [59]
def tm(x:List UInt8):Option Int:=match Lib.atoiAll x with
 | .ok n=>if Lib.itoa n=x then some n else none
 |_=>none
def gF{α β:Type}(f:α->Option β):List α->Option (List β)
 |[]=>some []
 |x::l=>match f x with
  |none=>none
  |some y=>match gF f l with
   |none=>none
   |some ys=>some (y::ys)
def HL(w:List UInt8):Option (List Int):=if w=[45]then some []else gF tm (gr 44 w)
def oW(s:List UInt8):Option (List (List Int)):=match gF HL (gr 59 s)with
 |some g=>if aM g=true then some g else none
 |none=>none
theorem mr{α β:Type}{f:α->Option β}:∀{l:List α}{r:List β},gF f l=some r->r.length=l.length/\∀i(h:i<l.length)(h':i<r.length),f l[i]=some r[i]
 |[],r,h=>by
  simp only[gF,Option.some.injEq]at h
  subst h
  exact⟨rfl,fun i h=>by simp at h⟩
 |x::l,r,h=>by
  rw[gF]at h
  cases hx:f x with
  |none=>rw[hx]at h;cases h
  |some y=>
   rw[hx]at h
   cases hl:gF f l with
   |none=>rw[hl]at h;cases h
   |some ys=>
    rw[hl]at h
    have h:=Option.some.inj h
    subst h
    obtain⟨h1,h2⟩:=mr hl
    refine⟨by simp[h1],fun i a b=> ?_⟩
    cases i with
    |zero=>exact hx
    |succ i=>exact h2 i _ _
theorem xZ{α β:Type}{f:α->Option β}{g:β->α}:∀{l:List β},(∀x,x∈l->f (g x)=some x)->gF f (l.map g)=some l
 |[],_=>rfl
 |x::l,h=>by rw[List.map_cons,gF,h x List.mem_cons_self,xZ fun y hy=>h y (List.mem_cons_of_mem _ hy)]
theorem J3{α β:Type}{f:α->Option β}{g:β->α}{l:List α}{r:List β}(h:gF f l=some r)(hg:∀x y,y∈r->f x=some y->g y=x):r.map g=l:=by
 obtain⟨h1,h2⟩:=mr h
 apply List.ext_getElem (by rw[List.length_map,h1])
 intro i a b
 rw[List.getElem_map]
 exact hg _ _ (List.getElem_mem _) (h2 i b (by rw[List.length_map]at a;exact a))
theorem CI{x:Int}(h0:0<=x)(h1:x<10):Lib.decDigits x.toNat=[UInt8.ofNat (48+x.toNat)]:=Lib.decDigits_one (by omega)
theorem NV:∀n:Fin 10,Lib.atoiAll [UInt8.ofNat (48+n.val)]= .ok (n.val:Int):=by decide
theorem RB:∀n:Fin 10,tm [UInt8.ofNat (48+n.val)]=some (n.val:Int):=by
 intro n
 have e:Lib.itoa (n.val:Int)=[UInt8.ofNat (48+n.val)]:=by rw[Lib.itoa_nonneg,Lib.decDigits_one n.isLt]
 unfold tm
 rw[NV n]
 (try simp only)
 rw[if_pos e]
theorem VT{x:Int}(h0:0<=x)(h1:x<10):tm (Lib.decDigits x.toNat)=some x:=by
 rw[CI h0 h1]
 have:=RB ⟨x.toNat,by omega⟩
 (try simp only at this)
 rw[this,Int.toNat_of_nonneg h0]
theorem VU{x:List UInt8}{n:Int}(h:tm x=some n)(h0:0<=n):Lib.decDigits n.toNat=x:=by
 unfold tm at h
 split at h
 ·split at h
  ·rename_i m _ e
   have h:=Option.some.inj h
   subst h
   rw[<-e]
   obtain⟨k,rfl⟩:∃k:Nat,m=k:=⟨m.toNat,by omega⟩
   rw[Lib.itoa_nonneg,Int.toNat_natCast]
  ·cases h
 ·cases h
theorem ya{x:Int}(h0:0<=x)(h1:x<10){c:UInt8}(hc:c=44\/c=59\/c=45):c∉Lib.decDigits x.toNat:=by
 rw[CI h0 h1]
 have:∀n:Fin 10,(44:UInt8)∉[UInt8.ofNat (48+n.val)]/\(59:UInt8)∉[UInt8.ofNat (48+n.val)]/\(45:UInt8)∉[UInt8.ofNat (48+n.val)]:=by decide
 have:=this ⟨x.toNat,by omega⟩
 rcases hc with rfl|rfl|rfl
 ·exact this.1
 ·exact this.2.1
 ·exact this.2.2
theorem HM{c d:UInt8}:∀{ws:List (List UInt8)},d∈tS c ws->d=c\/∃w,w∈ws/\d∈w
 |[],h=>by simp[tS]at h
 |[w],h=> .inr ⟨w,List.mem_cons_self,h⟩
 |w::v::ws,h=>by
  rw[tS,List.mem_append,List.mem_cons]at h
  rcases h with h|h|h
  ·exact .inr ⟨w,List.mem_cons_self,h⟩
  ·exact .inl h
  ·rcases HM h with h|⟨u,hu,hd⟩
   ·exact .inl h
   ·exact .inr ⟨u,List.mem_cons_of_mem _ hu,hd⟩
theorem HO{l:List Int}(h:∀x,x∈l->0<=x/\x<10):(59:UInt8)∉dN l:=by
 unfold dN
 split
 ·decide
 ·rw[sC]
  intro hm
  rcases HM hm with h1|⟨w,hw,hd⟩
  ·exact absurd h1 (by decide)
  ·obtain⟨x,hx,rfl⟩:=List.mem_map.1 hw
   exact ya (h x hx).1 (h x hx).2 (.inr (.inl rfl)) hd
theorem VV{l:List Int}(h:∀x,x∈l->0<=x/\x<10):HL (dN l)=some l:=by
 unfold HL dN
 by_cases hz:l.length=0
 ·rw[if_pos hz,if_pos rfl,List.length_eq_zero_iff.1 hz]
 ·rw[if_neg hz,sC]
  have dZ:l.map (fun x=>Lib.decDigits x.toNat)≠[]:=fun e=>hz (by simpa using congrArg List.length e)
  have hf:∀w,w∈l.map (fun x=>Lib.decDigits x.toNat)->(44:UInt8)∉w:=fun w hw=>by
   obtain⟨x,hx,rfl⟩:=List.mem_map.1 hw
   exact ya (h x hx).1 (h x hx).2 (.inl rfl)
  rw[NT dZ hf,if_neg]
  ·exact xZ fun x hx=>VT (h x hx).1 (h x hx).2
  ·intro e
   have hm:(45:UInt8)∈tS 44 (l.map fun x=>Lib.decDigits x.toNat):=by rw[e];decide
   rcases HM hm with h1|⟨w,hw,hd⟩
   ·exact absurd h1 (by decide)
   ·obtain⟨x,hx,rfl⟩:=List.mem_map.1 hw
    exact ya (h x hx).1 (h x hx).2 (.inr (.inr rfl)) hd
theorem VW{w:List UInt8}{l:List Int}(h:HL w=some l)(h0:∀x,x∈l->0<=x):dN l=w:=by
 unfold HL at h
 split at h
 ·rename_i e
  have h:=Option.some.inj h
  subst h
  rw[e]
  rfl
 ·have hs:=J3 (g:=fun x:Int=>Lib.decDigits x.toNat) h fun x y hy hf=>VU hf (h0 y hy)
  have hl:=(mr h).1
  have hn:=List.length_pos_iff.2 (xY 44 w)
  unfold dN
  rw[if_neg (by omega),sC,hs,Fk]
theorem mu{g:List (List Int)}(hg:aM g=true){l:List Int}(hl:l∈g):∀x,x∈l->0<=x/\x<10:=fun x hx=>by
 have:=(aT hg hl).2 x hx
 have:=aO hg
 omega
theorem RC{g:List (List Int)}(hg:aM g=true):oW (tT g)=some g:=by
 have gl:=aO hg
 unfold oW tT
 have dZ:g.map dN≠[]:=fun e=>by rw[List.map_eq_nil_iff]at e;rw[e]at gl;simp at gl
 rw[sC,NT dZ fun w hw=> ?_,xZ fun l hl=>VV (mu hg hl)]
 ·(try simp only)
  rw[if_pos hg]
 ·obtain⟨l,hl,rfl⟩:=List.mem_map.1 hw
  exact HO (mu hg hl)
theorem wy{s:List UInt8}{g:List (List Int)}(h:oW s=some g):aM g=true/\tT g=s:=by
 unfold oW at h
 split at h
 ·rename_i g' ha
  split at h
  ·rename_i hg
   have h:=Option.some.inj h
   subst h
   refine⟨hg,?_⟩
   have hs:=J3 (g:=dN) ha fun w l hl hf=>VW hf fun x hx=>(mu hg hl x hx).1
   unfold tT
   rw[sC,hs,Fk]
  ·cases h
 ·cases h
theorem RD{g:List (List Int)}(hg:aM g=true):(tT g).length<=200:=by
 have gl:=aO hg
 have key:∀ls:List (List Int),(∀l,l∈ls->l.length<=5/\∀x,x∈l->0<=x/\x<100)->(Lib.join (ls.map dN) [59]).length<=17*ls.length:=by
  intro ls
  induction ls with
  |nil=>intro _;simp[Lib.join,List.intercalate]
  |cons l ls ih=>
   intro h
   have h1:=h l List.mem_cons_self
   have h2:=tP h1.2
   have ih:=ih fun y hy=>h y (List.mem_cons_of_mem _ hy)
   rw[sC]at ih⊢
   rw[List.map_cons]
   cases ls with
   |nil=>rw[List.map_nil,tS,List.length_cons];simp;omega
   |cons v ls=>
    rw[wx _ _ (by simp),List.length_append,List.length_cons,List.length_cons]
    omega
 have:=key g fun l hl=>⟨(aT hg hl).1,fun x hx=>by have:=mu hg hl x hx;omega⟩
 unfold tT
 omega
def qf(s:ByteArray):List (List Int)×Bool:=match oW s.data.toList with
 |some g=>(g,true)
 |none=>([],false)
structure gS(h:Heap):Prop where
 mx:∃m:Int,aR h ⟨0,0,none⟩=some (.int .i64 m)
 sy:∃ev,aR h ⟨2,0,none⟩=some ev/\(ev= .nilIface\/∃te pe,ev= .iface te pe)
 rg:∃ev,aR h ⟨3,0,none⟩=some ev/\(ev= .nilIface\/∃te pe,ev= .iface te pe)
 tb:∃T f,h[1]?=some (.cells (Lib.pow10Tab.map fun z=>Value.int .u64 z).toArray T f)
theorem Lp{h:Heap}{k:Nat}{o:Obj}(e:h[k]?=some o):k<h.size:=by
 rcases Nat.lt_or_ge k h.size with l|l
 ·exact l
 ·rw[Array.getElem?_eq_none l]at e;cases e
theorem gS.no{h h':Heap}(G:gS h)(f:Fr No h h'):gS h':=by
 obtain⟨⟨m,a⟩,⟨e1,b,b'⟩,⟨e2,c,c'⟩,⟨T,q,d⟩⟩:=G
 exact⟨⟨m,dD a f fun h=>h⟩,⟨e1,dD b f fun h=>h,b'⟩,⟨e2,dD c f fun h=>h,c'⟩,⟨T,q,by rw[f.same _ (Lp d) fun h=>h];exact d⟩⟩
theorem wz{h:Heap}(GL:gS h){s:ByteArray}{c:UInt8}(hs:s.size<=1000000000)(K:Value->Heap->Prop)(HK:∀(t:Sl)(ps:List ByteArray) h',ps.map (·.data.toList)=gr c s.data.toList->cM (fun k=>h.size<=k/\k<h'.size) h' 1 t (ps.map VS)->Fr No h h'->K t.v h'):aE Tryz.prog 81 #[VS s,VS ⟨#[c]⟩] h K:=by
 refine⟨fun w hw=> .inr ⟨81,_,w,Go.Proofs.enters_of Tryz.func81 (by kernel_rfl) rfl _ _,rfl,?_⟩⟩
 subst hw
 obtain⟨m,hm⟩:=GL.mx
 have h1:1<=(⟨#[c]⟩:ByteArray).size:=Nat.le_refl 1
 refine(Tryz.strings_Split s ⟨#[c]⟩ m w (by omega) hm h1).mono ?_
 rintro e w' ⟨rfl,rfl⟩
 have hd:=Lib.splitB_data ⟨#[c]⟩ 0 (Lib.countB s ⟨#[c]⟩) s
 have e2:Lib.splitK [c] 0 (Lib.count s.data.toList [c]) s.data.toList=gr c s.data.toList:=Fl c _ _ (Nat.le_refl _)
 have e1:(⟨#[c]⟩:ByteArray).data.toList=[c]:=rfl
 rw[e1]at hd
 have e3:Lib.countB s ⟨#[c]⟩=Lib.count s.data.toList [c]:=rfl
 rw[e3,e2]at hd
 have hl:=Lib.splitB_all ⟨#[c]⟩ h1 0 _ s rfl
 have hc:=Lib.countB_le ⟨#[c]⟩ h1 _ s (Nat.le_refl _)
 generalize mn:Lib.splitB ⟨#[c]⟩ 0 (Lib.countB s ⟨#[c]⟩) s=ps at*
 rw[e3]at hl hc⊢
 refine⟨_,rfl,⟨rfl,rfl,rfl⟩,HK ⟨some ⟨w.heap.size,0,none⟩,Lib.count s.data.toList [c]+1,Lib.count s.data.toList [c]+1⟩ ps _ hd ⟨by simp[hl],by simp[maxLen];omega,Nat.le_refl _,fun j hj=> ?_⟩ (Fr.push w.heap _)⟩
 rw[List.length_map]at hj
 refine⟨⟨w.heap.size,0,none⟩,rfl,⟨Nat.le_refl _,by show w.heap.size<(w.heap.push _).size;simp⟩,?_⟩
 rw[HH]
 show aR (w.heap.push _) _=_
 unfold aR
 simp
theorem Fm{l:List UInt8}{v:Int}(h:Lib.atoiAll l= .ok v): -9223372036854775808<=v/\v<=9223372036854775807:=by
 unfold Lib.atoiAll at h
 split at h
 ·cases h
 ·(try simp only at h)
  split at h
  ·cases h
  ·cases h
  ·split at h
   ·cases h
   ·split at h
    ·cases h
    ·injection h with h
     rename_i c r u _ h1 h2
     subst h
     split<;>omega
theorem NW{h:Heap}(GL:gS h){s:ByteArray}(hs:s.size<=1000000000)(K:Value->Heap->Prop)(HK:∀v h',Lib.atoiAll s.data.toList= .ok v->Fr No h h'->K (.tuple #[VI v,.nilIface]) h')(HE:∀v t p h',(∀u,Lib.atoiAll s.data.toList≠ .ok u)->Fr No h h'->K (.tuple #[VI v,.iface t p]) h'):aE Tryz.prog 154 #[VS s] h K:=by
 refine⟨fun w hw=> .inr ⟨154,_,w,Go.Proofs.enters_of Tryz.func154 (by kernel_rfl) rfl _ _,rfl,?_⟩⟩
 subst hw
 cases ha:Lib.atoiAll s.data.toList
 case ok v=>
  refine(Tryz.strconv_Atoi_ok s (by omega) v ha w).mono ?_
  rintro e w' ⟨rfl,hw⟩
  rcases hw with rfl|⟨t,rfl⟩
  ·exact⟨_,rfl,cN.refl _,HK v _ ha (Fr.refl _ _)⟩
  ·have hb:=Lib.bytesWorld_below w 5 t
   exact⟨_,rfl,⟨hb.os,hb.tape,hb.output⟩,HK v _ ha ⟨hb.size,fun k hk _=>hb.block k hk⟩⟩
 case range=>
  obtain⟨ev,h1,h2⟩:=GL.rg
  refine(Tryz.strconv_Atoi_range s (by omega) ha ev w h1 h2).mono ?_
  rintro e w' ⟨N,rfl,_,_,hb⟩
  exact⟨_,rfl,⟨hb.os,hb.tape,hb.output⟩,HE _ _ _ _ (fun u hu=>by rw[ha]at hu;cases hu) ⟨hb.size,fun k hk _=>hb.block k hk⟩⟩
 obtain⟨ev,h1,h2⟩:=GL.sy
 refine(Tryz.strconv_Atoi_syntax s (by omega) ha ev w h1 h2).mono ?_
 rintro e w' ⟨N,rfl,_,_,hb⟩
 exact⟨_,rfl,⟨hb.os,hb.tape,hb.output⟩,HE _ _ _ _ (fun u hu=>by rw[ha]at hu;cases hu) ⟨hb.size,fun k hk _=>hb.block k hk⟩⟩
theorem jf{h:Heap}(GL:gS h){n:Int}(h0: -9223372036854775808<=n)(h1:n<=9223372036854775807)(K:Value->Heap->Prop)(HK:∀h',Fr No h h'->K (VS ⟨(Lib.itoa n).toArray⟩) h'):aE Tryz.prog 92 #[VI n] h K:=by
 refine⟨fun w hw=> .inr ⟨92,_,w,Go.Proofs.enters_of Tryz.func92 (by kernel_rfl) rfl _ _,rfl,?_⟩⟩
 subst hw
 obtain⟨T,f,ht⟩:=GL.tb
 refine(Tryz.strconv_Itoa n h0 h1 w ?_).mono ?_
 ·unfold Lib.TabIs World.var?
  rw[show Tryz.prog.globalNamed "internal/strconv.uint64pow10" =some 1 by kernel_rfl]
  simp[ht]
 ·rintro e w' ⟨rfl,k,os,rfl⟩
  exact⟨_,rfl,⟨rfl,rfl,rfl⟩,HK _ ⟨by simp[«Sort».grow,World.drewN],fun i hi _=>by simp[«Sort».grow,World.drewN,Array.getElem?_append_left hi]⟩⟩
theorem wB:∃ms,Tryz.prog.underlying 163=some (.interface ms):=by
 have h:(match Tryz.prog.underlying 163 with|some (.interface _)=>true|_=>false)=true:=by kernel_rfl
 split at h
 ·rename_i ms hm
  exact⟨ms,hm⟩
 ·cases h
theorem Lq{P:Program}{t:TypeId}{ms}(ht:P.underlying t=some (.interface ms))(w:World):(Op.equal t .nilIface .nilIface).run P w= .ok true w:=by
 have key:∀d,(Op.equalIn (d+1) t .nilIface .nilIface).run P w= .ok true w:=fun d=>by
  unfold Op.equalIn
  rw[aK (bV ht w)]
  rfl
 exact key 9999
theorem Fo{P:Program}{t:TypeId}{ms}(ht:P.underlying t=some (.interface ms))(a:TypeId)(b:Value)(w:World):(Op.equal t (.iface a b) .nilIface).run P w= .ok false w:=by
 have key:∀d,(Op.equalIn (d+1) t (.iface a b) .nilIface).run P w= .ok false w:=fun d=>by
  unfold Op.equalIn
  rw[aK (bV ht w)]
  rfl
 exact key 9999
theorem Bm{P:Program}{t:TypeId}{ms}(ht:P.underlying t=some (.interface ms))(x:Operand){K:Value->Prop}(H:K (.bool false)):pop P (lF .neq t x (.const .nilIface) .nilIface .nilIface) K:=
 .mk' (fun w=>by
  unfold lF
  have hg:(eqGuard .neq t x (.const .nilIface) .nilIface .nilIface).run P w= .ok () w:=by
   unfold eqGuard
   cases x<;>rfl
  rw[aK hg]
  show Sem.run P (Sem.bind (Op.equal t .nilIface .nilIface) _) w=_
  rw[Sem.run_bind',Lq ht]
  rfl) H
theorem vq{P:Program}{t:TypeId}{ms}(ht:P.underlying t=some (.interface ms))(x y:Operand)(a:TypeId)(b:Value){K:Value->Prop}(H:K (.bool true)):pop P (lF .neq t x y (.iface a b) .nilIface) K:=
 .mk' (fun w=>by
  unfold lF
  have hg:(eqGuard .neq t x y (.iface a b) .nilIface).run P w= .ok () w:=rfl
  rw[aK hg]
  show Sem.run P (Sem.bind (Op.equal t (.iface a b) .nilIface) _) w=_
  rw[Sem.run_bind',Fo ht]
  rfl) H
theorem J4(a:ByteArray):∀(n i:Nat)(r:List UInt8),a.size-i<=n->ByteArray.toList.loop a i r=r.reverse++a.data.toList.drop i
 |0,i,r,h=>by
  rw[ByteArray.toList.loop,if_neg (by omega),List.drop_eq_nil_of_le (by simp only[Array.length_toList];exact Nat.le_of_sub_eq_zero (Nat.le_zero.1 h)),List.append_nil]
 |n+1,i,r,h=>by
  rw[ByteArray.toList.loop]
  by_cases e:i<a.size
  ·have e':i<a.data.toList.length:=by simpa using e
   rw[if_pos e,J4 a n (i+1) _ (by omega),List.reverse_cons,List.append_assoc,List.singleton_append,List.drop_eq_getElem_cons e']
   congr 2
   show a.get! i=_
   unfold ByteArray.get!
   simp[getElem!_pos,e']
   exact getElem!_pos a.data i (by simpa using e')
  ·rw[if_neg e,List.drop_eq_nil_of_le (by simp only[Array.length_toList];exact Nat.le_of_not_lt e),List.append_nil]
theorem Bo(a:ByteArray):a.toList=a.data.toList:=by
 unfold ByteArray.toList
 rw[J4 a a.size 0 [] (by omega)]
 rfl
theorem jU(a:ByteArray):a.data.toList.length=a.size:=Array.length_toList
theorem ny(a b:ByteArray):(a.toList==b.toList)=decide (a.data.toList=b.data.toList):=by
 rw[Bo,Bo]
 by_cases h:a.data.toList=b.data.toList
 ·rw[h];simp
 ·rw[decide_eq_false h];simpa using h
theorem mv{α β:Type}{f:α->Option β}:∀{l:List α}(i:Nat)(h:i<l.length),f l[i]=none->gF f l=none
 |x::l,0,_,hn=>by rw[gF,show f x=none from hn]
 |x::l,i+1,h,hn=>by
  rw[gF,mv (l:=l) i (by simpa using h) hn]
  cases f x<;>rfl
theorem wC{α β:Type}{f:α->Option β}:∀{l:List α}{r:List β},r.length=l.length->(∀i(h:i<l.length)(h':i<r.length),f l[i]=some r[i])->gF f l=some r
 |[],[],_,_=>rfl
 |x::l,y::r,hl,h=>by
  rw[gF,show f x=some y from h 0 (by simp) (by simp),wC (l:=l) (r:=r) (by simpa using hl) fun i a b=>h (i+1) (by simpa using a) (by simpa using b)]
def Bp{α β:Type}(f:α->Option β)(l:List α)(r:List β)(i:Nat):Prop:=r.length=i/\∀j(h:j<l.length)(h':j<r.length),f l[j]=some r[j]
theorem Bp.next{α β:Type}{f:α->Option β}{l:List α}{r:List β}{i:Nat}(H:Bp f l r i){y:β}(hi:i<l.length)(hy:f l[i]=some y):Bp f l (r++[y]) (i+1):=⟨by rw[List.length_append,H.1];rfl,fun j a b=>by
 have hl:=H.1
 by_cases e:j<r.length
 ·rw[List.getElem_append_left e]
  exact H.2 j a e
 ·have:j=i:=by rw[List.length_append,List.length_singleton]at b;omega
  subst this
  rw[List.getElem_append_right (by omega)]
  simp[hl,hy]⟩
theorem HP{h:Heap}(GL:gS h){s:ByteArray}(hs:s.size<=1000000)(K:Value->Heap->Prop)(HK:∀t h',bR h' (fun k=>h.size<=k) t ((HL s.data.toList).getD [])->Fr No h h'->K (.tuple #[t.v,VB (HL s.data.toList).isSome]) h'):aE Tryz.prog 199 #[VS s] h K:=by
 refine agE s h K ?_
 refine aP fx (fun k=>h.size<=k) (fun _ h=>h) 0 (by omega) [] rfl rfl fun o h1 n1 c1 o1 f1 m1 _=>⟨o,rfl,.nil,?_⟩
 rw[ny]
 have e45:(⟨#[45]⟩:ByteArray).data.toList=[45]:=rfl
 rw[e45]
 unfold HL at HK
 refine⟨fun e=> ?_,fun e=> ?_⟩
 ·rw[if_pos (of_decide_eq_true e)]at HK
  exact HK o h1 o1 f1
 rw[if_neg (of_decide_eq_false e)]at HK
 have z1:=f1.size
 refine wz (GL.no f1) (by omega) _ fun t ps h2 mn T2 f2=>⟨t,rfl,.nil,?_⟩
 have z2:=f2.size
 have tn:=T2.len
 simp only[List.length_map,Nat.mul_one]at tn
 have hpl:ps.length=(gr 44 s.data.toList).length:=by rw[<-mn,List.length_map]
 have hpb:ps.length<=1000001:=by
  have h1:=oT 44 s.data.toList
  have h2:=jU s
  omega
 have NX:∀i(hi:i<ps.length),(gr 44 s.data.toList)[i]'(by omega)=(ps[i]).data.toList:=fun i hi=>by simp only[<-mn,List.getElem_map]
 have qv:∀i(hi:i<ps.length),(ps[i]).size<=1000000:=fun i hi=>by
  have h1:=Fk 44 s.data.toList
  have:∀(ws:List (List UInt8))(w:List UInt8),w∈ws->w.length<=(tS 44 ws).length:=by
   intro ws
   induction ws with
   |nil=>intro w hw;simp at hw
   |cons v ws ih=>
    intro w hw
    cases ws with
    |nil=>
     rcases List.mem_cons.1 hw with rfl|hw
     ·exact Nat.le_refl _
     ·simp at hw
    |cons u ws=>
     rw[tS,List.length_append,List.length_cons]
     rcases List.mem_cons.1 hw with rfl|hw
     ·omega
     ·have:=ih w hw;omega
  have h2:=this _ _ (List.getElem_mem (show i<(gr 44 s.data.toList).length by omega))
  rw[h1,NX i hi]at h2
  have e1:=jU (ps[i])
  have e2:=jU s
  omega
 have o2:bR h2 (Iv h.size h1.size) o []:=(Ow.fV o1).no f2
 refine⟨fun n x i h'=>0<=i/\i+n=(ps.length:Int)/\∃r:List Int,Bp tm (gr 44 s.data.toList) r i.toNat/\bR h' (fun k=>h.size<=k/\¬(h1.size<=k/\k<h2.size)) x r/\Fr (fun k=>h.size<=k/\¬(h1.size<=k/\k<h2.size)) h2 h',⟨ps.length,by omega,by omega,[],⟨rfl,fun j _ h'=>by simp at h'⟩,o2.mono fun k _ hk=>⟨hk.1,fun h=>by have:=hk.2;omega⟩,Fr.refl _ _⟩,?_⟩
 rintro n x i h3 ⟨i0,i1,r,SF,o3,f3⟩ cF
 have z3:=f3.size
 have T3:=cM.fr T2 f3 fun k hk aI=>aI.2 hk
 have F3:Fr No h h3:=(f1.aA f2).fresh f3 fun k hk=>hk.1
 have ln:=cM.len T3
 have fail:∀h',Fr No h h'->gF tm (gr 44 s.data.toList)=none->K (.tuple #[aC.v,VB false]) h':=fun h' f hn=>by
  rw[hn]at HK
  exact HK aC h' (Ow.nil _ _ _ _) f
 refine⟨fun e2=> ?_,fun e2=> ?_⟩
 ·simp only[decide_eq_true_eq]at e2
  have hi:i.toNat<ps.length:=by omega
  have cc:=T3.get (i:=i) i0 (by rw[List.length_map];omega)
  rw[show(ps.map VS)[i.toNat]'(by rw[List.length_map];exact hi)=VS ps[i.toNat]from List.getElem_map _]at cc
  have gi:=NX i.toNat hi
  refine⟨cM.bB T3 i0 (by rw[List.length_map];omega),_,cc,NW ((GL.no F3)) (by have:=qv i.toNat hi;omega) _ (fun v h4 ha f4=>⟨v,_,rfl,.nil,?_⟩) fun v ty p h4 hn f4=>⟨v,_,rfl,.nil,?_⟩⟩
  ·obtain⟨ms,hm⟩:=wB
   refine Bm hm _ ⟨_,rfl,fun e=>by simp at e,fun _=> ?_⟩
   have vr:=Fm ha
   refine jf ((GL.no F3).no f4) vr.1 vr.2 _ fun h5 f5=>⟨_,rfl,.nil,?_⟩
   rw[ny]
   have e5:(⟨(Lib.itoa v).toArray⟩:ByteArray).data.toList=Lib.itoa v:=rfl
   rw[e5]
   have F5:=F3.aA (f4.aA f5)
   refine⟨fun e3=> ?_,fun e3=> ?_⟩
   ·have e3:=of_decide_eq_false (bD e3)
    refine fail h5 F5 (mv i.toNat (by omega) ?_)
    rw[gi]
    unfold tm
    rw[ha]
    (try simp only)
    rw[if_neg e3]
   ·have e3:=of_decide_eq_true (aZ e3)
    have hr:tm ((gr 44 s.data.toList)[i.toNat]'(by omega))=some v:=by
     rw[gi]
     unfold tm
     rw[ha]
     (try simp only)
     rw[if_pos e3]
    have z5:=(f4.aA f5).size
    refine mb (L:=[]) (F:=fun k=>h.size<=k/\¬(h1.size<=k/\k<h2.size)) (Ow.no o3 (f4.aA f5)) (fun k hk=>⟨by omega,fun h=>by omega⟩) .nil (fun p hp=>by simp at hp) (by rw[SF.1];have:=qv i.toNat hi;have:(gr 44 s.data.toList).length<=s.data.toList.length+1:=oT 44 _;have e2:=jU s;omega) _ fun t6 h7 o7 f7 _=> ?_
    rw[aG (i+1) (by omega) (by omega)]
    refine⟨n-1,by omega,by omega,by omega,r++[v],?_,o7,f3.trans ((f4.aA f5).aB.trans f7)⟩
    rw[show(i+1).toNat=i.toNat+1 by omega]
    exact SF.next (by omega) hr
  ·obtain⟨ms,hm⟩:=wB
   refine vq hm _ _ _ _ ⟨_,rfl,fun _=> ?_,fun e=>by simp at e⟩
   refine fail h4 (F3.aA f4) (mv i.toNat (by omega) ?_)
   rw[gi]
   unfold tm
   split
   ·rename_i m JC
    exact absurd JC (hn m)
   ·rfl
 ·simp only[decide_eq_false_iff_not]at e2
  have hr:=wC (f:=tm) (l:=gr 44 s.data.toList) (r:=r) (by rw[SF.1];omega) SF.2
  rw[hr]at HK
  exact HK x h3 (o3.mono fun k _ hk=>hk.1) F3
theorem Lr{s:ByteArray}{g:List (List Int)}(h:gF HL (gr 59 s.data.toList)=some g):qf s=(j5 g,aM g):=by
 unfold qf oW j5
 rw[h]
 (try simp only)
 by_cases e:aM g=true
 ·rw[if_pos e,if_pos e,e]
 ·rw[if_neg e,if_neg e]
  simp only[Bool.not_eq_true]at e
  rw[e]
theorem Ls{s:ByteArray}(h:gF HL (gr 59 s.data.toList)=none):qf s=([],false):=by
 unfold qf oW
 rw[h]
theorem J5{c:UInt8}:∀(ws:List (List UInt8))(w:List UInt8),w∈ws->w.length<=(tS c ws).length
 |[],w,hw=>by simp at hw
 |[v],w,hw=>by
  rcases List.mem_cons.1 hw with rfl|hw
  ·exact Nat.le_refl _
  ·simp at hw
 |v::u::ws,w,hw=>by
  rw[tS,List.length_append,List.length_cons]
  rcases List.mem_cons.1 hw with rfl|hw
  ·omega
  ·have:=J5 (c:=c) (u::ws) w hw;omega
theorem wD{c:UInt8}{l w:List UInt8}(h:w∈gr c l):w.length<=l.length:=by
 have:=J5 (c:=c) _ _ h
 rwa [Fk]at this
theorem CJ{h:Heap}(GL:gS h){s:ByteArray}(hs:s.size<=100000)(K:Value->Heap->Prop)(HK:∀t h',gO h' (Iv h.size h'.size) t (qf s).1->Fr No h h'->K (.tuple #[.agg #[t.v],VB (qf s).2]) h'):aE Tryz.prog 153 #[VS s] h K:=by
 refine afB s h K fun b1 b2 h1 eD dK f1 bY=> ?_
 have f1:=f1.aF
 have z1:=f1.size
 have l2:b2<h1.size:=bY.head.lt
 have l1:b1<h1.size:=bY.tail.head.lt
 refine wz (GL.no f1) (by omega) _ fun t ps h2 mn T2 f2=>⟨t,rfl,bY.aB f2,?_⟩
 have z2:=f2.size
 have tn:=T2.len
 simp only[List.length_map,Nat.mul_one]at tn
 have hpl:ps.length=(gr 59 s.data.toList).length:=by rw[<-mn,List.length_map]
 have hpb:ps.length<=100001:=by
  have h1:=oT 59 s.data.toList
  have h2:=jU s
  omega
 have NX:∀i(hi:i<ps.length),(gr 59 s.data.toList)[i]'(by omega)=(ps[i]).data.toList:=fun i hi=>by simp only[<-mn,List.getElem_map]
 have qv:∀i(hi:i<ps.length),(ps[i]).size<=100000:=fun i hi=>by
  have h2:=wD (List.getElem_mem (show i<(gr 59 s.data.toList).length by omega))
  rw[NX i hi]at h2
  have e1:=jU (ps[i])
  have e2:=jU s
  omega
 refine⟨fun n i x h'=>0<=i/\i+n=(ps.length:Int)/\∃r:List (List Int),Bp HL (gr 59 s.data.toList) r i.toNat/\gO h' (fun k=>h2.size<=k) x r/\Fr (fun k=>k=b2\/h2.size<=k) h2 h'/\h2.size<=h'.size,⟨ps.length,by omega,by omega,[],⟨rfl,fun j _ h'=>by simp at h'⟩,dR.nil _ _ _ _,Fr.refl _ _,Nat.le_refl _⟩,?_⟩
 rintro n i x h3 ⟨i0,i1,r,SF,o3,f3,z3⟩ cF
 have T3:=cM.fr T2 f3 fun k hk aI=>by have:=hk.1;have:=hk.2;omega
 have F3:Fr No h h3:=(f1.aA f2).fresh f3 fun k hk=>by rcases hk with rfl|hk<;>omega
 have ln:=cM.len T3
 have fail:∀h' kY,Fr No h h'->Fr (In [b1]) h' kY->h2.size<=h'.size->gF HL (gr 59 s.data.toList)=none->K (.tuple #[.agg #[aC.v],VB false]) kY:=fun h' kY f f' z hn=>by
  rw[Ls hn]at HK
  exact HK aC kY (dR.nil _ _ _ _) (f.fresh f' fun k hk=>by simp[In]at hk;omega)
 refine⟨fun e2=> ?_,fun e2=> ?_⟩
 ·simp only[decide_eq_true_eq]at e2
  have hi:i.toNat<ps.length:=by omega
  have cc:=T3.get (i:=i) i0 (by rw[List.length_map];omega)
  rw[show(ps.map VS)[i.toNat]'(by rw[List.length_map];exact hi)=VS ps[i.toNat]from List.getElem_map _]at cc
  have gi:=NX i.toNat hi
  refine⟨cM.bB T3 i0 (by rw[List.length_map];omega),_,cc,HP (GL.no F3) (by have:=qv i.toNat hi;omega) _ fun u h4 o4 f4=>⟨u,_,rfl,cF.aB f4,fun e3=> ?_,fun e3=> ?_⟩⟩
  ·have e3:=bD e3
   intro h5 f5 gh
   refine fail h4 h5 (F3.aA f4) f5 (by have:=f4.size;omega) (mv i.toNat (by omega) ?_)
   rw[gi]
   cases hr:HL (ps[i.toNat]).data.toList with
   |none=>rfl
   |some y=>rw[hr]at e3;cases e3
  ·have e3:=aZ e3
   cases hr:HL (ps[i.toNat]).data.toList with
   |none=>rw[hr]at e3;cases e3
   |some y=>
    rw[hr]at o4
    have z4:=f4.size
    refine xQ (F:=fun k=>h2.size<=k) (m:=h3.size) ((o3.fV.no f4).mono fun k _ hk=>hk) o4 (fun k hk=>by omega) z4 (cF.aB f4) (fun p hp=>by
     simp only[List.mem_cons,List.not_mem_nil,or_false]at hp
     rcases hp with rfl|rfl<;>simp only<;>omega) (by rw[SF.1];omega) _ fun t6 h7 o7 f7 V7 h8 f8 fO=> ?_
    have z7:=f7.size
    have z8:=f8.size
    rw[aG (i+1) (by omega) (by omega)]
    refine⟨n-1,by omega,by omega,by omega,r++[y],?_,dR.fr o7 f8 fun k hk aI Hs=>by simp[In]at Hs;omega,((f3.trans f4.aB).trans (f7.mono fun k _ hk=> .inr hk)).trans (f8.mono fun k _ hk=> .inl (by simpa[In]using hk)),by omega⟩
    rw[show(i+1).toNat=i.toNat+1 by omega]
    exact SF.next (by omega) (by rw[gi];exact hr)
 ·simp only[decide_eq_false_iff_not]at e2
  have hr:=wC (f:=HL) (l:=gr 59 s.data.toList) (r:=r) (by rw[SF.1];omega) SF.2
  rw[Lr hr]at HK
  refine Nn o3.fV (Nat.le_refl _) _ fun v h4 o4 f4=>⟨v,_,rfl,cF.aB f4,fun h5 f5 gh=> ?_⟩
  have z4:=f4.size
  have z5:=f5.size
  refine HK v h5 ?_ ((F3.aA f4).fresh f5 fun k hk=>by simp[In]at hk;omega)
  exact(dR.fr o4 f5 fun k hk aI Hs=>by simp[In]at Hs;have:=aI.1;omega).mono fun k hk aI=>⟨by have:=aI.1;omega,hk⟩
def RE(g:List (List Int)):Prop:=g.length<=8/\∀l,l∈g->l.length<=12/\∀x,x∈l->0<=x/\x<10
theorem jg{g:List (List Int)}(hg:aM g=true):RE g:=⟨(aO hg).2,fun l hl=>⟨by have:=(aT hg hl).1;omega,mu hg hl⟩⟩
theorem Bq{l:List Int}(h:l.length<=12/\∀x,x∈l->0<=x/\x<10):(dN l).length<=40:=by
 have:=tP (rs:=l) fun x hx=>by have:=h.2 x hx;omega
 omega
theorem RF{g:List (List Int)}(h:RE g):(tT g).length<=328:=by
 have:=qX 59 (g.map dN) fun y hy=>by
  obtain⟨l,hl,rfl⟩:=List.mem_map.1 hy
  exact Bq (h.2 l hl)
 rw[List.length_map]at this
 have:=h.1
 unfold tT
 omega
theorem sD{S:Nat->Prop}{h:Heap}{s:Sl}{aD:List (List Int)}(H:bU S h s aD)(B:RE aD)(K:Value->Heap->Prop)(HK:∀h',Fr No h h'->K (VS ⟨(tT aD).toArray⟩) h'):aE Tryz.prog 74 #[.agg #[s.v]] h K:=by
 have sn:=H.len
 have Bn:=B.1
 refine v74 s h K fun b1 h1 eD f1 bY=> ?_
 have f1:=f1.aF
 refine⟨fun m out i h'=>0<=i/\i+m=(aD.length:Int)/\out=(⟨(Lib.join ((aD.take i.toNat).map dN) [59]).toArray⟩:ByteArray)/\Fr No h h',⟨aD.length,by omega,by omega,rfl,f1⟩,?_⟩
 rintro m out i h3 ⟨i0,i1,rfl,f3⟩ cF
 have H3:=H.no f3
 refine⟨fun e2=> ?_,fun e2=> ?_⟩
 ·have hi:=H3.lt e2
  have wq:i.toNat<aD.length:=by omega
  obtain⟨si,c1,r1⟩:=H3.get i0 hi
  have rn:=r1.len
  have hk:=B.2 _ (List.getElem_mem wq)
  have hl1:=qX 59 ((aD.take i.toNat).map dN) fun y hy=>by
   obtain⟨l,hl,rfl⟩:=List.mem_map.1 hy
   exact Bq (B.2 l (List.mem_of_mem_take hl))
  have hl2:((aD.take i.toNat).map dN).length<=8:=by simp;omega
  generalize hB:Lib.join ((aD.take i.toNat).map dN) [59]++(if i.toNat=0 then[]else[59])=B'
  have Bl:B'.length<=400:=by rw[<-hB,List.length_append];split<;>simp only[List.length_nil,List.length_cons]<;>omega
  have next:Lib.join ((aD.take (i.toNat+1)).map dN) [59]=B'++dN aD[i.toNat]:=by rw[tQ dN [59] wq,hB]
  refine⟨H3.bB i0 hi,si,c1,fun x h'=>x=(⟨B'.toArray⟩:ByteArray)/\h'=h3,⟨fun e5=>⟨?_,?_,rfl⟩,fun e5=>⟨?_,rfl⟩⟩,?_⟩
  ·rw[bZ];show _+1<=_;omega
  ·simp only[decide_eq_true_eq]at e5
   rw[show(⟨#[59]⟩:ByteArray)=⟨[59].toArray⟩from rfl,eN,<-hB,if_neg (by omega)]
  ·simp only[decide_eq_false_iff_not]at e5
   rw[<-hB,if_pos (by omega),List.append_nil]
  rintro x h5 ⟨rfl,rfl⟩ gh
  refine⟨fun x h'=>x=(⟨(B'++if aD[i.toNat].length=0 then[45]else[]).toArray⟩:ByteArray)/\h'=h5,⟨fun e5=>⟨?_,?_,rfl⟩,fun e5=>⟨?_,rfl⟩⟩,?_⟩
  ·rw[bZ];show _+1<=_;omega
  ·simp only[decide_eq_true_eq]at e5
   rw[show(⟨#[45]⟩:ByteArray)=⟨[45].toArray⟩from rfl,eN,if_pos (by omega)]
  ·simp only[decide_eq_false_iff_not]at e5
   rw[if_neg (by omega),List.append_nil]
  rintro x2 h6 ⟨rfl,rfl⟩ jG
  generalize hC:(B'++if aD[i.toNat].length=0 then[45]else[])=C
  have Cl:C.length<=401:=by rw[<-hC,List.length_append];split<;>simp only[List.length_nil,List.length_cons]<;>omega
  refine⟨fun m2 o j h'=>0<=j/\j+m2=(aD[i.toNat].length:Int)/\o=(⟨(C++Lib.join ((aD[i.toNat].take j.toNat).map fun y=>Lib.decDigits y.toNat) [44]).toArray⟩:ByteArray)/\Fr No h6 h',⟨aD[i.toNat].length,by omega,by omega,by simp[Lib.join_nil],Fr.refl _ _⟩,?_⟩
  rintro m2 o j h7 ⟨j0,j1,rfl,f7⟩ jv
  have R7:=r1.no f7
  refine⟨fun e5=> ?_,fun e5=> ?_⟩
  ·have hj:=R7.lt e5
   have Hz:j.toNat<aD[i.toNat].length:=by omega
   have dj:=hk.2 _ (List.getElem_mem Hz)
   have hl3:=xW ((aD[i.toNat].take j.toNat).map fun y=>Lib.decDigits y.toNat) fun y hy=>by
    obtain⟨x,hx,rfl⟩:=List.mem_map.1 hy
    have:=hk.2 x (List.mem_of_mem_take hx)
    exact sB (by omega)
   have hl4:((aD[i.toNat].take j.toNat).map fun y=>Lib.decDigits y.toNat).length<=12:=by simp;omega
   generalize hD:C++Lib.join ((aD[i.toNat].take j.toNat).map fun y=>Lib.decDigits y.toNat) [44]++(if j.toNat=0 then[]else[44])=D
   have Dl:D.length<=500:=by rw[<-hD,List.length_append,List.length_append];split<;>simp only[List.length_nil,List.length_cons]<;>omega
   refine⟨R7.bB j0 hj,_,R7.get j0 hj,fun x h'=>x=(⟨D.toArray⟩:ByteArray)/\h'=h7,⟨fun e6=>⟨?_,?_,rfl⟩,fun e6=>⟨?_,rfl⟩⟩,?_⟩
   ·rw[bZ,List.length_append];show _+1<=_;omega
   ·simp only[decide_eq_true_eq]at e6
    rw[show(⟨#[44]⟩:ByteArray)=⟨[44].toArray⟩from rfl,eN,<-hD,if_neg (by omega)]
   ·simp only[decide_eq_false_iff_not]at e6
    rw[<-hD,if_pos (by omega),List.append_nil]
   rintro x h8 ⟨rfl,rfl⟩ fO
   refine J1 dj.1 dj.2 _ fun h9 f9=>⟨_,rfl,fO.aB f9,?_,?_⟩
   ·have:=sB (show(aD[i.toNat][j.toNat]).toNat<100 by omega)
    rw[bZ,bZ];omega
   ·rw[R7.succ j0 hj]
    refine⟨m2-1,by omega,by omega,by omega,?_,f7.trans f9⟩
    rw[eN,show(j+1).toNat=j.toNat+1 by omega,tQ _ _ Hz,<-hD]
    simp only[List.append_assoc]
  ·have hj:=R7.ge e5
   rw[List.take_of_length_le (by omega),H3.succ i0 hi]
   refine⟨m-1,by omega,by omega,by omega,?_,f3.trans f7⟩
   rw[show(i+1).toNat=i.toNat+1 by omega,next,<-hC]
   unfold dN
   by_cases hz:aD[i.toNat].length=0
   ·rw[if_pos hz,if_pos hz,List.length_eq_zero_iff.1 hz,List.map_nil,Lib.join_nil,List.append_nil]
   ·rw[if_neg hz,if_neg hz,List.append_nil]
 ·have hi:=H3.ge e2
  rw[List.take_of_length_le (by omega)]
  exact HK h3 f3
theorem oX{S:Nat->Prop}{h:Heap}{s:Sl}{aD:List (List Int)}(H:bU S h s aD)(B:RE aD)(hp:1<=aD.length)(K:Value->Heap->Prop)(HK:∀h',Fr No h h'->K (VS ⟨(tT aD).toArray⟩) h'):aE Tryz.prog 51 #[.agg #[s.v]] h K:=by
 have sn:=H.len
 have Bn:=B.1
 refine v51 s h K fun b1 h1 eD f1 bY=> ?_
 have f1:=f1.aF
 have z1:=f1.size
 have l1:b1<h1.size:=bY.head.lt
 refine aP Mc (fun k=>h1.size<=k) (fun _ h=>h) 0 (by omega) [] rfl rfl fun o h2 n2 c2 o2 f2 m2 _=>⟨o,rfl,bY.aB f2,?_⟩
 have z2:=f2.size
 have Vz:vK h2 (fun k=>h1.size<=k) o []:=o2
 have vp:∀{x:Heap},Fr (fun k=>h1.size<=k) h x->Fr No h x:=fun f=>f.mono fun k hk aI=>absurd aI (by omega)
 refine⟨fun m x i h'=>0<=i/\i+m=(aD.length:Int)/\vK h' (fun k=>h1.size<=k) x ((aD.take i.toNat).map fun l=>(⟨(dN l).toArray⟩:ByteArray))/\Fr (fun k=>h1.size<=k) h h'/\h1.size<=h'.size,⟨aD.length,by omega,by omega,by simpa using Vz,f1.aB.trans f2.aB,z2⟩,?_⟩
 rintro m x i h3 ⟨i0,i1,o3,f3,z3⟩ cF
 have H3:=H.no (vp f3)
 refine⟨fun e2=> ?_,fun e2=> ?_⟩
 ·have hi:=H3.lt e2
  have wq:i.toNat<aD.length:=by omega
  obtain⟨si,c1,r1⟩:=H3.get i0 hi
  have rn:=r1.len
  have hk:=B.2 _ (List.getElem_mem wq)
  have off:∀A(q:Nat×List Value),q∈[(b1,A)]->¬h1.size<=q.1:=fun A q hq=>by
   simp only[List.mem_cons,List.not_mem_nil,or_false]at hq
   subst hq;simp only;omega
  refine⟨H3.bB i0 hi,si,c1,xX r1 (fun y hy=>by have:=hk.2 y hy;omega) (by omega) _ fun h9 f9=>⟨_,rfl,cF.aB f9,?_⟩⟩
  have z9:=f9.size
  refine mq (Ow.no o3 f9) (fun k hk=>by omega) (cF.aB f9) (off _) (by simp;omega) _ fun u hH lL f11 V11=> ?_
  have Rj:=f11.size
  rw[H3.succ i0 hi]
  refine⟨m-1,by omega,by omega,by omega,?_,(f3.trans f9.aB).trans f11,by omega⟩
  rw[show(i+1).toNat=i.toNat+1 by omega,List.take_add_one,List.getElem?_eq_getElem wq,Option.toList_some,List.map_append]
  exact lL
 ·have hi:=H3.ge e2
  rw[List.take_of_length_le (by omega)]at o3
  have hm:((aD.map fun l=>(⟨(dN l).toArray⟩:ByteArray)).map (·.data.toList))=aD.map dN:=by simp
  have VH:=RF B
  unfold tT at VH HK
  refine HI o3.eQ (fun hh=>by have:=congrArg List.length hh;simp at this;simp[this]at hp) (by simp;omega) (by rw[hm];show(Lib.join _ [59]).length<=_;omega) _ fun gK f12=>⟨_,rfl,cF.aB f12,?_⟩
  have:=HK gK ((vp f3).trans f12)
  rw[hm]
  exact this
theorem nz{P:Program}{t:TypeId}(ht:P.underlying t=some .string){K:Value->Prop}(k:IntKind)(s:ByteArray)(i:Int)(h0:0<=i)(h1:i.toNat<s.size)(H:K (.int .u8 (s[i.toNat]'h1).toNat)):pop P (Instr.index t (.string s) (.int k i)) K:=
 .mk' (fun w=>by
  have hu:=bV ht w
  have e:s[i.toNat]?=some (s[i.toNat]'h1):=by simp[getElem?_pos s i.toNat h1]
  unfold Instr.index
  simp[asIntOf,go_sem,hu,h0,e]) H
def fD(st:List (List Int)×List Int)(c:UInt8):List (List Int)×List Int:=
 if 48<=(c.toNat:Int)/\(c.toNat:Int)<=55 then(st.1,st.2++[(c.toNat:Int)-48])else if(c.toNat:Int)=59 then(st.1++[st.2],[])else st
def HQ(s:List UInt8):List (List Int)×List Int:=s.foldl fD ([],[])
def vL(s:List UInt8):List (List Int):=(HQ s).1++[(HQ s).2]
theorem J6:∀(l:List UInt8)(st:List (List Int)×List Int),(l.foldl fD st).1.length<=st.1.length+l.length/\(l.foldl fD st).2.length<=st.2.length+l.length
 |[],st=>⟨Nat.le_refl _,Nat.le_refl _⟩
 |c::l,st=>by
  have ih:=J6 l (fD st c)
  rw[List.foldl_cons,List.length_cons]
  have:(fD st c).1.length<=st.1.length+1/\(fD st c).2.length<=st.2.length+1:=by
   unfold fD
   split
   ·simp
   ·split
    ·simp
    ·omega
  omega
theorem J7{st:List (List Int)×List Int}{x:Int}(h0:0<=x)(h1:x<8):(Lib.decDigits x.toNat).foldl fD st=(st.1,st.2++[x]):=by
 rw[CI h0 (by omega)]
 have:∀n:Fin 8,((UInt8.ofNat (48+n.val)).toNat:Int)=48+n.val:=by decide
 have:=this ⟨x.toNat,by omega⟩
 simp only[List.foldl_cons,List.foldl_nil]
 unfold fD
 simp only at this
 rw[this,if_pos (by omega),show(48+(x.toNat:Int)-48)=x by omega]
theorem J8:∀(xs:List Int)(st:List (List Int)×List Int),(∀x,x∈xs->0<=x/\x<8)->(tS 44 (xs.map fun x=>Lib.decDigits x.toNat)).foldl fD st=(st.1,st.2++xs)
 |[],st,_=>by simp[tS]
 |[x],st,h=>by
  have:=h x List.mem_cons_self
  rw[List.map_cons,List.map_nil,tS,J7 this.1 this.2]
 |x::y::xs,st,h=>by
  have h1:=h x List.mem_cons_self
  rw[List.map_cons,wx _ _ (by simp),List.foldl_append,J7 h1.1 h1.2,List.foldl_cons]
  rw[show fD (st.1,st.2++[x]) 44=(st.1,st.2++[x])from rfl,J8 (y::xs) _ fun z hz=>h z (List.mem_cons_of_mem _ hz)]
  simp
theorem Fp{xs:List Int}(st:List (List Int)×List Int)(h:∀x,x∈xs->0<=x/\x<8):(dN xs).foldl fD st=(st.1,st.2++xs):=by
 unfold dN
 by_cases e:xs.length=0
 ·rw[if_pos e,List.length_eq_zero_iff.1 e,List.append_nil]
  rfl
 ·rw[if_neg e,sC,J8 xs st h]
theorem Fq:∀(g:List (List Int))(R:List (List Int)),g≠[]->(∀l,l∈g->∀x,x∈l->0<=x/\x<8)->((tS 59 (g.map dN)).foldl fD (R,[])).1++[((tS 59 (g.map dN)).foldl fD (R,[])).2]=R++g
 |[],R,h,_=>absurd rfl h
 |[l],R,_,h=>by
  rw[List.map_cons,List.map_nil,tS,Fp _ (h l List.mem_cons_self)]
  simp
 |l::m::g,R,_,h=>by
  rw[List.map_cons,wx _ _ (by simp),List.foldl_append,Fp _ (h l List.mem_cons_self),List.foldl_cons]
  rw[show fD (R,[]++l) 59=(R++[[]++l],[])from rfl,Fq (m::g) _ (by simp) fun z hz=>h z (List.mem_cons_of_mem _ hz)]
  simp
theorem VX{g:List (List Int)}(hg:aM g=true):vL (tT g)=g:=by
 have gl:=aO hg
 unfold vL HQ tT
 rw[sC,Fq g [] (fun e=>by rw[e]at gl;simp at gl) fun l hl x hx=>by have:=(aT hg hl).2 x hx;omega,List.nil_append]
theorem tU(s:ByteArray):qf s=if s.data.toList.length<=200/\aM (vL s.data.toList)=true/\tT (vL s.data.toList)=s.data.toList then(vL s.data.toList,true)else([],false):=by
 unfold qf
 cases hp:oW s.data.toList with
 |some g=>
  obtain⟨hg,ht⟩:=wy hp
  have hl:=RD hg
  have hc:=VX hg
  rw[ht]at hl hc
  rw[if_pos ⟨hl,by rw[hc];exact hg,by rw[hc];exact ht⟩,hc]
 |none=>
  rw[if_neg]
  rintro⟨_,hg,ht⟩
  have:=RC hg
  rw[ht,hp]at this
  cases this
theorem Lu{h:Heap}{s:ByteArray}(K:Value->Heap->Prop)(HK:∀t h',gO h' (Iv h.size h'.size) t (qf s).1->Fr No h h'->K (.tuple #[.agg #[t.v],VB (qf s).2]) h'):aE Tryz.prog 125 #[VS s] h K:=by
 have sl:=jU s
 refine ae4 s h K ⟨fun e b1 h2 eD f2 bW=> ?_,fun e b1 b2 h4 eD dK f4 dS=> ?_⟩
 ·simp only[decide_eq_true_eq]at e
  rw[tU,if_neg (by omega)]at HK
  exact HK aC h2 (dR.nil _ _ _ _) f2.aF
 simp only[decide_eq_false_iff_not]at e
 have f4:=f4.aF
 have z4:=f4.size
 have l2:b2<h4.size:=dS.head.lt
 have l1:b1<h4.size:=dS.tail.head.lt
 have fin:∀{h':Heap},Fr (fun k=>k=b2\/k=b1\/h4.size<=k) h4 h'->Fr No h h':=fun f=>f4.fresh f fun k hk=>by rcases hk with rfl|rfl|hk<;>omega
 have off:∀A B(q:Nat×List Value),q∈[(b2,A),(b1,B)]->q.1<h4.size:=fun A B q hq=>by
  simp only[List.mem_cons,List.not_mem_nil,or_false]at hq
  rcases hq with rfl|rfl<;>simp only<;>omega
 refine⟨fun n l i x h'=>0<=i/\i+n=(s.size:Int)/\(∃m,h4.size<=m/\m<=h'.size/\gO h' (fun k=>h4.size<=k/\k<m) x (HQ (s.data.toList.take i.toNat)).1/\bR h' (fun k=>m<=k) l (HQ (s.data.toList.take i.toNat)).2)/\Fr (fun k=>k=b2\/k=b1\/h4.size<=k) h4 h',⟨s.size,by omega,by omega,⟨h4.size,Nat.le_refl _,Nat.le_refl _,dR.nil _ _ _ _,Ow.nil _ _ _ _⟩,Fr.refl _ _⟩,?_⟩
 rintro n l i x h5 ⟨i0,i1,⟨m,m0,m1,ox,ol⟩,f5⟩ gh
 have z5:=f5.size
 have cl:=J6 (s.data.toList.take i.toNat) ([],[])
 simp only[List.length_nil,List.length_take]at cl
 have c1:(HQ (s.data.toList.take i.toNat)).1.length<=200:=by have:=cl.1;unfold HQ;omega
 have c2:(HQ (s.data.toList.take i.toNat)).2.length<=200:=by have:=cl.2;unfold HQ;omega
 have row:∀(T:Sl->Heap->Prop),(∀t h',gO h' (fun k=>h4.size<=k) t ((HQ (s.data.toList.take i.toNat)).1++[(HQ (s.data.toList.take i.toNat)).2])->Fr (fun k=>k=b2\/k=b1\/h4.size<=k) h4 h'->Vars h' [(b2,[t.v]),(b1,[aC.v])]->T t h')->jQ Tryz.prog (Instr.buildSlice ng 1 #[(0,l.v)]) h5 fun rv h1=>∃t:Sl,rv=t.v/\Vars h1 [(b2,[x.v]),(b1,[aC.v])]/\jQ Tryz.prog (bK ng ng ng x.v t.v) h1 fun Hy h2=>∃t2:Sl,Hy=t2.v/\Vars h2 [(b2,[x.v]),(b1,[aC.v])]/\∀dV,Fr (In [b2]) h2 dV->Vars dV [(b2,[t2.v]),(b1,[aC.v])]->T t2 dV:=fun T HT=>by
  refine xQ (F:=fun k=>h4.size<=k) (m:=m) ox ol (fun k hk=>by omega) m1 gh (fun p hp=>by have:=off _ _ p hp;omega) (by omega) _ fun t h7 o7 f7 V7 h8 f8 fO=> ?_
  refine HT t h8 (dR.fr o7 f8 fun k hk aI Hs=>by simp[In]at Hs;omega) ((f5.trans (f7.mono fun k _ hk=> .inr (.inr hk))).trans (f8.mono fun k _ hk=> .inl (by simpa[In]using hk))) fO
 refine⟨fun e2=> ?_,fun e2=> ?_⟩
 ·simp only[decide_eq_true_eq]at e2
  have hi:i.toNat<s.data.toList.length:=by omega
  have hc:HQ (s.data.toList.take (i.toNat+1))=fD (HQ (s.data.toList.take i.toNat)) (s.data.toList[i.toNat]):=by
   unfold HQ
   rw[List.take_add_one,List.getElem?_eq_getElem hi,Option.toList_some,List.foldl_append]
   rfl
  have VY:s[i.toNat]'(by omega)=s.data.toList[i.toNat]:=by
   show s.data[i.toNat]'_=_
   simp
  generalize hcv:s.data.toList[i.toNat]=c at hc VY
  generalize MD:HQ (s.data.toList.take i.toNat)=st at*
  have cb:(c.toNat:Int)<256:=by have:=c.toNat_lt;omega
  refine⟨fun l' x' h'=>(∃m,h4.size<=m/\m<=h'.size/\gO h' (fun k=>h4.size<=k/\k<m) x' (fD st c).1/\bR h' (fun k=>m<=k) l' (fD st c).2)/\Fr (fun k=>k=b2\/k=b1\/h4.size<=k) h4 h',?_,?_⟩
  ·have other:¬(48<=(c.toNat:Int)/\(c.toNat:Int)<=55)->¬(c.toNat:Int)=59->(∃m,h4.size<=m/\m<=h5.size/\gO h5 (fun k=>h4.size<=k/\k<m) x (fD st c).1/\bR h5 (fun k=>m<=k) l (fD st c).2)/\Fr (fun k=>k=b2\/k=b1\/h4.size<=k) h4 h5:=fun a b=>by
    unfold fD
    rw[if_neg a,if_neg b]
    exact⟨⟨m,m0,m1,ox,ol⟩,f5⟩
   have abO:¬(48<=(c.toNat:Int)/\(c.toNat:Int)<=55)->(c.toNat:Int)=59->∀t h',gO h' (fun k=>h4.size<=k) t (st.1++[st.2])->Fr (fun k=>k=b2\/k=b1\/h4.size<=k) h4 h'->(∃m,h4.size<=m/\m<=h'.size/\gO h' (fun k=>h4.size<=k/\k<m) t (fD st c).1/\bR h' (fun k=>m<=k) aC (fD st c).2)/\Fr (fun k=>k=b2\/k=b1\/h4.size<=k) h4 h':=fun a b t h' o f=>by
    unfold fD
    rw[if_neg a,if_pos b]
    exact⟨⟨h'.size,f.size,Nat.le_refl _,o.fV,Ow.nil _ _ _ _⟩,f⟩
   refine nz (by kernel_rfl) _ _ i i0 (by omega) ⟨_,rfl,?_⟩
   rw[VY]
   refine⟨fun e3=>⟨fun e4=> ?_,fun e4=> ?_⟩,fun e3=> ?_⟩
   ·simp only[decide_eq_true_eq]at e3 e4
    refine jI (show Tryz.prog.underlying _=some (.int .u8)from by kernel_rfl) (show Tryz.prog.underlying _=some (.int .i64)from by kernel_rfl) _ ⟨(c.toNat:Int)-48,?_,?_⟩
    ·have:IntKind.u8.wrap ((c.toNat:Int)-48)=(c.toNat:Int)-48:=by
      show((c.toNat:Int)-48)%256=_
      omega
     rw[this]
     show VI (aL _)=_
     rw[aG _ (by omega) (by omega)]
    refine sv (lo:=m) ol m1 gh (fun p hp=>by have:=off _ _ p hp;omega) (by omega) _ fun t h7 o7 f7 V7=> ?_
    refine⟨⟨m,m0,Nat.le_trans m1 f7.size,?_,?_⟩,f5.trans (f7.mono fun k _ hk=> .inr (.inr (by omega)))⟩
    ·unfold fD
     rw[if_pos ⟨e3,e4⟩]
     exact dR.fr ox f7 fun k hk aI Hs=>by omega
    ·unfold fD
     rw[if_pos ⟨e3,e4⟩]
     exact o7
   ·simp only[decide_eq_true_eq,decide_eq_false_iff_not]at e3 e4
    refine⟨fun e6=> ?_,fun e6=> ?_⟩
    ·simp only[decide_eq_true_eq]at e6
     exact row _ fun t h' o f V=>abO (by omega) e6 t h' o f
    ·simp only[decide_eq_false_iff_not]at e6
     exact other (by omega) e6
   ·simp only[decide_eq_false_iff_not]at e3
    refine⟨fun e6=> ?_,fun e6=> ?_⟩
    ·simp only[decide_eq_true_eq]at e6
     exact row _ fun t h' o f V=>abO (by omega) e6 t h' o f
    ·simp only[decide_eq_false_iff_not]at e6
     exact other (by omega) e6
  ·rintro l' x' h6 ⟨hm,f6⟩ jG
   rw[aG (i+1) (by omega) (by omega)]
   refine⟨n-1,by omega,by omega,by omega,?_,f6⟩
   rw[show(i+1).toNat=i.toNat+1 by omega,hc]
   exact hm
 ·simp only[decide_eq_false_iff_not]at e2
  refine row _ fun t h7 o7 f7 V7=> ?_
  rw[List.take_of_length_le (by omega)]at o7
  have o7:gO h7 (fun k=>h4.size<=k) t (vL s.data.toList):=o7
  have ocl:vL s.data.toList=vL s.data.toList:=rfl
  have bad:∀h' kY,Fr No h7 h'->Fr (In [b1]) h' kY->¬(s.data.toList.length<=200/\aM (vL s.data.toList)=true/\tT (vL s.data.toList)=s.data.toList)->K (.tuple #[.agg #[aC.v],VB false]) kY:=fun h' kY a b hn=>by
   rw[tU,if_neg hn]at HK
   exact HK aC kY (dR.nil _ _ _ _) (fin ((f7.trans a.aB).trans (b.mono fun k _ hk=> .inr (.inl (by simpa[In]using hk)))))
  refine lK o7.rd _ fun h8 f8=>⟨_,rfl,V7.aB f8,fun e3 h9 f9 fP=> ?_,fun e3=> ?_⟩
  ·exact bad h8 h9 f8 f9 fun hh=>by rw[hh.2.1]at e3;cases e3
  have e3:=aZ e3
  refine sD (o7.rd.no f8) (jg e3) _ fun h9 f9=>⟨_,rfl,(V7.aB f8).aB f9,?_⟩
  rw[ny]
  rw[show(⟨(tT (vL s.data.toList)).toArray⟩:ByteArray).data.toList=tT (vL s.data.toList)from rfl]
  refine⟨fun e4 dV f10 dL=> ?_,fun e4 dV f10 dL=> ?_⟩
  ·exact bad h9 dV (f8.trans f9) f10 fun hh=>by rw[decide_eq_true hh.2.2]at e4;cases e4
  ·have e4:=of_decide_eq_true (aZ e4)
   rw[tU,if_pos ⟨by omega,e3,e4⟩]at HK
   have z7:=f7.size
   refine HK t dV ?_ (fin ((f7.trans (f8.trans f9).aB).trans (f10.mono fun k _ hk=> .inr (.inl (by simpa[In]using hk)))))
   have mM:=dR.fr ((o7.no f8).no f9) f10 fun k hk aI Hs=>by simp[In]at Hs;omega
   exact mM.mono fun k hk aI=>⟨by omega,hk⟩
def sq(g:List (List Int))(s:St):Nat->Option St
 |0=>some s
 |n+1=>(sq g s n).bind (cA g)
theorem yb(g:List (List Int))(s:St)(a:Nat):∀b,sq g s (a+b)=(sq g s a).bind fun t=>sq g t b
 |0=>by rw[Nat.add_zero];cases sq g s a<;>rfl
 |b+1=>by
  rw[<-Nat.add_assoc,sq,yb g s a b]
  cases sq g s a<;>rfl
theorem NY{g:List (List Int)}{s:St}{a b:Nat}(h:sq g s a=sq g s b)(k:Nat):sq g s (a+k)=sq g s (b+k):=by
 rw[yb,yb,h]
theorem wF{g:List (List Int)}{s:St}{a:Nat}(h:sq g s a=none)(k:Nat):sq g s (a+k)=none:=by
 rw[yb,h];rfl
structure sE(g:List (List Int))(s:St)(m n:Nat):Prop where
 lt:m<n
 eq:sq g s m=sq g s n
 some:sq g s m≠none
 JH:∀i j,i<j->j<n->sq g s i≠sq g s j
theorem VZ{g:List (List Int)}{s:St}:∀(b:Nat){a:Nat},a<b->sq g s a=sq g s b->sq g s a≠none->∃m n,n<=b/\sE g s m n:=by
 intro b
 induction b using Nat.strongRecOn with
 |ind b ih=>
  intro a h1 h2 h3
  by_cases hx:∃i j,i<j/\j<b/\sq g s i=sq g s j
  ·obtain⟨i,j,x1,x2,x3⟩:=hx
   obtain⟨m,n,y1,y2⟩:=ih j x2 x1 x3 (fun hn=>by
    have e0:i<=a\/a<i:=by omega
    have:=wF hn (b-i)
    rw[show i+(b-i)=b by omega,<-h2]at this
    exact h3 this)
   exact⟨m,n,by omega,y2⟩
  ·exact⟨a,b,Nat.le_refl _,h1,h2,h3,fun i j x1 x2 x3=>hx ⟨i,j,x1,x2,x3⟩⟩
theorem sE.mul{g:List (List Int)}{s:St}{m n:Nat}(R:sE g s m n){a:Nat}(h:m<=a):∀k,sq g s (a+k*(n-m))=sq g s a
 |0=>by rw[Nat.zero_mul,Nat.add_zero]
 |k+1=>by
  have:=NY R.eq (a+k*(n-m)-m)
  have tf:=R.lt
  rw[show m+(a+k*(n-m)-m)=a+k*(n-m) by omega,R.mul h k]at this
  rw[this,Nat.succ_mul]
  congr 1;omega
theorem sE.all{g:List (List Int)}{s:St}{m n:Nat}(R:sE g s m n)(a:Nat):sq g s a≠none:=by
 intro h
 have h1:=wF h (m+a*(n-m))
 have tf:=R.lt
 have h2:=R.mul (a:=m) (Nat.le_refl _) a
 have:a<=a*(n-m):=Nat.le_mul_of_pos_right _ (by omega)
 have h3:=wF h (m+a*(n-m)-a)
 rw[show a+(m+a*(n-m)-a)=m+a*(n-m) by omega,h2]at h3
 exact R.some h3
theorem sE.rep{g:List (List Int)}{s:St}{m n:Nat}(R:sE g s m n){a:Nat}(h:m<=a):sq g s (m+(a-m)%(n-m))=sq g s a/\m+(a-m)%(n-m)<n:=by
 have tf:=R.lt
 have h1:=Nat.mod_add_div (a-m) (n-m)
 have h2:=R.mul (a:=m+(a-m)%(n-m)) (by omega) ((a-m)/(n-m))
 rw[Nat.mul_comm]at h1
 rw[show m+(a-m)%(n-m)+(a-m)/(n-m)*(n-m)=a by omega]at h2
 have h3:=Nat.mod_lt (a-m) (show n-m>0 by omega)
 exact⟨h2.symm,by omega⟩
theorem sE.iff{g:List (List Int)}{s:St}{m n:Nat}(R:sE g s m n){a b:Nat}(h:a<b):sq g s a=sq g s b↔m<=a/\(b-a)%(n-m)=0:=by
 have tf:=R.lt
 constructor
 ·intro e
  have ha:m<=a:=by
   refine Nat.not_lt.1 fun hl=> ?_
   by_cases hb:b<n
   ·exact R.JH a b h hb e
   ·obtain⟨r1,r2⟩:=R.rep (a:=b) (by omega)
    exact R.JH a _ (by omega) r2 (e.trans r1.symm)
  refine⟨ha,?_⟩
  obtain⟨r1,r2⟩:=R.rep (a:=b) (by omega)
  obtain⟨q1,q2⟩:=R.rep ha
  have hr:(a-m)%(n-m)=(b-m)%(n-m):=by
   rcases Nat.lt_trichotomy ((a-m)%(n-m)) ((b-m)%(n-m))with x|x|x
   ·exact absurd (q1.trans (e.trans r1.symm)) (R.JH _ _ (by omega) r2)
   ·exact x
   ·exact absurd (r1.trans (e.symm.trans q1.symm)) (R.JH _ _ (by omega) q2)
  have:=Nat.sub_mod_eq_zero_of_mod_eq hr.symm
  rwa [show b-m-(a-m)=b-a by omega]at this
 ·rintro⟨h1,h2⟩
  have h3:=Nat.mod_add_div (b-a) (n-m)
  rw[h2,Nat.zero_add,Nat.mul_comm]at h3
  have:=R.mul h1 ((b-a)/(n-m))
  rw[h3,show a+(b-a)=b by omega]at this
  exact this.symm
theorem sE.Wa{g:List (List Int)}{s:St}{m n m' n':Nat}(R:sE g s m n)(R':sE g s m' n'):m=m'/\n=n':=by
 have h1:=R.lt
 have h2:=R'.lt
 have hn:n=n':=by
  rcases Nat.lt_trichotomy n n' with x|x|x
  ·exact absurd R.eq (R'.JH m n h1 x)
  ·exact x
  ·exact absurd R'.eq (R.JH m' n' h2 x)
 subst hn
 refine⟨?_,rfl⟩
 rcases Nat.lt_trichotomy m m' with x|x|x
 ·exact absurd (R.eq.trans R'.eq.symm) (R.JH m m' x h2)
 ·exact x
 ·exact absurd (R'.eq.trans R.eq.symm) (R.JH m' m x h1)
theorem sE.meets{g:List (List Int)}{s:St}{m n:Nat}(R:sE g s m n):∃k,1<=k/\k<=n/\m<=k/\sq g s k=sq g s (2*k):=by
 have tf:=R.lt
 have h1:=Nat.mod_add_div m (n-m)
 have h3:=Nat.mod_lt m (show n-m>0 by omega)
 by_cases h0:m%(n-m)=0/\1<=m
 ·refine⟨m,h0.2,by omega,Nat.le_refl _,(R.iff (by omega)).2 ⟨Nat.le_refl _,?_⟩⟩
  rw[show 2*m-m=m by omega];exact h0.1
 ·have hk:(n-m)*(m/(n-m)+1)=(n-m)*(m/(n-m))+(n-m):=by rw[Nat.mul_succ]
  refine⟨(n-m)*(m/(n-m)+1),by omega,?_,by omega,?_⟩
  ·by_cases hm:m=0
   ·subst hm
    simp at hk⊢
   ·have:m%(n-m)≠0:=fun e=>h0 ⟨e,by omega⟩
    omega
  ·refine(R.iff (by omega)).2 ⟨by omega,?_⟩
   rw[show 2*((n-m)*(m/(n-m)+1))-(n-m)*(m/(n-m)+1)=(n-m)*(m/(n-m)+1) by omega]
   exact Nat.mul_mod_right _ _
def nU:List St->St->Option Nat
 |[],_=>none
 |x::xs,s=>if x=s then some 0 else(nU xs s).map (·+1)
theorem pT:∀{hs:List St}{s:St}{m:Nat},nU hs s=some m->hs[m]?=some s
 |[],s,m,h=>by simp[nU]at h
 |x::xs,s,m,h=>by
  rw[nU]at h
  split at h
  ·rename_i e
   simp only[Option.some.injEq]at h
   rw[<-h,e];rfl
  ·cases hm:nU xs s with
   |none=>rw[hm]at h;simp at h
   |some k=>
    rw[hm]at h
    simp only[Option.map_some,Option.some.injEq]at h
    rw[<-h,List.getElem?_cons_succ]
    exact pT hm
theorem tV:∀{hs:List St}{s:St},nU hs s=none->s∉hs
 |[],s,_=>by simp
 |x::xs,s,h=>by
  rw[nU]at h
  split at h
  ·cases h
  ·rename_i e
   cases hm:nU xs s with
   |none=>
    intro hx
    rcases List.mem_cons.1 hx with a|a
    ·exact e a.symm
    ·exact tV hm a
   |some k=>rw[hm]at h;simp at h
def Fs(g:List (List Int)):Nat->Nat->St->List St->Int×Int×Bool
 |0,_,_,_=>(0,0,false)
 |f+1,n,s,hs=>match nU hs s with
  |some m=>((m:Int),(n:Int)-m,true)
  |none=>match cA g s with
   |none=>(0,0,false)
   |some s'=>Fs g f (n+1) s' (hs++[s])
structure CK(g:List (List Int))(s0:St)(n:Nat)(s:St)(hs:List St):Prop where
 len:hs.length=n
 at_:∀i,i<n->hs[i]?=sq g s0 i
 now:sq g s0 n=some s
 JH:∀i j,i<j->j<n->sq g s0 i≠sq g s0 j
theorem CK.init(g:List (List Int))(s0:St):CK g s0 0 s0 []:=⟨rfl,fun i h=>by omega,rfl,fun i j _ h=>by omega⟩
theorem CK.next{g:List (List Int)}{s0 s s':St}{n:Nat}{hs:List St}(H:CK g s0 n s hs)(h:nU hs s=none)(GQ:cA g s=some s'):CK g s0 (n+1) s' (hs++[s]):=by
 refine⟨by rw[List.length_append,H.len];rfl,fun i hi=> ?_,by rw[sq,H.now];exact GQ,fun i j h1 h2=> ?_⟩
 ·by_cases e:i=n
  ·subst e
   rw[List.getElem?_append_right (by rw[H.len];exact Nat.le_refl _),H.len,Nat.sub_self,H.now];rfl
  ·rw[List.getElem?_append_left (by rw[H.len];omega)]
   exact H.at_ i (by omega)
 ·by_cases e:j=n
  ·subst e
   intro he
   rw[H.now,<-H.at_ i h1]at he
   exact tV h (List.mem_of_getElem? he)
  ·exact H.JH i j h1 (by omega)
theorem Ft{g:List (List Int)}{s0:St}{m k:Nat}(R:sE g s0 m k):∀(f n:Nat)(s:St)(hs:List St),CK g s0 n s hs->n<=k->k<n+f->Fs g f n s hs=((m:Int),(k:Int)-m,true)
 |0,n,s,hs,H,h1,h2=>by omega
 |f+1,n,s,hs,H,h1,h2=>by
  rw[Fs]
  cases hi:nU hs s with
  |some i=>
   have h3:=pT hi
   have Un:i<n:=by
    refine Nat.not_le.1 fun hle=> ?_
    rw[List.getElem?_eq_none (by rw[H.len];exact hle)]at h3;cases h3
   rw[H.at_ i Un,<-H.now]at h3
   have R':sE g s0 i n:=⟨Un,h3,by rw[h3,H.now];simp,H.JH⟩
   obtain⟨a,b⟩:=R.Wa R'
   rw[a,b]
  |none=>
   cases GQ:cA g s with
   |none=>
    exfalso
    have:=R.all (n+1)
    rw[sq,H.now]at this
    exact this GQ
   |some s'=>
    have dZ:n≠k:=by
     rintro rfl
     have h3:=R.eq
     rw[H.now,<-H.at_ m R.lt]at h3
     exact tV hi (List.mem_of_getElem? h3)
    exact Ft R f (n+1) s' _ (H.next hi GQ) (by omega) (by omega)
theorem J9{g:List (List Int)}{s0:St}:∀(f n:Nat)(s:St)(hs:List St),CK g s0 n s hs->(∀m k,sE g s0 m k->n+f<=k)->Fs g f n s hs=(0,0,false)
 |0,n,s,hs,H,h=>rfl
 |f+1,n,s,hs,H,h=>by
  rw[Fs]
  cases hi:nU hs s with
  |some i=>
   have h3:=pT hi
   have Un:i<n:=by
    refine Nat.not_le.1 fun hle=> ?_
    rw[List.getElem?_eq_none (by rw[H.len];exact hle)]at h3;cases h3
   rw[H.at_ i Un,<-H.now]at h3
   have:=h i n ⟨Un,h3,by rw[h3,H.now];simp,H.JH⟩
   omega
  |none=>
   cases GQ:cA g s with
   |none=>rfl
   |some s'=>exact J9 f (n+1) s' _ (H.next hi GQ) fun m k R=>by have:=h m k R;omega
def Fu(g:List (List Int))(s:St):Int×Int×Bool:=Fs g 2001 0 s []
theorem Fv{g:List (List Int)}{s:St}{m k:Nat}(R:sE g s m k)(h:k<=2000):Fu g s=((m:Int),(k:Int)-m,true):=Ft R 2001 0 s [] (CK.init g s) (Nat.zero_le _) (by omega)
theorem Ka{g:List (List Int)}{s:St}(h:∀m k,sE g s m k->2000<k):Fu g s=(0,0,false):=J9 2001 0 s [] (CK.init g s) fun m k R=>by have:=h m k R;omega
def oY(h:Heap)(b:Nat)(eY:List (ByteArray×Int)):Prop:=∃(es:Array MapEntry)(clock:Nat),h[b]?=some (.map es clock)/\es.toList.map (fun e=>(e.key,e.val))=eY.map fun q=>(VS q.1,VI q.2)
theorem oY.lt{h:Heap}{b:Nat}{eY:List (ByteArray×Int)}(M:oY h b eY):b<h.size:=by
 obtain⟨es,c,hb,_⟩:=M
 exact(Array.getElem?_eq_some_iff.1 hb).1
theorem oY.fr{h h':Heap}{b:Nat}{eY:List (ByteArray×Int)}{T:Nat->Prop}(M:oY h b eY)(f:Fr T h h')(hT:¬T b):oY h' b eY:=by
 have hl:=M.lt
 obtain⟨es,c,hb,e⟩:=M
 exact⟨es,c,by rw[f.same b hl hT];exact hb,e⟩
def oZ(eY:List (ByteArray×Int))(k:ByteArray):Option Int:=match eY with
 |[]=>none
 |q::r=>if q.1=k then some q.2 else oZ r k
theorem Fw{t:TypeId}{h:Heap}{K:Value->Heap->Prop}(HK:∀h',oY h' h.size []->Fr No h h'->h.size<h'.size->K (.map (some h.size)) h'):jQ Tryz.prog (Instr.makeMap t none) h K:=by
 refine⟨fun w hw=> ?_⟩
 subst hw
 refine⟨_,_,run_makeMap_plain w t,⟨rfl,rfl,rfl⟩,HK _ ⟨#[],0,?_,rfl⟩ (Fr.push w.heap _) ?_⟩
 ·show(w.heap.push _)[w.heap.size]?=_
  simp
 ·show w.heap.size<(w.heap.push _).size
  simp
theorem pc{k:ByteArray}:∀(l:List MapEntry)(eY:List (ByteArray×Int))(i:Nat),l.map (fun e=>(e.key,e.val))=eY.map (fun q=>(VS q.1,VI q.2))->∃r,Instr.findNow .string (VS k) l i=some r/\r.map (·.2)=(oZ eY k).map VI
 |[],[],i,_=>⟨none,rfl,rfl⟩
 |[],q::r,i,h=>by simp at h
 |e::l,[],i,h=>by simp at h
 |e::l,q::r,i,h=>by
  simp only[List.map_cons,List.cons.injEq,Prod.mk.injEq]at h
  obtain⟨⟨h1,h2⟩,h3⟩:=h
  obtain⟨x,hx,hy⟩:=pc l r (i+1) h3
  unfold Instr.findNow oZ
  rw[h1]
  by_cases hq:q.1=k
  ·have:Instr.sameNow .string (VS k) (VS q.1)=some true:=by
    show some (k==q.1)=some true
    rw[hq,(MapKept.bytes_beq k k).2 rfl]
   rw[this,if_pos hq]
   exact⟨some (i,e.val),rfl,by simp[h2]⟩
  ·have:Instr.sameNow .string (VS k) (VS q.1)=some false:=by
    show some (k==q.1)=some false
    have:(k==q.1)=false:=by
     cases hb:(k==q.1)with
     |false=>rfl
     |true=>exact absurd ((MapKept.bytes_beq k q.1).1 hb).symm hq
    rw[this]
   rw[this,if_neg hq]
   exact⟨x,hx,hy⟩
theorem HU{t kt et:TypeId}{h:Heap}{b:Nat}{eY:List (ByteArray×Int)}{k:ByteArray}(hm:Tryz.prog.underlying t=some (.map kt et))(hk:Tryz.prog.underlying kt=some .string)(hz:oy Tryz.prog et=some (VI 0))(M:oY h b eY){K:Value->Prop}(HK:K (.tuple #[VI ((oZ eY k).getD 0),VB (oZ eY k).isSome])):zN Tryz.prog (Instr.lookup t (.map (some b)) (VS k) true) h K:=by
 obtain⟨es,c,hb,e⟩:=M
 obtain⟨r,hr,hv⟩:=pc (k:=k) es.toList eY 0 e
 refine⟨_,fun w hw=> ?_,HK⟩
 subst hw
 have hc:(Instr.checkKey es.isEmpty 10000 kt (VS k)).run Tryz.prog w= .ok () w:=MapKept.run_checkKey (k:= .string k) hk (by simp[MapKept.IsKey]) es.isEmpty 9999
 have hf:=MapKept.run_findKey (w:=w) hk hr
 have hzr:(zeroValue et).run Tryz.prog w= .ok (VI 0) w:=by
  unfold oy at hz
  cases hi:Tryz.prog.info? et with
  |none=>rw[hi]at hz;simp at hz
  |some i=>
   rw[hi]at hz
   simp only[Option.bind_some]at hz
   unfold zeroValue
   rw[aK (dP hi w)]
   simp[hz,pure,Sem.run]
 unfold Instr.lookup
 simp only[Sem.run_bind,run_underlying hm,Result.andThen,MapKept.run_getObj_map hb,hc,hf]
 cases r with
 |none=>
  cases hs:oZ eY k with
  |none=>simp[hc,hf,Sem.run,pure,hzr,Result.andThen]
  |some x=>rw[hs]at hv;simp at hv
 |some p=>
  cases hs:oZ eY k with
  |none=>rw[hs]at hv;simp at hv
  |some x=>
   rw[hs]at hv
   simp only[Option.map_some,Option.some.injEq]at hv
   simp[hc,hf,Sem.run,pure,Result.andThen,hv]
theorem zZ{t kt et:TypeId}{h:Heap}{b:Nat}{eY:List (ByteArray×Int)}{k:ByteArray}{x:Int}(hm:Tryz.prog.underlying t=some (.map kt et))(hk:Tryz.prog.underlying kt=some .string)(M:oY h b eY)(hn:oZ eY k=none){K:Value->Heap->Prop}(HK:∀v h',oY h' b (eY++[(k,x)])->Fr (In [b]) h h'->K v h'):Aj Tryz.prog (Instr.mapUpdate t (.map (some b)) (VS k) (VI x)) h K:=by
 have hl:=M.lt
 obtain⟨es,c,hb,e⟩:=M
 obtain⟨r,hr,hv⟩:=pc (k:=k) es.toList eY 0 e
 rw[hn]at hv
 have Ct:r=none:=by cases r with
  |none=>rfl
  |some p=>simp at hv
 subst Ct
 refine⟨fun w hw=> ?_⟩
 subst hw
 have hc:(Instr.checkKey false 10000 kt (VS k)).run Tryz.prog w= .ok () w:=MapKept.run_checkKey (k:= .string k) hk (by simp[MapKept.IsKey]) false 9999
 have hf:=MapKept.run_findKey (w:=w) hk hr
 refine⟨{w with heap:=w.heap.setIfInBounds b (.map (es.push {key:=VS k,val:=VI x,born:=c}) (c+1))},?_,⟨rfl,rfl,rfl⟩,HK _ _ ⟨es.push {key:=VS k,val:=VI x,born:=c},c+1,?_,?_⟩ ⟨by simp,fun j hj dZ=> ?_⟩⟩
 ·unfold Instr.mapUpdate
  simp only[Sem.run_bind,run_underlying hm,Result.andThen,MapKept.run_getObj_map hb,hc,hf,MapKept.run_setObj_map _ hb]
 ·simp only
  rw[Array.getElem?_setIfInBounds,if_pos rfl,if_pos hl]
 ·rw[Array.toList_push,List.map_append,List.map_append,e]
  rfl
 ·simp only
  rw[Array.getElem?_setIfInBounds,if_neg (fun hh=>dZ (by simp[In,hh]))]
def Kb(s:St):List UInt8:=Lib.decDigits s.2.toNat++[58]++dN s.1
def CL(s:St):ByteArray:=⟨(Kb s).toArray⟩
theorem CM{a b:Int}(a0:0<=a)(a1:a<10)(b0:0<=b)(b1:b<10){x y:List UInt8}(h:Lib.decDigits a.toNat++x=Lib.decDigits b.toNat++y):a=b/\x=y:=by
 rw[Lib.decDigits_one (show a.toNat<10 by omega),Lib.decDigits_one (show b.toNat<10 by omega)]at h
 simp only[List.cons_append,List.nil_append,List.cons.injEq]at h
 obtain⟨h1,h2⟩:=h
 have h3:=congrArg UInt8.toNat h1
 simp only[UInt8.toNat_ofNat']at h3
 exact⟨by omega,h2⟩
theorem Fx:∀(us vs:List Int),us.length=vs.length->(∀x,x∈us->0<=x/\x<10)->(∀x,x∈vs->0<=x/\x<10)->Lib.joinTail [44] (us.map fun x=>Lib.decDigits x.toNat)=Lib.joinTail [44] (vs.map fun x=>Lib.decDigits x.toNat)->us=vs
 |[],[],_,_,_,_=>rfl
 |[],_::_,h,_,_,_=>by simp at h
 |_::_,[],h,_,_,_=>by simp at h
 |a::us,b::vs,hl,ha,hb,h=>by
  simp only[Lib.joinTail,List.map_cons,List.flatten_cons,List.append_assoc,List.cons_append,List.nil_append,List.cons.injEq,true_and]at h
  have A:=ha a (List.mem_cons_self ..)
  have B:=hb b (List.mem_cons_self ..)
  obtain⟨e1,e2⟩:=CM A.1 A.2 B.1 B.2 h
  rw[e1,Fx us vs (by simpa using hl) (fun x hx=>ha x (List.mem_cons_of_mem _ hx)) (fun x hx=>hb x (List.mem_cons_of_mem _ hx)) e2]
theorem NZ{us vs:List Int}(hl:us.length=vs.length)(ha:∀x,x∈us->0<=x/\x<10)(hb:∀x,x∈vs->0<=x/\x<10)(h:dN us=dN vs):us=vs:=by
 match us,vs,hl,ha,hb,h with
 |[],[],_,_,_,_=>rfl
 |[],_::_,hl,_,_,_=>simp at hl
 |_::_,[],hl,_,_,_=>simp at hl
 |a::us,b::vs,hl,ha,hb,h=>
  unfold dN at h
  rw[if_neg (by simp),if_neg (by simp)]at h
  simp only[List.map_cons]at h
  rw[Lib.join_cons,Lib.join_cons]at h
  have A:=ha a (List.mem_cons_self ..)
  have B:=hb b (List.mem_cons_self ..)
  obtain⟨e1,e2⟩:=CM A.1 A.2 B.1 B.2 h
  rw[e1,Fx us vs (by simpa using hl) (fun x hx=>ha x (List.mem_cons_of_mem _ hx)) (fun x hx=>hb x (List.mem_cons_of_mem _ hx)) e2]
theorem fQ{g:List (List Int)}{s:St}(W:gj g s):(∀x,x∈s.1->0<=x/\x<10)/\0<=s.2/\s.2<10/\s.1.length<=8:=by
 have hg:=aO W.bE
 have hl:=W.len
 have h0:=W.lo
 have h1:=W.hi
 refine⟨fun x hx=> ?_,h0,by omega,by omega⟩
 obtain⟨i,hi,rfl⟩:=List.getElem_of_mem hx
 have:=W.P7 i hi (by omega)
 have hm:=(aT W.bE (List.getElem_mem (show i<g.length by omega))).1
 omega
theorem key_inj{g:List (List Int)}{s t:St}(W:gj g s)(W':gj g t)(h:CL s=CL t):s=t:=by
 obtain⟨a1,a2,a3,_⟩:=fQ W
 obtain⟨b1,b2,b3,_⟩:=fQ W'
 have h:Kb s=Kb t:=by
  have:=congrArg (fun x=>x.data.toList) h
  simpa[CL]using this
 unfold Kb at h
 rw[List.append_assoc,List.append_assoc]at h
 obtain⟨e1,e2⟩:=CM a2 a3 b2 b3 h
 simp only[List.cons_append,List.nil_append,List.cons.injEq,true_and]at e2
 exact Prod.ext (NZ (by rw[W.len,W'.len]) a1 b1 e2) e1
def kvL(hs:List St):List (ByteArray×Int):=hs.zipIdx.map fun q=>(CL q.1,(q.2:Int))
theorem N3(hs:List St)(s:St):kvL (hs++[s])=kvL hs++[(CL s,(hs.length:Int))]:=by
 unfold kvL
 rw[List.zipIdx_append,List.map_append]
 simp
theorem Kc{g:List (List Int)}{s:St}(W:gj g s):∀(hs:List St)(k:Nat),(∀t,t∈hs->gj g t)->oZ ((hs.zipIdx k).map fun q=>(CL q.1,(q.2:Int))) (CL s)=(nU hs s).map fun m=>((m+k:Nat):Int)
 |[],k,_=>rfl
 |t::hs,k,h=>by
  rw[List.zipIdx_cons,List.map_cons,oZ,nU]
  by_cases e:t=s
  ·rw[if_pos (by rw[e]),if_pos e];simp
  ·rw[if_neg fun hh=>e (key_inj (h t (List.mem_cons_self ..)) W hh),if_neg e,Kc W hs (k+1) fun t ht=>h t (List.mem_cons_of_mem _ ht)]
   cases nU hs s with
   |none=>rfl
   |some m=>simp only[Option.map_some,Option.some.injEq];omega
theorem yc{g:List (List Int)}{s:St}(W:gj g s)(hs:List St)(h:∀t,t∈hs->gj g t):oZ (kvL hs) (CL s)=(nU hs s).map fun m=>((m:Nat):Int):=Kc W hs 0 h
theorem HV{S:Nat->Prop}{h:Heap}{w:Sl}{rs:List Int}{p:Int}(H:aQ S h w rs)(B:∀x,x∈rs->0<=x/\x<100)(hn:rs.length<=1000)(p0:0<=p)(p1:p<100)(K:Value->Heap->Prop)(HK:∀h',Fr No h h'->K (VS (CL (rs,p))) h'):aE Tryz.prog 55 #[.agg #[w.v,VI p]] h K:=by
 refine v55 w p h K fun b1 h1 eD f1 bY=> ?_
 have f1:=f1.aF
 have d1:=sB (show p.toNat<100 by omega)
 have l1:=tP B
 refine NS p0 p1 _ ⟨_,rfl,bY,?_,?_⟩
 ·rw[bZ];show _+1<=_;omega
 refine xX (H.no f1) B hn _ fun h3 f3=>⟨_,rfl,bY.aB f3,?_,?_⟩
 ·rw[show(⟨#[58]⟩:ByteArray)=⟨[58].toArray⟩from rfl,eN,bZ,bZ,List.length_append]
  show _+1+_<=_
  omega
 ·rw[show(⟨#[58]⟩:ByteArray)=⟨[58].toArray⟩from rfl,eN,eN]
  exact HK h3 (f1.trans f3)
theorem N4{S S':Nat->Prop}{h:Heap}{g w:Sl}{aD:List (List Int)}{rs:List Int}{p:Int}(G:bU S h g aD)(H:aQ S' h w rs)(W:gj aD (rs,p))(K:Value->Heap->Prop)(HK:∀h',Fr No h h'->K (.tuple #[VI (Fu aD (rs,p)).1,VI (Fu aD (rs,p)).2.1,VB (Fu aD (rs,p)).2.2]) h'):aE Tryz.prog 203 #[.agg #[g.v],.agg #[w.v,VI p]] h K:=by
 have hm:Tryz.prog.underlying 257=some (.map 9 3):=by kernel_rfl
 have hk:Tryz.prog.underlying 9=some .string:=by kernel_rfl
 have hz:oy Tryz.prog 3=some (VI 0):=by kernel_rfl
 have wl:=W.len
 have ws:=fQ W
 have ws4:rs.length<=8:=ws.2.2.2
 refine v203 g w p h K fun b1 b2 h2 eD dK f2 bW=> ?_
 have f2:=f2.aF
 have z2:=f2.size
 have l2:b2<h2.size:=bW.head.lt
 have l1:b1<h2.size:=bW.tail.head.lt
 refine Fw fun h3 M3 f3 s3=>⟨_,rfl,bW.aB f3,?_⟩
 have gq:=f2.trans f3
 refine ic (H.no gq) p (by omega) _ fun u h4 o4 f4=>⟨u,p,rfl,(bW.aB f3).aB f4,fun b3 h6 iR f6 jG=> ?_⟩
 have f6:=f6.aF
 have z4:=f4.size
 have z6:=f6.size
 have l3:b3<h6.size:=jG.head.lt
 have f36:=f4.trans f6
 generalize hF:(fun k=>Iv h3.size h4.size k\/k=b3)=F
 have F1:∀k,F k->h2.size<k:=fun k hk=>by rw[<-hF]at hk;rcases hk with hk|hk;exact Nat.lt_of_lt_of_le s3 hk.1;omega
 have F2:∀k,Iv h3.size h4.size k->F k:=fun k hk=>by rw[<-hF];exact .inl hk
 have F3:F b3:=by rw[<-hF];exact .inr rfl
 have o6:bR h6 F u rs:=(Ow.no o4 f6).mono fun k _ hk=>F2 k hk
 have hub:¬u.own b3:=fun hk=>by have:=(o4.aH hk).2;omega
 have vp:∀{x:Heap},Fr (fun k=>h2.size<=k) h x->Fr No h x:=fun f=>f.mono fun k hk aI=>absurd aI (by omega)
 have G0:bU (fun k=>S k/\k<h.size) h g aD:=G.xd
 refine⟨fun x q h'=>Fu aD (rs,p)=(0,0,false)/\Fr (fun k=>h2.size<=k) h h',⟨fun n i x q h'=>∃(hs:List St)(s:St),i=(hs.length:Int)/\n+hs.length=2001/\q=s.2/\bR h' F x s.1/\¬x.own b3/\oY h' h2.size (kvL hs)/\(∀t,t∈hs->gj aD t)/\gj aD s/\Fu aD (rs,p)=Fs aD n hs.length s hs/\Fr (fun k=>h2.size<=k) h h',⟨2001,[],(rs,p),rfl,rfl,rfl,o6,hub,M3.fr f36 (fun h=>h),fun t ht=>(by cases ht),W,rfl,(gq.trans f36).aB⟩,?_⟩,?_⟩
 ·rintro n i x q h7 ⟨hs,s,rfl,en,rfl,o7,hx,M7,Wh,Ws,eP,f7⟩ jv
  have ss:=fQ Ws
  refine⟨fun e=> ?_,fun e=> ?_⟩
  ·simp only[decide_eq_true_eq]at e
   obtain⟨n,rfl⟩:∃n',n=n'+1:=⟨n-1,by omega⟩
   rw[Fs]at eP
   refine HV (show aQ _ h7 x s.1 from o7.eQ) (fun y hy=>by have:=ss.1 y hy;omega) (by omega) ss.2.1 (by omega) _ fun h8 f8=>⟨_,rfl,jv.aB f8,?_⟩
   have M8:=M7.fr f8 (fun h=>h)
   refine HU hm hk hz M8 ⟨_,_,rfl,fun e2=> ?_,fun e2=> ?_⟩
   ·rw[yc Ws hs Wh]at e2⊢
    cases hi:nU hs s with
    |none=>rw[hi]at e2;cases e2
    |some m=>
     rw[hi]at eP
     simp only at eP
     have hml:=(List.getElem?_eq_some_iff.1 (pT hi)).1
     simp only[Option.map_some,Option.getD_some]
     rw[aG _ (by omega) (by omega)]
     have:=HK h8 ((vp f7).trans f8)
     rw[eP]at this
     exact this
   ·rw[yc Ws hs Wh]at e2
    cases hi:nU hs s with
    |some m=>rw[hi]at e2;cases e2
    |none=>
     rw[hi]at eP
     simp only at eP
     refine zZ hm hk M8 (by rw[yc Ws hs Wh,hi];rfl) fun v h9 M9 f9=>⟨?_,?_⟩
     ·exact(jv.aB f8).fr f9 fun q hq hk=>by
       simp only[List.mem_cons,List.not_mem_nil,or_false]at hq
       simp only[In,List.mem_cons,List.not_mem_nil,or_false]at hk
       rcases hq with rfl|rfl|rfl<;>simp only at hk<;>omega
     have fP:Vars h9 [(b3,[x.v,VI s.2]),(b2,[w.v,VI p]),(b1,[g.v])]:=(jv.aB f8).fr f9 fun q hq hk=>by
      simp only[List.mem_cons,List.not_mem_nil,or_false]at hq
      simp only[In,List.mem_cons,List.not_mem_nil,or_false]at hk
      rcases hq with rfl|rfl|rfl<;>simp only at hk<;>omega
     have f79:Fr (fun k=>h2.size<=k) h7 h9:=f8.aB.trans (f9.mono fun k _ hk=>by simp[In]at hk;omega)
     have o9:bR h9 F x s.1:=Ow.fr (Ow.no o7 f8) f9 fun k hk aI=>by have:=F1 _ (o7.aH hk).1;simp[In]at aI;omega
     have P8:=f7.trans f79
     have M9':oY h9 h2.size (kvL (hs++[s])):=by rw[N3];exact M9
     have G9:bU (fun k=>S k/\k<h.size) h9 g aD:=G0.fr P8 fun k hk aI=>by omega
     refine Cr (s:=s) G9 fP.head o9 (fun k hk aI=>by have:=F1 _ aI;omega) F3 hx Ws _ (fun hn dV f10=>⟨x,s.2,false,rfl,fP.aB f10,fun _=> ?_,fun e=>by cases e⟩) (fun s' GQ dV mM V10 f10=>⟨x,s'.2,true,rfl,?_,fun e=>(by cases e),fun _=> ?_⟩)
     ·rw[hn]at eP
      exact⟨eP,P8.trans f10.aB⟩
     ·exact .cons V10 (fP.ne) (fP.tail.fr f10 fun q hq hk=>by
       simp only[List.mem_cons,List.not_mem_nil,or_false]at hq
       have:=F1 _ hk
       rcases hq with rfl|rfl<;>simp only at this<;>omega)
     ·rw[GQ]at eP
      simp only at eP
      refine⟨n,by omega,hs++[s],s',?_,by simp;omega,rfl,mM,hx,M9'.fr f10 fun hk=>by have:=F1 _ hk;omega,fun t ht=> ?_,Ws.step GQ,by rw[eP];simp,P8.trans (f10.mono fun k _ hk=>by have:=F1 _ hk;omega)⟩
      ·rw[aG _ (by omega) (by omega)];simp
      ·rcases List.mem_append.1 ht with ht|ht
       ·exact Wh t ht
       ·simp only[List.mem_cons,List.not_mem_nil,or_false]at ht
        rw[ht];exact Ws
  ·simp only[decide_eq_false_iff_not]at e
   have:n=0:=by omega
   subst this
   exact⟨eP,f7⟩
 ·rintro x q hH ⟨eP,f11⟩ iu
  have:=HK hH (vp f11)
  rw[eP]at this
  exact this
def Ch{α:Type}(f:α->Option α):List α->Option α->Prop
 |[],_=>True
 |[x],e=>f x=e
 |x::y::l,e=>f x=some y/\Ch f (y::l) e
theorem Ch.at{α:Type}{f:α->Option α}{e:Option α}:∀{pre post:List α}{x:α},Ch f (pre++x::post) e->f x=(match post with|[]=>e|y::_=>some y)
 |[],[],x,h=>h
 |[],y::post,x,h=>h.1
 |[a],post,x,h=>Ch.at (pre:=[]) h.2
 |a::b::pre,post,x,h=>Ch.at (pre:=b::pre) h.2
theorem Ch.map{α β:Type}{f:α->Option α}{F:β->Option β}{g:α->β}{e:Option β}:∀{l:List α},Ch f l none->(∀x y,f x=some y->F (g x)=some (g y))->(∀x,f x=none->x∈l->F (g x)=e)->Ch F (l.map g) e
 |[],_,_,_=>trivial
 |[x],h,_,h2=>h2 x h (List.mem_singleton.2 rfl)
 |x::y::l,h,h1,h2=>⟨h1 x y h.1,Ch.map (l:=y::l) h.2 h1 fun z hz hm=>h2 z hz (List.mem_cons_of_mem _ hm)⟩
theorem qx(b:Nat):∀(vs:List Value)(i o:Nat)(w:World),(World.setCells w b (o+i) vs).heap=(vs.zipIdx i).foldl (fun h p=>Mx.cK h ((⟨b,o,none⟩:Addr).add p.2) p.1) w.heap/\cN w (World.setCells w b (o+i) vs)
 |[],i,o,w=>⟨rfl,cN.refl _⟩
 |v::vs,i,o,w=>by
  rw[World.setCells,List.zipIdx_cons,List.foldl_cons,gw]
  obtain⟨a,b'⟩:=qx b vs (i+1) o (w.setCell ⟨b,o+i,none⟩ v)
  rw[show o+i+1=o+(i+1) by omega,a]
  exact⟨rfl,cN.trans (b:=w.setCell ⟨b,o+i,none⟩ v) ⟨rfl,rfl,rfl⟩ b'⟩
theorem Ow.abP{F:Nat->Prop}{e:TypeId}{s:Sl}{g o:Nat}(ha:s.a=some ⟨g,o,none⟩):∀(vs:List Value)(i:Nat){h:Heap}{cs:List Value},Ow h F e 1 s cs->i+vs.length<=s.n->
 Fr s.own h ((vs.zipIdx i).foldl (fun h p=>Mx.cK h ((⟨g,o,none⟩:Addr).add p.2) p.1) h)/\Ow ((vs.zipIdx i).foldl (fun h p=>Mx.cK h ((⟨g,o,none⟩:Addr).add p.2) p.1) h) F e 1 s (cs.take i++vs++cs.drop (i+vs.length))
 |[],i,h,cs,H,_=>⟨Fr.refl _ _,by simpa using H⟩
 |v::vs,i,h,cs,H,hl=>by
  simp only[List.length_cons]at hl
  simp only[List.zipIdx_cons,List.foldl_cons]
  have hc:=H.len
  have iG:((i:Nat):Int)<(s.n:Int):=by omega
  have h0':(0:Int)<=((i:Nat):Int):=by omega
  obtain⟨_,a2,a3⟩:=H.eX h0' iG v
  have ea:s.at (i:Int) 1=(⟨g,o,none⟩:Addr).add i:=by rw[at_one ha];rfl
  rw[ea]at a2 a3
  rw[show((i:Nat):Int).toNat=i from rfl]at a2
  obtain⟨b1,b2⟩:=Ow.abP ha vs (i+1) a2 (by omega)
  refine⟨a3.trans b1,?_⟩
  have eq1:(cs.set i v).take (i+1)++vs++(cs.set i v).drop (i+1+vs.length)=cs.take i++(v::vs)++cs.drop (i+(v::vs).length):=by
   have e1:(cs.set i v).take (i+1)=cs.take i++[v]:=by
    rw[List.take_succ_eq_append_getElem (by simp;omega),List.take_set_of_le (Nat.le_refl _)]
    simp
   have e2:(cs.set i v).drop (i+1+vs.length)=cs.drop (i+(v::vs).length):=by
    rw[List.drop_set_of_lt (by omega)]
    congr 1
    simp;omega
   rw[e1,e2]
   simp
  rw[<-eq1]
  exact b2
theorem N6{h:Heap}{F:Nat->Prop}{s:Sl}{xs:List Int}(O:bR h F s xs){i:Nat}(hi:i<xs.length)(K:Value->Heap->Prop)(HK:∀t h',bR h' F t (xs.eraseIdx i)->Fr s.own h h'->(∀k,t.own k->s.own k)->K t.v h'):aE Tryz.prog 258 #[s.v,VI i,VI (i+1:Nat)] h K:=by
 have sn:s.n=xs.length:=by have:=O.len;simpa using this.symm
 rcases O.out with⟨_,hv⟩|⟨g,o,j3,ha,hF,hg,h1,h2,h3,h4⟩
 ·rw[List.map_eq_nil_iff]at hv
  rw[hv]at hi
  simp at hi
 have hsv:s.v= .slice (some ⟨g,o,none⟩) xs.length s.c:=by unfold Sl.v;rw[ha,<-sn]
 refine⟨fun w hw=> .inr ⟨258,_,w,Go.Proofs.enters_of Tryz.func258 (by kernel_rfl) rfl _ _,rfl,?_⟩⟩
 subst hw
 rw[hsv]
 refine(Tryz.slices_Delete_int_cells g o xs.length s.c i (i+1) xs w (Nat.le_refl _) (by omega) (by have:=h2;simp only[maxLen]at this;omega) (by omega) (by omega) (fun j hj=> ?_) (fun j hj=> ?_)).mono ?_
 ·have:=Ow.B3 O (i:=j) (by simpa using hj)
  rw[at_one ha]at this
  rw[BU,<-qM,aN hj]
  simpa using this
 ·rw[KJ]
  exact Eu hg
 ·rintro e w' ⟨rfl,q,rfl⟩
  rw[List.take_of_length_le (Nat.le_refl _),show i+1-i=1 by omega]
  obtain⟨a1,a2⟩:=qx g ((xs.take i++xs.drop (i+1)++List.replicate 1 0).map (Value.int .i64)) 0 o (w.drewN q)
  rw[Nat.add_zero]at a1 a2
  have ell:(xs.take i++xs.drop (i+1)++List.replicate 1 (0:Int)).length=xs.length:=by simp;omega
  obtain⟨b1,b2⟩:=Ow.abP ha ((xs.take i++xs.drop (i+1)++List.replicate 1 (0:Int)).map (Value.int .i64)) 0 O (by rw[List.length_map,ell];omega)
  refine⟨_,rfl,cN.trans (b:=w.drewN q) ⟨rfl,rfl,rfl⟩ a2,?_⟩
  rw[a1]
  have b3:=Ow.cut b2 (l:=0) (m:=xs.length-1) (by omega) (by omega)
  have et:s.cut 1 0 (xs.length-1) s.c=⟨some ⟨g,o,none⟩,xs.length-1,s.c⟩:=by
   unfold Sl.cut
   rw[ha,if_neg (by omega)]
   rfl
  rw[et]at b3
  refine HK ⟨some ⟨g,o,none⟩,xs.length-1,s.c⟩ _ ?_ b1 fun k hk=>by unfold Sl.own at*;rw[ha];exact hk
  have ex:(((List.take 0 (xs.map VI)++(xs.take i++xs.drop (i+1)++List.replicate 1 (0:Int)).map (Value.int .i64)++List.drop (0+((xs.take i++xs.drop (i+1)++List.replicate 1 (0:Int)).map (Value.int .i64)).length) (xs.map VI)).drop (0*1)).take ((xs.length-1-0)*1))=(xs.eraseIdx i).map VI:=by
   rw[List.length_map,ell,List.drop_of_length_le (l:=xs.map VI) (by simp),List.append_nil,List.take_zero,List.nil_append,Nat.zero_mul,List.drop_zero,List.map_append,List.take_append_of_le_length (by simp;omega),List.take_of_length_le (by simp;omega),List.eraseIdx_eq_take_drop_succ]
  rw[ex]at b3
  exact b3
def bS(rows:List (List Int)):jO:=fun i j=>(rows.getD i []).getD j 0
theorem gA{rows:List (List Int)}{i j:Nat}(h1:i<rows.length)(h2:j<rows[i].length):bS rows i j=(rows[i])[j]:=by unfold bS;rw[aS h1,aN h2]
theorem N7{rows:List (List Int)}{i j:Nat}{v:Int}(h1:i<rows.length)(h2:j<rows[i].length)(a b:Nat):bS (rows.set i (rows[i].set j v)) a b=if a=i/\b=j then v else bS rows a b:=by
 unfold bS
 rw[List.getD_eq_getElem?_getD (l:=rows.set i _),List.getElem?_set]
 by_cases ha:i=a
 ·subst ha
  rw[if_pos rfl,if_pos h1,Option.getD_some,aS h1,List.getD_eq_getElem?_getD,List.getElem?_set]
  by_cases hb:j=b
  ·subst hb;rw[if_pos rfl,if_pos h2,if_pos ⟨rfl,rfl⟩];rfl
  ·rw[if_neg hb,if_neg fun h=>hb h.2.symm,List.getD_eq_getElem?_getD]
 ·rw[if_neg ha,if_neg fun h=>ha h.1.symm]
  simp[List.getD_eq_getElem?_getD]
structure Sq(n:Nat)(rows:List (List Int)):Prop where
 len:rows.length=n
 row:∀i(h:i<rows.length),rows[i].length=n
theorem Sq.set{n:Nat}{rows:List (List Int)}(H:Sq n rows){i:Nat}(hi:i<rows.length)(l:List Int)(hl:l.length=n):Sq n (rows.set i l):=⟨by rw[List.length_set];exact H.len,fun a ha=>by
 rw[List.getElem_set]
 split
 ·exact hl
 ·exact H.row a (by rw[List.length_set]at ha;exact ha)⟩
def RG(rows:List (List Int))(i j:Nat):List (List Int):=(rows.set i (rows.getD j [])).set j (rows.getD i [])
theorem Kd{rows:List (List Int)}{i j:Nat}(hi:i<rows.length)(hj:j<rows.length)(a:Nat):(RG rows i j).getD a []=rows.getD (fy i j a) []:=by
 unfold RG fy
 rw[List.getD_eq_getElem?_getD,List.getElem?_set,List.length_set,List.getElem?_set]
 by_cases h1:a=i
 ·subst h1
  rw[if_pos rfl]
  by_cases h2:j=a
  ·subst h2;rw[if_pos rfl,if_pos hj];simp
  ·rw[if_neg h2,if_pos rfl,if_pos hi];rfl
 ·rw[if_neg h1]
  by_cases h2:a=j
  ·subst h2;rw[if_pos rfl,if_pos hj,if_pos rfl];rfl
  ·rw[if_neg h2,if_neg fun e=>h2 e.symm,if_neg fun e=>h1 e.symm,List.getD_eq_getElem?_getD]
theorem Ke{rows:List (List Int)}{i j:Nat}(hi:i<rows.length)(hj:j<rows.length):bS (RG rows i j)=fun a=>bS rows (fy i j a):=by
 funext a b
 unfold bS
 rw[Kd hi hj]
theorem Wb{n:Nat}{rows:List (List Int)}(H:Sq n rows){i j:Nat}(hi:i<rows.length)(hj:j<rows.length):Sq n (RG rows i j):=by
 unfold RG
 refine(H.set hi _ ?_).set (by rw[List.length_set];exact hj) _ ?_
 ·rw[aS hj];exact H.row j hj
 ·rw[aS hi];exact H.row i hi
theorem dR.swap{h:Heap}{F:Nat->Prop}{eo ei:TypeId}{s:Sl}{aD:List (List Int)}(H:dR h F eo ei s aD){i j:Int}(i0:0<=i)(i1:i<(aD.length:Int))(j0:0<=j)(j1:j<(aD.length:Int))(dZ:i≠j):
 ∃si sj:Sl,aR h (s.at i 1)=some si.v/\aR h (s.at j 1)=some sj.v/\dQ s i/\dQ s j/\dT h (s.at i 1)/\dT (cK h (s.at i 1) sj.v) (s.at j 1)/\
  dR (cK (cK h (s.at i 1) sj.v) (s.at j 1) si.v) F eo ei s (RG aD i.toNat j.toNat)/\Fr s.own h (cK (cK h (s.at i 1) sj.v) (s.at j 1) si.v)/\Fr s.own h (cK h (s.at i 1) sj.v):=by
 have hlen:=H.len
 obtain⟨ss,e1,h2,h3,h4,h5⟩:=H.out
 have hi:i.toNat<ss.length:=by omega
 have hj:j.toNat<ss.length:=by omega
 have ci:=h2.B3 (i:=i.toNat) (by simpa using hi)
 have cj:=h2.B3 (i:=j.toNat) (by simpa using hj)
 rw[show((i.toNat:Nat):Int)=i by omega,List.getElem_map]at ci
 rw[show((j.toNat:Nat):Int)=j by omega,List.getElem_map]at cj
 obtain⟨w1,o1,f1⟩:=h2.eX (i:=i) i0 (by omega) ss[j.toNat].v
 obtain⟨w2,o2,f2⟩:=o1.eX (i:=j) j0 (by omega) ss[i.toNat].v
 refine⟨ss[i.toNat],ss[j.toNat],ci,cj,h2.bB i0 (by omega),h2.bB j0 (by omega),w1,w2,?_,f1.trans f2,f1⟩
 have f:=f1.trans f2
 have es:((ss.map Sl.v).set i.toNat ss[j.toNat].v).set j.toNat ss[i.toNat].v=((ss.set i.toNat ss[j.toNat]).set j.toNat ss[i.toNat]).map Sl.v:=by rw[List.map_set,List.map_set]
 rw[es]at o2
 have eg:∀a(ha:a<((ss.set i.toNat ss[j.toNat]).set j.toNat ss[i.toNat]).length),∃hb:fy i.toNat j.toNat a<ss.length,((ss.set i.toNat ss[j.toNat]).set j.toNat ss[i.toNat])[a]=ss[fy i.toNat j.toNat a]:=fun a ha=>by
  rw[List.length_set,List.length_set]at ha
  have hb:fy i.toNat j.toNat a<ss.length:=by unfold fy;split<;>(try split)<;>omega
  refine⟨hb,?_⟩
  rw[List.getElem_set]
  by_cases h1:j.toNat=a
  ·rw[if_pos h1]
   congr 1
   unfold fy
   rw[if_neg (by omega),if_pos h1.symm]
  ·rw[if_neg h1,List.getElem_set]
   by_cases h2:i.toNat=a
   ·rw[if_pos h2]
    congr 1
    unfold fy
    rw[if_pos h2.symm]
   ·rw[if_neg h2]
    congr 1
    unfold fy
    rw[if_neg fun e=>h2 e.symm,if_neg fun e=>h1 e.symm]
 have inj:∀a b,a≠b->fy i.toNat j.toNat a≠fy i.toNat j.toNat b:=fun a b hab=>by
  unfold fy
  by_cases h1:a=i.toNat<;>by_cases h2:a=j.toNat<;>by_cases h3:b=i.toNat<;>by_cases h4:b=j.toNat<;>simp only[h1,h2,h3,h4,if_true,if_false]<;>(repeat' split)<;>omega
 refine⟨(ss.set i.toNat ss[j.toNat]).set j.toNat ss[i.toNat],?_,o2,fun a ha hb=> ?_,fun a b ha hb hab k=> ?_,fun a ha k hk=> ?_⟩
 ·unfold RG
  simp only[List.length_set]
  exact e1
 ·obtain⟨hc,e⟩:=eg a ha
  rw[e]
  have ex:(RG aD i.toNat j.toNat)[a]=aD[fy i.toNat j.toNat a]'(by omega):=by
   have:=Kd (rows:=aD) (i:=i.toNat) (j:=j.toNat) (by omega) (by omega) a
   rw[aS hb,aS (by omega)]at this
   exact this
  rw[ex]
  exact(h3 _ hc (by omega)).fr f fun k hk hs=>h5 _ hc k hs hk
 ·obtain⟨hc,e⟩:=eg a ha
  obtain⟨hd,e'⟩:=eg b hb
  rw[e,e']
  exact h4 _ _ hc hd (inj a b hab) k
 ·obtain⟨hc,e⟩:=eg a ha
  rw[e]
  exact h5 _ hc k hk
theorem tW{x:Int}{b:Nat}(h:x.natAbs<=b): -(b:Int)<=x/\x<=b:=by omega
theorem Kf{x y:Int}{b:Nat}(h:x.natAbs<=b)(h':y.natAbs<=b):(x*y).natAbs<=b*b:=by rw[Int.natAbs_mul];exact Nat.mul_le_mul h h'
theorem aiV:GG 6=720000000:=rfl
theorem Wc:GG 7=50400000000:=rfl
def vM(R:jO)(k:Nat)(last:Int)(i j:Nat):Int:=(R i j*R k k-R i k*R k j).tdiv last
theorem RH{n k:Nat}{last:Int}{O R:jO}(H:sA n k last O fun i j=>R (k+i) (k+j))(hO:Small n O)(hn:n<=7)(hl:last≠0){i j:Nat}(hi:k<i)(iG:i<n)(hj:k<j)(Fb:j<n):
 aL ((aL (aL (R i j*R k k)-aL (R i k*R k j))).tdiv last)=vM R k last i j:=by
 have b:∀a b,a<n->k<=a->b<n->k<=b->(R a b).natAbs<=720000000:=fun a b h1 h2 h3 h4=>by
  have:=H.abN hO (i:=a-k) (j:=b-k) (by omega) (by omega)
  (try simp only at this)
  rw[show k+(a-k)=a by omega,show k+(b-k)=b by omega]at this
  exact Nat.le_trans this (Nat.le_trans (xT (show k+1<=6 by omega)) (by rw[aiV];exact Nat.le_refl _))
 have b1:=tW (Kf (b i j iG (by omega) Fb (by omega)) (b k k (by omega) (by omega) (by omega) (by omega)))
 have b2:=tW (Kf (b i k iG (by omega) (by omega) (by omega)) (b k j (by omega) (by omega) Fb (by omega)))
 rw[aG (R i j*R k k) (by omega) (by omega),aG (R i k*R k j) (by omega) (by omega),aG (R i j*R k k-R i k*R k j) (by omega) (by omega)]
 obtain⟨q,hq⟩:=H.exact (i:=i-k-1) (j:=j-k-1) (by omega) (by omega)
 have eq:R i j*R k k-R i k*R k j=last*q:=by
  rw[<-hq]
  unfold CC
  (try simp only)
  rw[show k+(i-k-1+1)=i by omega,show k+(j-k-1+1)=j by omega,show k+0=k by omega,Int.mul_comm (R k k)]
 unfold vM
 have gI:q.natAbs<=(last*q).natAbs:=by
  rw[Int.natAbs_mul]
  exact Nat.le_mul_of_pos_left _ (by omega)
 rw[JO eq hl]
 rw[<-eq]at gI
 exact aG _ (by omega) (by omega)
theorem N8{n k:Nat}{last:Int}{O R R':jO}(H:sA n k last O fun i j=>R (k+i) (k+j))(hl:last≠0)(hk:R k k≠0)(hR:∀i j,k<i->i<n->k<j->j<n->R' i j=vM R k last i j):sA n (k+1) (R k k) O fun i j=>R' (k+1+i) (k+1+j):=by
 have:=sA.step (A':=fun i j=>R' (k+1+i) (k+1+j)) H hl hk fun i j hi hj=>by
  (try simp only)
  rw[hR _ _ (by omega) (by omega) (by omega) (by omega)]
  unfold vM CC
  (try simp only)
  rw[show k+(i+1)=k+1+i by omega,show k+(j+1)=k+1+j by omega,show k+0=k by omega,Int.mul_comm (R k k)]
 exact this
def PM(s:Int):Prop:=s=1\/s= -1
theorem PM.neg_eq{s:Int}(h:PM s):aL (0-s)= -s:=by rcases h with rfl|rfl<;>rfl
theorem PM.neg{s:Int}(h:PM s):PM (aL (0-s)):=by rcases h with rfl|rfl;exact .inr rfl;exact .inl rfl
theorem RI{F:Nat->Prop}{gK:Heap}{a:Sl}{rt:List (List Int)}{n:Nat}{k i j last:Int}{R O:jO}(Nt:gO gK F a rt)(Wd:Sq n rt)(S:Small n O)(hn:n<=7)(hl:last≠0)(B:sA n k.toNat last O fun i j=>R (k.toNat+i) (k.toNat+j))(k0:0<=k)(ki:k<i)(hi:i<(n:Int))(kj:k<j)(hj:j<(n:Int))
 (Uo:∀i' j',i'<n->j'<n->bS rt i' j'=if k.toNat<i'/\k.toNat<j'/\(i'<i.toNat\/i'=i.toNat/\j'<j.toNat)then vM R k.toNat last i' j' else R i' j') (C:Heap->Prop)
 (HC:∀qR rs,gO qR F a rs->Sq n rs->(∀i' j',i'<n->j'<n->bS rs i' j'=if k.toNat<i'/\k.toNat<j'/\(i'<i.toNat\/i'=i.toNat/\j'<j.toNat+1)then vM R k.toNat last i' j' else R i' j')->Fr F gK qR->C qR):
 dQ a i/\∃t87:Sl,aR gK (Sl.at a i 1)=some t87.v/\dQ a i/\∃t92:Sl,aR gK (Sl.at a i 1)=some t92.v/\dQ t92 j/\∃t95:Int,aR gK (Sl.at t92 j 1)=some (VI t95)/\dQ a k/\∃t99:Sl,aR gK (Sl.at a k 1)=some t99.v/\dQ t99 k/\∃t102:Int,aR gK (Sl.at t99 k 1)=some (VI t102)/\dQ a i/\∃t107:Sl,aR gK (Sl.at a i 1)=some t107.v/\dQ t107 k/\∃t110:Int,aR gK (Sl.at t107 k 1)=some (VI t110)/\dQ a k/\∃t114:Sl,aR gK (Sl.at a k 1)=some t114.v/\dQ t114 j/\∃t117:Int,aR gK (Sl.at t114 j 1)=some (VI t117)/\last≠0/\
  dQ t87 j/\dT gK (Sl.at t87 j 1)/\Vars (cK gK (Sl.at t87 j 1) (VI (aL (Int.tdiv (aL ((aL (t95*t102))-(aL (t110*t117)))) last)))) []/\∀qR:Heap,qR=cK gK (Sl.at t87 j 1) (VI (aL (Int.tdiv (aL ((aL (t95*t102))-(aL (t110*t117)))) last)))->Vars qR []->C qR:=by
 have aog:=Wd.len
 have R12:=dR.rd Nt
 have i0:0<=i:=by omega
 have j0:0<=j:=by omega
 have ir:i<(rt.length:Int):=by omega
 have kr:k<(rt.length:Int):=by omega
 obtain⟨si,ci,oi,wk⟩:=dR.inner Nt i0 ir
 have Jm:i.toNat<rt.length:=by omega
 have CN:k.toNat<rt.length:=by omega
 have wq:i.toNat<n:=by omega
 have aI:k.toNat<n:=by omega
 have Hz:j.toNat<n:=by omega
 have lri:=Wd.row i.toNat Jm
 have lrk:=Wd.row k.toNat CN
 have ri:aQ F gK si (rt[i.toNat]' Jm):=oi.eQ
 obtain⟨sk,ck,rk⟩:=R12.get k0 kr
 have ij1:j.toNat<(rt[i.toNat]' Jm).length:=by omega
 have ik1:k.toNat<(rt[i.toNat]' Jm).length:=by omega
 have kj1:j.toNat<(rt[k.toNat]' CN).length:=by omega
 have kk1:k.toNat<(rt[k.toNat]' CN).length:=by omega
 have v1:(rt[i.toNat]' Jm)[j.toNat]'ij1=R i.toNat j.toNat:=by rw[<-gA Jm ij1,Uo _ _ wq Hz,if_neg (by omega)]
 have v2:(rt[k.toNat]' CN)[k.toNat]'kk1=R k.toNat k.toNat:=by rw[<-gA CN kk1,Uo _ _ aI aI,if_neg (by omega)]
 have v3:(rt[i.toNat]' Jm)[k.toNat]'ik1=R i.toNat k.toNat:=by rw[<-gA Jm ik1,Uo _ _ wq aI,if_neg (by omega)]
 have v4:(rt[k.toNat]' CN)[j.toNat]'kj1=R k.toNat j.toNat:=by rw[<-gA CN kj1,Uo _ _ aI Hz,if_neg (by omega)]
 have rin:=aQ.len ri
 have rkn:=aQ.len rk
 have b1:j<((rt[i.toNat]' Jm).length:Int):=by omega
 have b2:k<((rt[i.toNat]' Jm).length:Int):=by omega
 have b3:j<((rt[k.toNat]' CN).length:Int):=by omega
 have b4:k<((rt[k.toNat]' CN).length:Int):=by omega
 obtain⟨wr,os,fs⟩:=Ow.eX oi j0 (show j<(si.n:Int) by omega) (VI (vM R k.toNat last i.toNat j.toNat))
 have es:=RH B S hn hl (i:=i.toNat) (j:=j.toNat) (by omega) wq (by omega) Hz
 refine⟨R12.bB i0 ir,si,ci,R12.bB i0 ir,si,ci,ri.bB j0 b1,_,ri.get j0 b1,R12.bB k0 kr,sk,ck,rk.bB k0 b4,_,rk.get k0 b4,R12.bB i0 ir,si,ci,ri.bB k0 b2,_,ri.get k0 b2,R12.bB k0 kr,sk,ck,rk.bB j0 b3,_,rk.get j0 b3,hl,ri.bB j0 b1,wr,.nil,?_⟩
 simp only[v1,v2,v3,v4,es]
 rintro qR rfl _
 have os':bR (cK gK (si.at j 1) (VI (vM R k.toNat last i.toNat j.toNat))) F si ((rt[i.toNat]' Jm).set j.toNat (vM R k.toNat last i.toNat j.toNat)):=by
  show Ow _ _ _ _ _ _
  rw[List.map_set]
  exact os
 refine HC _ _ (wk _ _ fs os') (Wd.set Jm _ (by rw[List.length_set];exact lri)) (fun i' j' h1 h2=> ?_) (fs.mono fun q _ hq=>(Ow.aH oi hq).1)
 rw[N7 Jm ij1,Uo i' j' h1 h2]
 by_cases hc:i'=i.toNat/\j'=j.toNat
 ·rw[if_pos hc,hc.1,hc.2,if_pos (by omega)]
 ·rw[if_neg hc]
  by_cases hd:k.toNat<i'/\k.toNat<j'/\(i'<i.toNat\/i'=i.toNat/\j'<j.toNat)
  ·rw[if_pos hd,if_pos (by omega)]
  ·rw[if_neg hd,if_neg (by omega)]
theorem RJ{F:Nat->Prop}{dV:Heap}{s a:Sl}{rows:List (List Int)}{n:Nat}{k last:Int}{O:jO}(mM:gO dV F a rows)(Q10:Sq n rows)(S:Small n O)(hn:n<=7)(hl:last≠0)(B:sA n k.toNat last O fun i j=>bS rows (k.toNat+i) (k.toNat+j))(k0:0<=k)(hk:k<(n:Int))(sn:s.n=n)(C:Int->Heap->Prop)
 (HC:∀hH rs,gO hH F a rs->Sq n rs->(∀i' j',i'<n->j'<n->bS rs i' j'=if k.toNat<i'/\k.toNat<j' then vM (bS rows) k.toNat last i' j' else bS rows i' j')->Fr F dV hH->C (bS rows k.toNat k.toNat) hH):
 ∃Oa:Nat->Int->Heap->Prop,(∃n0:Nat,Oa n0 (k+1) dV)/\∀(n_4:Nat)(i:Int)(hH:Heap),Oa n_4 i hH->Vars hH []->
  ((decide (i<(s.n:Int)))=true->∃We:Nat->Int->Heap->Prop,(∃n0:Nat,We n0 (k+1) hH)/\∀(n_5:Nat)(j:Int)(gK:Heap),We n_5 j gK->Vars gK []->
    ((decide (j<(s.n:Int)))=true->dQ a i/\∃t87:Sl,aR gK (Sl.at a i 1)=some t87.v/\dQ a i/\∃t92:Sl,aR gK (Sl.at a i 1)=some t92.v/\dQ t92 j/\∃t95:Int,aR gK (Sl.at t92 j 1)=some (VI t95)/\dQ a k/\∃t99:Sl,aR gK (Sl.at a k 1)=some t99.v/\dQ t99 k/\∃t102:Int,aR gK (Sl.at t99 k 1)=some (VI t102)/\dQ a i/\∃t107:Sl,aR gK (Sl.at a i 1)=some t107.v/\dQ t107 k/\∃t110:Int,aR gK (Sl.at t107 k 1)=some (VI t110)/\dQ a k/\∃t114:Sl,aR gK (Sl.at a k 1)=some t114.v/\dQ t114 j/\∃t117:Int,aR gK (Sl.at t114 j 1)=some (VI t117)/\last≠0/\
      dQ t87 j/\dT gK (Sl.at t87 j 1)/\Vars (cK gK (Sl.at t87 j 1) (VI (aL (Int.tdiv (aL ((aL (t95*t102))-(aL (t110*t117)))) last)))) []/\∀qR:Heap,qR=cK gK (Sl.at t87 j 1) (VI (aL (Int.tdiv (aL ((aL (t95*t102))-(aL (t110*t117)))) last)))->Vars qR []->∃m:Nat,m<n_5/\We m (aL (j+1)) qR)/\
    ((decide (j<(s.n:Int)))=false->∃m:Nat,m<n_4/\Oa m (aL (i+1)) gK))/\
  ((decide (i<(s.n:Int)))=false->dQ a k/\∃t126:Sl,aR hH (Sl.at a k 1)=some t126.v/\dQ t126 k/\∃t129:Int,aR hH (Sl.at t126 k 1)=some (VI t129)/\C t129 hH):=by
 refine⟨fun m4 i h'=>k<i/\i+m4=(n:Int)/\(∃rs,gO h' F a rs/\Sq n rs/\∀i' j',i'<n->j'<n->bS rs i' j'=if k.toNat<i'/\k.toNat<j'/\i'<i.toNat then vM (bS rows) k.toNat last i' j' else bS rows i' j')/\Fr F dV h',⟨n-(k.toNat+1),by omega,by omega,⟨rows,mM,Q10,fun i' j' _ _=>by rw[if_neg (by omega)]⟩,Fr.refl _ _⟩,?_⟩
 rintro m4 i hH ⟨i0',i1',⟨rs,lL,Q11,JY⟩,f11⟩ iu
 have aol:=Q11.len
 refine⟨fun e7=> ?_,fun e7=> ?_⟩
 ·simp only[decide_eq_true_eq]at e7
  have hi7:i<(n:Int):=by omega
  refine⟨fun m5 j h'=>k<j/\j+m5=(n:Int)/\(∃rs,gO h' F a rs/\Sq n rs/\∀i' j',i'<n->j'<n->bS rs i' j'=if k.toNat<i'/\k.toNat<j'/\(i'<i.toNat\/i'=i.toNat/\j'<j.toNat)then vM (bS rows) k.toNat last i' j' else bS rows i' j')/\Fr F dV h',⟨n-(k.toNat+1),by omega,by omega,⟨rs,lL,Q11,fun i' j' h1 h2=> ?_⟩,f11⟩,?_⟩
  ·rw[JY i' j' h1 h2]
   by_cases hc:k.toNat<i'/\k.toNat<j'/\i'<i.toNat
   ·rw[if_pos hc,if_pos ⟨hc.1,hc.2.1,.inl hc.2.2⟩]
   ·rw[if_neg hc,if_neg (by omega)]
  rintro m5 j gK ⟨j0',j1',⟨rt,Nt,Wd,Uo⟩,f12⟩ tX
  refine⟨fun e8=> ?_,fun e8=> ?_⟩
  ·simp only[decide_eq_true_eq]at e8
   have hj8:j<(n:Int):=by omega
   refine RI Nt Wd S hn hl B k0 i0' hi7 j0' hj8 Uo _ fun qR sF Lv Q13 aiX f13=> ?_
   have jw:aL (j+1)=j+1:=aG _ (by omega) (by omega)
   rw[jw]
   exact⟨m5-1,by omega,by omega,by omega,⟨sF,Lv,Q13,by rw[show(j+1).toNat=j.toNat+1 by omega];exact aiX⟩,f12.trans f13⟩
  ·simp only[decide_eq_false_iff_not]at e8
   have hj8:j=(n:Int):=by omega
   have iw:aL (i+1)=i+1:=aG _ (by omega) (by omega)
   rw[iw]
   refine⟨m4-1,by omega,by omega,by omega,⟨rt,Nt,Wd,fun i' j' h1 h2=> ?_⟩,f12⟩
   rw[Uo i' j' h1 h2,show(i+1).toNat=i.toNat+1 by omega]
   by_cases hd:k.toNat<i'/\k.toNat<j'/\(i'<i.toNat\/i'=i.toNat/\j'<j.toNat)
   ·rw[if_pos hd,if_pos (by omega)]
   ·rw[if_neg hd,if_neg (by omega)]
 ·simp only[decide_eq_false_iff_not]at e7
  have hi7:i=(n:Int):=by omega
  have RL:=dR.rd lL
  have kr:k<(rs.length:Int):=by omega
  have CN:k.toNat<rs.length:=by omega
  have aI:k.toNat<n:=by omega
  obtain⟨sk,ck,rk⟩:=RL.get k0 kr
  have lrk:=Q11.row k.toNat CN
  have kk1:k.toNat<(rs[k.toNat]' CN).length:=by omega
  have v2:(rs[k.toNat]' CN)[k.toNat]'kk1=bS rows k.toNat k.toNat:=by rw[<-gA CN kk1,JY _ _ aI aI,if_neg (by omega)]
  refine⟨RL.bB k0 kr,sk,ck,rk.bB k0 (by omega),_,rk.get k0 (by omega),?_⟩
  rw[v2]
  refine HC hH rs lL Q11 (fun i' j' h1 h2=> ?_) f11
  rw[JY i' j' h1 h2]
  by_cases hd:k.toNat<i'/\k.toNat<j'/\i'<i.toNat
  ·rw[if_pos hd,if_pos ⟨hd.1,hd.2.1⟩]
  ·rw[if_neg hd,if_neg (by omega)]
set_option maxHeartbeats 4000000 in
theorem lQ{S:Nat->Prop}{h:Heap}{s:Sl}{aD:List (List Int)}(M:bU S h s aD)(Q:Sq aD.length aD)(hn:aD.length<=7)(hb:Small aD.length (bS aD)):vf Tryz.prog 212 #[s.v] h (VI (cH aD.length (bS aD))):=by
 intro K HK
 have sn:=M.len
 refine v212 s h K ?_
 have vp:∀{x:Heap},Fr (fun k=>h.size<=k) h x->Fr No h x:=fun f=>f.mono fun k hk aI=>absurd aI (by omega)
 refine aP qb (fun k=>h.size<=k) (fun _ h=>h) 0 (by omega) [] rfl rfl fun a0 h1 n1 c1 o1 f1 m1 _=>⟨a0,rfl,.nil,?_⟩
 have z1:=f1.size
 have Rf:gO h1 (fun k=>h.size<=k) a0 []:=⟨[],rfl,o1,fun i h1=>by simp at h1,fun i j h1=>by simp at h1,fun i h1=>by simp at h1⟩
 refine⟨fun m a i h'=>0<=i/\i+m=(aD.length:Int)/\gO h' (fun k=>h.size<=k) a (aD.take i.toNat)/\Fr (fun k=>h.size<=k) h h',⟨aD.length,Int.le_refl _,by omega,Rf,f1.aB⟩,?_⟩
 rintro m a i h2 ⟨i0,i1,o2,f2⟩ bW
 have M2:=M.no (vp f2)
 refine⟨fun e=> ?_,fun e=> ?_⟩
 ·have hi:=M.lt e
  obtain⟨si,ci,ri⟩:=M2.get i0 hi
  have rl:=Q.row i.toNat (by omega)
  refine⟨M2.bB i0 hi,si,ci,wi ri (by omega) _ fun t h3 o3 f3=>⟨t,rfl,.nil,?_⟩⟩
  have z3:=f3.size
  refine jJ (lo:=h.size) (m:=h2.size) (dR.fV o2|>.no f3) (o3.mono fun k _ hk=>hk.1) f2.size z3 .nil (fun p hp=>by simp at hp) (by rw[List.length_take];omega) _ fun t2 h5 o5 f5 V5=> ?_
  rw[M.succ i0 hi]
  refine⟨m-1,by omega,by omega,by omega,?_,(f2.trans f3.aB).trans f5⟩
  rw[dX _ i0 hi]
  exact o5
 ·have hi:=M.ge e
  rw[List.take_of_length_le (by omega)]at o2
  generalize hN:aD.length=n at*
  refine⟨fun m sg last k h'=>0<=k/\k+m=(n:Int)/\(∃rows O,gO h' (fun q=>h.size<=q) a rows/\Sq n rows/\Small n O/\PM sg/\sg*cH n O=cH n (bS aD)/\last≠0/\sA n k.toNat last O (fun i j=>bS rows (k.toNat+i) (k.toNat+j))/\(k=(n:Int)->last=cH n O))/\Fr (fun q=>h.size<=q) h h',⟨n,Int.le_refl _,by omega,⟨aD,bS aD,o2,Q,hb,.inl rfl,by rw[Int.one_mul],by omega,?_,?_⟩,f2⟩,?_⟩
  ·have:=sA.start n (bS aD)
   simpa using this
  ·intro h0
   rw[show n=0 by omega]
   rfl
  rintro m2 sg last k h6 ⟨k0,k1,⟨rows,O,o6,Q6,S6,hsg,Ob,hl,B6,pd⟩,f6⟩ jG
  have ln:=Q6.len
  refine⟨fun e2=> ?_,fun e2=> ?_⟩
  ·have hk:k<(n:Int):=by have:=M.lt e2;omega
   refine⟨fun m3 p h'=>h'=h6/\k<=p/\p+m3=(n:Int)/\∀q:Nat,k.toNat<=q->q<p.toNat->bS rows q k.toNat=0,⟨(n-k.toNat),rfl,Int.le_refl _,by omega,fun q h1 h2=>by omega⟩,?_⟩
   rintro m3 p h7 ⟨rfl,p0,p1,hz⟩ jv
   have R7:=dR.rd o6
   have none_:p=(n:Int)->K (VI 0) h7:=fun ep=>by
    have:=B6.none (by omega) hl fun i hi=>by
     (try simp only)
     rw[Nat.add_zero]
     exact hz _ (by omega) (by omega)
    rw[this,Int.mul_zero]at Ob
    rw[<-Ob]at HK
    exact HK h7 (vp f6)
   refine⟨fun e3=> ?_,fun e3=> ?_⟩
   ·have hp:p<(n:Int):=by have:=M.lt e3;omega
    obtain⟨sp,cp,rp⟩:=R7.get (i:=p) (by omega) (by omega)
    have lp:=Q6.row p.toNat (by omega)
    have ep:bS rows p.toNat k.toNat=(rows[p.toNat]'(by omega))[k.toNat]'(by omega):=gA (by omega) (by omega)
    refine⟨R7.bB (by omega) (by omega),sp,cp,rp.bB k0 (by omega),_,rp.get k0 (by omega),fun e4=> ?_,fun e4=>⟨fun e5=> ?_,fun e5=> ?_⟩⟩
    ·simp only[decide_eq_true_eq]at e4
     refine⟨m3-1,by omega,rfl,?_,?_,?_⟩
     ·rw[aG _ (by omega) (by omega)];omega
     ·rw[aG _ (by omega) (by omega)];omega
     ·intro q h1 h2
      rw[aG _ (by omega) (by omega)]at h2
      by_cases hq:q<p.toNat
      ·exact hz q h1 hq
      ·rw[show q=p.toNat by omega,ep];exact e4
    ·simp only[decide_eq_true_eq]at e5;omega
    ·simp only[decide_eq_false_iff_not]at e4
     refine⟨fun x h'=>PM x/\∃rows' O',gO h' (fun q=>h.size<=q) a rows'/\Sq n rows'/\Small n O'/\x*cH n O'=cH n (bS aD)/\sA n k.toNat last O' (fun i j=>bS rows' (k.toNat+i) (k.toNat+j))/\bS rows' k.toNat k.toNat≠0/\Fr (fun q=>h.size<=q) h h',⟨fun e6=> ?_,fun e6=> ?_⟩,?_⟩
     ·simp only[Bool.not_eq_true',decide_eq_false_iff_not]at e6
      obtain⟨sk,sp',w1,w2,w3,w4,w5,w6,w7,w8,w9⟩:=dR.swap o6 (i:=p) (j:=k) (by omega) (by omega) k0 (by omega) e6
      refine⟨w4,sp',w2,w3,sk,w1,w3,w5,.nil,?_⟩
      rintro h8 rfl _
      refine⟨w4,w6,.nil,?_⟩
      rintro h9 rfl _
      refine⟨?_,RG rows p.toNat k.toNat,fun i=>O (fy k.toNat p.toNat i),w7,Wb Q6 (by omega) (by omega),fun i j hi hj=>S6 _ _ (by unfold fy;split<;>(try split)<;>omega) hj,?_,?_,?_,f6.trans (dR.QP o6 w8)⟩
      ·exact hsg.neg
      ·rw[NM O (by omega) (by omega) (by omega),<-Ob]
       rw[hsg.neg_eq,Int.neg_mul_neg]
      ·have:=B6.swap (p:=p.toNat-k.toNat) (by omega)
       rw[show k.toNat+(p.toNat-k.toNat)=p.toNat by omega]at this
       rw[Ke (by omega) (by omega)]
       refine cast (congrArg (sA n k.toNat last _) ?_) this
       funext i j
       (try simp only)
       congr 1
       unfold fy
       by_cases h1:i=0
       ·rw[if_pos h1,if_neg (by omega),if_pos (by omega)];omega
       ·rw[if_neg h1]
        by_cases h2:i=p.toNat-k.toNat
        ·rw[if_pos h2,if_pos (by omega)];rfl
        ·rw[if_neg h2,if_neg (by omega),if_neg (by omega)]
      ·rw[Ke (by omega) (by omega)]
       (try simp only)
       rw[show fy p.toNat k.toNat k.toNat=p.toNat by unfold fy;rw[if_neg (by omega),if_pos rfl],ep]
       exact e4
     ·simp only[Bool.not_eq_false',decide_eq_true_eq]at e6
      refine⟨hsg,rows,O,o6,Q6,S6,Ob,B6,?_,f6⟩
      rw[<-ep,e6]at e4
      exact e4
     ·rintro x dV ⟨hx,rows',O',mM,Q10,S10,abS,B10,hkk,f10⟩ dL
      have ln':=Q10.len
      have k1w:aL (k+1)=k+1:=aG _ (by omega) (by omega)
      rw[k1w]
      refine RJ mM Q10 S10 hn hl B10 k0 hk sn (fun v h'=>∃m:Nat,m<m2/\0<=k+1/\k+1+m=(n:Int)/\(∃rows O,gO h' (fun q=>h.size<=q) a rows/\Sq n rows/\Small n O/\PM x/\x*cH n O=cH n (bS aD)/\v≠0/\sA n (k+1).toNat v O (fun i j=>bS rows ((k+1).toNat+i) ((k+1).toNat+j))/\(k+1=(n:Int)->v=cH n O))/\Fr (fun q=>h.size<=q) h h') fun hH rs lL Q11 JY f11=> ?_
      refine⟨m2-1,by omega,by omega,by omega,⟨rs,O',lL,Q11,S10,hx,abS,hkk,?_,?_⟩,f10.trans f11⟩
      ·rw[show(k+1).toNat=k.toNat+1 by omega]
       exact N8 B10 hl hkk fun i' j' h1 h2 h3 h4=>by rw[JY i' j' h2 h4,if_pos ⟨h1,h3⟩]
      ·intro CN
       have:=B10.last (by omega)
       (try simp only at this)
       rw[Nat.add_zero]at this
       exact this
   ·have hp:p=(n:Int):=by have:=M.ge e3;omega
    exact⟨fun _=>none_ hp,fun e5=>by simp only[decide_eq_false_iff_not]at e5;omega⟩
  ·have hk:k=(n:Int):=by have:=M.ge e2;omega
   have hd:sg*last=cH n (bS aD):=by rw[pd hk];exact Ob
   have D0:=tW (Nat.le_trans (mm hb) (Nat.le_trans (xT hn) (show GG 7<=50400000000 by rw[Wc];exact Nat.le_refl _)))
   rw[hd,aG _ (by clear HK;omega) (by clear HK;omega)]
   exact HK h6 (vp f6)
theorem kM(x:Int):∀a b:List Int,fe x (a++b)=fe x a+fe x b
 |[],b=>by simp[fe]
 |y::a,b=>by rw[List.cons_append,fe,fe,kM x a b];omega
def jV(n:Nat)(p:Nat)(len:Int)(l:List Int):List Int:=(List.range n).map fun q:Nat=>(if q=p then len else 0)-fe q l
theorem iI(n p:Nat)(len:Int)(l:List Int):(jV n p len l).length=n:=by simp[jV]
theorem mw{n p:Nat}{len:Int}{l:List Int}{q:Nat}(h:q<(jV n p len l).length):(jV n p len l)[q]=(if q=p then len else 0)-fe q l:=by simp[jV]
theorem yd{n p:Nat}(hp:p<n)(len:Int):jV n p len []=(List.replicate n (0:Int)).set p len:=by
 apply List.ext_getElem (by simp[iI])
 intro q h1 h2
 rw[mw h1,List.getElem_set,List.getElem_replicate,fe]
 by_cases e:q=p
 ·rw[if_pos e,if_pos e.symm];omega
 ·rw[if_neg e,if_neg fun x=>e x.symm];omega
theorem Bs{n p:Nat}{len x:Int}{l:List Int}(h0:0<=x)(h1:x<(n:Int)):jV n p len (l++[x])=(jV n p len l).set x.toNat ((jV n p len l).getD x.toNat 0-1):=by
 have hx:x.toNat<(jV n p len l).length:=by rw[iI];omega
 apply List.ext_getElem (by simp[iI])
 intro q h2 h3
 have h4:q<(jV n p len l).length:=by rw[iI]at h2⊢;exact h2
 rw[mw h2,List.getElem_set,kM]
 simp only[fe]
 by_cases e:x.toNat=q
 ·rw[if_pos e,if_pos (show x=(q:Int) by omega),aN hx,mw hx,e];omega
 ·rw[if_neg e,if_neg (show¬x=(q:Int) by omega),mw h4];omega
theorem jh(x:Int):∀l:List Int,0<=fe x l/\fe x l<=l.length
 |[]=>by simp[fe]
 |y::l=>by
  have:=jh x l
  rw[fe,List.length_cons]
  split<;>omega
def kN(g:List (List Int))(s:Int)(p:Nat):List Int:=(jV g.length p (g.getD p []).length (g.getD p [])).eraseIdx s.toNat
def vN(g:List (List Int))(s:Int):List (List Int):=((List.range g.length).filter (gQ s)).map (kN g s)
theorem erase_filter:∀(l:List Nat)(i:Nat)(h:i<l.length),l.Nodup->l.eraseIdx i=l.filter fun x=> !decide (x=l[i])
 |x::l,0,_,hd=>by
  rw[List.nodup_cons]at hd
  rw[List.eraseIdx_zero,List.tail_cons,List.getElem_cons_zero,List.filter_cons_of_neg (by simp)]
  refine(List.filter_eq_self.2 fun a ha=> ?_).symm
  have:a≠x:=fun e=>hd.1 (e▸ha)
  simpa using this
 |x::l,i+1,h,hd=>by
  rw[List.nodup_cons]at hd
  have hi:i<l.length:=by simpa using h
  have hx:x≠l[i]:=fun e=>hd.1 (e▸List.getElem_mem hi)
  rw[List.eraseIdx_cons_succ,List.getElem_cons_succ,List.filter_cons_of_pos (by simpa using hx),erase_filter l i hi hd.2]
theorem erase_range{n:Nat}{s:Int}(h0:0<=s)(h1:s<(n:Int)):(List.range n).eraseIdx s.toNat=(List.range n).filter (gQ s):=by
 rw[erase_filter _ _ (by rw[List.length_range];omega) List.nodup_range]
 refine List.filter_congr fun x _=> ?_
 rw[List.getElem_range]
 unfold gQ
 congr 1
 by_cases e:x=s.toNat
 ·rw[decide_eq_true e,decide_eq_true (by omega)]
 ·rw[decide_eq_false e,decide_eq_false (by omega)]
theorem Bt{α β:Type}(f:α->β):∀(l:List α)(i:Nat),(l.map f).eraseIdx i=(l.eraseIdx i).map f
 |[],_=>by simp
 |x::l,0=>by simp
 |x::l,i+1=>by rw[List.map_cons,List.eraseIdx_cons_succ,List.eraseIdx_cons_succ,List.map_cons,Bt f l i]
theorem Bu{g:List (List Int)}{s:Int}(h0:0<=s)(h1:s<(g.length:Int))(p:Nat):kN g s p=((List.range g.length).filter (gQ s)).map fun q:Nat=>(if q=p then((g.getD p []).length:Int)else 0)-fe q (g.getD p []):=by
 unfold kN jV
 rw[Bt,erase_range h0 h1]
theorem pU{n:Nat}{s:Int}(h0:0<=s)(h1:s<(n:Int)):((List.range n).filter (gQ s)).length=n-1:=by
 rw[<-erase_range h0 h1,List.length_eraseIdx,List.length_range,if_pos (by omega)]
theorem HW{g:List (List Int)}{s:Int}(h0:0<=s)(h1:s<(g.length:Int)):(vN g s).length=g.length-1/\Sq (g.length-1) (vN g s):=by
 have e:(vN g s).length=g.length-1:=by unfold vN;rw[List.length_map,pU h0 h1]
 refine⟨e,e,fun i hi=> ?_⟩
 unfold vN at hi⊢
 rw[List.getElem_map,Bu h0 h1,List.length_map,pU h0 h1]
theorem Kg{g:List (List Int)}{s:Int}(h0:0<=s)(h1:s<(g.length:Int)){i j:Nat}(hi:i<g.length-1)(hj:j<g.length-1):bS (vN g s) i j=iy (fG g s) i j:=by
 have hl:=pU (n:=g.length) h0 h1
 have iG:i<((List.range g.length).filter (gQ s)).length:=by omega
 have Fb:j<((List.range g.length).filter (gQ s)).length:=by omega
 have e1:∀k(hk:k<((List.range g.length).filter (gQ s)).length),nu (fG g s) k=((((List.range g.length).filter (gQ s))[k]:Nat):Int)/\zK (fG g s) k=g.getD ((List.range g.length).filter (gQ s))[k] []:=fun k hk=>by
  unfold nu zK fG
  rw[List.getD_eq_getElem?_getD,List.getElem?_eq_getElem (by rw[List.length_map];exact hk),List.getElem_map]
  exact⟨rfl,rfl⟩
 have hr:i<(vN g s).length:=by rw[(HW h0 h1).1];exact hi
 have er:(vN g s)[i]=kN g s ((List.range g.length).filter (gQ s))[i]:=by
  show(((List.range g.length).filter (gQ s)).map (kN g s))[i]'_=_
  exact List.getElem_map _
 unfold bS iy
 rw[aS hr,er,Bu h0 h1,aN (by rw[List.length_map];exact Fb),List.getElem_map,(e1 i iG).2,(e1 j Fb).1]
 congr 1
 by_cases e:i=j
 ·subst e;rw[if_pos rfl,if_pos rfl]
 ·rw[if_neg e,if_neg fun x=>e ?_]
  have nd:((List.range g.length).filter (gQ s)).Nodup:=List.Pairwise.filter _ List.nodup_range
  have hp:=List.pairwise_iff_getElem.1 nd
  rcases Nat.lt_trichotomy i j with a|a|a
  ·exact absurd x.symm (hp i j iG Fb a)
  ·exact a
  ·exact absurd x (hp j i Fb iG a)
theorem Bv{g:List (List Int)}{s:Int}(hg:aM g=true)(h0:0<=s)(h1:s<(g.length:Int)):Small (g.length-1) (bS (vN g s)):=fun i j hi hj=>by
 rw[Kg h0 h1 hi hj]
 unfold iy
 have hb:(zK (fG g s) i).length<=5:=by
  have hl:=pU (n:=g.length) h0 h1
  unfold zK fG
  rw[List.getD_eq_getElem?_getD,List.getElem?_eq_getElem (by rw[List.length_map];omega),List.getElem_map]
  have hm:=List.getElem_mem (show i<((List.range g.length).filter (gQ s)).length by omega)
  rw[List.mem_filter,List.mem_range]at hm
  show(g.getD _ []).length<=5
  rw[aS hm.1]
  exact(aT hg (List.getElem_mem hm.1)).1
 have:=jh (nu (fG g s) j) (zK (fG g s) i)
 split<;>omega
def tY(g:List (List Int))(s:Int):Int:=cH (g.length-1) (bS (vN g s))
theorem Lw{g:List (List Int)}{s:Int}(hg:aM g=true)(h0:0<=s)(h1:s<(g.length:Int)):tY g s=((CG g s).length:Int):=by
 rw[Fh hg h0 h1]
 exact dG fun i j hi hj=>Kg h0 h1 hi hj
theorem Lx{S:Nat->Prop}{h:Heap}{g:Sl}{aD:List (List Int)}(G:bU S h g aD)(hg:aM aD=true){s:Int}(s0:0<=s)(s1:s<(aD.length:Int))(K:Value->Heap->Prop)(HK:∀t h',gO h' (Iv h.size h'.size) t (vN aD s)->Fr No h h'->K t.v h'):aE Tryz.prog 213 #[.agg #[g.v],VI s] h K:=by
 refine agX g s h K fun b1 h1 eD f1 bY=> ?_
 have f1:=f1.aF
 have z1:=f1.size
 have l1:b1<h1.size:=bY.head.lt
 have gl:=aO hg
 have gn:=G.len
 have vp:∀{x:Heap},Fr (fun k=>h.size<=k) h x->Fr No h x:=fun f=>f.mono fun k hk aI=>absurd aI (by omega)
 refine aP qb (fun k=>h1.size<=k) (fun _ h=>h) 0 (by omega) [] rfl rfl fun o h2 n2 c2 o2 f2 m2 _=>⟨o,rfl,bY.aB f2,?_⟩
 have z2:=f2.size
 have Vz:gO h2 (fun k=>h1.size<=k) o []:=⟨[],rfl,o2,fun i h1=>by simp at h1,fun i j h1=>by simp at h1,fun i h1=>by simp at h1⟩
 refine⟨fun m x p h'=>0<=p/\p+m=(aD.length:Int)/\gO h' (fun k=>h1.size<=k) x (((List.range p.toNat).filter (gQ s)).map (kN aD s))/\Fr (fun k=>h.size<=k) h h'/\h1.size<=h'.size,⟨aD.length,Int.le_refl _,by omega,Vz,f1.aB.trans f2.aB,by omega⟩,?_⟩
 rintro m x p h3 ⟨p0,p1,o3,f3,z3⟩ cF
 have g3:=vp f3
 refine⟨fun e=> ?_,fun e=> ?_⟩
 ·have hp:=G.lt e
  have G3:=G.no g3
  obtain⟨sp,cp,rp⟩:=G3.get p0 hp
  have pl:=rp.len
  have eg:aD.getD p.toNat []=aD[p.toNat]'(by omega):=aS (by omega)
  have gm:=aT hg (List.getElem_mem (show p.toNat<aD.length by omega))
  rw[G.succ p0 hp]
  refine⟨G3.bB p0 hp,sp,cp,fun e2=> ?_,fun e2=> ?_⟩
  ·simp only[decide_eq_true_eq]at e2
   refine⟨m-1,by omega,by omega,by omega,?_,f3,z3⟩
   rw[show(p+1).toNat=p.toNat+1 by omega,List.range_succ,List.filter_append,List.filter_cons_of_neg (tN (by omega)),List.filter_nil,List.append_nil]
   exact o3
  simp only[decide_eq_false_iff_not]at e2
  refine eA fx (fun k=>h3.size<=k) (fun _ h=>h) .i64 .i64 g.n g.n (Nat.le_refl _) (by omega) fun t h4 n4 c4 o4 f4 m4 _=>⟨t,rfl,cF.aB f4,?_⟩
  have z4:=f4.size
  have o4:bR h4 (fun k=>h3.size<=k) t (List.replicate aD.length 0):=by
   have e:(List.replicate g.n [VI 0]).flatten=(List.replicate aD.length (0:Int)).map VI:=by rw[gn];simp[List.flatten_replicate_singleton]
   rw[e]at o4;exact o4
  refine fW (L:=[(b1,[g.v])]) (F:=fun k=>h3.size<=k) o4 p0 (by rw[List.length_replicate];omega) (cF.aB f4) (fun q hq=>by
   simp only[List.mem_cons,List.not_mem_nil,or_false]at hq
   subst hq;show¬h3.size<=b1;omega) _ fun h5 o5 f5 V5=> ?_
  rw[pl,<-yd (by omega)]at o5
  have f35:=(f4.aB (T:=fun k=>h3.size<=k)).trans f5
  refine⟨fun m2 j h'=>0<=j/\j+m2=((aD[p.toNat]'(by omega)).length:Int)/\bR h' (fun k=>h3.size<=k) t (jV aD.length p.toNat (aD[p.toNat]'(by omega)).length ((aD[p.toNat]'(by omega)).take j.toNat))/\Fr (fun k=>h3.size<=k) h3 h',⟨(aD[p.toNat]'(by omega)).length,Int.le_refl _,by omega,by simpa using o5,f35⟩,?_⟩
  rintro m2 j h6 ⟨j0,j1,o6,f6⟩ jG
  have r6:=(rp.low.fr f6 fun k hk aI=>by omega)
  refine⟨fun e3=> ?_,fun e3=> ?_⟩
  ·have hj:=r6.lt e3
   have hv:=gm.2 _ (List.getElem_mem (show j.toNat<(aD[p.toNat]'(by omega)).length by omega))
   have R6:=o6.eQ
   have rl:=iI aD.length p.toNat (aD[p.toNat]'(by omega)).length ((aD[p.toNat]'(by omega)).take j.toNat)
   have Qc:(aD[p.toNat]'(by omega))[j.toNat]'(by omega)<((jV aD.length p.toNat (aD[p.toNat]'(by omega)).length ((aD[p.toNat]'(by omega)).take j.toNat)).length:Int):=by rw[rl];omega
   refine⟨r6.bB j0 hj,_,r6.get j0 hj,aQ.bB R6 hv.1 Qc,_,aQ.get R6 hv.1 Qc,fW (L:=[(b1,[g.v])]) (F:=fun k=>h3.size<=k) o6 hv.1 Qc jG (fun q hq=>by
    simp only[List.mem_cons,List.not_mem_nil,or_false]at hq
    subst hq;show¬h3.size<=b1;omega) _ fun h7 o7 f7 V7=> ?_⟩
   rw[aQ.succ r6 j0 hj]
   refine⟨m2-1,by omega,by omega,by omega,?_,f6.trans f7⟩
   rw[dX _ j0 hj,Bs hv.1 hv.2,aN (show((aD[p.toNat]'(by omega))[j.toNat]'(by omega)).toNat<(jV aD.length p.toNat (aD[p.toNat]'(by omega)).length ((aD[p.toNat]'(by omega)).take j.toNat)).length by omega)]
   have hb:aL ((jV aD.length p.toNat (aD[p.toNat]'(by omega)).length ((aD[p.toNat]'(by omega)).take j.toNat))[((aD[p.toNat]'(by omega))[j.toNat]'(by omega)).toNat]'(by omega)-1)=(jV aD.length p.toNat (aD[p.toNat]'(by omega)).length ((aD[p.toNat]'(by omega)).take j.toNat))[((aD[p.toNat]'(by omega))[j.toNat]'(by omega)).toNat]'(by omega)-1:=by
    rw[mw]
    have ob:=jh ((((aD[p.toNat]'(by omega))[j.toNat]'(by omega)).toNat:Nat):Int) ((aD[p.toNat]'(by omega)).take j.toNat)
    rw[List.length_take]at ob
    have:=gm.1
    exact aG _ (by split<;>omega) (by split<;>omega)
   rw[hb]at o7
   exact o7
  ·have hj:=r6.ge e3
   rw[List.take_of_length_le (by omega)]at o6
   have sw:aL (s+1)=((s.toNat+1:Nat):Int):=by rw[aG _ (by omega) (by omega)];omega
   have ss:s=((s.toNat:Nat):Int):=by omega
   rw[sw]
   refine cast (congrArg (fun z:Int=>aE Tryz.prog 258 #[t.v,VI z,VI (s.toNat+1:Nat)] h6 _) ss.symm) ?_
   refine N6 o6 (i:=s.toNat) (by rw[iI];omega) _ fun t8 h8 o8 f8 m8=>⟨t8,rfl,?_,?_⟩
   ·exact jG.fr f8 fun q hq hk=>by
     simp only[List.mem_cons,List.not_mem_nil,or_false]at hq
     subst hq
     have:=(Ow.aH o6 hk).1
     (try simp only at this)
     omega
   have f8':Fr (fun k=>h3.size<=k) h6 h8:=f8.mono fun k _ hk=>(Ow.aH o6 hk).1
   have f38:=f6.trans f8'
   have z8:=f38.size
   have fO:Vars h8 [(b1,[g.v])]:=jG.fr f8' fun q hq hk=>by
    simp only[List.mem_cons,List.not_mem_nil,or_false]at hq
    subst hq
    (try simp only at hk)
    omega
   refine jJ (lo:=h1.size) (m:=h3.size) (dR.fr (dR.fV o3) f38 fun k hk aI Hs=>by have:=aI.2;omega) o8 z3 z8 fO (fun q hq=>by
    simp only[List.mem_cons,List.not_mem_nil,or_false]at hq
    subst hq;exact l1) (by
     rw[List.length_map]
     have:=List.length_filter_le (gQ s) (List.range p.toNat)
     rw[List.length_range]at this
     omega) _ fun t2 dV mM f10 V10=> ?_
   refine⟨m-1,by omega,by omega,by omega,?_,(f3.trans (f38.mono fun k _ hk=>by omega)).trans (f10.mono fun k _ hk=>by omega),by have:=f10.size;omega⟩
   rw[show(p+1).toNat=p.toNat+1 by omega,List.range_succ,List.filter_append,List.filter_cons_of_pos (jT.2 (by omega)),List.filter_nil,List.map_append,List.map_cons,List.map_nil]
   have el:kN aD s p.toNat=(jV aD.length p.toNat (aD[p.toNat]'(by omega)).length (aD[p.toNat]'(by omega))).eraseIdx s.toNat:=by unfold kN;rw[eg]
   rw[el]
   exact mM
 ·have hp:=G.ge e
  have ep:p.toNat=aD.length:=by omega
  rw[ep]at o3
  exact HK x h3 (o3.mono fun k hk aI=>⟨by omega,hk⟩) g3
theorem bU.tl2{S:Nat->Prop}{h:Heap}{s:Sl}{aD:List (List Int)}(H:bU S h s aD)(h1:1<=aD.length):bU S h (s.cut 1 1 s.n s.c) aD.tail:=by
 obtain⟨ss,e,h2,h3⟩:=H.out
 have sn:=H.len
 have c:=cM.cut h2 (l:=1) (m:=s.n) (by omega) (Nat.le_refl _)
 have ec:((ss.map Sl.v).drop (1*1)).take ((s.n-1)*1)=ss.tail.map Sl.v:=by
  rw[List.take_of_length_le (by simp;omega)]
  cases ss<;>rfl
 rw[ec]at c
 refine⟨ss.tail,by simp[e],c,fun i a b=> ?_⟩
 have:=h3 (i+1) (by simp at a;omega) (by simp at b;omega)
 simpa using this
theorem Bw{L:List (Nat×List Value)}{S:Nat->Prop}{h:Heap}{s:Sl}{xs:List Int}(R:aQ S h s xs){k:Int}(k0:0<=k)(k1:k<(xs.length:Int))(hb:xs.length<=1000000)(hL:Vars h L)(C:Sl->Heap->Prop)(HC:∀t h',bR h' (fun q=>h.size<=q) t (xs.eraseIdx k.toNat)->Fr No h h'->Vars h' L->C t h'):
 pop Tryz.prog (Instr.sliceAt qQ s.v none (some (VI k)) none) fun rv=>∃a:Sl,rv=a.v/\pop Tryz.prog (Instr.sliceAt qQ s.v (some (VI (aL (k+1)))) none none) fun rv=>∃b:Sl,rv=b.v/\aE Tryz.prog 87 #[a.v] h fun rv h1=>∃c:Sl,rv=c.v/\Vars h1 L/\jQ Tryz.prog (bK qQ qQ qQ c.v b.v) h1 fun Hy h2=>∃d:Sl,Hy=d.v/\Vars h2 L/\C d h2:=by
 have sn:=aQ.len R
 have sc:=cM.cap R
 have kw:aL (k+1)=k+1:=aG _ (by omega) (by omega)
 rw[kw]
 refine pK fx .i64 k0 (by omega) ⟨_,rfl,ia fx .i64 (by omega) (by omega) ⟨_,rfl,?_⟩⟩
 have r1:=aQ.cut R (l:=0) (m:=k.toNat) (Nat.zero_le _) (by omega)
 have r2:=aQ.cut R (l:=(k+1).toNat) (m:=s.n) (by omega) (by omega)
 rw[List.drop_zero,Nat.sub_zero]at r1
 rw[List.take_of_length_le (by rw[List.length_drop];omega)]at r2
 refine pP r1 (by rw[List.length_take];omega) _ fun c h1 o1 f1=>⟨c,rfl,hL.aB f1,?_⟩
 have cn:c.n=(xs.take k.toNat).length:=by have:=o1.len;simp at this;simp;omega
 have dn:(s.cut 1 (k+1).toNat s.n s.c).n=s.n-(k+1).toNat:=rfl
 have z1:=f1.size
 have pv:((xs.drop (k+1).toNat).map VI).all fp=true:=by rw[List.all_map,List.all_eq_true];intro x _;rfl
 refine bL fx (o1.mono (F':=fun q=>h.size<=q) fun q _ hq=>hq.1) (fun q hq=>by omega) (cM.no r2 f1) pv (by rw[cn,dn,List.length_take];omega) fun d h2 hd o2 f2 m2=>⟨d,rfl,?_,?_⟩
 ·exact(hL.aB f1).fr f2 fun p hp ho=>by
   have:=(hL.mem p hp).lt
   have:=(Ow.aH o1 ho).1.1
   omega
 ·rw[<-List.map_append]at o2
  refine HC d h2 ?_ ((f1.aB.trans (f2.mono fun q _ hq=>(Ow.aH o1 hq).1)).mono fun q hq gI=>absurd gI.1 (by omega)) ?_
  ·rw[List.eraseIdx_eq_take_drop_succ,show k.toNat+1=(k+1).toNat by omega]
   exact o2
  ·exact(hL.aB f1).fr f2 fun p hp ho=>by
    have:=(hL.mem p hp).lt
    have:=(Ow.aH o1 ho).1.1
    omega
theorem Oc{aD:List (List Int)}{n k:Nat}(Q:Sq (n+1) aD)(hk:k<n+1):Sq n (aD.tail.map fun r=>r.eraseIdx k)/\∀i j,i<n->j<n->bS (aD.tail.map fun r=>r.eraseIdx k) i j=bS aD (i+1) (fm k j):=by
 have ln:=Q.len
 have hr:∀i(h:i<aD.tail.length),aD.tail[i]=aD[i+1]'(by rw[List.length_tail]at h;omega):=fun i h=>by rw[List.getElem_tail]
 refine⟨⟨by simp;omega,fun i hi=> ?_⟩,fun i j hi hj=> ?_⟩
 ·rw[List.length_map]at hi
  rw[List.getElem_map,hr i hi,List.length_eraseIdx,Q.row]
  rw[if_pos hk]
  omega
 ·have iG:i<aD.tail.length:=by rw[List.length_tail];omega
  have h1:i+1<aD.length:=by omega
  have e2:=Q.row (i+1) h1
  have hs:fm k j<(aD[i+1]'h1).length:=by unfold fm;split<;>omega
  rw[gA h1 hs,gA (by rw[List.length_map];exact iG) (by rw[List.getElem_map,hr i iG,List.length_eraseIdx,e2,if_pos hk];omega)]
  have:((aD.tail.map fun r=>r.eraseIdx k)[i]'(by rw[List.length_map];exact iG))=(aD[i+1]'h1).eraseIdx k:=by rw[List.getElem_map,hr i iG]
  have e3:((aD.tail.map fun r=>r.eraseIdx k)[i]'(by rw[List.length_map];exact iG))[j]?=(aD[i+1]'h1)[fm k j]?:=by
   rw[this,List.getElem?_eraseIdx]
   unfold fm
   split<;>rfl
  rw[List.getElem?_eq_getElem (by rw[List.getElem_map,hr i iG,List.length_eraseIdx,e2,if_pos hk];omega),List.getElem?_eq_getElem hs]at e3
  exact Option.some.inj e3
theorem abT(k:Nat):aL (0-jS k)=jS (k+1):=by
 rw[kK]
 unfold jS
 split<;>rfl
theorem Od{n:Nat}{A:jO}(h:∀i j,i<n+1->j<n+1->(A i j).natAbs<=10){t:Nat}(ht:t<=n+1):(bG (fun k=>jS k*A 0 k*cH n (fun i j=>A (i+1) (fm k j))) t).natAbs<=GG (n+1):=by
 have:=qT (f:=fun k=>jS k*A 0 k*cH n (fun i j=>A (i+1) (fm k j))) (b:=10*GG n) (n:=t) fun k hk=>by
  (try simp only)
  rw[Int.natAbs_mul,Int.natAbs_mul,JQ,Nat.one_mul]
  exact Nat.mul_le_mul (h 0 k (by omega) (by omega)) (mm fun i j hi hj=>h (i+1) (fm k j) (by omega) (by unfold fm;split<;>omega))
 rw[GG,Nat.mul_assoc]
 exact Nat.le_trans this (Nat.mul_le_mul_right _ ht)
theorem wG:∀(n:Nat){S:Nat->Prop}{h:Heap}{s:Sl}{aD:List (List Int)}(M:bU S h s aD)(Q:Sq n aD)(hn:n<=7)(hb:Small n (bS aD)),vf Tryz.prog 182 #[s.v] h (VI (cH n (bS aD)))
 |0,S,h,s,aD,M,Q,_,_=>by
  intro K HK
  have sn:=M.len
  have ln:=Q.len
  refine v182 s h K ⟨fun _=>HK h (Fr.refl _ _),fun e=> ?_⟩
  simp only[decide_eq_false_iff_not]at e
  omega
 |n+1,S,h,s,aD,M,Q,hn,hb=>by
  intro K HK
  have sn:=M.len
  have ln:=Q.len
  refine v182 s h K ⟨fun e=> ?_,fun _=> ?_⟩
  ·simp only[decide_eq_true_eq]at e
   omega
  obtain⟨s0,c0,r0⟩:=M.get (i:=0) (Int.le_refl _) (by omega)
  have l0:=Q.row 0 (by omega)
  have r0:aQ S h s0 (aD[0]'(by omega)):=r0
  have s0n:=aQ.len r0
  refine⟨M.bB (Int.le_refl _) (by omega),s0,c0,?_⟩
  have pb:∀t,t<=n+1->(bG (fun k=>jS k*bS aD 0 k*cH n (fun i j=>bS aD (i+1) (fm k j))) t).natAbs<=50400000000:=fun t ht=>Nat.le_trans (Od hb ht) (Nat.le_trans (xT (show n+1<=7 by omega)) (by rw[Wc];exact Nat.le_refl _))
  refine⟨fun m sm sg t h'=>0<=t/\t+m=((n+1:Nat):Int)/\sm=bG (fun k=>jS k*bS aD 0 k*cH n (fun i j=>bS aD (i+1) (fm k j))) t.toNat/\sg=jS t.toNat/\Fr No h h',⟨n+1,Int.le_refl _,by omega,rfl,rfl,Fr.refl _ _⟩,?_⟩
  rintro m sm sg t h1 ⟨t0,t1,rfl,rfl,f1⟩ bY
  have M1:=M.no f1
  have r1:=aQ.no r0 f1
  refine⟨fun e=> ?_,fun e=> ?_⟩
  ·have ht:=r1.lt e
   have VJ:t.toNat<n+1:=by omega
   have e00:(aD[0]'(by omega))[t.toNat]'(by omega)=bS aD 0 t.toNat:=(gA (by omega) (by omega)).symm
   have hx:=tW (hb 0 t.toNat (by omega) VJ)
   have tw:aL (t+1)=t+1:=aG _ (by omega) (by omega)
   have nxt:∀(x:Int) h',x=bG (fun k=>jS k*bS aD 0 k*cH n (fun i j=>bS aD (i+1) (fm k j))) (t.toNat+1)->Fr No h h'->∃m':Nat,m'<m/\0<=aL (t+1)/\aL (t+1)+m'=((n+1:Nat):Int)/\x=bG (fun k=>jS k*bS aD 0 k*cH n (fun i j=>bS aD (i+1) (fm k j))) (aL (t+1)).toNat/\aL (0-jS t.toNat)=jS (aL (t+1)).toNat/\Fr No h h':=fun x h' hx f=>by
    rw[tw,show(t+1).toNat=t.toNat+1 by omega]
    exact⟨m-1,by omega,by omega,by omega,hx,abT _,f⟩
   refine⟨r1.bB t0 ht,_,r1.get t0 ht,fun x h'=>x=bG (fun k=>jS k*bS aD 0 k*cH n (fun i j=>bS aD (i+1) (fm k j))) (t.toNat+1)/\Fr No h h',⟨fun e2=> ?_,fun e2=> ?_⟩,fun x h' hx hL'=>nxt x h' hx.1 hx.2⟩
   ·rw[e00]
    refine ia qb .i64 (show(0:Int)<=1 by omega) (by omega) ⟨_,rfl,?_⟩
    have T1:=bU.tl2 M1 (by omega)
    have tln:aD.tail.length=n:=by rw[List.length_tail];omega
    have T1n:(s.cut 1 1 s.n s.c).n=n:=by rw[T1.len,tln]
    have vp:∀{x:Heap},Fr (fun k=>h1.size<=k) h1 x->Fr No h1 x:=fun f=>f.mono fun k hk aI=>absurd aI (by omega)
    refine⟨fun m2 r j h'=>0<=j/\j+m2=(n:Int)/\gO h' (fun q=>h1.size<=q) r ((aD.tail.take j.toNat).map fun l=>l.eraseIdx t.toNat)/\Fr (fun q=>h1.size<=q) h1 h',⟨n,Int.le_refl _,by omega,dR.nil _ _ _ _,Fr.refl _ _⟩,?_⟩
    rintro m2 r j h2 ⟨j0,j1,o2,f2⟩ bW
    have T2:=T1.no (vp f2)
    refine⟨fun e3=> ?_,fun e3=> ?_⟩
    ·have hj:=T2.lt e3
     obtain⟨sj,cj,rj⟩:=T2.get j0 hj
     have lj:(aD.tail[j.toNat]'(by omega)).length=n+1:=by rw[List.getElem_tail];exact Q.row _ (by omega)
     refine⟨T2.bB j0 hj,sj,cj,Bw rj t0 (by omega) (by omega) .nil _ fun d h4 o4 f4 V4=> ?_⟩
     have z4:=f4.size
     refine jJ (lo:=h1.size) (m:=h2.size) (dR.fV o2|>.no f4) o4 f2.size z4 .nil (fun p hp=>by simp at hp) (by rw[List.length_map,List.length_take];omega) _ fun t2 h5 o5 f5 V5=> ?_
     rw[aG (j+1) (by omega) (by omega)]
     refine⟨m2-1,by omega,by omega,by omega,?_,(f2.trans f4.aB).trans f5⟩
     rw[dX _ j0 hj,List.map_append,List.map_cons,List.map_nil]
     exact o5
    ·have hj:=T2.ge e3
     rw[List.take_of_length_le (by omega)]at o2
     obtain⟨Qr,er⟩:=Oc Q VJ
     have hbr:Small n (bS (aD.tail.map fun r=>r.eraseIdx t.toNat)):=fun i j hi hj=>by rw[er i j hi hj];exact hb _ _ (by omega) (by unfold fm;split<;>omega)
     refine wG n (dR.rd o2) Qr (by omega) hbr _ fun h7 f7=>⟨_,rfl,.nil,?_,f1.aA ((vp f2).aA f7)⟩
     rw[dG er]
     rw[bG]
     have b1:=tW (pb t.toNat (by omega))
     have b2:=tW (pb (t.toNat+1) (by omega))
     rw[bG]at b2
     have b3: -10<=jS t.toNat*bS aD 0 t.toNat/\jS t.toNat*bS aD 0 t.toNat<=10:=by
      unfold jS
      split<;>omega
     rw[aG (jS t.toNat*bS aD 0 t.toNat) (by omega) (by omega)]
     generalize jS t.toNat*bS aD 0 t.toNat*cH n (fun i j=>bS aD (i+1) (fm t.toNat j))=y at b2⊢
     generalize bG (fun k=>jS k*bS aD 0 k*cH n (fun i j=>bS aD (i+1) (fm k j))) t.toNat=z at b1 b2⊢
     rw[aG y (by omega) (by omega),aG (z+y) (by omega) (by omega)]
   ·rw[e00]at e2
    simp only[Bool.not_eq_false',decide_eq_true_eq]at e2
    refine⟨?_,f1⟩
    rw[bG,e2]
    simp
  ·have ht:=r1.ge e
   have:t.toNat=n+1:=by omega
   rw[this]
   exact HK h1 f1
theorem Fy{S:Nat->Prop}{h:Heap}{g:Sl}{aD:List (List Int)}(G:bU S h g aD)(hg:aM aD=true){s:Int}(s0:0<=s)(s1:s<(aD.length:Int))(K:Value->Heap->Prop)(HK:∀t h',gO h' (Iv h.size h'.size) t (vN aD s)->Fr No h h'->K t.v h'):aE Tryz.prog 183 #[.agg #[g.v],VI s] h K:=by
 refine v183 g s h K fun b1 h1 eD f1 bY=> ?_
 have f1:=f1.aF
 have z1:=f1.size
 have l1:b1<h1.size:=bY.head.lt
 have gl:=aO hg
 have gn:=G.len
 have vp:∀{x:Heap},Fr (fun k=>h.size<=k) h x->Fr No h x:=fun f=>f.mono fun k hk aI=>absurd aI (by omega)
 refine⟨fun m x p h'=>0<=p/\p+m=(aD.length:Int)/\gO h' (fun k=>h1.size<=k) x (((List.range p.toNat).filter (gQ s)).map (kN aD s))/\Fr (fun k=>h.size<=k) h h'/\h1.size<=h'.size,⟨aD.length,Int.le_refl _,by omega,dR.nil _ _ _ _,f1.aB,Nat.le_refl _⟩,?_⟩
 rintro m x p h3 ⟨p0,p1,o3,f3,z3⟩ cF
 have g3:=vp f3
 refine⟨fun e=> ?_,fun e=> ?_⟩
 ·have hp:=G.lt e
  have G3:=G.no g3
  obtain⟨sp,cp,rp⟩:=G3.get p0 hp
  have pl:=rp.len
  have eg:aD.getD p.toNat []=aD[p.toNat]'(by omega):=aS (by omega)
  have gm:=aT hg (List.getElem_mem (show p.toNat<aD.length by omega))
  rw[G.succ p0 hp]
  refine⟨G3.bB p0 hp,sp,cp,fun e2=> ?_,fun e2=> ?_⟩
  ·simp only[decide_eq_true_eq]at e2
   refine⟨m-1,by omega,by omega,by omega,?_,f3,z3⟩
   rw[show(p+1).toNat=p.toNat+1 by omega,List.range_succ,List.filter_append,List.filter_cons_of_neg (tN (by omega)),List.filter_nil,List.append_nil]
   exact o3
  simp only[decide_eq_false_iff_not]at e2
  refine eA fx (fun k=>h3.size<=k) (fun _ h=>h) .i64 .i64 g.n g.n (Nat.le_refl _) (by omega) fun t h4 n4 c4 o4 f4 m4 _=>⟨t,rfl,cF.aB f4,?_⟩
  have z4:=f4.size
  have o4:bR h4 (fun k=>h3.size<=k) t (List.replicate aD.length 0):=by
   have e:(List.replicate g.n [VI 0]).flatten=(List.replicate aD.length (0:Int)).map VI:=by rw[gn];simp[List.flatten_replicate_singleton]
   rw[e]at o4;exact o4
  refine fW (L:=[(b1,[g.v])]) (F:=fun k=>h3.size<=k) o4 p0 (by rw[List.length_replicate];omega) (cF.aB f4) (fun q hq=>by
   simp only[List.mem_cons,List.not_mem_nil,or_false]at hq
   subst hq;show¬h3.size<=b1;omega) _ fun h5 o5 f5 V5=> ?_
  rw[pl,<-yd (by omega)]at o5
  have f35:=(f4.aB (T:=fun k=>h3.size<=k)).trans f5
  refine⟨fun m2 j h'=>0<=j/\j+m2=((aD[p.toNat]'(by omega)).length:Int)/\bR h' (fun k=>h3.size<=k) t (jV aD.length p.toNat (aD[p.toNat]'(by omega)).length ((aD[p.toNat]'(by omega)).take j.toNat))/\Fr (fun k=>h3.size<=k) h3 h',⟨(aD[p.toNat]'(by omega)).length,Int.le_refl _,by omega,by simpa using o5,f35⟩,?_⟩
  rintro m2 j h6 ⟨j0,j1,o6,f6⟩ jG
  have r6:=(rp.low.fr f6 fun k hk aI=>by omega)
  refine⟨fun e3=> ?_,fun e3=> ?_⟩
  ·have hj:=r6.lt e3
   have hv:=gm.2 _ (List.getElem_mem (show j.toNat<(aD[p.toNat]'(by omega)).length by omega))
   have R6:=o6.eQ
   have rl:=iI aD.length p.toNat (aD[p.toNat]'(by omega)).length ((aD[p.toNat]'(by omega)).take j.toNat)
   have Qc:(aD[p.toNat]'(by omega))[j.toNat]'(by omega)<((jV aD.length p.toNat (aD[p.toNat]'(by omega)).length ((aD[p.toNat]'(by omega)).take j.toNat)).length:Int):=by rw[rl];omega
   refine⟨r6.bB j0 hj,_,r6.get j0 hj,aQ.bB R6 hv.1 Qc,_,aQ.get R6 hv.1 Qc,fW (L:=[(b1,[g.v])]) (F:=fun k=>h3.size<=k) o6 hv.1 Qc jG (fun q hq=>by
    simp only[List.mem_cons,List.not_mem_nil,or_false]at hq
    subst hq;show¬h3.size<=b1;omega) _ fun h7 o7 f7 V7=> ?_⟩
   rw[aQ.succ r6 j0 hj]
   refine⟨m2-1,by omega,by omega,by omega,?_,f6.trans f7⟩
   rw[dX _ j0 hj,Bs hv.1 hv.2,aN (show((aD[p.toNat]'(by omega))[j.toNat]'(by omega)).toNat<(jV aD.length p.toNat (aD[p.toNat]'(by omega)).length ((aD[p.toNat]'(by omega)).take j.toNat)).length by omega)]
   have hb:aL ((jV aD.length p.toNat (aD[p.toNat]'(by omega)).length ((aD[p.toNat]'(by omega)).take j.toNat))[((aD[p.toNat]'(by omega))[j.toNat]'(by omega)).toNat]'(by omega)-1)=(jV aD.length p.toNat (aD[p.toNat]'(by omega)).length ((aD[p.toNat]'(by omega)).take j.toNat))[((aD[p.toNat]'(by omega))[j.toNat]'(by omega)).toNat]'(by omega)-1:=by
    rw[mw]
    have ob:=jh ((((aD[p.toNat]'(by omega))[j.toNat]'(by omega)).toNat:Nat):Int) ((aD[p.toNat]'(by omega)).take j.toNat)
    rw[List.length_take]at ob
    have:=gm.1
    exact aG _ (by split<;>omega) (by split<;>omega)
   rw[hb]at o7
   exact o7
  ·have hj:=r6.ge e3
   rw[List.take_of_length_le (by omega)]at o6
   refine Bw o6.eQ s0 (by rw[iI];omega) (by rw[iI];omega) jG _ fun t8 h8 o8 f8 V8=> ?_
   have f8':Fr (fun k=>h3.size<=k) h6 h8:=f8.aB
   have z6:=f6.size
   have o8:=o8.mono (F':=fun k=>h3.size<=k) fun k _ hk=>by omega
   have f38:=f6.trans f8'
   have z8:=f38.size
   have fO:Vars h8 [(b1,[g.v])]:=V8
   refine jJ (lo:=h1.size) (m:=h3.size) (dR.fr (dR.fV o3) f38 fun k hk aI Hs=>by have:=aI.2;omega) o8 z3 z8 fO (fun q hq=>by
    simp only[List.mem_cons,List.not_mem_nil,or_false]at hq
    subst hq;exact l1) (by
     rw[List.length_map]
     have:=List.length_filter_le (gQ s) (List.range p.toNat)
     rw[List.length_range]at this
     omega) _ fun t2 dV mM f10 V10=> ?_
   refine⟨m-1,by omega,by omega,by omega,?_,(f3.trans (f38.mono fun k _ hk=>by omega)).trans (f10.mono fun k _ hk=>by omega),by have:=f10.size;omega⟩
   rw[show(p+1).toNat=p.toNat+1 by omega,List.range_succ,List.filter_append,List.filter_cons_of_pos (jT.2 (by omega)),List.filter_nil,List.map_append,List.map_cons,List.map_nil]
   have el:kN aD s p.toNat=(jV aD.length p.toNat (aD[p.toNat]'(by omega)).length (aD[p.toNat]'(by omega))).eraseIdx s.toNat:=by unfold kN;rw[eg]
   rw[el]
   exact mM
 ·have hp:=G.ge e
  have ep:p.toNat=aD.length:=by omega
  rw[ep]at o3
  exact HK x h3 (o3.mono fun k hk aI=>⟨by omega,hk⟩) g3
end Go.Proofs.YtcnfcnoooecchaaGreatDoor
