import Derived.Test.YtcnfcnoooecchaaGreatDoorDeskScriptsK0
set_option linter.unusedVariables false
set_option linter.unusedSimpArgs false
namespace Go.Proofs.YtcnfcnoooecchaaGreatDoor
open Go Go.Mx
def gO(k j:Nat):Nat:=if j<k then j else j+1
def lT(k:Nat):Int:=if k%2=0 then 1 else-1
def cG(f:Nat->Int):Nat->Int
 |0=>0
 |n+1=>cG f n+f n
abbrev lQ:=Nat->Nat->Int
def dR:Nat->lQ->Int
 |0,_=>1
 |n+1,A=>cG (fun k=>lT k*A 0 k*dR n (fun i j=>A (i+1) (gO k j))) (n+1)
theorem nb(k:Nat):lT (k+1)= -lT k:=by
 unfold lT
 by_cases h:k%2=0
 ·rw[aJ h,aF (by omega)]
 ·rw[aF h,aJ (by omega)];rfl
theorem dJ{f f':Nat->Int}:∀{n:Nat},(∀i,i<n->f i=f' i)->cG f n=cG f' n
 |0,_=>rfl
 |n+1,h=>by rw[cG,cG,dJ fun i hi=>h i (by omega),h n (by omega)]
theorem oT(f f':Nat->Int):∀n,cG (fun i=>f i+f' i) n=cG f n+cG f' n
 |0=>rfl
 |n+1=>by rw[cG,cG,cG,oT f f' n];omega
theorem oW(c:Int)(f:Nat->Int):∀n,cG (fun i=>c*f i) n=c*cG f n
 |0=>by simp[cG]
 |n+1=>by rw[cG,cG,oW c f n,lx]
theorem kV{f:Nat->Int}:∀{n:Nat},(∀i,i<n->f i=0)->cG f n=0
 |0,_=>rfl
 |n+1,h=>by rw[cG,kV fun i hi=>h i (by omega),h n (by omega)];rfl
theorem En(f:Nat->Nat->Int)(m:Nat):∀n,cG (fun i=>cG (fun j=>f i j) m) n=cG (fun j=>cG (fun i=>f i j) n) m
 |0=>by rw[cG];exact(kV fun i _=>rfl).symm
 |n+1=>by
  rw[cG,En f m n,<-oT]
  exact dJ fun j _=>rfl
theorem oX(f:Nat->Int)(n:Nat):cG (fun i=> -f i) n= -cG f n:=by
 have:=oW (-1) f n
 rw[show(fun i=> -f i)=fun i=> -1*f i from funext fun i=>by omega,this];omega
theorem IP(f:Nat->Int):∀{n k:Nat},k<=n->cG (fun l=>f (gO k l)) n+f k=cG f (n+1)
 |0,k,h=>by rw[show k=0 by omega];simp[cG]
 |n+1,k,h=>by
  by_cases e:k=n+1
  ·subst e
   show cG (fun l=>f (gO (n+1) l)) (n+1)+f (n+1)=cG f (n+1)+f (n+1)
   exact congrArg (·+f (n+1)) (show cG (fun l=>f (gO (n+1) l)) (n+1)=cG f (n+1)from dJ fun i hi=>by(try simp only);unfold gO;rw[aJ hi])
  ·have ih:=IP f (n:=n) (k:=k) (by omega)
   rw[cG,cG,<-ih]
   have:gO k n=n+1:=by unfold gO;rw[aF (by omega)]
   rw[this]
   omega
theorem eZ:∀{n:Nat}{A B:lQ},(∀i j,i<n->j<n->A i j=B i j)->dR n A=dR n B
 |0,_,_,_=>rfl
 |n+1,A,B,h=>by
  rw[dR,dR]
  refine dJ fun k hk=> ?_
  (try simp only)
  rw[h 0 k (by omega) hk,eZ fun i j hi hj=>h (i+1) (gO k j) (by omega) (by unfold gO;split<;>omega)]
def eX(A:lQ)(i:Nat)(X:Nat->Int):lQ:=fun r=>if r=i then X else A r
theorem Eo(A:lQ)(i:Nat):eX A i (A i)=A:=by
 funext r
 unfold eX
 split
 ·rename_i h;rw[h]
 ·rfl
theorem vI:∀{n i:Nat}(A:lQ)(c:Int)(X Y:Nat->Int),i<n->dR n (eX A i fun j=>c*X j+Y j)=c*dR n (eX A i X)+dR n (eX A i Y)
 |n+1,0,A,c,X,Y,_=>by
  rw[dR,dR,dR,<-oW,<-oT]
  refine dJ fun k hk=> ?_
  have e:∀Z:Nat->Int,(fun i j=>eX A 0 Z (i+1) (gO k j))=fun i j=>A (i+1) (gO k j):=fun Z=>by
   funext i j;unfold eX;rw[aF (by omega)]
  (try simp only)
  rw[e,e,e]
  unfold eX
  rw[aJ rfl,aJ rfl,aJ rfl]
  generalize dR n (fun i j=>A (i+1) (gO k j))=d
  rw[lx,Int.add_mul]
  congr 1
  rw[gV,gV,p4 (lT k) c,gV]
 |n+1,i+1,A,c,X,Y,h=>by
  rw[dR,dR,dR,<-oW,<-oT]
  refine dJ fun k hk=> ?_
  have e:∀Z:Nat->Int,(fun r j=>eX A (i+1) Z (r+1) (gO k j))=eX (fun r j=>A (r+1) (gO k j)) i fun j=>Z (gO k j):=fun Z=>by
   funext r j
   unfold eX
   by_cases h:r=i
   ·rw[aJ (by omega),aJ h]
   ·rw[aF (by omega),aF h]
  have z:∀Z:Nat->Int,eX A (i+1) Z 0 k=A 0 k:=fun Z=>by unfold eX;rw[aF (by omega)]
  (try simp only)
  rw[e,e,e,z,z,z,vI (fun r j=>A (r+1) (gO k j)) c (fun j=>X (gO k j)) (fun j=>Y (gO k j)) (by omega),lx,p4]
theorem p5{n i:Nat}(A:lQ)(h:i<n):dR n (eX A i fun _=>0)=0:=by
 have:=vI A (-1) (fun _=>0) (fun _=>0) h
 have e:(fun j:Nat=>(-1:Int)*(fun _=>(0:Int)) j+(fun _=>(0:Int)) j)=fun _=>0:=by funext j;simp
 rw[e]at this
 omega
theorem Ep{n i:Nat}(A:lQ)(c:Int)(X:Nat->Int)(h:i<n):dR n (eX A i fun j=>c*X j)=c*dR n (eX A i X):=by
 have:=vI A c X (fun _=>0) h
 rw[p5 A h]at this
 have e:(fun j:Nat=>c*X j+(fun _=>(0:Int)) j)=fun j=>c*X j:=by funext j;simp
 rw[e]at this
 omega
def hH(i j r:Nat):Nat:=if r=i then j else if r=j then i else r
def FF(k m:Nat):Nat:=if m<k then m else m-1
def Dn(n:Nat)(A:lQ)(k m:Nat):Int:=dR n fun i j=>A (i+2) (gO k (gO (FF k m) j))
def K4(n:Nat)(A:lQ)(k m:Nat):Int:=if k=m then 0 else lT k*lT (FF k m)*A 0 k*A 1 m*Dn n A k m
theorem Vs{k m:Nat}(h:k<m)(j:Nat):gO k (gO (m-1) j)=gO m (gO k j):=by
 unfold gO
 by_cases a:j<k
 ·rw[aJ (show j<m-1 by omega),aJ a,aJ (show j<m by omega)]
 ·by_cases b:j<m-1
  ·rw[aJ b,aF a,aJ (show j+1<m by omega)]
  ·rw[aF b,aF a,aF (show¬j+1<k by omega),aF (show¬j+1<m by omega)]
theorem Er{n:Nat}{A:lQ}{k m:Nat}(h:k<m):Dn n A k m=Dn n A m k:=by
 unfold Dn FF
 rw[aF (by omega),aJ h]
 congr 1
 funext i j
 rw[Vs h]
theorem MU(n:Nat)(A:lQ):dR (n+2) A=cG (fun k=>cG (fun m=>K4 n A k m) (n+2)) (n+2):=by
 rw[dR]
 refine dJ fun k hk=> ?_
 (try simp only)
 rw[dR,<-IP (fun m=>K4 n A k m) (show k<=n+1 by omega)]
 have e0:K4 n A k k=0:=by unfold K4;rw[aJ rfl]
 rw[e0,lS,<-oW]
 refine dJ fun l hl=> ?_
 (try simp only)
 have fH:k≠gO k l:=by unfold gO;split<;>omega
 have amE:FF k (gO k l)=l:=by
  unfold FF gO
  by_cases a:l<k
  ·simp only[aJ a]
  ·simp only[aF a]
   rw[aF (by omega)]
   omega
 unfold K4 Dn
 rw[aF fH,amE,iM]
 generalize dR n _=d
 rw[gV (lT k),gV (lT l),gV,gV,gV]
 rw[p4 (A 0 k)]
theorem K5(n:Nat)(A:lQ):dR (n+2) (fun i=>A (hH 0 1 i))= -dR (n+2) A:=by
 rw[MU,MU,En (fun k m=>K4 n A k m),<-oX]
 refine dJ fun k hk=> ?_
 (try simp only)
 rw[<-oX]
 refine dJ fun m hm=> ?_
 (try simp only)
 have hN:Dn n (fun i=>A (hH 0 1 i)) k m=Dn n A k m:=by
  unfold Dn
  congr 1
 unfold K4
 by_cases e:k=m
 ·rw[aJ e,aJ e.symm];rfl
 ·rw[aF e,aF fun h=>e h.symm,hN]
  have r0:A (hH 0 1 0) k=A 1 k:=rfl
  have r1:A (hH 0 1 1) m=A 0 m:=rfl
  (try simp only)
  rw[r0,r1]
  have hs:lT k*lT (FF k m)= -(lT m*lT (FF m k)):=by
   unfold FF
   by_cases h:k<m
   ·rw[aF (by omega),aJ h]
    have:=nb (m-1)
    rw[show m-1+1=m by omega]at this
    rw[this,kp,Int.neg_neg,jL]
   ·rw[aJ (by omega),aF (by omega)]
    have:=nb (k-1)
    rw[show k-1+1=k by omega]at this
    rw[this,kp,jL]
  have hd:Dn n A k m=Dn n A m k:=by
   by_cases h:k<m
   ·exact Er h
   ·exact(Er (by omega)).symm
  rw[hs,hd]
  generalize lT m*lT (FF m k)=a
  rw[kp,kp,kp,gV a,jL (A 1 k),<-gV a]
theorem p7:∀{n i:Nat}(A:lQ),i+1<n->dR n (fun r=>A (hH i (i+1) r))= -dR n A
 |n+2,0,A,_=>K5 n A
 |n+1,i+1,A,h=>by
  rw[dR,dR,<-oX]
  refine dJ fun k hk=> ?_
  (try simp only)
  have e:(fun r j=>A (hH (i+1) (i+1+1) (r+1)) (gO k j))=fun r=>(fun r j=>A (r+1) (gO k j)) (hH i (i+1) r):=by
   funext r j
   congr 1
   unfold hH
   by_cases a:r=i
   ·rw[aJ (by omega),aJ a]
   ·by_cases b:r=i+1
    ·rw[aF (by omega),aJ (by omega),aF a,aJ b]
    ·rw[aF (by omega),aF (by omega),aF a,aF b]
  have z:hH (i+1) (i+1+1) 0=0:=by unfold hH;rw[aF (by omega),aF (by omega)]
  rw[e,z,p7 (fun r j=>A (r+1) (gO k j)) (by omega),Int.mul_neg]
theorem rM:∀(d:Nat){n i:Nat}(A:lQ),i+d+1<n->A i=A (i+d+1)->dR n A=0
 |0,n,i,A,h,e=>by
  have:=p7 A h
  have e2:(fun r=>A (hH i (i+1) r))=A:=by
   funext r
   unfold hH
   by_cases a:r=i
   ·rw[aJ a,a];exact e.symm
   ·by_cases b:r=i+1
    ·rw[aF a,aJ b,b];exact e
    ·rw[aF a,aF b]
  rw[e2]at this
  omega
 |d+1,n,i,A,h,e=>by
  have h1:=p7 (i:=i+d+1) A (by omega)
  have h2:=rM d (n:=n) (i:=i) (fun r=>A (hH (i+d+1) (i+d+1+1) r)) (by omega) (by
   (try simp only)
   have a:hH (i+d+1) (i+d+1+1) i=i:=by unfold hH;rw[aF (by omega),aF (by omega)]
   have b:hH (i+d+1) (i+d+1+1) (i+d+1)=i+d+1+1:=by unfold hH;rw[aJ rfl]
   rw[a,b]
   exact e)
  omega
theorem IQ{n i j:Nat}(A:lQ)(hi:i<n)(hj:j<n)(h:i≠j)(e:A i=A j):dR n A=0:=by
 by_cases a:i<j
 ·exact rM (j-i-1) (i:=i) A (by omega) (by rw[show i+(j-i-1)+1=j by omega];exact e)
 ·exact rM (i-j-1) (i:=j) A (by omega) (by rw[show j+(i-j-1)+1=i by omega];exact e.symm)
theorem zS{n i j:Nat}(A:lQ)(hi:i<n)(hj:j<n)(h:i≠j)(c:Int):dR n (eX A i fun k=>c*A j k+A i k)=dR n A:=by
 rw[vI A c (A j) (A i) hi,Eo,IQ (eX A i (A j)) hi hj h (by unfold eX;rw[aJ rfl,aF fun e=>h e.symm])]
 omega
theorem Rg{n i j:Nat}(A:lQ)(hi:i<n)(hj:j<n)(h:i≠j):dR n (fun r=>A (hH i j r))= -dR n A:=by
 --row i+row j,then row j-row i,then row i+row j,and a sign
 have e1:=zS A hi hj h 1
 have e2:=zS (eX A i fun k=>1*A j k+A i k) hj hi (fun e=>h e.symm) (-1)
 have e3:=zS (eX (eX A i fun k=>1*A j k+A i k) j fun k=> -1*(eX A i fun k=>1*A j k+A i k) i k+(eX A i fun k=>1*A j k+A i k) j k) hi hj h 1
 have e4:=Ep (fun r=>A (hH i j r)) (-1) (A i) hj
 have f1:eX (fun r=>A (hH i j r)) j (A i)=fun r=>A (hH i j r):=by
  funext r
  unfold eX
  by_cases a:r=j
  ·rw[aJ a,a];unfold hH;rw[aF fun e=>h e.symm,aJ rfl]
  ·rw[aF a]
 rw[f1]at e4
 have f2:eX (eX (eX A i fun k=>1*A j k+A i k) j fun k=> -1*(eX A i fun k=>1*A j k+A i k) i k+(eX A i fun k=>1*A j k+A i k) j k) i (fun k=>1*(eX (eX A i fun k=>1*A j k+A i k) j fun k=> -1*(eX A i fun k=>1*A j k+A i k) i k+(eX A i fun k=>1*A j k+A i k) j k) j k+(eX (eX A i fun k=>1*A j k+A i k) j fun k=> -1*(eX A i fun k=>1*A j k+A i k) i k+(eX A i fun k=>1*A j k+A i k) j k) i k)=eX (fun r=>A (hH i j r)) j fun k=> -1*A i k:=by
  funext r k
  unfold eX hH
  by_cases a:r=i
  ·subst a
   simp only[aJ,aF h,aF fun e:j=r=>h e.symm]
   omega
  ·by_cases b:r=j
   ·subst b
    simp only[aJ,aF a]
    omega
   ·simp only[aF a,aF b]
 rw[f2,e4]at e3
 omega
theorem Bi:∀{n:Nat}(A:lQ),(∀i,i<n+1->A i 0=0)->dR (n+1) A=0
 |0,A,h=>by rw[dR];simp[cG,dR,h 0 (by omega)]
 |n+1,A,h=>by
  rw[dR]
  refine kV fun k hk=> ?_
  (try simp only)
  by_cases e:k=0
  ·subst e;rw[h 0 (by omega)];simp
  ·rw[Bi (fun i j=>A (i+1) (gO k j)) fun i hi=>by
    (try simp only)
    rw[show gO k 0=0 by unfold gO;rw[aJ (by omega)]]
    exact h (i+1) (by omega)]
   simp
theorem Bj{n:Nat}(A:lQ)(h:∀i,1<=i->i<n+1->A i 0=0):dR (n+1) A=A 0 0*dR n (fun i j=>A (i+1) (j+1)):=by
 have key:∀m,m<=n->cG (fun k=>lT k*A 0 k*dR n (fun i j=>A (i+1) (gO k j))) (m+1)=A 0 0*dR n (fun i j=>A (i+1) (j+1)):=by
  intro m
  induction m with
  |zero=>
   intro _
   rw[cG,cG]
   have:(fun i j=>A (i+1) (gO 0 j))=fun i j=>A (i+1) (j+1):=by
    funext i j;unfold gO;rw[aF (by omega)]
   rw[this]
   simp[lT]
  |succ m ih=>
   intro hm
   rw[cG,ih (by omega)]
   cases n with
   |zero=>omega
   |succ n=>
    rw[Bi (fun i j=>A (i+1) (gO (m+1) j)) fun i hi=>by
     (try simp only)
     rw[show gO (m+1) 0=0 by unfold gO;rw[aJ (by omega)]]
     exact h (i+1) (by omega) (by omega)]
    simp
 rw[dR]
 exact key n (aY _)
def FG(B:lQ):lQ:=fun i j=>B 0 0*B (i+1) (j+1)-B (i+1) 0*B 0 (j+1)
theorem rN{n:Nat}(b:Int)(B:lQ):∀m,m<=n->dR (n+1) (fun r j=>if 1<=r/\r<=m then b*B r j else B r j)=b^m*dR (n+1) B
 |0,_=>by
  rw[Int.pow_zero,jc]
  exact eZ fun i j _ _=>by rw[aF (by omega)]
 |m+1,h=>by
  have ih:=rN (n:=n) b B m (by omega)
  have e:=Ep (n:=n+1) (i:=m+1) (fun r j=>if 1<=r/\r<=m then b*B r j else B r j) b (B (m+1)) (by omega)
  have e1:dR (n+1) (eX (fun r j=>if 1<=r/\r<=m then b*B r j else B r j) (m+1) fun j=>b*B (m+1) j)=dR (n+1) (fun r j=>if 1<=r/\r<=m+1 then b*B r j else B r j):=by
   refine eZ fun i j _ _=> ?_
   unfold eX
   (try simp only)
   by_cases a:i=m+1
   ·subst a;rw[aJ rfl,aJ (by omega)]
   ·rw[aF a]
    (try simp only)
    by_cases c:1<=i/\i<=m
    ·rw[aJ c,aJ (show 1<=i/\i<=m+1 by omega)]
    ·rw[aF c,aF (show¬(1<=i/\i<=m+1) by omega)]
  have e2:eX (fun r j=>if 1<=r/\r<=m then b*B r j else B r j) (m+1) (B (m+1))=fun r j=>if 1<=r/\r<=m then b*B r j else B r j:=by
   funext r j
   unfold eX
   by_cases a:r=m+1
   ·subst a;rw[aJ rfl,aF (by omega)]
   ·rw[aF a]
  rw[e1,e2,ih]at e
  rw[e,Int.pow_succ,<-gV,jL b]
theorem p8{n:Nat}(C:lQ)(c:Nat->Int):∀m,m<=n->dR (n+1) (fun r j=>if 1<=r/\r<=m then c r*C 0 j+C r j else C r j)=dR (n+1) C
 |0,_=>eZ fun i j _ _=>by rw[aF (by omega)]
 |m+1,h=>by
  rw[<-p8 C c m (by omega),<-zS (n:=n+1) (i:=m+1) (j:=0) (fun r j=>if 1<=r/\r<=m then c r*C 0 j+C r j else C r j) (by omega) (by omega) (by omega) (c (m+1))]
  refine eZ fun i j _ _=> ?_
  unfold eX
  by_cases a:i=m+1
  ·subst a;rw[aJ rfl,aJ (by omega),aF (by omega),aF (by omega)]
  ·rw[aF a]
   (try simp only)
   by_cases d:1<=i/\i<=m
   ·rw[aJ d,aJ (show 1<=i/\i<=m+1 by omega)]
   ·rw[aF d,aF (show¬(1<=i/\i<=m+1) by omega)]
theorem Rh{n:Nat}{B:lQ}(hb:B 0 0≠0):B 0 0^n*dR (n+2) B=dR (n+1) (FG B):=by
 have e1:=rN (n:=n+1) (B 0 0) B (n+1) (aY _)
 have e2:=p8 (n:=n+1) (fun r j=>if 1<=r/\r<=n+1 then B 0 0*B r j else B r j) (fun r=> -B r 0) (n+1) (aY _)
 rw[e1]at e2
 have e3:=Bj (n:=n+1) (fun r j=>if 1<=r/\r<=n+1 then-B r 0*(if 1<=0/\0<=n+1 then B 0 0*B 0 j else B 0 j)+(if 1<=r/\r<=n+1 then B 0 0*B r j else B r j)else(if 1<=r/\r<=n+1 then B 0 0*B r j else B r j)) fun i h1 h2=>by
  (try simp only)
  rw[aJ (by omega),aF (by omega),aJ (by omega),kp,jL (B i 0)]
  omega
 rw[e3]at e2
 have e4:dR (n+1) (fun i j=>if 1<=i+1/\i+1<=n+1 then-B (i+1) 0*(if 1<=0/\0<=n+1 then B 0 0*B 0 (j+1)else B 0 (j+1))+(if 1<=i+1/\i+1<=n+1 then B 0 0*B (i+1) (j+1)else B (i+1) (j+1))else(if 1<=i+1/\i+1<=n+1 then B 0 0*B (i+1) (j+1)else B (i+1) (j+1)))=dR (n+1) (FG B):=by
  refine eZ fun i j hi hj=> ?_
  unfold FG
  rw[aJ (by omega),aF (by omega),aJ (by omega),kp]
  omega
 have e5:(if 1<=0/\0<=n+1 then-B 0 0*(if 1<=0/\0<=n+1 then B 0 0*B 0 0 else B 0 0)+(if 1<=0/\0<=n+1 then B 0 0*B 0 0 else B 0 0)else(if 1<=0/\0<=n+1 then B 0 0*B 0 0 else B 0 0))=B 0 0:=by
  rw[aF (by omega),aF (by omega)]
 (try simp only at e2)
 (try simp only at e4)
 (try simp only at e5)
 first
 |(rw[e4,e5]at e2
   rw[Int.pow_succ,jL (B 0 0^n),gV]at e2
   exact(Int.mul_eq_mul_left_iff hb).1 e2.symm)
 |(rw[e4]at e2
   rw[Int.pow_succ,jL (B 0 0^n),gV]at e2
   exact(Int.mul_eq_mul_left_iff hb).1 e2.symm)
theorem IR(b:Int)(A:lQ):∀n,dR n (fun i j=>b*A i j)=b^n*dR n A
 |0=>by simp[dR]
 |n+1=>by
  rw[dR,dR,<-oW]
  refine dJ fun k hk=> ?_
  (try simp only)
  rw[IR b (fun i j=>A (i+1) (gO k j)) n,Int.pow_succ,p4 (lT k),gV b,p4,jL (b^n) b,gV b,p4 (b^n),<-gV]
  first
  |done
  |simp only[gV,jL,p4]
def oA(m:Nat)(r:Nat->Nat)(i:Nat):Nat:=if i<m then i else m+r (i-m)
def vJ(n m:Nat)(last:Int)(O A:lQ):Prop:=
 ∀(k:Nat)(r c:Nat->Nat),(∀i,i<=k->r i<n-m)->(∀i,i<=k->c i<n-m)->dR (k+1) (fun i j=>A (r i) (c j))=last^k*dR (m+k+1) (fun i j=>O (oA m r i) (oA m c j))
theorem vJ.start(n:Nat)(O:lQ):vJ n 0 1 O O:=fun k r c hr hc=>by
 rw[Int.one_pow,jc,iM]
 exact eZ fun i j _ _=>by simp[oA]
theorem Vt(A:lQ):dR 1 A=A 0 0:=by simp[dR,cG,lT]
theorem Vu(A:lQ):dR 2 A=A 0 0*A 1 1-A 1 0*A 0 1:=by
 simp only[dR,cG,lT,gO]
 simp
 rw[kp,jL (A 0 1)]
 omega
theorem vJ.ent{n m:Nat}{last:Int}{O A:lQ}(H:vJ n m last O A){i j:Nat}(hi:i<n-m)(hj:j<n-m):A i j=dR (m+1) (fun a b=>O (oA m (fun _=>i) a) (oA m (fun _=>j) b)):=by
 have:=H 0 (fun _=>i) (fun _=>j) (fun _ _=>hi) (fun _ _=>hj)
 rw[Vt,Int.pow_zero,jc]at this
 exact this
def Ri(r:Nat->Nat):Nat->Nat
 |0=>0
 |i+1=>r i+1
theorem MV(m:Nat)(r:Nat->Nat)(i:Nat):oA m (Ri r) i=oA (m+1) r i:=by
 unfold oA
 by_cases h:i<m
 ·rw[aJ h,aJ (by omega)]
 ·rw[aF h]
  by_cases e:i=m
  ·subst e;rw[aJ (by omega),Nat.sub_self];rfl
  ·rw[aF (by omega)]
   obtain⟨d,rfl⟩:∃d,i=m+1+d:=⟨i-(m+1),by omega⟩
   rw[show m+1+d-m=d+1 by omega,show m+1+d-(m+1)=d by omega]
   show m+(r d+1)=_
   omega
theorem vJ.exact{n m:Nat}{last:Int}{O A:lQ}(H:vJ n m last O A){i j:Nat}(hi:i+1<n-m)(hj:j+1<n-m):∃q,FG A i j=last*q:=by
 have:=H 1 (Ri fun _=>i) (Ri fun _=>j) (fun a ha=>by cases a with|zero=>exact(by show 0<_;omega)|succ a=>exact hi) (fun a ha=>by cases a with|zero=>exact(by show 0<_;omega)|succ a=>exact hj)
 rw[Vu]at this
 exact⟨_,by unfold FG;rw[Int.pow_one]at this;exact this⟩
theorem MW{a b q:Int}(h:a=b*q)(hb:b≠0):a.tdiv b=q:=by rw[h];exact Int.mul_tdiv_cancel_left _ hb
theorem vJ.step{n m:Nat}{last:Int}{O A A':lQ}(H:vJ n m last O A)(hl:last≠0)(ha:A 0 0≠0)(hA:∀i j,i+1<n-m->j+1<n-m->A' i j=(FG A i j).tdiv last):vJ n (m+1) (A 0 0) O A':=fun k r c hr hc=>by
 have e1:dR (k+1) (fun i j=>last*A' (r i) (c j))=dR (k+1) (FG fun i j=>A (Ri r i) (Ri c j)):=eZ fun i j hi hj=>by
  have jH:=hr i (by omega)
  have IU:=hc j (by omega)
  (try simp only)
  obtain⟨q,hq⟩:=H.exact (i:=r i) (j:=c j) (by omega) (by omega)
  rw[hA _ _ (by omega) (by omega),MW hq hl,<-hq]
  rfl
 rw[IR last (fun i j=>A' (r i) (c j))]at e1
 have e2:=Rh (n:=k) (B:=fun i j=>A (Ri r i) (Ri c j)) ha
 have e3:=H (k+1) (Ri r) (Ri c) (fun i hi=>by cases i with|zero=>exact(by have:=hr 0 (by omega);show 0<_;omega)|succ i=>exact(by have:=hr i (by omega);show r i+1<_;omega)) (fun i hi=>by cases i with|zero=>exact(by have:=hc 0 (by omega);show 0<_;omega)|succ i=>exact(by have:=hc i (by omega);show c i+1<_;omega))
 rw[<-e2,e3]at e1
 have e4:(fun i j=>O (oA m (Ri r) i) (oA m (Ri c) j))=fun i j=>O (oA (m+1) r i) (oA (m+1) c j):=by funext i j;rw[MV,MV]
 rw[e4,p4]at e1
 have e5:=(Int.mul_eq_mul_left_iff (show last^(k+1)≠0 from Int.pow_ne_zero hl)).1 e1
 rw[e5,show m+(k+1)+1=m+1+k+1 by omega]
 rfl
theorem vJ.swap{n m p:Nat}{last:Int}{O A:lQ}(H:vJ n m last O A)(hp:p<n-m):vJ n m last (fun i=>O (hH m (m+p) i)) (fun i=>A (hH 0 p i)):=fun k r c hr hc=>by
 have:=H k (fun i=>hH 0 p (r i)) c (fun i hi=>by have:=hr i hi;unfold hH;split<;>(try split)<;>omega) hc
 (try simp only)
 rw[this]
 congr 2
 funext i j
 congr 1
 unfold oA
 by_cases h:i<m
 ·rw[aJ h,aJ h];unfold hH;rw[aF (by omega),aF (by omega)]
 ·rw[aF h,aF h]
  show m+hH 0 p (r (i-m))=hH m (m+p) (m+r (i-m))
  generalize r (i-m)=x
  unfold hH
  by_cases a:x=0
  ·rw[aJ a,aJ (show m+x=m by omega)]
  ·rw[aF a,aF (show¬m+x=m by omega)]
   by_cases b:x=p
   ·rw[aJ b,aJ (show m+x=m+p by omega)];omega
   ·rw[aF b,aF (show¬m+x=m+p by omega)]
theorem MX(m i:Nat):oA m (fun x=>x) i=i:=by unfold oA;split<;>(try simp only)<;>omega
theorem vJ.none{n m:Nat}{last:Int}{O A:lQ}(H:vJ n m last O A)(hm:m<n)(hl:last≠0)(h0:∀i,i<n-m->A i 0=0):dR n O=0:=by
 have:=H (n-m-1) (fun x=>x) (fun x=>x) (fun i hi=>by omega) (fun i hi=>by omega)
 rw[Bi (fun i j=>A i j) fun i hi=>h0 i (by omega)]at this
 have e:(fun i j=>O (oA m (fun x=>x) i) (oA m (fun x=>x) j))=O:=by funext i j;rw[MX,MX]
 rw[e,show m+(n-m-1)+1=n by omega]at this
 rcases Int.mul_eq_zero.1 this.symm with h|h
 ·exact absurd h (Int.pow_ne_zero hl)
 ·exact h
theorem vJ.last{n m:Nat}{last:Int}{O A:lQ}(H:vJ n m last O A)(hm:m+1=n):A 0 0=dR n O:=by
 rw[H.ent (i:=0) (j:=0) (by omega) (by omega),hm]
 have e:(fun a b=>O (oA m (fun _=>0) a) (oA m (fun _=>0) b))=fun a b=>O (if a<m then a else m) (if b<m then b else m):=by funext a b;rfl
 rw[e]
 refine eZ fun i j hi hj=> ?_
 rw[show(if i<m then i else m)=i by split<;>omega,show(if j<m then j else m)=j by split<;>omega]
def Km:Nat->Nat
 |0=>1
 |n+1=>(n+1)*10*Km n
theorem uH{f:Nat->Int}{b:Nat}:∀{n:Nat},(∀i,i<n->(f i).natAbs<=b)->(cG f n).natAbs<=n*b
 |0,_=>by simp[cG]
 |n+1,h=>by
  rw[cG]
  have h1:=uH (f:=f) (b:=b) (n:=n) fun i hi=>h i (by omega)
  have h2:=h n (by omega)
  have h3:=Int.natAbs_add_le (cG f n) (f n)
  rw[Nat.succ_mul]
  omega
theorem MY(k:Nat):(lT k).natAbs=1:=by unfold lT;split<;>rfl
theorem oY:∀{n:Nat}{A:lQ},(∀i j,i<n->j<n->(A i j).natAbs<=10)->(dR n A).natAbs<=Km n
 |0,_,_=>by simp[dR,Km]
 |n+1,A,h=>by
  rw[dR,Km,Nat.mul_assoc]
  refine uH fun k hk=> ?_
  (try simp only)
  rw[sZ,sZ,MY,Nat.one_mul]
  exact vm (h 0 k (by omega) hk) (oY fun i j hi hj=>h (i+1) (gO k j) (by omega) (by unfold gO;split<;>omega))
theorem Bk:∀{n m:Nat},n<=m->Km n<=Km m
 |n,0,h=>by rw[show n=0 by omega];exact aY _
 |n,m+1,h=>by
  by_cases e:n=m+1
  ·rw[e];exact aY _
  ·have h1:=Bk (n:=n) (m:=m) (by omega)
   have h2:Km m<=Km (m+1):=by rw[Km];exact Nat.le_mul_of_pos_left _ (by omega)
   omega
def Small(n:Nat)(O:lQ):Prop:=∀i j,i<n->j<n->(O i j).natAbs<=10
theorem vJ.afA{n m:Nat}{last:Int}{O A:lQ}(H:vJ n m last O A)(hO:Small n O){i j:Nat}(hi:i<n-m)(hj:j<n-m):(A i j).natAbs<=Km (m+1):=by
 rw[H.ent hi hj]
 refine oY fun a b ha hb=>hO _ _ ?_ ?_
 ·unfold oA;split<;>(try simp only)<;>omega
 ·unfold oA;split<;>(try simp only)<;>omega
def gB(x:Int):aH->Int
 |[]=>0
 |y::l=>(if y=x then 1 else 0)+gB x l
def FH(p q x:Int):Int:=if x=p then q else x
abbrev Tn:=List (Int×aH)
def uI(p q:Int)(ts:Tn):Tn:=ts.map fun t=>(t.1,t.2.map (FH p q))
def p9(ts:Tn)(i:Nat):Int:=(ts.getD i (0,[])).1
def C7(ts:Tn)(i:Nat):aH:=(ts.getD i (0,[])).2
def j3(ts:Tn):lQ:=fun i j=>(if i=j then((C7 ts i).length:Int)else 0)-gB (p9 ts j) (C7 ts i)
def ON:Nat->Tn->Int
 |0,_=>1
 |_+1,[]=>1
 |n+1,(p,ex)::ts=>(ex.map fun q=>if q=p then 0 else ON n (uI p q ts)).sum
theorem MZ{p q x:Int}(h:x≠p):∀l:aH,gB x (l.map (FH p q))=gB x l+(if q=x then gB p l else 0)
 |[]=>by simp[gB]
 |y::l=>by
  rw[bJ,gB,gB,gB,MZ h l]
  unfold FH
  by_cases a:y=p
  ·rw[aJ a,aF (show¬y=x from fun e=>h (e.symm.trans a)),aJ a]
   by_cases b:q=x
   ·rw[aJ b,aJ b,aJ b];omega
   ·rw[aF b,aF b,aF b];omega
  ·rw[aF a,aF a]
   by_cases b:q=x
   ·rw[aJ b,aJ b];omega
   ·rw[aF b,aF b];omega
theorem Vv(p q:Int)(ts:Tn)(i:Nat):p9 (uI p q ts) i=p9 ts i:=by
 unfold p9 uI
 rw[eG,eG,zT]
 cases ts[i]?<;>rfl
theorem Vw(p q:Int)(ts:Tn)(i:Nat):C7 (uI p q ts) i=(C7 ts i).map (FH p q):=by
 unfold C7 uI
 rw[eG,eG,zT]
 cases ts[i]?<;>rfl
theorem Vx{ts:Tn}{i:Nat}(h:i<ts.length):p9 ts i∈ts.map (·.1):=by
 unfold p9
 rw[eG,dT h]
 exact dN.2 ⟨_,bI h,rfl⟩
theorem Es(p q:Int)(ts:Tn):(uI p q ts).map (·.1)=ts.map (·.1):=by
 unfold uI
 rw[iP]
 rfl
theorem Rj{n:Nat}{p q:Int}{ex:aH}{ts:Tn}(hn:ts.length=n)(hd:((p,ex)::ts).map (·.1)|>.Nodup):
 dR (n+1) (eX (j3 ((p,ex)::ts)) 0 fun j=>(if 0=j then 1 else 0)-(if q=p9 ((p,ex)::ts) j then 1 else 0))=if q=p then 0 else dR n (j3 (uI p q ts)):=by
 have hp:∀j,j<n->p9 ((p,ex)::ts) (j+1)=p9 ts j/\p9 ts j≠p:=fun j hj=>⟨rfl,fun e=>by
  have h1:=Vx (ts:=ts) (i:=j) (by omega)
  rw[e]at h1
  rw[bJ,List.nodup_cons]at hd
  exact hd.1 h1⟩
 have h0:p9 ((p,ex)::ts) 0=p:=rfl
 by_cases e:q=p
 ·rw[aJ e]
  rw[show dR (n+1) (eX (j3 ((p,ex)::ts)) 0 fun j=>(if 0=j then 1 else 0)-(if q=p9 ((p,ex)::ts) j then 1 else 0))=dR (n+1) (eX (j3 ((p,ex)::ts)) 0 fun _=>0)from eZ fun i j hi hj=>by
   unfold eX
   by_cases a:i=0
   ·rw[aJ a,aJ a]
    cases j with
    |zero=>rw[h0,aJ rfl,aJ e];rfl
    |succ j=>rw[(hp j (by omega)).1,aF (by omega),aF fun x=>(hp j (by omega)).2 (x.symm.trans e)];rfl
   ·rw[aF a,aF a]]
  exact p5 _ (by omega)
 ·rw[aF e]
  rw[<-p8 (n:=n) (eX (j3 ((p,ex)::ts)) 0 fun j=>(if 0=j then 1 else 0)-(if q=p9 ((p,ex)::ts) j then 1 else 0)) (fun r=>gB p (C7 ((p,ex)::ts) r)) n (aY _)]
  rw[Bj]
  ·have e1:(if 1<=0/\0<=n then gB p (C7 ((p,ex)::ts) 0)*eX (j3 ((p,ex)::ts)) 0 (fun j=>(if 0=j then 1 else 0)-(if q=p9 ((p,ex)::ts) j then 1 else 0)) 0 0+eX (j3 ((p,ex)::ts)) 0 (fun j=>(if 0=j then 1 else 0)-(if q=p9 ((p,ex)::ts) j then 1 else 0)) 0 0 else eX (j3 ((p,ex)::ts)) 0 (fun j=>(if 0=j then 1 else 0)-(if q=p9 ((p,ex)::ts) j then 1 else 0)) 0 0)=(1:Int):=by
    rw[aF (by omega)]
    unfold eX
    rw[aJ rfl,h0,aJ rfl,aF e];rfl
   (try simp only)
   first
   |rw[e1,jc]
   |(have e1:=e1
     simp only at e1
     rw[e1,jc])
   refine eZ fun i j hi hj=> ?_
   (try simp only)
   rw[aJ (by omega)]
   unfold eX
   rw[aJ rfl,aF (show¬i+1=0 by omega)]
   (try simp only)
   rw[(hp j hj).1,aF (show¬0=j+1 by omega)]
   unfold j3
   rw[Vw,Vv,MZ (hp j hj).2,bB,(hp j hj).1]
   have e2:C7 ((p,ex)::ts) (i+1)=C7 ts i:=rfl
   rw[e2]
   by_cases a:q=p9 ts j
   ·rw[aJ a,aJ a]
    by_cases b:i=j
    ·rw[aJ b,aJ (by omega)];omega
    ·rw[aF b,aF (by omega)];omega
   ·rw[aF a,aF a]
    by_cases b:i=j
    ·rw[aJ b,aJ (by omega)];omega
    ·rw[aF b,aF (by omega)];omega
  ·intro i h1 h2
   (try simp only)
   rw[aJ (show 1<=i/\i<=n by omega)]
   unfold eX
   rw[aF (show¬i=0 by omega),aJ (show 0=0 from rfl)]
   (try simp only)
   rw[h0,aF e]
   unfold j3
   rw[aF (show¬i=0 by omega),h0]
   simp
   omega
theorem FI:∀(n:Nat)(ts:Tn),ts.length=n->(ts.map (·.1)).Nodup->dR n (j3 ts)=ON n ts
 |0,ts,_,_=>by rw[dR];cases ts<;>rfl
 |n+1,(p,ex)::ts,h,hd=>by
  have hn:ts.length=n:=by simpa using h
  have TR:(ts.map (·.1)).Nodup:=by
   rw[bJ,List.nodup_cons]at hd
   exact hd.2
  have key:∀l:aH,dR (n+1) (eX (j3 ((p,ex)::ts)) 0 fun j=>(if 0=j then(l.length:Int)else 0)-gB (p9 ((p,ex)::ts) j) l)=(l.map fun q=>if q=p then 0 else ON n (uI p q ts)).sum:=by
   intro l
   induction l with
   |nil=>
    have:(fun j:Nat=>(if 0=j then((([]:aH).length:Nat):Int)else 0)-gB (p9 ((p,ex)::ts) j) [])=fun _=>0:=by
     funext j
     simp[gB]
    rw[this,p5 _ (by omega)]
    rfl
   |cons q l ih=>
    have:(fun j:Nat=>(if 0=j then(((q::l).length:Nat):Int)else 0)-gB (p9 ((p,ex)::ts) j) (q::l))=fun j=>1*((if 0=j then 1 else 0)-(if q=p9 ((p,ex)::ts) j then 1 else 0))+((if 0=j then(l.length:Int)else 0)-gB (p9 ((p,ex)::ts) j) l):=by
     funext j
     rw[gB,List.length_cons]
     by_cases a:0=j
     ·rw[aJ a,aJ a,aJ a];omega
     ·rw[aF a,aF a,aF a];omega
    rw[this,vI (j3 ((p,ex)::ts)) 1 (fun j=>(if 0=j then 1 else 0)-(if q=p9 ((p,ex)::ts) j then 1 else 0)) (fun j=>(if 0=j then(l.length:Int)else 0)-gB (p9 ((p,ex)::ts) j) l) (by omega),ih,Rj hn hd,bJ,List.sum_cons,jc]
    congr 1
    by_cases a:q=p
    ·rw[aJ a,aJ a]
    ·rw[aF a,aF a,FI n (uI p q ts) (by unfold uI;simpa using hn) (by rw[Es];exact TR)]
  have e:eX (j3 ((p,ex)::ts)) 0 (fun j=>(if 0=j then(ex.length:Int)else 0)-gB (p9 ((p,ex)::ts) j) ex)=j3 ((p,ex)::ts):=by
   have:=Eo (j3 ((p,ex)::ts)) 0
   exact this
  rw[ON,<-key ex,e]
def eQ{α:Type}:List (List α)->List (List α)
 |[]=>[[]]
 |c::cs=>c.flatMap fun x=>(eQ cs).map (x:: ·)
theorem Et{α β:Type}(f:α->β):∀cs:List (List α),eQ (cs.map (·.map f))=(eQ cs).map (·.map f)
 |[]=>rfl
 |c::cs=>by
  rw[bJ,eQ,eQ,Et f cs,List.map_flatMap,List.flatMap_map]
  congr 1
  funext x
  rw[iP,iP]
  rfl
def PK:Nat->List (Int×Int)->Bool
 |0,_=>true
 |_+1,[]=>true
 |n+1,(p,q)::l=> !decide (q=p)&&PK n (l.map fun t=>(t.1,FH p q t.2))
theorem M0(p q:Int):∀(ns c:aH),ns.zip (c.map (FH p q))=(ns.zip c).map fun t=>(t.1,FH p q t.2)
 |[],_=>by simp
 |_::_,[]=>by simp
 |x::ns,y::c=>by rw[bJ,List.zip_cons_cons,List.zip_cons_cons,bJ,M0 p q ns c]
theorem yO:∀l:List Nat,((l.sum:Nat):Int)=(l.map fun n:Nat=>(n:Int)).sum
 |[]=>rfl
 |x::l=>by rw[List.sum_cons,bJ,List.sum_cons,<-yO l];omega
theorem Bm:∀(n:Nat)(ts:Tn),ts.length=n->ON n ts=(((eQ (ts.map (·.2))).countP fun c=>PK n ((ts.map (·.1)).zip c):Nat):Int)
 |0,ts,h=>by
  rw[qa.1 h]
  rfl
 |n+1,(p,ex)::ts,h=>by
  have hn:ts.length=n:=by simpa using h
  have e0:eQ (((p,ex)::ts).map (·.2))=ex.flatMap fun q=>(eQ (ts.map (·.2))).map (q:: ·):=rfl
  rw[ON,e0,List.countP_flatMap,yO,iP]
  congr 1
  refine qM fun q _=> ?_
  (try simp only[Function.comp])
  rw[List.countP_map]
  by_cases e:q=p
  ·rw[aJ e]
   have:((eQ (ts.map (·.2))).countP ((fun c=>PK (n+1) ((((p,ex)::ts).map (·.1)).zip c))∘fun c=>q::c))=0:=by
    rw[List.countP_eq_zero]
    intro c _
    simp[PK,e]
   rw[this];rfl
  ·rw[aF e,Bm n (uI p q ts) (by unfold uI;simpa using hn),Es]
   have e1:(uI p q ts).map (·.2)=(ts.map (·.2)).map (·.map (FH p q)):=by
    unfold uI
    rw[iP,iP]
    rfl
   rw[e1,Et,List.countP_map]
   congr 1
   refine List.countP_congr fun c _=> ?_
   (try simp only[Function.comp])
   rw[M0,bJ,List.zip_cons_cons,PK]
   simp[e]
theorem FJ:∀(n:Nat)(l:List (Int×Int)),l.length=n->(l.map (·.1)).Nodup->(PK n l=true↔∃rk:Int->Nat,∀t,t∈l->t.2∈l.map (·.1)->rk t.2<rk t.1)
 |0,l,h,_=>by
  rw[qa.1 h]
  exact⟨fun _=>⟨fun _=>0,fun t ht=>by simp at ht⟩,fun _=>rfl⟩
 |n+1,(p,q)::l,h,hd=>by
  have hn:l.length=n:=by simpa using h
  rw[bJ,List.nodup_cons]at hd
  have ih:=FJ n (l.map fun t=>(t.1,FH p q t.2)) (by simpa using hn) (by rw[iP];exact hd.2)
  have nm:(l.map fun t=>(t.1,FH p q t.2)).map (·.1)=l.map (·.1):=by rw[iP];rfl
  rw[nm]at ih
  rw[PK,bK,ih]
  constructor
  ·rintro⟨hq,rk,H⟩
   have hq:¬q=p:=by simpa using hq
   refine⟨fun x=>if x=p then(if q∈l.map (·.1)then 2*rk q+3 else 1)else 2*rk x+2,fun t ht hm=> ?_⟩
   rcases aO.1 ht with rfl|ht
   ·show(if q=p then(if q∈l.map (·.1)then 2*rk q+3 else 1)else 2*rk q+2)<(if p=p then(if q∈l.map (·.1)then 2*rk q+3 else 1)else 2*rk p+2)
    have hm':q∈l.map (·.1):=by
     rw[bJ]at hm
     rcases aO.1 hm with e|e
     ·exact absurd e hq
     ·exact e
    rw[aF hq,aJ rfl,aJ hm']
    omega
   ·have tp:t.1≠p:=fun e=>hd.1 (e▸dN.2 ⟨t,ht,rfl⟩)
    show(if t.2=p then(if q∈l.map (·.1)then 2*rk q+3 else 1)else 2*rk t.2+2)<(if t.1=p then(if q∈l.map (·.1)then 2*rk q+3 else 1)else 2*rk t.1+2)
    rw[aF tp]
    have H':=H (t.1,FH p q t.2) (dN.2 ⟨t,ht,rfl⟩)
    (try simp only at H')
    by_cases e:t.2=p
    ·rw[aJ e]
     have er:FH p q t.2=q:=by unfold FH;rw[aJ e]
     rw[er]at H'
     by_cases c:q∈l.map (·.1)
     ·rw[aJ c];have:=H' c;omega
     ·rw[aF c];omega
    ·rw[aF e]
     have er:FH p q t.2=t.2:=by unfold FH;rw[aF e]
     rw[er]at H'
     rw[bJ]at hm
     rcases aO.1 hm with a|a
     ·exact absurd a e
     ·have:=H' a;omega
  ·rintro⟨rk,H⟩
   have H0:=H (p,q) (cE ..)
   (try simp only at H0)
   refine⟨?_,rk,fun t ht hm=> ?_⟩
   ·have:¬q=p:=fun e=>by
     have:=H0 (by rw[bJ,e];exact cE ..)
     rw[e]at this
     omega
    simpa using this
   ·obtain⟨u,hu,rfl⟩:=dN.1 ht
    (try simp only at hm⊢)
    have Hu:=H u (cK _ hu)
    rw[bJ]at H0 Hu
    by_cases e:u.2=p
    ·have er:FH p q u.2=q:=by unfold FH;rw[aJ e]
     rw[er]at hm⊢
     have h1:=Hu (by rw[e];exact cE ..)
     have h2:=H0 (cK _ hm)
     rw[e]at h1
     omega
    ·have er:FH p q u.2=u.2:=by unfold FH;rw[aF e]
     rw[er]at hm⊢
     exact Hu (cK _ hm)
def PL(f:Int->Int)(sink:Int)(n:Nat):Nat->Nat->Int->Option Nat
 |0,_,_=>none
 |r+1,m,a=>if a=sink then some m else if f a<0\/n<m then none else PL f sink n r (m+1) (f a)
def OO(g:aE)(rs:aH)(sink:Int):Nat->Option (aH)
 |0=>some []
 |i+1=>match OO g rs sink i with
  |none=>none
  |some l=>match PL (nx g rs) sink g.length (g.length+3) 0 i with
   |none=>none
   |some m=>some (l++[(m:Int)])
def IV(g:aE)(rs:aH)(sink:Int):Bool:=(OO g rs sink g.length).isSome
theorem IW{g:aE}{rs:aH}{sink:Int}{i:Nat}(h:OO g rs sink i=none):∀m,OO g rs sink (i+m)=none
 |0=>h
 |m+1=>by rw[<-kP,OO,IW h m]
theorem ZM{g:aE}{rs:aH}{sink:Int}{i n:Nat}(h:OO g rs sink i=none)(hi:i<=n):OO g rs sink n=none:=by
 have:=IW h (n-i)
 rwa [show i+(n-i)=n by omega]at this
theorem Vy{g:aE}{rs:aH}{sink:Int}(h:∀p:Nat,p<g.length->(PL (nx g rs) sink g.length (g.length+3) 0 p).isSome=true):IV g rs sink=true:=by
 have:∀i,i<=g.length->(OO g rs sink i).isSome=true:=by
  intro i
  induction i with
  |zero=>intro _;rfl
  |succ i ih=>
   intro hi
   have h1:=ih (by omega)
   have h2:=h i (by omega)
   rw[OO]
   cases h3:OO g rs sink i with
   |none=>rw[h3]at h1;cases h1
   |some l=>
    cases h4:PL (nx g rs) sink g.length (g.length+3) 0 i with
    |none=>rw[h4]at h2;cases h2
    |some m=>rfl
 exact this _ (aY _)
def IX(n:Nat):aH:=(List.range n).map fun i:Nat=>(i:Int)
def wZ(g:aE)(s:Int)(p:Nat):aH:=if(p:Int)=s\/(g.getD p []).length=0 then[0]else IX (g.getD p []).length
def uJ(g:aE)(s:Int):aE:=eQ ((List.range g.length).map (wZ g s))
def FK(g:aE)(s:Int):aE:=(uJ g s).filter fun rs=>IV g rs s
def jA(s:Int)(p:Nat):Bool:= !decide ((p:Int)=s)
theorem lU{s:Int}{p:Nat}:jA s p=true↔(p:Int)≠s:=by unfold jA;simp
theorem xd{s:Int}{p:Nat}(e:(p:Int)=s):¬jA s p=true:=fun h=>lU.1 h e
theorem IY(s:Int)(n:Nat):(((List.range n).filter (jA s)).map fun p:Nat=>(p:Int)).Nodup:=by
 unfold List.Nodup
 rw[List.pairwise_map]
 exact(List.Pairwise.filter _ List.nodup_range).imp fun h e=>h (by omega)
def ij(g:aE)(s:Int):Tn:=((List.range g.length).filter (jA s)).map fun p:Nat=>((p:Int),g.getD p [])
theorem xf{α:Type}:∀(cs:List (List α))(l:List α),l∈eQ cs↔l.length=cs.length/\∀i(h1:i<l.length)(h2:i<cs.length),l[i]∈cs[i]
 |[],l=>by
  rw[eQ,eO]
  constructor
  ·rintro rfl;exact⟨rfl,fun i h1=>absurd h1 (by simp)⟩
  ·rintro⟨h,_⟩;exact qa.1 h
 |c::cs,l=>by
  rw[eQ,List.mem_flatMap]
  constructor
  ·rintro⟨x,hx,hl⟩
   obtain⟨m,hm,rfl⟩:=dN.1 hl
   obtain⟨h1,h2⟩:=(xf cs m).1 hm
   refine⟨by simp[h1],fun i a b=> ?_⟩
   cases i with
   |zero=>exact hx
   |succ i=>exact h2 i (by simpa using a) (by simpa using b)
  ·rintro⟨h1,h2⟩
   cases l with
   |nil=>simp at h1
   |cons x m=>
    refine⟨x,h2 0 (by simp) (by simp),dN.2 ⟨m,(xf cs m).2 ⟨by simpa using h1,fun i a b=> ?_⟩,rfl⟩⟩
    exact h2 (i+1) (by simpa using a) (by simpa using b)
theorem Rk{n:Nat}{x:Int}:x∈IX n↔0<=x/\x<(n:Int):=by
 unfold IX
 rw[dN]
 constructor
 ·rintro⟨i,hi,rfl⟩
  rw[ko]at hi
  omega
 ·rintro⟨h0,h1⟩
  exact⟨x.toNat,ko.2 (by omega),by omega⟩
theorem Rl{g:aE}{s:Int}{rs:aH}(hg:aZ g=true){a:Int}(h0:0<=a)(h1:a<(g.length:Int))(h:rs∈uJ g s):iV g (rs,a)/\(0<=s->rs.getD s.toNat 0=0):=by
 obtain⟨e1,e2⟩:=(xf _ _).1 h
 rw[bB,gh]at e1
 have e3:∀i(h:i<rs.length),rs[i]∈wZ g s i:=fun i hi=>by
  have:=e2 i hi (by rw[bB,gh];omega)
  rw[bV,kO]at this
  exact this
 refine⟨⟨hg,e1,h0,h1,fun i hi jH=> ?_⟩,fun hs=> ?_⟩
 ·have:=e3 i hi
  unfold wZ at this
  rw[bH jH]at this
  (try simp only)
  split at this
  ·rw[eO]at this
   (try simp only at this)
   omega
  ·have:=Rk.1 this
   (try simp only at this)
   omega
 ·by_cases hh:s.toNat<rs.length
  ·have:=e3 s.toNat hh
   unfold wZ at this
   rw[aJ (.inl (by omega)),eO]at this
   rw[bA hh,this]
  ·rw[eG,List.getElem?_eq_none (by omega)];rfl
theorem Eu{g:aE}{rs:aH}{s p:Int}{n:Nat}:∀(r m j:Nat),(PL (nx g rs) s n r m (dZ g rs p j)).isSome=true->∃k,dZ g rs p k=s
 |0,m,j,h=>by rw[PL]at h;cases h
 |r+1,m,j,h=>by
  rw[PL]at h
  by_cases e:dZ g rs p j=s
  ·exact⟨j,e⟩
  ·rw[aF e]at h
   split at h
   ·cases h
   ·exact Eu r (m+1) (j+1) h
theorem Ev{g:aE}{rs:aH}{s p:Int}{n:Nat}(hs:0<=s):∀(k r m j:Nat),dZ g rs p (j+k)=s->m+k<=n+1->k<r->(PL (nx g rs) s n r m (dZ g rs p j)).isSome=true
 |k,0,m,j,_,_,h=>by omega
 |k,r+1,m,j,h,h1,h2=>by
  rw[PL]
  by_cases e:dZ g rs p j=s
  ·rw[aJ e];rfl
  ·rw[aF e]
   cases k with
   |zero=>exact absurd h e
   |succ k=>
    have h3:¬nx g rs (dZ g rs p j)<0:=fun hh=>by
     have:dZ g rs p (j+1)<0:=hh
     have:=iq (m:=j+(k+1)) this (by omega)
     omega
    rw[aF (by omega)]
    exact Ev hs k r (m+1) (j+1) (by rw[show j+1+k=j+(k+1) by omega];exact h) (by omega) (by omega)
theorem OP{g:aE}{rs:aH}{a s p:Int}(W:iV g (rs,a))(h0:0<=p)(h1:p<(g.length:Int))(hs:0<=s){k:Nat}(h:dZ g rs p k=s):∃m,m<g.length/\dZ g rs p m=s:=by
 by_cases hn:dZ g rs p g.length<0
 ·refine⟨k,Nat.not_le.1 fun hh=> ?_,h⟩
  have:=iq hn hh
  omega
 ·obtain⟨i,d,e1,e2,e3⟩:=vG W h0 h1 (by omega)
  by_cases hk:k<g.length
  ·exact⟨k,hk,h⟩
  ·have:=zO e3 (k-i)
   rw[show i+(k-i)=k by omega,h]at this
   have:=j9 (k-i) (show 0<d by omega)
   exact⟨i+(k-i)%d,by omega,by omega⟩
theorem Ew{g:aE}{rs:aH}{a s:Int}(W:iV g (rs,a))(hs:0<=s):IV g rs s=true↔∀p:Nat,p<g.length->∃k,dZ g rs p k=s:=by
 constructor
 ·intro h p hp
  have:(PL (nx g rs) s g.length (g.length+3) 0 (dZ g rs p 0)).isSome=true:=by
   show(PL (nx g rs) s g.length (g.length+3) 0 p).isSome=true
   cases hh:PL (nx g rs) s g.length (g.length+3) 0 p with
   |some m=>rfl
   |none=>
    exfalso
    have e1:OO g rs s (p+1)=none:=by
     rw[OO]
     cases OO g rs s p with
     |none=>rfl
     |some l=>(try simp only);rw[hh]
    unfold IV at h
    rw[ZM e1 (by omega)]at h
    cases h
  exact Eu _ _ _ this
 ·intro h
  refine Vy fun p hp=> ?_
  obtain⟨k,hk⟩:=h p hp
  obtain⟨m,hm,e⟩:=OP W (p:=(p:Int)) (by omega) (by omega) hs hk
  exact Ev (p:=(p:Int)) hs m _ 0 0 (by rw[iM];exact e) (by omega) (by omega)
def je(g:aE)(s:Int)(ps:List Nat)(rs:aH):List (Int×Int):=((ps.zip rs).filter fun t=>jA s t.1).map fun t=>((t.1:Int),(g.getD t.1 []).getD t.2.toNat 0)
theorem M4{g:aE}{s:Int}{p:Nat}(e:(p:Int)≠s)(r:Int)(ps:List Nat)(rs:aH):je g s (p::ps) (r::rs)=((p:Int),(g.getD p []).getD r.toNat 0)::je g s ps rs:=by
 unfold je
 rw[List.zip_cons_cons,rO (p:=fun t:Nat×Int=>jA s t.1) (a:=(p,r)) (lU.2 e),bJ]
theorem M5{g:aE}{s:Int}{p:Nat}(e:(p:Int)=s)(r:Int)(ps:List Nat)(rs:aH):je g s (p::ps) (r::rs)=je g s ps rs:=by
 unfold je
 rw[List.zip_cons_cons,qb (p:=fun t:Nat×Int=>jA s t.1) (a:=(p,r)) (xd e)]
theorem Vz(ex:aH):(IX ex.length).map (fun k=>ex.getD k.toNat 0)=ex:=by
 apply j8
 ·simp[IX]
 ·intro i h1 h2
  simp only[IX,bV,kO]
  rw[show((i:Nat):Int).toNat=i by omega,bA h2]
theorem Na(g:aE)(s:Int):∀ps:List Nat,(∀p,p∈ps->(p:Int)≠s->(g.getD p []).length≠0)->
 (eQ (ps.map (wZ g s))).map (fun rs=>(je g s ps rs).map (·.2))=eQ ((ps.filter (jA s)).map fun p:Nat=>g.getD p [])
 |[],_=>rfl
 |p::ps,h=>by
  have ih:=Na g s ps fun q hq=>h q (cK _ hq)
  rw[bJ,eQ,List.map_flatMap]
  by_cases e:(p:Int)=s
  ·have hc:wZ g s p=[0]:=by unfold wZ;rw[aJ (.inl e)]
   rw[hc,qb (xd e),<-ih,List.flatMap_cons,List.flatMap_nil,gK,iP]
   refine qM fun rs _=> ?_
   (try simp only[Function.comp])
   rw[M5 e]
  ·have hc:wZ g s p=IX (g.getD p []).length:=by
    unfold wZ
    rw[aF fun hh=>by
     rcases hh with hh|hh
     ·exact e hh
     ·exact h p (cE ..) e hh]
   rw[hc,rO (lU.2 e),bJ,eQ,<-ih]
   have:∀l:aH,(l.flatMap fun x=>((eQ (ps.map (wZ g s))).map (x:: ·)).map fun rs=>(je g s (p::ps) rs).map (·.2))=(l.map fun k=>(g.getD p []).getD k.toNat 0).flatMap fun x=>((eQ (ps.map (wZ g s))).map fun rs=>(je g s ps rs).map (·.2)).map (x:: ·):=by
    intro l
    rw[List.flatMap_map]
    congr 1
    funext x
    rw[iP,iP]
    refine qM fun rs _=> ?_
    (try simp only[Function.comp])
    rw[M4 e,bJ]
   rw[this,Vz]
theorem ta(g:aE)(s:Int):∀(ps:List Nat)(rs:aH),rs.length=ps.length->(je g s ps rs).map (·.1)=(ps.filter (jA s)).map fun p:Nat=>(p:Int)
 |[],rs,h=>by simp[je]
 |p::ps,[],h=>by simp at h
 |p::ps,r::rs,h=>by
  have ih:=ta g s ps rs (by simpa using h)
  by_cases e:(p:Int)=s
  ·rw[M5 e,qb (xd e)]
   exact ih
  ·rw[M4 e,rO (lU.2 e),bJ,bJ,ih]
theorem Nb{g:aE}{s:Int}{rs:aH}(h:rs.length=g.length){t:Int×Int}:t∈je g s (List.range g.length) rs↔∃p:Nat,p<g.length/\(p:Int)≠s/\t=((p:Int),(g.getD p []).getD (rs.getD p 0).toNat 0):=by
 unfold je
 rw[dN]
 constructor
 ·rintro⟨u,hu,rfl⟩
  rw[td]at hu
  obtain⟨i,hi,e⟩:=vE hu.1
  rw[List.length_zip,gh]at hi
  rw[List.getElem_zip,kO]at e
  have hir:i<rs.length:=by have:=Nat.min_le_right g.length rs.length;omega
  refine⟨i,by omega,?_,?_⟩
  ·have:=hu.2
   rw[<-e]at this
   exact lU.1 this
  ·rw[<-e]
   (try simp only)
   rw[bA hir]
 ·rintro⟨p,hp,fH,rfl⟩
  refine⟨(p,rs.getD p 0),td.2 ⟨?_,lU.2 fH⟩,rfl⟩
  have hz:p<((List.range g.length).zip rs).length:=by rw[List.length_zip,gh];omega
  have:=bI hz
  rw[List.getElem_zip,kO]at this
  rw[bA (by omega)]
  exact this
theorem OQ{g:aE}{rs:aH}{s p:Int}:∀k,dZ g rs p k=s->∃m,m<=k/\dZ g rs p m=s/\∀j,j<m->dZ g rs p j≠s:=by
 intro k
 induction k using Nat.strongRecOn with
 |ind k ih=>
  intro h
  by_cases hx:∃j,j<k/\dZ g rs p j=s
  ·obtain⟨j,a,b⟩:=hx
   obtain⟨m,m1,m2⟩:=ih j a b
   exact⟨m,by omega,m2⟩
  ·exact⟨k,aY _,h,fun j hj e=>hx ⟨j,hj,e⟩⟩
theorem Bo{g:aE}{rs:aH}(p:Int):∀k,dZ g rs (nx g rs p) k=dZ g rs p (k+1)
 |0=>rfl
 |k+1=>by rw[dZ,Bo p k];rfl
theorem VA{g:aE}{s a:Int}{rs:aH}(W:iV g (rs,a))(h0:0<=s)(h1:s<(g.length:Int))(fH:∀p:Nat,p<g.length->(p:Int)≠s->(g.getD p []).length≠0):
 PK (je g s (List.range g.length) rs).length (je g s (List.range g.length) rs)=IV g rs s:=by
 have hl:rs.length=g.length:=W.len
 have hn:(je g s (List.range g.length) rs).map (·.1)=((List.range g.length).filter (jA s)).map fun p:Nat=>(p:Int):=ta g s _ _ (by rw[gh];exact hl)
 have nd:((je g s (List.range g.length) rs).map (·.1)).Nodup:=by
  rw[hn]
  exact IY s _
 have nm:∀x:Int,x∈(je g s (List.range g.length) rs).map (·.1)↔0<=x/\x<(g.length:Int)/\x≠s:=fun x=>by
  rw[hn,dN]
  constructor
  ·rintro⟨p,hp,rfl⟩
   rw[td,ko]at hp
   have:=lU.1 hp.2
   omega
  ·rintro⟨a,b,c⟩
   exact⟨x.toNat,td.2 ⟨ko.2 (by omega),lU.2 (by omega)⟩,by omega⟩
 have nxe:∀p:Nat,p<g.length->(p:Int)≠s->(g.getD p []).getD (rs.getD p 0).toNat 0=nx g rs p/\0<=nx g rs p/\nx g rs p<(g.length:Int):=fun p hp oZ=>by
  have a1:=fH p hp oZ
  obtain⟨hr,hm,h2,e⟩:=zN W (p:=(p:Int)) (by omega) (by omega) (by rw[bH hp]at a1;exact a1)
  have hm':=(bL W.cN (bI (show(p:Int).toNat<g.length by omega))).2 _ (bI hm)
  refine⟨?_,by rw[e];omega,by rw[e];omega⟩
  unfold nx
  rw[aF (by omega),show((p:Nat):Int).toNat=p by omega,aF a1]
 rw[Bool.eq_iff_iff,FJ _ _ rfl nd,Ew W h0]
 constructor
 ·rintro⟨rk,H⟩
  have:∀(n:Nat)(p:Nat),p<g.length->rk p<n->∃k,dZ g rs p k=s:=by
   intro n
   induction n with
   |zero=>intro p _ h;omega
   |succ n ih=>
    intro p hp hk
    by_cases e:(p:Int)=s
    ·exact⟨0,e⟩
    ·obtain⟨x1,x2,x3⟩:=nxe p hp e
     by_cases e2:nx g rs p=s
     ·exact⟨1,e2⟩
     ·have:=H _ ((Nb hl).2 ⟨p,hp,e,rfl⟩) (by(try simp only);rw[x1];exact(nm _).2 ⟨x2,x3,e2⟩)
      (try simp only at this)
      rw[x1]at this
      obtain⟨k,Ue⟩:=ih (nx g rs p).toNat (by omega) (by rw[show(((nx g rs p).toNat:Nat):Int)=nx g rs p by omega];omega)
      rw[show(((nx g rs p).toNat:Nat):Int)=nx g rs p by omega,Bo]at Ue
      exact⟨k+1,Ue⟩
  exact fun p hp=>this _ p hp (pO _)
 ·intro H
  have hf:∀p:Int,∃m:Nat,0<=p->p<(g.length:Int)->dZ g rs p m=s/\∀j,j<m->dZ g rs p j≠s:=fun p=>by
   by_cases hp:0<=p/\p<(g.length:Int)
   ·obtain⟨k,hk⟩:=H p.toNat (by omega)
    rw[show((p.toNat:Nat):Int)=p by omega]at hk
    obtain⟨m,_,m2⟩:=OQ k hk
    exact⟨m,fun _ _=>m2⟩
   ·exact⟨0,fun a b=>absurd ⟨a,b⟩ hp⟩
  refine⟨fun p=>Classical.choose (hf p),fun t ht hm=> ?_⟩
  obtain⟨p,hp,oZ,rfl⟩:=(Nb hl).1 ht
  obtain⟨x1,x2,x3⟩:=nxe p hp oZ
  (try simp only at hm⊢)
  rw[x1]at hm⊢
  obtain⟨a1,a2⟩:=zA (hf (nx g rs p)) x2 x3
  obtain⟨b1,b2⟩:=zA (hf (p:Int)) (by omega) (by omega)
  revert a1 a2 b1 b2
  generalize Classical.choose (hf (nx g rs p))=u
  generalize Classical.choose (hf (p:Int))=v
  intro a1 a2 b1 b2
  cases v with
  |zero=>exact absurd b1 oZ
  |succ v=>
   rw[<-Bo]at b1
   refine Nat.not_le.1 fun hh=> ?_
   exact a2 v (by omega) b1
theorem prod_nil{α:Type}:∀cs:List (List α),[]∈cs->eQ cs=[]
 |[],h=>by simp at h
 |c::cs,h=>by
  rw[eQ]
  rcases aO.1 h with h|h
  ·rw[<-h];rfl
  ·rw[prod_nil cs h]
   simp
theorem IZ{g:aE}{s:Int}(hg:aZ g=true)(h0:0<=s)(h1:s<(g.length:Int)):((FK g s).length:Int)=dR (g.length-1) (j3 (ij g s)):=by
 have hl:(ij g s).length=g.length-1:=by
  unfold ij
  rw[bB]
  have:∀n:Nat,((List.range n).filter (jA s)).length=if s.toNat<n then n-1 else n:=by
   intro n
   induction n with
   |zero=>rfl
   |succ n ih=>
    rw[pY,xg,bT,ih]
    by_cases e:(n:Int)=s
    ·rw[qb (xd e),aF (by omega),aJ (by omega)];simp
    ·rw[rO (lU.2 e)]
     by_cases c:s.toNat<n
     ·rw[aJ c,aJ (by omega)];simp;omega
     ·rw[aF c,aF (by omega)];simp
  rw[this,aJ (by omega)]
 have nd:((ij g s).map (·.1)).Nodup:=by
  unfold ij
  rw[iP]
  exact IY s _
 rw[FI _ _ hl nd,Bm _ _ hl]
 congr 1
 unfold FK
 rw[<-List.countP_eq_length_filter]
 have ex:(ij g s).map (·.2)=((List.range g.length).filter (jA s)).map fun p:Nat=>g.getD p []:=by
  unfold ij
  rw[iP]
  rfl
 have en:(ij g s).map (·.1)=((List.range g.length).filter (jA s)).map fun p:Nat=>(p:Int):=by
  unfold ij
  rw[iP]
  rfl
 by_cases fH:∀p:Nat,p<g.length->(p:Int)≠s->(g.getD p []).length≠0
 ·rw[ex,<-Na g s (List.range g.length) fun p hp=>fH p (ko.1 hp),List.countP_map]
  show(uJ g s).countP _=(uJ g s).countP _
  refine List.countP_congr fun rs VC=> ?_
  (try simp only[Function.comp])
  have W:=(Rl (a:=s) hg h0 h1 VC).1
  have hrl:rs.length=g.length:=W.len
  rw[en,<-ta g s (List.range g.length) rs (by rw[gh];exact hrl)]
  have hz:((je g s (List.range g.length) rs).map (·.1)).zip ((je g s (List.range g.length) rs).map (·.2))=je g s (List.range g.length) rs:=by
   generalize je g s (List.range g.length) rs=l
   induction l with
   |nil=>rfl
   |cons a l ih=>rw[bJ,bJ,List.zip_cons_cons,ih]
  have hlen:(je g s (List.range g.length) rs).length=g.length-1:=by
   have:=congrArg List.length (ta g s (List.range g.length) rs (by rw[gh];exact hrl))
   rw[bB]at this
   rw[this,<-en,bB,hl]
  rw[hz,<-hlen,VA W h0 h1 fH]
 ·have:∃p:Nat,p<g.length/\(p:Int)≠s/\(g.getD p []).length=0:=by
   refine Classical.byContradiction fun hh=>fH fun p hp oZ hz=>hh ⟨p,hp,oZ,hz⟩
  obtain⟨p,hp,oZ,hz⟩:=this
  have e1:eQ ((ij g s).map (·.2))=[]:=by
   refine prod_nil _ ?_
   rw[ex,dN]
   exact⟨p,td.2 ⟨ko.2 hp,lU.2 oZ⟩,qa.1 hz⟩
  rw[e1,List.countP_nil,List.countP_eq_zero]
  intro rs VC hh
  have W:=(Rl (a:=s) hg h0 h1 VC).1
  obtain⟨k,hk⟩:=(Ew W h0).1 hh p hp
  cases k with
  |zero=>exact oZ hk
  |succ k=>
   have:dZ g rs p 1<0:=by
    show nx g rs p<0
    unfold nx
    rw[aF (by omega),show((p:Nat):Int).toNat=p by omega,aJ hz]
    omega
   have:=iq this (show 1<=k+1 by omega)
   omega
def Way(g:aE)(p:Int):Nat->Int->Prop
 |0,q=>p=q
 |k+1,q=>∃x,Way g p k x/\q∈g.getD x.toNat []
theorem Way.rng{g:aE}(hg:aZ g=true){p:Int}(h0:0<=p)(h1:p<(g.length:Int)):∀{k:Nat}{q:Int},Way g p k q->0<=q/\q<(g.length:Int)
 |0,q,h=>by rw[<-show p=q from h];exact⟨h0,h1⟩
 |k+1,q,h=>by
  obtain⟨x,hx,hq⟩:=h
  have hr:=Way.rng hg h0 h1 hx
  rw[bH (by omega)]at hq
  exact(bL hg (bI (show x.toNat<g.length by omega))).2 q hq
theorem nc{l:aH}{i j:Nat}{v:Int}(hi:i<l.length):(l.set i v).getD j 0=if i=j then v else l.getD j 0:=by
 rw[eG,tf,eG]
 by_cases h:i=j
 ·subst h;simp[hi]
 ·simp[h]
structure BIn(x:Int)(qs eB:aH)(fk new:aH):Prop where
 len:fk.length=eB.length
 vk:∀y:Nat,0<=eB.getD y 0->fk.getD y 0=eB.getD y 0
 ZN:∀y:Nat,eB.getD y 0<0->fk.getD y 0=eB.getD y 0\/fk.getD y 0=eB.getD x.toNat 0+1/\(y:Int)∈qs/\(y:Int)∈new
 met:∀y,y∈qs->0<=fk.getD y.toNat 0
 nw:∀z,z∈new->z∈qs/\fk.getD z.toNat 0=eB.getD x.toNat 0+1
 cnt:new.length+kF fk=kF eB
theorem uK(x:Int):∀(qs eB out:aH),(∀q,q∈qs->0<=q/\q<(eB.length:Int))->0<=eB.getD x.toNat 0->∃fk new,nS x qs (eB,out)=(fk,out++new)/\BIn x qs eB fk new
 |[],eB,out,_,_=>⟨eB,[],by rw[nS,gK],rfl,fun _ _=>rfl,fun _ _=> .inl rfl,fun y hy=>by simp at hy,fun z hz=>by simp at hz,by simp⟩
 |q::qs,eB,out,hr,hx=>by
  have hq:=hr q cE
  rw[nS]
  by_cases hn:eB.getD q.toNat 0<0
  ·rw[aJ hn]
   simp only
   have hqx:q.toNat≠x.toNat:=fun e=>by rw[e]at hn;omega
   have gx:(eB.set q.toNat (eB.getD x.toNat 0+1)).getD x.toNat 0=eB.getD x.toNat 0:=by rw[nc (by omega),aF hqx]
   obtain⟨fk,new,e,B⟩:=uK x qs (eB.set q.toNat (eB.getD x.toNat 0+1)) (out++[q]) (fun r h=>by rw[bY];exact hr r (cK _ h)) (by rw[gx];exact hx)
   have hc:=Bg (l:=eB) (i:=q.toNat) (v:=eB.getD x.toNat 0+1) (by omega) (by rw[<-bA (by omega)];exact hn) (by omega)
   have hqf:fk.getD q.toNat 0=eB.getD x.toNat 0+1:=by
    have:=B.vk q.toNat (by rw[nc (by omega),aJ rfl];omega)
    rw[this,nc (by omega),aJ rfl]
   refine⟨fk,q::new,by rw[e,gu];rfl,by rw[B.len,bY],fun y hy=> ?_,fun y hy=> ?_,fun y hy=> ?_,fun z hz=> ?_,by have:=B.cnt;simp only[List.length_cons];omega⟩
   ·have fH:q.toNat≠y:=fun e=>by rw[e]at hn;omega
    have:=B.vk y (by rw[nc (by omega),aF fH];exact hy)
    rw[this,nc (by omega),aF fH]
   ·by_cases fH:q.toNat=y
    ·subst fH
     refine .inr ⟨hqf,?_,?_⟩<;>rw[show((q.toNat:Nat):Int)=q by omega]<;>exact cE
    ·have g1:(eB.set q.toNat (eB.getD x.toNat 0+1)).getD y 0=eB.getD y 0:=by rw[nc (by omega),aF fH]
     rcases B.ZN y (by rw[g1];exact hy)with h|⟨h1,h2,h3⟩
     ·exact .inl (h.trans g1)
     ·exact .inr ⟨by rw[h1,gx],cK _ h2,cK _ h3⟩
   ·rcases aO.1 hy with rfl|hy
    ·rw[hqf];omega
    ·exact B.met y hy
   ·rcases aO.1 hz with rfl|hz
    ·exact⟨cE,hqf⟩
    ·have:=B.nw z hz
     exact⟨cK _ this.1,by rw[this.2,gx]⟩
  ·rw[aF hn]
   obtain⟨fk,new,e,B⟩:=uK x qs eB out (fun r h=>hr r (cK _ h)) hx
   refine⟨fk,new,e,B.len,B.vk,fun y hy=> ?_,fun y hy=> ?_,fun z hz=>⟨cK _ (B.nw z hz).1,(B.nw z hz).2⟩,B.cnt⟩
   ·rcases B.ZN y hy with h|⟨h1,h2,h3⟩
    ·exact .inl h
    ·exact .inr ⟨h1,cK _ h2,h3⟩
   ·rcases aO.1 hy with rfl|hy
    ·rw[B.vk _ (by omega)];omega
    ·exact B.met y hy
structure BQ(g:aE)(p:Int)(eB qu:aH):Prop where
 len:eB.length=g.length
 way:∀y:Nat,y<g.length->0<=eB.getD y 0->Way g p (eB.getD y 0).toNat y
 lo:∀y:Nat,-1<=eB.getD y 0
 qin:∀x,x∈qu->0<=x/\x<(g.length:Int)/\0<=eB.getD x.toNat 0
 ord:qu.Pairwise fun a b=>eB.getD a.toNat 0<=eB.getD b.toNat 0
 top:∀x r,qu=x::r->∀y:Nat,y<g.length->eB.getD y 0<=eB.getD x.toNat 0+1
 done:∀x:Nat,x<g.length->0<=eB.getD x 0->(x:Int)∈qu\/∀y,y∈g.getD x []->0<=eB.getD y.toNat 0/\eB.getD y.toNat 0<=eB.getD x 0+1
 home:eB.getD p.toNat 0=0
 hi:∀y:Nat,y<g.length->eB.getD y 0+kF eB<g.length
theorem I3{g:aE}(hg:aZ g=true){p:Int}:∀(f:Nat)(eB qu:aH),BQ g p eB qu->qu.length+kF eB<=f->BQ g p (FE g f eB qu) []
 |0,eB,qu,B,h=>by
  have:qu=[]:=pJ (by omega)
  subst this
  exact B
 |f+1,eB,[],B,h=>B
 |f+1,eB,x::rest,B,h=>by
  have hx:=B.qin x cE
  have PI:x.toNat<g.length:=by omega
  have hq:∀q,q∈g.getD x.toNat []->0<=q/\q<(eB.length:Int):=fun q hq=>by
   rw[bH PI]at hq
   rw[B.len]
   exact(bL hg (bI PI)).2 q hq
  obtain⟨fk,new,e,C⟩:=uK x (g.getD x.toNat []) eB [] hq hx.2.2
  rw[FE,e]
  simp only[List.nil_append]
  have gx:fk.getD x.toNat 0=eB.getD x.toNat 0:=C.vk _ hx.2.2
  have api:∀y:Nat,0<=eB.getD y 0->fk.getD y 0=eB.getD y 0:=C.vk
  have hle:∀y:Nat,y<g.length->fk.getD y 0<=eB.getD x.toNat 0+1:=fun y hy=>by
   by_cases h0:0<=eB.getD y 0
   ·rw[C.vk y h0];exact B.top x rest rfl y hy
   ·rcases C.ZN y (by omega)with h|⟨h,_⟩
    ·rw[h];omega
    ·omega
  have I4:∀z,z∈rest->fk.getD z.toNat 0=eB.getD z.toNat 0:=fun z hz=>C.vk _ (B.qin z (cK _ hz)).2.2
  obtain⟨o1,o2⟩:=List.pairwise_cons.1 B.ord
  refine I3 hg f fk (rest++new) ⟨by rw[C.len,B.len],fun y hy h0=> ?_,fun y=> ?_,fun z hz=> ?_,?_,fun z r hz y hy=> ?_,fun y hy h0=> ?_,?_,fun y hy=> ?_⟩ ?_
  ·by_cases h1:0<=eB.getD y 0
   ·rw[C.vk y h1];exact B.way y hy h1
   ·rcases C.ZN y (by omega)with h|⟨h,h2,_⟩
    ·rw[h]at h0;omega
    ·rw[h,show(eB.getD x.toNat 0+1).toNat=(eB.getD x.toNat 0).toNat+1 by omega]
     refine⟨x,?_,h2⟩
     have:=B.way x.toNat PI hx.2.2
     rwa [show((x.toNat:Nat):Int)=x by omega]at this
  ·by_cases h1:0<=eB.getD y 0
   ·rw[C.vk y h1];omega
   ·have:=B.lo y
    rcases C.ZN y (by omega)with h|⟨h,_⟩<;>omega
  ·rcases gG.1 hz with hz|hz
   ·have:=B.qin z (cK _ hz)
    exact⟨this.1,this.2.1,by rw[I4 z hz];exact this.2.2⟩
   ·have a:=C.nw z hz
    have b:=hq z a.1
    rw[B.len]at b
    exact⟨b.1,b.2,by rw[a.2];omega⟩
  ·rw[List.pairwise_append]
   refine⟨o2.imp_of_mem fun{a b} ha hb hab=>by rw[I4 a ha,I4 b hb];exact hab,?_,fun a ha b hb=> ?_⟩
   ·rw[E9]
    intro i j hi hj _
    rw[(C.nw _ (bI hi)).2,(C.nw _ (bI hj)).2]
    omega
   ·rw[I4 a ha,(C.nw b hb).2]
    have:=B.qin a (cK _ ha)
    exact B.top x rest rfl a.toNat (by omega)
  ·have hz1:eB.getD x.toNat 0<=fk.getD z.toNat 0:=by
    have hzm:z∈rest++new:=by rw[hz];exact cE
    rcases gG.1 hzm with h|h
    ·rw[I4 z h];exact o1 z h
    ·rw[(C.nw z h).2];omega
   have:=hle y hy
   omega
  ·by_cases hyx:(y:Int)=x
   ·refine .inr fun z hz=> ?_
    have amI:y=x.toNat:=by omega
    rw[amI]at hz⊢
    have:=hq z hz
    rw[B.len]at this
    exact⟨C.met z hz,by rw[gx];exact hle z.toNat (by omega)⟩
   ·by_cases h1:0<=eB.getD y 0
    ·rcases B.done y hy h1 with h|h
     ·rcases aO.1 h with h|h
      ·exact absurd h hyx
      ·exact .inl (gG.2 (.inl h))
     ·refine .inr fun z hz=> ?_
      obtain⟨a,b⟩:=h z hz
      rw[C.vk _ a,C.vk _ h1]
      exact⟨a,b⟩
    ·rcases C.ZN y (by omega)with h|⟨_,_,h⟩
     ·rw[h]at h0;omega
     ·exact .inl (gG.2 (.inr h))
  ·rw[C.vk _ (by rw[B.home];omega)];exact B.home
  ·have hc:=C.cnt
   by_cases h1:0<=eB.getD y 0
   ·rw[C.vk y h1];have:=B.hi y hy;omega
   ·rcases C.ZN y (by omega)with h|⟨h,_,h3⟩
    ·rw[h];have:=B.hi y hy;omega
    ·have:=List.length_pos_of_mem h3
     have:=B.hi x.toNat PI
     rw[h];omega
  ·have:=C.cnt
   simp only[List.length_cons,bT]at*
   omega
theorem K6{g:aE}(hg:aZ g=true){p:Int}(h0:0<=p)(h1:p<(g.length:Int)):BQ g p (iS g p) []:=by
 obtain⟨b1,b2⟩:=ZC (n:=g.length) (p:=p.toNat) (by omega)
 have gd:∀y:Nat,((List.replicate g.length (-1:Int)).set p.toNat 0).getD y 0=if p.toNat=y then 0 else if y<g.length then-1 else 0:=fun y=>by
  rw[nc (by simp;omega)]
  split
  ·rfl
  ·rw[eG,List.getElem?_replicate];split<;>rfl
 refine I3 hg g.length _ [p] ⟨by simp,fun y hy h=> ?_,fun y=> ?_,fun x hx=> ?_,by simp,fun x r hx y hy=> ?_,fun x hx h=> ?_,?_,fun y hy=> ?_⟩ (by simp only[List.length_cons,List.length_nil];omega)
 ·rw[gd]at h⊢
  split at h
  ·rename_i e
   rw[aJ e]
   show p=(y:Int)
   omega
  ·simp at h
 ·rw[gd];split
  ·omega
  ·split<;>omega
 ·simp only[aO,aS,aN]at hx
  subst hx
  exact⟨h0,h1,by rw[gd,aJ rfl];omega⟩
 ·simp only[rA]at hx
  rw[<-hx.1,gd,gd,aJ rfl]
  split
  ·omega
  ·(try split)<;>omega
 ·rw[gd]at h
  split at h
  ·exact .inl (by simp;omega)
  ·simp at h
 ·rw[gd,aJ rfl]
 ·rw[gd]
  split
  ·omega
  ·(try split)<;>omega
theorem K7{g:aE}(hg:aZ g=true){p:Int}(h0:0<=p)(h1:p<(g.length:Int)):∀{k:Nat}{q:Int},Way g p k q->0<=(iS g p).getD q.toNat 0/\(iS g p).getD q.toNat 0<=k
 |0,q,h=>by rw[<-show p=q from h,(K6 hg h0 h1).home];omega
 |k+1,q,h=>by
  obtain⟨x,hx,hq⟩:=h
  obtain⟨a,b⟩:=K7 hg h0 h1 hx
  have hr:=hx.rng hg h0 h1
  rcases(K6 hg h0 h1).done x.toNat (by omega) a with c|c
  ·simp at c
  ·have:=c q hq
   omega
theorem zU{g:aE}(hg:aZ g=true){p q:Int}(h0:0<=p)(h1:p<(g.length:Int))(q0:0<=q)(q1:q<(g.length:Int))(h:0<=(iS g p).getD q.toNat 0):Way g p ((iS g p).getD q.toNat 0).toNat q:=by
 have:=(K6 hg h0 h1).way q.toNat (by omega) h
 rwa [show((q.toNat:Nat):Int)=q by omega]at this
@[reducible] def Uf:TypeId:=52
theorem OR:qF aB Uf=some (9,1,16,[VS (⟨#[]⟩:ByteArray)]):=by kernel_rfl
theorem VD(xs:List ByteArray):(xs.map VS).all gQ=true:=by simp[j6,gQ]
@[reducible] def C8(h:Heap)(F:aK)(s:Sl)(xs:List ByteArray):Prop:=Ow h F 9 1 s (xs.map VS)
theorem K8(g o j:Nat):(⟨g,o,none⟩:Addr).add j=⟨g,o+j,none⟩:=by
 unfold Addr.add
 by_cases h:j=0<;>simp[h]
theorem Nc(w:World)(a:Addr):w.cell? a=bG w.heap a:=rfl
theorem gj(a b:List UInt8):((⟨a.toArray⟩:ByteArray)++(⟨b.toArray⟩:ByteArray))=⟨(a++b).toArray⟩:=by
 apply ByteArray.ext
 simp[ByteArray.data_append]
theorem cT(a:List UInt8):(⟨a.toArray⟩:ByteArray).size=a.length:=by simp[ByteArray.size]
theorem vK{n:Nat}(h:n<100):(Lib.decDigits n).length<=2:=by
 by_cases h1:n<10
 ·rw[Lib.decDigits_one h1];simp
 ·rw[Lib.decDigits_two h1 h];simp
theorem Bp:∀(xs:List (List UInt8)),(∀x,x∈xs->x.length<=2)->(Lib.join xs [44]).length<=3*xs.length
 |[],_=>by simp[Lib.join_nil]
 |x::r,h=>by
  rw[Lib.join_length]
  have:∀(l:List (List UInt8)),(∀x,x∈l->x.length<=2)->Lib.lens l<=2*l.length:=by
   intro l
   induction l with
   |nil=>intro _;simp[Lib.lens]
   |cons a l ih=>
    intro hl
    have h1:=ih fun y hy=>hl y (cK _ hy)
    have h2:=hl a (cE ..)
    simp only[Lib.lens,bJ,List.sum_cons,List.length_cons]at h1⊢
    omega
  have:=this _ h
  simp only[List.length_cons,List.length_nil]at this⊢
  omega
def fx(rs:aH):List UInt8:=if rs.length=0 then[45]else Lib.join (rs.map fun x=>Lib.decDigits x.toNat) [44]
theorem xi{rs:aH}(h:∀x,x∈rs->0<=x/\x<100):(fx rs).length<=3*rs.length+1:=by
 unfold fx
 split
 ·simp
 ·have:=Bp (rs.map fun x=>Lib.decDigits x.toNat) fun y hy=>by
   obtain⟨x,hx,rfl⟩:=dN.1 hy
   exact vK (by have:=h x hx;omega)
  rw[bB]at this
  omega
theorem Rm{h:Heap}{n:Int}(h0:0<=n)(h1:n<100)(K:aL)(HK:K (VS ⟨(Lib.decDigits n.toNat).toArray⟩) h):aG aB 92 #[VI n] h K:=by
 obtain⟨i,rfl⟩:∃i:Nat,n=(i:Int):=⟨n.toNat,by omega⟩
 refine⟨fun w hw=> .inr ⟨92,_,w,Go.Proofs.enters_of Tryz.func92 (by kernel_rfl) rfl _ _,rfl,?_⟩⟩
 subst hw
 refine(Tryz.strconv_Itoa_small i (by omega) w).mono ?_
 rintro e w' ⟨rfl,rfl⟩
 rw[Int.toNat_natCast]at HK
 exact⟨_,rfl,dV.refl _,HK⟩
theorem K9{S:aK}{h:Heap}{s:Sl}{ts:List ByteArray}{sep:ByteArray}(H:dK S h 1 s (ts.map VS))(fH:ts≠[])(hN:ts.length<=1000000)(hl:(Lib.join (ts.map (·.data.toList)) sep.data.toList).length<=1000000)(K:aL)(HK:∀h',Fr No h h'->K (VS ⟨(Lib.join (ts.map (·.data.toList)) sep.data.toList).toArray⟩) h'):aG aB 90 #[s.v,VS sep] h K:=by
 refine⟨fun w hw=> .inr ⟨90,_,w,Go.Proofs.enters_of Tryz.func90 (by kernel_rfl) rfl _ _,rfl,?_⟩⟩
 subst hw
 have hlen:=H.len
 simp only[bB,fE]at hlen
 have U8:=H.cap
 have amJ:0<ts.length:=wX.2 fH
 obtain⟨a,ha,_,hc⟩:=dK.cell H 0 (by simpa using amJ)
 have P9:a.spot=none:=by
  cases hs:a.spot with
  |none=>rfl
  |some sp=>exfalso;unfold bG at hc;simp[Addr.add,hs]at hc;split at hc<;>simp at hc
 obtain⟨g,o,q⟩:=a
 simp only at P9
 subst P9
 have hv:s.v= .slice (some ⟨g,o,none⟩) ts.length s.c:=by unfold Sl.v;rw[ha,hlen]
 rw[hv]
 refine(Tryz.strings_Join g o s.c ts sep w (fun j x hj=> ?_) ?_ (by omega) (by omega) (by omega)).mono ?_
 ·have KY:j<ts.length:=(AJ.1 hj).1
  obtain⟨a',Og,_,TT⟩:=dK.cell H j (by simp;omega)
  rw[ha]at Og
  cases Og
  rw[K8]at TT
  rw[Nc,TT]
  rw[dT KY]at hj
  simp only[dD]at hj
  simp[hj]
 ·have:=oK hc;rw[oL]at this;exact this
 ·rintro e w' ⟨rfl,hb⟩
  exact⟨_,rfl,⟨hb.os,hb.tape,hb.output⟩,HK _ ⟨hb.size,fun k hk _=>hb.block k hk⟩⟩
theorem pc{L:List (Nat×List Value)}{F:aK}{h:Heap}{o:Sl}{xs:List ByteArray}{x:ByteArray}(O:C8 h F o xs)(hF:∀k,h.size<=k->F k)(hL:Vars h L)(nF:∀p,p∈L->¬F p.1)(hb:xs.length<=1000000)(R:Sl->Heap->Prop)(HR:∀t h',C8 h' F t (xs++[x])->Fr F h h'->Vars h' L->R t h'):j5 aB (Instr.buildSlice Uf 1 #[(0,VS x)]) h fun rv h1=>∃t:Sl,rv=t.v/\Vars h1 L/\j5 aB (cD Uf Uf Uf o.v t.v) h1 fun Bb h2=>∃t2:Sl,Bb=t2.v/\Vars h2 L/\R t2 h2:=by
 refine bC OR (fun k=>h.size<=k) (fun _ h=>h) 1 (by omega) [VS x] rfl rfl fun t h1 n1 c1 o1 f1 m1 _=>⟨t,rfl,hL.aC f1,?_⟩
 have z1:=f1.size
 have O1:C8 h1 F o xs:=Ow.no O f1
 have on:=O1.rd.len
 have tn:=o1.rd.len
 simp only[bB,fE,List.length_cons,List.length_nil]at on tn
 refine cV OR O1 (fun k hk=>hF k (by omega)) o1.rd (VD [x]) (by omega) fun s' h2 n2 o2 f2 d2=> ?_
 have g2:Fr F h1 h2:=f2.mono fun k _ hk=>(O1.aR hk).1
 have V2:Vars h2 L:=(hL.aC f1).fr g2 nF
 exact⟨s',rfl,V2,HR s' h2 (by rw[C8,cQ];exact o2) (f1.aC.trans g2) V2⟩
theorem Bq{S:aK}{h:Heap}{s:Sl}{rs:aH}(H:bE S h s rs)(B:∀x,x∈rs->0<=x/\x<100)(hn:rs.length<=1000)(K:aL)(HK:∀h',Fr No h h'->K (VS ⟨(fx rs).toArray⟩) h'):aG aB 89 #[s.v] h K:=by
 have sn:=bE.len H
 refine v89 s h K ⟨fun e=> ?_,fun e=> ?_⟩
 ·simp only[aT]at e
  have:=HK h (Fr.refl _ _)
  unfold fx at this
  rw[aJ (by omega)]at this
  exact this
 simp only[aW]at e
 refine bC OR (fun k=>h.size<=k) (fun _ h=>h) 0 (by omega) [] rfl rfl fun o h1 n1 c1 o1 f1 m1 _=>⟨o,rfl,.nil,?_⟩
 have z1:=f1.size
 have Vd:C8 h1 (fun k=>h.size<=k) o []:=o1
 have yP:∀{x:Heap},Fr (fun k=>h.size<=k) h x->Fr No h x:=fun f=>f.mono fun k hk aQ=>absurd aQ (by omega)
 refine⟨fun m x p h'=>0<=p/\p+m=(rs.length:Int)/\C8 h' (fun k=>h.size<=k) x ((rs.take p.toNat).map fun y=>(⟨(Lib.decDigits y.toNat).toArray⟩:ByteArray))/\Fr (fun k=>h.size<=k) h h',⟨rs.length,by omega,by omega,by simpa using Vd,f1.aC⟩,?_⟩
 rintro m x p h2 ⟨p0,p1,o2,f2⟩ cR
 have z2:=f2.size
 have H2:=H.no (yP f2)
 refine⟨fun e2=> ?_,fun e2=> ?_⟩
 ·have hp:=H2.lt e2
  have bx:=B _ (bI (show p.toNat<rs.length by omega))
  refine⟨H2.bQ p0 hp,_,H2.get p0 hp,Rm bx.1 bx.2 _ ⟨_,rfl,.nil,?_⟩⟩
  refine pc o2 (fun k hk=>by omega) .nil (fun q hq=>by cases hq) (by simp;omega) _ fun t h5 o5 f5 _=> ?_
  rw[H2.succ p0 hp]
  refine⟨m-1,by omega,by omega,by omega,?_,f2.trans f5⟩
  rw[show(p+1).toNat=p.toNat+1 by omega,vL,dT (show p.toNat<rs.length by omega)]
  rw[cQ]
  exact o5
 ·have hp:=H2.ge e2
  rw[cW (by omega)]at o2
  have hm:((rs.map fun y=>(⟨(Lib.decDigits y.toNat).toArray⟩:ByteArray)).map (·.data.toList))=rs.map fun y=>Lib.decDigits y.toNat:=by simp
  have ZA:=Bp (rs.map fun x=>Lib.decDigits x.toNat) fun y hy=>by
   obtain⟨x,hx,rfl⟩:=dN.1 hy
   exact vK (by have:=B x hx;omega)
  rw[bB]at ZA
  refine K9 o2.fW (fun hh=>by have:=congrArg List.length hh;simp at this;simp[this]at sn;omega) (by simp;omega) (by rw[hm];show(Lib.join _ [44]).length<=_;omega) _ fun h3 f3=>⟨_,rfl,.nil,?_⟩
  have:=HK h3 ((yP f2).trans f3)
  unfold fx at this
  rw[aF (by omega)]at this
  rw[hm]
  exact this
theorem VE:qF aB 22=some (5,1,1,[.int .u8 0]):=by kernel_rfl
theorem rP{F:aK}{h:Heap}{s:Sl}{x:Int}{bs:List UInt8}(H:dK F h 1 s [Value.int .u8 x])(hb:(strOfNums [x])=⟨bs.toArray⟩){K:Value->Prop}(HK:K (VS ⟨bs.toArray⟩)):Da aB (convert 22 9 s.v) h K:=by
 have hlen:=H.len
 simp only[List.length_cons,List.length_nil,fE]at hlen
 obtain⟨a,ha,_,hc⟩:=dK.cell H 0 (by simp)
 have P9:a.spot=none:=by
  cases hs:a.spot with
  |none=>rfl
  |some sp=>exfalso;unfold bG at hc;simp[Addr.add,hs]at hc;split at hc<;>simp at hc
 obtain⟨g,o,q⟩:=a
 simp only at P9
 subst P9
 have hv:s.v= .slice (some ⟨g,o,none⟩) 1 s.c:=by unfold Sl.v;rw[ha,<-hlen]
 refine⟨_,fun w hw=> ?_,HK⟩
 subst hw
 rw[hv,run_convert_bytes_arg w 22 5 (by kernel_rfl) (by kernel_rfl) g o 1 s.c [x] rfl (fun i hi=>by
  have:i=0:=by omega
  subst this
  rw[K8]at hc
  rw[Nc,hc]
  rfl) 9 (by kernel_rfl),hb]
theorem Nd{h:Heap}{n:Int}(h0:0<=n)(h1:n<10)(K:aL)(HK:∀h',Fr No h h'->K (VS ⟨(Lib.decDigits n.toNat).toArray⟩) h'):aG aB 73 #[VI n] h K:=by
 refine v73 n h K ⟨fun e=> ?_,fun e=> ?_⟩
 ·rw[aP _ (by omega) (by omega)]
  refine jy (show Tryz.prog.underlying _=some (.int .i64)from by kernel_rfl) (show Tryz.prog.underlying _=some (.int .u8)from by kernel_rfl) (48+n) ⟨48+n,?_,?_⟩
  ·show Value.int .u8 (IntKind.u8.wrap (48+n))=_
   have:IntKind.u8.wrap (48+n)=48+n:=by
    show(48+n)%256=48+n
    omega
   rw[this]
  refine bC VE (fun k=>h.size<=k) (fun _ h=>h) 1 (by omega) [.int .u8 (48+n)] rfl rfl fun w h6 n6 c6 o6 f6 m6 _=>⟨w,rfl,.nil,?_⟩
  refine rP (bs:=Lib.decDigits n.toNat) o6.fW ?_ ⟨_,rfl,HK h6 f6⟩
  rw[Lib.decDigits_one (show n.toNat<10 by omega)]
  apply ByteArray.ext
  apply Array.toList_inj.1
  rw[strOfNums_data]
  simp only[bJ,jb,rA,and_true]
  have:(48+n).toNat=48+n.toNat:=by omega
  rw[this]
 ·simp only[aW]at e
  omega
theorem uL(c:UInt8):∀(xs:List (List UInt8)),(∀x,x∈xs->x.length<=40)->(Lib.join xs [c]).length<=41*xs.length
 |[],_=>by simp[Lib.join_nil]
 |x::r,h=>by
  rw[Lib.join_length]
  have:∀(l:List (List UInt8)),(∀x,x∈l->x.length<=40)->Lib.lens l<=40*l.length:=by
   intro l
   induction l with
   |nil=>intro _;simp[Lib.lens]
   |cons a l ih=>
    intro hl
    have h1:=ih fun y hy=>hl y (cK _ hy)
    have h2:=hl a (cE ..)
    simp only[Lib.lens,bJ,List.sum_cons,List.length_cons]at h1⊢
    omega
  have:=this _ h
  simp only[List.length_cons,List.length_nil]at this⊢
  omega
theorem OS(xs:List (List UInt8))(y sep:List UInt8):Lib.join (xs++[y]) sep=Lib.join xs sep++(if xs.length=0 then[]else sep)++y:=by
 cases xs with
 |nil=>simp[Lib.join_nil,Lib.join_one]
 |cons x r=>
  rw[List.cons_append,Lib.join_cons,Lib.join_cons]
  simp[Lib.joinTail]
theorem xj{α:Type}(f:α->List UInt8)(sep:List UInt8){xs:List α}{i:Nat}(hi:i<xs.length):Lib.join ((xs.take (i+1)).map f) sep=Lib.join ((xs.take i).map f) sep++(if i=0 then[]else sep)++f xs[i]:=by
 rw[vL,dT hi,Option.toList_some,cQ,bJ,jb,OS]
 congr 2
 simp only[bB,fD]
 by_cases h:i=0
 ·simp[h]
 ·rw[aF h,aF (by omega)]
def iF(c:UInt8):List UInt8->List (List UInt8)
 |[]=>[[]]
 |x::l=>if x=c then[]::iF c l else match iF c l with
  |[]=>[[x]]
  |w::ws=>(x::w)::ws
def xk(c:UInt8):List (List UInt8)->List UInt8
 |[]=>[]
 |[w]=>w
 |w::v::ws=>w++c::xk c (v::ws)
theorem vM(c:UInt8):∀ws,Lib.join ws [c]=xk c ws
 |[]=>rfl
 |[w]=>by simp[Lib.join,xk,List.intercalate]
 |w::v::ws=>by
  rw[xk,<-vM c (v::ws)]
  simp[Lib.join,List.intercalate]
theorem yQ(c:UInt8):∀l,iF c l≠[]
 |[]=>by simp[iF]
 |x::l=>by
  rw[iF]
  split
  ·simp
  ·split<;>simp
theorem rQ(c:UInt8):∀l,(iF c l).length<=l.length+1
 |[]=>aY _
 |x::l=>by
  have ih:=rQ c l
  rw[iF,List.length_cons]
  split
  ·rw[List.length_cons];omega
  ·split
   ·simp
   ·rename_i h
    rw[h]at ih
    rw[List.length_cons]at ih⊢
    omega
theorem zV(c:UInt8)(w:List UInt8){ws:List (List UInt8)}(h:ws≠[]):xk c (w::ws)=w++c::xk c ws:=by
 cases ws with
 |nil=>exact absurd rfl h
 |cons v ws=>rfl
theorem I5(c:UInt8):∀l,xk c (iF c l)=l
 |[]=>rfl
 |x::l=>by
  have ih:=I5 c l
  have hn:=yQ c l
  rw[iF]
  by_cases e:x=c
  ·rw[aJ e,zV c [] hn,ih,e];rfl
  ·rw[aF e]
   cases h:iF c l with
   |nil=>exact absurd h hn
   |cons w ws=>
    rw[h]at ih
    (try simp only)
    cases ws with
    |nil=>rw[xk]at ih⊢;rw[ih]
    |cons v ws=>rw[xk]at ih⊢;rw[<-ih];rfl
theorem zW{c:UInt8}:∀{w:List UInt8},c∉w->iF c w=[w]
 |[],_=>rfl
 |x::w,h=>by
  have h1:x≠c:=fun e=>h (e▸cE)
  have h2:c∉w:=fun e=>h (cK _ e)
  rw[iF,aF h1,zW h2]
theorem FL{c:UInt8}(r:List UInt8):∀{w:List UInt8},c∉w->iF c (w++c::r)=w::iF c r
 |[],_=>by rw[List.nil_append,iF,aJ rfl]
 |x::w,h=>by
  have h1:x≠c:=fun e=>h (e▸cE)
  have h2:c∉w:=fun e=>h (cK _ e)
  rw[List.cons_append,iF,aF h1,FL r h2]
theorem Ro{c:UInt8}:∀{ws:List (List UInt8)},ws≠[]->(∀w,w∈ws->c∉w)->iF c (xk c ws)=ws
 |[],h,_=>absurd rfl h
 |[w],_,h=>by rw[xk];exact zW (h w cE)
 |w::v::ws,_,h=>by
  rw[xk,FL _ (h w cE),Ro (by simp) fun u hu=>h u (cK _ hu)]
theorem Nf{c:UInt8}:∀{l:List UInt8},Lib.indexByte l c= -1->iF c l=[l]
 |[],_=>rfl
 |x::l,h=>by
  unfold Lib.indexByte at h
  by_cases e:x=c
  ·rw[aJ (ly.2 e)]at h;cases h
  ·rw[aF (fun h=>e (ly.1 h))]at h
   have hg:=Lib.indexByte_ge l c
   split at h
   ·rename_i hm
    rw[iF,aF e,Nf (ly.1 hm)]
   ·omega
theorem Rp{c:UInt8}:∀{l:List UInt8}{i:Nat},Lib.indexByte l c=i->iF c l=l.take i::iF c (l.drop (i+1))
 |[],i,h=>by simp[Lib.indexByte]at h
 |x::l,i,h=>by
  unfold Lib.indexByte at h
  by_cases e:x=c
  ·rw[aJ (ly.2 e)]at h
   have:i=0:=by omega
   subst this
   rw[iF,aJ e]
   rfl
  ·rw[aF (fun h=>e (ly.1 h))]at h
   have hg:=Lib.indexByte_ge l c
   split at h
   ·omega
   ·rename_i hm
    have hm:Lib.indexByte l c≠ -1:=fun h=>hm (ly.2 h)
    obtain⟨j,hj⟩:∃j:Nat,i=j+1:=⟨i-1,by omega⟩
    subst hj
    rw[iF,aF e,Rp (i:=j) (by omega)]
    rfl
theorem I6(c:UInt8):∀(n:Nat)(l:List UInt8),l.length<=n->Lib.splitK [c] 0 (Lib.count l [c]) l=iF c l
 |n,l,hn=>by
  have hi:=Lib.index_one l c
  have hg:=Lib.indexByte_ge l c
  by_cases h:Lib.indexByte l c= -1
  ·rw[Lib.count_miss (by rw[hi];exact h),Lib.splitK,Nf h]
  ·obtain⟨i,zP⟩:∃i:Nat,Lib.indexByte l c=i:=⟨(Lib.indexByte l c).toNat,by omega⟩
   have hl:l≠[]:=fun e=>by rw[e]at h;exact h rfl
   rw[Lib.count_hit (by simp) (by rw[hi];exact zP),Nat.add_comm,Lib.splitK,hi,zP,aF (fun e=>by have:=ly.1 e;omega),Rp zP]
   rw[Int.toNat_natCast,Nat.add_zero,List.length_singleton]
   congr 1
   cases n with
   |zero=>exact absurd (qa.1 (by omega)) hl
   |succ n=>exact I6 c n _ (by have:=wX.2 hl;rw[q6];omega)
def wx(g:aE):List UInt8:=Lib.join (g.map fx) [59]
def yF(x:List UInt8):Option Int:=match Lib.atoiAll x with
 | .ok n=>if Lib.itoa n=x then some n else none
 |_=>none
def jn{α β:Type}(f:α->Option β):List α->Option (List β)
 |[]=>some []
 |x::l=>match f x with
  |none=>none
  |some y=>match jn f l with
   |none=>none
   |some ys=>some (y::ys)
def La(w:List UInt8):Option (aH):=if w=[45]then some []else jn yF (iF 44 w)
def rS(s:List UInt8):Option (aE):=match jn La (iF 59 s)with
 |some g=>if aZ g=true then some g else none
 |none=>none
theorem pd{α β:Type}{f:α->Option β}:∀{l:List α}{r:List β},jn f l=some r->r.length=l.length/\∀i(h:i<l.length)(h':i<r.length),f l[i]=some r[i]
 |[],r,h=>by
  simp only[jn,dD]at h
  subst h
  exact⟨rfl,fun i h=>by simp at h⟩
 |x::l,r,h=>by
  rw[jn]at h
  cases hx:f x with
  |none=>rw[hx]at h;cases h
  |some y=>
   rw[hx]at h
   cases hl:jn f l with
   |none=>rw[hl]at h;cases h
   |some ys=>
    rw[hl]at h
    have h:=bF h
    subst h
    obtain⟨h1,h2⟩:=pd hl
    refine⟨by simp[h1],fun i a b=> ?_⟩
    cases i with
    |zero=>exact hx
    |succ i=>exact h2 i _ _
theorem Bs{α β:Type}{f:α->Option β}{g:β->α}:∀{l:List β},(∀x,x∈l->f (g x)=some x)->jn f (l.map g)=some l
 |[],_=>rfl
 |x::l,h=>by rw[bJ,jn,h x cE,Bs fun y hy=>h y (cK _ hy)]
theorem Ng{α β:Type}{f:α->Option β}{g:β->α}{l:List α}{r:List β}(h:jn f l=some r)(hg:∀x y,y∈r->f x=some y->g y=x):r.map g=l:=by
 obtain⟨h1,h2⟩:=pd h
 apply j8 (by rw[bB,h1])
 intro i a b
 rw[bV]
 exact hg _ _ (bI _) (h2 i b (by rw[bB]at a;exact a))
theorem FM{x:Int}(h0:0<=x)(h1:x<10):Lib.decDigits x.toNat=[UInt8.ofNat (48+x.toNat)]:=Lib.decDigits_one (by omega)
theorem Rq:∀n:Fin 10,Lib.atoiAll [UInt8.ofNat (48+n.val)]= .ok (n.val:Int):=by decide
theorem VF:∀n:Fin 10,yF [UInt8.ofNat (48+n.val)]=some (n.val:Int):=by
 intro n
 have e:Lib.itoa (n.val:Int)=[UInt8.ofNat (48+n.val)]:=by rw[Lib.itoa_nonneg,Lib.decDigits_one n.isLt]
 unfold yF
 rw[Rq n]
 (try simp only)
 rw[aJ e]
theorem ZO{x:Int}(h0:0<=x)(h1:x<10):yF (Lib.decDigits x.toNat)=some x:=by
 rw[FM h0 h1]
 have:=VF ⟨x.toNat,by omega⟩
 (try simp only at this)
 rw[this,Int.toNat_of_nonneg h0]
theorem ZP{x:List UInt8}{n:Int}(h:yF x=some n)(h0:0<=n):Lib.decDigits n.toNat=x:=by
 unfold yF at h
 split at h
 ·split at h
  ·rename_i m _ e
   have h:=bF h
   subst h
   rw[<-e]
   obtain⟨k,rfl⟩:∃k:Nat,m=k:=⟨m.toNat,by omega⟩
   rw[Lib.itoa_nonneg,Int.toNat_natCast]
  ·cases h
 ·cases h
theorem Bt{x:Int}(h0:0<=x)(h1:x<10){c:UInt8}(hc:c=44\/c=59\/c=45):c∉Lib.decDigits x.toNat:=by
 rw[FM h0 h1]
 have:∀n:Fin 10,(44:UInt8)∉[UInt8.ofNat (48+n.val)]/\(59:UInt8)∉[UInt8.ofNat (48+n.val)]/\(45:UInt8)∉[UInt8.ofNat (48+n.val)]:=by decide
 have:=this ⟨x.toNat,by omega⟩
 rcases hc with rfl|rfl|rfl
 ·exact this.1
 ·exact this.2.1
 ·exact this.2.2
theorem Lb{c d:UInt8}:∀{ws:List (List UInt8)},d∈xk c ws->d=c\/∃w,w∈ws/\d∈w
 |[],h=>by simp[xk]at h
 |[w],h=> .inr ⟨w,cE,h⟩
 |w::v::ws,h=>by
  rw[xk,gG,aO]at h
  rcases h with h|h|h
  ·exact .inr ⟨w,cE,h⟩
  ·exact .inl h
  ·rcases Lb h with h|⟨u,hu,hd⟩
   ·exact .inl h
   ·exact .inr ⟨u,cK _ hu,hd⟩
theorem Lc{l:aH}(h:∀x,x∈l->0<=x/\x<10):(59:UInt8)∉fx l:=by
 unfold fx
 split
 ·decide
 ·rw[vM]
  intro hm
  rcases Lb hm with h1|⟨w,hw,hd⟩
  ·exact absurd h1 (by decide)
  ·obtain⟨x,hx,rfl⟩:=dN.1 hw
   exact Bt (h x hx).1 (h x hx).2 (.inr (.inl rfl)) hd
theorem ZQ{l:aH}(h:∀x,x∈l->0<=x/\x<10):La (fx l)=some l:=by
 unfold La fx
 by_cases hz:l.length=0
 ·rw[aJ hz,aJ rfl,qa.1 hz]
 ·rw[aF hz,vM]
  have fH:l.map (fun x=>Lib.decDigits x.toNat)≠[]:=fun e=>hz (by simpa using congrArg List.length e)
  have hf:∀w,w∈l.map (fun x=>Lib.decDigits x.toNat)->(44:UInt8)∉w:=fun w hw=>by
   obtain⟨x,hx,rfl⟩:=dN.1 hw
   exact Bt (h x hx).1 (h x hx).2 (.inl rfl)
  rw[Ro fH hf,aF]
  ·exact Bs fun x hx=>ZO (h x hx).1 (h x hx).2
  ·intro e
   have hm:(45:UInt8)∈xk 44 (l.map fun x=>Lib.decDigits x.toNat):=by rw[e];decide
   rcases Lb hm with h1|⟨w,hw,hd⟩
   ·exact absurd h1 (by decide)
   ·obtain⟨x,hx,rfl⟩:=dN.1 hw
    exact Bt (h x hx).1 (h x hx).2 (.inr (.inr rfl)) hd
theorem ZR{w:List UInt8}{l:aH}(h:La w=some l)(h0:∀x,x∈l->0<=x):fx l=w:=by
 unfold La at h
 split at h
 ·rename_i e
  have h:=bF h
  subst h
  rw[e]
  rfl
 ·have hs:=Ng (g:=fun x:Int=>Lib.decDigits x.toNat) h fun x y hy hf=>ZP hf (h0 y hy)
  have hl:=(pd h).1
  have hn:=wX.2 (yQ 44 w)
  unfold fx
  rw[aF (by omega),vM,hs,I5]
theorem pf{g:aE}(hg:aZ g=true){l:aH}(hl:l∈g):∀x,x∈l->0<=x/\x<10:=fun x hx=>by
 have:=(bL hg hl).2 x hx
 have:=bD hg
 omega
theorem VG{g:aE}(hg:aZ g=true):rS (wx g)=some g:=by
 have gl:=bD hg
 unfold rS wx
 have fH:g.map fx≠[]:=fun e=>by rw[List.map_eq_nil_iff]at e;rw[e]at gl;simp at gl
 rw[vM,Ro fH fun w hw=> ?_,Bs fun l hl=>ZQ (pf hg hl)]
 ·(try simp only)
  rw[aJ hg]
 ·obtain⟨l,hl,rfl⟩:=dN.1 hw
  exact Lc (pf hg hl)
theorem zY{s:List UInt8}{g:aE}(h:rS s=some g):aZ g=true/\wx g=s:=by
 unfold rS at h
 split at h
 ·rename_i g' ha
  split at h
  ·rename_i hg
   have h:=bF h
   subst h
   refine⟨hg,?_⟩
   have hs:=Ng (g:=fx) ha fun w l hl hf=>ZR hf fun x hx=>(pf hg hl x hx).1
   unfold wx
   rw[vM,hs,I5]
  ·cases h
 ·cases h
theorem VH{g:aE}(hg:aZ g=true):(wx g).length<=200:=by
 have gl:=bD hg
 have key:∀ls:aE,(∀l,l∈ls->l.length<=5/\∀x,x∈l->0<=x/\x<100)->(Lib.join (ls.map fx) [59]).length<=17*ls.length:=by
  intro ls
  induction ls with
  |nil=>intro _;simp[Lib.join,List.intercalate]
  |cons l ls ih=>
   intro h
   have h1:=h l cE
   have h2:=xi h1.2
   have ih:=ih fun y hy=>h y (cK _ hy)
   rw[vM]at ih⊢
   rw[bJ]
   cases ls with
   |nil=>rw[jb,xk,List.length_cons];simp;omega
   |cons v ls=>
    rw[zV _ _ (by simp),bT,List.length_cons,List.length_cons]
    omega
 have:=key g fun l hl=>⟨(bL hg hl).1,fun x hx=>by have:=pf hg hl x hx;omega⟩
 unfold wx
 omega
def tS(s:ByteArray):aE×Bool:=match rS s.data.toList with
 |some g=>(g,true)
 |none=>([],false)
structure iG(h:Heap):Prop where
 mx:∃m:Int,bG h ⟨0,0,none⟩=some (.int .i64 m)
 sy:∃ev,bG h ⟨2,0,none⟩=some ev/\(ev= .nilIface\/∃te pe,ev= .iface te pe)
 rg:∃ev,bG h ⟨3,0,none⟩=some ev/\(ev= .nilIface\/∃te pe,ev= .iface te pe)
 tb:∃T f,h[1]?=some (.cells (Lib.pow10Tab.map fun z=>Value.int .u64 z).toArray T f)
theorem OT{h:Heap}{k:Nat}{o:Obj}(e:h[k]?=some o):k<h.size:=by
 rcases Nat.lt_or_ge k h.size with l|l
 ·exact l
 ·rw[Array.getElem?_eq_none l]at e;cases e
theorem iG.no{h h':Heap}(G:iG h)(f:Fr No h h'):iG h':=by
 obtain⟨⟨m,a⟩,⟨e1,b,b'⟩,⟨e2,c,c'⟩,⟨T,q,d⟩⟩:=G
 exact⟨⟨m,eJ a f fun h=>h⟩,⟨e1,eJ b f fun h=>h,b'⟩,⟨e2,eJ c f fun h=>h,c'⟩,⟨T,q,by rw[f.same _ (OT d) fun h=>h];exact d⟩⟩
theorem zZ{h:Heap}(GL:iG h){s:ByteArray}{c:UInt8}(hs:s.size<=1000000000)(K:aL)(HK:∀(t:Sl)(ps:List ByteArray) h',ps.map (·.data.toList)=iF c s.data.toList->dK (fun k=>h.size<=k/\k<h'.size) h' 1 t (ps.map VS)->Fr No h h'->K t.v h'):aG aB 81 #[VS s,VS ⟨#[c]⟩] h K:=by
 refine⟨fun w hw=> .inr ⟨81,_,w,Go.Proofs.enters_of Tryz.func81 (by kernel_rfl) rfl _ _,rfl,?_⟩⟩
 subst hw
 obtain⟨m,hm⟩:=GL.mx
 have h1:1<=(⟨#[c]⟩:ByteArray).size:=aY 1
 refine(Tryz.strings_Split s ⟨#[c]⟩ m w (by omega) hm h1).mono ?_
 rintro e w' ⟨rfl,rfl⟩
 have hd:=Lib.splitB_data ⟨#[c]⟩ 0 (Lib.countB s ⟨#[c]⟩) s
 have e2:Lib.splitK [c] 0 (Lib.count s.data.toList [c]) s.data.toList=iF c s.data.toList:=I6 c _ _ (aY _)
 have e1:(⟨#[c]⟩:ByteArray).data.toList=[c]:=rfl
 rw[e1]at hd
 have e3:Lib.countB s ⟨#[c]⟩=Lib.count s.data.toList [c]:=rfl
 rw[e3,e2]at hd
 have hl:=Lib.splitB_all ⟨#[c]⟩ h1 0 _ s rfl
 have hc:=Lib.countB_le ⟨#[c]⟩ h1 _ s (aY _)
 generalize oZ:Lib.splitB ⟨#[c]⟩ 0 (Lib.countB s ⟨#[c]⟩) s=ps at*
 rw[e3]at hl hc⊢
 refine⟨_,rfl,⟨rfl,rfl,rfl⟩,HK ⟨some ⟨w.heap.size,0,none⟩,Lib.count s.data.toList [c]+1,Lib.count s.data.toList [c]+1⟩ ps _ hd ⟨by simp[hl],by simp[maxLen];omega,aY _,fun j hj=> ?_⟩ (Fr.push w.heap _)⟩
 rw[bB]at hj
 refine⟨⟨w.heap.size,0,none⟩,rfl,⟨aY _,by show w.heap.size<(w.heap.push _).size;simp⟩,?_⟩
 rw[K8]
 show bG (w.heap.push _) _=_
 unfold bG
 simp
theorem I7{l:List UInt8}{v:Int}(h:Lib.atoiAll l= .ok v): -9223372036854775808<=v/\v<=9223372036854775807:=by
 unfold Lib.atoiAll at h
 split at h
 ·cases h
 ·(try simp only at h)
  split at h
  ·cases h
  ·cases h
  ·split at h
   ·cases h
   ·split at h
    ·cases h
    ·injection h with h
     rename_i c r u _ h1 h2
     subst h
     split<;>omega
theorem Rr{h:Heap}(GL:iG h){s:ByteArray}(hs:s.size<=1000000000)(K:aL)(HK:∀v h',Lib.atoiAll s.data.toList= .ok v->Fr No h h'->K (.tuple #[VI v,.nilIface]) h')(HE:∀v t p h',(∀u,Lib.atoiAll s.data.toList≠ .ok u)->Fr No h h'->K (.tuple #[VI v,.iface t p]) h'):aG aB 154 #[VS s] h K:=by
 refine⟨fun w hw=> .inr ⟨154,_,w,Go.Proofs.enters_of Tryz.func154 (by kernel_rfl) rfl _ _,rfl,?_⟩⟩
 subst hw
 cases ha:Lib.atoiAll s.data.toList
 case ok v=>
  refine(Tryz.strconv_Atoi_ok s (by omega) v ha w).mono ?_
  rintro e w' ⟨rfl,hw⟩
  rcases hw with rfl|⟨t,rfl⟩
  ·exact⟨_,rfl,dV.refl _,HK v _ ha (Fr.refl _ _)⟩
  ·have hb:=Lib.bytesWorld_below w 5 t
   exact⟨_,rfl,⟨hb.os,hb.tape,hb.output⟩,HK v _ ha ⟨hb.size,fun k hk _=>hb.block k hk⟩⟩
 case range=>
  obtain⟨ev,h1,h2⟩:=GL.rg
  refine(Tryz.strconv_Atoi_range s (by omega) ha ev w h1 h2).mono ?_
  rintro e w' ⟨N,rfl,_,_,hb⟩
  exact⟨_,rfl,⟨hb.os,hb.tape,hb.output⟩,HE _ _ _ _ (fun u hu=>by rw[ha]at hu;cases hu) ⟨hb.size,fun k hk _=>hb.block k hk⟩⟩
 obtain⟨ev,h1,h2⟩:=GL.sy
 refine(Tryz.strconv_Atoi_syntax s (by omega) ha ev w h1 h2).mono ?_
 rintro e w' ⟨N,rfl,_,_,hb⟩
 exact⟨_,rfl,⟨hb.os,hb.tape,hb.output⟩,HE _ _ _ _ (fun u hu=>by rw[ha]at hu;cases hu) ⟨hb.size,fun k hk _=>hb.block k hk⟩⟩
theorem kW{h:Heap}(GL:iG h){n:Int}(h0: -9223372036854775808<=n)(h1:n<=9223372036854775807)(K:aL)(HK:∀h',Fr No h h'->K (VS ⟨(Lib.itoa n).toArray⟩) h'):aG aB 92 #[VI n] h K:=by
 refine⟨fun w hw=> .inr ⟨92,_,w,Go.Proofs.enters_of Tryz.func92 (by kernel_rfl) rfl _ _,rfl,?_⟩⟩
 subst hw
 obtain⟨T,f,ht⟩:=GL.tb
 refine(Tryz.strconv_Itoa n h0 h1 w ?_).mono ?_
 ·unfold Lib.TabIs World.var?
  rw[show Tryz.prog.globalNamed "internal/strconv.uint64pow10" =some 1 by kernel_rfl]
  simp[ht]
 ·rintro e w' ⟨rfl,k,os,rfl⟩
  exact⟨_,rfl,⟨rfl,rfl,rfl⟩,HK _ ⟨by simp[«Sort».grow,World.drewN],fun i hi _=>by simp[«Sort».grow,World.drewN,Array.getElem?_append_left hi]⟩⟩
theorem Aa:∃ms,Tryz.prog.underlying 163=some (.interface ms):=by
 have h:(match Tryz.prog.underlying 163 with|some (.interface _)=>true|_=>false)=true:=by kernel_rfl
 split at h
 ·rename_i ms hm
  exact⟨ms,hm⟩
 ·cases h
theorem OU{P:Program}{t:TypeId}{ms}(ht:P.underlying t=some (.interface ms))(w:World):(Op.equal t .nilIface .nilIface).run P w= .ok true w:=by
 have key:∀d,(Op.equalIn (d+1) t .nilIface .nilIface).run P w= .ok true w:=fun d=>by
  unfold Op.equalIn
  rw[aV (dF ht w)]
  rfl
 exact key 9999
theorem I9{P:Program}{t:TypeId}{ms}(ht:P.underlying t=some (.interface ms))(a:TypeId)(b:Value)(w:World):(Op.equal t (.iface a b) .nilIface).run P w= .ok false w:=by
 have key:∀d,(Op.equalIn (d+1) t (.iface a b) .nilIface).run P w= .ok false w:=fun d=>by
  unfold Op.equalIn
  rw[aV (dF ht w)]
  rfl
 exact key 9999
theorem Ex{P:Program}{t:TypeId}{ms}(ht:P.underlying t=some (.interface ms))(x:Operand){K:Value->Prop}(H:K (.bool false)):pop P (od .neq t x (.const .nilIface) .nilIface .nilIface) K:=
 .mk' (fun w=>by
  unfold od
  have hg:(eqGuard .neq t x (.const .nilIface) .nilIface .nilIface).run P w= .ok () w:=by
   unfold eqGuard
   cases x<;>rfl
  rw[aV hg]
  show Sem.run P (Sem.bind (Op.equal t .nilIface .nilIface) _) w=_
  rw[ie,OU ht]
  rfl) H
theorem yR{P:Program}{t:TypeId}{ms}(ht:P.underlying t=some (.interface ms))(x y:Operand)(a:TypeId)(b:Value){K:Value->Prop}(H:K (.bool true)):pop P (od .neq t x y (.iface a b) .nilIface) K:=
 .mk' (fun w=>by
  unfold od
  have hg:(eqGuard .neq t x y (.iface a b) .nilIface).run P w= .ok () w:=rfl
  rw[aV hg]
  show Sem.run P (Sem.bind (Op.equal t (.iface a b) .nilIface) _) w=_
  rw[ie,I9 ht]
  rfl) H
theorem Nh(a:ByteArray):∀(n i:Nat)(r:List UInt8),a.size-i<=n->ByteArray.toList.loop a i r=r.reverse++a.data.toList.drop i
 |0,i,r,h=>by
  rw[ByteArray.toList.loop,aF (by omega),rT (by simp only[Array.length_toList];exact Nat.le_of_sub_eq_zero (Nat.le_zero.1 h)),gK]
 |n+1,i,r,h=>by
  rw[ByteArray.toList.loop]
  by_cases e:i<a.size
  ·have e':i<a.data.toList.length:=by simpa using e
   rw[aJ e,Nh a n (i+1) _ (by omega),List.reverse_cons,gu,List.singleton_append,kM e']
   congr 2
   show a.get! i=_
   unfold ByteArray.get!
   simp[getElem!_pos,e']
   exact getElem!_pos a.data i (by simpa using e')
  ·rw[aF e,rT (by simp only[Array.length_toList];exact Nat.le_of_not_lt e),gK]
theorem Ey(a:ByteArray):a.toList=a.data.toList:=by
 unfold ByteArray.toList
 rw[Nh a a.size 0 [] (by omega)]
 rfl
theorem kX(a:ByteArray):a.data.toList.length=a.size:=Array.length_toList
theorem rU(a b:ByteArray):(a.toList==b.toList)=decide (a.data.toList=b.data.toList):=by
 rw[Ey,Ey]
 by_cases h:a.data.toList=b.data.toList
 ·rw[h];simp
 ·rw[gU h];simpa using h
theorem pg{α β:Type}{f:α->Option β}:∀{l:List α}(i:Nat)(h:i<l.length),f l[i]=none->jn f l=none
 |x::l,0,_,hn=>by rw[jn,show f x=none from hn]
 |x::l,i+1,h,hn=>by
  rw[jn,pg (l:=l) i (by simpa using h) hn]
  cases f x<;>rfl
theorem Ab{α β:Type}{f:α->Option β}:∀{l:List α}{r:List β},r.length=l.length->(∀i(h:i<l.length)(h':i<r.length),f l[i]=some r[i])->jn f l=some r
 |[],[],_,_=>rfl
 |x::l,y::r,hl,h=>by
  rw[jn,show f x=some y from h 0 (by simp) (by simp),Ab (l:=l) (r:=r) (by simpa using hl) fun i a b=>h (i+1) (by simpa using a) (by simpa using b)]
def Ez{α β:Type}(f:α->Option β)(l:List α)(r:List β)(i:Nat):Prop:=r.length=i/\∀j(h:j<l.length)(h':j<r.length),f l[j]=some r[j]
theorem Ez.next{α β:Type}{f:α->Option β}{l:List α}{r:List β}{i:Nat}(H:Ez f l r i){y:β}(hi:i<l.length)(hy:f l[i]=some y):Ez f l (r++[y]) (i+1):=⟨by rw[bT,H.1];rfl,fun j a b=>by
 have hl:=H.1
 by_cases e:j<r.length
 ·rw[uz e]
  exact H.2 j a e
 ·have:j=i:=by rw[bT,List.length_singleton]at b;omega
  subst this
  rw[List.getElem_append_right (by omega)]
  simp[hl,hy]⟩
theorem Ld{h:Heap}(GL:iG h){s:ByteArray}(hs:s.size<=1000000)(K:aL)(HK:∀t h',cM h' (fun k=>h.size<=k) t ((La s.data.toList).getD [])->Fr No h h'->K (.tuple #[t.v,VB (La s.data.toList).isSome]) h'):aG aB 199 #[VS s] h K:=by
 refine akt s h K ?_
 refine bC gH (fun k=>h.size<=k) (fun _ h=>h) 0 (by omega) [] rfl rfl fun o h1 n1 c1 o1 f1 m1 _=>⟨o,rfl,.nil,?_⟩
 rw[rU]
 have e45:(⟨#[45]⟩:ByteArray).data.toList=[45]:=rfl
 rw[e45]
 unfold La at HK
 refine⟨fun e=> ?_,fun e=> ?_⟩
 ·rw[aJ (ry e)]at HK
  exact HK o h1 o1 f1
 rw[aF (Ac e)]at HK
 have z1:=f1.size
 refine zZ (GL.no f1) (by omega) _ fun t ps h2 oZ T2 f2=>⟨t,rfl,.nil,?_⟩
 have z2:=f2.size
 have tn:=T2.len
 simp only[bB,fE]at tn
 have hpl:ps.length=(iF 44 s.data.toList).length:=by rw[<-oZ,bB]
 have hpb:ps.length<=1000001:=by
  have h1:=rQ 44 s.data.toList
  have h2:=kX s
  omega
 have Rs:∀i(hi:i<ps.length),(iF 44 s.data.toList)[i]'(by omega)=(ps[i]).data.toList:=fun i hi=>by simp only[<-oZ,bV]
 have tK:∀i(hi:i<ps.length),(ps[i]).size<=1000000:=fun i hi=>by
  have h1:=I5 44 s.data.toList
  have:∀(ws:List (List UInt8))(w:List UInt8),w∈ws->w.length<=(xk 44 ws).length:=by
   intro ws
   induction ws with
   |nil=>intro w hw;simp at hw
   |cons v ws ih=>
    intro w hw
    cases ws with
    |nil=>
     rcases aO.1 hw with rfl|hw
     ·exact aY _
     ·simp at hw
    |cons u ws=>
     rw[xk,bT,List.length_cons]
     rcases aO.1 hw with rfl|hw
     ·omega
     ·have:=ih w hw;omega
  have h2:=this _ _ (bI (show i<(iF 44 s.data.toList).length by omega))
  rw[h1,Rs i hi]at h2
  have e1:=kX (ps[i])
  have e2:=kX s
  omega
 have o2:cM h2 (Iv h.size h1.size) o []:=(Ow.gS o1).no f2
 refine⟨fun n x i h'=>0<=i/\i+n=(ps.length:Int)/\∃r:aH,Ez yF (iF 44 s.data.toList) r i.toNat/\cM h' (fun k=>h.size<=k/\¬(h1.size<=k/\k<h2.size)) x r/\Fr (fun k=>h.size<=k/\¬(h1.size<=k/\k<h2.size)) h2 h',⟨ps.length,by omega,by omega,[],⟨rfl,fun j _ h'=>by simp at h'⟩,o2.mono fun k _ hk=>⟨hk.1,fun h=>by have:=hk.2;omega⟩,Fr.refl _ _⟩,?_⟩
 rintro n x i h3 ⟨i0,i1,r,SF,o3,f3⟩ dA
 have z3:=f3.size
 have T3:=dK.fr T2 f3 fun k hk aQ=>aQ.2 hk
 have F3:Fr No h h3:=(f1.aA f2).fresh f3 fun k hk=>hk.1
 have ln:=dK.len T3
 have fail:∀h',Fr No h h'->jn yF (iF 44 s.data.toList)=none->K (.tuple #[aD.v,VB false]) h':=fun h' f hn=>by
  rw[hn]at HK
  exact HK aD h' (Ow.nil _ _ _ _) f
 refine⟨fun e2=> ?_,fun e2=> ?_⟩
 ·simp only[aT]at e2
  have hi:i.toNat<ps.length:=by omega
  have cc:=T3.get (i:=i) i0 (by rw[bB];omega)
  rw[show(ps.map VS)[i.toNat]'(by rw[bB];exact hi)=VS ps[i.toNat]from bV _]at cc
  have gi:=Rs i.toNat hi
  refine⟨dK.bQ T3 i0 (by rw[bB];omega),_,cc,Rr ((GL.no F3)) (by have:=tK i.toNat hi;omega) _ (fun v h4 ha f4=>⟨v,_,rfl,.nil,?_⟩) fun v ty p h4 hn f4=>⟨v,_,rfl,.nil,?_⟩⟩
  ·obtain⟨ms,hm⟩:=Aa
   refine Ex hm _ ⟨_,rfl,fun e=>by simp at e,fun _=> ?_⟩
   have vr:=I7 ha
   refine kW ((GL.no F3).no f4) vr.1 vr.2 _ fun h5 f5=>⟨_,rfl,.nil,?_⟩
   rw[rU]
   have e5:(⟨(Lib.itoa v).toArray⟩:ByteArray).data.toList=Lib.itoa v:=rfl
   rw[e5]
   have F5:=F3.aA (f4.aA f5)
   refine⟨fun e3=> ?_,fun e3=> ?_⟩
   ·have e3:=Ac (bU e3)
    refine fail h5 F5 (pg i.toNat (by omega) ?_)
    rw[gi]
    unfold yF
    rw[ha]
    (try simp only)
    rw[aF e3]
   ·have e3:=ry (bS e3)
    have hr:yF ((iF 44 s.data.toList)[i.toNat]'(by omega))=some v:=by
     rw[gi]
     unfold yF
     rw[ha]
     (try simp only)
     rw[aJ e3]
    have z5:=(f4.aA f5).size
    refine oQ (L:=[]) (F:=fun k=>h.size<=k/\¬(h1.size<=k/\k<h2.size)) (Ow.no o3 (f4.aA f5)) (fun k hk=>⟨by omega,fun h=>by omega⟩) .nil (fun p hp=>by simp at hp) (by rw[SF.1];have:=tK i.toNat hi;have:(iF 44 s.data.toList).length<=s.data.toList.length+1:=rQ 44 _;have e2:=kX s;omega) _ fun t6 h7 o7 f7 _=> ?_
    rw[aP (i+1) (by omega) (by omega)]
    refine⟨n-1,by omega,by omega,by omega,r++[v],?_,o7,f3.trans ((f4.aA f5).aC.trans f7)⟩
    rw[show(i+1).toNat=i.toNat+1 by omega]
    exact SF.next (by omega) hr
  ·obtain⟨ms,hm⟩:=Aa
   refine yR hm _ _ _ _ ⟨_,rfl,fun _=> ?_,fun e=>by simp at e⟩
   refine fail h4 (F3.aA f4) (pg i.toNat (by omega) ?_)
   rw[gi]
   unfold yF
   split
   ·rename_i m Ki
    exact absurd Ki (hn m)
   ·rfl
 ·simp only[aW]at e2
  have hr:=Ab (f:=yF) (l:=iF 44 s.data.toList) (r:=r) (by rw[SF.1];omega) SF.2
  rw[hr]at HK
  exact HK x h3 (o3.mono fun k _ hk=>hk.1) F3
theorem OV{s:ByteArray}{g:aE}(h:jn La (iF 59 s.data.toList)=some g):tS s=(mb g,aZ g):=by
 unfold tS rS mb
 rw[h]
 (try simp only)
 by_cases e:aZ g=true
 ·rw[aJ e,aJ e,e]
 ·rw[aF e,aF e]
  simp only[Bool.not_eq_true]at e
  rw[e]
theorem OW{s:ByteArray}(h:jn La (iF 59 s.data.toList)=none):tS s=([],false):=by
 unfold tS rS
 rw[h]
theorem Ni{c:UInt8}:∀(ws:List (List UInt8))(w:List UInt8),w∈ws->w.length<=(xk c ws).length
 |[],w,hw=>by simp at hw
 |[v],w,hw=>by
  rcases aO.1 hw with rfl|hw
  ·exact aY _
  ·simp at hw
 |v::u::ws,w,hw=>by
  rw[xk,bT,List.length_cons]
  rcases aO.1 hw with rfl|hw
  ·omega
  ·have:=Ni (c:=c) (u::ws) w hw;omega
theorem Ad{c:UInt8}{l w:List UInt8}(h:w∈iF c l):w.length<=l.length:=by
 have:=Ni (c:=c) _ _ h
 rwa [I5]at this
theorem FN{h:Heap}(GL:iG h){s:ByteArray}(hs:s.size<=100000)(K:aL)(HK:∀t h',ia h' (Iv h.size h'.size) t (tS s).1->Fr No h h'->K (.tuple #[.agg #[t.v],VB (tS s).2]) h'):aG aB 153 #[VS s] h K:=by
 refine ajr s h K fun b1 b2 h1 fw eY f1 cU=> ?_
 have f1:=f1.aM
 have z1:=f1.size
 have l2:b2<h1.size:=cU.head.lt
 have l1:b1<h1.size:=cU.tail.head.lt
 refine zZ (GL.no f1) (by omega) _ fun t ps h2 oZ T2 f2=>⟨t,rfl,cU.aC f2,?_⟩
 have z2:=f2.size
 have tn:=T2.len
 simp only[bB,fE]at tn
 have hpl:ps.length=(iF 59 s.data.toList).length:=by rw[<-oZ,bB]
 have hpb:ps.length<=100001:=by
  have h1:=rQ 59 s.data.toList
  have h2:=kX s
  omega
 have Rs:∀i(hi:i<ps.length),(iF 59 s.data.toList)[i]'(by omega)=(ps[i]).data.toList:=fun i hi=>by simp only[<-oZ,bV]
 have tK:∀i(hi:i<ps.length),(ps[i]).size<=100000:=fun i hi=>by
  have h2:=Ad (bI (show i<(iF 59 s.data.toList).length by omega))
  rw[Rs i hi]at h2
  have e1:=kX (ps[i])
  have e2:=kX s
  omega
 refine⟨fun n i x h'=>0<=i/\i+n=(ps.length:Int)/\∃r:aE,Ez La (iF 59 s.data.toList) r i.toNat/\ia h' (fun k=>h2.size<=k) x r/\Fr (fun k=>k=b2\/h2.size<=k) h2 h'/\h2.size<=h'.size,⟨ps.length,by omega,by omega,[],⟨rfl,fun j _ h'=>by simp at h'⟩,dO.nil _ _ _ _,Fr.refl _ _,aY _⟩,?_⟩
 rintro n i x h3 ⟨i0,i1,r,SF,o3,f3,z3⟩ dA
 have T3:=dK.fr T2 f3 fun k hk aQ=>by have:=hk.1;have:=hk.2;omega
 have F3:Fr No h h3:=(f1.aA f2).fresh f3 fun k hk=>by rcases hk with rfl|hk<;>omega
 have ln:=dK.len T3
 have fail:∀h' nD,Fr No h h'->Fr (In [b1]) h' nD->h2.size<=h'.size->jn La (iF 59 s.data.toList)=none->K (.tuple #[.agg #[aD.v],VB false]) nD:=fun h' nD f f' z hn=>by
  rw[OW hn]at HK
  exact HK aD nD (dO.nil _ _ _ _) (f.fresh f' fun k hk=>by simp[In]at hk;omega)
 refine⟨fun e2=> ?_,fun e2=> ?_⟩
 ·simp only[aT]at e2
  have hi:i.toNat<ps.length:=by omega
  have cc:=T3.get (i:=i) i0 (by rw[bB];omega)
  rw[show(ps.map VS)[i.toNat]'(by rw[bB];exact hi)=VS ps[i.toNat]from bV _]at cc
  have gi:=Rs i.toNat hi
  refine⟨dK.bQ T3 i0 (by rw[bB];omega),_,cc,Ld (GL.no F3) (by have:=tK i.toNat hi;omega) _ fun u h4 o4 f4=>⟨u,_,rfl,dA.aC f4,fun e3=> ?_,fun e3=> ?_⟩⟩
  ·have e3:=bU e3
   intro h5 f5 iU
   refine fail h4 h5 (F3.aA f4) f5 (by have:=f4.size;omega) (pg i.toNat (by omega) ?_)
   rw[gi]
   cases hr:La (ps[i.toNat]).data.toList with
   |none=>rfl
   |some y=>rw[hr]at e3;cases e3
  ·have e3:=bS e3
   cases hr:La (ps[i.toNat]).data.toList with
   |none=>rw[hr]at e3;cases e3
   |some y=>
    rw[hr]at o4
    have z4:=f4.size
    refine Bh (F:=fun k=>h2.size<=k) (m:=h3.size) ((o3.gS.no f4).mono fun k _ hk=>hk) o4 (fun k hk=>by omega) z4 (dA.aC f4) (fun p hp=>by
     simp only[aO,aS,aN]at hp
     rcases hp with rfl|rfl<;>simp only<;>omega) (by rw[SF.1];omega) _ fun t6 h7 o7 f7 V7 h8 f8 gZ=> ?_
    have z7:=f7.size
    have z8:=f8.size
    rw[aP (i+1) (by omega) (by omega)]
    refine⟨n-1,by omega,by omega,by omega,r++[y],?_,dO.fr o7 f8 fun k hk aQ mX=>by simp[In]at mX;omega,((f3.trans f4.aC).trans (f7.mono fun k _ hk=> .inr hk)).trans (f8.mono fun k _ hk=> .inl (by simpa[In]using hk)),by omega⟩
    rw[show(i+1).toNat=i.toNat+1 by omega]
    exact SF.next (by omega) (by rw[gi];exact hr)
 ·simp only[aW]at e2
  have hr:=Ab (f:=La) (l:=iF 59 s.data.toList) (r:=r) (by rw[SF.1];omega) SF.2
  rw[OV hr]at HK
  refine QQ o3.gS (aY _) _ fun v h4 o4 f4=>⟨v,_,rfl,dA.aC f4,fun h5 f5 iU=> ?_⟩
  have z4:=f4.size
  have z5:=f5.size
  refine HK v h5 ?_ ((F3.aA f4).fresh f5 fun k hk=>by simp[In]at hk;omega)
  exact(dO.fr o4 f5 fun k hk aQ mX=>by simp[In]at mX;have:=aQ.1;omega).mono fun k hk aQ=>⟨by have:=aQ.1;omega,hk⟩
def Rt(g:aE):Prop:=g.length<=8/\∀l,l∈g->l.length<=12/\∀x,x∈l->0<=x/\x<10
theorem kY{g:aE}(hg:aZ g=true):Rt g:=⟨(bD hg).2,fun l hl=>⟨by have:=(bL hg hl).1;omega,pf hg hl⟩⟩
theorem EA{l:aH}(h:l.length<=12/\∀x,x∈l->0<=x/\x<10):(fx l).length<=40:=by
 have:=xi (rs:=l) fun x hx=>by have:=h.2 x hx;omega
 omega
theorem Nk{g:aE}(h:Rt g):(wx g).length<=328:=by
 have:=uL 59 (g.map fx) fun y hy=>by
  obtain⟨l,hl,rfl⟩:=dN.1 hy
  exact EA (h.2 l hl)
 rw[bB]at this
 have:=h.1
 unfold wx
 omega
theorem rV{S:aK}{h:Heap}{s:Sl}{aI:aE}(H:dE S h s aI)(B:Rt aI)(K:aL)(HK:∀h',Fr No h h'->K (VS ⟨(wx aI).toArray⟩) h'):aG aB 74 #[.agg #[s.v]] h K:=by
 have sn:=H.len
 have Bn:=B.1
 refine v74 s h K fun b1 h1 fw f1 cU=> ?_
 have f1:=f1.aM
 refine⟨fun m out i h'=>0<=i/\i+m=(aI.length:Int)/\out=(⟨(Lib.join ((aI.take i.toNat).map fx) [59]).toArray⟩:ByteArray)/\Fr No h h',⟨aI.length,by omega,by omega,rfl,f1⟩,?_⟩
 rintro m out i h3 ⟨i0,i1,rfl,f3⟩ dA
 have H3:=H.no f3
 refine⟨fun e2=> ?_,fun e2=> ?_⟩
 ·have hi:=H3.lt e2
  have zP:i.toNat<aI.length:=by omega
  obtain⟨si,c1,r1⟩:=H3.get i0 hi
  have rn:=r1.len
  have hk:=B.2 _ (bI zP)
  have hl1:=uL 59 ((aI.take i.toNat).map fx) fun y hy=>by
   obtain⟨l,hl,rfl⟩:=dN.1 hy
   exact EA (B.2 l (lR hl))
  have hl2:((aI.take i.toNat).map fx).length<=8:=by simp;omega
  generalize hB:Lib.join ((aI.take i.toNat).map fx) [59]++(if i.toNat=0 then[]else[59])=B'
  have Bl:B'.length<=400:=by rw[<-hB,bT];split<;>simp only[List.length_nil,List.length_cons]<;>omega
  have next:Lib.join ((aI.take (i.toNat+1)).map fx) [59]=B'++fx aI[i.toNat]:=by rw[xj fx [59] zP,hB]
  refine⟨H3.bQ i0 hi,si,c1,fun x h'=>x=(⟨B'.toArray⟩:ByteArray)/\h'=h3,⟨fun e5=>⟨?_,?_,rfl⟩,fun e5=>⟨?_,rfl⟩⟩,?_⟩
  ·rw[cT];show _+1<=_;omega
  ·simp only[aT]at e5
   rw[show(⟨#[59]⟩:ByteArray)=⟨[59].toArray⟩from rfl,gj,<-hB,aF (by omega)]
  ·simp only[aW]at e5
   rw[<-hB,aJ (by omega),gK]
  rintro x h5 ⟨rfl,rfl⟩ iU
  refine⟨fun x h'=>x=(⟨(B'++if aI[i.toNat].length=0 then[45]else[]).toArray⟩:ByteArray)/\h'=h5,⟨fun e5=>⟨?_,?_,rfl⟩,fun e5=>⟨?_,rfl⟩⟩,?_⟩
  ·rw[cT];show _+1<=_;omega
  ·simp only[aT]at e5
   rw[show(⟨#[45]⟩:ByteArray)=⟨[45].toArray⟩from rfl,gj,aJ (by omega)]
  ·simp only[aW]at e5
   rw[aF (by omega),gK]
  rintro x2 h6 ⟨rfl,rfl⟩ kU
  generalize hC:(B'++if aI[i.toNat].length=0 then[45]else[])=C
  have Cl:C.length<=401:=by rw[<-hC,bT];split<;>simp only[List.length_nil,List.length_cons]<;>omega
  refine⟨fun m2 o j h'=>0<=j/\j+m2=(aI[i.toNat].length:Int)/\o=(⟨(C++Lib.join ((aI[i.toNat].take j.toNat).map fun y=>Lib.decDigits y.toNat) [44]).toArray⟩:ByteArray)/\Fr No h6 h',⟨aI[i.toNat].length,by omega,by omega,by simp[Lib.join_nil],Fr.refl _ _⟩,?_⟩
  rintro m2 o j h7 ⟨j0,j1,rfl,f7⟩ jQ
  have R7:=r1.no f7
  refine⟨fun e5=> ?_,fun e5=> ?_⟩
  ·have hj:=R7.lt e5
   have KY:j.toNat<aI[i.toNat].length:=by omega
   have dj:=hk.2 _ (bI KY)
   have hl3:=Bp ((aI[i.toNat].take j.toNat).map fun y=>Lib.decDigits y.toNat) fun y hy=>by
    obtain⟨x,hx,rfl⟩:=dN.1 hy
    have:=hk.2 x (lR hx)
    exact vK (by omega)
   have hl4:((aI[i.toNat].take j.toNat).map fun y=>Lib.decDigits y.toNat).length<=12:=by simp;omega
   generalize hD:C++Lib.join ((aI[i.toNat].take j.toNat).map fun y=>Lib.decDigits y.toNat) [44]++(if j.toNat=0 then[]else[44])=D
   have Dl:D.length<=500:=by rw[<-hD,bT,bT];split<;>simp only[List.length_nil,List.length_cons]<;>omega
   refine⟨R7.bQ j0 hj,_,R7.get j0 hj,fun x h'=>x=(⟨D.toArray⟩:ByteArray)/\h'=h7,⟨fun e6=>⟨?_,?_,rfl⟩,fun e6=>⟨?_,rfl⟩⟩,?_⟩
   ·rw[cT,bT];show _+1<=_;omega
   ·simp only[aT]at e6
    rw[show(⟨#[44]⟩:ByteArray)=⟨[44].toArray⟩from rfl,gj,<-hD,aF (by omega)]
   ·simp only[aW]at e6
    rw[<-hD,aJ (by omega),gK]
   rintro x h8 ⟨rfl,rfl⟩ gZ
   refine Nd dj.1 dj.2 _ fun h9 f9=>⟨_,rfl,gZ.aC f9,?_,?_⟩
   ·have:=vK (show(aI[i.toNat][j.toNat]).toNat<100 by omega)
    rw[cT,cT];omega
   ·rw[R7.succ j0 hj]
    refine⟨m2-1,by omega,by omega,by omega,?_,f7.trans f9⟩
    rw[gj,show(j+1).toNat=j.toNat+1 by omega,xj _ _ KY,<-hD]
    simp only[gu]
  ·have hj:=R7.ge e5
   rw[cW (by omega),H3.succ i0 hi]
   refine⟨m-1,by omega,by omega,by omega,?_,f3.trans f7⟩
   rw[show(i+1).toNat=i.toNat+1 by omega,next,<-hC]
   unfold fx
   by_cases hz:aI[i.toNat].length=0
   ·rw[aJ hz,aJ hz,qa.1 hz,jb,Lib.join_nil,gK]
   ·rw[aF hz,aF hz,gK]
 ·have hi:=H3.ge e2
  rw[cW (by omega)]
  exact HK h3 f3
theorem rW{S:aK}{h:Heap}{s:Sl}{aI:aE}(H:dE S h s aI)(B:Rt aI)(hp:1<=aI.length)(K:aL)(HK:∀h',Fr No h h'->K (VS ⟨(wx aI).toArray⟩) h'):aG aB 51 #[.agg #[s.v]] h K:=by
 have sn:=H.len
 have Bn:=B.1
 refine v51 s h K fun b1 h1 fw f1 cU=> ?_
 have f1:=f1.aM
 have z1:=f1.size
 have l1:b1<h1.size:=cU.head.lt
 refine bC OR (fun k=>h1.size<=k) (fun _ h=>h) 0 (by omega) [] rfl rfl fun o h2 n2 c2 o2 f2 m2 _=>⟨o,rfl,cU.aC f2,?_⟩
 have z2:=f2.size
 have Zt:C8 h2 (fun k=>h1.size<=k) o []:=o2
 have yP:∀{x:Heap},Fr (fun k=>h1.size<=k) h x->Fr No h x:=fun f=>f.mono fun k hk aQ=>absurd aQ (by omega)
 refine⟨fun m x i h'=>0<=i/\i+m=(aI.length:Int)/\C8 h' (fun k=>h1.size<=k) x ((aI.take i.toNat).map fun l=>(⟨(fx l).toArray⟩:ByteArray))/\Fr (fun k=>h1.size<=k) h h'/\h1.size<=h'.size,⟨aI.length,by omega,by omega,by simpa using Zt,f1.aC.trans f2.aC,z2⟩,?_⟩
 rintro m x i h3 ⟨i0,i1,o3,f3,z3⟩ dA
 have H3:=H.no (yP f3)
 refine⟨fun e2=> ?_,fun e2=> ?_⟩
 ·have hi:=H3.lt e2
  have zP:i.toNat<aI.length:=by omega
  obtain⟨si,c1,r1⟩:=H3.get i0 hi
  have rn:=r1.len
  have hk:=B.2 _ (bI zP)
  have off:∀A(q:Nat×List Value),q∈[(b1,A)]->¬h1.size<=q.1:=fun A q hq=>by
   simp only[aO,aS,aN]at hq
   subst hq;simp only;omega
  refine⟨H3.bQ i0 hi,si,c1,Bq r1 (fun y hy=>by have:=hk.2 y hy;omega) (by omega) _ fun h9 f9=>⟨_,rfl,dA.aC f9,?_⟩⟩
  have z9:=f9.size
  refine pc (Ow.no o3 f9) (fun k hk=>by omega) (dA.aC f9) (off _) (by simp;omega) _ fun u jq mD f11 V11=> ?_
  have Uc:=f11.size
  rw[H3.succ i0 hi]
  refine⟨m-1,by omega,by omega,by omega,?_,(f3.trans f9.aC).trans f11,by omega⟩
  rw[show(i+1).toNat=i.toNat+1 by omega,vL,dT zP,Option.toList_some,cQ]
  exact mD
 ·have hi:=H3.ge e2
  rw[cW (by omega)]at o3
  have hm:((aI.map fun l=>(⟨(fx l).toArray⟩:ByteArray)).map (·.data.toList))=aI.map fx:=by simp
  have ZA:=Nk B
  unfold wx at ZA HK
  refine K9 o3.fW (fun hh=>by have:=congrArg List.length hh;simp at this;simp[this]at hp) (by simp;omega) (by rw[hm];show(Lib.join _ [59]).length<=_;omega) _ fun iC f12=>⟨_,rfl,dA.aC f12,?_⟩
  have:=HK iC ((yP f3).trans f12)
  rw[hm]
  exact this
theorem mF{P:Program}{t:TypeId}(ht:P.underlying t=some .string){K:Value->Prop}(k:IntKind)(s:ByteArray)(i:Int)(h0:0<=i)(h1:i.toNat<s.size)(H:K (.int .u8 (s[i.toNat]'h1).toNat)):pop P (Instr.index t (.string s) (.int k i)) K:=
 .mk' (fun w=>by
  have hu:=dF ht w
  have e:s[i.toNat]?=some (s[i.toNat]'h1):=by simp[getElem?_pos s i.toNat h1]
  unfold Instr.index
  simp[asIntOf,go_sem,hu,h0,e]) H
def ic(st:aE×aH)(c:UInt8):aE×aH:=
 if 48<=(c.toNat:Int)/\(c.toNat:Int)<=55 then(st.1,st.2++[(c.toNat:Int)-48])else if(c.toNat:Int)=59 then(st.1++[st.2],[])else st
def Le(s:List UInt8):aE×aH:=s.foldl ic ([],[])
def zi(s:List UInt8):aE:=(Le s).1++[(Le s).2]
theorem Nl:∀(l:List UInt8)(st:aE×aH),(l.foldl ic st).1.length<=st.1.length+l.length/\(l.foldl ic st).2.length<=st.2.length+l.length
 |[],st=>⟨aY _,aY _⟩
 |c::l,st=>by
  have ih:=Nl l (ic st c)
  rw[List.foldl_cons,List.length_cons]
  have:(ic st c).1.length<=st.1.length+1/\(ic st c).2.length<=st.2.length+1:=by
   unfold ic
   split
   ·simp
   ·split
    ·simp
    ·omega
  omega
theorem Nn{st:aE×aH}{x:Int}(h0:0<=x)(h1:x<8):(Lib.decDigits x.toNat).foldl ic st=(st.1,st.2++[x]):=by
 rw[FM h0 (by omega)]
 have:∀n:Fin 8,((UInt8.ofNat (48+n.val)).toNat:Int)=48+n.val:=by decide
 have:=this ⟨x.toNat,by omega⟩
 simp only[List.foldl_cons,List.foldl_nil]
 unfold ic
 simp only at this
 rw[this,aJ (by omega),show(48+(x.toNat:Int)-48)=x by omega]
theorem Np:∀(xs:aH)(st:aE×aH),(∀x,x∈xs->0<=x/\x<8)->(xk 44 (xs.map fun x=>Lib.decDigits x.toNat)).foldl ic st=(st.1,st.2++xs)
 |[],st,_=>by simp[xk]
 |[x],st,h=>by
  have:=h x cE
  rw[bJ,jb,xk,Nn this.1 this.2]
 |x::y::xs,st,h=>by
  have h1:=h x cE
  rw[bJ,zV _ _ (by simp),List.foldl_append,Nn h1.1 h1.2,List.foldl_cons]
  rw[show ic (st.1,st.2++[x]) 44=(st.1,st.2++[x])from rfl,Np (y::xs) _ fun z hz=>h z (cK _ hz)]
  simp
theorem Ja{xs:aH}(st:aE×aH)(h:∀x,x∈xs->0<=x/\x<8):(fx xs).foldl ic st=(st.1,st.2++xs):=by
 unfold fx
 by_cases e:xs.length=0
 ·rw[aJ e,qa.1 e,gK]
  rfl
 ·rw[aF e,vM,Np xs st h]
theorem Jb:∀(g:aE)(R:aE),g≠[]->(∀l,l∈g->∀x,x∈l->0<=x/\x<8)->((xk 59 (g.map fx)).foldl ic (R,[])).1++[((xk 59 (g.map fx)).foldl ic (R,[])).2]=R++g
 |[],R,h,_=>absurd rfl h
 |[l],R,_,h=>by
  rw[bJ,jb,xk,Ja _ (h l cE)]
  simp
 |l::m::g,R,_,h=>by
  rw[bJ,zV _ _ (by simp),List.foldl_append,Ja _ (h l cE),List.foldl_cons]
  rw[show ic (R,[]++l) 59=(R++[[]++l],[])from rfl,Jb (m::g) _ (by simp) fun z hz=>h z (cK _ hz)]
  simp
theorem ZS{g:aE}(hg:aZ g=true):zi (wx g)=g:=by
 have gl:=bD hg
 unfold zi Le wx
 rw[vM,Jb g [] (fun e=>by rw[e]at gl;simp at gl) fun l hl x hx=>by have:=(bL hg hl).2 x hx;omega,List.nil_append]
theorem xm(s:ByteArray):tS s=if s.data.toList.length<=200/\aZ (zi s.data.toList)=true/\wx (zi s.data.toList)=s.data.toList then(zi s.data.toList,true)else([],false):=by
 unfold tS
 cases hp:rS s.data.toList with
 |some g=>
  obtain⟨hg,ht⟩:=zY hp
  have hl:=VH hg
  have hc:=ZS hg
  rw[ht]at hl hc
  rw[aJ ⟨hl,by rw[hc];exact hg,by rw[hc];exact ht⟩,hc]
 |none=>
  rw[aF]
  rintro⟨_,hg,ht⟩
  have:=VG hg
  rw[ht,hp]at this
  cases this
theorem OX{h:Heap}{s:ByteArray}(K:aL)(HK:∀t h',ia h' (Iv h.size h'.size) t (tS s).1->Fr No h h'->K (.tuple #[.agg #[t.v],VB (tS s).2]) h'):aG aB 125 #[VS s] h K:=by
 have sl:=kX s
 refine aiU s h K ⟨fun e b1 h2 fw f2 cR=> ?_,fun e b1 b2 h4 fw eY f4 fi=> ?_⟩
 ·simp only[aT]at e
  rw[xm,aF (by omega)]at HK
  exact HK aD h2 (dO.nil _ _ _ _) f2.aM
 simp only[aW]at e
 have f4:=f4.aM
 have z4:=f4.size
 have l2:b2<h4.size:=fi.head.lt
 have l1:b1<h4.size:=fi.tail.head.lt
 have fin:∀{h':Heap},Fr (fun k=>k=b2\/k=b1\/h4.size<=k) h4 h'->Fr No h h':=fun f=>f4.fresh f fun k hk=>by rcases hk with rfl|rfl|hk<;>omega
 have off:∀A B(q:Nat×List Value),q∈[(b2,A),(b1,B)]->q.1<h4.size:=fun A B q hq=>by
  simp only[aO,aS,aN]at hq
  rcases hq with rfl|rfl<;>simp only<;>omega
 refine⟨fun n l i x h'=>0<=i/\i+n=(s.size:Int)/\(∃m,h4.size<=m/\m<=h'.size/\ia h' (fun k=>h4.size<=k/\k<m) x (Le (s.data.toList.take i.toNat)).1/\cM h' (fun k=>m<=k) l (Le (s.data.toList.take i.toNat)).2)/\Fr (fun k=>k=b2\/k=b1\/h4.size<=k) h4 h',⟨s.size,by omega,by omega,⟨h4.size,aY _,aY _,dO.nil _ _ _ _,Ow.nil _ _ _ _⟩,Fr.refl _ _⟩,?_⟩
 rintro n l i x h5 ⟨i0,i1,⟨m,m0,m1,ox,ol⟩,f5⟩ iU
 have z5:=f5.size
 have cl:=Nl (s.data.toList.take i.toNat) ([],[])
 simp only[List.length_nil,fD]at cl
 have c1:(Le (s.data.toList.take i.toNat)).1.length<=200:=by have:=cl.1;unfold Le;omega
 have c2:(Le (s.data.toList.take i.toNat)).2.length<=200:=by have:=cl.2;unfold Le;omega
 have row:∀(T:Sl->Heap->Prop),(∀t h',ia h' (fun k=>h4.size<=k) t ((Le (s.data.toList.take i.toNat)).1++[(Le (s.data.toList.take i.toNat)).2])->Fr (fun k=>k=b2\/k=b1\/h4.size<=k) h4 h'->Vars h' [(b2,[t.v]),(b1,[aD.v])]->T t h')->j5 aB (Instr.buildSlice pU 1 #[(0,l.v)]) h5 fun rv h1=>∃t:Sl,rv=t.v/\Vars h1 [(b2,[x.v]),(b1,[aD.v])]/\j5 aB (cD pU pU pU x.v t.v) h1 fun Bb h2=>∃t2:Sl,Bb=t2.v/\Vars h2 [(b2,[x.v]),(b1,[aD.v])]/\∀fa,Fr (In [b2]) h2 fa->Vars fa [(b2,[t2.v]),(b1,[aD.v])]->T t2 fa:=fun T HT=>by
  refine Bh (F:=fun k=>h4.size<=k) (m:=m) ox ol (fun k hk=>by omega) m1 iU (fun p hp=>by have:=off _ _ p hp;omega) (by omega) _ fun t h7 o7 f7 V7 h8 f8 gZ=> ?_
  refine HT t h8 (dO.fr o7 f8 fun k hk aQ mX=>by simp[In]at mX;omega) ((f5.trans (f7.mono fun k _ hk=> .inr (.inr hk))).trans (f8.mono fun k _ hk=> .inl (by simpa[In]using hk))) gZ
 refine⟨fun e2=> ?_,fun e2=> ?_⟩
 ·simp only[aT]at e2
  have hi:i.toNat<s.data.toList.length:=by omega
  have hc:Le (s.data.toList.take (i.toNat+1))=ic (Le (s.data.toList.take i.toNat)) (s.data.toList[i.toNat]):=by
   unfold Le
   rw[vL,dT hi,Option.toList_some,List.foldl_append]
   rfl
  have ZT:s[i.toNat]'(by omega)=s.data.toList[i.toNat]:=by
   show s.data[i.toNat]'_=_
   simp
  generalize hcv:s.data.toList[i.toNat]=c at hc ZT
  generalize Qd:Le (s.data.toList.take i.toNat)=st at*
  have cb:(c.toNat:Int)<256:=by have:=c.toNat_lt;omega
  refine⟨fun l' x' h'=>(∃m,h4.size<=m/\m<=h'.size/\ia h' (fun k=>h4.size<=k/\k<m) x' (ic st c).1/\cM h' (fun k=>m<=k) l' (ic st c).2)/\Fr (fun k=>k=b2\/k=b1\/h4.size<=k) h4 h',?_,?_⟩
  ·have other:¬(48<=(c.toNat:Int)/\(c.toNat:Int)<=55)->¬(c.toNat:Int)=59->(∃m,h4.size<=m/\m<=h5.size/\ia h5 (fun k=>h4.size<=k/\k<m) x (ic st c).1/\cM h5 (fun k=>m<=k) l (ic st c).2)/\Fr (fun k=>k=b2\/k=b1\/h4.size<=k) h4 h5:=fun a b=>by
    unfold ic
    rw[aF a,aF b]
    exact⟨⟨m,m0,m1,ox,ol⟩,f5⟩
   have afB:¬(48<=(c.toNat:Int)/\(c.toNat:Int)<=55)->(c.toNat:Int)=59->∀t h',ia h' (fun k=>h4.size<=k) t (st.1++[st.2])->Fr (fun k=>k=b2\/k=b1\/h4.size<=k) h4 h'->(∃m,h4.size<=m/\m<=h'.size/\ia h' (fun k=>h4.size<=k/\k<m) t (ic st c).1/\cM h' (fun k=>m<=k) aD (ic st c).2)/\Fr (fun k=>k=b2\/k=b1\/h4.size<=k) h4 h':=fun a b t h' o f=>by
    unfold ic
    rw[aF a,aJ b]
    exact⟨⟨h'.size,f.size,aY _,o.gS,Ow.nil _ _ _ _⟩,f⟩
   refine mF (by kernel_rfl) _ _ i i0 (by omega) ⟨_,rfl,?_⟩
   rw[ZT]
   refine⟨fun e3=>⟨fun e4=> ?_,fun e4=> ?_⟩,fun e3=> ?_⟩
   ·simp only[aT]at e3 e4
    refine jy (show Tryz.prog.underlying _=some (.int .u8)from by kernel_rfl) (show Tryz.prog.underlying _=some (.int .i64)from by kernel_rfl) _ ⟨(c.toNat:Int)-48,?_,?_⟩
    ·have:IntKind.u8.wrap ((c.toNat:Int)-48)=(c.toNat:Int)-48:=by
      show((c.toNat:Int)-48)%256=_
      omega
     rw[this]
     show VI (aX _)=_
     rw[aP _ (by omega) (by omega)]
    refine nT (lo:=m) ol m1 iU (fun p hp=>by have:=off _ _ p hp;omega) (by omega) _ fun t h7 o7 f7 V7=> ?_
    refine⟨⟨m,m0,cB m1 f7.size,?_,?_⟩,f5.trans (f7.mono fun k _ hk=> .inr (.inr (by omega)))⟩
    ·unfold ic
     rw[aJ ⟨e3,e4⟩]
     exact dO.fr ox f7 fun k hk aQ mX=>by omega
    ·unfold ic
     rw[aJ ⟨e3,e4⟩]
     exact o7
   ·simp only[aT,aW]at e3 e4
    refine⟨fun e6=> ?_,fun e6=> ?_⟩
    ·simp only[aT]at e6
     exact row _ fun t h' o f V=>afB (by omega) e6 t h' o f
    ·simp only[aW]at e6
     exact other (by omega) e6
   ·simp only[aW]at e3
    refine⟨fun e6=> ?_,fun e6=> ?_⟩
    ·simp only[aT]at e6
     exact row _ fun t h' o f V=>afB (by omega) e6 t h' o f
    ·simp only[aW]at e6
     exact other (by omega) e6
  ·rintro l' x' h6 ⟨hm,f6⟩ kU
   rw[aP (i+1) (by omega) (by omega)]
   refine⟨n-1,by omega,by omega,by omega,?_,f6⟩
   rw[show(i+1).toNat=i.toNat+1 by omega,hc]
   exact hm
 ·simp only[aW]at e2
  refine row _ fun t h7 o7 f7 V7=> ?_
  rw[cW (by omega)]at o7
  have o7:ia h7 (fun k=>h4.size<=k) t (zi s.data.toList):=o7
  have ocl:zi s.data.toList=zi s.data.toList:=rfl
  have bad:∀h' nD,Fr No h7 h'->Fr (In [b1]) h' nD->¬(s.data.toList.length<=200/\aZ (zi s.data.toList)=true/\wx (zi s.data.toList)=s.data.toList)->K (.tuple #[.agg #[aD.v],VB false]) nD:=fun h' nD a b hn=>by
   rw[xm,aF hn]at HK
   exact HK aD nD (dO.nil _ _ _ _) (fin ((f7.trans a.aC).trans (b.mono fun k _ hk=> .inr (.inl (by simpa[In]using hk)))))
  refine oy o7.rd _ fun h8 f8=>⟨_,rfl,V7.aC f8,fun e3 h9 f9 gM=> ?_,fun e3=> ?_⟩
  ·exact bad h8 h9 f8 f9 fun hh=>by rw[hh.2.1]at e3;cases e3
  have e3:=bS e3
  refine rV (o7.rd.no f8) (kY e3) _ fun h9 f9=>⟨_,rfl,(V7.aC f8).aC f9,?_⟩
  rw[rU]
  rw[show(⟨(wx (zi s.data.toList)).toArray⟩:ByteArray).data.toList=wx (zi s.data.toList)from rfl]
  refine⟨fun e4 fa f10 ft=> ?_,fun e4 fa f10 ft=> ?_⟩
  ·exact bad h9 fa (f8.trans f9) f10 fun hh=>by rw[kk hh.2.2]at e4;cases e4
  ·have e4:=ry (bS e4)
   rw[xm,aJ ⟨by omega,e3,e4⟩]at HK
   have z7:=f7.size
   refine HK t fa ?_ (fin ((f7.trans (f8.trans f9).aC).trans (f10.mono fun k _ hk=> .inr (.inl (by simpa[In]using hk)))))
   have nC:=dO.fr ((o7.no f8).no f9) f10 fun k hk aQ mX=>by simp[In]at mX;omega
   exact nC.mono fun k hk aQ=>⟨by omega,hk⟩
def sq(g:aE)(s:St):Nat->Option St
 |0=>some s
 |n+1=>(sq g s n).bind (dH g)
theorem Bu(g:aE)(s:St)(a:Nat):∀b,sq g s (a+b)=(sq g s a).bind fun t=>sq g t b
 |0=>by rw[Nat.add_zero];cases sq g s a<;>rfl
 |b+1=>by
  rw[<-kP,sq,Bu g s a b]
  cases sq g s a<;>rfl
theorem Ru{g:aE}{s:St}{a b:Nat}(h:sq g s a=sq g s b)(k:Nat):sq g s (a+k)=sq g s (b+k):=by
 rw[Bu,Bu,h]
theorem Ae{g:aE}{s:St}{a:Nat}(h:sq g s a=none)(k:Nat):sq g s (a+k)=none:=by
 rw[Bu,h];rfl
structure vN(g:aE)(s:St)(m n:Nat):Prop where
 lt:m<n
 eq:sq g s m=sq g s n
 some:sq g s m≠none
 ML:∀i j,i<j->j<n->sq g s i≠sq g s j
theorem ZU{g:aE}{s:St}:∀(b:Nat){a:Nat},a<b->sq g s a=sq g s b->sq g s a≠none->∃m n,n<=b/\vN g s m n:=by
 intro b
 induction b using Nat.strongRecOn with
 |ind b ih=>
  intro a h1 h2 h3
  by_cases hx:∃i j,i<j/\j<b/\sq g s i=sq g s j
  ·obtain⟨i,j,x1,x2,x3⟩:=hx
   obtain⟨m,n,y1,y2⟩:=ih j x2 x1 x3 (fun hn=>by
    have e0:i<=a\/a<i:=by omega
    have:=Ae hn (b-i)
    rw[show i+(b-i)=b by omega,<-h2]at this
    exact h3 this)
   exact⟨m,n,by omega,y2⟩
  ·exact⟨a,b,aY _,h1,h2,h3,fun i j x1 x2 x3=>hx ⟨i,j,x1,x2,x3⟩⟩
theorem vN.mul{g:aE}{s:St}{m n:Nat}(R:vN g s m n){a:Nat}(h:m<=a):∀k,sq g s (a+k*(n-m))=sq g s a
 |0=>by rw[Nat.zero_mul,Nat.add_zero]
 |k+1=>by
  have:=Ru R.eq (a+k*(n-m)-m)
  have wF:=R.lt
  rw[show m+(a+k*(n-m)-m)=a+k*(n-m) by omega,R.mul h k]at this
  rw[this,Nat.succ_mul]
  congr 1;omega
theorem vN.all{g:aE}{s:St}{m n:Nat}(R:vN g s m n)(a:Nat):sq g s a≠none:=by
 intro h
 have h1:=Ae h (m+a*(n-m))
 have wF:=R.lt
 have h2:=R.mul (a:=m) (aY _) a
 have:a<=a*(n-m):=Nat.le_mul_of_pos_right _ (by omega)
 have h3:=Ae h (m+a*(n-m)-a)
 rw[show a+(m+a*(n-m)-a)=m+a*(n-m) by omega,h2]at h3
 exact R.some h3
theorem vN.rep{g:aE}{s:St}{m n:Nat}(R:vN g s m n){a:Nat}(h:m<=a):sq g s (m+(a-m)%(n-m))=sq g s a/\m+(a-m)%(n-m)<n:=by
 have wF:=R.lt
 have h1:=Nat.mod_add_div (a-m) (n-m)
 have h2:=R.mul (a:=m+(a-m)%(n-m)) (by omega) ((a-m)/(n-m))
 rw[qe]at h1
 rw[show m+(a-m)%(n-m)+(a-m)/(n-m)*(n-m)=a by omega]at h2
 have h3:=j9 (a-m) (show n-m>0 by omega)
 exact⟨h2.symm,by omega⟩
theorem vN.iff{g:aE}{s:St}{m n:Nat}(R:vN g s m n){a b:Nat}(h:a<b):sq g s a=sq g s b↔m<=a/\(b-a)%(n-m)=0:=by
 have wF:=R.lt
 constructor
 ·intro e
  have ha:m<=a:=by
   refine Nat.not_lt.1 fun hl=> ?_
   by_cases hb:b<n
   ·exact R.ML a b h hb e
   ·obtain⟨r1,r2⟩:=R.rep (a:=b) (by omega)
    exact R.ML a _ (by omega) r2 (e.trans r1.symm)
  refine⟨ha,?_⟩
  obtain⟨r1,r2⟩:=R.rep (a:=b) (by omega)
  obtain⟨q1,q2⟩:=R.rep ha
  have hr:(a-m)%(n-m)=(b-m)%(n-m):=by
   rcases tg ((a-m)%(n-m)) ((b-m)%(n-m))with x|x|x
   ·exact absurd (q1.trans (e.trans r1.symm)) (R.ML _ _ (by omega) r2)
   ·exact x
   ·exact absurd (r1.trans (e.symm.trans q1.symm)) (R.ML _ _ (by omega) q2)
  have:=Nat.sub_mod_eq_zero_of_mod_eq hr.symm
  rwa [show b-m-(a-m)=b-a by omega]at this
 ·rintro⟨h1,h2⟩
  have h3:=Nat.mod_add_div (b-a) (n-m)
  rw[h2,iM,qe]at h3
  have:=R.mul h1 ((b-a)/(n-m))
  rw[h3,show a+(b-a)=b by omega]at this
  exact this.symm
theorem vN.ZV{g:aE}{s:St}{m n m' n':Nat}(R:vN g s m n)(R':vN g s m' n'):m=m'/\n=n':=by
 have h1:=R.lt
 have h2:=R'.lt
 have hn:n=n':=by
  rcases tg n n' with x|x|x
  ·exact absurd R.eq (R'.ML m n h1 x)
  ·exact x
  ·exact absurd R'.eq (R.ML m' n' h2 x)
 subst hn
 refine⟨?_,rfl⟩
 rcases tg m m' with x|x|x
 ·exact absurd (R.eq.trans R'.eq.symm) (R.ML m m' x h2)
 ·exact x
 ·exact absurd (R'.eq.trans R.eq.symm) (R.ML m' m x h1)
theorem vN.meets{g:aE}{s:St}{m n:Nat}(R:vN g s m n):∃k,1<=k/\k<=n/\m<=k/\sq g s k=sq g s (2*k):=by
 have wF:=R.lt
 have h1:=Nat.mod_add_div m (n-m)
 have h3:=j9 m (show n-m>0 by omega)
 by_cases h0:m%(n-m)=0/\1<=m
 ·refine⟨m,h0.2,by omega,aY _,(R.iff (by omega)).2 ⟨aY _,?_⟩⟩
  rw[show 2*m-m=m by omega];exact h0.1
 ·have hk:(n-m)*(m/(n-m)+1)=(n-m)*(m/(n-m))+(n-m):=by rw[Nat.mul_succ]
  refine⟨(n-m)*(m/(n-m)+1),by omega,?_,by omega,?_⟩
  ·by_cases hm:m=0
   ·subst hm
    simp at hk⊢
   ·have:m%(n-m)≠0:=fun e=>h0 ⟨e,by omega⟩
    omega
  ·refine(R.iff (by omega)).2 ⟨by omega,?_⟩
   rw[show 2*((n-m)*(m/(n-m)+1))-(n-m)*(m/(n-m)+1)=(n-m)*(m/(n-m)+1) by omega]
   exact Nat.mul_mod_right _ _
def qJ:List St->St->Option Nat
 |[],_=>none
 |x::xs,s=>if x=s then some 0 else(qJ xs s).map (·+1)
theorem ti:∀{hs:List St}{s:St}{m:Nat},qJ hs s=some m->hs[m]?=some s
 |[],s,m,h=>by simp[qJ]at h
 |x::xs,s,m,h=>by
  rw[qJ]at h
  split at h
  ·rename_i e
   simp only[dD]at h
   rw[<-h,e];rfl
  ·cases hm:qJ xs s with
   |none=>rw[hm]at h;simp at h
   |some k=>
    rw[hm]at h
    simp only[Option.map_some,dD]at h
    rw[<-h,List.getElem?_cons_succ]
    exact ti hm
theorem xq:∀{hs:List St}{s:St},qJ hs s=none->s∉hs
 |[],s,_=>by simp
 |x::xs,s,h=>by
  rw[qJ]at h
  split at h
  ·cases h
  ·rename_i e
   cases hm:qJ xs s with
   |none=>
    intro hx
    rcases aO.1 hx with a|a
    ·exact e a.symm
    ·exact xq hm a
   |some k=>rw[hm]at h;simp at h
def Jc(g:aE):Nat->Nat->St->List St->Int×Int×Bool
 |0,_,_,_=>(0,0,false)
 |f+1,n,s,hs=>match qJ hs s with
  |some m=>((m:Int),(n:Int)-m,true)
  |none=>match dH g s with
   |none=>(0,0,false)
   |some s'=>Jc g f (n+1) s' (hs++[s])
structure FO(g:aE)(s0:St)(n:Nat)(s:St)(hs:List St):Prop where
 len:hs.length=n
 at_:∀i,i<n->hs[i]?=sq g s0 i
 now:sq g s0 n=some s
 ML:∀i j,i<j->j<n->sq g s0 i≠sq g s0 j
theorem FO.init(g:aE)(s0:St):FO g s0 0 s0 []:=⟨rfl,fun i h=>by omega,rfl,fun i j _ h=>by omega⟩
theorem FO.next{g:aE}{s0 s s':St}{n:Nat}{hs:List St}(H:FO g s0 n s hs)(h:qJ hs s=none)(Kt:dH g s=some s'):FO g s0 (n+1) s' (hs++[s]):=by
 refine⟨by rw[bT,H.len];rfl,fun i hi=> ?_,by rw[sq,H.now];exact Kt,fun i j h1 h2=> ?_⟩
 ·by_cases e:i=n
  ·subst e
   rw[List.getElem?_append_right (by rw[H.len];exact aY _),H.len,Nat.sub_self,H.now];rfl
  ·rw[List.getElem?_append_left (by rw[H.len];omega)]
   exact H.at_ i (by omega)
 ·by_cases e:j=n
  ·subst e
   intro he
   rw[H.now,<-H.at_ i h1]at he
   exact xq h (List.mem_of_getElem? he)
  ·exact H.ML i j h1 (by omega)
theorem Jd{g:aE}{s0:St}{m k:Nat}(R:vN g s0 m k):∀(f n:Nat)(s:St)(hs:List St),FO g s0 n s hs->n<=k->k<n+f->Jc g f n s hs=((m:Int),(k:Int)-m,true)
 |0,n,s,hs,H,h1,h2=>by omega
 |f+1,n,s,hs,H,h1,h2=>by
  rw[Jc]
  cases hi:qJ hs s with
  |some i=>
   have h3:=ti hi
   have Yi:i<n:=by
    refine Nat.not_le.1 fun hle=> ?_
    rw[List.getElem?_eq_none (by rw[H.len];exact hle)]at h3;cases h3
   rw[H.at_ i Yi,<-H.now]at h3
   have R':vN g s0 i n:=⟨Yi,h3,by rw[h3,H.now];simp,H.ML⟩
   obtain⟨a,b⟩:=R.ZV R'
   rw[a,b]
  |none=>
   cases Kt:dH g s with
   |none=>
    exfalso
    have:=R.all (n+1)
    rw[sq,H.now]at this
    exact this Kt
   |some s'=>
    have fH:n≠k:=by
     rintro rfl
     have h3:=R.eq
     rw[H.now,<-H.at_ m R.lt]at h3
     exact xq hi (List.mem_of_getElem? h3)
    exact Jd R f (n+1) s' _ (H.next hi Kt) (by omega) (by omega)
theorem Nq{g:aE}{s0:St}:∀(f n:Nat)(s:St)(hs:List St),FO g s0 n s hs->(∀m k,vN g s0 m k->n+f<=k)->Jc g f n s hs=(0,0,false)
 |0,n,s,hs,H,h=>rfl
 |f+1,n,s,hs,H,h=>by
  rw[Jc]
  cases hi:qJ hs s with
  |some i=>
   have h3:=ti hi
   have Yi:i<n:=by
    refine Nat.not_le.1 fun hle=> ?_
    rw[List.getElem?_eq_none (by rw[H.len];exact hle)]at h3;cases h3
   rw[H.at_ i Yi,<-H.now]at h3
   have:=h i n ⟨Yi,h3,by rw[h3,H.now];simp,H.ML⟩
   omega
  |none=>
   cases Kt:dH g s with
   |none=>rfl
   |some s'=>exact Nq f (n+1) s' _ (H.next hi Kt) fun m k R=>by have:=h m k R;omega
def Je(g:aE)(s:St):Int×Int×Bool:=Jc g 2001 0 s []
theorem Jf{g:aE}{s:St}{m k:Nat}(R:vN g s m k)(h:k<=2000):Je g s=((m:Int),(k:Int)-m,true):=Jd R 2001 0 s [] (FO.init g s) (Nat.zero_le _) (by omega)
theorem Nr{g:aE}{s:St}(h:∀m k,vN g s m k->2000<k):Je g s=(0,0,false):=Nq 2001 0 s [] (FO.init g s) fun m k R=>by have:=h m k R;omega
def rX(h:Heap)(b:Nat)(gv:List (ByteArray×Int)):Prop:=∃(es:Array MapEntry)(clock:Nat),h[b]?=some (.map es clock)/\es.toList.map (fun e=>(e.key,e.val))=gv.map fun q=>(VS q.1,VI q.2)
theorem rX.lt{h:Heap}{b:Nat}{gv:List (ByteArray×Int)}(M:rX h b gv):b<h.size:=by
 obtain⟨es,c,hb,_⟩:=M
 exact(AE.1 hb).1
theorem rX.fr{h h':Heap}{b:Nat}{gv:List (ByteArray×Int)}{T:aK}(M:rX h b gv)(f:Fr T h h')(hT:¬T b):rX h' b gv:=by
 have hl:=M.lt
 obtain⟨es,c,hb,e⟩:=M
 exact⟨es,c,by rw[f.same b hl hT];exact hb,e⟩
def rY(gv:List (ByteArray×Int))(k:ByteArray):Option Int:=match gv with
 |[]=>none
 |q::r=>if q.1=k then some q.2 else rY r k
theorem Jg{t:TypeId}{h:Heap}{K:aL}(HK:∀h',rX h' h.size []->Fr No h h'->h.size<h'.size->K (.map (some h.size)) h'):j5 aB (Instr.makeMap t none) h K:=by
 refine⟨fun w hw=> ?_⟩
 subst hw
 refine⟨_,_,run_makeMap_plain w t,⟨rfl,rfl,rfl⟩,HK _ ⟨#[],0,?_,rfl⟩ (Fr.push w.heap _) ?_⟩
 ·show(w.heap.push _)[w.heap.size]?=_
  simp
 ·show w.heap.size<(w.heap.push _).size
  simp
theorem rZ{k:ByteArray}:∀(l:List MapEntry)(gv:List (ByteArray×Int))(i:Nat),l.map (fun e=>(e.key,e.val))=gv.map (fun q=>(VS q.1,VI q.2))->∃r,Instr.findNow .string (VS k) l i=some r/\r.map (·.2)=(rY gv k).map VI
 |[],[],i,_=>⟨none,rfl,rfl⟩
 |[],q::r,i,h=>by simp at h
 |e::l,[],i,h=>by simp at h
 |e::l,q::r,i,h=>by
  simp only[bJ,rA,fL]at h
  obtain⟨⟨h1,h2⟩,h3⟩:=h
  obtain⟨x,hx,hy⟩:=rZ l r (i+1) h3
  unfold Instr.findNow rY
  rw[h1]
  by_cases hq:q.1=k
  ·have:Instr.sameNow .string (VS k) (VS q.1)=some true:=by
    show some (k==q.1)=some true
    rw[hq,(MapKept.bytes_beq k k).2 rfl]
   rw[this,aJ hq]
   exact⟨some (i,e.val),rfl,by simp[h2]⟩
  ·have:Instr.sameNow .string (VS k) (VS q.1)=some false:=by
    show some (k==q.1)=some false
    have:(k==q.1)=false:=by
     cases hb:(k==q.1)with
     |false=>rfl
     |true=>exact absurd ((MapKept.bytes_beq k q.1).1 hb).symm hq
    rw[this]
   rw[this,aF hq]
   exact⟨x,hx,hy⟩
theorem Lg{t kt et:TypeId}{h:Heap}{b:Nat}{gv:List (ByteArray×Int)}{k:ByteArray}(hm:Tryz.prog.underlying t=some (.map kt et))(hk:Tryz.prog.underlying kt=some .string)(hz:qW aB et=some (VI 0))(M:rX h b gv){K:Value->Prop}(HK:K (.tuple #[VI ((rY gv k).getD 0),VB (rY gv k).isSome])):Da aB (Instr.lookup t (.map (some b)) (VS k) true) h K:=by
 obtain⟨es,c,hb,e⟩:=M
 obtain⟨r,hr,hv⟩:=rZ (k:=k) es.toList gv 0 e
 refine⟨_,fun w hw=> ?_,HK⟩
 subst hw
 have hc:(Instr.checkKey es.isEmpty 10000 kt (VS k)).run aB w= .ok () w:=MapKept.run_checkKey (k:= .string k) hk (by simp[MapKept.IsKey]) es.isEmpty 9999
 have hf:=MapKept.run_findKey (w:=w) hk hr
 have hzr:(zeroValue et).run aB w= .ok (VI 0) w:=by
  unfold qW at hz
  cases hi:Tryz.prog.info? et with
  |none=>rw[hi]at hz;simp at hz
  |some i=>
   rw[hi]at hz
   simp only[Option.bind_some]at hz
   unfold zeroValue
   rw[aV (fA hi w)]
   simp[hz,pure,Sem.run]
 unfold Instr.lookup
 simp only[jM,run_underlying hm,Result.andThen,MapKept.run_getObj_map hb,hc,hf]
 cases r with
 |none=>
  cases hs:rY gv k with
  |none=>simp[hc,hf,Sem.run,pure,hzr,Result.andThen]
  |some x=>rw[hs]at hv;simp at hv
 |some p=>
  cases hs:rY gv k with
  |none=>rw[hs]at hv;simp at hv
  |some x=>
   rw[hs]at hv
   simp only[Option.map_some,dD]at hv
   simp[hc,hf,Sem.run,pure,Result.andThen,hv]
theorem Dp{t kt et:TypeId}{h:Heap}{b:Nat}{gv:List (ByteArray×Int)}{k:ByteArray}{x:Int}(hm:Tryz.prog.underlying t=some (.map kt et))(hk:Tryz.prog.underlying kt=some .string)(M:rX h b gv)(hn:rY gv k=none){K:aL}(HK:∀v h',rX h' b (gv++[(k,x)])->Fr (In [b]) h h'->K v h'):Hz aB (Instr.mapUpdate t (.map (some b)) (VS k) (VI x)) h K:=by
 have hl:=M.lt
 obtain⟨es,c,hb,e⟩:=M
 obtain⟨r,hr,hv⟩:=rZ (k:=k) es.toList gv 0 e
 rw[hn]at hv
 have Fy:r=none:=by cases r with
  |none=>rfl
  |some p=>simp at hv
 subst Fy
 refine⟨fun w hw=> ?_⟩
 subst hw
 have hc:(Instr.checkKey false 10000 kt (VS k)).run aB w= .ok () w:=MapKept.run_checkKey (k:= .string k) hk (by simp[MapKept.IsKey]) false 9999
 have hf:=MapKept.run_findKey (w:=w) hk hr
 refine⟨{w with heap:=w.heap.setIfInBounds b (.map (es.push {key:=VS k,val:=VI x,born:=c}) (c+1))},?_,⟨rfl,rfl,rfl⟩,HK _ _ ⟨es.push {key:=VS k,val:=VI x,born:=c},c+1,?_,?_⟩ ⟨by simp,fun j hj fH=> ?_⟩⟩
 ·unfold Instr.mapUpdate
  simp only[jM,run_underlying hm,Result.andThen,MapKept.run_getObj_map hb,hc,hf,MapKept.run_setObj_map _ hb]
 ·simp only
  rw[Bv,aJ rfl,aJ hl]
 ·rw[Array.toList_push,cQ,cQ,e]
  rfl
 ·simp only
  rw[Bv,aF (fun hh=>fH (by simp[In,hh]))]
def Ns(s:St):List UInt8:=Lib.decDigits s.2.toNat++[58]++fx s.1
def FP(s:St):ByteArray:=⟨(Ns s).toArray⟩
theorem FQ{a b:Int}(a0:0<=a)(a1:a<10)(b0:0<=b)(b1:b<10){x y:List UInt8}(h:Lib.decDigits a.toNat++x=Lib.decDigits b.toNat++y):a=b/\x=y:=by
 rw[Lib.decDigits_one (show a.toNat<10 by omega),Lib.decDigits_one (show b.toNat<10 by omega)]at h
 simp only[List.cons_append,List.nil_append,rA]at h
 obtain⟨h1,h2⟩:=h
 have h3:=congrArg UInt8.toNat h1
 simp only[UInt8.toNat_ofNat']at h3
 exact⟨by omega,h2⟩
theorem Jh:∀(us vs:aH),us.length=vs.length->(∀x,x∈us->0<=x/\x<10)->(∀x,x∈vs->0<=x/\x<10)->Lib.joinTail [44] (us.map fun x=>Lib.decDigits x.toNat)=Lib.joinTail [44] (vs.map fun x=>Lib.decDigits x.toNat)->us=vs
 |[],[],_,_,_,_=>rfl
 |[],_::_,h,_,_,_=>by simp at h
 |_::_,[],h,_,_,_=>by simp at h
 |a::us,b::vs,hl,ha,hb,h=>by
  simp only[Lib.joinTail,bJ,List.flatten_cons,gu,List.cons_append,List.nil_append,rA,true_and]at h
  have A:=ha a (cE ..)
  have B:=hb b (cE ..)
  obtain⟨e1,e2⟩:=FQ A.1 A.2 B.1 B.2 h
  rw[e1,Jh us vs (by simpa using hl) (fun x hx=>ha x (cK _ hx)) (fun x hx=>hb x (cK _ hx)) e2]
theorem Rv{us vs:aH}(hl:us.length=vs.length)(ha:∀x,x∈us->0<=x/\x<10)(hb:∀x,x∈vs->0<=x/\x<10)(h:fx us=fx vs):us=vs:=by
 match us,vs,hl,ha,hb,h with
 |[],[],_,_,_,_=>rfl
 |[],_::_,hl,_,_,_=>simp at hl
 |_::_,[],hl,_,_,_=>simp at hl
 |a::us,b::vs,hl,ha,hb,h=>
  unfold fx at h
  rw[aF (by simp),aF (by simp)]at h
  simp only[bJ]at h
  rw[Lib.join_cons,Lib.join_cons]at h
  have A:=ha a (cE ..)
  have B:=hb b (cE ..)
  obtain⟨e1,e2⟩:=FQ A.1 A.2 B.1 B.2 h
  rw[e1,Jh us vs (by simpa using hl) (fun x hx=>ha x (cK _ hx)) (fun x hx=>hb x (cK _ hx)) e2]
theorem iI{g:aE}{s:St}(W:iV g s):(∀x,x∈s.1->0<=x/\x<10)/\0<=s.2/\s.2<10/\s.1.length<=8:=by
 have hg:=bD W.cN
 have hl:=W.len
 have h0:=W.lo
 have h1:=W.hi
 refine⟨fun x hx=> ?_,h0,by omega,by omega⟩
 obtain⟨i,hi,rfl⟩:=vE hx
 have:=W.TX i hi (by omega)
 have hm:=(bL W.cN (bI (show i<g.length by omega))).1
 omega
theorem key_inj{g:aE}{s t:St}(W:iV g s)(W':iV g t)(h:FP s=FP t):s=t:=by
 obtain⟨a1,a2,a3,_⟩:=iI W
 obtain⟨b1,b2,b3,_⟩:=iI W'
 have h:Ns s=Ns t:=by
  have:=congrArg (fun x=>x.data.toList) h
  simpa[FP]using this
 unfold Ns at h
 rw[gu,gu]at h
 obtain⟨e1,e2⟩:=FQ a2 a3 b2 b3 h
 simp only[List.cons_append,List.nil_append,rA,true_and]at e2
 exact Prod.ext (Rv (by rw[W.len,W'.len]) a1 b1 e2) e1
def kvL(hs:List St):List (ByteArray×Int):=hs.zipIdx.map fun q=>(FP q.1,(q.2:Int))
theorem Rw(hs:List St)(s:St):kvL (hs++[s])=kvL hs++[(FP s,(hs.length:Int))]:=by
 unfold kvL
 rw[List.zipIdx_append,cQ]
 simp
theorem Nt{g:aE}{s:St}(W:iV g s):∀(hs:List St)(k:Nat),(∀t,t∈hs->iV g t)->rY ((hs.zipIdx k).map fun q=>(FP q.1,(q.2:Int))) (FP s)=(qJ hs s).map fun m=>((m+k:Nat):Int)
 |[],k,_=>rfl
 |t::hs,k,h=>by
  rw[List.zipIdx_cons,bJ,rY,qJ]
  by_cases e:t=s
  ·rw[aJ (by rw[e]),aJ e];simp
  ·rw[aF fun hh=>e (key_inj (h t (cE ..)) W hh),aF e,Nt W hs (k+1) fun t ht=>h t (cK _ ht)]
   cases qJ hs s with
   |none=>rfl
   |some m=>simp only[Option.map_some,dD];omega
theorem Bw{g:aE}{s:St}(W:iV g s)(hs:List St)(h:∀t,t∈hs->iV g t):rY (kvL hs) (FP s)=(qJ hs s).map fun m=>((m:Nat):Int):=Nt W hs 0 h
theorem Lh{S:aK}{h:Heap}{w:Sl}{rs:aH}{p:Int}(H:bE S h w rs)(B:∀x,x∈rs->0<=x/\x<100)(hn:rs.length<=1000)(p0:0<=p)(p1:p<100)(K:aL)(HK:∀h',Fr No h h'->K (VS (FP (rs,p))) h'):aG aB 55 #[.agg #[w.v,VI p]] h K:=by
 refine v55 w p h K fun b1 h1 fw f1 cU=> ?_
 have f1:=f1.aM
 have d1:=vK (show p.toNat<100 by omega)
 have l1:=xi B
 refine Rm p0 p1 _ ⟨_,rfl,cU,?_,?_⟩
 ·rw[cT];show _+1<=_;omega
 refine Bq (H.no f1) B hn _ fun h3 f3=>⟨_,rfl,cU.aC f3,?_,?_⟩
 ·rw[show(⟨#[58]⟩:ByteArray)=⟨[58].toArray⟩from rfl,gj,cT,cT,bT]
  show _+1+_<=_
  omega
 ·rw[show(⟨#[58]⟩:ByteArray)=⟨[58].toArray⟩from rfl,gj,gj]
  exact HK h3 (f1.trans f3)
theorem Ry{S S':aK}{h:Heap}{g w:Sl}{aI:aE}{rs:aH}{p:Int}(G:dE S h g aI)(H:bE S' h w rs)(W:iV aI (rs,p))(K:aL)(HK:∀h',Fr No h h'->K (.tuple #[VI (Je aI (rs,p)).1,VI (Je aI (rs,p)).2.1,VB (Je aI (rs,p)).2.2]) h'):aG aB 203 #[.agg #[g.v],.agg #[w.v,VI p]] h K:=by
 have hm:Tryz.prog.underlying 257=some (.map 9 3):=by kernel_rfl
 have hk:Tryz.prog.underlying 9=some .string:=by kernel_rfl
 have hz:qW aB 3=some (VI 0):=by kernel_rfl
 have wl:=W.len
 have ws:=iI W
 have ws4:rs.length<=8:=ws.2.2.2
 refine v203 g w p h K fun b1 b2 h2 fw eY f2 cR=> ?_
 have f2:=f2.aM
 have z2:=f2.size
 have l2:b2<h2.size:=cR.head.lt
 have l1:b1<h2.size:=cR.tail.head.lt
 refine Jg fun h3 M3 f3 s3=>⟨_,rfl,cR.aC f3,?_⟩
 have iR:=f2.trans f3
 refine jR (H.no iR) p (by omega) _ fun u h4 o4 f4=>⟨u,p,rfl,(cR.aC f3).aC f4,fun b3 h6 jY f6 kU=> ?_⟩
 have f6:=f6.aM
 have z4:=f4.size
 have z6:=f6.size
 have l3:b3<h6.size:=kU.head.lt
 have f36:=f4.trans f6
 generalize hF:(fun k=>Iv h3.size h4.size k\/k=b3)=F
 have F1:∀k,F k->h2.size<k:=fun k hk=>by rw[<-hF]at hk;rcases hk with hk|hk;exact fp s3 hk.1;omega
 have F2:∀k,Iv h3.size h4.size k->F k:=fun k hk=>by rw[<-hF];exact .inl hk
 have F3:F b3:=by rw[<-hF];exact .inr rfl
 have o6:cM h6 F u rs:=(Ow.no o4 f6).mono fun k _ hk=>F2 k hk
 have hub:¬u.own b3:=fun hk=>by have:=(o4.aR hk).2;omega
 have yP:∀{x:Heap},Fr (fun k=>h2.size<=k) h x->Fr No h x:=fun f=>f.mono fun k hk aQ=>absurd aQ (by omega)
 have G0:dE (fun k=>S k/\k<h.size) h g aI:=G.wH
 refine⟨fun x q h'=>Je aI (rs,p)=(0,0,false)/\Fr (fun k=>h2.size<=k) h h',⟨fun n i x q h'=>∃(hs:List St)(s:St),i=(hs.length:Int)/\n+hs.length=2001/\q=s.2/\cM h' F x s.1/\¬x.own b3/\rX h' h2.size (kvL hs)/\(∀t,t∈hs->iV aI t)/\iV aI s/\Je aI (rs,p)=Jc aI n hs.length s hs/\Fr (fun k=>h2.size<=k) h h',⟨2001,[],(rs,p),rfl,rfl,rfl,o6,hub,M3.fr f36 (fun h=>h),fun t ht=>(by cases ht),W,rfl,(iR.trans f36).aC⟩,?_⟩,?_⟩
 ·rintro n i x q h7 ⟨hs,s,rfl,en,rfl,o7,hx,M7,Wh,Ws,eP,f7⟩ jQ
  have ss:=iI Ws
  refine⟨fun e=> ?_,fun e=> ?_⟩
  ·simp only[aT]at e
   obtain⟨n,rfl⟩:∃n',n=n'+1:=⟨n-1,by omega⟩
   rw[Jc]at eP
   refine Lh (show bE _ h7 x s.1 from o7.fW) (fun y hy=>by have:=ss.1 y hy;omega) (by omega) ss.2.1 (by omega) _ fun h8 f8=>⟨_,rfl,jQ.aC f8,?_⟩
   have M8:=M7.fr f8 (fun h=>h)
   refine Lg hm hk hz M8 ⟨_,_,rfl,fun e2=> ?_,fun e2=> ?_⟩
   ·rw[Bw Ws hs Wh]at e2⊢
    cases hi:qJ hs s with
    |none=>rw[hi]at e2;cases e2
    |some m=>
     rw[hi]at eP
     simp only at eP
     have hml:=(AJ.1 (ti hi)).1
     simp only[Option.map_some,Option.getD_some]
     rw[aP _ (by omega) (by omega)]
     have:=HK h8 ((yP f7).trans f8)
     rw[eP]at this
     exact this
   ·rw[Bw Ws hs Wh]at e2
    cases hi:qJ hs s with
    |some m=>rw[hi]at e2;cases e2
    |none=>
     rw[hi]at eP
     simp only at eP
     refine Dp hm hk M8 (by rw[Bw Ws hs Wh,hi];rfl) fun v h9 M9 f9=>⟨?_,?_⟩
     ·exact(jQ.aC f8).fr f9 fun q hq hk=>by
       simp only[aO,aS,aN]at hq
       simp only[In,aO,aS,aN]at hk
       rcases hq with rfl|rfl|rfl<;>simp only at hk<;>omega
     have gM:Vars h9 [(b3,[x.v,VI s.2]),(b2,[w.v,VI p]),(b1,[g.v])]:=(jQ.aC f8).fr f9 fun q hq hk=>by
      simp only[aO,aS,aN]at hq
      simp only[In,aO,aS,aN]at hk
      rcases hq with rfl|rfl|rfl<;>simp only at hk<;>omega
     have f79:Fr (fun k=>h2.size<=k) h7 h9:=f8.aC.trans (f9.mono fun k _ hk=>by simp[In]at hk;omega)
     have o9:cM h9 F x s.1:=Ow.fr (Ow.no o7 f8) f9 fun k hk aQ=>by have:=F1 _ (o7.aR hk).1;simp[In]at aQ;omega
     have PH:=f7.trans f79
     have M9':rX h9 h2.size (kvL (hs++[s])):=by rw[Rw];exact M9
     have G9:dE (fun k=>S k/\k<h.size) h9 g aI:=G0.fr PH fun k hk aQ=>by omega
     refine Fw (s:=s) G9 gM.head o9 (fun k hk aQ=>by have:=F1 _ aQ;omega) F3 hx Ws _ (fun hn fa f10=>⟨x,s.2,false,rfl,gM.aC f10,fun _=> ?_,fun e=>by cases e⟩) (fun s' Kt fa nC Kl f10=>⟨x,s'.2,true,rfl,?_,fun e=>(by cases e),fun _=> ?_⟩)
     ·rw[hn]at eP
      exact⟨eP,PH.trans f10.aC⟩
     ·exact .cons Kl (gM.ne) (gM.tail.fr f10 fun q hq hk=>by
       simp only[aO,aS,aN]at hq
       have:=F1 _ hk
       rcases hq with rfl|rfl<;>simp only at this<;>omega)
     ·rw[Kt]at eP
      simp only at eP
      refine⟨n,by omega,hs++[s],s',?_,by simp;omega,rfl,nC,hx,M9'.fr f10 fun hk=>by have:=F1 _ hk;omega,fun t ht=> ?_,Ws.step Kt,by rw[eP];simp,PH.trans (f10.mono fun k _ hk=>by have:=F1 _ hk;omega)⟩
      ·rw[aP _ (by omega) (by omega)];simp
      ·rcases gG.1 ht with ht|ht
       ·exact Wh t ht
       ·simp only[aO,aS,aN]at ht
        rw[ht];exact Ws
  ·simp only[aW]at e
   have:n=0:=by omega
   subst this
   exact⟨eP,f7⟩
 ·rintro x q jq ⟨eP,f11⟩ iN
  have:=HK jq (yP f11)
  rw[eP]at this
  exact this
theorem uh(b:Nat):∀(vs:List Value)(i o:Nat)(w:World),(World.setCells w b (o+i) vs).heap=(vs.zipIdx i).foldl (fun h p=>Mx.dS h ((⟨b,o,none⟩:Addr).add p.2) p.1) w.heap/\dV w (World.setCells w b (o+i) vs)
 |[],i,o,w=>⟨rfl,dV.refl _⟩
 |v::vs,i,o,w=>by
  rw[World.setCells,List.zipIdx_cons,List.foldl_cons,iZ]
  obtain⟨a,b'⟩:=uh b vs (i+1) o (w.setCell ⟨b,o+i,none⟩ v)
  rw[show o+i+1=o+(i+1) by omega,a]
  exact⟨rfl,dV.trans (b:=w.setCell ⟨b,o+i,none⟩ v) ⟨rfl,rfl,rfl⟩ b'⟩
theorem Ow.afC{F:aK}{e:TypeId}{s:Sl}{g o:Nat}(ha:s.a=some ⟨g,o,none⟩):∀(vs:List Value)(i:Nat){h:Heap}{cs:List Value},Ow h F e 1 s cs->i+vs.length<=s.n->
 Fr s.own h ((vs.zipIdx i).foldl (fun h p=>Mx.dS h ((⟨g,o,none⟩:Addr).add p.2) p.1) h)/\Ow ((vs.zipIdx i).foldl (fun h p=>Mx.dS h ((⟨g,o,none⟩:Addr).add p.2) p.1) h) F e 1 s (cs.take i++vs++cs.drop (i+vs.length))
 |[],i,h,cs,H,_=>⟨Fr.refl _ _,by simpa using H⟩
 |v::vs,i,h,cs,H,hl=>by
  simp only[List.length_cons]at hl
  simp only[List.zipIdx_cons,List.foldl_cons]
  have hc:=H.len
  have jH:((i:Nat):Int)<(s.n:Int):=by omega
  have h0':(0:Int)<=((i:Nat):Int):=by omega
  obtain⟨_,a2,a3⟩:=H.gF h0' jH v
  have ea:s.at (i:Int) 1=(⟨g,o,none⟩:Addr).add i:=by rw[at_one ha];rfl
  rw[ea]at a2 a3
  rw[show((i:Nat):Int).toNat=i from rfl]at a2
  obtain⟨b1,b2⟩:=Ow.afC ha vs (i+1) a2 (by omega)
  refine⟨a3.trans b1,?_⟩
  have eq1:(cs.set i v).take (i+1)++vs++(cs.set i v).drop (i+1+vs.length)=cs.take i++(v::vs)++cs.drop (i+(v::vs).length):=by
   have e1:(cs.set i v).take (i+1)=cs.take i++[v]:=by
    rw[og (by simp;omega),List.take_set_of_le (aY _)]
    simp
   have e2:(cs.set i v).drop (i+1+vs.length)=cs.drop (i+(v::vs).length):=by
    rw[List.drop_set_of_lt (by omega)]
    congr 1
    simp;omega
   rw[e1,e2]
   simp
  rw[<-eq1]
  exact b2
theorem Rz{h:Heap}{F:aK}{s:Sl}{xs:aH}(O:cM h F s xs){i:Nat}(hi:i<xs.length)(K:aL)(HK:∀t h',cM h' F t (xs.eraseIdx i)->Fr s.own h h'->(∀k,t.own k->s.own k)->K t.v h'):aG aB 258 #[s.v,VI i,VI (i+1:Nat)] h K:=by
 have sn:s.n=xs.length:=by have:=O.len;simpa using this.symm
 rcases O.out with⟨_,hv⟩|⟨g,o,ma,ha,hF,hg,h1,h2,h3,h4⟩
 ·rw[List.map_eq_nil_iff]at hv
  rw[hv]at hi
  simp at hi
 have hsv:s.v= .slice (some ⟨g,o,none⟩) xs.length s.c:=by unfold Sl.v;rw[ha,<-sn]
 refine⟨fun w hw=> .inr ⟨258,_,w,Go.Proofs.enters_of Tryz.func258 (by kernel_rfl) rfl _ _,rfl,?_⟩⟩
 subst hw
 rw[hsv]
 refine(Tryz.slices_Delete_int_cells g o xs.length s.c i (i+1) xs w (aY _) (by omega) (by have:=h2;simp only[maxLen]at this;omega) (by omega) (by omega) (fun j hj=> ?_) (fun j hj=> ?_)).mono ?_
 ·have:=Ow.E7 O (i:=j) (by simpa using hj)
  rw[at_one ha]at this
  rw[zx,<-uy,bA hj]
  simpa using this
 ·rw[N6]
  exact HW hg
 ·rintro e w' ⟨rfl,q,rfl⟩
  rw[cW (aY _),show i+1-i=1 by omega]
  obtain⟨a1,a2⟩:=uh g ((xs.take i++xs.drop (i+1)++List.replicate 1 0).map (Value.int .i64)) 0 o (w.drewN q)
  rw[Nat.add_zero]at a1 a2
  have ell:(xs.take i++xs.drop (i+1)++List.replicate 1 (0:Int)).length=xs.length:=by simp;omega
  obtain⟨b1,b2⟩:=Ow.afC ha ((xs.take i++xs.drop (i+1)++List.replicate 1 (0:Int)).map (Value.int .i64)) 0 O (by rw[bB,ell];omega)
  refine⟨_,rfl,dV.trans (b:=w.drewN q) ⟨rfl,rfl,rfl⟩ a2,?_⟩
  rw[a1]
  have b3:=Ow.cut b2 (l:=0) (m:=xs.length-1) (by omega) (by omega)
  have et:s.cut 1 0 (xs.length-1) s.c=⟨some ⟨g,o,none⟩,xs.length-1,s.c⟩:=by
   unfold Sl.cut
   rw[ha,aF (by omega)]
   rfl
  rw[et]at b3
  refine HK ⟨some ⟨g,o,none⟩,xs.length-1,s.c⟩ _ ?_ b1 fun k hk=>by unfold Sl.own at*;rw[ha];exact hk
  have ex:(((List.take 0 (xs.map VI)++(xs.take i++xs.drop (i+1)++List.replicate 1 (0:Int)).map (Value.int .i64)++List.drop (0+((xs.take i++xs.drop (i+1)++List.replicate 1 (0:Int)).map (Value.int .i64)).length) (xs.map VI)).drop (0*1)).take ((xs.length-1-0)*1))=(xs.eraseIdx i).map VI:=by
   rw[bB,ell,jK (l:=xs.map VI) (by simp),gK,List.take_zero,List.nil_append,Nat.zero_mul,oq,cQ,List.take_append_of_le_length (by simp;omega),cW (by simp;omega),List.eraseIdx_eq_take_drop_succ]
  rw[ex]at b3
  exact b3
def dB(rows:aE):lQ:=fun i j=>(rows.getD i []).getD j 0
theorem jf{rows:aE}{i j:Nat}(h1:i<rows.length)(h2:j<rows[i].length):dB rows i j=(rows[i])[j]:=by unfold dB;rw[bH h1,bA h2]
theorem RA{rows:aE}{i j:Nat}{v:Int}(h1:i<rows.length)(h2:j<rows[i].length)(a b:Nat):dB (rows.set i (rows[i].set j v)) a b=if a=i/\b=j then v else dB rows a b:=by
 unfold dB
 rw[eG (l:=rows.set i _),tf]
 by_cases ha:i=a
 ·subst ha
  rw[aJ rfl,aJ h1,Option.getD_some,bH h1,eG,tf]
  by_cases hb:j=b
  ·subst hb;rw[aJ rfl,aJ h2,aJ ⟨rfl,rfl⟩];rfl
  ·rw[aF hb,aF fun h=>hb h.2.symm,eG]
 ·rw[aF ha,aF fun h=>ha h.1.symm]
  simp[eG]
structure Sq(n:Nat)(rows:aE):Prop where
 len:rows.length=n
 row:∀i(h:i<rows.length),rows[i].length=n
theorem Sq.set{n:Nat}{rows:aE}(H:Sq n rows){i:Nat}(hi:i<rows.length)(l:aH)(hl:l.length=n):Sq n (rows.set i l):=⟨by rw[bY];exact H.len,fun a ha=>by
 rw[fQ]
 split
 ·exact hl
 ·exact H.row a (by rw[bY]at ha;exact ha)⟩
def VJ(rows:aE)(i j:Nat):aE:=(rows.set i (rows.getD j [])).set j (rows.getD i [])
theorem Nu{rows:aE}{i j:Nat}(hi:i<rows.length)(hj:j<rows.length)(a:Nat):(VJ rows i j).getD a []=rows.getD (hH i j a) []:=by
 unfold VJ hH
 rw[eG,tf,bY,tf]
 by_cases h1:a=i
 ·subst h1
  rw[aJ rfl]
  by_cases h2:j=a
  ·subst h2;rw[aJ rfl,aJ hj];simp
  ·rw[aF h2,aJ rfl,aJ hi];rfl
 ·rw[aF h1]
  by_cases h2:a=j
  ·subst h2;rw[aJ rfl,aJ hj,aJ rfl];rfl
  ·rw[aF h2,aF fun e=>h2 e.symm,aF fun e=>h1 e.symm,eG]
theorem Nv{rows:aE}{i j:Nat}(hi:i<rows.length)(hj:j<rows.length):dB (VJ rows i j)=fun a=>dB rows (hH i j a):=by
 funext a b
 unfold dB
 rw[Nu hi hj]
theorem ZW{n:Nat}{rows:aE}(H:Sq n rows){i j:Nat}(hi:i<rows.length)(hj:j<rows.length):Sq n (VJ rows i j):=by
 unfold VJ
 refine(H.set hi _ ?_).set (by rw[bY];exact hj) _ ?_
 ·rw[bH hj];exact H.row j hj
 ·rw[bH hi];exact H.row i hi
theorem dO.swap{h:Heap}{F:aK}{eo ei:TypeId}{s:Sl}{aI:aE}(H:dO h F eo ei s aI){i j:Int}(i0:0<=i)(i1:i<(aI.length:Int))(j0:0<=j)(j1:j<(aI.length:Int))(fH:i≠j):
 ∃si sj:Sl,bG h (s.at i 1)=some si.v/\bG h (s.at j 1)=some sj.v/\fq s i/\fq s j/\fC h (s.at i 1)/\fC (dS h (s.at i 1) sj.v) (s.at j 1)/\
  dO (dS (dS h (s.at i 1) sj.v) (s.at j 1) si.v) F eo ei s (VJ aI i.toNat j.toNat)/\Fr s.own h (dS (dS h (s.at i 1) sj.v) (s.at j 1) si.v)/\Fr s.own h (dS h (s.at i 1) sj.v):=by
 have hlen:=H.len
 obtain⟨ss,e1,h2,h3,h4,h5⟩:=H.out
 have hi:i.toNat<ss.length:=by omega
 have hj:j.toNat<ss.length:=by omega
 have ci:=h2.E7 (i:=i.toNat) (by simpa using hi)
 have cj:=h2.E7 (i:=j.toNat) (by simpa using hj)
 rw[show((i.toNat:Nat):Int)=i by omega,bV]at ci
 rw[show((j.toNat:Nat):Int)=j by omega,bV]at cj
 obtain⟨w1,o1,f1⟩:=h2.gF (i:=i) i0 (by omega) ss[j.toNat].v
 obtain⟨w2,o2,f2⟩:=o1.gF (i:=j) j0 (by omega) ss[i.toNat].v
 refine⟨ss[i.toNat],ss[j.toNat],ci,cj,h2.bQ i0 (by omega),h2.bQ j0 (by omega),w1,w2,?_,f1.trans f2,f1⟩
 have f:=f1.trans f2
 have es:((ss.map Sl.v).set i.toNat ss[j.toNat].v).set j.toNat ss[i.toNat].v=((ss.set i.toNat ss[j.toNat]).set j.toNat ss[i.toNat]).map Sl.v:=by rw[ig,ig]
 rw[es]at o2
 have eg:∀a(ha:a<((ss.set i.toNat ss[j.toNat]).set j.toNat ss[i.toNat]).length),∃hb:hH i.toNat j.toNat a<ss.length,((ss.set i.toNat ss[j.toNat]).set j.toNat ss[i.toNat])[a]=ss[hH i.toNat j.toNat a]:=fun a ha=>by
  rw[bY,bY]at ha
  have hb:hH i.toNat j.toNat a<ss.length:=by unfold hH;split<;>(try split)<;>omega
  refine⟨hb,?_⟩
  rw[fQ]
  by_cases h1:j.toNat=a
  ·rw[aJ h1]
   congr 1
   unfold hH
   rw[aF (by omega),aJ h1.symm]
  ·rw[aF h1,fQ]
   by_cases h2:i.toNat=a
   ·rw[aJ h2]
    congr 1
    unfold hH
    rw[aJ h2.symm]
   ·rw[aF h2]
    congr 1
    unfold hH
    rw[aF fun e=>h2 e.symm,aF fun e=>h1 e.symm]
 have inj:∀a b,a≠b->hH i.toNat j.toNat a≠hH i.toNat j.toNat b:=fun a b hab=>by
  unfold hH
  by_cases h1:a=i.toNat<;>by_cases h2:a=j.toNat<;>by_cases h3:b=i.toNat<;>by_cases h4:b=j.toNat<;>simp only[h1,h2,h3,h4,jE,gz]<;>(repeat' split)<;>omega
 refine⟨(ss.set i.toNat ss[j.toNat]).set j.toNat ss[i.toNat],?_,o2,fun a ha hb=> ?_,fun a b ha hb hab k=> ?_,fun a ha k hk=> ?_⟩
 ·unfold VJ
  simp only[bY]
  exact e1
 ·obtain⟨hc,e⟩:=eg a ha
  rw[e]
  have ex:(VJ aI i.toNat j.toNat)[a]=aI[hH i.toNat j.toNat a]'(by omega):=by
   have:=Nu (rows:=aI) (i:=i.toNat) (j:=j.toNat) (by omega) (by omega) a
   rw[bH hb,bH (by omega)]at this
   exact this
  rw[ex]
  exact(h3 _ hc (by omega)).fr f fun k hk hs=>h5 _ hc k hs hk
 ·obtain⟨hc,e⟩:=eg a ha
  obtain⟨hd,e'⟩:=eg b hb
  rw[e,e']
  exact h4 _ _ hc hd (inj a b hab) k
 ·obtain⟨hc,e⟩:=eg a ha
  rw[e]
  exact h5 _ hc k hk
theorem xt{x:Int}{b:Nat}(h:x.natAbs<=b): -(b:Int)<=x/\x<=b:=by omega
theorem Nw{x y:Int}{b:Nat}(h:x.natAbs<=b)(h':y.natAbs<=b):(x*y).natAbs<=b*b:=by rw[sZ];exact vm h h'
theorem amN:Km 6=720000000:=rfl
theorem ZX:Km 7=50400000000:=rfl
def zj(R:lQ)(k:Nat)(last:Int)(i j:Nat):Int:=(R i j*R k k-R i k*R k j).tdiv last
theorem VK{n k:Nat}{last:Int}{O R:lQ}(H:vJ n k last O fun i j=>R (k+i) (k+j))(hO:Small n O)(hn:n<=7)(hl:last≠0){i j:Nat}(hi:k<i)(jH:i<n)(hj:k<j)(IU:j<n):
 aX ((aX (aX (R i j*R k k)-aX (R i k*R k j))).tdiv last)=zj R k last i j:=by
 have b:∀a b,a<n->k<=a->b<n->k<=b->(R a b).natAbs<=720000000:=fun a b h1 h2 h3 h4=>by
  have:=H.afA hO (i:=a-k) (j:=b-k) (by omega) (by omega)
  (try simp only at this)
  rw[show k+(a-k)=a by omega,show k+(b-k)=b by omega]at this
  exact cB this (cB (Bk (show k+1<=6 by omega)) (by rw[amN];exact aY _))
 have b1:=xt (Nw (b i j jH (by omega) IU (by omega)) (b k k (by omega) (by omega) (by omega) (by omega)))
 have b2:=xt (Nw (b i k jH (by omega) (by omega) (by omega)) (b k j (by omega) (by omega) IU (by omega)))
 rw[aP (R i j*R k k) (by omega) (by omega),aP (R i k*R k j) (by omega) (by omega),aP (R i j*R k k-R i k*R k j) (by omega) (by omega)]
 obtain⟨q,hq⟩:=H.exact (i:=i-k-1) (j:=j-k-1) (by omega) (by omega)
 have eq:R i j*R k k-R i k*R k j=last*q:=by
  rw[<-hq]
  unfold FG
  (try simp only)
  rw[show k+(i-k-1+1)=i by omega,show k+(j-k-1+1)=j by omega,show k+0=k by omega,jL (R k k)]
 unfold zj
 have js:q.natAbs<=(last*q).natAbs:=by
  rw[sZ]
  exact Nat.le_mul_of_pos_left _ (by omega)
 rw[MW eq hl]
 rw[<-eq]at js
 exact aP _ (by omega) (by omega)
theorem RB{n k:Nat}{last:Int}{O R R':lQ}(H:vJ n k last O fun i j=>R (k+i) (k+j))(hl:last≠0)(hk:R k k≠0)(hR:∀i j,k<i->i<n->k<j->j<n->R' i j=zj R k last i j):vJ n (k+1) (R k k) O fun i j=>R' (k+1+i) (k+1+j):=by
 have:=vJ.step (A':=fun i j=>R' (k+1+i) (k+1+j)) H hl hk fun i j hi hj=>by
  (try simp only)
  rw[hR _ _ (by omega) (by omega) (by omega) (by omega)]
  unfold zj FG
  (try simp only)
  rw[show k+(i+1)=k+1+i by omega,show k+(j+1)=k+1+j by omega,show k+0=k by omega,jL (R k k)]
 exact this
def PM(s:Int):Prop:=s=1\/s= -1
theorem PM.neg_eq{s:Int}(h:PM s):aX (0-s)= -s:=by rcases h with rfl|rfl<;>rfl
theorem PM.neg{s:Int}(h:PM s):PM (aX (0-s)):=by rcases h with rfl|rfl;exact .inr rfl;exact .inl rfl
theorem VM{F:aK}{iC:Heap}{a:Sl}{rt:aE}{n:Nat}{k i j last:Int}{R O:lQ}(Oq:ia iC F a rt)(ZY:Sq n rt)(S:Small n O)(hn:n<=7)(hl:last≠0)(B:vJ n k.toNat last O fun i j=>R (k.toNat+i) (k.toNat+j))(k0:0<=k)(ki:k<i)(hi:i<(n:Int))(kj:k<j)(hj:j<(n:Int))
 (Yj:∀i' j',i'<n->j'<n->dB rt i' j'=if k.toNat<i'/\k.toNat<j'/\(i'<i.toNat\/i'=i.toNat/\j'<j.toNat)then zj R k.toNat last i' j' else R i' j') (C:Heap->Prop)
 (HC:∀tO rs,ia tO F a rs->Sq n rs->(∀i' j',i'<n->j'<n->dB rs i' j'=if k.toNat<i'/\k.toNat<j'/\(i'<i.toNat\/i'=i.toNat/\j'<j.toNat+1)then zj R k.toNat last i' j' else R i' j')->Fr F iC tO->C tO):
 fq a i/\∃t87:Sl,bG iC (Sl.at a i 1)=some t87.v/\fq a i/\∃t92:Sl,bG iC (Sl.at a i 1)=some t92.v/\fq t92 j/\∃t95:Int,bG iC (Sl.at t92 j 1)=some (VI t95)/\fq a k/\∃t99:Sl,bG iC (Sl.at a k 1)=some t99.v/\fq t99 k/\∃t102:Int,bG iC (Sl.at t99 k 1)=some (VI t102)/\fq a i/\∃t107:Sl,bG iC (Sl.at a i 1)=some t107.v/\fq t107 k/\∃t110:Int,bG iC (Sl.at t107 k 1)=some (VI t110)/\fq a k/\∃t114:Sl,bG iC (Sl.at a k 1)=some t114.v/\fq t114 j/\∃t117:Int,bG iC (Sl.at t114 j 1)=some (VI t117)/\last≠0/\
  fq t87 j/\fC iC (Sl.at t87 j 1)/\Vars (dS iC (Sl.at t87 j 1) (VI (aX (Int.tdiv (aX ((aX (t95*t102))-(aX (t110*t117)))) last)))) []/\∀tO:Heap,tO=dS iC (Sl.at t87 j 1) (VI (aX (Int.tdiv (aX ((aX (t95*t102))-(aX (t110*t117)))) last)))->Vars tO []->C tO:=by
 have asJ:=ZY.len
 have Yk:=dO.rd Oq
 have i0:0<=i:=by omega
 have j0:0<=j:=by omega
 have ir:i<(rt.length:Int):=by omega
 have kr:k<(rt.length:Int):=by omega
 obtain⟨si,ci,oi,zK⟩:=dO.inner Oq i0 ir
 have Ms:i.toNat<rt.length:=by omega
 have FR:k.toNat<rt.length:=by omega
 have zP:i.toNat<n:=by omega
 have aQ:k.toNat<n:=by omega
 have KY:j.toNat<n:=by omega
 have lri:=ZY.row i.toNat Ms
 have lrk:=ZY.row k.toNat FR
 have ri:bE F iC si (rt[i.toNat]' Ms):=oi.fW
 obtain⟨sk,ck,rk⟩:=Yk.get k0 kr
 have ij1:j.toNat<(rt[i.toNat]' Ms).length:=by omega
 have ik1:k.toNat<(rt[i.toNat]' Ms).length:=by omega
 have kj1:j.toNat<(rt[k.toNat]' FR).length:=by omega
 have kk1:k.toNat<(rt[k.toNat]' FR).length:=by omega
 have v1:(rt[i.toNat]' Ms)[j.toNat]'ij1=R i.toNat j.toNat:=by rw[<-jf Ms ij1,Yj _ _ zP KY,aF (by omega)]
 have v2:(rt[k.toNat]' FR)[k.toNat]'kk1=R k.toNat k.toNat:=by rw[<-jf FR kk1,Yj _ _ aQ aQ,aF (by omega)]
 have v3:(rt[i.toNat]' Ms)[k.toNat]'ik1=R i.toNat k.toNat:=by rw[<-jf Ms ik1,Yj _ _ zP aQ,aF (by omega)]
 have v4:(rt[k.toNat]' FR)[j.toNat]'kj1=R k.toNat j.toNat:=by rw[<-jf FR kj1,Yj _ _ aQ KY,aF (by omega)]
 have rin:=bE.len ri
 have rkn:=bE.len rk
 have b1:j<((rt[i.toNat]' Ms).length:Int):=by omega
 have b2:k<((rt[i.toNat]' Ms).length:Int):=by omega
 have b3:j<((rt[k.toNat]' FR).length:Int):=by omega
 have b4:k<((rt[k.toNat]' FR).length:Int):=by omega
 obtain⟨wr,os,fs⟩:=Ow.gF oi j0 (show j<(si.n:Int) by omega) (VI (zj R k.toNat last i.toNat j.toNat))
 have es:=VK B S hn hl (i:=i.toNat) (j:=j.toNat) (by omega) zP (by omega) KY
 refine⟨Yk.bQ i0 ir,si,ci,Yk.bQ i0 ir,si,ci,ri.bQ j0 b1,_,ri.get j0 b1,Yk.bQ k0 kr,sk,ck,rk.bQ k0 b4,_,rk.get k0 b4,Yk.bQ i0 ir,si,ci,ri.bQ k0 b2,_,ri.get k0 b2,Yk.bQ k0 kr,sk,ck,rk.bQ j0 b3,_,rk.get j0 b3,hl,ri.bQ j0 b1,wr,.nil,?_⟩
 simp only[v1,v2,v3,v4,es]
 rintro tO rfl _
 have os':cM (dS iC (si.at j 1) (VI (zj R k.toNat last i.toNat j.toNat))) F si ((rt[i.toNat]' Ms).set j.toNat (zj R k.toNat last i.toNat j.toNat)):=by
  show Ow _ _ _ _ _ _
  rw[ig]
  exact os
 refine HC _ _ (zK _ _ fs os') (ZY.set Ms _ (by rw[bY];exact lri)) (fun i' j' h1 h2=> ?_) (fs.mono fun q _ hq=>(Ow.aR oi hq).1)
 rw[RA Ms ij1,Yj i' j' h1 h2]
 by_cases hc:i'=i.toNat/\j'=j.toNat
 ·rw[aJ hc,hc.1,hc.2,aJ (by omega)]
 ·rw[aF hc]
  by_cases hd:k.toNat<i'/\k.toNat<j'/\(i'<i.toNat\/i'=i.toNat/\j'<j.toNat)
  ·rw[aJ hd,aJ (by omega)]
  ·rw[aF hd,aF (by omega)]
theorem VN{F:aK}{fa:Heap}{s a:Sl}{rows:aE}{n:Nat}{k last:Int}{O:lQ}(nC:ia fa F a rows)(Q10:Sq n rows)(S:Small n O)(hn:n<=7)(hl:last≠0)(B:vJ n k.toNat last O fun i j=>dB rows (k.toNat+i) (k.toNat+j))(k0:0<=k)(hk:k<(n:Int))(sn:s.n=n)(C:Int->Heap->Prop)
 (HC:∀jq rs,ia jq F a rs->Sq n rs->(∀i' j',i'<n->j'<n->dB rs i' j'=if k.toNat<i'/\k.toNat<j' then zj (dB rows) k.toNat last i' j' else dB rows i' j')->Fr F fa jq->C (dB rows k.toNat k.toNat) jq):
 ∃RC:Nat->Int->Heap->Prop,(∃n0:Nat,RC n0 (k+1) fa)/\∀(n_4:Nat)(i:Int)(jq:Heap),RC n_4 i jq->Vars jq []->
  ((decide (i<(s.n:Int)))=true->∃ZZ:Nat->Int->Heap->Prop,(∃n0:Nat,ZZ n0 (k+1) jq)/\∀(n_5:Nat)(j:Int)(iC:Heap),ZZ n_5 j iC->Vars iC []->
    ((decide (j<(s.n:Int)))=true->fq a i/\∃t87:Sl,bG iC (Sl.at a i 1)=some t87.v/\fq a i/\∃t92:Sl,bG iC (Sl.at a i 1)=some t92.v/\fq t92 j/\∃t95:Int,bG iC (Sl.at t92 j 1)=some (VI t95)/\fq a k/\∃t99:Sl,bG iC (Sl.at a k 1)=some t99.v/\fq t99 k/\∃t102:Int,bG iC (Sl.at t99 k 1)=some (VI t102)/\fq a i/\∃t107:Sl,bG iC (Sl.at a i 1)=some t107.v/\fq t107 k/\∃t110:Int,bG iC (Sl.at t107 k 1)=some (VI t110)/\fq a k/\∃t114:Sl,bG iC (Sl.at a k 1)=some t114.v/\fq t114 j/\∃t117:Int,bG iC (Sl.at t114 j 1)=some (VI t117)/\last≠0/\
      fq t87 j/\fC iC (Sl.at t87 j 1)/\Vars (dS iC (Sl.at t87 j 1) (VI (aX (Int.tdiv (aX ((aX (t95*t102))-(aX (t110*t117)))) last)))) []/\∀tO:Heap,tO=dS iC (Sl.at t87 j 1) (VI (aX (Int.tdiv (aX ((aX (t95*t102))-(aX (t110*t117)))) last)))->Vars tO []->∃m:Nat,m<n_5/\ZZ m (aX (j+1)) tO)/\
    ((decide (j<(s.n:Int)))=false->∃m:Nat,m<n_4/\RC m (aX (i+1)) iC))/\
  ((decide (i<(s.n:Int)))=false->fq a k/\∃t126:Sl,bG jq (Sl.at a k 1)=some t126.v/\fq t126 k/\∃t129:Int,bG jq (Sl.at t126 k 1)=some (VI t129)/\C t129 jq):=by
 refine⟨fun m4 i h'=>k<i/\i+m4=(n:Int)/\(∃rs,ia h' F a rs/\Sq n rs/\∀i' j',i'<n->j'<n->dB rs i' j'=if k.toNat<i'/\k.toNat<j'/\i'<i.toNat then zj (dB rows) k.toNat last i' j' else dB rows i' j')/\Fr F fa h',⟨n-(k.toNat+1),by omega,by omega,⟨rows,nC,Q10,fun i' j' _ _=>by rw[aF (by omega)]⟩,Fr.refl _ _⟩,?_⟩
 rintro m4 i jq ⟨i0',i1',⟨rs,mD,Q11,VC⟩,f11⟩ iN
 have asO:=Q11.len
 refine⟨fun e7=> ?_,fun e7=> ?_⟩
 ·simp only[aT]at e7
  have hi7:i<(n:Int):=by omega
  refine⟨fun m5 j h'=>k<j/\j+m5=(n:Int)/\(∃rs,ia h' F a rs/\Sq n rs/\∀i' j',i'<n->j'<n->dB rs i' j'=if k.toNat<i'/\k.toNat<j'/\(i'<i.toNat\/i'=i.toNat/\j'<j.toNat)then zj (dB rows) k.toNat last i' j' else dB rows i' j')/\Fr F fa h',⟨n-(k.toNat+1),by omega,by omega,⟨rs,mD,Q11,fun i' j' h1 h2=> ?_⟩,f11⟩,?_⟩
  ·rw[VC i' j' h1 h2]
   by_cases hc:k.toNat<i'/\k.toNat<j'/\i'<i.toNat
   ·rw[aJ hc,aJ ⟨hc.1,hc.2.1,.inl hc.2.2⟩]
   ·rw[aF hc,aF (by omega)]
  rintro m5 j iC ⟨j0',j1',⟨rt,Oq,ZY,Yj⟩,f12⟩ qI
  refine⟨fun e8=> ?_,fun e8=> ?_⟩
  ·simp only[aT]at e8
   have hj8:j<(n:Int):=by omega
   refine VM Oq ZY S hn hl B k0 i0' hi7 j0' hj8 Yj _ fun tO vO OY Q13 amP f13=> ?_
   have jw:aX (j+1)=j+1:=aP _ (by omega) (by omega)
   rw[jw]
   exact⟨m5-1,by omega,by omega,by omega,⟨vO,OY,Q13,by rw[show(j+1).toNat=j.toNat+1 by omega];exact amP⟩,f12.trans f13⟩
  ·simp only[aW]at e8
   have hj8:j=(n:Int):=by omega
   have iw:aX (i+1)=i+1:=aP _ (by omega) (by omega)
   rw[iw]
   refine⟨m4-1,by omega,by omega,by omega,⟨rt,Oq,ZY,fun i' j' h1 h2=> ?_⟩,f12⟩
   rw[Yj i' j' h1 h2,show(i+1).toNat=i.toNat+1 by omega]
   by_cases hd:k.toNat<i'/\k.toNat<j'/\(i'<i.toNat\/i'=i.toNat/\j'<j.toNat)
   ·rw[aJ hd,aJ (by omega)]
   ·rw[aF hd,aF (by omega)]
 ·simp only[aW]at e7
  have hi7:i=(n:Int):=by omega
  have VO:=dO.rd mD
  have kr:k<(rs.length:Int):=by omega
  have FR:k.toNat<rs.length:=by omega
  have aQ:k.toNat<n:=by omega
  obtain⟨sk,ck,rk⟩:=VO.get k0 kr
  have lrk:=Q11.row k.toNat FR
  have kk1:k.toNat<(rs[k.toNat]' FR).length:=by omega
  have v2:(rs[k.toNat]' FR)[k.toNat]'kk1=dB rows k.toNat k.toNat:=by rw[<-jf FR kk1,VC _ _ aQ aQ,aF (by omega)]
  refine⟨VO.bQ k0 kr,sk,ck,rk.bQ k0 (by omega),_,rk.get k0 (by omega),?_⟩
  rw[v2]
  refine HC jq rs mD Q11 (fun i' j' h1 h2=> ?_) f11
  rw[VC i' j' h1 h2]
  by_cases hd:k.toNat<i'/\k.toNat<j'/\i'<i.toNat
  ·rw[aJ hd,aJ ⟨hd.1,hd.2.1⟩]
  ·rw[aF hd,aF (by omega)]
set_option maxHeartbeats 4000000 in
theorem oB{S:aK}{h:Heap}{s:Sl}{aI:aE}(M:dE S h s aI)(Q:Sq aI.length aI)(hn:aI.length<=7)(hb:Small aI.length (dB aI)):u4 aB 212 #[s.v] h (VI (dR aI.length (dB aI))):=by
 intro K HK
 have sn:=M.len
 refine v212 s h K ?_
 have yP:∀{x:Heap},Fr (fun k=>h.size<=k) h x->Fr No h x:=fun f=>f.mono fun k hk aQ=>absurd aQ (by omega)
 refine bC tN (fun k=>h.size<=k) (fun _ h=>h) 0 (by omega) [] rfl rfl fun a0 h1 n1 c1 o1 f1 m1 _=>⟨a0,rfl,.nil,?_⟩
 have z1:=f1.size
 have Vd:ia h1 (fun k=>h.size<=k) a0 []:=⟨[],rfl,o1,fun i h1=>by simp at h1,fun i j h1=>by simp at h1,fun i h1=>by simp at h1⟩
 refine⟨fun m a i h'=>0<=i/\i+m=(aI.length:Int)/\ia h' (fun k=>h.size<=k) a (aI.take i.toNat)/\Fr (fun k=>h.size<=k) h h',⟨aI.length,cL _,by omega,Vd,f1.aC⟩,?_⟩
 rintro m a i h2 ⟨i0,i1,o2,f2⟩ cR
 have M2:=M.no (yP f2)
 refine⟨fun e=> ?_,fun e=> ?_⟩
 ·have hi:=M.lt e
  obtain⟨si,ci,ri⟩:=M2.get i0 hi
  have rl:=Q.row i.toNat (by omega)
  refine⟨M2.bQ i0 hi,si,ci,zJ ri (by omega) _ fun t h3 o3 f3=>⟨t,rfl,.nil,?_⟩⟩
  have z3:=f3.size
  refine jz (lo:=h.size) (m:=h2.size) (dO.gS o2|>.no f3) (o3.mono fun k _ hk=>hk.1) f2.size z3 .nil (fun p hp=>by simp at hp) (by rw[fD];omega) _ fun t2 h5 o5 f5 V5=> ?_
  rw[M.succ i0 hi]
  refine⟨m-1,by omega,by omega,by omega,?_,(f2.trans f3.aC).trans f5⟩
  rw[fJ _ i0 hi]
  exact o5
 ·have hi:=M.ge e
  rw[cW (by omega)]at o2
  generalize hN:aI.length=n at*
  refine⟨fun m sg last k h'=>0<=k/\k+m=(n:Int)/\(∃rows O,ia h' (fun q=>h.size<=q) a rows/\Sq n rows/\Small n O/\PM sg/\sg*dR n O=dR n (dB aI)/\last≠0/\vJ n k.toNat last O (fun i j=>dB rows (k.toNat+i) (k.toNat+j))/\(k=(n:Int)->last=dR n O))/\Fr (fun q=>h.size<=q) h h',⟨n,cL _,by omega,⟨aI,dB aI,o2,Q,hb,.inl rfl,by rw[jc],by omega,?_,?_⟩,f2⟩,?_⟩
  ·have:=vJ.start n (dB aI)
   simpa using this
  ·intro h0
   rw[show n=0 by omega]
   rfl
  rintro m2 sg last k h6 ⟨k0,k1,⟨rows,O,o6,Q6,S6,hsg,RD,hl,B6,r8⟩,f6⟩ kU
  have ln:=Q6.len
  refine⟨fun e2=> ?_,fun e2=> ?_⟩
  ·have hk:k<(n:Int):=by have:=M.lt e2;omega
   refine⟨fun m3 p h'=>h'=h6/\k<=p/\p+m3=(n:Int)/\∀q:Nat,k.toNat<=q->q<p.toNat->dB rows q k.toNat=0,⟨(n-k.toNat),rfl,cL _,by omega,fun q h1 h2=>by omega⟩,?_⟩
   rintro m3 p h7 ⟨rfl,p0,p1,hz⟩ jQ
   have R7:=dO.rd o6
   have none_:p=(n:Int)->K (VI 0) h7:=fun ep=>by
    have:=B6.none (by omega) hl fun i hi=>by
     (try simp only)
     rw[Nat.add_zero]
     exact hz _ (by omega) (by omega)
    rw[this,Int.mul_zero]at RD
    rw[<-RD]at HK
    exact HK h7 (yP f6)
   refine⟨fun e3=> ?_,fun e3=> ?_⟩
   ·have hp:p<(n:Int):=by have:=M.lt e3;omega
    obtain⟨sp,cp,rp⟩:=R7.get (i:=p) (by omega) (by omega)
    have lp:=Q6.row p.toNat (by omega)
    have ep:dB rows p.toNat k.toNat=(rows[p.toNat]'(by omega))[k.toNat]'(by omega):=jf (by omega) (by omega)
    refine⟨R7.bQ (by omega) (by omega),sp,cp,rp.bQ k0 (by omega),_,rp.get k0 (by omega),fun e4=> ?_,fun e4=>⟨fun e5=> ?_,fun e5=> ?_⟩⟩
    ·simp only[aT]at e4
     refine⟨m3-1,by omega,rfl,?_,?_,?_⟩
     ·rw[aP _ (by omega) (by omega)];omega
     ·rw[aP _ (by omega) (by omega)];omega
     ·intro q h1 h2
      rw[aP _ (by omega) (by omega)]at h2
      by_cases hq:q<p.toNat
      ·exact hz q h1 hq
      ·rw[show q=p.toNat by omega,ep];exact e4
    ·simp only[aT]at e5;omega
    ·simp only[aW]at e4
     refine⟨fun x h'=>PM x/\∃rows' O',ia h' (fun q=>h.size<=q) a rows'/\Sq n rows'/\Small n O'/\x*dR n O'=dR n (dB aI)/\vJ n k.toNat last O' (fun i j=>dB rows' (k.toNat+i) (k.toNat+j))/\dB rows' k.toNat k.toNat≠0/\Fr (fun q=>h.size<=q) h h',⟨fun e6=> ?_,fun e6=> ?_⟩,?_⟩
     ·simp only[gE,aW]at e6
      obtain⟨sk,sp',w1,w2,w3,w4,w5,w6,w7,w8,w9⟩:=dO.swap o6 (i:=p) (j:=k) (by omega) (by omega) k0 (by omega) e6
      refine⟨w4,sp',w2,w3,sk,w1,w3,w5,.nil,?_⟩
      rintro h8 rfl _
      refine⟨w4,w6,.nil,?_⟩
      rintro h9 rfl _
      refine⟨?_,VJ rows p.toNat k.toNat,fun i=>O (hH k.toNat p.toNat i),w7,ZW Q6 (by omega) (by omega),fun i j hi hj=>S6 _ _ (by unfold hH;split<;>(try split)<;>omega) hj,?_,?_,?_,f6.trans (dO.UP o6 w8)⟩
      ·exact hsg.neg
      ·rw[Rg O (by omega) (by omega) (by omega),<-RD]
       rw[hsg.neg_eq,Int.neg_mul_neg]
      ·have:=B6.swap (p:=p.toNat-k.toNat) (by omega)
       rw[show k.toNat+(p.toNat-k.toNat)=p.toNat by omega]at this
       rw[Nv (by omega) (by omega)]
       refine cast (congrArg (vJ n k.toNat last _) ?_) this
       funext i j
       (try simp only)
       congr 1
       unfold hH
       by_cases h1:i=0
       ·rw[aJ h1,aF (by omega),aJ (by omega)];omega
       ·rw[aF h1]
        by_cases h2:i=p.toNat-k.toNat
        ·rw[aJ h2,aJ (by omega)];rfl
        ·rw[aF h2,aF (by omega),aF (by omega)]
      ·rw[Nv (by omega) (by omega)]
       (try simp only)
       rw[show hH p.toNat k.toNat k.toNat=p.toNat by unfold hH;rw[aF (by omega),aJ rfl],ep]
       exact e4
     ·simp only[uM,aT]at e6
      refine⟨hsg,rows,O,o6,Q6,S6,RD,B6,?_,f6⟩
      rw[<-ep,e6]at e4
      exact e4
     ·rintro x fa ⟨hx,rows',O',nC,Q10,S10,afF,B10,hkk,f10⟩ ft
      have ln':=Q10.len
      have k1w:aX (k+1)=k+1:=aP _ (by omega) (by omega)
      rw[k1w]
      refine VN nC Q10 S10 hn hl B10 k0 hk sn (fun v h'=>∃m:Nat,m<m2/\0<=k+1/\k+1+m=(n:Int)/\(∃rows O,ia h' (fun q=>h.size<=q) a rows/\Sq n rows/\Small n O/\PM x/\x*dR n O=dR n (dB aI)/\v≠0/\vJ n (k+1).toNat v O (fun i j=>dB rows ((k+1).toNat+i) ((k+1).toNat+j))/\(k+1=(n:Int)->v=dR n O))/\Fr (fun q=>h.size<=q) h h') fun jq rs mD Q11 VC f11=> ?_
      refine⟨m2-1,by omega,by omega,by omega,⟨rs,O',mD,Q11,S10,hx,afF,hkk,?_,?_⟩,f10.trans f11⟩
      ·rw[show(k+1).toNat=k.toNat+1 by omega]
       exact RB B10 hl hkk fun i' j' h1 h2 h3 h4=>by rw[VC i' j' h2 h4,aJ ⟨h1,h3⟩]
      ·intro FR
       have:=B10.last (by omega)
       (try simp only at this)
       rw[Nat.add_zero]at this
       exact this
   ·have hp:p=(n:Int):=by have:=M.ge e3;omega
    exact⟨fun _=>none_ hp,fun e5=>by simp only[aW]at e5;omega⟩
  ·have hk:k=(n:Int):=by have:=M.ge e2;omega
   have hd:sg*last=dR n (dB aI):=by rw[r8 hk];exact RD
   have D0:=xt (cB (oY hb) (cB (Bk hn) (show Km 7<=50400000000 by rw[ZX];exact aY _)))
   rw[hd,aP _ (by clear HK;omega) (by clear HK;omega)]
   exact HK h6 (yP f6)
end Go.Proofs.YtcnfcnoooecchaaGreatDoor
