import Derived.Test.YtcnfcnoooecchaaGreatDoorDeskAfterK0
set_option linter.unusedVariables false
set_option linter.unusedSimpArgs false
namespace Go.Proofs.YtcnfcnoooecchaaGreatDoor
open Go Go.Mx
def fo(k j:Nat):Nat:=if j<k then j else j+1
def jW(k:Nat):Int:=if k%2=0 then 1 else-1
def bH(f:Nat->Int):Nat->Int
 |0=>0
 |n+1=>bH f n+f n
abbrev jS:=Nat->Nat->Int
def cK:Nat->jS->Int
 |0,_=>1
 |n+1,A=>bH (fun k=>jW k*A 0 k*cK n (fun i j=>A (i+1) (fo k j))) (n+1)
theorem kP(k:Nat):jW (k+1)= -jW k:=by
 unfold jW
 by_cases h:k%2=0
 ·rw[if_pos h,if_neg (by omega)]
 ·rw[if_neg h,if_pos (by omega)];rfl
theorem cC{f f':Nat->Int}:∀{n:Nat},(∀i,i<n->f i=f' i)->bH f n=bH f' n
 |0,_=>rfl
 |n+1,h=>by rw[bH,bH,cC fun i hi=>h i (by omega),h n (by omega)]
theorem mv(f f':Nat->Int):∀n,bH (fun i=>f i+f' i) n=bH f n+bH f' n
 |0=>rfl
 |n+1=>by rw[bH,bH,bH,mv f f' n];omega
theorem mw(c:Int)(f:Nat->Int):∀n,bH (fun i=>c*f i) n=c*bH f n
 |0=>by simp[bH]
 |n+1=>by rw[bH,bH,mw c f n,Int.mul_add]
theorem jm{f:Nat->Int}:∀{n:Nat},(∀i,i<n->f i=0)->bH f n=0
 |0,_=>rfl
 |n+1,h=>by rw[bH,jm fun i hi=>h i (by omega),h n (by omega)];rfl
theorem Bq(f:Nat->Nat->Int)(m:Nat):∀n,bH (fun i=>bH (fun j=>f i j) m) n=bH (fun j=>bH (fun i=>f i j) n) m
 |0=>by rw[bH];exact(jm fun i _=>rfl).symm
 |n+1=>by
  rw[bH,Bq f m n,<-mv]
  exact cC fun j _=>rfl
theorem my(f:Nat->Int)(n:Nat):bH (fun i=> -f i) n= -bH f n:=by
 have:=mw (-1) f n
 rw[show(fun i=> -f i)=fun i=> -1*f i from funext fun i=>by omega,this];omega
theorem Fs(f:Nat->Int):∀{n k:Nat},k<=n->bH (fun l=>f (fo k l)) n+f k=bH f (n+1)
 |0,k,h=>by rw[show k=0 by omega];simp[bH]
 |n+1,k,h=>by
  by_cases e:k=n+1
  ·subst e
   show bH (fun l=>f (fo (n+1) l)) (n+1)+f (n+1)=bH f (n+1)+f (n+1)
   exact congrArg (·+f (n+1)) (show bH (fun l=>f (fo (n+1) l)) (n+1)=bH f (n+1)from cC fun i hi=>by(try simp only);unfold fo;rw[if_pos hi])
  ·have ih:=Fs f (n:=n) (k:=k) (by omega)
   rw[bH,bH,<-ih]
   have:fo k n=n+1:=by unfold fo;rw[if_neg (by omega)]
   rw[this]
   omega
theorem dG:∀{n:Nat}{A B:jS},(∀i j,i<n->j<n->A i j=B i j)->cK n A=cK n B
 |0,_,_,_=>rfl
 |n+1,A,B,h=>by
  rw[cK,cK]
  refine cC fun k hk=> ?_
  (try simp only)
  rw[h 0 k (by omega) hk,dG fun i j hi hj=>h (i+1) (fo k j) (by omega) (by unfold fo;split<;>omega)]
def dE(A:jS)(i:Nat)(X:Nat->Int):jS:=fun r=>if r=i then X else A r
theorem Bs(A:jS)(i:Nat):dE A i (A i)=A:=by
 funext r
 unfold dE
 split
 ·rename_i h;rw[h]
 ·rfl
theorem sJ:∀{n i:Nat}(A:jS)(c:Int)(X Y:Nat->Int),i<n->cK n (dE A i fun j=>c*X j+Y j)=c*cK n (dE A i X)+cK n (dE A i Y)
 |n+1,0,A,c,X,Y,_=>by
  rw[cK,cK,cK,<-mw,<-mv]
  refine cC fun k hk=> ?_
  have e:∀Z:Nat->Int,(fun i j=>dE A 0 Z (i+1) (fo k j))=fun i j=>A (i+1) (fo k j):=fun Z=>by
   funext i j;unfold dE;rw[if_neg (by omega)]
  (try simp only)
  rw[e,e,e]
  unfold dE
  rw[if_pos rfl,if_pos rfl,if_pos rfl]
  generalize cK n (fun i j=>A (i+1) (fo k j))=d
  rw[Int.mul_add,Int.add_mul]
  congr 1
  rw[Int.mul_assoc,Int.mul_assoc,Int.mul_left_comm (jW k) c,Int.mul_assoc]
 |n+1,i+1,A,c,X,Y,h=>by
  rw[cK,cK,cK,<-mw,<-mv]
  refine cC fun k hk=> ?_
  have e:∀Z:Nat->Int,(fun r j=>dE A (i+1) Z (r+1) (fo k j))=dE (fun r j=>A (r+1) (fo k j)) i fun j=>Z (fo k j):=fun Z=>by
   funext r j
   unfold dE
   by_cases h:r=i
   ·rw[if_pos (by omega),if_pos h]
   ·rw[if_neg (by omega),if_neg h]
  have z:∀Z:Nat->Int,dE A (i+1) Z 0 k=A 0 k:=fun Z=>by unfold dE;rw[if_neg (by omega)]
  (try simp only)
  rw[e,e,e,z,z,z,sJ (fun r j=>A (r+1) (fo k j)) c (fun j=>X (fo k j)) (fun j=>Y (fo k j)) (by omega),Int.mul_add,Int.mul_left_comm]
theorem nD{n i:Nat}(A:jS)(h:i<n):cK n (dE A i fun _=>0)=0:=by
 have:=sJ A (-1) (fun _=>0) (fun _=>0) h
 have e:(fun j:Nat=>(-1:Int)*(fun _=>(0:Int)) j+(fun _=>(0:Int)) j)=fun _=>0:=by funext j;simp
 rw[e]at this
 omega
theorem Bt{n i:Nat}(A:jS)(c:Int)(X:Nat->Int)(h:i<n):cK n (dE A i fun j=>c*X j)=c*cK n (dE A i X):=by
 have:=sJ A c X (fun _=>0) h
 rw[nD A h]at this
 have e:(fun j:Nat=>c*X j+(fun _=>(0:Int)) j)=fun j=>c*X j:=by funext j;simp
 rw[e]at this
 omega
def fC(i j r:Nat):Nat:=if r=i then j else if r=j then i else r
def CN(k m:Nat):Nat:=if m<k then m else m-1
def Aj(n:Nat)(A:jS)(k m:Nat):Int:=cK n fun i j=>A (i+2) (fo k (fo (CN k m) j))
def Ia(n:Nat)(A:jS)(k m:Nat):Int:=if k=m then 0 else jW k*jW (CN k m)*A 0 k*A 1 m*Aj n A k m
theorem RP{k m:Nat}(h:k<m)(j:Nat):fo k (fo (m-1) j)=fo m (fo k j):=by
 unfold fo
 by_cases a:j<k
 ·rw[if_pos (show j<m-1 by omega),if_pos a,if_pos (show j<m by omega)]
 ·by_cases b:j<m-1
  ·rw[if_pos b,if_neg a,if_pos (show j+1<m by omega)]
  ·rw[if_neg b,if_neg a,if_neg (show¬j+1<k by omega),if_neg (show¬j+1<m by omega)]
theorem Bu{n:Nat}{A:jS}{k m:Nat}(h:k<m):Aj n A k m=Aj n A m k:=by
 unfold Aj CN
 rw[if_neg (by omega),if_pos h]
 congr 1
 funext i j
 rw[RP h]
theorem J8(n:Nat)(A:jS):cK (n+2) A=bH (fun k=>bH (fun m=>Ia n A k m) (n+2)) (n+2):=by
 rw[cK]
 refine cC fun k hk=> ?_
 (try simp only)
 rw[cK,<-Fs (fun m=>Ia n A k m) (show k<=n+1 by omega)]
 have e0:Ia n A k k=0:=by unfold Ia;rw[if_pos rfl]
 rw[e0,Int.add_zero,<-mw]
 refine cC fun l hl=> ?_
 (try simp only)
 have eA:k≠fo k l:=by unfold fo;split<;>omega
 have ajg:CN k (fo k l)=l:=by
  unfold CN fo
  by_cases a:l<k
  ·simp only[if_pos a]
  ·simp only[if_neg a]
   rw[if_neg (by omega)]
   omega
 unfold Ia Aj
 rw[if_neg eA,ajg,Nat.zero_add]
 generalize cK n _=d
 rw[Int.mul_assoc (jW k),Int.mul_assoc (jW l),Int.mul_assoc,Int.mul_assoc,Int.mul_assoc]
 rw[Int.mul_left_comm (A 0 k)]
theorem Ib(n:Nat)(A:jS):cK (n+2) (fun i=>A (fC 0 1 i))= -cK (n+2) A:=by
 rw[J8,J8,Bq (fun k m=>Ia n A k m),<-my]
 refine cC fun k hk=> ?_
 (try simp only)
 rw[<-my]
 refine cC fun m hm=> ?_
 (try simp only)
 have hN:Aj n (fun i=>A (fC 0 1 i)) k m=Aj n A k m:=by
  unfold Aj
  congr 1
 unfold Ia
 by_cases e:k=m
 ·rw[if_pos e,if_pos e.symm];rfl
 ·rw[if_neg e,if_neg fun h=>e h.symm,hN]
  have r0:A (fC 0 1 0) k=A 1 k:=rfl
  have r1:A (fC 0 1 1) m=A 0 m:=rfl
  (try simp only)
  rw[r0,r1]
  have hs:jW k*jW (CN k m)= -(jW m*jW (CN m k)):=by
   unfold CN
   by_cases h:k<m
   ·rw[if_neg (by omega),if_pos h]
    have:=kP (m-1)
    rw[show m-1+1=m by omega]at this
    rw[this,Int.neg_mul,Int.neg_neg,Int.mul_comm]
   ·rw[if_pos (by omega),if_neg (by omega)]
    have:=kP (k-1)
    rw[show k-1+1=k by omega]at this
    rw[this,Int.neg_mul,Int.mul_comm]
  have hd:Aj n A k m=Aj n A m k:=by
   by_cases h:k<m
   ·exact Bu h
   ·exact(Bu (by omega)).symm
  rw[hs,hd]
  generalize jW m*jW (CN m k)=a
  rw[Int.neg_mul,Int.neg_mul,Int.neg_mul,Int.mul_assoc a,Int.mul_comm (A 1 k),<-Int.mul_assoc a]
theorem nE:∀{n i:Nat}(A:jS),i+1<n->cK n (fun r=>A (fC i (i+1) r))= -cK n A
 |n+2,0,A,_=>Ib n A
 |n+1,i+1,A,h=>by
  rw[cK,cK,<-my]
  refine cC fun k hk=> ?_
  (try simp only)
  have e:(fun r j=>A (fC (i+1) (i+1+1) (r+1)) (fo k j))=fun r=>(fun r j=>A (r+1) (fo k j)) (fC i (i+1) r):=by
   funext r j
   congr 1
   unfold fC
   by_cases a:r=i
   ·rw[if_pos (by omega),if_pos a]
   ·by_cases b:r=i+1
    ·rw[if_neg (by omega),if_pos (by omega),if_neg a,if_pos b]
    ·rw[if_neg (by omega),if_neg (by omega),if_neg a,if_neg b]
  have z:fC (i+1) (i+1+1) 0=0:=by unfold fC;rw[if_neg (by omega),if_neg (by omega)]
  rw[e,z,nE (fun r j=>A (r+1) (fo k j)) (by omega),Int.mul_neg]
theorem pc:∀(d:Nat){n i:Nat}(A:jS),i+d+1<n->A i=A (i+d+1)->cK n A=0
 |0,n,i,A,h,e=>by
  have:=nE A h
  have e2:(fun r=>A (fC i (i+1) r))=A:=by
   funext r
   unfold fC
   by_cases a:r=i
   ·rw[if_pos a,a];exact e.symm
   ·by_cases b:r=i+1
    ·rw[if_neg a,if_pos b,b];exact e
    ·rw[if_neg a,if_neg b]
  rw[e2]at this
  omega
 |d+1,n,i,A,h,e=>by
  have h1:=nE (i:=i+d+1) A (by omega)
  have h2:=pc d (n:=n) (i:=i) (fun r=>A (fC (i+d+1) (i+d+1+1) r)) (by omega) (by
   (try simp only)
   have a:fC (i+d+1) (i+d+1+1) i=i:=by unfold fC;rw[if_neg (by omega),if_neg (by omega)]
   have b:fC (i+d+1) (i+d+1+1) (i+d+1)=i+d+1+1:=by unfold fC;rw[if_pos rfl]
   rw[a,b]
   exact e)
  omega
theorem Ft{n i j:Nat}(A:jS)(hi:i<n)(hj:j<n)(h:i≠j)(e:A i=A j):cK n A=0:=by
 by_cases a:i<j
 ·exact pc (j-i-1) (i:=i) A (by omega) (by rw[show i+(j-i-1)+1=j by omega];exact e)
 ·exact pc (i-j-1) (i:=j) A (by omega) (by rw[show j+(i-j-1)+1=i by omega];exact e.symm)
theorem wC{n i j:Nat}(A:jS)(hi:i<n)(hj:j<n)(h:i≠j)(c:Int):cK n (dE A i fun k=>c*A j k+A i k)=cK n A:=by
 rw[sJ A c (A j) (A i) hi,Bs,Ft (dE A i (A j)) hi hj h (by unfold dE;rw[if_pos rfl,if_neg fun e=>h e.symm])]
 omega
theorem Oe{n i j:Nat}(A:jS)(hi:i<n)(hj:j<n)(h:i≠j):cK n (fun r=>A (fC i j r))= -cK n A:=by
 --row i+row j,then row j-row i,then row i+row j,and a sign
 have e1:=wC A hi hj h 1
 have e2:=wC (dE A i fun k=>1*A j k+A i k) hj hi (fun e=>h e.symm) (-1)
 have e3:=wC (dE (dE A i fun k=>1*A j k+A i k) j fun k=> -1*(dE A i fun k=>1*A j k+A i k) i k+(dE A i fun k=>1*A j k+A i k) j k) hi hj h 1
 have e4:=Bt (fun r=>A (fC i j r)) (-1) (A i) hj
 have f1:dE (fun r=>A (fC i j r)) j (A i)=fun r=>A (fC i j r):=by
  funext r
  unfold dE
  by_cases a:r=j
  ·rw[if_pos a,a];unfold fC;rw[if_neg fun e=>h e.symm,if_pos rfl]
  ·rw[if_neg a]
 rw[f1]at e4
 have f2:dE (dE (dE A i fun k=>1*A j k+A i k) j fun k=> -1*(dE A i fun k=>1*A j k+A i k) i k+(dE A i fun k=>1*A j k+A i k) j k) i (fun k=>1*(dE (dE A i fun k=>1*A j k+A i k) j fun k=> -1*(dE A i fun k=>1*A j k+A i k) i k+(dE A i fun k=>1*A j k+A i k) j k) j k+(dE (dE A i fun k=>1*A j k+A i k) j fun k=> -1*(dE A i fun k=>1*A j k+A i k) i k+(dE A i fun k=>1*A j k+A i k) j k) i k)=dE (fun r=>A (fC i j r)) j fun k=> -1*A i k:=by
  funext r k
  unfold dE fC
  by_cases a:r=i
  ·subst a
   simp only[if_pos,if_neg h,if_neg fun e:j=r=>h e.symm]
   omega
  ·by_cases b:r=j
   ·subst b
    simp only[if_pos,if_neg a]
    omega
   ·simp only[if_neg a,if_neg b]
 rw[f2,e4]at e3
 omega
theorem yc:∀{n:Nat}(A:jS),(∀i,i<n+1->A i 0=0)->cK (n+1) A=0
 |0,A,h=>by rw[cK];simp[bH,cK,h 0 (by omega)]
 |n+1,A,h=>by
  rw[cK]
  refine jm fun k hk=> ?_
  (try simp only)
  by_cases e:k=0
  ·subst e;rw[h 0 (by omega)];simp
  ·rw[yc (fun i j=>A (i+1) (fo k j)) fun i hi=>by
    (try simp only)
    rw[show fo k 0=0 by unfold fo;rw[if_pos (by omega)]]
    exact h (i+1) (by omega)]
   simp
theorem yd{n:Nat}(A:jS)(h:∀i,1<=i->i<n+1->A i 0=0):cK (n+1) A=A 0 0*cK n (fun i j=>A (i+1) (j+1)):=by
 have key:∀m,m<=n->bH (fun k=>jW k*A 0 k*cK n (fun i j=>A (i+1) (fo k j))) (m+1)=A 0 0*cK n (fun i j=>A (i+1) (j+1)):=by
  intro m
  induction m with
  |zero=>
   intro _
   rw[bH,bH]
   have:(fun i j=>A (i+1) (fo 0 j))=fun i j=>A (i+1) (j+1):=by
    funext i j;unfold fo;rw[if_neg (by omega)]
   rw[this]
   simp[jW]
  |succ m ih=>
   intro hm
   rw[bH,ih (by omega)]
   cases n with
   |zero=>omega
   |succ n=>
    rw[yc (fun i j=>A (i+1) (fo (m+1) j)) fun i hi=>by
     (try simp only)
     rw[show fo (m+1) 0=0 by unfold fo;rw[if_pos (by omega)]]
     exact h (i+1) (by omega) (by omega)]
    simp
 rw[cK]
 exact key n (Nat.le_refl _)
def CO(B:jS):jS:=fun i j=>B 0 0*B (i+1) (j+1)-B (i+1) 0*B 0 (j+1)
theorem pd{n:Nat}(b:Int)(B:jS):∀m,m<=n->cK (n+1) (fun r j=>if 1<=r/\r<=m then b*B r j else B r j)=b^m*cK (n+1) B
 |0,_=>by
  rw[Int.pow_zero,Int.one_mul]
  exact dG fun i j _ _=>by rw[if_neg (by omega)]
 |m+1,h=>by
  have ih:=pd (n:=n) b B m (by omega)
  have e:=Bt (n:=n+1) (i:=m+1) (fun r j=>if 1<=r/\r<=m then b*B r j else B r j) b (B (m+1)) (by omega)
  have e1:cK (n+1) (dE (fun r j=>if 1<=r/\r<=m then b*B r j else B r j) (m+1) fun j=>b*B (m+1) j)=cK (n+1) (fun r j=>if 1<=r/\r<=m+1 then b*B r j else B r j):=by
   refine dG fun i j _ _=> ?_
   unfold dE
   (try simp only)
   by_cases a:i=m+1
   ·subst a;rw[if_pos rfl,if_pos (by omega)]
   ·rw[if_neg a]
    (try simp only)
    by_cases c:1<=i/\i<=m
    ·rw[if_pos c,if_pos (show 1<=i/\i<=m+1 by omega)]
    ·rw[if_neg c,if_neg (show¬(1<=i/\i<=m+1) by omega)]
  have e2:dE (fun r j=>if 1<=r/\r<=m then b*B r j else B r j) (m+1) (B (m+1))=fun r j=>if 1<=r/\r<=m then b*B r j else B r j:=by
   funext r j
   unfold dE
   by_cases a:r=m+1
   ·subst a;rw[if_pos rfl,if_neg (by omega)]
   ·rw[if_neg a]
  rw[e1,e2,ih]at e
  rw[e,Int.pow_succ,<-Int.mul_assoc,Int.mul_comm b]
theorem nF{n:Nat}(C:jS)(c:Nat->Int):∀m,m<=n->cK (n+1) (fun r j=>if 1<=r/\r<=m then c r*C 0 j+C r j else C r j)=cK (n+1) C
 |0,_=>dG fun i j _ _=>by rw[if_neg (by omega)]
 |m+1,h=>by
  rw[<-nF C c m (by omega),<-wC (n:=n+1) (i:=m+1) (j:=0) (fun r j=>if 1<=r/\r<=m then c r*C 0 j+C r j else C r j) (by omega) (by omega) (by omega) (c (m+1))]
  refine dG fun i j _ _=> ?_
  unfold dE
  by_cases a:i=m+1
  ·subst a;rw[if_pos rfl,if_pos (by omega),if_neg (by omega),if_neg (by omega)]
  ·rw[if_neg a]
   (try simp only)
   by_cases d:1<=i/\i<=m
   ·rw[if_pos d,if_pos (show 1<=i/\i<=m+1 by omega)]
   ·rw[if_neg d,if_neg (show¬(1<=i/\i<=m+1) by omega)]
theorem Of{n:Nat}{B:jS}(hb:B 0 0≠0):B 0 0^n*cK (n+2) B=cK (n+1) (CO B):=by
 have e1:=pd (n:=n+1) (B 0 0) B (n+1) (Nat.le_refl _)
 have e2:=nF (n:=n+1) (fun r j=>if 1<=r/\r<=n+1 then B 0 0*B r j else B r j) (fun r=> -B r 0) (n+1) (Nat.le_refl _)
 rw[e1]at e2
 have e3:=yd (n:=n+1) (fun r j=>if 1<=r/\r<=n+1 then-B r 0*(if 1<=0/\0<=n+1 then B 0 0*B 0 j else B 0 j)+(if 1<=r/\r<=n+1 then B 0 0*B r j else B r j)else(if 1<=r/\r<=n+1 then B 0 0*B r j else B r j)) fun i h1 h2=>by
  (try simp only)
  rw[if_pos (by omega),if_neg (by omega),if_pos (by omega),Int.neg_mul,Int.mul_comm (B i 0)]
  omega
 rw[e3]at e2
 have e4:cK (n+1) (fun i j=>if 1<=i+1/\i+1<=n+1 then-B (i+1) 0*(if 1<=0/\0<=n+1 then B 0 0*B 0 (j+1)else B 0 (j+1))+(if 1<=i+1/\i+1<=n+1 then B 0 0*B (i+1) (j+1)else B (i+1) (j+1))else(if 1<=i+1/\i+1<=n+1 then B 0 0*B (i+1) (j+1)else B (i+1) (j+1)))=cK (n+1) (CO B):=by
  refine dG fun i j hi hj=> ?_
  unfold CO
  rw[if_pos (by omega),if_neg (by omega),if_pos (by omega),Int.neg_mul]
  omega
 have e5:(if 1<=0/\0<=n+1 then-B 0 0*(if 1<=0/\0<=n+1 then B 0 0*B 0 0 else B 0 0)+(if 1<=0/\0<=n+1 then B 0 0*B 0 0 else B 0 0)else(if 1<=0/\0<=n+1 then B 0 0*B 0 0 else B 0 0))=B 0 0:=by
  rw[if_neg (by omega),if_neg (by omega)]
 (try simp only at e2)
 (try simp only at e4)
 (try simp only at e5)
 first
 |(rw[e4,e5]at e2
   rw[Int.pow_succ,Int.mul_comm (B 0 0^n),Int.mul_assoc]at e2
   exact(Int.mul_eq_mul_left_iff hb).1 e2.symm)
 |(rw[e4]at e2
   rw[Int.pow_succ,Int.mul_comm (B 0 0^n),Int.mul_assoc]at e2
   exact(Int.mul_eq_mul_left_iff hb).1 e2.symm)
theorem Fu(b:Int)(A:jS):∀n,cK n (fun i j=>b*A i j)=b^n*cK n A
 |0=>by simp[cK]
 |n+1=>by
  rw[cK,cK,<-mw]
  refine cC fun k hk=> ?_
  (try simp only)
  rw[Fu b (fun i j=>A (i+1) (fo k j)) n,Int.pow_succ,Int.mul_left_comm (jW k),Int.mul_assoc b,Int.mul_left_comm,Int.mul_comm (b^n) b,Int.mul_assoc b,Int.mul_left_comm (b^n),<-Int.mul_assoc]
  first
  |done
  |simp only[Int.mul_assoc,Int.mul_comm,Int.mul_left_comm]
def lW(m:Nat)(r:Nat->Nat)(i:Nat):Nat:=if i<m then i else m+r (i-m)
def sK(n m:Nat)(last:Int)(O A:jS):Prop:=
 ∀(k:Nat)(r c:Nat->Nat),(∀i,i<=k->r i<n-m)->(∀i,i<=k->c i<n-m)->cK (k+1) (fun i j=>A (r i) (c j))=last^k*cK (m+k+1) (fun i j=>O (lW m r i) (lW m c j))
theorem sK.start(n:Nat)(O:jS):sK n 0 1 O O:=fun k r c hr hc=>by
 rw[Int.one_pow,Int.one_mul,Nat.zero_add]
 exact dG fun i j _ _=>by simp[lW]
theorem RQ(A:jS):cK 1 A=A 0 0:=by simp[cK,bH,jW]
theorem RR(A:jS):cK 2 A=A 0 0*A 1 1-A 1 0*A 0 1:=by
 simp only[cK,bH,jW,fo]
 simp
 rw[Int.neg_mul,Int.mul_comm (A 0 1)]
 omega
theorem sK.ent{n m:Nat}{last:Int}{O A:jS}(H:sK n m last O A){i j:Nat}(hi:i<n-m)(hj:j<n-m):A i j=cK (m+1) (fun a b=>O (lW m (fun _=>i) a) (lW m (fun _=>j) b)):=by
 have:=H 0 (fun _=>i) (fun _=>j) (fun _ _=>hi) (fun _ _=>hj)
 rw[RQ,Int.pow_zero,Int.one_mul]at this
 exact this
def Og(r:Nat->Nat):Nat->Nat
 |0=>0
 |i+1=>r i+1
theorem J9(m:Nat)(r:Nat->Nat)(i:Nat):lW m (Og r) i=lW (m+1) r i:=by
 unfold lW
 by_cases h:i<m
 ·rw[if_pos h,if_pos (by omega)]
 ·rw[if_neg h]
  by_cases e:i=m
  ·subst e;rw[if_pos (by omega),Nat.sub_self];rfl
  ·rw[if_neg (by omega)]
   obtain⟨d,rfl⟩:∃d,i=m+1+d:=⟨i-(m+1),by omega⟩
   rw[show m+1+d-m=d+1 by omega,show m+1+d-(m+1)=d by omega]
   show m+(r d+1)=_
   omega
theorem sK.exact{n m:Nat}{last:Int}{O A:jS}(H:sK n m last O A){i j:Nat}(hi:i+1<n-m)(hj:j+1<n-m):∃q,CO A i j=last*q:=by
 have:=H 1 (Og fun _=>i) (Og fun _=>j) (fun a ha=>by cases a with|zero=>exact(by show 0<_;omega)|succ a=>exact hi) (fun a ha=>by cases a with|zero=>exact(by show 0<_;omega)|succ a=>exact hj)
 rw[RR]at this
 exact⟨_,by unfold CO;rw[Int.pow_one]at this;exact this⟩
theorem Ka{a b q:Int}(h:a=b*q)(hb:b≠0):a.tdiv b=q:=by rw[h];exact Int.mul_tdiv_cancel_left _ hb
theorem sK.step{n m:Nat}{last:Int}{O A A':jS}(H:sK n m last O A)(hl:last≠0)(ha:A 0 0≠0)(hA:∀i j,i+1<n-m->j+1<n-m->A' i j=(CO A i j).tdiv last):sK n (m+1) (A 0 0) O A':=fun k r c hr hc=>by
 have e1:cK (k+1) (fun i j=>last*A' (r i) (c j))=cK (k+1) (CO fun i j=>A (Og r i) (Og c j)):=dG fun i j hi hj=>by
  have gH:=hr i (by omega)
  have Fv:=hc j (by omega)
  (try simp only)
  obtain⟨q,hq⟩:=H.exact (i:=r i) (j:=c j) (by omega) (by omega)
  rw[hA _ _ (by omega) (by omega),Ka hq hl,<-hq]
  rfl
 rw[Fu last (fun i j=>A' (r i) (c j))]at e1
 have e2:=Of (n:=k) (B:=fun i j=>A (Og r i) (Og c j)) ha
 have e3:=H (k+1) (Og r) (Og c) (fun i hi=>by cases i with|zero=>exact(by have:=hr 0 (by omega);show 0<_;omega)|succ i=>exact(by have:=hr i (by omega);show r i+1<_;omega)) (fun i hi=>by cases i with|zero=>exact(by have:=hc 0 (by omega);show 0<_;omega)|succ i=>exact(by have:=hc i (by omega);show c i+1<_;omega))
 rw[<-e2,e3]at e1
 have e4:(fun i j=>O (lW m (Og r) i) (lW m (Og c) j))=fun i j=>O (lW (m+1) r i) (lW (m+1) c j):=by funext i j;rw[J9,J9]
 rw[e4,Int.mul_left_comm]at e1
 have e5:=(Int.mul_eq_mul_left_iff (show last^(k+1)≠0 from Int.pow_ne_zero hl)).1 e1
 rw[e5,show m+(k+1)+1=m+1+k+1 by omega]
 rfl
theorem sK.swap{n m p:Nat}{last:Int}{O A:jS}(H:sK n m last O A)(hp:p<n-m):sK n m last (fun i=>O (fC m (m+p) i)) (fun i=>A (fC 0 p i)):=fun k r c hr hc=>by
 have:=H k (fun i=>fC 0 p (r i)) c (fun i hi=>by have:=hr i hi;unfold fC;split<;>(try split)<;>omega) hc
 (try simp only)
 rw[this]
 congr 2
 funext i j
 congr 1
 unfold lW
 by_cases h:i<m
 ·rw[if_pos h,if_pos h];unfold fC;rw[if_neg (by omega),if_neg (by omega)]
 ·rw[if_neg h,if_neg h]
  show m+fC 0 p (r (i-m))=fC m (m+p) (m+r (i-m))
  generalize r (i-m)=x
  unfold fC
  by_cases a:x=0
  ·rw[if_pos a,if_pos (show m+x=m by omega)]
  ·rw[if_neg a,if_neg (show¬m+x=m by omega)]
   by_cases b:x=p
   ·rw[if_pos b,if_pos (show m+x=m+p by omega)];omega
   ·rw[if_neg b,if_neg (show¬m+x=m+p by omega)]
theorem Kb(m i:Nat):lW m (fun x=>x) i=i:=by unfold lW;split<;>(try simp only)<;>omega
theorem sK.none{n m:Nat}{last:Int}{O A:jS}(H:sK n m last O A)(hm:m<n)(hl:last≠0)(h0:∀i,i<n-m->A i 0=0):cK n O=0:=by
 have:=H (n-m-1) (fun x=>x) (fun x=>x) (fun i hi=>by omega) (fun i hi=>by omega)
 rw[yc (fun i j=>A i j) fun i hi=>h0 i (by omega)]at this
 have e:(fun i j=>O (lW m (fun x=>x) i) (lW m (fun x=>x) j))=O:=by funext i j;rw[Kb,Kb]
 rw[e,show m+(n-m-1)+1=n by omega]at this
 rcases Int.mul_eq_zero.1 this.symm with h|h
 ·exact absurd h (Int.pow_ne_zero hl)
 ·exact h
theorem sK.last{n m:Nat}{last:Int}{O A:jS}(H:sK n m last O A)(hm:m+1=n):A 0 0=cK n O:=by
 rw[H.ent (i:=0) (j:=0) (by omega) (by omega),hm]
 have e:(fun a b=>O (lW m (fun _=>0) a) (lW m (fun _=>0) b))=fun a b=>O (if a<m then a else m) (if b<m then b else m):=by funext a b;rfl
 rw[e]
 refine dG fun i j hi hj=> ?_
 rw[show(if i<m then i else m)=i by split<;>omega,show(if j<m then j else m)=j by split<;>omega]
def Hb:Nat->Nat
 |0=>1
 |n+1=>(n+1)*10*Hb n
theorem qY{f:Nat->Int}{b:Nat}:∀{n:Nat},(∀i,i<n->(f i).natAbs<=b)->(bH f n).natAbs<=n*b
 |0,_=>by simp[bH]
 |n+1,h=>by
  rw[bH]
  have h1:=qY (f:=f) (b:=b) (n:=n) fun i hi=>h i (by omega)
  have h2:=h n (by omega)
  have h3:=Int.natAbs_add_le (bH f n) (f n)
  rw[Nat.succ_mul]
  omega
theorem Kc(k:Nat):(jW k).natAbs=1:=by unfold jW;split<;>rfl
theorem mD:∀{n:Nat}{A:jS},(∀i j,i<n->j<n->(A i j).natAbs<=10)->(cK n A).natAbs<=Hb n
 |0,_,_=>by simp[cK,Hb]
 |n+1,A,h=>by
  rw[cK,Hb,Nat.mul_assoc]
  refine qY fun k hk=> ?_
  (try simp only)
  rw[Int.natAbs_mul,Int.natAbs_mul,Kc,Nat.one_mul]
  exact Nat.mul_le_mul (h 0 k (by omega) hk) (mD fun i j hi hj=>h (i+1) (fo k j) (by omega) (by unfold fo;split<;>omega))
theorem ye:∀{n m:Nat},n<=m->Hb n<=Hb m
 |n,0,h=>by rw[show n=0 by omega];exact Nat.le_refl _
 |n,m+1,h=>by
  by_cases e:n=m+1
  ·rw[e];exact Nat.le_refl _
  ·have h1:=ye (n:=n) (m:=m) (by omega)
   have h2:Hb m<=Hb (m+1):=by rw[Hb];exact Nat.le_mul_of_pos_left _ (by omega)
   omega
def Small(n:Nat)(O:jS):Prop:=∀i j,i<n->j<n->(O i j).natAbs<=10
theorem sK.acg{n m:Nat}{last:Int}{O A:jS}(H:sK n m last O A)(hO:Small n O){i j:Nat}(hi:i<n-m)(hj:j<n-m):(A i j).natAbs<=Hb (m+1):=by
 rw[H.ent hi hj]
 refine mD fun a b ha hb=>hO _ _ ?_ ?_
 ·unfold lW;split<;>(try simp only)<;>omega
 ·unfold lW;split<;>(try simp only)<;>omega
def ff(x:Int):List Int->Int
 |[]=>0
 |y::l=>(if y=x then 1 else 0)+ff x l
def CP(p q x:Int):Int:=if x=p then q else x
abbrev Tn:=List (Int×List Int)
def qZ(p q:Int)(ts:Tn):Tn:=ts.map fun t=>(t.1,t.2.map (CP p q))
def nG(ts:Tn)(i:Nat):Int:=(ts.getD i (0,[])).1
def zW(ts:Tn)(i:Nat):List Int:=(ts.getD i (0,[])).2
def iD(ts:Tn):jS:=fun i j=>(if i=j then((zW ts i).length:Int)else 0)-ff (nG ts j) (zW ts i)
def LJ:Nat->Tn->Int
 |0,_=>1
 |_+1,[]=>1
 |n+1,(p,ex)::ts=>(ex.map fun q=>if q=p then 0 else LJ n (qZ p q ts)).sum
theorem Kd{p q x:Int}(h:x≠p):∀l:List Int,ff x (l.map (CP p q))=ff x l+(if q=x then ff p l else 0)
 |[]=>by simp[ff]
 |y::l=>by
  rw[List.map_cons,ff,ff,ff,Kd h l]
  unfold CP
  by_cases a:y=p
  ·rw[if_pos a,if_neg (show¬y=x from fun e=>h (e.symm.trans a)),if_pos a]
   by_cases b:q=x
   ·rw[if_pos b,if_pos b,if_pos b];omega
   ·rw[if_neg b,if_neg b,if_neg b];omega
  ·rw[if_neg a,if_neg a]
   by_cases b:q=x
   ·rw[if_pos b,if_pos b];omega
   ·rw[if_neg b,if_neg b];omega
theorem RS(p q:Int)(ts:Tn)(i:Nat):nG (qZ p q ts) i=nG ts i:=by
 unfold nG qZ
 rw[List.getD_eq_getElem?_getD,List.getD_eq_getElem?_getD,List.getElem?_map]
 cases ts[i]?<;>rfl
theorem RW(p q:Int)(ts:Tn)(i:Nat):zW (qZ p q ts) i=(zW ts i).map (CP p q):=by
 unfold zW qZ
 rw[List.getD_eq_getElem?_getD,List.getD_eq_getElem?_getD,List.getElem?_map]
 cases ts[i]?<;>rfl
theorem RX{ts:Tn}{i:Nat}(h:i<ts.length):nG ts i∈ts.map (·.1):=by
 unfold nG
 rw[List.getD_eq_getElem?_getD,List.getElem?_eq_getElem h]
 exact List.mem_map.2 ⟨_,List.getElem_mem h,rfl⟩
theorem Bv(p q:Int)(ts:Tn):(qZ p q ts).map (·.1)=ts.map (·.1):=by
 unfold qZ
 rw[List.map_map]
 rfl
theorem Oh{n:Nat}{p q:Int}{ex:List Int}{ts:Tn}(hn:ts.length=n)(hd:((p,ex)::ts).map (·.1)|>.Nodup):
 cK (n+1) (dE (iD ((p,ex)::ts)) 0 fun j=>(if 0=j then 1 else 0)-(if q=nG ((p,ex)::ts) j then 1 else 0))=if q=p then 0 else cK n (iD (qZ p q ts)):=by
 have hp:∀j,j<n->nG ((p,ex)::ts) (j+1)=nG ts j/\nG ts j≠p:=fun j hj=>⟨rfl,fun e=>by
  have h1:=RX (ts:=ts) (i:=j) (by omega)
  rw[e]at h1
  rw[List.map_cons,List.nodup_cons]at hd
  exact hd.1 h1⟩
 have h0:nG ((p,ex)::ts) 0=p:=rfl
 by_cases e:q=p
 ·rw[if_pos e]
  rw[show cK (n+1) (dE (iD ((p,ex)::ts)) 0 fun j=>(if 0=j then 1 else 0)-(if q=nG ((p,ex)::ts) j then 1 else 0))=cK (n+1) (dE (iD ((p,ex)::ts)) 0 fun _=>0)from dG fun i j hi hj=>by
   unfold dE
   by_cases a:i=0
   ·rw[if_pos a,if_pos a]
    cases j with
    |zero=>rw[h0,if_pos rfl,if_pos e];rfl
    |succ j=>rw[(hp j (by omega)).1,if_neg (by omega),if_neg fun x=>(hp j (by omega)).2 (x.symm.trans e)];rfl
   ·rw[if_neg a,if_neg a]]
  exact nD _ (by omega)
 ·rw[if_neg e]
  rw[<-nF (n:=n) (dE (iD ((p,ex)::ts)) 0 fun j=>(if 0=j then 1 else 0)-(if q=nG ((p,ex)::ts) j then 1 else 0)) (fun r=>ff p (zW ((p,ex)::ts) r)) n (Nat.le_refl _)]
  rw[yd]
  ·have e1:(if 1<=0/\0<=n then ff p (zW ((p,ex)::ts) 0)*dE (iD ((p,ex)::ts)) 0 (fun j=>(if 0=j then 1 else 0)-(if q=nG ((p,ex)::ts) j then 1 else 0)) 0 0+dE (iD ((p,ex)::ts)) 0 (fun j=>(if 0=j then 1 else 0)-(if q=nG ((p,ex)::ts) j then 1 else 0)) 0 0 else dE (iD ((p,ex)::ts)) 0 (fun j=>(if 0=j then 1 else 0)-(if q=nG ((p,ex)::ts) j then 1 else 0)) 0 0)=(1:Int):=by
    rw[if_neg (by omega)]
    unfold dE
    rw[if_pos rfl,h0,if_pos rfl,if_neg e];rfl
   (try simp only)
   first
   |rw[e1,Int.one_mul]
   |(have e1:=e1
     simp only at e1
     rw[e1,Int.one_mul])
   refine dG fun i j hi hj=> ?_
   (try simp only)
   rw[if_pos (by omega)]
   unfold dE
   rw[if_pos rfl,if_neg (show¬i+1=0 by omega)]
   (try simp only)
   rw[(hp j hj).1,if_neg (show¬0=j+1 by omega)]
   unfold iD
   rw[RW,RS,Kd (hp j hj).2,List.length_map,(hp j hj).1]
   have e2:zW ((p,ex)::ts) (i+1)=zW ts i:=rfl
   rw[e2]
   by_cases a:q=nG ts j
   ·rw[if_pos a,if_pos a]
    by_cases b:i=j
    ·rw[if_pos b,if_pos (by omega)];omega
    ·rw[if_neg b,if_neg (by omega)];omega
   ·rw[if_neg a,if_neg a]
    by_cases b:i=j
    ·rw[if_pos b,if_pos (by omega)];omega
    ·rw[if_neg b,if_neg (by omega)];omega
  ·intro i h1 h2
   (try simp only)
   rw[if_pos (show 1<=i/\i<=n by omega)]
   unfold dE
   rw[if_neg (show¬i=0 by omega),if_pos (show 0=0 from rfl)]
   (try simp only)
   rw[h0,if_neg e]
   unfold iD
   rw[if_neg (show¬i=0 by omega),h0]
   simp
   omega
theorem CQ:∀(n:Nat)(ts:Tn),ts.length=n->(ts.map (·.1)).Nodup->cK n (iD ts)=LJ n ts
 |0,ts,_,_=>by rw[cK];cases ts<;>rfl
 |n+1,(p,ex)::ts,h,hd=>by
  have hn:ts.length=n:=by simpa using h
  have Qo:(ts.map (·.1)).Nodup:=by
   rw[List.map_cons,List.nodup_cons]at hd
   exact hd.2
  have key:∀l:List Int,cK (n+1) (dE (iD ((p,ex)::ts)) 0 fun j=>(if 0=j then(l.length:Int)else 0)-ff (nG ((p,ex)::ts) j) l)=(l.map fun q=>if q=p then 0 else LJ n (qZ p q ts)).sum:=by
   intro l
   induction l with
   |nil=>
    have:(fun j:Nat=>(if 0=j then((([]:List Int).length:Nat):Int)else 0)-ff (nG ((p,ex)::ts) j) [])=fun _=>0:=by
     funext j
     simp[ff]
    rw[this,nD _ (by omega)]
    rfl
   |cons q l ih=>
    have:(fun j:Nat=>(if 0=j then(((q::l).length:Nat):Int)else 0)-ff (nG ((p,ex)::ts) j) (q::l))=fun j=>1*((if 0=j then 1 else 0)-(if q=nG ((p,ex)::ts) j then 1 else 0))+((if 0=j then(l.length:Int)else 0)-ff (nG ((p,ex)::ts) j) l):=by
     funext j
     rw[ff,List.length_cons]
     by_cases a:0=j
     ·rw[if_pos a,if_pos a,if_pos a];omega
     ·rw[if_neg a,if_neg a,if_neg a];omega
    rw[this,sJ (iD ((p,ex)::ts)) 1 (fun j=>(if 0=j then 1 else 0)-(if q=nG ((p,ex)::ts) j then 1 else 0)) (fun j=>(if 0=j then(l.length:Int)else 0)-ff (nG ((p,ex)::ts) j) l) (by omega),ih,Oh hn hd,List.map_cons,List.sum_cons,Int.one_mul]
    congr 1
    by_cases a:q=p
    ·rw[if_pos a,if_pos a]
    ·rw[if_neg a,if_neg a,CQ n (qZ p q ts) (by unfold qZ;simpa using hn) (by rw[Bv];exact Qo)]
  have e:dE (iD ((p,ex)::ts)) 0 (fun j=>(if 0=j then(ex.length:Int)else 0)-ff (nG ((p,ex)::ts) j) ex)=iD ((p,ex)::ts):=by
   have:=Bs (iD ((p,ex)::ts)) 0
   exact this
  rw[LJ,<-key ex,e]
def dA{α:Type}:List (List α)->List (List α)
 |[]=>[[]]
 |c::cs=>c.flatMap fun x=>(dA cs).map (x:: ·)
theorem Bw{α β:Type}(f:α->β):∀cs:List (List α),dA (cs.map (·.map f))=(dA cs).map (·.map f)
 |[]=>rfl
 |c::cs=>by
  rw[List.map_cons,dA,dA,Bw f cs,List.map_flatMap,List.flatMap_map]
  congr 1
  funext x
  rw[List.map_map,List.map_map]
  rfl
def Mw:Nat->List (Int×Int)->Bool
 |0,_=>true
 |_+1,[]=>true
 |n+1,(p,q)::l=> !decide (q=p)&&Mw n (l.map fun t=>(t.1,CP p q t.2))
theorem Ke(p q:Int):∀(ns c:List Int),ns.zip (c.map (CP p q))=(ns.zip c).map fun t=>(t.1,CP p q t.2)
 |[],_=>by simp
 |_::_,[]=>by simp
 |x::ns,y::c=>by rw[List.map_cons,List.zip_cons_cons,List.zip_cons_cons,List.map_cons,Ke p q ns c]
theorem vx:∀l:List Nat,((l.sum:Nat):Int)=(l.map fun n:Nat=>(n:Int)).sum
 |[]=>rfl
 |x::l=>by rw[List.sum_cons,List.map_cons,List.sum_cons,<-vx l];omega
theorem yf:∀(n:Nat)(ts:Tn),ts.length=n->LJ n ts=(((dA (ts.map (·.2))).countP fun c=>Mw n ((ts.map (·.1)).zip c):Nat):Int)
 |0,ts,h=>by
  rw[List.length_eq_zero_iff.1 h]
  rfl
 |n+1,(p,ex)::ts,h=>by
  have hn:ts.length=n:=by simpa using h
  have e0:dA (((p,ex)::ts).map (·.2))=ex.flatMap fun q=>(dA (ts.map (·.2))).map (q:: ·):=rfl
  rw[LJ,e0,List.countP_flatMap,vx,List.map_map]
  congr 1
  refine List.map_congr_left fun q _=> ?_
  (try simp only[Function.comp])
  rw[List.countP_map]
  by_cases e:q=p
  ·rw[if_pos e]
   have:((dA (ts.map (·.2))).countP ((fun c=>Mw (n+1) ((((p,ex)::ts).map (·.1)).zip c))∘fun c=>q::c))=0:=by
    rw[List.countP_eq_zero]
    intro c _
    simp[Mw,e]
   rw[this];rfl
  ·rw[if_neg e,yf n (qZ p q ts) (by unfold qZ;simpa using hn),Bv]
   have e1:(qZ p q ts).map (·.2)=(ts.map (·.2)).map (·.map (CP p q)):=by
    unfold qZ
    rw[List.map_map,List.map_map]
    rfl
   rw[e1,Bw,List.countP_map]
   congr 1
   refine List.countP_congr fun c _=> ?_
   (try simp only[Function.comp])
   rw[Ke,List.map_cons,List.zip_cons_cons,Mw]
   simp[e]
theorem CR:∀(n:Nat)(l:List (Int×Int)),l.length=n->(l.map (·.1)).Nodup->(Mw n l=true↔∃rk:Int->Nat,∀t,t∈l->t.2∈l.map (·.1)->rk t.2<rk t.1)
 |0,l,h,_=>by
  rw[List.length_eq_zero_iff.1 h]
  exact⟨fun _=>⟨fun _=>0,fun t ht=>by simp at ht⟩,fun _=>rfl⟩
 |n+1,(p,q)::l,h,hd=>by
  have hn:l.length=n:=by simpa using h
  rw[List.map_cons,List.nodup_cons]at hd
  have ih:=CR n (l.map fun t=>(t.1,CP p q t.2)) (by simpa using hn) (by rw[List.map_map];exact hd.2)
  have nm:(l.map fun t=>(t.1,CP p q t.2)).map (·.1)=l.map (·.1):=by rw[List.map_map];rfl
  rw[nm]at ih
  rw[Mw,Bool.and_eq_true,ih]
  constructor
  ·rintro⟨hq,rk,H⟩
   have hq:¬q=p:=by simpa using hq
   refine⟨fun x=>if x=p then(if q∈l.map (·.1)then 2*rk q+3 else 1)else 2*rk x+2,fun t ht hm=> ?_⟩
   rcases List.mem_cons.1 ht with rfl|ht
   ·show(if q=p then(if q∈l.map (·.1)then 2*rk q+3 else 1)else 2*rk q+2)<(if p=p then(if q∈l.map (·.1)then 2*rk q+3 else 1)else 2*rk p+2)
    have hm':q∈l.map (·.1):=by
     rw[List.map_cons]at hm
     rcases List.mem_cons.1 hm with e|e
     ·exact absurd e hq
     ·exact e
    rw[if_neg hq,if_pos rfl,if_pos hm']
    omega
   ·have tp:t.1≠p:=fun e=>hd.1 (e▸List.mem_map.2 ⟨t,ht,rfl⟩)
    show(if t.2=p then(if q∈l.map (·.1)then 2*rk q+3 else 1)else 2*rk t.2+2)<(if t.1=p then(if q∈l.map (·.1)then 2*rk q+3 else 1)else 2*rk t.1+2)
    rw[if_neg tp]
    have H':=H (t.1,CP p q t.2) (List.mem_map.2 ⟨t,ht,rfl⟩)
    (try simp only at H')
    by_cases e:t.2=p
    ·rw[if_pos e]
     have er:CP p q t.2=q:=by unfold CP;rw[if_pos e]
     rw[er]at H'
     by_cases c:q∈l.map (·.1)
     ·rw[if_pos c];have:=H' c;omega
     ·rw[if_neg c];omega
    ·rw[if_neg e]
     have er:CP p q t.2=t.2:=by unfold CP;rw[if_neg e]
     rw[er]at H'
     rw[List.map_cons]at hm
     rcases List.mem_cons.1 hm with a|a
     ·exact absurd a e
     ·have:=H' a;omega
  ·rintro⟨rk,H⟩
   have H0:=H (p,q) (List.mem_cons_self ..)
   (try simp only at H0)
   refine⟨?_,rk,fun t ht hm=> ?_⟩
   ·have:¬q=p:=fun e=>by
     have:=H0 (by rw[List.map_cons,e];exact List.mem_cons_self ..)
     rw[e]at this
     omega
    simpa using this
   ·obtain⟨u,hu,rfl⟩:=List.mem_map.1 ht
    (try simp only at hm⊢)
    have Hu:=H u (List.mem_cons_of_mem _ hu)
    rw[List.map_cons]at H0 Hu
    by_cases e:u.2=p
    ·have er:CP p q u.2=q:=by unfold CP;rw[if_pos e]
     rw[er]at hm⊢
     have h1:=Hu (by rw[e];exact List.mem_cons_self ..)
     have h2:=H0 (List.mem_cons_of_mem _ hm)
     rw[e]at h1
     omega
    ·have er:CP p q u.2=u.2:=by unfold CP;rw[if_neg e]
     rw[er]at hm⊢
     exact Hu (List.mem_cons_of_mem _ hm)
def My(f:Int->Int)(sink:Int)(n:Nat):Nat->Nat->Int->Option Nat
 |0,_,_=>none
 |r+1,m,a=>if a=sink then some m else if f a<0\/n<m then none else My f sink n r (m+1) (f a)
def LK(g:List (List Int))(rs:List Int)(sink:Int):Nat->Option (List Int)
 |0=>some []
 |i+1=>match LK g rs sink i with
  |none=>none
  |some l=>match My (nx g rs) sink g.length (g.length+3) 0 i with
   |none=>none
   |some m=>some (l++[(m:Int)])
def Fw(g:List (List Int))(rs:List Int)(sink:Int):Bool:=(LK g rs sink g.length).isSome
theorem Fx{g:List (List Int)}{rs:List Int}{sink:Int}{i:Nat}(h:LK g rs sink i=none):∀m,LK g rs sink (i+m)=none
 |0=>h
 |m+1=>by rw[<-Nat.add_assoc,LK,Fx h m]
theorem Wn{g:List (List Int)}{rs:List Int}{sink:Int}{i n:Nat}(h:LK g rs sink i=none)(hi:i<=n):LK g rs sink n=none:=by
 have:=Fx h (n-i)
 rwa [show i+(n-i)=n by omega]at this
theorem RY{g:List (List Int)}{rs:List Int}{sink:Int}(h:∀p:Nat,p<g.length->(My (nx g rs) sink g.length (g.length+3) 0 p).isSome=true):Fw g rs sink=true:=by
 have:∀i,i<=g.length->(LK g rs sink i).isSome=true:=by
  intro i
  induction i with
  |zero=>intro _;rfl
  |succ i ih=>
   intro hi
   have h1:=ih (by omega)
   have h2:=h i (by omega)
   rw[LK]
   cases h3:LK g rs sink i with
   |none=>rw[h3]at h1;cases h1
   |some l=>
    cases h4:My (nx g rs) sink g.length (g.length+3) 0 i with
    |none=>rw[h4]at h2;cases h2
    |some m=>rfl
 exact this _ (Nat.le_refl _)
def Fy(n:Nat):List Int:=(List.range n).map fun i:Nat=>(i:Int)
def tY(g:List (List Int))(s:Int)(p:Nat):List Int:=if(p:Int)=s\/(g.getD p []).length=0 then[0]else Fy (g.getD p []).length
def ra(g:List (List Int))(s:Int):List (List Int):=dA ((List.range g.length).map (tY g s))
def CS(g:List (List Int))(s:Int):List (List Int):=(ra g s).filter fun rs=>Fw g rs s
def gX(s:Int)(p:Nat):Bool:= !decide ((p:Int)=s)
theorem jX{s:Int}{p:Nat}:gX s p=true↔(p:Int)≠s:=by unfold gX;simp
theorem tZ{s:Int}{p:Nat}(e:(p:Int)=s):¬gX s p=true:=fun h=>jX.1 h e
theorem Fz(s:Int)(n:Nat):(((List.range n).filter (gX s)).map fun p:Nat=>(p:Int)).Nodup:=by
 unfold List.Nodup
 rw[List.pairwise_map]
 exact(List.Pairwise.filter _ List.nodup_range).imp fun h e=>h (by omega)
def fJ(g:List (List Int))(s:Int):Tn:=((List.range g.length).filter (gX s)).map fun p:Nat=>((p:Int),g.getD p [])
theorem ua{α:Type}:∀(cs:List (List α))(l:List α),l∈dA cs↔l.length=cs.length/\∀i(h1:i<l.length)(h2:i<cs.length),l[i]∈cs[i]
 |[],l=>by
  rw[dA,List.mem_singleton]
  constructor
  ·rintro rfl;exact⟨rfl,fun i h1=>absurd h1 (by simp)⟩
  ·rintro⟨h,_⟩;exact List.length_eq_zero_iff.1 h
 |c::cs,l=>by
  rw[dA,List.mem_flatMap]
  constructor
  ·rintro⟨x,hx,hl⟩
   obtain⟨m,hm,rfl⟩:=List.mem_map.1 hl
   obtain⟨h1,h2⟩:=(ua cs m).1 hm
   refine⟨by simp[h1],fun i a b=> ?_⟩
   cases i with
   |zero=>exact hx
   |succ i=>exact h2 i (by simpa using a) (by simpa using b)
  ·rintro⟨h1,h2⟩
   cases l with
   |nil=>simp at h1
   |cons x m=>
    refine⟨x,h2 0 (by simp) (by simp),List.mem_map.2 ⟨m,(ua cs m).2 ⟨by simpa using h1,fun i a b=> ?_⟩,rfl⟩⟩
    exact h2 (i+1) (by simpa using a) (by simpa using b)
theorem Oi{n:Nat}{x:Int}:x∈Fy n↔0<=x/\x<(n:Int):=by
 unfold Fy
 rw[List.mem_map]
 constructor
 ·rintro⟨i,hi,rfl⟩
  rw[List.mem_range]at hi
  omega
 ·rintro⟨h0,h1⟩
  exact⟨x.toNat,List.mem_range.2 (by omega),by omega⟩
theorem Oj{g:List (List Int)}{s:Int}{rs:List Int}(hg:aM g=true){a:Int}(h0:0<=a)(h1:a<(g.length:Int))(h:rs∈ra g s):gu g (rs,a)/\(0<=s->rs.getD s.toNat 0=0):=by
 obtain⟨e1,e2⟩:=(ua _ _).1 h
 rw[List.length_map,List.length_range]at e1
 have e3:∀i(h:i<rs.length),rs[i]∈tY g s i:=fun i hi=>by
  have:=e2 i hi (by rw[List.length_map,List.length_range];omega)
  rw[List.getElem_map,List.getElem_range]at this
  exact this
 refine⟨⟨hg,e1,h0,h1,fun i hi gH=> ?_⟩,fun hs=> ?_⟩
 ·have:=e3 i hi
  unfold tY at this
  rw[aR gH]at this
  (try simp only)
  split at this
  ·rw[List.mem_singleton]at this
   (try simp only at this)
   omega
  ·have:=Oi.1 this
   (try simp only at this)
   omega
 ·by_cases hh:s.toNat<rs.length
  ·have:=e3 s.toNat hh
   unfold tY at this
   rw[if_pos (.inl (by omega)),List.mem_singleton]at this
   rw[aN hh,this]
  ·rw[List.getD_eq_getElem?_getD,List.getElem?_eq_none (by omega)];rfl
theorem Bx{g:List (List Int)}{rs:List Int}{s p:Int}{n:Nat}:∀(r m j:Nat),(My (nx g rs) s n r m (cR g rs p j)).isSome=true->∃k,cR g rs p k=s
 |0,m,j,h=>by rw[My]at h;cases h
 |r+1,m,j,h=>by
  rw[My]at h
  by_cases e:cR g rs p j=s
  ·exact⟨j,e⟩
  ·rw[if_neg e]at h
   split at h
   ·cases h
   ·exact Bx r (m+1) (j+1) h
theorem Bz{g:List (List Int)}{rs:List Int}{s p:Int}{n:Nat}(hs:0<=s):∀(k r m j:Nat),cR g rs p (j+k)=s->m+k<=n+1->k<r->(My (nx g rs) s n r m (cR g rs p j)).isSome=true
 |k,0,m,j,_,_,h=>by omega
 |k,r+1,m,j,h,h1,h2=>by
  rw[My]
  by_cases e:cR g rs p j=s
  ·rw[if_pos e];rfl
  ·rw[if_neg e]
   cases k with
   |zero=>exact absurd h e
   |succ k=>
    have h3:¬nx g rs (cR g rs p j)<0:=fun hh=>by
     have:cR g rs p (j+1)<0:=hh
     have:=fL (m:=j+(k+1)) this (by omega)
     omega
    rw[if_neg (by omega)]
    exact Bz hs k r (m+1) (j+1) (by rw[show j+1+k=j+(k+1) by omega];exact h) (by omega) (by omega)
theorem LM{g:List (List Int)}{rs:List Int}{a s p:Int}(W:gu g (rs,a))(h0:0<=p)(h1:p<(g.length:Int))(hs:0<=s){k:Nat}(h:cR g rs p k=s):∃m,m<g.length/\cR g rs p m=s:=by
 by_cases hn:cR g rs p g.length<0
 ·refine⟨k,Nat.not_le.1 fun hh=> ?_,h⟩
  have:=fL hn hh
  omega
 ·obtain⟨i,d,e1,e2,e3⟩:=sE W h0 h1 (by omega)
  by_cases hk:k<g.length
  ·exact⟨k,hk,h⟩
  ·have:=wz e3 (k-i)
   rw[show i+(k-i)=k by omega,h]at this
   have:=Nat.mod_lt (k-i) (show 0<d by omega)
   exact⟨i+(k-i)%d,by omega,by omega⟩
theorem BA{g:List (List Int)}{rs:List Int}{a s:Int}(W:gu g (rs,a))(hs:0<=s):Fw g rs s=true↔∀p:Nat,p<g.length->∃k,cR g rs p k=s:=by
 constructor
 ·intro h p hp
  have:(My (nx g rs) s g.length (g.length+3) 0 (cR g rs p 0)).isSome=true:=by
   show(My (nx g rs) s g.length (g.length+3) 0 p).isSome=true
   cases hh:My (nx g rs) s g.length (g.length+3) 0 p with
   |some m=>rfl
   |none=>
    exfalso
    have e1:LK g rs s (p+1)=none:=by
     rw[LK]
     cases LK g rs s p with
     |none=>rfl
     |some l=>(try simp only);rw[hh]
    unfold Fw at h
    rw[Wn e1 (by omega)]at h
    cases h
  exact Bx _ _ _ this
 ·intro h
  refine RY fun p hp=> ?_
  obtain⟨k,hk⟩:=h p hp
  obtain⟨m,hm,e⟩:=LM W (p:=(p:Int)) (by omega) (by omega) hs hk
  exact Bz (p:=(p:Int)) hs m _ 0 0 (by rw[Nat.zero_add];exact e) (by omega) (by omega)
def gC(g:List (List Int))(s:Int)(ps:List Nat)(rs:List Int):List (Int×Int):=((ps.zip rs).filter fun t=>gX s t.1).map fun t=>((t.1:Int),(g.getD t.1 []).getD t.2.toNat 0)
theorem Kf{g:List (List Int)}{s:Int}{p:Nat}(e:(p:Int)≠s)(r:Int)(ps:List Nat)(rs:List Int):gC g s (p::ps) (r::rs)=((p:Int),(g.getD p []).getD r.toNat 0)::gC g s ps rs:=by
 unfold gC
 rw[List.zip_cons_cons,List.filter_cons_of_pos (p:=fun t:Nat×Int=>gX s t.1) (a:=(p,r)) (jX.2 e),List.map_cons]
theorem Kg{g:List (List Int)}{s:Int}{p:Nat}(e:(p:Int)=s)(r:Int)(ps:List Nat)(rs:List Int):gC g s (p::ps) (r::rs)=gC g s ps rs:=by
 unfold gC
 rw[List.zip_cons_cons,List.filter_cons_of_neg (p:=fun t:Nat×Int=>gX s t.1) (a:=(p,r)) (tZ e)]
theorem RZ(ex:List Int):(Fy ex.length).map (fun k=>ex.getD k.toNat 0)=ex:=by
 apply List.ext_getElem
 ·simp[Fy]
 ·intro i h1 h2
  simp only[Fy,List.getElem_map,List.getElem_range]
  rw[show((i:Nat):Int).toNat=i by omega,aN h2]
theorem Kh(g:List (List Int))(s:Int):∀ps:List Nat,(∀p,p∈ps->(p:Int)≠s->(g.getD p []).length≠0)->
 (dA (ps.map (tY g s))).map (fun rs=>(gC g s ps rs).map (·.2))=dA ((ps.filter (gX s)).map fun p:Nat=>g.getD p [])
 |[],_=>rfl
 |p::ps,h=>by
  have ih:=Kh g s ps fun q hq=>h q (List.mem_cons_of_mem _ hq)
  rw[List.map_cons,dA,List.map_flatMap]
  by_cases e:(p:Int)=s
  ·have hc:tY g s p=[0]:=by unfold tY;rw[if_pos (.inl e)]
   rw[hc,List.filter_cons_of_neg (tZ e),<-ih,List.flatMap_cons,List.flatMap_nil,List.append_nil,List.map_map]
   refine List.map_congr_left fun rs _=> ?_
   (try simp only[Function.comp])
   rw[Kg e]
  ·have hc:tY g s p=Fy (g.getD p []).length:=by
    unfold tY
    rw[if_neg fun hh=>by
     rcases hh with hh|hh
     ·exact e hh
     ·exact h p (List.mem_cons_self ..) e hh]
   rw[hc,List.filter_cons_of_pos (jX.2 e),List.map_cons,dA,<-ih]
   have:∀l:List Int,(l.flatMap fun x=>((dA (ps.map (tY g s))).map (x:: ·)).map fun rs=>(gC g s (p::ps) rs).map (·.2))=(l.map fun k=>(g.getD p []).getD k.toNat 0).flatMap fun x=>((dA (ps.map (tY g s))).map fun rs=>(gC g s ps rs).map (·.2)).map (x:: ·):=by
    intro l
    rw[List.flatMap_map]
    congr 1
    funext x
    rw[List.map_map,List.map_map]
    refine List.map_congr_left fun rs _=> ?_
    (try simp only[Function.comp])
    rw[Kf e,List.map_cons]
   rw[this,RZ]
theorem pX(g:List (List Int))(s:Int):∀(ps:List Nat)(rs:List Int),rs.length=ps.length->(gC g s ps rs).map (·.1)=(ps.filter (gX s)).map fun p:Nat=>(p:Int)
 |[],rs,h=>by simp[gC]
 |p::ps,[],h=>by simp at h
 |p::ps,r::rs,h=>by
  have ih:=pX g s ps rs (by simpa using h)
  by_cases e:(p:Int)=s
  ·rw[Kg e,List.filter_cons_of_neg (tZ e)]
   exact ih
  ·rw[Kf e,List.filter_cons_of_pos (jX.2 e),List.map_cons,List.map_cons,ih]
theorem Ki{g:List (List Int)}{s:Int}{rs:List Int}(h:rs.length=g.length){t:Int×Int}:t∈gC g s (List.range g.length) rs↔∃p:Nat,p<g.length/\(p:Int)≠s/\t=((p:Int),(g.getD p []).getD (rs.getD p 0).toNat 0):=by
 unfold gC
 rw[List.mem_map]
 constructor
 ·rintro⟨u,hu,rfl⟩
  rw[List.mem_filter]at hu
  obtain⟨i,hi,e⟩:=List.getElem_of_mem hu.1
  rw[List.length_zip,List.length_range]at hi
  rw[List.getElem_zip,List.getElem_range]at e
  have hir:i<rs.length:=by have:=Nat.min_le_right g.length rs.length;omega
  refine⟨i,by omega,?_,?_⟩
  ·have:=hu.2
   rw[<-e]at this
   exact jX.1 this
  ·rw[<-e]
   (try simp only)
   rw[aN hir]
 ·rintro⟨p,hp,eA,rfl⟩
  refine⟨(p,rs.getD p 0),List.mem_filter.2 ⟨?_,jX.2 eA⟩,rfl⟩
  have hz:p<((List.range g.length).zip rs).length:=by rw[List.length_zip,List.length_range];omega
  have:=List.getElem_mem hz
  rw[List.getElem_zip,List.getElem_range]at this
  rw[aN (by omega)]
  exact this
theorem LN{g:List (List Int)}{rs:List Int}{s p:Int}:∀k,cR g rs p k=s->∃m,m<=k/\cR g rs p m=s/\∀j,j<m->cR g rs p j≠s:=by
 intro k
 induction k using Nat.strongRecOn with
 |ind k ih=>
  intro h
  by_cases hx:∃j,j<k/\cR g rs p j=s
  ·obtain⟨j,a,b⟩:=hx
   obtain⟨m,m1,m2⟩:=ih j a b
   exact⟨m,by omega,m2⟩
  ·exact⟨k,Nat.le_refl _,h,fun j hj e=>hx ⟨j,hj,e⟩⟩
theorem yg{g:List (List Int)}{rs:List Int}(p:Int):∀k,cR g rs (nx g rs p) k=cR g rs p (k+1)
 |0=>rfl
 |k+1=>by rw[cR,yg p k];rfl
theorem R0{g:List (List Int)}{s a:Int}{rs:List Int}(W:gu g (rs,a))(h0:0<=s)(h1:s<(g.length:Int))(eA:∀p:Nat,p<g.length->(p:Int)≠s->(g.getD p []).length≠0):
 Mw (gC g s (List.range g.length) rs).length (gC g s (List.range g.length) rs)=Fw g rs s:=by
 have hl:rs.length=g.length:=W.len
 have hn:(gC g s (List.range g.length) rs).map (·.1)=((List.range g.length).filter (gX s)).map fun p:Nat=>(p:Int):=pX g s _ _ (by rw[List.length_range];exact hl)
 have nd:((gC g s (List.range g.length) rs).map (·.1)).Nodup:=by
  rw[hn]
  exact Fz s _
 have nm:∀x:Int,x∈(gC g s (List.range g.length) rs).map (·.1)↔0<=x/\x<(g.length:Int)/\x≠s:=fun x=>by
  rw[hn,List.mem_map]
  constructor
  ·rintro⟨p,hp,rfl⟩
   rw[List.mem_filter,List.mem_range]at hp
   have:=jX.1 hp.2
   omega
  ·rintro⟨a,b,c⟩
   exact⟨x.toNat,List.mem_filter.2 ⟨List.mem_range.2 (by omega),jX.2 (by omega)⟩,by omega⟩
 have nxe:∀p:Nat,p<g.length->(p:Int)≠s->(g.getD p []).getD (rs.getD p 0).toNat 0=nx g rs p/\0<=nx g rs p/\nx g rs p<(g.length:Int):=fun p hp mE=>by
  have a1:=eA p hp mE
  obtain⟨hr,hm,h2,e⟩:=wy W (p:=(p:Int)) (by omega) (by omega) (by rw[aR hp]at a1;exact a1)
  have hm':=(aT W.bE (List.getElem_mem (show(p:Int).toNat<g.length by omega))).2 _ (List.getElem_mem hm)
  refine⟨?_,by rw[e];omega,by rw[e];omega⟩
  unfold nx
  rw[if_neg (by omega),show((p:Nat):Int).toNat=p by omega,if_neg a1]
 rw[Bool.eq_iff_iff,CR _ _ rfl nd,BA W h0]
 constructor
 ·rintro⟨rk,H⟩
  have:∀(n:Nat)(p:Nat),p<g.length->rk p<n->∃k,cR g rs p k=s:=by
   intro n
   induction n with
   |zero=>intro p _ h;omega
   |succ n ih=>
    intro p hp hk
    by_cases e:(p:Int)=s
    ·exact⟨0,e⟩
    ·obtain⟨x1,x2,x3⟩:=nxe p hp e
     by_cases e2:nx g rs p=s
     ·exact⟨1,e2⟩
     ·have:=H _ ((Ki hl).2 ⟨p,hp,e,rfl⟩) (by(try simp only);rw[x1];exact(nm _).2 ⟨x2,x3,e2⟩)
      (try simp only at this)
      rw[x1]at this
      obtain⟨k,QC⟩:=ih (nx g rs p).toNat (by omega) (by rw[show(((nx g rs p).toNat:Nat):Int)=nx g rs p by omega];omega)
      rw[show(((nx g rs p).toNat:Nat):Int)=nx g rs p by omega,yg]at QC
      exact⟨k+1,QC⟩
  exact fun p hp=>this _ p hp (Nat.lt_succ_self _)
 ·intro H
  have hf:∀p:Int,∃m:Nat,0<=p->p<(g.length:Int)->cR g rs p m=s/\∀j,j<m->cR g rs p j≠s:=fun p=>by
   by_cases hp:0<=p/\p<(g.length:Int)
   ·obtain⟨k,hk⟩:=H p.toNat (by omega)
    rw[show((p.toNat:Nat):Int)=p by omega]at hk
    obtain⟨m,_,m2⟩:=LN k hk
    exact⟨m,fun _ _=>m2⟩
   ·exact⟨0,fun a b=>absurd ⟨a,b⟩ hp⟩
  refine⟨fun p=>Classical.choose (hf p),fun t ht hm=> ?_⟩
  obtain⟨p,hp,mE,rfl⟩:=(Ki hl).1 ht
  obtain⟨x1,x2,x3⟩:=nxe p hp mE
  (try simp only at hm⊢)
  rw[x1]at hm⊢
  obtain⟨a1,a2⟩:=Classical.choose_spec (hf (nx g rs p)) x2 x3
  obtain⟨b1,b2⟩:=Classical.choose_spec (hf (p:Int)) (by omega) (by omega)
  revert a1 a2 b1 b2
  generalize Classical.choose (hf (nx g rs p))=u
  generalize Classical.choose (hf (p:Int))=v
  intro a1 a2 b1 b2
  cases v with
  |zero=>exact absurd b1 mE
  |succ v=>
   rw[<-yg]at b1
   refine Nat.not_le.1 fun hh=> ?_
   exact a2 v (by omega) b1
theorem prod_nil{α:Type}:∀cs:List (List α),[]∈cs->dA cs=[]
 |[],h=>by simp at h
 |c::cs,h=>by
  rw[dA]
  rcases List.mem_cons.1 h with h|h
  ·rw[<-h];rfl
  ·rw[prod_nil cs h]
   simp
theorem FA{g:List (List Int)}{s:Int}(hg:aM g=true)(h0:0<=s)(h1:s<(g.length:Int)):((CS g s).length:Int)=cK (g.length-1) (iD (fJ g s)):=by
 have hl:(fJ g s).length=g.length-1:=by
  unfold fJ
  rw[List.length_map]
  have:∀n:Nat,((List.range n).filter (gX s)).length=if s.toNat<n then n-1 else n:=by
   intro n
   induction n with
   |zero=>rfl
   |succ n ih=>
    rw[List.range_succ,List.filter_append,List.length_append,ih]
    by_cases e:(n:Int)=s
    ·rw[List.filter_cons_of_neg (tZ e),if_neg (by omega),if_pos (by omega)];simp
    ·rw[List.filter_cons_of_pos (jX.2 e)]
     by_cases c:s.toNat<n
     ·rw[if_pos c,if_pos (by omega)];simp;omega
     ·rw[if_neg c,if_neg (by omega)];simp
  rw[this,if_pos (by omega)]
 have nd:((fJ g s).map (·.1)).Nodup:=by
  unfold fJ
  rw[List.map_map]
  exact Fz s _
 rw[CQ _ _ hl nd,yf _ _ hl]
 congr 1
 unfold CS
 rw[<-List.countP_eq_length_filter]
 have ex:(fJ g s).map (·.2)=((List.range g.length).filter (gX s)).map fun p:Nat=>g.getD p []:=by
  unfold fJ
  rw[List.map_map]
  rfl
 have en:(fJ g s).map (·.1)=((List.range g.length).filter (gX s)).map fun p:Nat=>(p:Int):=by
  unfold fJ
  rw[List.map_map]
  rfl
 by_cases eA:∀p:Nat,p<g.length->(p:Int)≠s->(g.getD p []).length≠0
 ·rw[ex,<-Kh g s (List.range g.length) fun p hp=>eA p (List.mem_range.1 hp),List.countP_map]
  show(ra g s).countP _=(ra g s).countP _
  refine List.countP_congr fun rs R5=> ?_
  (try simp only[Function.comp])
  have W:=(Oj (a:=s) hg h0 h1 R5).1
  have hrl:rs.length=g.length:=W.len
  rw[en,<-pX g s (List.range g.length) rs (by rw[List.length_range];exact hrl)]
  have hz:((gC g s (List.range g.length) rs).map (·.1)).zip ((gC g s (List.range g.length) rs).map (·.2))=gC g s (List.range g.length) rs:=by
   generalize gC g s (List.range g.length) rs=l
   induction l with
   |nil=>rfl
   |cons a l ih=>rw[List.map_cons,List.map_cons,List.zip_cons_cons,ih]
  have hlen:(gC g s (List.range g.length) rs).length=g.length-1:=by
   have:=congrArg List.length (pX g s (List.range g.length) rs (by rw[List.length_range];exact hrl))
   rw[List.length_map]at this
   rw[this,<-en,List.length_map,hl]
  rw[hz,<-hlen,R0 W h0 h1 eA]
 ·have:∃p:Nat,p<g.length/\(p:Int)≠s/\(g.getD p []).length=0:=by
   refine Classical.byContradiction fun hh=>eA fun p hp mE hz=>hh ⟨p,hp,mE,hz⟩
  obtain⟨p,hp,mE,hz⟩:=this
  have e1:dA ((fJ g s).map (·.2))=[]:=by
   refine prod_nil _ ?_
   rw[ex,List.mem_map]
   exact⟨p,List.mem_filter.2 ⟨List.mem_range.2 hp,jX.2 mE⟩,List.length_eq_zero_iff.1 hz⟩
  rw[e1,List.countP_nil,List.countP_eq_zero]
  intro rs R5 hh
  have W:=(Oj (a:=s) hg h0 h1 R5).1
  obtain⟨k,hk⟩:=(BA W h0).1 hh p hp
  cases k with
  |zero=>exact mE hk
  |succ k=>
   have:cR g rs p 1<0:=by
    show nx g rs p<0
    unfold nx
    rw[if_neg (by omega),show((p:Nat):Int).toNat=p by omega,if_pos hz]
    omega
   have:=fL this (show 1<=k+1 by omega)
   omega
def Way(g:List (List Int))(p:Int):Nat->Int->Prop
 |0,q=>p=q
 |k+1,q=>∃x,Way g p k x/\q∈g.getD x.toNat []
theorem Way.rng{g:List (List Int)}(hg:aM g=true){p:Int}(h0:0<=p)(h1:p<(g.length:Int)):∀{k:Nat}{q:Int},Way g p k q->0<=q/\q<(g.length:Int)
 |0,q,h=>by rw[<-show p=q from h];exact⟨h0,h1⟩
 |k+1,q,h=>by
  obtain⟨x,hx,hq⟩:=h
  have hr:=Way.rng hg h0 h1 hx
  rw[aR (by omega)]at hq
  exact(aT hg (List.getElem_mem (show x.toNat<g.length by omega))).2 q hq
theorem Way.trans{g:List (List Int)}{p q r:Int}{a:Nat}(h:Way g p a q):∀{b:Nat},Way g q b r->Way g p (a+b) r
 |0,k=>by rw[<-show q=r from k];exact h
 |b+1,k=>by
  obtain⟨x,hx,hr⟩:=k
  exact⟨x,h.trans hx,hr⟩
theorem kQ{l:List Int}{i j:Nat}{v:Int}(hi:i<l.length):(l.set i v).getD j 0=if i=j then v else l.getD j 0:=by
 rw[List.getD_eq_getElem?_getD,List.getElem?_set,List.getD_eq_getElem?_getD]
 by_cases h:i=j
 ·subst h;simp[hi]
 ·simp[h]
structure BIn(x:Int)(qs cT:List Int)(dM new:List Int):Prop where
 len:dM.length=cT.length
 rX:∀y:Nat,0<=cT.getD y 0->dM.getD y 0=cT.getD y 0
 Wo:∀y:Nat,cT.getD y 0<0->dM.getD y 0=cT.getD y 0\/dM.getD y 0=cT.getD x.toNat 0+1/\(y:Int)∈qs/\(y:Int)∈new
 met:∀y,y∈qs->0<=dM.getD y.toNat 0
 nw:∀z,z∈new->z∈qs/\dM.getD z.toNat 0=cT.getD x.toNat 0+1
 cnt:new.length+iZ dM=iZ cT
theorem rc(x:Int):∀(qs cT out:List Int),(∀q,q∈qs->0<=q/\q<(cT.length:Int))->0<=cT.getD x.toNat 0->∃dM new,lD x qs (cT,out)=(dM,out++new)/\BIn x qs cT dM new
 |[],cT,out,_,_=>⟨cT,[],by rw[lD,List.append_nil],rfl,fun _ _=>rfl,fun _ _=> .inl rfl,fun y hy=>by simp at hy,fun z hz=>by simp at hz,by simp⟩
 |q::qs,cT,out,hr,hx=>by
  have hq:=hr q List.mem_cons_self
  rw[lD]
  by_cases hn:cT.getD q.toNat 0<0
  ·rw[if_pos hn]
   simp only
   have hqx:q.toNat≠x.toNat:=fun e=>by rw[e]at hn;omega
   have gx:(cT.set q.toNat (cT.getD x.toNat 0+1)).getD x.toNat 0=cT.getD x.toNat 0:=by rw[kQ (by omega),if_neg hqx]
   obtain⟨dM,new,e,B⟩:=rc x qs (cT.set q.toNat (cT.getD x.toNat 0+1)) (out++[q]) (fun r h=>by rw[List.length_set];exact hr r (List.mem_cons_of_mem _ h)) (by rw[gx];exact hx)
   have hc:=yb (l:=cT) (i:=q.toNat) (v:=cT.getD x.toNat 0+1) (by omega) (by rw[<-aN (by omega)];exact hn) (by omega)
   have hqf:dM.getD q.toNat 0=cT.getD x.toNat 0+1:=by
    have:=B.rX q.toNat (by rw[kQ (by omega),if_pos rfl];omega)
    rw[this,kQ (by omega),if_pos rfl]
   refine⟨dM,q::new,by rw[e,List.append_assoc];rfl,by rw[B.len,List.length_set],fun y hy=> ?_,fun y hy=> ?_,fun y hy=> ?_,fun z hz=> ?_,by have:=B.cnt;simp only[List.length_cons];omega⟩
   ·have eA:q.toNat≠y:=fun e=>by rw[e]at hn;omega
    have:=B.rX y (by rw[kQ (by omega),if_neg eA];exact hy)
    rw[this,kQ (by omega),if_neg eA]
   ·by_cases eA:q.toNat=y
    ·subst eA
     refine .inr ⟨hqf,?_,?_⟩<;>rw[show((q.toNat:Nat):Int)=q by omega]<;>exact List.mem_cons_self
    ·have g1:(cT.set q.toNat (cT.getD x.toNat 0+1)).getD y 0=cT.getD y 0:=by rw[kQ (by omega),if_neg eA]
     rcases B.Wo y (by rw[g1];exact hy)with h|⟨h1,h2,h3⟩
     ·exact .inl (h.trans g1)
     ·exact .inr ⟨by rw[h1,gx],List.mem_cons_of_mem _ h2,List.mem_cons_of_mem _ h3⟩
   ·rcases List.mem_cons.1 hy with rfl|hy
    ·rw[hqf];omega
    ·exact B.met y hy
   ·rcases List.mem_cons.1 hz with rfl|hz
    ·exact⟨List.mem_cons_self,hqf⟩
    ·have:=B.nw z hz
     exact⟨List.mem_cons_of_mem _ this.1,by rw[this.2,gx]⟩
  ·rw[if_neg hn]
   obtain⟨dM,new,e,B⟩:=rc x qs cT out (fun r h=>hr r (List.mem_cons_of_mem _ h)) hx
   refine⟨dM,new,e,B.len,B.rX,fun y hy=> ?_,fun y hy=> ?_,fun z hz=>⟨List.mem_cons_of_mem _ (B.nw z hz).1,(B.nw z hz).2⟩,B.cnt⟩
   ·rcases B.Wo y hy with h|⟨h1,h2,h3⟩
    ·exact .inl h
    ·exact .inr ⟨h1,List.mem_cons_of_mem _ h2,h3⟩
   ·rcases List.mem_cons.1 hy with rfl|hy
    ·rw[B.rX _ (by omega)];omega
    ·exact B.met y hy
structure BQ(g:List (List Int))(p:Int)(cT qu:List Int):Prop where
 len:cT.length=g.length
 way:∀y:Nat,y<g.length->0<=cT.getD y 0->Way g p (cT.getD y 0).toNat y
 lo:∀y:Nat,-1<=cT.getD y 0
 qin:∀x,x∈qu->0<=x/\x<(g.length:Int)/\0<=cT.getD x.toNat 0
 ord:qu.Pairwise fun a b=>cT.getD a.toNat 0<=cT.getD b.toNat 0
 top:∀x r,qu=x::r->∀y:Nat,y<g.length->cT.getD y 0<=cT.getD x.toNat 0+1
 done:∀x:Nat,x<g.length->0<=cT.getD x 0->(x:Int)∈qu\/∀y,y∈g.getD x []->0<=cT.getD y.toNat 0/\cT.getD y.toNat 0<=cT.getD x 0+1
 home:cT.getD p.toNat 0=0
 hi:∀y:Nat,y<g.length->cT.getD y 0+iZ cT<g.length
theorem FB{g:List (List Int)}(hg:aM g=true){p:Int}:∀(f:Nat)(cT qu:List Int),BQ g p cT qu->qu.length+iZ cT<=f->BQ g p (CL g f cT qu) []
 |0,cT,qu,B,h=>by
  have:qu=[]:=List.eq_nil_of_length_eq_zero (by omega)
  subst this
  exact B
 |f+1,cT,[],B,h=>B
 |f+1,cT,x::rest,B,h=>by
  have hx:=B.qin x List.mem_cons_self
  have Mv:x.toNat<g.length:=by omega
  have hq:∀q,q∈g.getD x.toNat []->0<=q/\q<(cT.length:Int):=fun q hq=>by
   rw[aR Mv]at hq
   rw[B.len]
   exact(aT hg (List.getElem_mem Mv)).2 q hq
  obtain⟨dM,new,e,C⟩:=rc x (g.getD x.toNat []) cT [] hq hx.2.2
  rw[CL,e]
  simp only[List.nil_append]
  have gx:dM.getD x.toNat 0=cT.getD x.toNat 0:=C.rX _ hx.2.2
  have alJ:∀y:Nat,0<=cT.getD y 0->dM.getD y 0=cT.getD y 0:=C.rX
  have hle:∀y:Nat,y<g.length->dM.getD y 0<=cT.getD x.toNat 0+1:=fun y hy=>by
   by_cases h0:0<=cT.getD y 0
   ·rw[C.rX y h0];exact B.top x rest rfl y hy
   ·rcases C.Wo y (by omega)with h|⟨h,_⟩
    ·rw[h];omega
    ·omega
  have FC:∀z,z∈rest->dM.getD z.toNat 0=cT.getD z.toNat 0:=fun z hz=>C.rX _ (B.qin z (List.mem_cons_of_mem _ hz)).2.2
  obtain⟨o1,o2⟩:=List.pairwise_cons.1 B.ord
  refine FB hg f dM (rest++new) ⟨by rw[C.len,B.len],fun y hy h0=> ?_,fun y=> ?_,fun z hz=> ?_,?_,fun z r hz y hy=> ?_,fun y hy h0=> ?_,?_,fun y hy=> ?_⟩ ?_
  ·by_cases h1:0<=cT.getD y 0
   ·rw[C.rX y h1];exact B.way y hy h1
   ·rcases C.Wo y (by omega)with h|⟨h,h2,_⟩
    ·rw[h]at h0;omega
    ·rw[h,show(cT.getD x.toNat 0+1).toNat=(cT.getD x.toNat 0).toNat+1 by omega]
     refine⟨x,?_,h2⟩
     have:=B.way x.toNat Mv hx.2.2
     rwa [show((x.toNat:Nat):Int)=x by omega]at this
  ·by_cases h1:0<=cT.getD y 0
   ·rw[C.rX y h1];omega
   ·have:=B.lo y
    rcases C.Wo y (by omega)with h|⟨h,_⟩<;>omega
  ·rcases List.mem_append.1 hz with hz|hz
   ·have:=B.qin z (List.mem_cons_of_mem _ hz)
    exact⟨this.1,this.2.1,by rw[FC z hz];exact this.2.2⟩
   ·have a:=C.nw z hz
    have b:=hq z a.1
    rw[B.len]at b
    exact⟨b.1,b.2,by rw[a.2];omega⟩
  ·rw[List.pairwise_append]
   refine⟨o2.imp_of_mem fun{a b} ha hb hab=>by rw[FC a ha,FC b hb];exact hab,?_,fun a ha b hb=> ?_⟩
   ·rw[List.pairwise_iff_getElem]
    intro i j hi hj _
    rw[(C.nw _ (List.getElem_mem hi)).2,(C.nw _ (List.getElem_mem hj)).2]
    omega
   ·rw[FC a ha,(C.nw b hb).2]
    have:=B.qin a (List.mem_cons_of_mem _ ha)
    exact B.top x rest rfl a.toNat (by omega)
  ·have hz1:cT.getD x.toNat 0<=dM.getD z.toNat 0:=by
    have hzm:z∈rest++new:=by rw[hz];exact List.mem_cons_self
    rcases List.mem_append.1 hzm with h|h
    ·rw[FC z h];exact o1 z h
    ·rw[(C.nw z h).2];omega
   have:=hle y hy
   omega
  ·by_cases hyx:(y:Int)=x
   ·refine .inr fun z hz=> ?_
    have ajk:y=x.toNat:=by omega
    rw[ajk]at hz⊢
    have:=hq z hz
    rw[B.len]at this
    exact⟨C.met z hz,by rw[gx];exact hle z.toNat (by omega)⟩
   ·by_cases h1:0<=cT.getD y 0
    ·rcases B.done y hy h1 with h|h
     ·rcases List.mem_cons.1 h with h|h
      ·exact absurd h hyx
      ·exact .inl (List.mem_append.2 (.inl h))
     ·refine .inr fun z hz=> ?_
      obtain⟨a,b⟩:=h z hz
      rw[C.rX _ a,C.rX _ h1]
      exact⟨a,b⟩
    ·rcases C.Wo y (by omega)with h|⟨_,_,h⟩
     ·rw[h]at h0;omega
     ·exact .inl (List.mem_append.2 (.inr h))
  ·rw[C.rX _ (by rw[B.home];omega)];exact B.home
  ·have hc:=C.cnt
   by_cases h1:0<=cT.getD y 0
   ·rw[C.rX y h1];have:=B.hi y hy;omega
   ·rcases C.Wo y (by omega)with h|⟨h,_,h3⟩
    ·rw[h];have:=B.hi y hy;omega
    ·have:=List.length_pos_of_mem h3
     have:=B.hi x.toNat Mv
     rw[h];omega
  ·have:=C.cnt
   simp only[List.length_cons,List.length_append]at*
   omega
theorem Ic{g:List (List Int)}(hg:aM g=true){p:Int}(h0:0<=p)(h1:p<(g.length:Int)):BQ g p (gj g p) []:=by
 obtain⟨b1,b2⟩:=Wk (n:=g.length) (p:=p.toNat) (by omega)
 have gd:∀y:Nat,((List.replicate g.length (-1:Int)).set p.toNat 0).getD y 0=if p.toNat=y then 0 else if y<g.length then-1 else 0:=fun y=>by
  rw[kQ (by simp;omega)]
  split
  ·rfl
  ·rw[List.getD_eq_getElem?_getD,List.getElem?_replicate];split<;>rfl
 refine FB hg g.length _ [p] ⟨by simp,fun y hy h=> ?_,fun y=> ?_,fun x hx=> ?_,by simp,fun x r hx y hy=> ?_,fun x hx h=> ?_,?_,fun y hy=> ?_⟩ (by simp only[List.length_cons,List.length_nil];omega)
 ·rw[gd]at h⊢
  split at h
  ·rename_i e
   rw[if_pos e]
   show p=(y:Int)
   omega
  ·simp at h
 ·rw[gd];split
  ·omega
  ·split<;>omega
 ·simp only[List.mem_cons,List.not_mem_nil,or_false]at hx
  subst hx
  exact⟨h0,h1,by rw[gd,if_pos rfl];omega⟩
 ·simp only[List.cons.injEq]at hx
  rw[<-hx.1,gd,gd,if_pos rfl]
  split
  ·omega
  ·(try split)<;>omega
 ·rw[gd]at h
  split at h
  ·exact .inl (by simp;omega)
  ·simp at h
 ·rw[gd,if_pos rfl]
 ·rw[gd]
  split
  ·omega
  ·(try split)<;>omega
theorem Ie{g:List (List Int)}(hg:aM g=true){p:Int}(h0:0<=p)(h1:p<(g.length:Int)):∀{k:Nat}{q:Int},Way g p k q->0<=(gj g p).getD q.toNat 0/\(gj g p).getD q.toNat 0<=k
 |0,q,h=>by rw[<-show p=q from h,(Ic hg h0 h1).home];omega
 |k+1,q,h=>by
  obtain⟨x,hx,hq⟩:=h
  obtain⟨a,b⟩:=Ie hg h0 h1 hx
  have hr:=hx.rng hg h0 h1
  rcases(Ic hg h0 h1).done x.toNat (by omega) a with c|c
  ·simp at c
  ·have:=c q hq
   omega
theorem wD{g:List (List Int)}(hg:aM g=true){p q:Int}(h0:0<=p)(h1:p<(g.length:Int))(q0:0<=q)(q1:q<(g.length:Int))(h:0<=(gj g p).getD q.toNat 0):Way g p ((gj g p).getD q.toNat 0).toNat q:=by
 have:=(Ic hg h0 h1).way q.toNat (by omega) h
 rwa [show((q.toNat:Nat):Int)=q by omega]at this
@[reducible] def R9:TypeId:=52
theorem Mz:nh Tryz.prog R9=some (9,1,16,[VS (⟨#[]⟩:ByteArray)]):=by kernel_rfl
theorem Sa(xs:List ByteArray):(xs.map VS).all fq=true:=by simp[List.all_eq_true,fq]
@[reducible] def Ak(h:Heap)(F:Nat->Prop)(s:Sl)(xs:List ByteArray):Prop:=Ow h F 9 1 s (xs.map VS)
theorem Ig(g o j:Nat):(⟨g,o,none⟩:Addr).add j=⟨g,o+j,none⟩:=by
 unfold Addr.add
 by_cases h:j=0<;>simp[h]
theorem Kj(w:World)(a:Addr):w.cell? a=aS w.heap a:=rfl
theorem eN(a b:List UInt8):((⟨a.toArray⟩:ByteArray)++(⟨b.toArray⟩:ByteArray))=⟨(a++b).toArray⟩:=by
 apply ByteArray.ext
 simp[ByteArray.data_append]
theorem bZ(a:List UInt8):(⟨a.toArray⟩:ByteArray).size=a.length:=by simp[ByteArray.size]
theorem sL{n:Nat}(h:n<100):(Lib.decDigits n).length<=2:=by
 by_cases h1:n<10
 ·rw[Lib.decDigits_one h1];simp
 ·rw[Lib.decDigits_two h1 h];simp
theorem yh:∀(xs:List (List UInt8)),(∀x,x∈xs->x.length<=2)->(Lib.join xs [44]).length<=3*xs.length
 |[],_=>by simp[Lib.join_nil]
 |x::r,h=>by
  rw[Lib.join_length]
  have:∀(l:List (List UInt8)),(∀x,x∈l->x.length<=2)->Lib.lens l<=2*l.length:=by
   intro l
   induction l with
   |nil=>intro _;simp[Lib.lens]
   |cons a l ih=>
    intro hl
    have h1:=ih fun y hy=>hl y (List.mem_cons_of_mem _ hy)
    have h2:=hl a (List.mem_cons_self ..)
    simp only[Lib.lens,List.map_cons,List.sum_cons,List.length_cons]at h1⊢
    omega
  have:=this _ h
  simp only[List.length_cons,List.length_nil]at this⊢
  omega
def dP(rs:List Int):List UInt8:=if rs.length=0 then[45]else Lib.join (rs.map fun x=>Lib.decDigits x.toNat) [44]
theorem uc{rs:List Int}(h:∀x,x∈rs->0<=x/\x<100):(dP rs).length<=3*rs.length+1:=by
 unfold dP
 split
 ·simp
 ·have:=yh (rs.map fun x=>Lib.decDigits x.toNat) fun y hy=>by
   obtain⟨x,hx,rfl⟩:=List.mem_map.1 hy
   exact sL (by have:=h x hx;omega)
  rw[List.length_map]at this
  omega
theorem Ok{h:Heap}{n:Int}(h0:0<=n)(h1:n<100)(K:Value->Heap->Prop)(HK:K (VS ⟨(Lib.decDigits n.toNat).toArray⟩) h):aE Tryz.prog 92 #[VI n] h K:=by
 obtain⟨i,rfl⟩:∃i:Nat,n=(i:Int):=⟨n.toNat,by omega⟩
 refine⟨fun w hw=> .inr ⟨92,_,w,Go.Proofs.enters_of Tryz.func92 (by kernel_rfl) rfl _ _,rfl,?_⟩⟩
 subst hw
 refine(Tryz.strconv_Itoa_small i (by omega) w).mono ?_
 rintro e w' ⟨rfl,rfl⟩
 rw[Int.toNat_natCast]at HK
 exact⟨_,rfl,cN.refl _,HK⟩
theorem Ih{S:Nat->Prop}{h:Heap}{s:Sl}{ts:List ByteArray}{sep:ByteArray}(H:cW S h 1 s (ts.map VS))(eA:ts≠[])(hN:ts.length<=1000000)(hl:(Lib.join (ts.map (·.data.toList)) sep.data.toList).length<=1000000)(K:Value->Heap->Prop)(HK:∀h',Fr No h h'->K (VS ⟨(Lib.join (ts.map (·.data.toList)) sep.data.toList).toArray⟩) h'):aE Tryz.prog 90 #[s.v,VS sep] h K:=by
 refine⟨fun w hw=> .inr ⟨90,_,w,Go.Proofs.enters_of Tryz.func90 (by kernel_rfl) rfl _ _,rfl,?_⟩⟩
 subst hw
 have hlen:=H.len
 simp only[List.length_map,Nat.mul_one]at hlen
 have RA:=H.cap
 have ajl:0<ts.length:=List.length_pos_iff.2 eA
 obtain⟨a,ha,_,hc⟩:=cW.cell H 0 (by simpa using ajl)
 have MW:a.spot=none:=by
  cases hs:a.spot with
  |none=>rfl
  |some sp=>exfalso;unfold aS at hc;simp[Addr.add,hs]at hc;split at hc<;>simp at hc
 obtain⟨g,o,q⟩:=a
 simp only at MW
 subst MW
 have hv:s.v= .slice (some ⟨g,o,none⟩) ts.length s.c:=by unfold Sl.v;rw[ha,hlen]
 rw[hv]
 refine(Tryz.strings_Join g o s.c ts sep w (fun j x hj=> ?_) ?_ (by omega) (by omega) (by omega)).mono ?_
 ·have H8:j<ts.length:=(List.getElem?_eq_some_iff.1 hj).1
  obtain⟨a',GW,_,Qs⟩:=cW.cell H j (by simp;omega)
  rw[ha]at GW
  cases GW
  rw[Ig]at Qs
  rw[Kj,Qs]
  rw[List.getElem?_eq_getElem H8]at hj
  simp only[Option.some.injEq]at hj
  simp[hj]
 ·have:=oK hc;rw[pQ]at this;exact this
 ·rintro e w' ⟨rfl,hb⟩
  exact⟨_,rfl,⟨hb.os,hb.tape,hb.output⟩,HK _ ⟨hb.size,fun k hk _=>hb.block k hk⟩⟩
theorem mF{L:List (Nat×List Value)}{F:Nat->Prop}{h:Heap}{o:Sl}{xs:List ByteArray}{x:ByteArray}(O:Ak h F o xs)(hF:∀k,h.size<=k->F k)(hL:Vars h L)(tW:∀p,p∈L->¬F p.1)(hb:xs.length<=1000000)(R:Sl->Heap->Prop)(HR:∀t h',Ak h' F t (xs++[x])->Fr F h h'->Vars h' L->R t h'):jU Tryz.prog (Instr.buildSlice R9 1 #[(0,VS x)]) h fun rv h1=>∃t:Sl,rv=t.v/\Vars h1 L/\jU Tryz.prog (bP R9 R9 R9 o.v t.v) h1 fun H6 h2=>∃t2:Sl,H6=t2.v/\Vars h2 L/\R t2 h2:=by
 refine aQ Mz (fun k=>h.size<=k) (fun _ h=>h) 1 (by omega) [VS x] rfl rfl fun t h1 n1 c1 o1 f1 m1 _=>⟨t,rfl,hL.aB f1,?_⟩
 have z1:=f1.size
 have O1:Ak h1 F o xs:=Ow.no O f1
 have on:=O1.rd.len
 have tn:=o1.rd.len
 simp only[List.length_map,Nat.mul_one,List.length_cons,List.length_nil]at on tn
 refine bQ Mz O1 (fun k hk=>hF k (by omega)) o1.rd (Sa [x]) (by omega) fun s' h2 n2 o2 f2 d2=> ?_
 have g2:Fr F h1 h2:=f2.mono fun k _ hk=>(O1.aG hk).1
 have V2:Vars h2 L:=(hL.aB f1).fr g2 tW
 exact⟨s',rfl,V2,HR s' h2 (by rw[Ak,List.map_append];exact o2) (f1.aB.trans g2) V2⟩
theorem yi{S:Nat->Prop}{h:Heap}{s:Sl}{rs:List Int}(H:aP S h s rs)(B:∀x,x∈rs->0<=x/\x<100)(hn:rs.length<=1000)(K:Value->Heap->Prop)(HK:∀h',Fr No h h'->K (VS ⟨(dP rs).toArray⟩) h'):aE Tryz.prog 89 #[s.v] h K:=by
 have sn:=aP.len H
 refine v89 s h K ⟨fun e=> ?_,fun e=> ?_⟩
 ·simp only[decide_eq_true_eq]at e
  have:=HK h (Fr.refl _ _)
  unfold dP at this
  rw[if_pos (by omega)]at this
  exact this
 simp only[decide_eq_false_iff_not]at e
 refine aQ Mz (fun k=>h.size<=k) (fun _ h=>h) 0 (by omega) [] rfl rfl fun o h1 n1 c1 o1 f1 m1 _=>⟨o,rfl,.nil,?_⟩
 have z1:=f1.size
 have RF:Ak h1 (fun k=>h.size<=k) o []:=o1
 have vy:∀{x:Heap},Fr (fun k=>h.size<=k) h x->Fr No h x:=fun f=>f.mono fun k hk aI=>absurd aI (by omega)
 refine⟨fun m x p h'=>0<=p/\p+m=(rs.length:Int)/\Ak h' (fun k=>h.size<=k) x ((rs.take p.toNat).map fun y=>(⟨(Lib.decDigits y.toNat).toArray⟩:ByteArray))/\Fr (fun k=>h.size<=k) h h',⟨rs.length,by omega,by omega,by simpa using RF,f1.aB⟩,?_⟩
 rintro m x p h2 ⟨p0,p1,o2,f2⟩ bW
 have z2:=f2.size
 have H2:=H.no (vy f2)
 refine⟨fun e2=> ?_,fun e2=> ?_⟩
 ·have hp:=H2.lt e2
  have bx:=B _ (List.getElem_mem (show p.toNat<rs.length by omega))
  refine⟨H2.bB p0 hp,_,H2.get p0 hp,Ok bx.1 bx.2 _ ⟨_,rfl,.nil,?_⟩⟩
  refine mF o2 (fun k hk=>by omega) .nil (fun q hq=>by cases hq) (by simp;omega) _ fun t h5 o5 f5 _=> ?_
  rw[H2.succ p0 hp]
  refine⟨m-1,by omega,by omega,by omega,?_,f2.trans f5⟩
  rw[show(p+1).toNat=p.toNat+1 by omega,List.take_add_one,List.getElem?_eq_getElem (show p.toNat<rs.length by omega)]
  rw[List.map_append]
  exact o5
 ·have hp:=H2.ge e2
  rw[List.take_of_length_le (by omega)]at o2
  have hm:((rs.map fun y=>(⟨(Lib.decDigits y.toNat).toArray⟩:ByteArray)).map (·.data.toList))=rs.map fun y=>Lib.decDigits y.toNat:=by simp
  have Wi:=yh (rs.map fun x=>Lib.decDigits x.toNat) fun y hy=>by
   obtain⟨x,hx,rfl⟩:=List.mem_map.1 hy
   exact sL (by have:=B x hx;omega)
  rw[List.length_map]at Wi
  refine Ih o2.eQ (fun hh=>by have:=congrArg List.length hh;simp at this;simp[this]at sn;omega) (by simp;omega) (by rw[hm];show(Lib.join _ [44]).length<=_;omega) _ fun h3 f3=>⟨_,rfl,.nil,?_⟩
  have:=HK h3 ((vy f2).trans f3)
  unfold dP at this
  rw[if_neg (by omega)]at this
  rw[hm]
  exact this
theorem Wp:nh Tryz.prog 22=some (5,1,1,[.int .u8 0]):=by kernel_rfl
theorem sM{F:Nat->Prop}{h:Heap}{s:Sl}{x:Int}{bs:List UInt8}(H:cW F h 1 s [Value.int .u8 x])(hb:(strOfNums [x])=⟨bs.toArray⟩){K:Value->Prop}(HK:K (VS ⟨bs.toArray⟩)):zZ Tryz.prog (convert 22 9 s.v) h K:=by
 have hlen:=H.len
 simp only[List.length_cons,List.length_nil,Nat.mul_one]at hlen
 obtain⟨a,ha,_,hc⟩:=cW.cell H 0 (by simp)
 have MW:a.spot=none:=by
  cases hs:a.spot with
  |none=>rfl
  |some sp=>exfalso;unfold aS at hc;simp[Addr.add,hs]at hc;split at hc<;>simp at hc
 obtain⟨g,o,q⟩:=a
 simp only at MW
 subst MW
 have hv:s.v= .slice (some ⟨g,o,none⟩) 1 s.c:=by unfold Sl.v;rw[ha,<-hlen]
 refine⟨_,fun w hw=> ?_,HK⟩
 subst hw
 rw[hv,run_convert_bytes_arg w 22 5 (by kernel_rfl) (by kernel_rfl) g o 1 s.c [x] rfl (fun i hi=>by
  have:i=0:=by omega
  subst this
  rw[Ig]at hc
  rw[Kj,hc]
  rfl) 9 (by kernel_rfl),hb]
theorem Kk{h:Heap}{n:Int}(h0:0<=n)(h1:n<10)(K:Value->Heap->Prop)(HK:∀h',Fr No h h'->K (VS ⟨(Lib.decDigits n.toNat).toArray⟩) h'):aE Tryz.prog 73 #[VI n] h K:=by
 refine v73 n h K ⟨fun e=> ?_,fun e=> ?_⟩
 ·rw[aH _ (by omega) (by omega)]
  refine kN (show Tryz.prog.underlying _=some (.int .i64)from by kernel_rfl) (show Tryz.prog.underlying _=some (.int .u8)from by kernel_rfl) (48+n) ⟨48+n,?_,?_⟩
  ·show Value.int .u8 (IntKind.u8.wrap (48+n))=_
   have:IntKind.u8.wrap (48+n)=48+n:=by
    show(48+n)%256=48+n
    omega
   rw[this]
  refine aQ Wp (fun k=>h.size<=k) (fun _ h=>h) 1 (by omega) [.int .u8 (48+n)] rfl rfl fun w h6 n6 c6 o6 f6 m6 _=>⟨w,rfl,.nil,?_⟩
  refine sM (bs:=Lib.decDigits n.toNat) o6.eQ ?_ ⟨_,rfl,HK h6 f6⟩
  rw[Lib.decDigits_one (show n.toNat<10 by omega)]
  apply ByteArray.ext
  apply Array.toList_inj.1
  rw[strOfNums_data]
  simp only[List.map_cons,List.map_nil,List.cons.injEq,and_true]
  have:(48+n).toNat=48+n.toNat:=by omega
  rw[this]
 ·simp only[decide_eq_false_iff_not]at e
  omega
theorem rf(c:UInt8):∀(xs:List (List UInt8)),(∀x,x∈xs->x.length<=40)->(Lib.join xs [c]).length<=41*xs.length
 |[],_=>by simp[Lib.join_nil]
 |x::r,h=>by
  rw[Lib.join_length]
  have:∀(l:List (List UInt8)),(∀x,x∈l->x.length<=40)->Lib.lens l<=40*l.length:=by
   intro l
   induction l with
   |nil=>intro _;simp[Lib.lens]
   |cons a l ih=>
    intro hl
    have h1:=ih fun y hy=>hl y (List.mem_cons_of_mem _ hy)
    have h2:=hl a (List.mem_cons_self ..)
    simp only[Lib.lens,List.map_cons,List.sum_cons,List.length_cons]at h1⊢
    omega
  have:=this _ h
  simp only[List.length_cons,List.length_nil]at this⊢
  omega
theorem LO(xs:List (List UInt8))(y sep:List UInt8):Lib.join (xs++[y]) sep=Lib.join xs sep++(if xs.length=0 then[]else sep)++y:=by
 cases xs with
 |nil=>simp[Lib.join_nil,Lib.join_one]
 |cons x r=>
  rw[List.cons_append,Lib.join_cons,Lib.join_cons]
  simp[Lib.joinTail]
theorem ud{α:Type}(f:α->List UInt8)(sep:List UInt8){xs:List α}{i:Nat}(hi:i<xs.length):Lib.join ((xs.take (i+1)).map f) sep=Lib.join ((xs.take i).map f) sep++(if i=0 then[]else sep)++f xs[i]:=by
 rw[List.take_add_one,List.getElem?_eq_getElem hi,Option.toList_some,List.map_append,List.map_cons,List.map_nil,LO]
 congr 2
 simp only[List.length_map,List.length_take]
 by_cases h:i=0
 ·simp[h]
 ·rw[if_neg h,if_neg (by omega)]
def gv(c:UInt8):List UInt8->List (List UInt8)
 |[]=>[[]]
 |x::l=>if x=c then[]::gv c l else match gv c l with
  |[]=>[[x]]
  |w::ws=>(x::w)::ws
def ue(c:UInt8):List (List UInt8)->List UInt8
 |[]=>[]
 |[w]=>w
 |w::v::ws=>w++c::ue c (v::ws)
theorem sN(c:UInt8):∀ws,Lib.join ws [c]=ue c ws
 |[]=>rfl
 |[w]=>by simp[Lib.join,ue,List.intercalate]
 |w::v::ws=>by
  rw[ue,<-sN c (v::ws)]
  simp[Lib.join,List.intercalate]
theorem yj(c:UInt8):∀l,gv c l≠[]
 |[]=>by simp[gv]
 |x::l=>by
  rw[gv]
  split
  ·simp
  ·split<;>simp
theorem pf(c:UInt8):∀l,(gv c l).length<=l.length+1
 |[]=>Nat.le_refl _
 |x::l=>by
  have ih:=pf c l
  rw[gv,List.length_cons]
  split
  ·rw[List.length_cons];omega
  ·split
   ·simp
   ·rename_i h
    rw[h]at ih
    rw[List.length_cons]at ih⊢
    omega
theorem wF(c:UInt8)(w:List UInt8){ws:List (List UInt8)}(h:ws≠[]):ue c (w::ws)=w++c::ue c ws:=by
 cases ws with
 |nil=>exact absurd rfl h
 |cons v ws=>rfl
theorem FD(c:UInt8):∀l,ue c (gv c l)=l
 |[]=>rfl
 |x::l=>by
  have ih:=FD c l
  have hn:=yj c l
  rw[gv]
  by_cases e:x=c
  ·rw[if_pos e,wF c [] hn,ih,e];rfl
  ·rw[if_neg e]
   cases h:gv c l with
   |nil=>exact absurd h hn
   |cons w ws=>
    rw[h]at ih
    (try simp only)
    cases ws with
    |nil=>rw[ue]at ih⊢;rw[ih]
    |cons v ws=>rw[ue]at ih⊢;rw[<-ih];rfl
theorem CU{c:UInt8}:∀{w:List UInt8},c∉w->gv c w=[w]
 |[],_=>rfl
 |x::w,h=>by
  have h1:x≠c:=fun e=>h (e▸List.mem_cons_self)
  have h2:c∉w:=fun e=>h (List.mem_cons_of_mem _ e)
  rw[gv,if_neg h1,CU h2]
theorem Ii{c:UInt8}(r:List UInt8):∀{w:List UInt8},c∉w->gv c (w++c::r)=w::gv c r
 |[],_=>by rw[List.nil_append,gv,if_pos rfl]
 |x::w,h=>by
  have h1:x≠c:=fun e=>h (e▸List.mem_cons_self)
  have h2:c∉w:=fun e=>h (List.mem_cons_of_mem _ e)
  rw[List.cons_append,gv,if_neg h1,Ii r h2]
theorem Ol{c:UInt8}:∀{ws:List (List UInt8)},ws≠[]->(∀w,w∈ws->c∉w)->gv c (ue c ws)=ws
 |[],h,_=>absurd rfl h
 |[w],_,h=>by rw[ue];exact CU (h w List.mem_cons_self)
 |w::v::ws,_,h=>by
  rw[ue,Ii _ (h w List.mem_cons_self),Ol (by simp) fun u hu=>h u (List.mem_cons_of_mem _ hu)]
theorem Kl{c:UInt8}:∀{l:List UInt8},Lib.indexByte l c= -1->gv c l=[l]
 |[],_=>rfl
 |x::l,h=>by
  unfold Lib.indexByte at h
  by_cases e:x=c
  ·rw[if_pos (beq_iff_eq.2 e)]at h;cases h
  ·rw[if_neg (fun h=>e (beq_iff_eq.1 h))]at h
   have hg:=Lib.indexByte_ge l c
   split at h
   ·rename_i hm
    rw[gv,if_neg e,Kl (beq_iff_eq.1 hm)]
   ·omega
theorem Om{c:UInt8}:∀{l:List UInt8}{i:Nat},Lib.indexByte l c=i->gv c l=l.take i::gv c (l.drop (i+1))
 |[],i,h=>by simp[Lib.indexByte]at h
 |x::l,i,h=>by
  unfold Lib.indexByte at h
  by_cases e:x=c
  ·rw[if_pos (beq_iff_eq.2 e)]at h
   have:i=0:=by omega
   subst this
   rw[gv,if_pos e]
   rfl
  ·rw[if_neg (fun h=>e (beq_iff_eq.1 h))]at h
   have hg:=Lib.indexByte_ge l c
   split at h
   ·omega
   ·rename_i hm
    have hm:Lib.indexByte l c≠ -1:=fun h=>hm (beq_iff_eq.2 h)
    obtain⟨j,hj⟩:∃j:Nat,i=j+1:=⟨i-1,by omega⟩
    subst hj
    rw[gv,if_neg e,Om (i:=j) (by omega)]
    rfl
theorem FE(c:UInt8):∀(n:Nat)(l:List UInt8),l.length<=n->Lib.splitK [c] 0 (Lib.count l [c]) l=gv c l
 |n,l,hn=>by
  have hi:=Lib.index_one l c
  have hg:=Lib.indexByte_ge l c
  by_cases h:Lib.indexByte l c= -1
  ·rw[Lib.count_miss (by rw[hi];exact h),Lib.splitK,Kl h]
  ·obtain⟨i,wB⟩:∃i:Nat,Lib.indexByte l c=i:=⟨(Lib.indexByte l c).toNat,by omega⟩
   have hl:l≠[]:=fun e=>by rw[e]at h;exact h rfl
   rw[Lib.count_hit (by simp) (by rw[hi];exact wB),Nat.add_comm,Lib.splitK,hi,wB,if_neg (fun e=>by have:=beq_iff_eq.1 e;omega),Om wB]
   rw[Int.toNat_natCast,Nat.add_zero,List.length_singleton]
   congr 1
   cases n with
   |zero=>exact absurd (List.length_eq_zero_iff.1 (by omega)) hl
   |succ n=>exact FE c n _ (by have:=List.length_pos_iff.2 hl;rw[List.length_drop];omega)
def uf(g:List (List Int)):List UInt8:=Lib.join (g.map dP) [59]
def tJ(x:List UInt8):Option Int:=match Lib.atoiAll x with
 | .ok n=>if Lib.itoa n=x then some n else none
 |_=>none
def gK{α β:Type}(f:α->Option β):List α->Option (List β)
 |[]=>some []
 |x::l=>match f x with
  |none=>none
  |some y=>match gK f l with
   |none=>none
   |some ys=>some (y::ys)
def Ij(w:List UInt8):Option (List Int):=if w=[45]then some []else gK tJ (gv 44 w)
def pg(s:List UInt8):Option (List (List Int)):=match gK Ij (gv 59 s)with
 |some g=>if aM g=true then some g else none
 |none=>none
theorem mG{α β:Type}{f:α->Option β}:∀{l:List α}{r:List β},gK f l=some r->r.length=l.length/\∀i(h:i<l.length)(h':i<r.length),f l[i]=some r[i]
 |[],r,h=>by
  simp only[gK,Option.some.injEq]at h
  subst h
  exact⟨rfl,fun i h=>by simp at h⟩
 |x::l,r,h=>by
  rw[gK]at h
  cases hx:f x with
  |none=>rw[hx]at h;cases h
  |some y=>
   rw[hx]at h
   cases hl:gK f l with
   |none=>rw[hl]at h;cases h
   |some ys=>
    rw[hl]at h
    have h:=Option.some.inj h
    subst h
    obtain⟨h1,h2⟩:=mG hl
    refine⟨by simp[h1],fun i a b=> ?_⟩
    cases i with
    |zero=>exact hx
    |succ i=>exact h2 i _ _
theorem yk{α β:Type}{f:α->Option β}{g:β->α}:∀{l:List β},(∀x,x∈l->f (g x)=some x)->gK f (l.map g)=some l
 |[],_=>rfl
 |x::l,h=>by rw[List.map_cons,gK,h x List.mem_cons_self,yk fun y hy=>h y (List.mem_cons_of_mem _ hy)]
theorem Km{α β:Type}{f:α->Option β}{g:β->α}{l:List α}{r:List β}(h:gK f l=some r)(hg:∀x y,y∈r->f x=some y->g y=x):r.map g=l:=by
 obtain⟨h1,h2⟩:=mG h
 apply List.ext_getElem (by rw[List.length_map,h1])
 intro i a b
 rw[List.getElem_map]
 exact hg _ _ (List.getElem_mem _) (h2 i b (by rw[List.length_map]at a;exact a))
theorem CV{x:Int}(h0:0<=x)(h1:x<10):Lib.decDigits x.toNat=[UInt8.ofNat (48+x.toNat)]:=Lib.decDigits_one (by omega)
theorem On:∀n:Fin 10,Lib.atoiAll [UInt8.ofNat (48+n.val)]= .ok (n.val:Int):=by decide
theorem Sb:∀n:Fin 10,tJ [UInt8.ofNat (48+n.val)]=some (n.val:Int):=by
 intro n
 have e:Lib.itoa (n.val:Int)=[UInt8.ofNat (48+n.val)]:=by rw[Lib.itoa_nonneg,Lib.decDigits_one n.isLt]
 unfold tJ
 rw[On n]
 (try simp only)
 rw[if_pos e]
theorem Wq{x:Int}(h0:0<=x)(h1:x<10):tJ (Lib.decDigits x.toNat)=some x:=by
 rw[CV h0 h1]
 have:=Sb ⟨x.toNat,by omega⟩
 (try simp only at this)
 rw[this,Int.toNat_of_nonneg h0]
theorem Wr{x:List UInt8}{n:Int}(h:tJ x=some n)(h0:0<=n):Lib.decDigits n.toNat=x:=by
 unfold tJ at h
 split at h
 ·split at h
  ·rename_i m _ e
   have h:=Option.some.inj h
   subst h
   rw[<-e]
   obtain⟨k,rfl⟩:∃k:Nat,m=k:=⟨m.toNat,by omega⟩
   rw[Lib.itoa_nonneg,Int.toNat_natCast]
  ·cases h
 ·cases h
theorem yl{x:Int}(h0:0<=x)(h1:x<10){c:UInt8}(hc:c=44\/c=59\/c=45):c∉Lib.decDigits x.toNat:=by
 rw[CV h0 h1]
 have:∀n:Fin 10,(44:UInt8)∉[UInt8.ofNat (48+n.val)]/\(59:UInt8)∉[UInt8.ofNat (48+n.val)]/\(45:UInt8)∉[UInt8.ofNat (48+n.val)]:=by decide
 have:=this ⟨x.toNat,by omega⟩
 rcases hc with rfl|rfl|rfl
 ·exact this.1
 ·exact this.2.1
 ·exact this.2.2
theorem Ik{c d:UInt8}:∀{ws:List (List UInt8)},d∈ue c ws->d=c\/∃w,w∈ws/\d∈w
 |[],h=>by simp[ue]at h
 |[w],h=> .inr ⟨w,List.mem_cons_self,h⟩
 |w::v::ws,h=>by
  rw[ue,List.mem_append,List.mem_cons]at h
  rcases h with h|h|h
  ·exact .inr ⟨w,List.mem_cons_self,h⟩
  ·exact .inl h
  ·rcases Ik h with h|⟨u,hu,hd⟩
   ·exact .inl h
   ·exact .inr ⟨u,List.mem_cons_of_mem _ hu,hd⟩
theorem Il{l:List Int}(h:∀x,x∈l->0<=x/\x<10):(59:UInt8)∉dP l:=by
 unfold dP
 split
 ·decide
 ·rw[sN]
  intro hm
  rcases Ik hm with h1|⟨w,hw,hd⟩
  ·exact absurd h1 (by decide)
  ·obtain⟨x,hx,rfl⟩:=List.mem_map.1 hw
   exact yl (h x hx).1 (h x hx).2 (.inr (.inl rfl)) hd
theorem Ww{l:List Int}(h:∀x,x∈l->0<=x/\x<10):Ij (dP l)=some l:=by
 unfold Ij dP
 by_cases hz:l.length=0
 ·rw[if_pos hz,if_pos rfl,List.length_eq_zero_iff.1 hz]
 ·rw[if_neg hz,sN]
  have eA:l.map (fun x=>Lib.decDigits x.toNat)≠[]:=fun e=>hz (by simpa using congrArg List.length e)
  have hf:∀w,w∈l.map (fun x=>Lib.decDigits x.toNat)->(44:UInt8)∉w:=fun w hw=>by
   obtain⟨x,hx,rfl⟩:=List.mem_map.1 hw
   exact yl (h x hx).1 (h x hx).2 (.inl rfl)
  rw[Ol eA hf,if_neg]
  ·exact yk fun x hx=>Wq (h x hx).1 (h x hx).2
  ·intro e
   have hm:(45:UInt8)∈ue 44 (l.map fun x=>Lib.decDigits x.toNat):=by rw[e];decide
   rcases Ik hm with h1|⟨w,hw,hd⟩
   ·exact absurd h1 (by decide)
   ·obtain⟨x,hx,rfl⟩:=List.mem_map.1 hw
    exact yl (h x hx).1 (h x hx).2 (.inr (.inr rfl)) hd
theorem Wx{w:List UInt8}{l:List Int}(h:Ij w=some l)(h0:∀x,x∈l->0<=x):dP l=w:=by
 unfold Ij at h
 split at h
 ·rename_i e
  have h:=Option.some.inj h
  subst h
  rw[e]
  rfl
 ·have hs:=Km (g:=fun x:Int=>Lib.decDigits x.toNat) h fun x y hy hf=>Wr hf (h0 y hy)
  have hl:=(mG h).1
  have hn:=List.length_pos_iff.2 (yj 44 w)
  unfold dP
  rw[if_neg (by omega),sN,hs,FD]
theorem mH{g:List (List Int)}(hg:aM g=true){l:List Int}(hl:l∈g):∀x,x∈l->0<=x/\x<10:=fun x hx=>by
 have:=(aT hg hl).2 x hx
 have:=aO hg
 omega
theorem Sc{g:List (List Int)}(hg:aM g=true):pg (uf g)=some g:=by
 have gl:=aO hg
 unfold pg uf
 have eA:g.map dP≠[]:=fun e=>by rw[List.map_eq_nil_iff]at e;rw[e]at gl;simp at gl
 rw[sN,Ol eA fun w hw=> ?_,yk fun l hl=>Ww (mH hg hl)]
 ·(try simp only)
  rw[if_pos hg]
 ·obtain⟨l,hl,rfl⟩:=List.mem_map.1 hw
  exact Il (mH hg hl)
theorem wG{s:List UInt8}{g:List (List Int)}(h:pg s=some g):aM g=true/\uf g=s:=by
 unfold pg at h
 split at h
 ·rename_i g' ha
  split at h
  ·rename_i hg
   have h:=Option.some.inj h
   subst h
   refine⟨hg,?_⟩
   have hs:=Km (g:=dP) ha fun w l hl hf=>Wx hf fun x hx=>(mH hg hl x hx).1
   unfold uf
   rw[sN,hs,FD]
  ·cases h
 ·cases h
theorem Sd{g:List (List Int)}(hg:aM g=true):(uf g).length<=200:=by
 have gl:=aO hg
 have key:∀ls:List (List Int),(∀l,l∈ls->l.length<=5/\∀x,x∈l->0<=x/\x<100)->(Lib.join (ls.map dP) [59]).length<=17*ls.length:=by
  intro ls
  induction ls with
  |nil=>intro _;simp[Lib.join,List.intercalate]
  |cons l ls ih=>
   intro h
   have h1:=h l List.mem_cons_self
   have h2:=uc h1.2
   have ih:=ih fun y hy=>h y (List.mem_cons_of_mem _ hy)
   rw[sN]at ih⊢
   rw[List.map_cons]
   cases ls with
   |nil=>rw[List.map_nil,ue,List.length_cons];simp;omega
   |cons v ls=>
    rw[wF _ _ (by simp),List.length_append,List.length_cons,List.length_cons]
    omega
 have:=key g fun l hl=>⟨(aT hg hl).1,fun x hx=>by have:=mH hg hl x hx;omega⟩
 unfold uf
 omega
def qj(s:ByteArray):List (List Int)×Bool:=match pg s.data.toList with
 |some g=>(g,true)
 |none=>([],false)
structure gM(h:Heap):Prop where
 mx:∃m:Int,aS h ⟨0,0,none⟩=some (.int .i64 m)
 sy:∃ev,aS h ⟨2,0,none⟩=some ev/\(ev= .nilIface\/∃te pe,ev= .iface te pe)
 rg:∃ev,aS h ⟨3,0,none⟩=some ev/\(ev= .nilIface\/∃te pe,ev= .iface te pe)
 tb:∃T f,h[1]?=some (.cells (Lib.pow10Tab.map fun z=>Value.int .u64 z).toArray T f)
theorem LP{h:Heap}{k:Nat}{o:Obj}(e:h[k]?=some o):k<h.size:=by
 rcases Nat.lt_or_ge k h.size with l|l
 ·exact l
 ·rw[Array.getElem?_eq_none l]at e;cases e
theorem gM.no{h h':Heap}(G:gM h)(f:Fr No h h'):gM h':=by
 obtain⟨⟨m,a⟩,⟨e1,b,b'⟩,⟨e2,c,c'⟩,⟨T,q,d⟩⟩:=G
 exact⟨⟨m,dL a f fun h=>h⟩,⟨e1,dL b f fun h=>h,b'⟩,⟨e2,dL c f fun h=>h,c'⟩,⟨T,q,by rw[f.same _ (LP d) fun h=>h];exact d⟩⟩
theorem wH{h:Heap}(GL:gM h){s:ByteArray}{c:UInt8}(hs:s.size<=1000000000)(K:Value->Heap->Prop)(HK:∀(t:Sl)(ps:List ByteArray) h',ps.map (·.data.toList)=gv c s.data.toList->cW (fun k=>h.size<=k/\k<h'.size) h' 1 t (ps.map VS)->Fr No h h'->K t.v h'):aE Tryz.prog 81 #[VS s,VS ⟨#[c]⟩] h K:=by
 refine⟨fun w hw=> .inr ⟨81,_,w,Go.Proofs.enters_of Tryz.func81 (by kernel_rfl) rfl _ _,rfl,?_⟩⟩
 subst hw
 obtain⟨m,hm⟩:=GL.mx
 have h1:1<=(⟨#[c]⟩:ByteArray).size:=Nat.le_refl 1
 refine(Tryz.strings_Split s ⟨#[c]⟩ m w (by omega) hm h1).mono ?_
 rintro e w' ⟨rfl,rfl⟩
 have hd:=Lib.splitB_data ⟨#[c]⟩ 0 (Lib.countB s ⟨#[c]⟩) s
 have e2:Lib.splitK [c] 0 (Lib.count s.data.toList [c]) s.data.toList=gv c s.data.toList:=FE c _ _ (Nat.le_refl _)
 have e1:(⟨#[c]⟩:ByteArray).data.toList=[c]:=rfl
 rw[e1]at hd
 have e3:Lib.countB s ⟨#[c]⟩=Lib.count s.data.toList [c]:=rfl
 rw[e3,e2]at hd
 have hl:=Lib.splitB_all ⟨#[c]⟩ h1 0 _ s rfl
 have hc:=Lib.countB_le ⟨#[c]⟩ h1 _ s (Nat.le_refl _)
 generalize mE:Lib.splitB ⟨#[c]⟩ 0 (Lib.countB s ⟨#[c]⟩) s=ps at*
 rw[e3]at hl hc⊢
 refine⟨_,rfl,⟨rfl,rfl,rfl⟩,HK ⟨some ⟨w.heap.size,0,none⟩,Lib.count s.data.toList [c]+1,Lib.count s.data.toList [c]+1⟩ ps _ hd ⟨by simp[hl],by simp[maxLen];omega,Nat.le_refl _,fun j hj=> ?_⟩ (Fr.push w.heap _)⟩
 rw[List.length_map]at hj
 refine⟨⟨w.heap.size,0,none⟩,rfl,⟨Nat.le_refl _,by show w.heap.size<(w.heap.push _).size;simp⟩,?_⟩
 rw[Ig]
 show aS (w.heap.push _) _=_
 unfold aS
 simp
theorem FF{l:List UInt8}{v:Int}(h:Lib.atoiAll l= .ok v): -9223372036854775808<=v/\v<=9223372036854775807:=by
 unfold Lib.atoiAll at h
 split at h
 ·cases h
 ·(try simp only at h)
  split at h
  ·cases h
  ·cases h
  ·split at h
   ·cases h
   ·split at h
    ·cases h
    ·injection h with h
     rename_i c r u _ h1 h2
     subst h
     split<;>omega
theorem Oo{h:Heap}(GL:gM h){s:ByteArray}(hs:s.size<=1000000000)(K:Value->Heap->Prop)(HK:∀v h',Lib.atoiAll s.data.toList= .ok v->Fr No h h'->K (.tuple #[VI v,.nilIface]) h')(HE:∀v t p h',(∀u,Lib.atoiAll s.data.toList≠ .ok u)->Fr No h h'->K (.tuple #[VI v,.iface t p]) h'):aE Tryz.prog 154 #[VS s] h K:=by
 refine⟨fun w hw=> .inr ⟨154,_,w,Go.Proofs.enters_of Tryz.func154 (by kernel_rfl) rfl _ _,rfl,?_⟩⟩
 subst hw
 cases ha:Lib.atoiAll s.data.toList
 case ok v=>
  refine(Tryz.strconv_Atoi_ok s (by omega) v ha w).mono ?_
  rintro e w' ⟨rfl,hw⟩
  rcases hw with rfl|⟨t,rfl⟩
  ·exact⟨_,rfl,cN.refl _,HK v _ ha (Fr.refl _ _)⟩
  ·have hb:=Lib.bytesWorld_below w 5 t
   exact⟨_,rfl,⟨hb.os,hb.tape,hb.output⟩,HK v _ ha ⟨hb.size,fun k hk _=>hb.block k hk⟩⟩
 case range=>
  obtain⟨ev,h1,h2⟩:=GL.rg
  refine(Tryz.strconv_Atoi_range s (by omega) ha ev w h1 h2).mono ?_
  rintro e w' ⟨N,rfl,_,_,hb⟩
  exact⟨_,rfl,⟨hb.os,hb.tape,hb.output⟩,HE _ _ _ _ (fun u hu=>by rw[ha]at hu;cases hu) ⟨hb.size,fun k hk _=>hb.block k hk⟩⟩
 obtain⟨ev,h1,h2⟩:=GL.sy
 refine(Tryz.strconv_Atoi_syntax s (by omega) ha ev w h1 h2).mono ?_
 rintro e w' ⟨N,rfl,_,_,hb⟩
 exact⟨_,rfl,⟨hb.os,hb.tape,hb.output⟩,HE _ _ _ _ (fun u hu=>by rw[ha]at hu;cases hu) ⟨hb.size,fun k hk _=>hb.block k hk⟩⟩
theorem jn{h:Heap}(GL:gM h){n:Int}(h0: -9223372036854775808<=n)(h1:n<=9223372036854775807)(K:Value->Heap->Prop)(HK:∀h',Fr No h h'->K (VS ⟨(Lib.itoa n).toArray⟩) h'):aE Tryz.prog 92 #[VI n] h K:=by
 refine⟨fun w hw=> .inr ⟨92,_,w,Go.Proofs.enters_of Tryz.func92 (by kernel_rfl) rfl _ _,rfl,?_⟩⟩
 subst hw
 obtain⟨T,f,ht⟩:=GL.tb
 refine(Tryz.strconv_Itoa n h0 h1 w ?_).mono ?_
 ·unfold Lib.TabIs World.var?
  rw[show Tryz.prog.globalNamed "internal/strconv.uint64pow10" =some 1 by kernel_rfl]
  simp[ht]
 ·rintro e w' ⟨rfl,k,os,rfl⟩
  exact⟨_,rfl,⟨rfl,rfl,rfl⟩,HK _ ⟨by simp[«Sort».grow,World.drewN],fun i hi _=>by simp[«Sort».grow,World.drewN,Array.getElem?_append_left hi]⟩⟩
theorem wI:∃ms,Tryz.prog.underlying 163=some (.interface ms):=by
 have h:(match Tryz.prog.underlying 163 with|some (.interface _)=>true|_=>false)=true:=by kernel_rfl
 split at h
 ·rename_i ms hm
  exact⟨ms,hm⟩
 ·cases h
theorem LQ{P:Program}{t:TypeId}{ms}(ht:P.underlying t=some (.interface ms))(w:World):(Op.equal t .nilIface .nilIface).run P w= .ok true w:=by
 have key:∀d,(Op.equalIn (d+1) t .nilIface .nilIface).run P w= .ok true w:=fun d=>by
  unfold Op.equalIn
  rw[aK (bX ht w)]
  rfl
 exact key 9999
theorem FG{P:Program}{t:TypeId}{ms}(ht:P.underlying t=some (.interface ms))(a:TypeId)(b:Value)(w:World):(Op.equal t (.iface a b) .nilIface).run P w= .ok false w:=by
 have key:∀d,(Op.equalIn (d+1) t (.iface a b) .nilIface).run P w= .ok false w:=fun d=>by
  unfold Op.equalIn
  rw[aK (bX ht w)]
  rfl
 exact key 9999
theorem BB{P:Program}{t:TypeId}{ms}(ht:P.underlying t=some (.interface ms))(x:Operand){K:Value->Prop}(H:K (.bool false)):pop P (lM .neq t x (.const .nilIface) .nilIface .nilIface) K:=
 .mk' (fun w=>by
  unfold lM
  have hg:(eqGuard .neq t x (.const .nilIface) .nilIface .nilIface).run P w= .ok () w:=by
   unfold eqGuard
   cases x<;>rfl
  rw[aK hg]
  show Sem.run P (Sem.bind (Op.equal t .nilIface .nilIface) _) w=_
  rw[Sem.run_bind',LQ ht]
  rfl) H
theorem vz{P:Program}{t:TypeId}{ms}(ht:P.underlying t=some (.interface ms))(x y:Operand)(a:TypeId)(b:Value){K:Value->Prop}(H:K (.bool true)):pop P (lM .neq t x y (.iface a b) .nilIface) K:=
 .mk' (fun w=>by
  unfold lM
  have hg:(eqGuard .neq t x y (.iface a b) .nilIface).run P w= .ok () w:=rfl
  rw[aK hg]
  show Sem.run P (Sem.bind (Op.equal t (.iface a b) .nilIface) _) w=_
  rw[Sem.run_bind',FG ht]
  rfl) H
theorem Kn(a:ByteArray):∀(n i:Nat)(r:List UInt8),a.size-i<=n->ByteArray.toList.loop a i r=r.reverse++a.data.toList.drop i
 |0,i,r,h=>by
  rw[ByteArray.toList.loop,if_neg (by omega),List.drop_eq_nil_of_le (by simp only[Array.length_toList];exact Nat.le_of_sub_eq_zero (Nat.le_zero.1 h)),List.append_nil]
 |n+1,i,r,h=>by
  rw[ByteArray.toList.loop]
  by_cases e:i<a.size
  ·have e':i<a.data.toList.length:=by simpa using e
   rw[if_pos e,Kn a n (i+1) _ (by omega),List.reverse_cons,List.append_assoc,List.singleton_append,List.drop_eq_getElem_cons e']
   congr 2
   show a.get! i=_
   unfold ByteArray.get!
   simp[getElem!_pos,e']
   exact getElem!_pos a.data i (by simpa using e')
  ·rw[if_neg e,List.drop_eq_nil_of_le (by simp only[Array.length_toList];exact Nat.le_of_not_lt e),List.append_nil]
theorem BC(a:ByteArray):a.toList=a.data.toList:=by
 unfold ByteArray.toList
 rw[Kn a a.size 0 [] (by omega)]
 rfl
theorem jY(a:ByteArray):a.data.toList.length=a.size:=Array.length_toList
theorem rh(a b:ByteArray):(a.toList==b.toList)=decide (a.data.toList=b.data.toList):=by
 rw[BC,BC]
 by_cases h:a.data.toList=b.data.toList
 ·rw[h];simp
 ·rw[decide_eq_false h];simpa using h
theorem mJ{α β:Type}{f:α->Option β}:∀{l:List α}(i:Nat)(h:i<l.length),f l[i]=none->gK f l=none
 |x::l,0,_,hn=>by rw[gK,show f x=none from hn]
 |x::l,i+1,h,hn=>by
  rw[gK,mJ (l:=l) i (by simpa using h) hn]
  cases f x<;>rfl
theorem wJ{α β:Type}{f:α->Option β}:∀{l:List α}{r:List β},r.length=l.length->(∀i(h:i<l.length)(h':i<r.length),f l[i]=some r[i])->gK f l=some r
 |[],[],_,_=>rfl
 |x::l,y::r,hl,h=>by
  rw[gK,show f x=some y from h 0 (by simp) (by simp),wJ (l:=l) (r:=r) (by simpa using hl) fun i a b=>h (i+1) (by simpa using a) (by simpa using b)]
def BD{α β:Type}(f:α->Option β)(l:List α)(r:List β)(i:Nat):Prop:=r.length=i/\∀j(h:j<l.length)(h':j<r.length),f l[j]=some r[j]
theorem BD.next{α β:Type}{f:α->Option β}{l:List α}{r:List β}{i:Nat}(H:BD f l r i){y:β}(hi:i<l.length)(hy:f l[i]=some y):BD f l (r++[y]) (i+1):=⟨by rw[List.length_append,H.1];rfl,fun j a b=>by
 have hl:=H.1
 by_cases e:j<r.length
 ·rw[List.getElem_append_left e]
  exact H.2 j a e
 ·have:j=i:=by rw[List.length_append,List.length_singleton]at b;omega
  subst this
  rw[List.getElem_append_right (by omega)]
  simp[hl,hy]⟩
theorem Im{h:Heap}(GL:gM h){s:ByteArray}(hs:s.size<=1000000)(K:Value->Heap->Prop)(HK:∀t h',bM h' (fun k=>h.size<=k) t ((Ij s.data.toList).getD [])->Fr No h h'->K (.tuple #[t.v,VB (Ij s.data.toList).isSome]) h'):aE Tryz.prog 199 #[VS s] h K:=by
 refine ag8 s h K ?_
 refine aQ fy (fun k=>h.size<=k) (fun _ h=>h) 0 (by omega) [] rfl rfl fun o h1 n1 c1 o1 f1 m1 _=>⟨o,rfl,.nil,?_⟩
 rw[rh]
 have e45:(⟨#[45]⟩:ByteArray).data.toList=[45]:=rfl
 rw[e45]
 unfold Ij at HK
 refine⟨fun e=> ?_,fun e=> ?_⟩
 ·rw[if_pos (of_decide_eq_true e)]at HK
  exact HK o h1 o1 f1
 rw[if_neg (of_decide_eq_false e)]at HK
 have z1:=f1.size
 refine wH (GL.no f1) (by omega) _ fun t ps h2 mE T2 f2=>⟨t,rfl,.nil,?_⟩
 have z2:=f2.size
 have tn:=T2.len
 simp only[List.length_map,Nat.mul_one]at tn
 have hpl:ps.length=(gv 44 s.data.toList).length:=by rw[<-mE,List.length_map]
 have hpb:ps.length<=1000001:=by
  have h1:=pf 44 s.data.toList
  have h2:=jY s
  omega
 have Oq:∀i(hi:i<ps.length),(gv 44 s.data.toList)[i]'(by omega)=(ps[i]).data.toList:=fun i hi=>by simp only[<-mE,List.getElem_map]
 have qA:∀i(hi:i<ps.length),(ps[i]).size<=1000000:=fun i hi=>by
  have h1:=FD 44 s.data.toList
  have:∀(ws:List (List UInt8))(w:List UInt8),w∈ws->w.length<=(ue 44 ws).length:=by
   intro ws
   induction ws with
   |nil=>intro w hw;simp at hw
   |cons v ws ih=>
    intro w hw
    cases ws with
    |nil=>
     rcases List.mem_cons.1 hw with rfl|hw
     ·exact Nat.le_refl _
     ·simp at hw
    |cons u ws=>
     rw[ue,List.length_append,List.length_cons]
     rcases List.mem_cons.1 hw with rfl|hw
     ·omega
     ·have:=ih w hw;omega
  have h2:=this _ _ (List.getElem_mem (show i<(gv 44 s.data.toList).length by omega))
  rw[h1,Oq i hi]at h2
  have e1:=jY (ps[i])
  have e2:=jY s
  omega
 have o2:bM h2 (Iv h.size h1.size) o []:=(Ow.ga o1).no f2
 refine⟨fun n x i h'=>0<=i/\i+n=(ps.length:Int)/\∃r:List Int,BD tJ (gv 44 s.data.toList) r i.toNat/\bM h' (fun k=>h.size<=k/\¬(h1.size<=k/\k<h2.size)) x r/\Fr (fun k=>h.size<=k/\¬(h1.size<=k/\k<h2.size)) h2 h',⟨ps.length,by omega,by omega,[],⟨rfl,fun j _ h'=>by simp at h'⟩,o2.mono fun k _ hk=>⟨hk.1,fun h=>by have:=hk.2;omega⟩,Fr.refl _ _⟩,?_⟩
 rintro n x i h3 ⟨i0,i1,r,SF,o3,f3⟩ cF
 have z3:=f3.size
 have T3:=cW.fr T2 f3 fun k hk aI=>aI.2 hk
 have F3:Fr No h h3:=(f1.aA f2).fresh f3 fun k hk=>hk.1
 have ln:=cW.len T3
 have fail:∀h',Fr No h h'->gK tJ (gv 44 s.data.toList)=none->K (.tuple #[aC.v,VB false]) h':=fun h' f hn=>by
  rw[hn]at HK
  exact HK aC h' (Ow.nil _ _ _ _) f
 refine⟨fun e2=> ?_,fun e2=> ?_⟩
 ·simp only[decide_eq_true_eq]at e2
  have hi:i.toNat<ps.length:=by omega
  have cc:=T3.get (i:=i) i0 (by rw[List.length_map];omega)
  rw[show(ps.map VS)[i.toNat]'(by rw[List.length_map];exact hi)=VS ps[i.toNat]from List.getElem_map _]at cc
  have gi:=Oq i.toNat hi
  refine⟨cW.bB T3 i0 (by rw[List.length_map];omega),_,cc,Oo ((GL.no F3)) (by have:=qA i.toNat hi;omega) _ (fun v h4 ha f4=>⟨v,_,rfl,.nil,?_⟩) fun v ty p h4 hn f4=>⟨v,_,rfl,.nil,?_⟩⟩
  ·obtain⟨ms,hm⟩:=wI
   refine BB hm _ ⟨_,rfl,fun e=>by simp at e,fun _=> ?_⟩
   have vr:=FF ha
   refine jn ((GL.no F3).no f4) vr.1 vr.2 _ fun h5 f5=>⟨_,rfl,.nil,?_⟩
   rw[rh]
   have e5:(⟨(Lib.itoa v).toArray⟩:ByteArray).data.toList=Lib.itoa v:=rfl
   rw[e5]
   have F5:=F3.aA (f4.aA f5)
   refine⟨fun e3=> ?_,fun e3=> ?_⟩
   ·have e3:=of_decide_eq_false (aX e3)
    refine fail h5 F5 (mJ i.toNat (by omega) ?_)
    rw[gi]
    unfold tJ
    rw[ha]
    (try simp only)
    rw[if_neg e3]
   ·have e3:=of_decide_eq_true (aW e3)
    have hr:tJ ((gv 44 s.data.toList)[i.toNat]'(by omega))=some v:=by
     rw[gi]
     unfold tJ
     rw[ha]
     (try simp only)
     rw[if_pos e3]
    have z5:=(f4.aA f5).size
    refine mq (L:=[]) (F:=fun k=>h.size<=k/\¬(h1.size<=k/\k<h2.size)) (Ow.no o3 (f4.aA f5)) (fun k hk=>⟨by omega,fun h=>by omega⟩) .nil (fun p hp=>by simp at hp) (by rw[SF.1];have:=qA i.toNat hi;have:(gv 44 s.data.toList).length<=s.data.toList.length+1:=pf 44 _;have e2:=jY s;omega) _ fun t6 h7 o7 f7 _=> ?_
    rw[aH (i+1) (by omega) (by omega)]
    refine⟨n-1,by omega,by omega,by omega,r++[v],?_,o7,f3.trans ((f4.aA f5).aB.trans f7)⟩
    rw[show(i+1).toNat=i.toNat+1 by omega]
    exact SF.next (by omega) hr
  ·obtain⟨ms,hm⟩:=wI
   refine vz hm _ _ _ _ ⟨_,rfl,fun _=> ?_,fun e=>by simp at e⟩
   refine fail h4 (F3.aA f4) (mJ i.toNat (by omega) ?_)
   rw[gi]
   unfold tJ
   split
   ·rename_i m JW
    exact absurd JW (hn m)
   ·rfl
 ·simp only[decide_eq_false_iff_not]at e2
  have hr:=wJ (f:=tJ) (l:=gv 44 s.data.toList) (r:=r) (by rw[SF.1];omega) SF.2
  rw[hr]at HK
  exact HK x h3 (o3.mono fun k _ hk=>hk.1) F3
theorem LR{s:ByteArray}{g:List (List Int)}(h:gK Ij (gv 59 s.data.toList)=some g):qj s=(j9 g,aM g):=by
 unfold qj pg j9
 rw[h]
 (try simp only)
 by_cases e:aM g=true
 ·rw[if_pos e,if_pos e,e]
 ·rw[if_neg e,if_neg e]
  simp only[Bool.not_eq_true]at e
  rw[e]
theorem LS{s:ByteArray}(h:gK Ij (gv 59 s.data.toList)=none):qj s=([],false):=by
 unfold qj pg
 rw[h]
theorem Ko{c:UInt8}:∀(ws:List (List UInt8))(w:List UInt8),w∈ws->w.length<=(ue c ws).length
 |[],w,hw=>by simp at hw
 |[v],w,hw=>by
  rcases List.mem_cons.1 hw with rfl|hw
  ·exact Nat.le_refl _
  ·simp at hw
 |v::u::ws,w,hw=>by
  rw[ue,List.length_append,List.length_cons]
  rcases List.mem_cons.1 hw with rfl|hw
  ·omega
  ·have:=Ko (c:=c) (u::ws) w hw;omega
theorem wK{c:UInt8}{l w:List UInt8}(h:w∈gv c l):w.length<=l.length:=by
 have:=Ko (c:=c) _ _ h
 rwa [FD]at this
theorem CW{h:Heap}(GL:gM h){s:ByteArray}(hs:s.size<=100000)(K:Value->Heap->Prop)(HK:∀t h',fQ h' (Iv h.size h'.size) t (qj s).1->Fr No h h'->K (.tuple #[.agg #[t.v],VB (qj s).2]) h'):aE Tryz.prog 153 #[VS s] h K:=by
 refine af5 s h K fun b1 b2 h1 dT dC f1 bF=> ?_
 have f1:=f1.aF
 have z1:=f1.size
 have l2:b2<h1.size:=bF.head.lt
 have l1:b1<h1.size:=bF.tail.head.lt
 refine wH (GL.no f1) (by omega) _ fun t ps h2 mE T2 f2=>⟨t,rfl,bF.aB f2,?_⟩
 have z2:=f2.size
 have tn:=T2.len
 simp only[List.length_map,Nat.mul_one]at tn
 have hpl:ps.length=(gv 59 s.data.toList).length:=by rw[<-mE,List.length_map]
 have hpb:ps.length<=100001:=by
  have h1:=pf 59 s.data.toList
  have h2:=jY s
  omega
 have Oq:∀i(hi:i<ps.length),(gv 59 s.data.toList)[i]'(by omega)=(ps[i]).data.toList:=fun i hi=>by simp only[<-mE,List.getElem_map]
 have qA:∀i(hi:i<ps.length),(ps[i]).size<=100000:=fun i hi=>by
  have h2:=wK (List.getElem_mem (show i<(gv 59 s.data.toList).length by omega))
  rw[Oq i hi]at h2
  have e1:=jY (ps[i])
  have e2:=jY s
  omega
 refine⟨fun n i x h'=>0<=i/\i+n=(ps.length:Int)/\∃r:List (List Int),BD Ij (gv 59 s.data.toList) r i.toNat/\fQ h' (fun k=>h2.size<=k) x r/\Fr (fun k=>k=b2\/h2.size<=k) h2 h'/\h2.size<=h'.size,⟨ps.length,by omega,by omega,[],⟨rfl,fun j _ h'=>by simp at h'⟩,dI.nil _ _ _ _,Fr.refl _ _,Nat.le_refl _⟩,?_⟩
 rintro n i x h3 ⟨i0,i1,r,SF,o3,f3,z3⟩ cF
 have T3:=cW.fr T2 f3 fun k hk aI=>by have:=hk.1;have:=hk.2;omega
 have F3:Fr No h h3:=(f1.aA f2).fresh f3 fun k hk=>by rcases hk with rfl|hk<;>omega
 have ln:=cW.len T3
 have fail:∀h' lc,Fr No h h'->Fr (In [b1]) h' lc->h2.size<=h'.size->gK Ij (gv 59 s.data.toList)=none->K (.tuple #[.agg #[aC.v],VB false]) lc:=fun h' lc f f' z hn=>by
  rw[LS hn]at HK
  exact HK aC lc (dI.nil _ _ _ _) (f.fresh f' fun k hk=>by simp[In]at hk;omega)
 refine⟨fun e2=> ?_,fun e2=> ?_⟩
 ·simp only[decide_eq_true_eq]at e2
  have hi:i.toNat<ps.length:=by omega
  have cc:=T3.get (i:=i) i0 (by rw[List.length_map];omega)
  rw[show(ps.map VS)[i.toNat]'(by rw[List.length_map];exact hi)=VS ps[i.toNat]from List.getElem_map _]at cc
  have gi:=Oq i.toNat hi
  refine⟨cW.bB T3 i0 (by rw[List.length_map];omega),_,cc,Im (GL.no F3) (by have:=qA i.toNat hi;omega) _ fun u h4 o4 f4=>⟨u,_,rfl,cF.aB f4,fun e3=> ?_,fun e3=> ?_⟩⟩
  ·have e3:=aX e3
   intro h5 f5 gr
   refine fail h4 h5 (F3.aA f4) f5 (by have:=f4.size;omega) (mJ i.toNat (by omega) ?_)
   rw[gi]
   cases hr:Ij (ps[i.toNat]).data.toList with
   |none=>rfl
   |some y=>rw[hr]at e3;cases e3
  ·have e3:=aW e3
   cases hr:Ij (ps[i.toNat]).data.toList with
   |none=>rw[hr]at e3;cases e3
   |some y=>
    rw[hr]at o4
    have z4:=f4.size
    refine sI (F:=fun k=>h2.size<=k) (m:=h3.size) ((o3.ga.no f4).mono fun k _ hk=>hk) o4 (fun k hk=>by omega) z4 (cF.aB f4) (fun p hp=>by
     simp only[List.mem_cons,List.not_mem_nil,or_false]at hp
     rcases hp with rfl|rfl<;>simp only<;>omega) (by rw[SF.1];omega) _ fun t6 h7 o7 f7 V7 h8 f8 fA=> ?_
    have z7:=f7.size
    have z8:=f8.size
    rw[aH (i+1) (by omega) (by omega)]
    refine⟨n-1,by omega,by omega,by omega,r++[y],?_,dI.fr o7 f8 fun k hk aI HV=>by simp[In]at HV;omega,((f3.trans f4.aB).trans (f7.mono fun k _ hk=> .inr hk)).trans (f8.mono fun k _ hk=> .inl (by simpa[In]using hk)),by omega⟩
    rw[show(i+1).toNat=i.toNat+1 by omega]
    exact SF.next (by omega) (by rw[gi];exact hr)
 ·simp only[decide_eq_false_iff_not]at e2
  have hr:=wJ (f:=Ij) (l:=gv 59 s.data.toList) (r:=r) (by rw[SF.1];omega) SF.2
  rw[LR hr]at HK
  refine NM o3.ga (Nat.le_refl _) _ fun v h4 o4 f4=>⟨v,_,rfl,cF.aB f4,fun h5 f5 gr=> ?_⟩
  have z4:=f4.size
  have z5:=f5.size
  refine HK v h5 ?_ ((F3.aA f4).fresh f5 fun k hk=>by simp[In]at hk;omega)
  exact(dI.fr o4 f5 fun k hk aI HV=>by simp[In]at HV;have:=aI.1;omega).mono fun k hk aI=>⟨by have:=aI.1;omega,hk⟩
def Se(g:List (List Int)):Prop:=g.length<=8/\∀l,l∈g->l.length<=12/\∀x,x∈l->0<=x/\x<10
theorem jo{g:List (List Int)}(hg:aM g=true):Se g:=⟨(aO hg).2,fun l hl=>⟨by have:=(aT hg hl).1;omega,mH hg hl⟩⟩
theorem BE{l:List Int}(h:l.length<=12/\∀x,x∈l->0<=x/\x<10):(dP l).length<=40:=by
 have:=uc (rs:=l) fun x hx=>by have:=h.2 x hx;omega
 omega
theorem Sf{g:List (List Int)}(h:Se g):(uf g).length<=328:=by
 have:=rf 59 (g.map dP) fun y hy=>by
  obtain⟨l,hl,rfl⟩:=List.mem_map.1 hy
  exact BE (h.2 l hl)
 rw[List.length_map]at this
 have:=h.1
 unfold uf
 omega
theorem sO{S:Nat->Prop}{h:Heap}{s:Sl}{aD:List (List Int)}(H:bL S h s aD)(B:Se aD)(K:Value->Heap->Prop)(HK:∀h',Fr No h h'->K (VS ⟨(uf aD).toArray⟩) h'):aE Tryz.prog 74 #[.agg #[s.v]] h K:=by
 have sn:=H.len
 have Bn:=B.1
 refine v74 s h K fun b1 h1 dT f1 bF=> ?_
 have f1:=f1.aF
 refine⟨fun m out i h'=>0<=i/\i+m=(aD.length:Int)/\out=(⟨(Lib.join ((aD.take i.toNat).map dP) [59]).toArray⟩:ByteArray)/\Fr No h h',⟨aD.length,by omega,by omega,rfl,f1⟩,?_⟩
 rintro m out i h3 ⟨i0,i1,rfl,f3⟩ cF
 have H3:=H.no f3
 refine⟨fun e2=> ?_,fun e2=> ?_⟩
 ·have hi:=H3.lt e2
  have wB:i.toNat<aD.length:=by omega
  obtain⟨si,c1,r1⟩:=H3.get i0 hi
  have rn:=r1.len
  have hk:=B.2 _ (List.getElem_mem wB)
  have hl1:=rf 59 ((aD.take i.toNat).map dP) fun y hy=>by
   obtain⟨l,hl,rfl⟩:=List.mem_map.1 hy
   exact BE (B.2 l (List.mem_of_mem_take hl))
  have hl2:((aD.take i.toNat).map dP).length<=8:=by simp;omega
  generalize hB:Lib.join ((aD.take i.toNat).map dP) [59]++(if i.toNat=0 then[]else[59])=B'
  have Bl:B'.length<=400:=by rw[<-hB,List.length_append];split<;>simp only[List.length_nil,List.length_cons]<;>omega
  have next:Lib.join ((aD.take (i.toNat+1)).map dP) [59]=B'++dP aD[i.toNat]:=by rw[ud dP [59] wB,hB]
  refine⟨H3.bB i0 hi,si,c1,fun x h'=>x=(⟨B'.toArray⟩:ByteArray)/\h'=h3,⟨fun e5=>⟨?_,?_,rfl⟩,fun e5=>⟨?_,rfl⟩⟩,?_⟩
  ·rw[bZ];show _+1<=_;omega
  ·simp only[decide_eq_true_eq]at e5
   rw[show(⟨#[59]⟩:ByteArray)=⟨[59].toArray⟩from rfl,eN,<-hB,if_neg (by omega)]
  ·simp only[decide_eq_false_iff_not]at e5
   rw[<-hB,if_pos (by omega),List.append_nil]
  rintro x h5 ⟨rfl,rfl⟩ gr
  refine⟨fun x h'=>x=(⟨(B'++if aD[i.toNat].length=0 then[45]else[]).toArray⟩:ByteArray)/\h'=h5,⟨fun e5=>⟨?_,?_,rfl⟩,fun e5=>⟨?_,rfl⟩⟩,?_⟩
  ·rw[bZ];show _+1<=_;omega
  ·simp only[decide_eq_true_eq]at e5
   rw[show(⟨#[45]⟩:ByteArray)=⟨[45].toArray⟩from rfl,eN,if_pos (by omega)]
  ·simp only[decide_eq_false_iff_not]at e5
   rw[if_neg (by omega),List.append_nil]
  rintro x2 h6 ⟨rfl,rfl⟩ iY
  generalize hC:(B'++if aD[i.toNat].length=0 then[45]else[])=C
  have Cl:C.length<=401:=by rw[<-hC,List.length_append];split<;>simp only[List.length_nil,List.length_cons]<;>omega
  refine⟨fun m2 o j h'=>0<=j/\j+m2=(aD[i.toNat].length:Int)/\o=(⟨(C++Lib.join ((aD[i.toNat].take j.toNat).map fun y=>Lib.decDigits y.toNat) [44]).toArray⟩:ByteArray)/\Fr No h6 h',⟨aD[i.toNat].length,by omega,by omega,by simp[Lib.join_nil],Fr.refl _ _⟩,?_⟩
  rintro m2 o j h7 ⟨j0,j1,rfl,f7⟩ jC
  have R7:=r1.no f7
  refine⟨fun e5=> ?_,fun e5=> ?_⟩
  ·have hj:=R7.lt e5
   have H8:j.toNat<aD[i.toNat].length:=by omega
   have dj:=hk.2 _ (List.getElem_mem H8)
   have hl3:=yh ((aD[i.toNat].take j.toNat).map fun y=>Lib.decDigits y.toNat) fun y hy=>by
    obtain⟨x,hx,rfl⟩:=List.mem_map.1 hy
    have:=hk.2 x (List.mem_of_mem_take hx)
    exact sL (by omega)
   have hl4:((aD[i.toNat].take j.toNat).map fun y=>Lib.decDigits y.toNat).length<=12:=by simp;omega
   generalize hD:C++Lib.join ((aD[i.toNat].take j.toNat).map fun y=>Lib.decDigits y.toNat) [44]++(if j.toNat=0 then[]else[44])=D
   have Dl:D.length<=500:=by rw[<-hD,List.length_append,List.length_append];split<;>simp only[List.length_nil,List.length_cons]<;>omega
   refine⟨R7.bB j0 hj,_,R7.get j0 hj,fun x h'=>x=(⟨D.toArray⟩:ByteArray)/\h'=h7,⟨fun e6=>⟨?_,?_,rfl⟩,fun e6=>⟨?_,rfl⟩⟩,?_⟩
   ·rw[bZ,List.length_append];show _+1<=_;omega
   ·simp only[decide_eq_true_eq]at e6
    rw[show(⟨#[44]⟩:ByteArray)=⟨[44].toArray⟩from rfl,eN,<-hD,if_neg (by omega)]
   ·simp only[decide_eq_false_iff_not]at e6
    rw[<-hD,if_pos (by omega),List.append_nil]
   rintro x h8 ⟨rfl,rfl⟩ fA
   refine Kk dj.1 dj.2 _ fun h9 f9=>⟨_,rfl,fA.aB f9,?_,?_⟩
   ·have:=sL (show(aD[i.toNat][j.toNat]).toNat<100 by omega)
    rw[bZ,bZ];omega
   ·rw[R7.succ j0 hj]
    refine⟨m2-1,by omega,by omega,by omega,?_,f7.trans f9⟩
    rw[eN,show(j+1).toNat=j.toNat+1 by omega,ud _ _ H8,<-hD]
    simp only[List.append_assoc]
  ·have hj:=R7.ge e5
   rw[List.take_of_length_le (by omega),H3.succ i0 hi]
   refine⟨m-1,by omega,by omega,by omega,?_,f3.trans f7⟩
   rw[show(i+1).toNat=i.toNat+1 by omega,next,<-hC]
   unfold dP
   by_cases hz:aD[i.toNat].length=0
   ·rw[if_pos hz,if_pos hz,List.length_eq_zero_iff.1 hz,List.map_nil,Lib.join_nil,List.append_nil]
   ·rw[if_neg hz,if_neg hz,List.append_nil]
 ·have hi:=H3.ge e2
  rw[List.take_of_length_le (by omega)]
  exact HK h3 f3
theorem pi{S:Nat->Prop}{h:Heap}{s:Sl}{aD:List (List Int)}(H:bL S h s aD)(B:Se aD)(hp:1<=aD.length)(K:Value->Heap->Prop)(HK:∀h',Fr No h h'->K (VS ⟨(uf aD).toArray⟩) h'):aE Tryz.prog 51 #[.agg #[s.v]] h K:=by
 have sn:=H.len
 have Bn:=B.1
 refine v51 s h K fun b1 h1 dT f1 bF=> ?_
 have f1:=f1.aF
 have z1:=f1.size
 have l1:b1<h1.size:=bF.head.lt
 refine aQ Mz (fun k=>h1.size<=k) (fun _ h=>h) 0 (by omega) [] rfl rfl fun o h2 n2 c2 o2 f2 m2 _=>⟨o,rfl,bF.aB f2,?_⟩
 have z2:=f2.size
 have Wa:Ak h2 (fun k=>h1.size<=k) o []:=o2
 have vy:∀{x:Heap},Fr (fun k=>h1.size<=k) h x->Fr No h x:=fun f=>f.mono fun k hk aI=>absurd aI (by omega)
 refine⟨fun m x i h'=>0<=i/\i+m=(aD.length:Int)/\Ak h' (fun k=>h1.size<=k) x ((aD.take i.toNat).map fun l=>(⟨(dP l).toArray⟩:ByteArray))/\Fr (fun k=>h1.size<=k) h h'/\h1.size<=h'.size,⟨aD.length,by omega,by omega,by simpa using Wa,f1.aB.trans f2.aB,z2⟩,?_⟩
 rintro m x i h3 ⟨i0,i1,o3,f3,z3⟩ cF
 have H3:=H.no (vy f3)
 refine⟨fun e2=> ?_,fun e2=> ?_⟩
 ·have hi:=H3.lt e2
  have wB:i.toNat<aD.length:=by omega
  obtain⟨si,c1,r1⟩:=H3.get i0 hi
  have rn:=r1.len
  have hk:=B.2 _ (List.getElem_mem wB)
  have off:∀A(q:Nat×List Value),q∈[(b1,A)]->¬h1.size<=q.1:=fun A q hq=>by
   simp only[List.mem_cons,List.not_mem_nil,or_false]at hq
   subst hq;simp only;omega
  refine⟨H3.bB i0 hi,si,c1,yi r1 (fun y hy=>by have:=hk.2 y hy;omega) (by omega) _ fun h9 f9=>⟨_,rfl,cF.aB f9,?_⟩⟩
  have z9:=f9.size
  refine mF (Ow.no o3 f9) (fun k hk=>by omega) (cF.aB f9) (off _) (by simp;omega) _ fun u gP lU f11 V11=> ?_
  have QB:=f11.size
  rw[H3.succ i0 hi]
  refine⟨m-1,by omega,by omega,by omega,?_,(f3.trans f9.aB).trans f11,by omega⟩
  rw[show(i+1).toNat=i.toNat+1 by omega,List.take_add_one,List.getElem?_eq_getElem wB,Option.toList_some,List.map_append]
  exact lU
 ·have hi:=H3.ge e2
  rw[List.take_of_length_le (by omega)]at o3
  have hm:((aD.map fun l=>(⟨(dP l).toArray⟩:ByteArray)).map (·.data.toList))=aD.map dP:=by simp
  have Wi:=Sf B
  unfold uf at Wi HK
  refine Ih o3.eQ (fun hh=>by have:=congrArg List.length hh;simp at this;simp[this]at hp) (by simp;omega) (by rw[hm];show(Lib.join _ [59]).length<=_;omega) _ fun gQ f12=>⟨_,rfl,cF.aB f12,?_⟩
  have:=HK gQ ((vy f3).trans f12)
  rw[hm]
  exact this
theorem nH{P:Program}{t:TypeId}(ht:P.underlying t=some .string){K:Value->Prop}(k:IntKind)(s:ByteArray)(i:Int)(h0:0<=i)(h1:i.toNat<s.size)(H:K (.int .u8 (s[i.toNat]'h1).toNat)):pop P (Instr.index t (.string s) (.int k i)) K:=
 .mk' (fun w=>by
  have hu:=bX ht w
  have e:s[i.toNat]?=some (s[i.toNat]'h1):=by simp[getElem?_pos s i.toNat h1]
  unfold Instr.index
  simp[asIntOf,go_sem,hu,h0,e]) H
def fH(st:List (List Int)×List Int)(c:UInt8):List (List Int)×List Int:=
 if 48<=(c.toNat:Int)/\(c.toNat:Int)<=55 then(st.1,st.2++[(c.toNat:Int)-48])else if(c.toNat:Int)=59 then(st.1++[st.2],[])else st
def Io(s:List UInt8):List (List Int)×List Int:=s.foldl fH ([],[])
def vQ(s:List UInt8):List (List Int):=(Io s).1++[(Io s).2]
theorem Kp:∀(l:List UInt8)(st:List (List Int)×List Int),(l.foldl fH st).1.length<=st.1.length+l.length/\(l.foldl fH st).2.length<=st.2.length+l.length
 |[],st=>⟨Nat.le_refl _,Nat.le_refl _⟩
 |c::l,st=>by
  have ih:=Kp l (fH st c)
  rw[List.foldl_cons,List.length_cons]
  have:(fH st c).1.length<=st.1.length+1/\(fH st c).2.length<=st.2.length+1:=by
   unfold fH
   split
   ·simp
   ·split
    ·simp
    ·omega
  omega
theorem Kq{st:List (List Int)×List Int}{x:Int}(h0:0<=x)(h1:x<8):(Lib.decDigits x.toNat).foldl fH st=(st.1,st.2++[x]):=by
 rw[CV h0 (by omega)]
 have:∀n:Fin 8,((UInt8.ofNat (48+n.val)).toNat:Int)=48+n.val:=by decide
 have:=this ⟨x.toNat,by omega⟩
 simp only[List.foldl_cons,List.foldl_nil]
 unfold fH
 simp only at this
 rw[this,if_pos (by omega),show(48+(x.toNat:Int)-48)=x by omega]
theorem Kr:∀(xs:List Int)(st:List (List Int)×List Int),(∀x,x∈xs->0<=x/\x<8)->(ue 44 (xs.map fun x=>Lib.decDigits x.toNat)).foldl fH st=(st.1,st.2++xs)
 |[],st,_=>by simp[ue]
 |[x],st,h=>by
  have:=h x List.mem_cons_self
  rw[List.map_cons,List.map_nil,ue,Kq this.1 this.2]
 |x::y::xs,st,h=>by
  have h1:=h x List.mem_cons_self
  rw[List.map_cons,wF _ _ (by simp),List.foldl_append,Kq h1.1 h1.2,List.foldl_cons]
  rw[show fH (st.1,st.2++[x]) 44=(st.1,st.2++[x])from rfl,Kr (y::xs) _ fun z hz=>h z (List.mem_cons_of_mem _ hz)]
  simp
theorem FH{xs:List Int}(st:List (List Int)×List Int)(h:∀x,x∈xs->0<=x/\x<8):(dP xs).foldl fH st=(st.1,st.2++xs):=by
 unfold dP
 by_cases e:xs.length=0
 ·rw[if_pos e,List.length_eq_zero_iff.1 e,List.append_nil]
  rfl
 ·rw[if_neg e,sN,Kr xs st h]
theorem FI:∀(g:List (List Int))(R:List (List Int)),g≠[]->(∀l,l∈g->∀x,x∈l->0<=x/\x<8)->((ue 59 (g.map dP)).foldl fH (R,[])).1++[((ue 59 (g.map dP)).foldl fH (R,[])).2]=R++g
 |[],R,h,_=>absurd rfl h
 |[l],R,_,h=>by
  rw[List.map_cons,List.map_nil,ue,FH _ (h l List.mem_cons_self)]
  simp
 |l::m::g,R,_,h=>by
  rw[List.map_cons,wF _ _ (by simp),List.foldl_append,FH _ (h l List.mem_cons_self),List.foldl_cons]
  rw[show fH (R,[]++l) 59=(R++[[]++l],[])from rfl,FI (m::g) _ (by simp) fun z hz=>h z (List.mem_cons_of_mem _ hz)]
  simp
theorem Wy{g:List (List Int)}(hg:aM g=true):vQ (uf g)=g:=by
 have gl:=aO hg
 unfold vQ Io uf
 rw[sN,FI g [] (fun e=>by rw[e]at gl;simp at gl) fun l hl x hx=>by have:=(aT hg hl).2 x hx;omega,List.nil_append]
theorem ug(s:ByteArray):qj s=if s.data.toList.length<=200/\aM (vQ s.data.toList)=true/\uf (vQ s.data.toList)=s.data.toList then(vQ s.data.toList,true)else([],false):=by
 unfold qj
 cases hp:pg s.data.toList with
 |some g=>
  obtain⟨hg,ht⟩:=wG hp
  have hl:=Sd hg
  have hc:=Wy hg
  rw[ht]at hl hc
  rw[if_pos ⟨hl,by rw[hc];exact hg,by rw[hc];exact ht⟩,hc]
 |none=>
  rw[if_neg]
  rintro⟨_,hg,ht⟩
  have:=Sc hg
  rw[ht,hp]at this
  cases this
theorem LU{h:Heap}{s:ByteArray}(K:Value->Heap->Prop)(HK:∀t h',fQ h' (Iv h.size h'.size) t (qj s).1->Fr No h h'->K (.tuple #[.agg #[t.v],VB (qj s).2]) h'):aE Tryz.prog 125 #[VS s] h K:=by
 have sl:=jY s
 refine afy s h K ⟨fun e b1 h2 dT f2 bW=> ?_,fun e b1 b2 h4 dT dC f4 dJ=> ?_⟩
 ·simp only[decide_eq_true_eq]at e
  rw[ug,if_neg (by omega)]at HK
  exact HK aC h2 (dI.nil _ _ _ _) f2.aF
 simp only[decide_eq_false_iff_not]at e
 have f4:=f4.aF
 have z4:=f4.size
 have l2:b2<h4.size:=dJ.head.lt
 have l1:b1<h4.size:=dJ.tail.head.lt
 have fin:∀{h':Heap},Fr (fun k=>k=b2\/k=b1\/h4.size<=k) h4 h'->Fr No h h':=fun f=>f4.fresh f fun k hk=>by rcases hk with rfl|rfl|hk<;>omega
 have off:∀A B(q:Nat×List Value),q∈[(b2,A),(b1,B)]->q.1<h4.size:=fun A B q hq=>by
  simp only[List.mem_cons,List.not_mem_nil,or_false]at hq
  rcases hq with rfl|rfl<;>simp only<;>omega
 refine⟨fun n l i x h'=>0<=i/\i+n=(s.size:Int)/\(∃m,h4.size<=m/\m<=h'.size/\fQ h' (fun k=>h4.size<=k/\k<m) x (Io (s.data.toList.take i.toNat)).1/\bM h' (fun k=>m<=k) l (Io (s.data.toList.take i.toNat)).2)/\Fr (fun k=>k=b2\/k=b1\/h4.size<=k) h4 h',⟨s.size,by omega,by omega,⟨h4.size,Nat.le_refl _,Nat.le_refl _,dI.nil _ _ _ _,Ow.nil _ _ _ _⟩,Fr.refl _ _⟩,?_⟩
 rintro n l i x h5 ⟨i0,i1,⟨m,m0,m1,ox,ol⟩,f5⟩ gr
 have z5:=f5.size
 have cl:=Kp (s.data.toList.take i.toNat) ([],[])
 simp only[List.length_nil,List.length_take]at cl
 have c1:(Io (s.data.toList.take i.toNat)).1.length<=200:=by have:=cl.1;unfold Io;omega
 have c2:(Io (s.data.toList.take i.toNat)).2.length<=200:=by have:=cl.2;unfold Io;omega
 have row:∀(T:Sl->Heap->Prop),(∀t h',fQ h' (fun k=>h4.size<=k) t ((Io (s.data.toList.take i.toNat)).1++[(Io (s.data.toList.take i.toNat)).2])->Fr (fun k=>k=b2\/k=b1\/h4.size<=k) h4 h'->Vars h' [(b2,[t.v]),(b1,[aC.v])]->T t h')->jU Tryz.prog (Instr.buildSlice nu 1 #[(0,l.v)]) h5 fun rv h1=>∃t:Sl,rv=t.v/\Vars h1 [(b2,[x.v]),(b1,[aC.v])]/\jU Tryz.prog (bP nu nu nu x.v t.v) h1 fun H6 h2=>∃t2:Sl,H6=t2.v/\Vars h2 [(b2,[x.v]),(b1,[aC.v])]/\∀dV,Fr (In [b2]) h2 dV->Vars dV [(b2,[t2.v]),(b1,[aC.v])]->T t2 dV:=fun T HT=>by
  refine sI (F:=fun k=>h4.size<=k) (m:=m) ox ol (fun k hk=>by omega) m1 gr (fun p hp=>by have:=off _ _ p hp;omega) (by omega) _ fun t h7 o7 f7 V7 h8 f8 fA=> ?_
  refine HT t h8 (dI.fr o7 f8 fun k hk aI HV=>by simp[In]at HV;omega) ((f5.trans (f7.mono fun k _ hk=> .inr (.inr hk))).trans (f8.mono fun k _ hk=> .inl (by simpa[In]using hk))) fA
 refine⟨fun e2=> ?_,fun e2=> ?_⟩
 ·simp only[decide_eq_true_eq]at e2
  have hi:i.toNat<s.data.toList.length:=by omega
  have hc:Io (s.data.toList.take (i.toNat+1))=fH (Io (s.data.toList.take i.toNat)) (s.data.toList[i.toNat]):=by
   unfold Io
   rw[List.take_add_one,List.getElem?_eq_getElem hi,Option.toList_some,List.foldl_append]
   rfl
  have Wz:s[i.toNat]'(by omega)=s.data.toList[i.toNat]:=by
   show s.data[i.toNat]'_=_
   simp
  generalize hcv:s.data.toList[i.toNat]=c at hc Wz
  generalize M0:Io (s.data.toList.take i.toNat)=st at*
  have cb:(c.toNat:Int)<256:=by have:=c.toNat_lt;omega
  refine⟨fun l' x' h'=>(∃m,h4.size<=m/\m<=h'.size/\fQ h' (fun k=>h4.size<=k/\k<m) x' (fH st c).1/\bM h' (fun k=>m<=k) l' (fH st c).2)/\Fr (fun k=>k=b2\/k=b1\/h4.size<=k) h4 h',?_,?_⟩
  ·have other:¬(48<=(c.toNat:Int)/\(c.toNat:Int)<=55)->¬(c.toNat:Int)=59->(∃m,h4.size<=m/\m<=h5.size/\fQ h5 (fun k=>h4.size<=k/\k<m) x (fH st c).1/\bM h5 (fun k=>m<=k) l (fH st c).2)/\Fr (fun k=>k=b2\/k=b1\/h4.size<=k) h4 h5:=fun a b=>by
    unfold fH
    rw[if_neg a,if_neg b]
    exact⟨⟨m,m0,m1,ox,ol⟩,f5⟩
   have ach:¬(48<=(c.toNat:Int)/\(c.toNat:Int)<=55)->(c.toNat:Int)=59->∀t h',fQ h' (fun k=>h4.size<=k) t (st.1++[st.2])->Fr (fun k=>k=b2\/k=b1\/h4.size<=k) h4 h'->(∃m,h4.size<=m/\m<=h'.size/\fQ h' (fun k=>h4.size<=k/\k<m) t (fH st c).1/\bM h' (fun k=>m<=k) aC (fH st c).2)/\Fr (fun k=>k=b2\/k=b1\/h4.size<=k) h4 h':=fun a b t h' o f=>by
    unfold fH
    rw[if_neg a,if_pos b]
    exact⟨⟨h'.size,f.size,Nat.le_refl _,o.ga,Ow.nil _ _ _ _⟩,f⟩
   refine nH (by kernel_rfl) _ _ i i0 (by omega) ⟨_,rfl,?_⟩
   rw[Wz]
   refine⟨fun e3=>⟨fun e4=> ?_,fun e4=> ?_⟩,fun e3=> ?_⟩
   ·simp only[decide_eq_true_eq]at e3 e4
    refine kN (show Tryz.prog.underlying _=some (.int .u8)from by kernel_rfl) (show Tryz.prog.underlying _=some (.int .i64)from by kernel_rfl) _ ⟨(c.toNat:Int)-48,?_,?_⟩
    ·have:IntKind.u8.wrap ((c.toNat:Int)-48)=(c.toNat:Int)-48:=by
      show((c.toNat:Int)-48)%256=_
      omega
     rw[this]
     show VI (aL _)=_
     rw[aH _ (by omega) (by omega)]
    refine sH (lo:=m) ol m1 gr (fun p hp=>by have:=off _ _ p hp;omega) (by omega) _ fun t h7 o7 f7 V7=> ?_
    refine⟨⟨m,m0,Nat.le_trans m1 f7.size,?_,?_⟩,f5.trans (f7.mono fun k _ hk=> .inr (.inr (by omega)))⟩
    ·unfold fH
     rw[if_pos ⟨e3,e4⟩]
     exact dI.fr ox f7 fun k hk aI HV=>by omega
    ·unfold fH
     rw[if_pos ⟨e3,e4⟩]
     exact o7
   ·simp only[decide_eq_true_eq,decide_eq_false_iff_not]at e3 e4
    refine⟨fun e6=> ?_,fun e6=> ?_⟩
    ·simp only[decide_eq_true_eq]at e6
     exact row _ fun t h' o f V=>ach (by omega) e6 t h' o f
    ·simp only[decide_eq_false_iff_not]at e6
     exact other (by omega) e6
   ·simp only[decide_eq_false_iff_not]at e3
    refine⟨fun e6=> ?_,fun e6=> ?_⟩
    ·simp only[decide_eq_true_eq]at e6
     exact row _ fun t h' o f V=>ach (by omega) e6 t h' o f
    ·simp only[decide_eq_false_iff_not]at e6
     exact other (by omega) e6
  ·rintro l' x' h6 ⟨hm,f6⟩ iY
   rw[aH (i+1) (by omega) (by omega)]
   refine⟨n-1,by omega,by omega,by omega,?_,f6⟩
   rw[show(i+1).toNat=i.toNat+1 by omega,hc]
   exact hm
 ·simp only[decide_eq_false_iff_not]at e2
  refine row _ fun t h7 o7 f7 V7=> ?_
  rw[List.take_of_length_le (by omega)]at o7
  have o7:fQ h7 (fun k=>h4.size<=k) t (vQ s.data.toList):=o7
  have ocl:vQ s.data.toList=vQ s.data.toList:=rfl
  have bad:∀h' lc,Fr No h7 h'->Fr (In [b1]) h' lc->¬(s.data.toList.length<=200/\aM (vQ s.data.toList)=true/\uf (vQ s.data.toList)=s.data.toList)->K (.tuple #[.agg #[aC.v],VB false]) lc:=fun h' lc a b hn=>by
   rw[ug,if_neg hn]at HK
   exact HK aC lc (dI.nil _ _ _ _) (fin ((f7.trans a.aB).trans (b.mono fun k _ hk=> .inr (.inl (by simpa[In]using hk)))))
  refine lT o7.rd _ fun h8 f8=>⟨_,rfl,V7.aB f8,fun e3 h9 f9 fS=> ?_,fun e3=> ?_⟩
  ·exact bad h8 h9 f8 f9 fun hh=>by rw[hh.2.1]at e3;cases e3
  have e3:=aW e3
  refine sO (o7.rd.no f8) (jo e3) _ fun h9 f9=>⟨_,rfl,(V7.aB f8).aB f9,?_⟩
  rw[rh]
  rw[show(⟨(uf (vQ s.data.toList)).toArray⟩:ByteArray).data.toList=uf (vQ s.data.toList)from rfl]
  refine⟨fun e4 dV f10 dN=> ?_,fun e4 dV f10 dN=> ?_⟩
  ·exact bad h9 dV (f8.trans f9) f10 fun hh=>by rw[decide_eq_true hh.2.2]at e4;cases e4
  ·have e4:=of_decide_eq_true (aW e4)
   rw[ug,if_pos ⟨by omega,e3,e4⟩]at HK
   have z7:=f7.size
   refine HK t dV ?_ (fin ((f7.trans (f8.trans f9).aB).trans (f10.mono fun k _ hk=> .inr (.inl (by simpa[In]using hk)))))
   have mU:=dI.fr ((o7.no f8).no f9) f10 fun k hk aI HV=>by simp[In]at HV;omega
   exact mU.mono fun k hk aI=>⟨by omega,hk⟩
def sq(g:List (List Int))(s:St):Nat->Option St
 |0=>some s
 |n+1=>(sq g s n).bind (cA g)
theorem ym(g:List (List Int))(s:St)(a:Nat):∀b,sq g s (a+b)=(sq g s a).bind fun t=>sq g t b
 |0=>by rw[Nat.add_zero];cases sq g s a<;>rfl
 |b+1=>by
  rw[<-Nat.add_assoc,sq,ym g s a b]
  cases sq g s a<;>rfl
theorem Ot{g:List (List Int)}{s:St}{a b:Nat}(h:sq g s a=sq g s b)(k:Nat):sq g s (a+k)=sq g s (b+k):=by
 rw[ym,ym,h]
theorem wL{g:List (List Int)}{s:St}{a:Nat}(h:sq g s a=none)(k:Nat):sq g s (a+k)=none:=by
 rw[ym,h];rfl
structure sP(g:List (List Int))(s:St)(m n:Nat):Prop where
 lt:m<n
 eq:sq g s m=sq g s n
 some:sq g s m≠none
 J3:∀i j,i<j->j<n->sq g s i≠sq g s j
theorem WA{g:List (List Int)}{s:St}:∀(b:Nat){a:Nat},a<b->sq g s a=sq g s b->sq g s a≠none->∃m n,n<=b/\sP g s m n:=by
 intro b
 induction b using Nat.strongRecOn with
 |ind b ih=>
  intro a h1 h2 h3
  by_cases hx:∃i j,i<j/\j<b/\sq g s i=sq g s j
  ·obtain⟨i,j,x1,x2,x3⟩:=hx
   obtain⟨m,n,y1,y2⟩:=ih j x2 x1 x3 (fun hn=>by
    have e0:i<=a\/a<i:=by omega
    have:=wL hn (b-i)
    rw[show i+(b-i)=b by omega,<-h2]at this
    exact h3 this)
   exact⟨m,n,by omega,y2⟩
  ·exact⟨a,b,Nat.le_refl _,h1,h2,h3,fun i j x1 x2 x3=>hx ⟨i,j,x1,x2,x3⟩⟩
theorem sP.mul{g:List (List Int)}{s:St}{m n:Nat}(R:sP g s m n){a:Nat}(h:m<=a):∀k,sq g s (a+k*(n-m))=sq g s a
 |0=>by rw[Nat.zero_mul,Nat.add_zero]
 |k+1=>by
  have:=Ot R.eq (a+k*(n-m)-m)
  have tE:=R.lt
  rw[show m+(a+k*(n-m)-m)=a+k*(n-m) by omega,R.mul h k]at this
  rw[this,Nat.succ_mul]
  congr 1;omega
theorem sP.all{g:List (List Int)}{s:St}{m n:Nat}(R:sP g s m n)(a:Nat):sq g s a≠none:=by
 intro h
 have h1:=wL h (m+a*(n-m))
 have tE:=R.lt
 have h2:=R.mul (a:=m) (Nat.le_refl _) a
 have:a<=a*(n-m):=Nat.le_mul_of_pos_right _ (by omega)
 have h3:=wL h (m+a*(n-m)-a)
 rw[show a+(m+a*(n-m)-a)=m+a*(n-m) by omega,h2]at h3
 exact R.some h3
theorem sP.rep{g:List (List Int)}{s:St}{m n:Nat}(R:sP g s m n){a:Nat}(h:m<=a):sq g s (m+(a-m)%(n-m))=sq g s a/\m+(a-m)%(n-m)<n:=by
 have tE:=R.lt
 have h1:=Nat.mod_add_div (a-m) (n-m)
 have h2:=R.mul (a:=m+(a-m)%(n-m)) (by omega) ((a-m)/(n-m))
 rw[Nat.mul_comm]at h1
 rw[show m+(a-m)%(n-m)+(a-m)/(n-m)*(n-m)=a by omega]at h2
 have h3:=Nat.mod_lt (a-m) (show n-m>0 by omega)
 exact⟨h2.symm,by omega⟩
theorem sP.iff{g:List (List Int)}{s:St}{m n:Nat}(R:sP g s m n){a b:Nat}(h:a<b):sq g s a=sq g s b↔m<=a/\(b-a)%(n-m)=0:=by
 have tE:=R.lt
 constructor
 ·intro e
  have ha:m<=a:=by
   refine Nat.not_lt.1 fun hl=> ?_
   by_cases hb:b<n
   ·exact R.J3 a b h hb e
   ·obtain⟨r1,r2⟩:=R.rep (a:=b) (by omega)
    exact R.J3 a _ (by omega) r2 (e.trans r1.symm)
  refine⟨ha,?_⟩
  obtain⟨r1,r2⟩:=R.rep (a:=b) (by omega)
  obtain⟨q1,q2⟩:=R.rep ha
  have hr:(a-m)%(n-m)=(b-m)%(n-m):=by
   rcases Nat.lt_trichotomy ((a-m)%(n-m)) ((b-m)%(n-m))with x|x|x
   ·exact absurd (q1.trans (e.trans r1.symm)) (R.J3 _ _ (by omega) r2)
   ·exact x
   ·exact absurd (r1.trans (e.symm.trans q1.symm)) (R.J3 _ _ (by omega) q2)
  have:=Nat.sub_mod_eq_zero_of_mod_eq hr.symm
  rwa [show b-m-(a-m)=b-a by omega]at this
 ·rintro⟨h1,h2⟩
  have h3:=Nat.mod_add_div (b-a) (n-m)
  rw[h2,Nat.zero_add,Nat.mul_comm]at h3
  have:=R.mul h1 ((b-a)/(n-m))
  rw[h3,show a+(b-a)=b by omega]at this
  exact this.symm
theorem sP.WB{g:List (List Int)}{s:St}{m n m' n':Nat}(R:sP g s m n)(R':sP g s m' n'):m=m'/\n=n':=by
 have h1:=R.lt
 have h2:=R'.lt
 have hn:n=n':=by
  rcases Nat.lt_trichotomy n n' with x|x|x
  ·exact absurd R.eq (R'.J3 m n h1 x)
  ·exact x
  ·exact absurd R'.eq (R.J3 m' n' h2 x)
 subst hn
 refine⟨?_,rfl⟩
 rcases Nat.lt_trichotomy m m' with x|x|x
 ·exact absurd (R.eq.trans R'.eq.symm) (R.J3 m m' x h2)
 ·exact x
 ·exact absurd (R'.eq.trans R.eq.symm) (R.J3 m' m x h1)
theorem sP.meets{g:List (List Int)}{s:St}{m n:Nat}(R:sP g s m n):∃k,1<=k/\k<=n/\m<=k/\sq g s k=sq g s (2*k):=by
 have tE:=R.lt
 have h1:=Nat.mod_add_div m (n-m)
 have h3:=Nat.mod_lt m (show n-m>0 by omega)
 by_cases h0:m%(n-m)=0/\1<=m
 ·refine⟨m,h0.2,by omega,Nat.le_refl _,(R.iff (by omega)).2 ⟨Nat.le_refl _,?_⟩⟩
  rw[show 2*m-m=m by omega];exact h0.1
 ·have hk:(n-m)*(m/(n-m)+1)=(n-m)*(m/(n-m))+(n-m):=by rw[Nat.mul_succ]
  refine⟨(n-m)*(m/(n-m)+1),by omega,?_,by omega,?_⟩
  ·by_cases hm:m=0
   ·subst hm
    simp at hk⊢
   ·have:m%(n-m)≠0:=fun e=>h0 ⟨e,by omega⟩
    omega
  ·refine(R.iff (by omega)).2 ⟨by omega,?_⟩
   rw[show 2*((n-m)*(m/(n-m)+1))-(n-m)*(m/(n-m)+1)=(n-m)*(m/(n-m)+1) by omega]
   exact Nat.mul_mod_right _ _
def oh:List St->St->Option Nat
 |[],_=>none
 |x::xs,s=>if x=s then some 0 else(oh xs s).map (·+1)
theorem pY:∀{hs:List St}{s:St}{m:Nat},oh hs s=some m->hs[m]?=some s
 |[],s,m,h=>by simp[oh]at h
 |x::xs,s,m,h=>by
  rw[oh]at h
  split at h
  ·rename_i e
   simp only[Option.some.injEq]at h
   rw[<-h,e];rfl
  ·cases hm:oh xs s with
   |none=>rw[hm]at h;simp at h
   |some k=>
    rw[hm]at h
    simp only[Option.map_some,Option.some.injEq]at h
    rw[<-h,List.getElem?_cons_succ]
    exact pY hm
theorem uh:∀{hs:List St}{s:St},oh hs s=none->s∉hs
 |[],s,_=>by simp
 |x::xs,s,h=>by
  rw[oh]at h
  split at h
  ·cases h
  ·rename_i e
   cases hm:oh xs s with
   |none=>
    intro hx
    rcases List.mem_cons.1 hx with a|a
    ·exact e a.symm
    ·exact uh hm a
   |some k=>rw[hm]at h;simp at h
def FJ(g:List (List Int)):Nat->Nat->St->List St->Int×Int×Bool
 |0,_,_,_=>(0,0,false)
 |f+1,n,s,hs=>match oh hs s with
  |some m=>((m:Int),(n:Int)-m,true)
  |none=>match cA g s with
   |none=>(0,0,false)
   |some s'=>FJ g f (n+1) s' (hs++[s])
structure CX(g:List (List Int))(s0:St)(n:Nat)(s:St)(hs:List St):Prop where
 len:hs.length=n
 at_:∀i,i<n->hs[i]?=sq g s0 i
 now:sq g s0 n=some s
 J3:∀i j,i<j->j<n->sq g s0 i≠sq g s0 j
theorem CX.init(g:List (List Int))(s0:St):CX g s0 0 s0 []:=⟨rfl,fun i h=>by omega,rfl,fun i j _ h=>by omega⟩
theorem CX.next{g:List (List Int)}{s0 s s':St}{n:Nat}{hs:List St}(H:CX g s0 n s hs)(h:oh hs s=none)(Hl:cA g s=some s'):CX g s0 (n+1) s' (hs++[s]):=by
 refine⟨by rw[List.length_append,H.len];rfl,fun i hi=> ?_,by rw[sq,H.now];exact Hl,fun i j h1 h2=> ?_⟩
 ·by_cases e:i=n
  ·subst e
   rw[List.getElem?_append_right (by rw[H.len];exact Nat.le_refl _),H.len,Nat.sub_self,H.now];rfl
  ·rw[List.getElem?_append_left (by rw[H.len];omega)]
   exact H.at_ i (by omega)
 ·by_cases e:j=n
  ·subst e
   intro he
   rw[H.now,<-H.at_ i h1]at he
   exact uh h (List.mem_of_getElem? he)
  ·exact H.J3 i j h1 (by omega)
theorem FK{g:List (List Int)}{s0:St}{m k:Nat}(R:sP g s0 m k):∀(f n:Nat)(s:St)(hs:List St),CX g s0 n s hs->n<=k->k<n+f->FJ g f n s hs=((m:Int),(k:Int)-m,true)
 |0,n,s,hs,H,h1,h2=>by omega
 |f+1,n,s,hs,H,h1,h2=>by
  rw[FJ]
  cases hi:oh hs s with
  |some i=>
   have h3:=pY hi
   have UK:i<n:=by
    refine Nat.not_le.1 fun hle=> ?_
    rw[List.getElem?_eq_none (by rw[H.len];exact hle)]at h3;cases h3
   rw[H.at_ i UK,<-H.now]at h3
   have R':sP g s0 i n:=⟨UK,h3,by rw[h3,H.now];simp,H.J3⟩
   obtain⟨a,b⟩:=R.WB R'
   rw[a,b]
  |none=>
   cases Hl:cA g s with
   |none=>
    exfalso
    have:=R.all (n+1)
    rw[sq,H.now]at this
    exact this Hl
   |some s'=>
    have eA:n≠k:=by
     rintro rfl
     have h3:=R.eq
     rw[H.now,<-H.at_ m R.lt]at h3
     exact uh hi (List.mem_of_getElem? h3)
    exact FK R f (n+1) s' _ (H.next hi Hl) (by omega) (by omega)
theorem Ks{g:List (List Int)}{s0:St}:∀(f n:Nat)(s:St)(hs:List St),CX g s0 n s hs->(∀m k,sP g s0 m k->n+f<=k)->FJ g f n s hs=(0,0,false)
 |0,n,s,hs,H,h=>rfl
 |f+1,n,s,hs,H,h=>by
  rw[FJ]
  cases hi:oh hs s with
  |some i=>
   have h3:=pY hi
   have UK:i<n:=by
    refine Nat.not_le.1 fun hle=> ?_
    rw[List.getElem?_eq_none (by rw[H.len];exact hle)]at h3;cases h3
   rw[H.at_ i UK,<-H.now]at h3
   have:=h i n ⟨UK,h3,by rw[h3,H.now];simp,H.J3⟩
   omega
  |none=>
   cases Hl:cA g s with
   |none=>rfl
   |some s'=>exact Ks f (n+1) s' _ (H.next hi Hl) fun m k R=>by have:=h m k R;omega
def FL(g:List (List Int))(s:St):Int×Int×Bool:=FJ g 2001 0 s []
theorem FM{g:List (List Int)}{s:St}{m k:Nat}(R:sP g s m k)(h:k<=2000):FL g s=((m:Int),(k:Int)-m,true):=FK R 2001 0 s [] (CX.init g s) (Nat.zero_le _) (by omega)
theorem Kt{g:List (List Int)}{s:St}(h:∀m k,sP g s m k->2000<k):FL g s=(0,0,false):=Ks 2001 0 s [] (CX.init g s) fun m k R=>by have:=h m k R;omega
def pj(h:Heap)(b:Nat)(eY:List (ByteArray×Int)):Prop:=∃(es:Array MapEntry)(clock:Nat),h[b]?=some (.map es clock)/\es.toList.map (fun e=>(e.key,e.val))=eY.map fun q=>(VS q.1,VI q.2)
theorem pj.lt{h:Heap}{b:Nat}{eY:List (ByteArray×Int)}(M:pj h b eY):b<h.size:=by
 obtain⟨es,c,hb,_⟩:=M
 exact(Array.getElem?_eq_some_iff.1 hb).1
theorem pj.fr{h h':Heap}{b:Nat}{eY:List (ByteArray×Int)}{T:Nat->Prop}(M:pj h b eY)(f:Fr T h h')(hT:¬T b):pj h' b eY:=by
 have hl:=M.lt
 obtain⟨es,c,hb,e⟩:=M
 exact⟨es,c,by rw[f.same b hl hT];exact hb,e⟩
def po(eY:List (ByteArray×Int))(k:ByteArray):Option Int:=match eY with
 |[]=>none
 |q::r=>if q.1=k then some q.2 else po r k
theorem FN{t:TypeId}{h:Heap}{K:Value->Heap->Prop}(HK:∀h',pj h' h.size []->Fr No h h'->h.size<h'.size->K (.map (some h.size)) h'):jU Tryz.prog (Instr.makeMap t none) h K:=by
 refine⟨fun w hw=> ?_⟩
 subst hw
 refine⟨_,_,run_makeMap_plain w t,⟨rfl,rfl,rfl⟩,HK _ ⟨#[],0,?_,rfl⟩ (Fr.push w.heap _) ?_⟩
 ·show(w.heap.push _)[w.heap.size]?=_
  simp
 ·show w.heap.size<(w.heap.push _).size
  simp
theorem pp{k:ByteArray}:∀(l:List MapEntry)(eY:List (ByteArray×Int))(i:Nat),l.map (fun e=>(e.key,e.val))=eY.map (fun q=>(VS q.1,VI q.2))->∃r,Instr.findNow .string (VS k) l i=some r/\r.map (·.2)=(po eY k).map VI
 |[],[],i,_=>⟨none,rfl,rfl⟩
 |[],q::r,i,h=>by simp at h
 |e::l,[],i,h=>by simp at h
 |e::l,q::r,i,h=>by
  simp only[List.map_cons,List.cons.injEq,Prod.mk.injEq]at h
  obtain⟨⟨h1,h2⟩,h3⟩:=h
  obtain⟨x,hx,hy⟩:=pp l r (i+1) h3
  unfold Instr.findNow po
  rw[h1]
  by_cases hq:q.1=k
  ·have:Instr.sameNow .string (VS k) (VS q.1)=some true:=by
    show some (k==q.1)=some true
    rw[hq,(MapKept.bytes_beq k k).2 rfl]
   rw[this,if_pos hq]
   exact⟨some (i,e.val),rfl,by simp[h2]⟩
  ·have:Instr.sameNow .string (VS k) (VS q.1)=some false:=by
    show some (k==q.1)=some false
    have:(k==q.1)=false:=by
     cases hb:(k==q.1)with
     |false=>rfl
     |true=>exact absurd ((MapKept.bytes_beq k q.1).1 hb).symm hq
    rw[this]
   rw[this,if_neg hq]
   exact⟨x,hx,hy⟩
theorem Ip{t kt et:TypeId}{h:Heap}{b:Nat}{eY:List (ByteArray×Int)}{k:ByteArray}(hm:Tryz.prog.underlying t=some (.map kt et))(hk:Tryz.prog.underlying kt=some .string)(hz:oG Tryz.prog et=some (VI 0))(M:pj h b eY){K:Value->Prop}(HK:K (.tuple #[VI ((po eY k).getD 0),VB (po eY k).isSome])):zZ Tryz.prog (Instr.lookup t (.map (some b)) (VS k) true) h K:=by
 obtain⟨es,c,hb,e⟩:=M
 obtain⟨r,hr,hv⟩:=pp (k:=k) es.toList eY 0 e
 refine⟨_,fun w hw=> ?_,HK⟩
 subst hw
 have hc:(Instr.checkKey es.isEmpty 10000 kt (VS k)).run Tryz.prog w= .ok () w:=MapKept.run_checkKey (k:= .string k) hk (by simp[MapKept.IsKey]) es.isEmpty 9999
 have hf:=MapKept.run_findKey (w:=w) hk hr
 have hzr:(zeroValue et).run Tryz.prog w= .ok (VI 0) w:=by
  unfold oG at hz
  cases hi:Tryz.prog.info? et with
  |none=>rw[hi]at hz;simp at hz
  |some i=>
   rw[hi]at hz
   simp only[Option.bind_some]at hz
   unfold zeroValue
   rw[aK (dR hi w)]
   simp[hz,pure,Sem.run]
 unfold Instr.lookup
 simp only[Sem.run_bind,run_underlying hm,Result.andThen,MapKept.run_getObj_map hb,hc,hf]
 cases r with
 |none=>
  cases hs:po eY k with
  |none=>simp[hc,hf,Sem.run,pure,hzr,Result.andThen]
  |some x=>rw[hs]at hv;simp at hv
 |some p=>
  cases hs:po eY k with
  |none=>rw[hs]at hv;simp at hv
  |some x=>
   rw[hs]at hv
   simp only[Option.map_some,Option.some.injEq]at hv
   simp[hc,hf,Sem.run,pure,Result.andThen,hv]
theorem Al{t kt et:TypeId}{h:Heap}{b:Nat}{eY:List (ByteArray×Int)}{k:ByteArray}{x:Int}(hm:Tryz.prog.underlying t=some (.map kt et))(hk:Tryz.prog.underlying kt=some .string)(M:pj h b eY)(hn:po eY k=none){K:Value->Heap->Prop}(HK:∀v h',pj h' b (eY++[(k,x)])->Fr (In [b]) h h'->K v h'):Aw Tryz.prog (Instr.mapUpdate t (.map (some b)) (VS k) (VI x)) h K:=by
 have hl:=M.lt
 obtain⟨es,c,hb,e⟩:=M
 obtain⟨r,hr,hv⟩:=pp (k:=k) es.toList eY 0 e
 rw[hn]at hv
 have CF:r=none:=by cases r with
  |none=>rfl
  |some p=>simp at hv
 subst CF
 refine⟨fun w hw=> ?_⟩
 subst hw
 have hc:(Instr.checkKey false 10000 kt (VS k)).run Tryz.prog w= .ok () w:=MapKept.run_checkKey (k:= .string k) hk (by simp[MapKept.IsKey]) false 9999
 have hf:=MapKept.run_findKey (w:=w) hk hr
 refine⟨{w with heap:=w.heap.setIfInBounds b (.map (es.push {key:=VS k,val:=VI x,born:=c}) (c+1))},?_,⟨rfl,rfl,rfl⟩,HK _ _ ⟨es.push {key:=VS k,val:=VI x,born:=c},c+1,?_,?_⟩ ⟨by simp,fun j hj eA=> ?_⟩⟩
 ·unfold Instr.mapUpdate
  simp only[Sem.run_bind,run_underlying hm,Result.andThen,MapKept.run_getObj_map hb,hc,hf,MapKept.run_setObj_map _ hb]
 ·simp only
  rw[Array.getElem?_setIfInBounds,if_pos rfl,if_pos hl]
 ·rw[Array.toList_push,List.map_append,List.map_append,e]
  rfl
 ·simp only
  rw[Array.getElem?_setIfInBounds,if_neg (fun hh=>eA (by simp[In,hh]))]
def Ku(s:St):List UInt8:=Lib.decDigits s.2.toNat++[58]++dP s.1
def CY(s:St):ByteArray:=⟨(Ku s).toArray⟩
theorem CZ{a b:Int}(a0:0<=a)(a1:a<10)(b0:0<=b)(b1:b<10){x y:List UInt8}(h:Lib.decDigits a.toNat++x=Lib.decDigits b.toNat++y):a=b/\x=y:=by
 rw[Lib.decDigits_one (show a.toNat<10 by omega),Lib.decDigits_one (show b.toNat<10 by omega)]at h
 simp only[List.cons_append,List.nil_append,List.cons.injEq]at h
 obtain⟨h1,h2⟩:=h
 have h3:=congrArg UInt8.toNat h1
 simp only[UInt8.toNat_ofNat']at h3
 exact⟨by omega,h2⟩
theorem FO:∀(us vs:List Int),us.length=vs.length->(∀x,x∈us->0<=x/\x<10)->(∀x,x∈vs->0<=x/\x<10)->Lib.joinTail [44] (us.map fun x=>Lib.decDigits x.toNat)=Lib.joinTail [44] (vs.map fun x=>Lib.decDigits x.toNat)->us=vs
 |[],[],_,_,_,_=>rfl
 |[],_::_,h,_,_,_=>by simp at h
 |_::_,[],h,_,_,_=>by simp at h
 |a::us,b::vs,hl,ha,hb,h=>by
  simp only[Lib.joinTail,List.map_cons,List.flatten_cons,List.append_assoc,List.cons_append,List.nil_append,List.cons.injEq,true_and]at h
  have A:=ha a (List.mem_cons_self ..)
  have B:=hb b (List.mem_cons_self ..)
  obtain⟨e1,e2⟩:=CZ A.1 A.2 B.1 B.2 h
  rw[e1,FO us vs (by simpa using hl) (fun x hx=>ha x (List.mem_cons_of_mem _ hx)) (fun x hx=>hb x (List.mem_cons_of_mem _ hx)) e2]
theorem Ou{us vs:List Int}(hl:us.length=vs.length)(ha:∀x,x∈us->0<=x/\x<10)(hb:∀x,x∈vs->0<=x/\x<10)(h:dP us=dP vs):us=vs:=by
 match us,vs,hl,ha,hb,h with
 |[],[],_,_,_,_=>rfl
 |[],_::_,hl,_,_,_=>simp at hl
 |_::_,[],hl,_,_,_=>simp at hl
 |a::us,b::vs,hl,ha,hb,h=>
  unfold dP at h
  rw[if_neg (by simp),if_neg (by simp)]at h
  simp only[List.map_cons]at h
  rw[Lib.join_cons,Lib.join_cons]at h
  have A:=ha a (List.mem_cons_self ..)
  have B:=hb b (List.mem_cons_self ..)
  obtain⟨e1,e2⟩:=CZ A.1 A.2 B.1 B.2 h
  rw[e1,FO us vs (by simpa using hl) (fun x hx=>ha x (List.mem_cons_of_mem _ hx)) (fun x hx=>hb x (List.mem_cons_of_mem _ hx)) e2]
theorem fU{g:List (List Int)}{s:St}(W:gu g s):(∀x,x∈s.1->0<=x/\x<10)/\0<=s.2/\s.2<10/\s.1.length<=8:=by
 have hg:=aO W.bE
 have hl:=W.len
 have h0:=W.lo
 have h1:=W.hi
 refine⟨fun x hx=> ?_,h0,by omega,by omega⟩
 obtain⟨i,hi,rfl⟩:=List.getElem_of_mem hx
 have:=W.Qw i hi (by omega)
 have hm:=(aT W.bE (List.getElem_mem (show i<g.length by omega))).1
 omega
theorem key_inj{g:List (List Int)}{s t:St}(W:gu g s)(W':gu g t)(h:CY s=CY t):s=t:=by
 obtain⟨a1,a2,a3,_⟩:=fU W
 obtain⟨b1,b2,b3,_⟩:=fU W'
 have h:Ku s=Ku t:=by
  have:=congrArg (fun x=>x.data.toList) h
  simpa[CY]using this
 unfold Ku at h
 rw[List.append_assoc,List.append_assoc]at h
 obtain⟨e1,e2⟩:=CZ a2 a3 b2 b3 h
 simp only[List.cons_append,List.nil_append,List.cons.injEq,true_and]at e2
 exact Prod.ext (Ou (by rw[W.len,W'.len]) a1 b1 e2) e1
def kvL(hs:List St):List (ByteArray×Int):=hs.zipIdx.map fun q=>(CY q.1,(q.2:Int))
theorem Ov(hs:List St)(s:St):kvL (hs++[s])=kvL hs++[(CY s,(hs.length:Int))]:=by
 unfold kvL
 rw[List.zipIdx_append,List.map_append]
 simp
theorem Kv{g:List (List Int)}{s:St}(W:gu g s):∀(hs:List St)(k:Nat),(∀t,t∈hs->gu g t)->po ((hs.zipIdx k).map fun q=>(CY q.1,(q.2:Int))) (CY s)=(oh hs s).map fun m=>((m+k:Nat):Int)
 |[],k,_=>rfl
 |t::hs,k,h=>by
  rw[List.zipIdx_cons,List.map_cons,po,oh]
  by_cases e:t=s
  ·rw[if_pos (by rw[e]),if_pos e];simp
  ·rw[if_neg fun hh=>e (key_inj (h t (List.mem_cons_self ..)) W hh),if_neg e,Kv W hs (k+1) fun t ht=>h t (List.mem_cons_of_mem _ ht)]
   cases oh hs s with
   |none=>rfl
   |some m=>simp only[Option.map_some,Option.some.injEq];omega
theorem yn{g:List (List Int)}{s:St}(W:gu g s)(hs:List St)(h:∀t,t∈hs->gu g t):po (kvL hs) (CY s)=(oh hs s).map fun m=>((m:Nat):Int):=Kv W hs 0 h
theorem Iq{S:Nat->Prop}{h:Heap}{w:Sl}{rs:List Int}{p:Int}(H:aP S h w rs)(B:∀x,x∈rs->0<=x/\x<100)(hn:rs.length<=1000)(p0:0<=p)(p1:p<100)(K:Value->Heap->Prop)(HK:∀h',Fr No h h'->K (VS (CY (rs,p))) h'):aE Tryz.prog 55 #[.agg #[w.v,VI p]] h K:=by
 refine v55 w p h K fun b1 h1 dT f1 bF=> ?_
 have f1:=f1.aF
 have d1:=sL (show p.toNat<100 by omega)
 have l1:=uc B
 refine Ok p0 p1 _ ⟨_,rfl,bF,?_,?_⟩
 ·rw[bZ];show _+1<=_;omega
 refine yi (H.no f1) B hn _ fun h3 f3=>⟨_,rfl,bF.aB f3,?_,?_⟩
 ·rw[show(⟨#[58]⟩:ByteArray)=⟨[58].toArray⟩from rfl,eN,bZ,bZ,List.length_append]
  show _+1+_<=_
  omega
 ·rw[show(⟨#[58]⟩:ByteArray)=⟨[58].toArray⟩from rfl,eN,eN]
  exact HK h3 (f1.trans f3)
theorem Ox{S S':Nat->Prop}{h:Heap}{g w:Sl}{aD:List (List Int)}{rs:List Int}{p:Int}(G:bL S h g aD)(H:aP S' h w rs)(W:gu aD (rs,p))(K:Value->Heap->Prop)(HK:∀h',Fr No h h'->K (.tuple #[VI (FL aD (rs,p)).1,VI (FL aD (rs,p)).2.1,VB (FL aD (rs,p)).2.2]) h'):aE Tryz.prog 203 #[.agg #[g.v],.agg #[w.v,VI p]] h K:=by
 have hm:Tryz.prog.underlying 257=some (.map 9 3):=by kernel_rfl
 have hk:Tryz.prog.underlying 9=some .string:=by kernel_rfl
 have hz:oG Tryz.prog 3=some (VI 0):=by kernel_rfl
 have wl:=W.len
 have ws:=fU W
 have ws4:rs.length<=8:=ws.2.2.2
 refine v203 g w p h K fun b1 b2 h2 dT dC f2 bW=> ?_
 have f2:=f2.aF
 have z2:=f2.size
 have l2:b2<h2.size:=bW.head.lt
 have l1:b1<h2.size:=bW.tail.head.lt
 refine FN fun h3 M3 f3 s3=>⟨_,rfl,bW.aB f3,?_⟩
 have gI:=f2.trans f3
 refine iq (H.no gI) p (by omega) _ fun u h4 o4 f4=>⟨u,p,rfl,(bW.aB f3).aB f4,fun b3 h6 iE f6 iY=> ?_⟩
 have f6:=f6.aF
 have z4:=f4.size
 have z6:=f6.size
 have l3:b3<h6.size:=iY.head.lt
 have f36:=f4.trans f6
 generalize hF:(fun k=>Iv h3.size h4.size k\/k=b3)=F
 have F1:∀k,F k->h2.size<k:=fun k hk=>by rw[<-hF]at hk;rcases hk with hk|hk;exact Nat.lt_of_lt_of_le s3 hk.1;omega
 have F2:∀k,Iv h3.size h4.size k->F k:=fun k hk=>by rw[<-hF];exact .inl hk
 have F3:F b3:=by rw[<-hF];exact .inr rfl
 have o6:bM h6 F u rs:=(Ow.no o4 f6).mono fun k _ hk=>F2 k hk
 have hub:¬u.own b3:=fun hk=>by have:=(o4.aG hk).2;omega
 have vy:∀{x:Heap},Fr (fun k=>h2.size<=k) h x->Fr No h x:=fun f=>f.mono fun k hk aI=>absurd aI (by omega)
 have G0:bL (fun k=>S k/\k<h.size) h g aD:=G.xm
 refine⟨fun x q h'=>FL aD (rs,p)=(0,0,false)/\Fr (fun k=>h2.size<=k) h h',⟨fun n i x q h'=>∃(hs:List St)(s:St),i=(hs.length:Int)/\n+hs.length=2001/\q=s.2/\bM h' F x s.1/\¬x.own b3/\pj h' h2.size (kvL hs)/\(∀t,t∈hs->gu aD t)/\gu aD s/\FL aD (rs,p)=FJ aD n hs.length s hs/\Fr (fun k=>h2.size<=k) h h',⟨2001,[],(rs,p),rfl,rfl,rfl,o6,hub,M3.fr f36 (fun h=>h),fun t ht=>(by cases ht),W,rfl,(gI.trans f36).aB⟩,?_⟩,?_⟩
 ·rintro n i x q h7 ⟨hs,s,rfl,en,rfl,o7,hx,M7,Wh,Ws,eP,f7⟩ jC
  have ss:=fU Ws
  refine⟨fun e=> ?_,fun e=> ?_⟩
  ·simp only[decide_eq_true_eq]at e
   obtain⟨n,rfl⟩:∃n',n=n'+1:=⟨n-1,by omega⟩
   rw[FJ]at eP
   refine Iq (show aP _ h7 x s.1 from o7.eQ) (fun y hy=>by have:=ss.1 y hy;omega) (by omega) ss.2.1 (by omega) _ fun h8 f8=>⟨_,rfl,jC.aB f8,?_⟩
   have M8:=M7.fr f8 (fun h=>h)
   refine Ip hm hk hz M8 ⟨_,_,rfl,fun e2=> ?_,fun e2=> ?_⟩
   ·rw[yn Ws hs Wh]at e2⊢
    cases hi:oh hs s with
    |none=>rw[hi]at e2;cases e2
    |some m=>
     rw[hi]at eP
     simp only at eP
     have hml:=(List.getElem?_eq_some_iff.1 (pY hi)).1
     simp only[Option.map_some,Option.getD_some]
     rw[aH _ (by omega) (by omega)]
     have:=HK h8 ((vy f7).trans f8)
     rw[eP]at this
     exact this
   ·rw[yn Ws hs Wh]at e2
    cases hi:oh hs s with
    |some m=>rw[hi]at e2;cases e2
    |none=>
     rw[hi]at eP
     simp only at eP
     refine Al hm hk M8 (by rw[yn Ws hs Wh,hi];rfl) fun v h9 M9 f9=>⟨?_,?_⟩
     ·exact(jC.aB f8).fr f9 fun q hq hk=>by
       simp only[List.mem_cons,List.not_mem_nil,or_false]at hq
       simp only[In,List.mem_cons,List.not_mem_nil,or_false]at hk
       rcases hq with rfl|rfl|rfl<;>simp only at hk<;>omega
     have fS:Vars h9 [(b3,[x.v,VI s.2]),(b2,[w.v,VI p]),(b1,[g.v])]:=(jC.aB f8).fr f9 fun q hq hk=>by
      simp only[List.mem_cons,List.not_mem_nil,or_false]at hq
      simp only[In,List.mem_cons,List.not_mem_nil,or_false]at hk
      rcases hq with rfl|rfl|rfl<;>simp only at hk<;>omega
     have f79:Fr (fun k=>h2.size<=k) h7 h9:=f8.aB.trans (f9.mono fun k _ hk=>by simp[In]at hk;omega)
     have o9:bM h9 F x s.1:=Ow.fr (Ow.no o7 f8) f9 fun k hk aI=>by have:=F1 _ (o7.aG hk).1;simp[In]at aI;omega
     have Mu:=f7.trans f79
     have M9':pj h9 h2.size (kvL (hs++[s])):=by rw[Ov];exact M9
     have G9:bL (fun k=>S k/\k<h.size) h9 g aD:=G0.fr Mu fun k hk aI=>by omega
     refine CD (s:=s) G9 fS.head o9 (fun k hk aI=>by have:=F1 _ aI;omega) F3 hx Ws _ (fun hn dV f10=>⟨x,s.2,false,rfl,fS.aB f10,fun _=> ?_,fun e=>by cases e⟩) (fun s' Hl dV mU V10 f10=>⟨x,s'.2,true,rfl,?_,fun e=>(by cases e),fun _=> ?_⟩)
     ·rw[hn]at eP
      exact⟨eP,Mu.trans f10.aB⟩
     ·exact .cons V10 (fS.ne) (fS.tail.fr f10 fun q hq hk=>by
       simp only[List.mem_cons,List.not_mem_nil,or_false]at hq
       have:=F1 _ hk
       rcases hq with rfl|rfl<;>simp only at this<;>omega)
     ·rw[Hl]at eP
      simp only at eP
      refine⟨n,by omega,hs++[s],s',?_,by simp;omega,rfl,mU,hx,M9'.fr f10 fun hk=>by have:=F1 _ hk;omega,fun t ht=> ?_,Ws.step Hl,by rw[eP];simp,Mu.trans (f10.mono fun k _ hk=>by have:=F1 _ hk;omega)⟩
      ·rw[aH _ (by omega) (by omega)];simp
      ·rcases List.mem_append.1 ht with ht|ht
       ·exact Wh t ht
       ·simp only[List.mem_cons,List.not_mem_nil,or_false]at ht
        rw[ht];exact Ws
  ·simp only[decide_eq_false_iff_not]at e
   have:n=0:=by omega
   subst this
   exact⟨eP,f7⟩
 ·rintro x q gP ⟨eP,f11⟩ iC
  have:=HK gP (vy f11)
  rw[eP]at this
  exact this
def Ch{α:Type}(f:α->Option α):List α->Option α->Prop
 |[],_=>True
 |[x],e=>f x=e
 |x::y::l,e=>f x=some y/\Ch f (y::l) e
theorem Ch.at{α:Type}{f:α->Option α}{e:Option α}:∀{pre post:List α}{x:α},Ch f (pre++x::post) e->f x=(match post with|[]=>e|y::_=>some y)
 |[],[],x,h=>h
 |[],y::post,x,h=>h.1
 |[a],post,x,h=>Ch.at (pre:=[]) h.2
 |a::b::pre,post,x,h=>Ch.at (pre:=b::pre) h.2
theorem Ch.map{α β:Type}{f:α->Option α}{F:β->Option β}{g:α->β}{e:Option β}:∀{l:List α},Ch f l none->(∀x y,f x=some y->F (g x)=some (g y))->(∀x,f x=none->x∈l->F (g x)=e)->Ch F (l.map g) e
 |[],_,_,_=>trivial
 |[x],h,_,h2=>h2 x h (List.mem_singleton.2 rfl)
 |x::y::l,h,h1,h2=>⟨h1 x y h.1,Ch.map (l:=y::l) h.2 h1 fun z hz hm=>h2 z hz (List.mem_cons_of_mem _ hm)⟩
theorem qF(b:Nat):∀(vs:List Value)(i o:Nat)(w:World),(World.setCells w b (o+i) vs).heap=(vs.zipIdx i).foldl (fun h p=>Mx.cL h ((⟨b,o,none⟩:Addr).add p.2) p.1) w.heap/\cN w (World.setCells w b (o+i) vs)
 |[],i,o,w=>⟨rfl,cN.refl _⟩
 |v::vs,i,o,w=>by
  rw[World.setCells,List.zipIdx_cons,List.foldl_cons,gz]
  obtain⟨a,b'⟩:=qF b vs (i+1) o (w.setCell ⟨b,o+i,none⟩ v)
  rw[show o+i+1=o+(i+1) by omega,a]
  exact⟨rfl,cN.trans (b:=w.setCell ⟨b,o+i,none⟩ v) ⟨rfl,rfl,rfl⟩ b'⟩
theorem Ow.aci{F:Nat->Prop}{e:TypeId}{s:Sl}{g o:Nat}(ha:s.a=some ⟨g,o,none⟩):∀(vs:List Value)(i:Nat){h:Heap}{cs:List Value},Ow h F e 1 s cs->i+vs.length<=s.n->
 Fr s.own h ((vs.zipIdx i).foldl (fun h p=>Mx.cL h ((⟨g,o,none⟩:Addr).add p.2) p.1) h)/\Ow ((vs.zipIdx i).foldl (fun h p=>Mx.cL h ((⟨g,o,none⟩:Addr).add p.2) p.1) h) F e 1 s (cs.take i++vs++cs.drop (i+vs.length))
 |[],i,h,cs,H,_=>⟨Fr.refl _ _,by simpa using H⟩
 |v::vs,i,h,cs,H,hl=>by
  simp only[List.length_cons]at hl
  simp only[List.zipIdx_cons,List.foldl_cons]
  have hc:=H.len
  have gH:((i:Nat):Int)<(s.n:Int):=by omega
  have h0':(0:Int)<=((i:Nat):Int):=by omega
  obtain⟨_,a2,a3⟩:=H.eX h0' gH v
  have ea:s.at (i:Int) 1=(⟨g,o,none⟩:Addr).add i:=by rw[at_one ha];rfl
  rw[ea]at a2 a3
  rw[show((i:Nat):Int).toNat=i from rfl]at a2
  obtain⟨b1,b2⟩:=Ow.aci ha vs (i+1) a2 (by omega)
  refine⟨a3.trans b1,?_⟩
  have eq1:(cs.set i v).take (i+1)++vs++(cs.set i v).drop (i+1+vs.length)=cs.take i++(v::vs)++cs.drop (i+(v::vs).length):=by
   have e1:(cs.set i v).take (i+1)=cs.take i++[v]:=by
    rw[List.take_succ_eq_append_getElem (by simp;omega),List.take_set_of_le (Nat.le_refl _)]
    simp
   have e2:(cs.set i v).drop (i+1+vs.length)=cs.drop (i+(v::vs).length):=by
    rw[List.drop_set_of_lt (by omega)]
    congr 1
    simp;omega
   rw[e1,e2]
   simp
  rw[<-eq1]
  exact b2
theorem Oy{h:Heap}{F:Nat->Prop}{s:Sl}{xs:List Int}(O:bM h F s xs){i:Nat}(hi:i<xs.length)(K:Value->Heap->Prop)(HK:∀t h',bM h' F t (xs.eraseIdx i)->Fr s.own h h'->(∀k,t.own k->s.own k)->K t.v h'):aE Tryz.prog 258 #[s.v,VI i,VI (i+1:Nat)] h K:=by
 have sn:s.n=xs.length:=by have:=O.len;simpa using this.symm
 rcases O.out with⟨_,hv⟩|⟨g,o,j8,ha,hF,hg,h1,h2,h3,h4⟩
 ·rw[List.map_eq_nil_iff]at hv
  rw[hv]at hi
  simp at hi
 have hsv:s.v= .slice (some ⟨g,o,none⟩) xs.length s.c:=by unfold Sl.v;rw[ha,<-sn]
 refine⟨fun w hw=> .inr ⟨258,_,w,Go.Proofs.enters_of Tryz.func258 (by kernel_rfl) rfl _ _,rfl,?_⟩⟩
 subst hw
 rw[hsv]
 refine(Tryz.slices_Delete_int_cells g o xs.length s.c i (i+1) xs w (Nat.le_refl _) (by omega) (by have:=h2;simp only[maxLen]at this;omega) (by omega) (by omega) (fun j hj=> ?_) (fun j hj=> ?_)).mono ?_
 ·have:=Ow.Cg O (i:=j) (by simpa using hj)
  rw[at_one ha]at this
  rw[Ca,<-qS,aN hj]
  simpa using this
 ·rw[K7]
  exact EG hg
 ·rintro e w' ⟨rfl,q,rfl⟩
  rw[List.take_of_length_le (Nat.le_refl _),show i+1-i=1 by omega]
  obtain⟨a1,a2⟩:=qF g ((xs.take i++xs.drop (i+1)++List.replicate 1 0).map (Value.int .i64)) 0 o (w.drewN q)
  rw[Nat.add_zero]at a1 a2
  have ell:(xs.take i++xs.drop (i+1)++List.replicate 1 (0:Int)).length=xs.length:=by simp;omega
  obtain⟨b1,b2⟩:=Ow.aci ha ((xs.take i++xs.drop (i+1)++List.replicate 1 (0:Int)).map (Value.int .i64)) 0 O (by rw[List.length_map,ell];omega)
  refine⟨_,rfl,cN.trans (b:=w.drewN q) ⟨rfl,rfl,rfl⟩ a2,?_⟩
  rw[a1]
  have b3:=Ow.cut b2 (l:=0) (m:=xs.length-1) (by omega) (by omega)
  have et:s.cut 1 0 (xs.length-1) s.c=⟨some ⟨g,o,none⟩,xs.length-1,s.c⟩:=by
   unfold Sl.cut
   rw[ha,if_neg (by omega)]
   rfl
  rw[et]at b3
  refine HK ⟨some ⟨g,o,none⟩,xs.length-1,s.c⟩ _ ?_ b1 fun k hk=>by unfold Sl.own at*;rw[ha];exact hk
  have ex:(((List.take 0 (xs.map VI)++(xs.take i++xs.drop (i+1)++List.replicate 1 (0:Int)).map (Value.int .i64)++List.drop (0+((xs.take i++xs.drop (i+1)++List.replicate 1 (0:Int)).map (Value.int .i64)).length) (xs.map VI)).drop (0*1)).take ((xs.length-1-0)*1))=(xs.eraseIdx i).map VI:=by
   rw[List.length_map,ell,List.drop_of_length_le (l:=xs.map VI) (by simp),List.append_nil,List.take_zero,List.nil_append,Nat.zero_mul,List.drop_zero,List.map_append,List.take_append_of_le_length (by simp;omega),List.take_of_length_le (by simp;omega),List.eraseIdx_eq_take_drop_succ]
  rw[ex]at b3
  exact b3
def bU(rows:List (List Int)):jS:=fun i j=>(rows.getD i []).getD j 0
theorem gD{rows:List (List Int)}{i j:Nat}(h1:i<rows.length)(h2:j<rows[i].length):bU rows i j=(rows[i])[j]:=by unfold bU;rw[aR h1,aN h2]
theorem Oz{rows:List (List Int)}{i j:Nat}{v:Int}(h1:i<rows.length)(h2:j<rows[i].length)(a b:Nat):bU (rows.set i (rows[i].set j v)) a b=if a=i/\b=j then v else bU rows a b:=by
 unfold bU
 rw[List.getD_eq_getElem?_getD (l:=rows.set i _),List.getElem?_set]
 by_cases ha:i=a
 ·subst ha
  rw[if_pos rfl,if_pos h1,Option.getD_some,aR h1,List.getD_eq_getElem?_getD,List.getElem?_set]
  by_cases hb:j=b
  ·subst hb;rw[if_pos rfl,if_pos h2,if_pos ⟨rfl,rfl⟩];rfl
  ·rw[if_neg hb,if_neg fun h=>hb h.2.symm,List.getD_eq_getElem?_getD]
 ·rw[if_neg ha,if_neg fun h=>ha h.1.symm]
  simp[List.getD_eq_getElem?_getD]
structure Sq(n:Nat)(rows:List (List Int)):Prop where
 len:rows.length=n
 row:∀i(h:i<rows.length),rows[i].length=n
theorem Sq.set{n:Nat}{rows:List (List Int)}(H:Sq n rows){i:Nat}(hi:i<rows.length)(l:List Int)(hl:l.length=n):Sq n (rows.set i l):=⟨by rw[List.length_set];exact H.len,fun a ha=>by
 rw[List.getElem_set]
 split
 ·exact hl
 ·exact H.row a (by rw[List.length_set]at ha;exact ha)⟩
def Si(rows:List (List Int))(i j:Nat):List (List Int):=(rows.set i (rows.getD j [])).set j (rows.getD i [])
theorem Kw{rows:List (List Int)}{i j:Nat}(hi:i<rows.length)(hj:j<rows.length)(a:Nat):(Si rows i j).getD a []=rows.getD (fC i j a) []:=by
 unfold Si fC
 rw[List.getD_eq_getElem?_getD,List.getElem?_set,List.length_set,List.getElem?_set]
 by_cases h1:a=i
 ·subst h1
  rw[if_pos rfl]
  by_cases h2:j=a
  ·subst h2;rw[if_pos rfl,if_pos hj];simp
  ·rw[if_neg h2,if_pos rfl,if_pos hi];rfl
 ·rw[if_neg h1]
  by_cases h2:a=j
  ·subst h2;rw[if_pos rfl,if_pos hj,if_pos rfl];rfl
  ·rw[if_neg h2,if_neg fun e=>h2 e.symm,if_neg fun e=>h1 e.symm,List.getD_eq_getElem?_getD]
theorem Kx{rows:List (List Int)}{i j:Nat}(hi:i<rows.length)(hj:j<rows.length):bU (Si rows i j)=fun a=>bU rows (fC i j a):=by
 funext a b
 unfold bU
 rw[Kw hi hj]
theorem WC{n:Nat}{rows:List (List Int)}(H:Sq n rows){i j:Nat}(hi:i<rows.length)(hj:j<rows.length):Sq n (Si rows i j):=by
 unfold Si
 refine(H.set hi _ ?_).set (by rw[List.length_set];exact hj) _ ?_
 ·rw[aR hj];exact H.row j hj
 ·rw[aR hi];exact H.row i hi
theorem dI.swap{h:Heap}{F:Nat->Prop}{eo ei:TypeId}{s:Sl}{aD:List (List Int)}(H:dI h F eo ei s aD){i j:Int}(i0:0<=i)(i1:i<(aD.length:Int))(j0:0<=j)(j1:j<(aD.length:Int))(eA:i≠j):
 ∃si sj:Sl,aS h (s.at i 1)=some si.v/\aS h (s.at j 1)=some sj.v/\dS s i/\dS s j/\dU h (s.at i 1)/\dU (cL h (s.at i 1) sj.v) (s.at j 1)/\
  dI (cL (cL h (s.at i 1) sj.v) (s.at j 1) si.v) F eo ei s (Si aD i.toNat j.toNat)/\Fr s.own h (cL (cL h (s.at i 1) sj.v) (s.at j 1) si.v)/\Fr s.own h (cL h (s.at i 1) sj.v):=by
 have hlen:=H.len
 obtain⟨ss,e1,h2,h3,h4,h5⟩:=H.out
 have hi:i.toNat<ss.length:=by omega
 have hj:j.toNat<ss.length:=by omega
 have ci:=h2.Cg (i:=i.toNat) (by simpa using hi)
 have cj:=h2.Cg (i:=j.toNat) (by simpa using hj)
 rw[show((i.toNat:Nat):Int)=i by omega,List.getElem_map]at ci
 rw[show((j.toNat:Nat):Int)=j by omega,List.getElem_map]at cj
 obtain⟨w1,o1,f1⟩:=h2.eX (i:=i) i0 (by omega) ss[j.toNat].v
 obtain⟨w2,o2,f2⟩:=o1.eX (i:=j) j0 (by omega) ss[i.toNat].v
 refine⟨ss[i.toNat],ss[j.toNat],ci,cj,h2.bB i0 (by omega),h2.bB j0 (by omega),w1,w2,?_,f1.trans f2,f1⟩
 have f:=f1.trans f2
 have es:((ss.map Sl.v).set i.toNat ss[j.toNat].v).set j.toNat ss[i.toNat].v=((ss.set i.toNat ss[j.toNat]).set j.toNat ss[i.toNat]).map Sl.v:=by rw[List.map_set,List.map_set]
 rw[es]at o2
 have eg:∀a(ha:a<((ss.set i.toNat ss[j.toNat]).set j.toNat ss[i.toNat]).length),∃hb:fC i.toNat j.toNat a<ss.length,((ss.set i.toNat ss[j.toNat]).set j.toNat ss[i.toNat])[a]=ss[fC i.toNat j.toNat a]:=fun a ha=>by
  rw[List.length_set,List.length_set]at ha
  have hb:fC i.toNat j.toNat a<ss.length:=by unfold fC;split<;>(try split)<;>omega
  refine⟨hb,?_⟩
  rw[List.getElem_set]
  by_cases h1:j.toNat=a
  ·rw[if_pos h1]
   congr 1
   unfold fC
   rw[if_neg (by omega),if_pos h1.symm]
  ·rw[if_neg h1,List.getElem_set]
   by_cases h2:i.toNat=a
   ·rw[if_pos h2]
    congr 1
    unfold fC
    rw[if_pos h2.symm]
   ·rw[if_neg h2]
    congr 1
    unfold fC
    rw[if_neg fun e=>h2 e.symm,if_neg fun e=>h1 e.symm]
 have inj:∀a b,a≠b->fC i.toNat j.toNat a≠fC i.toNat j.toNat b:=fun a b hab=>by
  unfold fC
  by_cases h1:a=i.toNat<;>by_cases h2:a=j.toNat<;>by_cases h3:b=i.toNat<;>by_cases h4:b=j.toNat<;>simp only[h1,h2,h3,h4,if_true,if_false]<;>(repeat' split)<;>omega
 refine⟨(ss.set i.toNat ss[j.toNat]).set j.toNat ss[i.toNat],?_,o2,fun a ha hb=> ?_,fun a b ha hb hab k=> ?_,fun a ha k hk=> ?_⟩
 ·unfold Si
  simp only[List.length_set]
  exact e1
 ·obtain⟨hc,e⟩:=eg a ha
  rw[e]
  have ex:(Si aD i.toNat j.toNat)[a]=aD[fC i.toNat j.toNat a]'(by omega):=by
   have:=Kw (rows:=aD) (i:=i.toNat) (j:=j.toNat) (by omega) (by omega) a
   rw[aR hb,aR (by omega)]at this
   exact this
  rw[ex]
  exact(h3 _ hc (by omega)).fr f fun k hk hs=>h5 _ hc k hs hk
 ·obtain⟨hc,e⟩:=eg a ha
  obtain⟨hd,e'⟩:=eg b hb
  rw[e,e']
  exact h4 _ _ hc hd (inj a b hab) k
 ·obtain⟨hc,e⟩:=eg a ha
  rw[e]
  exact h5 _ hc k hk
theorem ui{x:Int}{b:Nat}(h:x.natAbs<=b): -(b:Int)<=x/\x<=b:=by omega
theorem Ky{x y:Int}{b:Nat}(h:x.natAbs<=b)(h':y.natAbs<=b):(x*y).natAbs<=b*b:=by rw[Int.natAbs_mul];exact Nat.mul_le_mul h h'
theorem ajp:Hb 6=720000000:=rfl
theorem WD:Hb 7=50400000000:=rfl
def vR(R:jS)(k:Nat)(last:Int)(i j:Nat):Int:=(R i j*R k k-R i k*R k j).tdiv last
theorem Sj{n k:Nat}{last:Int}{O R:jS}(H:sK n k last O fun i j=>R (k+i) (k+j))(hO:Small n O)(hn:n<=7)(hl:last≠0){i j:Nat}(hi:k<i)(gH:i<n)(hj:k<j)(Fv:j<n):
 aL ((aL (aL (R i j*R k k)-aL (R i k*R k j))).tdiv last)=vR R k last i j:=by
 have b:∀a b,a<n->k<=a->b<n->k<=b->(R a b).natAbs<=720000000:=fun a b h1 h2 h3 h4=>by
  have:=H.acg hO (i:=a-k) (j:=b-k) (by omega) (by omega)
  (try simp only at this)
  rw[show k+(a-k)=a by omega,show k+(b-k)=b by omega]at this
  exact Nat.le_trans this (Nat.le_trans (ye (show k+1<=6 by omega)) (by rw[ajp];exact Nat.le_refl _))
 have b1:=ui (Ky (b i j gH (by omega) Fv (by omega)) (b k k (by omega) (by omega) (by omega) (by omega)))
 have b2:=ui (Ky (b i k gH (by omega) (by omega) (by omega)) (b k j (by omega) (by omega) Fv (by omega)))
 rw[aH (R i j*R k k) (by omega) (by omega),aH (R i k*R k j) (by omega) (by omega),aH (R i j*R k k-R i k*R k j) (by omega) (by omega)]
 obtain⟨q,hq⟩:=H.exact (i:=i-k-1) (j:=j-k-1) (by omega) (by omega)
 have eq:R i j*R k k-R i k*R k j=last*q:=by
  rw[<-hq]
  unfold CO
  (try simp only)
  rw[show k+(i-k-1+1)=i by omega,show k+(j-k-1+1)=j by omega,show k+0=k by omega,Int.mul_comm (R k k)]
 unfold vR
 have gO:q.natAbs<=(last*q).natAbs:=by
  rw[Int.natAbs_mul]
  exact Nat.le_mul_of_pos_left _ (by omega)
 rw[Ka eq hl]
 rw[<-eq]at gO
 exact aH _ (by omega) (by omega)
theorem OA{n k:Nat}{last:Int}{O R R':jS}(H:sK n k last O fun i j=>R (k+i) (k+j))(hl:last≠0)(hk:R k k≠0)(hR:∀i j,k<i->i<n->k<j->j<n->R' i j=vR R k last i j):sK n (k+1) (R k k) O fun i j=>R' (k+1+i) (k+1+j):=by
 have:=sK.step (A':=fun i j=>R' (k+1+i) (k+1+j)) H hl hk fun i j hi hj=>by
  (try simp only)
  rw[hR _ _ (by omega) (by omega) (by omega) (by omega)]
  unfold vR CO
  (try simp only)
  rw[show k+(i+1)=k+1+i by omega,show k+(j+1)=k+1+j by omega,show k+0=k by omega,Int.mul_comm (R k k)]
 exact this
def PM(s:Int):Prop:=s=1\/s= -1
theorem PM.neg_eq{s:Int}(h:PM s):aL (0-s)= -s:=by rcases h with rfl|rfl<;>rfl
theorem PM.neg{s:Int}(h:PM s):PM (aL (0-s)):=by rcases h with rfl|rfl;exact .inr rfl;exact .inl rfl
theorem Sk{F:Nat->Prop}{gQ:Heap}{a:Sl}{rt:List (List Int)}{n:Nat}{k i j last:Int}{R O:jS}(NR:fQ gQ F a rt)(WE:Sq n rt)(S:Small n O)(hn:n<=7)(hl:last≠0)(B:sK n k.toNat last O fun i j=>R (k.toNat+i) (k.toNat+j))(k0:0<=k)(ki:k<i)(hi:i<(n:Int))(kj:k<j)(hj:j<(n:Int))
 (UL:∀i' j',i'<n->j'<n->bU rt i' j'=if k.toNat<i'/\k.toNat<j'/\(i'<i.toNat\/i'=i.toNat/\j'<j.toNat)then vR R k.toNat last i' j' else R i' j') (C:Heap->Prop)
 (HC:∀qE rs,fQ qE F a rs->Sq n rs->(∀i' j',i'<n->j'<n->bU rs i' j'=if k.toNat<i'/\k.toNat<j'/\(i'<i.toNat\/i'=i.toNat/\j'<j.toNat+1)then vR R k.toNat last i' j' else R i' j')->Fr F gQ qE->C qE):
 dS a i/\∃t87:Sl,aS gQ (Sl.at a i 1)=some t87.v/\dS a i/\∃t92:Sl,aS gQ (Sl.at a i 1)=some t92.v/\dS t92 j/\∃t95:Int,aS gQ (Sl.at t92 j 1)=some (VI t95)/\dS a k/\∃t99:Sl,aS gQ (Sl.at a k 1)=some t99.v/\dS t99 k/\∃t102:Int,aS gQ (Sl.at t99 k 1)=some (VI t102)/\dS a i/\∃t107:Sl,aS gQ (Sl.at a i 1)=some t107.v/\dS t107 k/\∃t110:Int,aS gQ (Sl.at t107 k 1)=some (VI t110)/\dS a k/\∃t114:Sl,aS gQ (Sl.at a k 1)=some t114.v/\dS t114 j/\∃t117:Int,aS gQ (Sl.at t114 j 1)=some (VI t117)/\last≠0/\
  dS t87 j/\dU gQ (Sl.at t87 j 1)/\Vars (cL gQ (Sl.at t87 j 1) (VI (aL (Int.tdiv (aL ((aL (t95*t102))-(aL (t110*t117)))) last)))) []/\∀qE:Heap,qE=cL gQ (Sl.at t87 j 1) (VI (aL (Int.tdiv (aL ((aL (t95*t102))-(aL (t110*t117)))) last)))->Vars qE []->C qE:=by
 have ao7:=WE.len
 have R12:=dI.rd NR
 have i0:0<=i:=by omega
 have j0:0<=j:=by omega
 have ir:i<(rt.length:Int):=by omega
 have kr:k<(rt.length:Int):=by omega
 obtain⟨si,ci,oi,wx⟩:=dI.inner NR i0 ir
 have JF:i.toNat<rt.length:=by omega
 have C7:k.toNat<rt.length:=by omega
 have wB:i.toNat<n:=by omega
 have aI:k.toNat<n:=by omega
 have H8:j.toNat<n:=by omega
 have lri:=WE.row i.toNat JF
 have lrk:=WE.row k.toNat C7
 have ri:aP F gQ si (rt[i.toNat]' JF):=oi.eQ
 obtain⟨sk,ck,rk⟩:=R12.get k0 kr
 have ij1:j.toNat<(rt[i.toNat]' JF).length:=by omega
 have ik1:k.toNat<(rt[i.toNat]' JF).length:=by omega
 have kj1:j.toNat<(rt[k.toNat]' C7).length:=by omega
 have kk1:k.toNat<(rt[k.toNat]' C7).length:=by omega
 have v1:(rt[i.toNat]' JF)[j.toNat]'ij1=R i.toNat j.toNat:=by rw[<-gD JF ij1,UL _ _ wB H8,if_neg (by omega)]
 have v2:(rt[k.toNat]' C7)[k.toNat]'kk1=R k.toNat k.toNat:=by rw[<-gD C7 kk1,UL _ _ aI aI,if_neg (by omega)]
 have v3:(rt[i.toNat]' JF)[k.toNat]'ik1=R i.toNat k.toNat:=by rw[<-gD JF ik1,UL _ _ wB aI,if_neg (by omega)]
 have v4:(rt[k.toNat]' C7)[j.toNat]'kj1=R k.toNat j.toNat:=by rw[<-gD C7 kj1,UL _ _ aI H8,if_neg (by omega)]
 have rin:=aP.len ri
 have rkn:=aP.len rk
 have b1:j<((rt[i.toNat]' JF).length:Int):=by omega
 have b2:k<((rt[i.toNat]' JF).length:Int):=by omega
 have b3:j<((rt[k.toNat]' C7).length:Int):=by omega
 have b4:k<((rt[k.toNat]' C7).length:Int):=by omega
 obtain⟨wr,os,fs⟩:=Ow.eX oi j0 (show j<(si.n:Int) by omega) (VI (vR R k.toNat last i.toNat j.toNat))
 have es:=Sj B S hn hl (i:=i.toNat) (j:=j.toNat) (by omega) wB (by omega) H8
 refine⟨R12.bB i0 ir,si,ci,R12.bB i0 ir,si,ci,ri.bB j0 b1,_,ri.get j0 b1,R12.bB k0 kr,sk,ck,rk.bB k0 b4,_,rk.get k0 b4,R12.bB i0 ir,si,ci,ri.bB k0 b2,_,ri.get k0 b2,R12.bB k0 kr,sk,ck,rk.bB j0 b3,_,rk.get j0 b3,hl,ri.bB j0 b1,wr,.nil,?_⟩
 simp only[v1,v2,v3,v4,es]
 rintro qE rfl _
 have os':bM (cL gQ (si.at j 1) (VI (vR R k.toNat last i.toNat j.toNat))) F si ((rt[i.toNat]' JF).set j.toNat (vR R k.toNat last i.toNat j.toNat)):=by
  show Ow _ _ _ _ _ _
  rw[List.map_set]
  exact os
 refine HC _ _ (wx _ _ fs os') (WE.set JF _ (by rw[List.length_set];exact lri)) (fun i' j' h1 h2=> ?_) (fs.mono fun q _ hq=>(Ow.aG oi hq).1)
 rw[Oz JF ij1,UL i' j' h1 h2]
 by_cases hc:i'=i.toNat/\j'=j.toNat
 ·rw[if_pos hc,hc.1,hc.2,if_pos (by omega)]
 ·rw[if_neg hc]
  by_cases hd:k.toNat<i'/\k.toNat<j'/\(i'<i.toNat\/i'=i.toNat/\j'<j.toNat)
  ·rw[if_pos hd,if_pos (by omega)]
  ·rw[if_neg hd,if_neg (by omega)]
theorem Sm{F:Nat->Prop}{dV:Heap}{s a:Sl}{rows:List (List Int)}{n:Nat}{k last:Int}{O:jS}(mU:fQ dV F a rows)(Q10:Sq n rows)(S:Small n O)(hn:n<=7)(hl:last≠0)(B:sK n k.toNat last O fun i j=>bU rows (k.toNat+i) (k.toNat+j))(k0:0<=k)(hk:k<(n:Int))(sn:s.n=n)(C:Int->Heap->Prop)
 (HC:∀gP rs,fQ gP F a rs->Sq n rs->(∀i' j',i'<n->j'<n->bU rs i' j'=if k.toNat<i'/\k.toNat<j' then vR (bU rows) k.toNat last i' j' else bU rows i' j')->Fr F dV gP->C (bU rows k.toNat k.toNat) gP):
 ∃OB:Nat->Int->Heap->Prop,(∃n0:Nat,OB n0 (k+1) dV)/\∀(n_4:Nat)(i:Int)(gP:Heap),OB n_4 i gP->Vars gP []->
  ((decide (i<(s.n:Int)))=true->∃WG:Nat->Int->Heap->Prop,(∃n0:Nat,WG n0 (k+1) gP)/\∀(n_5:Nat)(j:Int)(gQ:Heap),WG n_5 j gQ->Vars gQ []->
    ((decide (j<(s.n:Int)))=true->dS a i/\∃t87:Sl,aS gQ (Sl.at a i 1)=some t87.v/\dS a i/\∃t92:Sl,aS gQ (Sl.at a i 1)=some t92.v/\dS t92 j/\∃t95:Int,aS gQ (Sl.at t92 j 1)=some (VI t95)/\dS a k/\∃t99:Sl,aS gQ (Sl.at a k 1)=some t99.v/\dS t99 k/\∃t102:Int,aS gQ (Sl.at t99 k 1)=some (VI t102)/\dS a i/\∃t107:Sl,aS gQ (Sl.at a i 1)=some t107.v/\dS t107 k/\∃t110:Int,aS gQ (Sl.at t107 k 1)=some (VI t110)/\dS a k/\∃t114:Sl,aS gQ (Sl.at a k 1)=some t114.v/\dS t114 j/\∃t117:Int,aS gQ (Sl.at t114 j 1)=some (VI t117)/\last≠0/\
      dS t87 j/\dU gQ (Sl.at t87 j 1)/\Vars (cL gQ (Sl.at t87 j 1) (VI (aL (Int.tdiv (aL ((aL (t95*t102))-(aL (t110*t117)))) last)))) []/\∀qE:Heap,qE=cL gQ (Sl.at t87 j 1) (VI (aL (Int.tdiv (aL ((aL (t95*t102))-(aL (t110*t117)))) last)))->Vars qE []->∃m:Nat,m<n_5/\WG m (aL (j+1)) qE)/\
    ((decide (j<(s.n:Int)))=false->∃m:Nat,m<n_4/\OB m (aL (i+1)) gQ))/\
  ((decide (i<(s.n:Int)))=false->dS a k/\∃t126:Sl,aS gP (Sl.at a k 1)=some t126.v/\dS t126 k/\∃t129:Int,aS gP (Sl.at t126 k 1)=some (VI t129)/\C t129 gP):=by
 refine⟨fun m4 i h'=>k<i/\i+m4=(n:Int)/\(∃rs,fQ h' F a rs/\Sq n rs/\∀i' j',i'<n->j'<n->bU rs i' j'=if k.toNat<i'/\k.toNat<j'/\i'<i.toNat then vR (bU rows) k.toNat last i' j' else bU rows i' j')/\Fr F dV h',⟨n-(k.toNat+1),by omega,by omega,⟨rows,mU,Q10,fun i' j' _ _=>by rw[if_neg (by omega)]⟩,Fr.refl _ _⟩,?_⟩
 rintro m4 i gP ⟨i0',i1',⟨rs,lU,Q11,R5⟩,f11⟩ iC
 have apc:=Q11.len
 refine⟨fun e7=> ?_,fun e7=> ?_⟩
 ·simp only[decide_eq_true_eq]at e7
  have hi7:i<(n:Int):=by omega
  refine⟨fun m5 j h'=>k<j/\j+m5=(n:Int)/\(∃rs,fQ h' F a rs/\Sq n rs/\∀i' j',i'<n->j'<n->bU rs i' j'=if k.toNat<i'/\k.toNat<j'/\(i'<i.toNat\/i'=i.toNat/\j'<j.toNat)then vR (bU rows) k.toNat last i' j' else bU rows i' j')/\Fr F dV h',⟨n-(k.toNat+1),by omega,by omega,⟨rs,lU,Q11,fun i' j' h1 h2=> ?_⟩,f11⟩,?_⟩
  ·rw[R5 i' j' h1 h2]
   by_cases hc:k.toNat<i'/\k.toNat<j'/\i'<i.toNat
   ·rw[if_pos hc,if_pos ⟨hc.1,hc.2.1,.inl hc.2.2⟩]
   ·rw[if_neg hc,if_neg (by omega)]
  rintro m5 j gQ ⟨j0',j1',⟨rt,NR,WE,UL⟩,f12⟩ qk
  refine⟨fun e8=> ?_,fun e8=> ?_⟩
  ·simp only[decide_eq_true_eq]at e8
   have hj8:j<(n:Int):=by omega
   refine Sk NR WE S hn hl B k0 i0' hi7 j0' hj8 UL _ fun qE sQ LV Q13 ajr f13=> ?_
   have jw:aL (j+1)=j+1:=aH _ (by omega) (by omega)
   rw[jw]
   exact⟨m5-1,by omega,by omega,by omega,⟨sQ,LV,Q13,by rw[show(j+1).toNat=j.toNat+1 by omega];exact ajr⟩,f12.trans f13⟩
  ·simp only[decide_eq_false_iff_not]at e8
   have hj8:j=(n:Int):=by omega
   have iw:aL (i+1)=i+1:=aH _ (by omega) (by omega)
   rw[iw]
   refine⟨m4-1,by omega,by omega,by omega,⟨rt,NR,WE,fun i' j' h1 h2=> ?_⟩,f12⟩
   rw[UL i' j' h1 h2,show(i+1).toNat=i.toNat+1 by omega]
   by_cases hd:k.toNat<i'/\k.toNat<j'/\(i'<i.toNat\/i'=i.toNat/\j'<j.toNat)
   ·rw[if_pos hd,if_pos (by omega)]
   ·rw[if_neg hd,if_neg (by omega)]
 ·simp only[decide_eq_false_iff_not]at e7
  have hi7:i=(n:Int):=by omega
  have Sn:=dI.rd lU
  have kr:k<(rs.length:Int):=by omega
  have C7:k.toNat<rs.length:=by omega
  have aI:k.toNat<n:=by omega
  obtain⟨sk,ck,rk⟩:=Sn.get k0 kr
  have lrk:=Q11.row k.toNat C7
  have kk1:k.toNat<(rs[k.toNat]' C7).length:=by omega
  have v2:(rs[k.toNat]' C7)[k.toNat]'kk1=bU rows k.toNat k.toNat:=by rw[<-gD C7 kk1,R5 _ _ aI aI,if_neg (by omega)]
  refine⟨Sn.bB k0 kr,sk,ck,rk.bB k0 (by omega),_,rk.get k0 (by omega),?_⟩
  rw[v2]
  refine HC gP rs lU Q11 (fun i' j' h1 h2=> ?_) f11
  rw[R5 i' j' h1 h2]
  by_cases hd:k.toNat<i'/\k.toNat<j'/\i'<i.toNat
  ·rw[if_pos hd,if_pos ⟨hd.1,hd.2.1⟩]
  ·rw[if_neg hd,if_neg (by omega)]
set_option maxHeartbeats 4000000 in
theorem lX{S:Nat->Prop}{h:Heap}{s:Sl}{aD:List (List Int)}(M:bL S h s aD)(Q:Sq aD.length aD)(hn:aD.length<=7)(hb:Small aD.length (bU aD)):qR Tryz.prog 212 #[s.v] h (VI (cK aD.length (bU aD))):=by
 intro K HK
 have sn:=M.len
 refine v212 s h K ?_
 have vy:∀{x:Heap},Fr (fun k=>h.size<=k) h x->Fr No h x:=fun f=>f.mono fun k hk aI=>absurd aI (by omega)
 refine aQ qg (fun k=>h.size<=k) (fun _ h=>h) 0 (by omega) [] rfl rfl fun a0 h1 n1 c1 o1 f1 m1 _=>⟨a0,rfl,.nil,?_⟩
 have z1:=f1.size
 have RF:fQ h1 (fun k=>h.size<=k) a0 []:=⟨[],rfl,o1,fun i h1=>by simp at h1,fun i j h1=>by simp at h1,fun i h1=>by simp at h1⟩
 refine⟨fun m a i h'=>0<=i/\i+m=(aD.length:Int)/\fQ h' (fun k=>h.size<=k) a (aD.take i.toNat)/\Fr (fun k=>h.size<=k) h h',⟨aD.length,Int.le_refl _,by omega,RF,f1.aB⟩,?_⟩
 rintro m a i h2 ⟨i0,i1,o2,f2⟩ bW
 have M2:=M.no (vy f2)
 refine⟨fun e=> ?_,fun e=> ?_⟩
 ·have hi:=M.lt e
  obtain⟨si,ci,ri⟩:=M2.get i0 hi
  have rl:=Q.row i.toNat (by omega)
  refine⟨M2.bB i0 hi,si,ci,wu ri (by omega) _ fun t h3 o3 f3=>⟨t,rfl,.nil,?_⟩⟩
  have z3:=f3.size
  refine jM (lo:=h.size) (m:=h2.size) (dI.ga o2|>.no f3) (o3.mono fun k _ hk=>hk.1) f2.size z3 .nil (fun p hp=>by simp at hp) (by rw[List.length_take];omega) _ fun t2 h5 o5 f5 V5=> ?_
  rw[M.succ i0 hi]
  refine⟨m-1,by omega,by omega,by omega,?_,(f2.trans f3.aB).trans f5⟩
  rw[dY _ i0 hi]
  exact o5
 ·have hi:=M.ge e
  rw[List.take_of_length_le (by omega)]at o2
  generalize hN:aD.length=n at*
  refine⟨fun m sg last k h'=>0<=k/\k+m=(n:Int)/\(∃rows O,fQ h' (fun q=>h.size<=q) a rows/\Sq n rows/\Small n O/\PM sg/\sg*cK n O=cK n (bU aD)/\last≠0/\sK n k.toNat last O (fun i j=>bU rows (k.toNat+i) (k.toNat+j))/\(k=(n:Int)->last=cK n O))/\Fr (fun q=>h.size<=q) h h',⟨n,Int.le_refl _,by omega,⟨aD,bU aD,o2,Q,hb,.inl rfl,by rw[Int.one_mul],by omega,?_,?_⟩,f2⟩,?_⟩
  ·have:=sK.start n (bU aD)
   simpa using this
  ·intro h0
   rw[show n=0 by omega]
   rfl
  rintro m2 sg last k h6 ⟨k0,k1,⟨rows,O,o6,Q6,S6,hsg,OC,hl,B6,pq⟩,f6⟩ iY
  have ln:=Q6.len
  refine⟨fun e2=> ?_,fun e2=> ?_⟩
  ·have hk:k<(n:Int):=by have:=M.lt e2;omega
   refine⟨fun m3 p h'=>h'=h6/\k<=p/\p+m3=(n:Int)/\∀q:Nat,k.toNat<=q->q<p.toNat->bU rows q k.toNat=0,⟨(n-k.toNat),rfl,Int.le_refl _,by omega,fun q h1 h2=>by omega⟩,?_⟩
   rintro m3 p h7 ⟨rfl,p0,p1,hz⟩ jC
   have R7:=dI.rd o6
   have none_:p=(n:Int)->K (VI 0) h7:=fun ep=>by
    have:=B6.none (by omega) hl fun i hi=>by
     (try simp only)
     rw[Nat.add_zero]
     exact hz _ (by omega) (by omega)
    rw[this,Int.mul_zero]at OC
    rw[<-OC]at HK
    exact HK h7 (vy f6)
   refine⟨fun e3=> ?_,fun e3=> ?_⟩
   ·have hp:p<(n:Int):=by have:=M.lt e3;omega
    obtain⟨sp,cp,rp⟩:=R7.get (i:=p) (by omega) (by omega)
    have lp:=Q6.row p.toNat (by omega)
    have ep:bU rows p.toNat k.toNat=(rows[p.toNat]'(by omega))[k.toNat]'(by omega):=gD (by omega) (by omega)
    refine⟨R7.bB (by omega) (by omega),sp,cp,rp.bB k0 (by omega),_,rp.get k0 (by omega),fun e4=> ?_,fun e4=>⟨fun e5=> ?_,fun e5=> ?_⟩⟩
    ·simp only[decide_eq_true_eq]at e4
     refine⟨m3-1,by omega,rfl,?_,?_,?_⟩
     ·rw[aH _ (by omega) (by omega)];omega
     ·rw[aH _ (by omega) (by omega)];omega
     ·intro q h1 h2
      rw[aH _ (by omega) (by omega)]at h2
      by_cases hq:q<p.toNat
      ·exact hz q h1 hq
      ·rw[show q=p.toNat by omega,ep];exact e4
    ·simp only[decide_eq_true_eq]at e5;omega
    ·simp only[decide_eq_false_iff_not]at e4
     refine⟨fun x h'=>PM x/\∃rows' O',fQ h' (fun q=>h.size<=q) a rows'/\Sq n rows'/\Small n O'/\x*cK n O'=cK n (bU aD)/\sK n k.toNat last O' (fun i j=>bU rows' (k.toNat+i) (k.toNat+j))/\bU rows' k.toNat k.toNat≠0/\Fr (fun q=>h.size<=q) h h',⟨fun e6=> ?_,fun e6=> ?_⟩,?_⟩
     ·simp only[Bool.not_eq_true',decide_eq_false_iff_not]at e6
      obtain⟨sk,sp',w1,w2,w3,w4,w5,w6,w7,w8,w9⟩:=dI.swap o6 (i:=p) (j:=k) (by omega) (by omega) k0 (by omega) e6
      refine⟨w4,sp',w2,w3,sk,w1,w3,w5,.nil,?_⟩
      rintro h8 rfl _
      refine⟨w4,w6,.nil,?_⟩
      rintro h9 rfl _
      refine⟨?_,Si rows p.toNat k.toNat,fun i=>O (fC k.toNat p.toNat i),w7,WC Q6 (by omega) (by omega),fun i j hi hj=>S6 _ _ (by unfold fC;split<;>(try split)<;>omega) hj,?_,?_,?_,f6.trans (dI.Rg o6 w8)⟩
      ·exact hsg.neg
      ·rw[Oe O (by omega) (by omega) (by omega),<-OC]
       rw[hsg.neg_eq,Int.neg_mul_neg]
      ·have:=B6.swap (p:=p.toNat-k.toNat) (by omega)
       rw[show k.toNat+(p.toNat-k.toNat)=p.toNat by omega]at this
       rw[Kx (by omega) (by omega)]
       refine cast (congrArg (sK n k.toNat last _) ?_) this
       funext i j
       (try simp only)
       congr 1
       unfold fC
       by_cases h1:i=0
       ·rw[if_pos h1,if_neg (by omega),if_pos (by omega)];omega
       ·rw[if_neg h1]
        by_cases h2:i=p.toNat-k.toNat
        ·rw[if_pos h2,if_pos (by omega)];rfl
        ·rw[if_neg h2,if_neg (by omega),if_neg (by omega)]
      ·rw[Kx (by omega) (by omega)]
       (try simp only)
       rw[show fC p.toNat k.toNat k.toNat=p.toNat by unfold fC;rw[if_neg (by omega),if_pos rfl],ep]
       exact e4
     ·simp only[Bool.not_eq_false',decide_eq_true_eq]at e6
      refine⟨hsg,rows,O,o6,Q6,S6,OC,B6,?_,f6⟩
      rw[<-ep,e6]at e4
      exact e4
     ·rintro x dV ⟨hx,rows',O',mU,Q10,S10,acm,B10,hkk,f10⟩ dN
      have ln':=Q10.len
      have k1w:aL (k+1)=k+1:=aH _ (by omega) (by omega)
      rw[k1w]
      refine Sm mU Q10 S10 hn hl B10 k0 hk sn (fun v h'=>∃m:Nat,m<m2/\0<=k+1/\k+1+m=(n:Int)/\(∃rows O,fQ h' (fun q=>h.size<=q) a rows/\Sq n rows/\Small n O/\PM x/\x*cK n O=cK n (bU aD)/\v≠0/\sK n (k+1).toNat v O (fun i j=>bU rows ((k+1).toNat+i) ((k+1).toNat+j))/\(k+1=(n:Int)->v=cK n O))/\Fr (fun q=>h.size<=q) h h') fun gP rs lU Q11 R5 f11=> ?_
      refine⟨m2-1,by omega,by omega,by omega,⟨rs,O',lU,Q11,S10,hx,acm,hkk,?_,?_⟩,f10.trans f11⟩
      ·rw[show(k+1).toNat=k.toNat+1 by omega]
       exact OA B10 hl hkk fun i' j' h1 h2 h3 h4=>by rw[R5 i' j' h2 h4,if_pos ⟨h1,h3⟩]
      ·intro C7
       have:=B10.last (by omega)
       (try simp only at this)
       rw[Nat.add_zero]at this
       exact this
   ·have hp:p=(n:Int):=by have:=M.ge e3;omega
    exact⟨fun _=>none_ hp,fun e5=>by simp only[decide_eq_false_iff_not]at e5;omega⟩
  ·have hk:k=(n:Int):=by have:=M.ge e2;omega
   have hd:sg*last=cK n (bU aD):=by rw[pq hk];exact OC
   have D0:=ui (Nat.le_trans (mD hb) (Nat.le_trans (ye hn) (show Hb 7<=50400000000 by rw[WD];exact Nat.le_refl _)))
   rw[hd,aH _ (by clear HK;omega) (by clear HK;omega)]
   exact HK h6 (vy f6)
end Go.Proofs.YtcnfcnoooecchaaGreatDoor
