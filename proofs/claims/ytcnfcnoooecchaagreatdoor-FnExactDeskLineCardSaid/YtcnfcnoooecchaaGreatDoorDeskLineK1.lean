import Derived.Test.YtcnfcnoooecchaaGreatDoorDeskLineK0
set_option linter.unusedVariables false
set_option linter.unusedSimpArgs false
namespace Go.Proofs.YtcnfcnoooecchaaGreatDoor
open Go Go.Mx
def GR(N:Int)(q:Nat)(aD:List (List Int)):Prop:=∀l,l∈aD->l.length<=q/\∀x,x∈l->0<=x/\x<N
theorem GR.nil(N:Int)(q:Nat):GR N q []:=fun l hl=>by cases hl
theorem GR.snoc{N:Int}{q:Nat}{aD:List (List Int)}{l:List Int}(H:GR N q aD)(h1:l.length<=q)(h2:∀x,x∈l->0<=x/\x<N):GR N q (aD++[l]):=fun y hy=>by
 rcases List.mem_append.1 hy with a|a
 ·exact H y a
 ·simp only[List.mem_cons,List.not_mem_nil,or_false]at a;rw[a];exact⟨h1,h2⟩
theorem GR.set{N:Int}{q:Nat}{aD:List (List Int)}{l:List Int}(H:GR N q aD)(i:Nat)(h1:l.length<=q)(h2:∀x,x∈l->0<=x/\x<N):GR N q (aD.set i l):=fun y hy=>by
 rcases List.mem_or_eq_of_mem_set hy with a|a
 ·exact H y a
 ·rw[a];exact⟨h1,h2⟩
theorem GR.up{N:Int}{q r:Nat}{aD:List (List Int)}(H:GR N q aD)(h:q<=r):GR N r aD:=fun l hl=>⟨Nat.le_trans (H l hl).1 h,(H l hl).2⟩
theorem GR.bE{q:Nat}{aD:List (List Int)}(H:GR aD.length q aD)(hq:q<=5)(h1:1<=aD.length)(h2:aD.length<=8):aM aD=true:=by
 rw[A9 (aZ.2 ⟨by omega,by omega⟩),List.all_eq_true]
 intro l hl
 have:=H l hl
 rw[Bool.and_eq_true,Bool.not_eq_true',decide_eq_false_iff_not,List.all_eq_true]
 exact⟨by omega,fun x hx=>aZ.2 (by have:=this.2 x hx;omega)⟩
theorem gq{L:List (Nat×List Value)}{F:Nat->Prop}{h:Heap}{s:Sl}{xs:List Int}{i:Int}{v:Int}(O:bK h F s xs)(h0:0<=i)(h1:i<(xs.length:Int))(hL:Vars h L)(tZ:∀p,p∈L->¬F p.1)(R:Heap->Prop)(HR:∀h',bK h' F s (xs.set i.toNat v)->Fr F h h'->Vars h' L->R h'):dW s i/\dI h (s.at i 1)/\Vars (cK h (s.at i 1) (VI v)) L/\∀h3,h3=cK h (s.at i 1) (VI v)->Vars h3 L->R h3:=by
 have on:=O.rd.len
 simp only[List.length_map,Nat.mul_one]at on
 obtain⟨w1,w2,w3⟩:=O.eH h0 (by omega) (VI v)
 have g:Fr F h _:=w3.mono fun k _ hk=>(O.aG hk).1
 have V:=hL.fr g tZ
 exact⟨O.rd.bB h0 (by simp;omega),w1,V,fun h3 e3 V3=>HR h3 (by rw[e3,bK,List.map_set];exact w2) (by rw[e3];exact g) V3⟩
theorem sK{L:List (Nat×List Value)}{F:Nat->Prop}{m:Nat}{h:Heap}{s x:Sl}{aD:List (List Int)}{ys:List Int}(O:fM h (fun k=>F k/\k<m) s aD)(X:bK h (fun k=>m<=k) x ys)(hF:∀k,m<=k->F k)(hm:m<=h.size)(hL:Vars h L)(tZ:∀p,p∈L->¬F p.1)(hb:aD.length<=1000000)(R:Sl->Heap->Prop)(HR:∀t h',fM h' F t (aD++[ys])->Fr F h h'->Vars h' L->R t h'):kE Tryz.prog (Instr.buildSlice nZ 1 #[(0,x.v)]) h fun rv h1=>∃t:Sl,rv=t.v/\Vars h1 L/\kE Tryz.prog (bR nZ nZ nZ s.v t.v) h1 fun Ia h2=>∃t2:Sl,Ia=t2.v/\Vars h2 L/\R t2 h2:=by
 refine aS qg (fun k=>h.size<=k) (fun _ h=>h) 1 (by omega) [x.v] rfl rfl fun t h1 n1 c1 o1 f1 m1 _=>⟨t,rfl,hL.aB f1,?_⟩
 have z1:=f1.size
 refine dD.snoc qg (dD.no O f1) (F':=F) (fun k _ hk=>hk.1) (fun k hk=>hF k (by omega)) ((Ow.no X f1).mono fun k _ hk=>hF k hk) (fun k hk aI=>by have:=(X.aG hk).1;have:=aI.2;omega) o1.rd (by omega) fun y h2 o2 f2=> ?_
 have g2:Fr F h1 h2:=f2.mono fun k _ hk=>hk.1
 have V2:Vars h2 L:=(hL.aB f1).fr g2 tZ
 exact⟨y,rfl,V2,HR y h2 o2 (f1.aB.trans g2) V2⟩
def inA(m:Nat)(xs:List Int):Prop:=∀y,y∈xs->0<=y/\y<(m:Int)
theorem inA.set{m:Nat}{xs:List Int}(H:inA m xs)(i:Nat){v:Int}(h0:0<=v)(h1:v<(m:Int)):inA m (xs.set i v):=fun y hy=>by
 rcases List.mem_or_eq_of_mem_set hy with h|h
 ·exact H y h
 ·subst h;exact⟨h0,h1⟩
theorem inA.get{m:Nat}{xs:List Int}(H:inA m xs){i:Nat}(hi:i<xs.length):0<=xs[i]/\xs[i]<(m:Int):=H _ (List.getElem_mem hi)
def fp(k j:Nat):Nat:=if j<k then j else j+1
def jV(k:Nat):Int:=if k%2=0 then 1 else-1
def bI(f:Nat->Int):Nat->Int
 |0=>0
 |n+1=>bI f n+f n
abbrev jS:=Nat->Nat->Int
def cM:Nat->jS->Int
 |0,_=>1
 |n+1,A=>bI (fun k=>jV k*A 0 k*cM n (fun i j=>A (i+1) (fp k j))) (n+1)
theorem kR(k:Nat):jV (k+1)= -jV k:=by
 unfold jV
 by_cases h:k%2=0
 ·rw[if_pos h,if_neg (by omega)]
 ·rw[if_neg h,if_pos (by omega)];rfl
theorem cC{f f':Nat->Int}:∀{n:Nat},(∀i,i<n->f i=f' i)->bI f n=bI f' n
 |0,_=>rfl
 |n+1,h=>by rw[bI,bI,cC fun i hi=>h i (by omega),h n (by omega)]
theorem mD(f f':Nat->Int):∀n,bI (fun i=>f i+f' i) n=bI f n+bI f' n
 |0=>rfl
 |n+1=>by rw[bI,bI,bI,mD f f' n];omega
theorem mE(c:Int)(f:Nat->Int):∀n,bI (fun i=>c*f i) n=c*bI f n
 |0=>by simp[bI]
 |n+1=>by rw[bI,bI,mE c f n,Int.mul_add]
theorem jn{f:Nat->Int}:∀{n:Nat},(∀i,i<n->f i=0)->bI f n=0
 |0,_=>rfl
 |n+1,h=>by rw[bI,jn fun i hi=>h i (by omega),h n (by omega)];rfl
theorem Bi(f:Nat->Nat->Int)(m:Nat):∀n,bI (fun i=>bI (fun j=>f i j) m) n=bI (fun j=>bI (fun i=>f i j) n) m
 |0=>by rw[bI];exact(jn fun i _=>rfl).symm
 |n+1=>by
  rw[bI,Bi f m n,<-mD]
  exact cC fun j _=>rfl
theorem mF(f:Nat->Int)(n:Nat):bI (fun i=> -f i) n= -bI f n:=by
 have:=mE (-1) f n
 rw[show(fun i=> -f i)=fun i=> -1*f i from funext fun i=>by omega,this];omega
theorem Fp(f:Nat->Int):∀{n k:Nat},k<=n->bI (fun l=>f (fp k l)) n+f k=bI f (n+1)
 |0,k,h=>by rw[show k=0 by omega];simp[bI]
 |n+1,k,h=>by
  by_cases e:k=n+1
  ·subst e
   show bI (fun l=>f (fp (n+1) l)) (n+1)+f (n+1)=bI f (n+1)+f (n+1)
   exact congrArg (·+f (n+1)) (show bI (fun l=>f (fp (n+1) l)) (n+1)=bI f (n+1)from cC fun i hi=>by(try simp only);unfold fp;rw[if_pos hi])
  ·have ih:=Fp f (n:=n) (k:=k) (by omega)
   rw[bI,bI,<-ih]
   have:fp k n=n+1:=by unfold fp;rw[if_neg (by omega)]
   rw[this]
   omega
theorem dF:∀{n:Nat}{A B:jS},(∀i j,i<n->j<n->A i j=B i j)->cM n A=cM n B
 |0,_,_,_=>rfl
 |n+1,A,B,h=>by
  rw[cM,cM]
  refine cC fun k hk=> ?_
  (try simp only)
  rw[h 0 k (by omega) hk,dF fun i j hi hj=>h (i+1) (fp k j) (by omega) (by unfold fp;split<;>omega)]
def dC(A:jS)(i:Nat)(X:Nat->Int):jS:=fun r=>if r=i then X else A r
theorem Bj(A:jS)(i:Nat):dC A i (A i)=A:=by
 funext r
 unfold dC
 split
 ·rename_i h;rw[h]
 ·rfl
theorem sL:∀{n i:Nat}(A:jS)(c:Int)(X Y:Nat->Int),i<n->cM n (dC A i fun j=>c*X j+Y j)=c*cM n (dC A i X)+cM n (dC A i Y)
 |n+1,0,A,c,X,Y,_=>by
  rw[cM,cM,cM,<-mE,<-mD]
  refine cC fun k hk=> ?_
  have e:∀Z:Nat->Int,(fun i j=>dC A 0 Z (i+1) (fp k j))=fun i j=>A (i+1) (fp k j):=fun Z=>by
   funext i j;unfold dC;rw[if_neg (by omega)]
  (try simp only)
  rw[e,e,e]
  unfold dC
  rw[if_pos rfl,if_pos rfl,if_pos rfl]
  generalize cM n (fun i j=>A (i+1) (fp k j))=d
  rw[Int.mul_add,Int.add_mul]
  congr 1
  rw[Int.mul_assoc,Int.mul_assoc,Int.mul_left_comm (jV k) c,Int.mul_assoc]
 |n+1,i+1,A,c,X,Y,h=>by
  rw[cM,cM,cM,<-mE,<-mD]
  refine cC fun k hk=> ?_
  have e:∀Z:Nat->Int,(fun r j=>dC A (i+1) Z (r+1) (fp k j))=dC (fun r j=>A (r+1) (fp k j)) i fun j=>Z (fp k j):=fun Z=>by
   funext r j
   unfold dC
   by_cases h:r=i
   ·rw[if_pos (by omega),if_pos h]
   ·rw[if_neg (by omega),if_neg h]
  have z:∀Z:Nat->Int,dC A (i+1) Z 0 k=A 0 k:=fun Z=>by unfold dC;rw[if_neg (by omega)]
  (try simp only)
  rw[e,e,e,z,z,z,sL (fun r j=>A (r+1) (fp k j)) c (fun j=>X (fp k j)) (fun j=>Y (fp k j)) (by omega),Int.mul_add,Int.mul_left_comm]
theorem nC{n i:Nat}(A:jS)(h:i<n):cM n (dC A i fun _=>0)=0:=by
 have:=sL A (-1) (fun _=>0) (fun _=>0) h
 have e:(fun j:Nat=>(-1:Int)*(fun _=>(0:Int)) j+(fun _=>(0:Int)) j)=fun _=>0:=by funext j;simp
 rw[e]at this
 omega
theorem Bk{n i:Nat}(A:jS)(c:Int)(X:Nat->Int)(h:i<n):cM n (dC A i fun j=>c*X j)=c*cM n (dC A i X):=by
 have:=sL A c X (fun _=>0) h
 rw[nC A h]at this
 have e:(fun j:Nat=>c*X j+(fun _=>(0:Int)) j)=fun j=>c*X j:=by funext j;simp
 rw[e]at this
 omega
def fC(i j r:Nat):Nat:=if r=i then j else if r=j then i else r
def CG(k m:Nat):Nat:=if m<k then m else m-1
def Af(n:Nat)(A:jS)(k m:Nat):Int:=cM n fun i j=>A (i+2) (fp k (fp (CG k m) j))
def Ie(n:Nat)(A:jS)(k m:Nat):Int:=if k=m then 0 else jV k*jV (CG k m)*A 0 k*A 1 m*Af n A k m
theorem Sk{k m:Nat}(h:k<m)(j:Nat):fp k (fp (m-1) j)=fp m (fp k j):=by
 unfold fp
 by_cases a:j<k
 ·rw[if_pos (show j<m-1 by omega),if_pos a,if_pos (show j<m by omega)]
 ·by_cases b:j<m-1
  ·rw[if_pos b,if_neg a,if_pos (show j+1<m by omega)]
  ·rw[if_neg b,if_neg a,if_neg (show¬j+1<k by omega),if_neg (show¬j+1<m by omega)]
theorem Bm{n:Nat}{A:jS}{k m:Nat}(h:k<m):Af n A k m=Af n A m k:=by
 unfold Af CG
 rw[if_neg (by omega),if_pos h]
 congr 1
 funext i j
 rw[Sk h]
theorem Kd(n:Nat)(A:jS):cM (n+2) A=bI (fun k=>bI (fun m=>Ie n A k m) (n+2)) (n+2):=by
 rw[cM]
 refine cC fun k hk=> ?_
 (try simp only)
 rw[cM,<-Fp (fun m=>Ie n A k m) (show k<=n+1 by omega)]
 have e0:Ie n A k k=0:=by unfold Ie;rw[if_pos rfl]
 rw[e0,Int.add_zero,<-mE]
 refine cC fun l hl=> ?_
 (try simp only)
 have eA:k≠fp k l:=by unfold fp;split<;>omega
 have ajr:CG k (fp k l)=l:=by
  unfold CG fp
  by_cases a:l<k
  ·simp only[if_pos a]
  ·simp only[if_neg a]
   rw[if_neg (by omega)]
   omega
 unfold Ie Af
 rw[if_neg eA,ajr,Nat.zero_add]
 generalize cM n _=d
 rw[Int.mul_assoc (jV k),Int.mul_assoc (jV l),Int.mul_assoc,Int.mul_assoc,Int.mul_assoc]
 rw[Int.mul_left_comm (A 0 k)]
theorem Ig(n:Nat)(A:jS):cM (n+2) (fun i=>A (fC 0 1 i))= -cM (n+2) A:=by
 rw[Kd,Kd,Bi (fun k m=>Ie n A k m),<-mF]
 refine cC fun k hk=> ?_
 (try simp only)
 rw[<-mF]
 refine cC fun m hm=> ?_
 (try simp only)
 have hN:Af n (fun i=>A (fC 0 1 i)) k m=Af n A k m:=by
  unfold Af
  congr 1
 unfold Ie
 by_cases e:k=m
 ·rw[if_pos e,if_pos e.symm];rfl
 ·rw[if_neg e,if_neg fun h=>e h.symm,hN]
  have r0:A (fC 0 1 0) k=A 1 k:=rfl
  have r1:A (fC 0 1 1) m=A 0 m:=rfl
  (try simp only)
  rw[r0,r1]
  have hs:jV k*jV (CG k m)= -(jV m*jV (CG m k)):=by
   unfold CG
   by_cases h:k<m
   ·rw[if_neg (by omega),if_pos h]
    have:=kR (m-1)
    rw[show m-1+1=m by omega]at this
    rw[this,Int.neg_mul,Int.neg_neg,Int.mul_comm]
   ·rw[if_pos (by omega),if_neg (by omega)]
    have:=kR (k-1)
    rw[show k-1+1=k by omega]at this
    rw[this,Int.neg_mul,Int.mul_comm]
  have hd:Af n A k m=Af n A m k:=by
   by_cases h:k<m
   ·exact Bm h
   ·exact(Bm (by omega)).symm
  rw[hs,hd]
  generalize jV m*jV (CG m k)=a
  rw[Int.neg_mul,Int.neg_mul,Int.neg_mul,Int.mul_assoc a,Int.mul_comm (A 1 k),<-Int.mul_assoc a]
theorem nD:∀{n i:Nat}(A:jS),i+1<n->cM n (fun r=>A (fC i (i+1) r))= -cM n A
 |n+2,0,A,_=>Ig n A
 |n+1,i+1,A,h=>by
  rw[cM,cM,<-mF]
  refine cC fun k hk=> ?_
  (try simp only)
  have e:(fun r j=>A (fC (i+1) (i+1+1) (r+1)) (fp k j))=fun r=>(fun r j=>A (r+1) (fp k j)) (fC i (i+1) r):=by
   funext r j
   congr 1
   unfold fC
   by_cases a:r=i
   ·rw[if_pos (by omega),if_pos a]
   ·by_cases b:r=i+1
    ·rw[if_neg (by omega),if_pos (by omega),if_neg a,if_pos b]
    ·rw[if_neg (by omega),if_neg (by omega),if_neg a,if_neg b]
  have z:fC (i+1) (i+1+1) 0=0:=by unfold fC;rw[if_neg (by omega),if_neg (by omega)]
  rw[e,z,nD (fun r j=>A (r+1) (fp k j)) (by omega),Int.mul_neg]
theorem pc:∀(d:Nat){n i:Nat}(A:jS),i+d+1<n->A i=A (i+d+1)->cM n A=0
 |0,n,i,A,h,e=>by
  have:=nD A h
  have e2:(fun r=>A (fC i (i+1) r))=A:=by
   funext r
   unfold fC
   by_cases a:r=i
   ·rw[if_pos a,a];exact e.symm
   ·by_cases b:r=i+1
    ·rw[if_neg a,if_pos b,b];exact e
    ·rw[if_neg a,if_neg b]
  rw[e2]at this
  omega
 |d+1,n,i,A,h,e=>by
  have h1:=nD (i:=i+d+1) A (by omega)
  have h2:=pc d (n:=n) (i:=i) (fun r=>A (fC (i+d+1) (i+d+1+1) r)) (by omega) (by
   (try simp only)
   have a:fC (i+d+1) (i+d+1+1) i=i:=by unfold fC;rw[if_neg (by omega),if_neg (by omega)]
   have b:fC (i+d+1) (i+d+1+1) (i+d+1)=i+d+1+1:=by unfold fC;rw[if_pos rfl]
   rw[a,b]
   exact e)
  omega
theorem Fq{n i j:Nat}(A:jS)(hi:i<n)(hj:j<n)(h:i≠j)(e:A i=A j):cM n A=0:=by
 by_cases a:i<j
 ·exact pc (j-i-1) (i:=i) A (by omega) (by rw[show i+(j-i-1)+1=j by omega];exact e)
 ·exact pc (i-j-1) (i:=j) A (by omega) (by rw[show j+(i-j-1)+1=i by omega];exact e.symm)
theorem wD{n i j:Nat}(A:jS)(hi:i<n)(hj:j<n)(h:i≠j)(c:Int):cM n (dC A i fun k=>c*A j k+A i k)=cM n A:=by
 rw[sL A c (A j) (A i) hi,Bj,Fq (dC A i (A j)) hi hj h (by unfold dC;rw[if_pos rfl,if_neg fun e=>h e.symm])]
 omega
theorem Oz{n i j:Nat}(A:jS)(hi:i<n)(hj:j<n)(h:i≠j):cM n (fun r=>A (fC i j r))= -cM n A:=by
 --row i+row j,then row j-row i,then row i+row j,and a sign
 have e1:=wD A hi hj h 1
 have e2:=wD (dC A i fun k=>1*A j k+A i k) hj hi (fun e=>h e.symm) (-1)
 have e3:=wD (dC (dC A i fun k=>1*A j k+A i k) j fun k=> -1*(dC A i fun k=>1*A j k+A i k) i k+(dC A i fun k=>1*A j k+A i k) j k) hi hj h 1
 have e4:=Bk (fun r=>A (fC i j r)) (-1) (A i) hj
 have f1:dC (fun r=>A (fC i j r)) j (A i)=fun r=>A (fC i j r):=by
  funext r
  unfold dC
  by_cases a:r=j
  ·rw[if_pos a,a];unfold fC;rw[if_neg fun e=>h e.symm,if_pos rfl]
  ·rw[if_neg a]
 rw[f1]at e4
 have f2:dC (dC (dC A i fun k=>1*A j k+A i k) j fun k=> -1*(dC A i fun k=>1*A j k+A i k) i k+(dC A i fun k=>1*A j k+A i k) j k) i (fun k=>1*(dC (dC A i fun k=>1*A j k+A i k) j fun k=> -1*(dC A i fun k=>1*A j k+A i k) i k+(dC A i fun k=>1*A j k+A i k) j k) j k+(dC (dC A i fun k=>1*A j k+A i k) j fun k=> -1*(dC A i fun k=>1*A j k+A i k) i k+(dC A i fun k=>1*A j k+A i k) j k) i k)=dC (fun r=>A (fC i j r)) j fun k=> -1*A i k:=by
  funext r k
  unfold dC fC
  by_cases a:r=i
  ·subst a
   simp only[if_pos,if_neg h,if_neg fun e:j=r=>h e.symm]
   omega
  ·by_cases b:r=j
   ·subst b
    simp only[if_pos,if_neg a]
    omega
   ·simp only[if_neg a,if_neg b]
 rw[f2,e4]at e3
 omega
theorem xZ:∀{n:Nat}(A:jS),(∀i,i<n+1->A i 0=0)->cM (n+1) A=0
 |0,A,h=>by rw[cM];simp[bI,cM,h 0 (by omega)]
 |n+1,A,h=>by
  rw[cM]
  refine jn fun k hk=> ?_
  (try simp only)
  by_cases e:k=0
  ·subst e;rw[h 0 (by omega)];simp
  ·rw[xZ (fun i j=>A (i+1) (fp k j)) fun i hi=>by
    (try simp only)
    rw[show fp k 0=0 by unfold fp;rw[if_pos (by omega)]]
    exact h (i+1) (by omega)]
   simp
theorem ya{n:Nat}(A:jS)(h:∀i,1<=i->i<n+1->A i 0=0):cM (n+1) A=A 0 0*cM n (fun i j=>A (i+1) (j+1)):=by
 have key:∀m,m<=n->bI (fun k=>jV k*A 0 k*cM n (fun i j=>A (i+1) (fp k j))) (m+1)=A 0 0*cM n (fun i j=>A (i+1) (j+1)):=by
  intro m
  induction m with
  |zero=>
   intro _
   rw[bI,bI]
   have:(fun i j=>A (i+1) (fp 0 j))=fun i j=>A (i+1) (j+1):=by
    funext i j;unfold fp;rw[if_neg (by omega)]
   rw[this]
   simp[jV]
  |succ m ih=>
   intro hm
   rw[bI,ih (by omega)]
   cases n with
   |zero=>omega
   |succ n=>
    rw[xZ (fun i j=>A (i+1) (fp (m+1) j)) fun i hi=>by
     (try simp only)
     rw[show fp (m+1) 0=0 by unfold fp;rw[if_pos (by omega)]]
     exact h (i+1) (by omega) (by omega)]
    simp
 rw[cM]
 exact key n (Nat.le_refl _)
def CH(B:jS):jS:=fun i j=>B 0 0*B (i+1) (j+1)-B (i+1) 0*B 0 (j+1)
theorem pd{n:Nat}(b:Int)(B:jS):∀m,m<=n->cM (n+1) (fun r j=>if 1<=r/\r<=m then b*B r j else B r j)=b^m*cM (n+1) B
 |0,_=>by
  rw[Int.pow_zero,Int.one_mul]
  exact dF fun i j _ _=>by rw[if_neg (by omega)]
 |m+1,h=>by
  have ih:=pd (n:=n) b B m (by omega)
  have e:=Bk (n:=n+1) (i:=m+1) (fun r j=>if 1<=r/\r<=m then b*B r j else B r j) b (B (m+1)) (by omega)
  have e1:cM (n+1) (dC (fun r j=>if 1<=r/\r<=m then b*B r j else B r j) (m+1) fun j=>b*B (m+1) j)=cM (n+1) (fun r j=>if 1<=r/\r<=m+1 then b*B r j else B r j):=by
   refine dF fun i j _ _=> ?_
   unfold dC
   (try simp only)
   by_cases a:i=m+1
   ·subst a;rw[if_pos rfl,if_pos (by omega)]
   ·rw[if_neg a]
    (try simp only)
    by_cases c:1<=i/\i<=m
    ·rw[if_pos c,if_pos (show 1<=i/\i<=m+1 by omega)]
    ·rw[if_neg c,if_neg (show¬(1<=i/\i<=m+1) by omega)]
  have e2:dC (fun r j=>if 1<=r/\r<=m then b*B r j else B r j) (m+1) (B (m+1))=fun r j=>if 1<=r/\r<=m then b*B r j else B r j:=by
   funext r j
   unfold dC
   by_cases a:r=m+1
   ·subst a;rw[if_pos rfl,if_neg (by omega)]
   ·rw[if_neg a]
  rw[e1,e2,ih]at e
  rw[e,Int.pow_succ,<-Int.mul_assoc,Int.mul_comm b]
theorem nE{n:Nat}(C:jS)(c:Nat->Int):∀m,m<=n->cM (n+1) (fun r j=>if 1<=r/\r<=m then c r*C 0 j+C r j else C r j)=cM (n+1) C
 |0,_=>dF fun i j _ _=>by rw[if_neg (by omega)]
 |m+1,h=>by
  rw[<-nE C c m (by omega),<-wD (n:=n+1) (i:=m+1) (j:=0) (fun r j=>if 1<=r/\r<=m then c r*C 0 j+C r j else C r j) (by omega) (by omega) (by omega) (c (m+1))]
  refine dF fun i j _ _=> ?_
  unfold dC
  by_cases a:i=m+1
  ·subst a;rw[if_pos rfl,if_pos (by omega),if_neg (by omega),if_neg (by omega)]
  ·rw[if_neg a]
   (try simp only)
   by_cases d:1<=i/\i<=m
   ·rw[if_pos d,if_pos (show 1<=i/\i<=m+1 by omega)]
   ·rw[if_neg d,if_neg (show¬(1<=i/\i<=m+1) by omega)]
theorem OA{n:Nat}{B:jS}(hb:B 0 0≠0):B 0 0^n*cM (n+2) B=cM (n+1) (CH B):=by
 have e1:=pd (n:=n+1) (B 0 0) B (n+1) (Nat.le_refl _)
 have e2:=nE (n:=n+1) (fun r j=>if 1<=r/\r<=n+1 then B 0 0*B r j else B r j) (fun r=> -B r 0) (n+1) (Nat.le_refl _)
 rw[e1]at e2
 have e3:=ya (n:=n+1) (fun r j=>if 1<=r/\r<=n+1 then-B r 0*(if 1<=0/\0<=n+1 then B 0 0*B 0 j else B 0 j)+(if 1<=r/\r<=n+1 then B 0 0*B r j else B r j)else(if 1<=r/\r<=n+1 then B 0 0*B r j else B r j)) fun i h1 h2=>by
  (try simp only)
  rw[if_pos (by omega),if_neg (by omega),if_pos (by omega),Int.neg_mul,Int.mul_comm (B i 0)]
  omega
 rw[e3]at e2
 have e4:cM (n+1) (fun i j=>if 1<=i+1/\i+1<=n+1 then-B (i+1) 0*(if 1<=0/\0<=n+1 then B 0 0*B 0 (j+1)else B 0 (j+1))+(if 1<=i+1/\i+1<=n+1 then B 0 0*B (i+1) (j+1)else B (i+1) (j+1))else(if 1<=i+1/\i+1<=n+1 then B 0 0*B (i+1) (j+1)else B (i+1) (j+1)))=cM (n+1) (CH B):=by
  refine dF fun i j hi hj=> ?_
  unfold CH
  rw[if_pos (by omega),if_neg (by omega),if_pos (by omega),Int.neg_mul]
  omega
 have e5:(if 1<=0/\0<=n+1 then-B 0 0*(if 1<=0/\0<=n+1 then B 0 0*B 0 0 else B 0 0)+(if 1<=0/\0<=n+1 then B 0 0*B 0 0 else B 0 0)else(if 1<=0/\0<=n+1 then B 0 0*B 0 0 else B 0 0))=B 0 0:=by
  rw[if_neg (by omega),if_neg (by omega)]
 (try simp only at e2)
 (try simp only at e4)
 (try simp only at e5)
 first
 |(rw[e4,e5]at e2
   rw[Int.pow_succ,Int.mul_comm (B 0 0^n),Int.mul_assoc]at e2
   exact(Int.mul_eq_mul_left_iff hb).1 e2.symm)
 |(rw[e4]at e2
   rw[Int.pow_succ,Int.mul_comm (B 0 0^n),Int.mul_assoc]at e2
   exact(Int.mul_eq_mul_left_iff hb).1 e2.symm)
theorem Fs(b:Int)(A:jS):∀n,cM n (fun i j=>b*A i j)=b^n*cM n A
 |0=>by simp[cM]
 |n+1=>by
  rw[cM,cM,<-mE]
  refine cC fun k hk=> ?_
  (try simp only)
  rw[Fs b (fun i j=>A (i+1) (fp k j)) n,Int.pow_succ,Int.mul_left_comm (jV k),Int.mul_assoc b,Int.mul_left_comm,Int.mul_comm (b^n) b,Int.mul_assoc b,Int.mul_left_comm (b^n),<-Int.mul_assoc]
  first
  |done
  |simp only[Int.mul_assoc,Int.mul_comm,Int.mul_left_comm]
def lX(m:Nat)(r:Nat->Nat)(i:Nat):Nat:=if i<m then i else m+r (i-m)
def sM(n m:Nat)(last:Int)(O A:jS):Prop:=
 ∀(k:Nat)(r c:Nat->Nat),(∀i,i<=k->r i<n-m)->(∀i,i<=k->c i<n-m)->cM (k+1) (fun i j=>A (r i) (c j))=last^k*cM (m+k+1) (fun i j=>O (lX m r i) (lX m c j))
theorem sM.start(n:Nat)(O:jS):sM n 0 1 O O:=fun k r c hr hc=>by
 rw[Int.one_pow,Int.one_mul,Nat.zero_add]
 exact dF fun i j _ _=>by simp[lX]
theorem Sm(A:jS):cM 1 A=A 0 0:=by simp[cM,bI,jV]
theorem Sn(A:jS):cM 2 A=A 0 0*A 1 1-A 1 0*A 0 1:=by
 simp only[cM,bI,jV,fp]
 simp
 rw[Int.neg_mul,Int.mul_comm (A 0 1)]
 omega
theorem sM.ent{n m:Nat}{last:Int}{O A:jS}(H:sM n m last O A){i j:Nat}(hi:i<n-m)(hj:j<n-m):A i j=cM (m+1) (fun a b=>O (lX m (fun _=>i) a) (lX m (fun _=>j) b)):=by
 have:=H 0 (fun _=>i) (fun _=>j) (fun _ _=>hi) (fun _ _=>hj)
 rw[Sm,Int.pow_zero,Int.one_mul]at this
 exact this
def OB(r:Nat->Nat):Nat->Nat
 |0=>0
 |i+1=>r i+1
theorem Ke(m:Nat)(r:Nat->Nat)(i:Nat):lX m (OB r) i=lX (m+1) r i:=by
 unfold lX
 by_cases h:i<m
 ·rw[if_pos h,if_pos (by omega)]
 ·rw[if_neg h]
  by_cases e:i=m
  ·subst e;rw[if_pos (by omega),Nat.sub_self];rfl
  ·rw[if_neg (by omega)]
   obtain⟨d,rfl⟩:∃d,i=m+1+d:=⟨i-(m+1),by omega⟩
   rw[show m+1+d-m=d+1 by omega,show m+1+d-(m+1)=d by omega]
   show m+(r d+1)=_
   omega
theorem sM.exact{n m:Nat}{last:Int}{O A:jS}(H:sM n m last O A){i j:Nat}(hi:i+1<n-m)(hj:j+1<n-m):∃q,CH A i j=last*q:=by
 have:=H 1 (OB fun _=>i) (OB fun _=>j) (fun a ha=>by cases a with|zero=>exact(by show 0<_;omega)|succ a=>exact hi) (fun a ha=>by cases a with|zero=>exact(by show 0<_;omega)|succ a=>exact hj)
 rw[Sn]at this
 exact⟨_,by unfold CH;rw[Int.pow_one]at this;exact this⟩
theorem Kf{a b q:Int}(h:a=b*q)(hb:b≠0):a.tdiv b=q:=by rw[h];exact Int.mul_tdiv_cancel_left _ hb
theorem sM.step{n m:Nat}{last:Int}{O A A':jS}(H:sM n m last O A)(hl:last≠0)(ha:A 0 0≠0)(hA:∀i j,i+1<n-m->j+1<n-m->A' i j=(CH A i j).tdiv last):sM n (m+1) (A 0 0) O A':=fun k r c hr hc=>by
 have e1:cM (k+1) (fun i j=>last*A' (r i) (c j))=cM (k+1) (CH fun i j=>A (OB r i) (OB c j)):=dF fun i j hi hj=>by
  have gH:=hr i (by omega)
  have Ft:=hc j (by omega)
  (try simp only)
  obtain⟨q,hq⟩:=H.exact (i:=r i) (j:=c j) (by omega) (by omega)
  rw[hA _ _ (by omega) (by omega),Kf hq hl,<-hq]
  rfl
 rw[Fs last (fun i j=>A' (r i) (c j))]at e1
 have e2:=OA (n:=k) (B:=fun i j=>A (OB r i) (OB c j)) ha
 have e3:=H (k+1) (OB r) (OB c) (fun i hi=>by cases i with|zero=>exact(by have:=hr 0 (by omega);show 0<_;omega)|succ i=>exact(by have:=hr i (by omega);show r i+1<_;omega)) (fun i hi=>by cases i with|zero=>exact(by have:=hc 0 (by omega);show 0<_;omega)|succ i=>exact(by have:=hc i (by omega);show c i+1<_;omega))
 rw[<-e2,e3]at e1
 have e4:(fun i j=>O (lX m (OB r) i) (lX m (OB c) j))=fun i j=>O (lX (m+1) r i) (lX (m+1) c j):=by funext i j;rw[Ke,Ke]
 rw[e4,Int.mul_left_comm]at e1
 have e5:=(Int.mul_eq_mul_left_iff (show last^(k+1)≠0 from Int.pow_ne_zero hl)).1 e1
 rw[e5,show m+(k+1)+1=m+1+k+1 by omega]
 rfl
theorem sM.swap{n m p:Nat}{last:Int}{O A:jS}(H:sM n m last O A)(hp:p<n-m):sM n m last (fun i=>O (fC m (m+p) i)) (fun i=>A (fC 0 p i)):=fun k r c hr hc=>by
 have:=H k (fun i=>fC 0 p (r i)) c (fun i hi=>by have:=hr i hi;unfold fC;split<;>(try split)<;>omega) hc
 (try simp only)
 rw[this]
 congr 2
 funext i j
 congr 1
 unfold lX
 by_cases h:i<m
 ·rw[if_pos h,if_pos h];unfold fC;rw[if_neg (by omega),if_neg (by omega)]
 ·rw[if_neg h,if_neg h]
  show m+fC 0 p (r (i-m))=fC m (m+p) (m+r (i-m))
  generalize r (i-m)=x
  unfold fC
  by_cases a:x=0
  ·rw[if_pos a,if_pos (show m+x=m by omega)]
  ·rw[if_neg a,if_neg (show¬m+x=m by omega)]
   by_cases b:x=p
   ·rw[if_pos b,if_pos (show m+x=m+p by omega)];omega
   ·rw[if_neg b,if_neg (show¬m+x=m+p by omega)]
theorem Kg(m i:Nat):lX m (fun x=>x) i=i:=by unfold lX;split<;>(try simp only)<;>omega
theorem sM.none{n m:Nat}{last:Int}{O A:jS}(H:sM n m last O A)(hm:m<n)(hl:last≠0)(h0:∀i,i<n-m->A i 0=0):cM n O=0:=by
 have:=H (n-m-1) (fun x=>x) (fun x=>x) (fun i hi=>by omega) (fun i hi=>by omega)
 rw[xZ (fun i j=>A i j) fun i hi=>h0 i (by omega)]at this
 have e:(fun i j=>O (lX m (fun x=>x) i) (lX m (fun x=>x) j))=O:=by funext i j;rw[Kg,Kg]
 rw[e,show m+(n-m-1)+1=n by omega]at this
 rcases Int.mul_eq_zero.1 this.symm with h|h
 ·exact absurd h (Int.pow_ne_zero hl)
 ·exact h
theorem sM.last{n m:Nat}{last:Int}{O A:jS}(H:sM n m last O A)(hm:m+1=n):A 0 0=cM n O:=by
 rw[H.ent (i:=0) (j:=0) (by omega) (by omega),hm]
 have e:(fun a b=>O (lX m (fun _=>0) a) (lX m (fun _=>0) b))=fun a b=>O (if a<m then a else m) (if b<m then b else m):=by funext a b;rfl
 rw[e]
 refine dF fun i j hi hj=> ?_
 rw[show(if i<m then i else m)=i by split<;>omega,show(if j<m then j else m)=j by split<;>omega]
def Hd:Nat->Nat
 |0=>1
 |n+1=>(n+1)*10*Hd n
theorem qU{f:Nat->Int}{b:Nat}:∀{n:Nat},(∀i,i<n->(f i).natAbs<=b)->(bI f n).natAbs<=n*b
 |0,_=>by simp[bI]
 |n+1,h=>by
  rw[bI]
  have h1:=qU (f:=f) (b:=b) (n:=n) fun i hi=>h i (by omega)
  have h2:=h n (by omega)
  have h3:=Int.natAbs_add_le (bI f n) (f n)
  rw[Nat.succ_mul]
  omega
theorem Kh(k:Nat):(jV k).natAbs=1:=by unfold jV;split<;>rfl
theorem mG:∀{n:Nat}{A:jS},(∀i j,i<n->j<n->(A i j).natAbs<=10)->(cM n A).natAbs<=Hd n
 |0,_,_=>by simp[cM,Hd]
 |n+1,A,h=>by
  rw[cM,Hd,Nat.mul_assoc]
  refine qU fun k hk=> ?_
  (try simp only)
  rw[Int.natAbs_mul,Int.natAbs_mul,Kh,Nat.one_mul]
  exact Nat.mul_le_mul (h 0 k (by omega) hk) (mG fun i j hi hj=>h (i+1) (fp k j) (by omega) (by unfold fp;split<;>omega))
theorem yb:∀{n m:Nat},n<=m->Hd n<=Hd m
 |n,0,h=>by rw[show n=0 by omega];exact Nat.le_refl _
 |n,m+1,h=>by
  by_cases e:n=m+1
  ·rw[e];exact Nat.le_refl _
  ·have h1:=yb (n:=n) (m:=m) (by omega)
   have h2:Hd m<=Hd (m+1):=by rw[Hd];exact Nat.le_mul_of_pos_left _ (by omega)
   omega
def Small(n:Nat)(O:jS):Prop:=∀i j,i<n->j<n->(O i j).natAbs<=10
theorem sM.acv{n m:Nat}{last:Int}{O A:jS}(H:sM n m last O A)(hO:Small n O){i j:Nat}(hi:i<n-m)(hj:j<n-m):(A i j).natAbs<=Hd (m+1):=by
 rw[H.ent hi hj]
 refine mG fun a b ha hb=>hO _ _ ?_ ?_
 ·unfold lX;split<;>(try simp only)<;>omega
 ·unfold lX;split<;>(try simp only)<;>omega
def fh(x:Int):List Int->Int
 |[]=>0
 |y::l=>(if y=x then 1 else 0)+fh x l
def CI(p q x:Int):Int:=if x=p then q else x
abbrev Tn:=List (Int×List Int)
def qV(p q:Int)(ts:Tn):Tn:=ts.map fun t=>(t.1,t.2.map (CI p q))
def nF(ts:Tn)(i:Nat):Int:=(ts.getD i (0,[])).1
def zQ(ts:Tn)(i:Nat):List Int:=(ts.getD i (0,[])).2
def iF(ts:Tn):jS:=fun i j=>(if i=j then((zQ ts i).length:Int)else 0)-fh (nF ts j) (zQ ts i)
def LV:Nat->Tn->Int
 |0,_=>1
 |_+1,[]=>1
 |n+1,(p,ex)::ts=>(ex.map fun q=>if q=p then 0 else LV n (qV p q ts)).sum
theorem Ki{p q x:Int}(h:x≠p):∀l:List Int,fh x (l.map (CI p q))=fh x l+(if q=x then fh p l else 0)
 |[]=>by simp[fh]
 |y::l=>by
  rw[List.map_cons,fh,fh,fh,Ki h l]
  unfold CI
  by_cases a:y=p
  ·rw[if_pos a,if_neg (show¬y=x from fun e=>h (e.symm.trans a)),if_pos a]
   by_cases b:q=x
   ·rw[if_pos b,if_pos b,if_pos b];omega
   ·rw[if_neg b,if_neg b,if_neg b];omega
  ·rw[if_neg a,if_neg a]
   by_cases b:q=x
   ·rw[if_pos b,if_pos b];omega
   ·rw[if_neg b,if_neg b];omega
theorem Sr(p q:Int)(ts:Tn)(i:Nat):nF (qV p q ts) i=nF ts i:=by
 unfold nF qV
 rw[List.getD_eq_getElem?_getD,List.getD_eq_getElem?_getD,List.getElem?_map]
 cases ts[i]?<;>rfl
theorem Ss(p q:Int)(ts:Tn)(i:Nat):zQ (qV p q ts) i=(zQ ts i).map (CI p q):=by
 unfold zQ qV
 rw[List.getD_eq_getElem?_getD,List.getD_eq_getElem?_getD,List.getElem?_map]
 cases ts[i]?<;>rfl
theorem Su{ts:Tn}{i:Nat}(h:i<ts.length):nF ts i∈ts.map (·.1):=by
 unfold nF
 rw[List.getD_eq_getElem?_getD,List.getElem?_eq_getElem h]
 exact List.mem_map.2 ⟨_,List.getElem_mem h,rfl⟩
theorem Bo(p q:Int)(ts:Tn):(qV p q ts).map (·.1)=ts.map (·.1):=by
 unfold qV
 rw[List.map_map]
 rfl
theorem OC{n:Nat}{p q:Int}{ex:List Int}{ts:Tn}(hn:ts.length=n)(hd:((p,ex)::ts).map (·.1)|>.Nodup):
 cM (n+1) (dC (iF ((p,ex)::ts)) 0 fun j=>(if 0=j then 1 else 0)-(if q=nF ((p,ex)::ts) j then 1 else 0))=if q=p then 0 else cM n (iF (qV p q ts)):=by
 have hp:∀j,j<n->nF ((p,ex)::ts) (j+1)=nF ts j/\nF ts j≠p:=fun j hj=>⟨rfl,fun e=>by
  have h1:=Su (ts:=ts) (i:=j) (by omega)
  rw[e]at h1
  rw[List.map_cons,List.nodup_cons]at hd
  exact hd.1 h1⟩
 have h0:nF ((p,ex)::ts) 0=p:=rfl
 by_cases e:q=p
 ·rw[if_pos e]
  rw[show cM (n+1) (dC (iF ((p,ex)::ts)) 0 fun j=>(if 0=j then 1 else 0)-(if q=nF ((p,ex)::ts) j then 1 else 0))=cM (n+1) (dC (iF ((p,ex)::ts)) 0 fun _=>0)from dF fun i j hi hj=>by
   unfold dC
   by_cases a:i=0
   ·rw[if_pos a,if_pos a]
    cases j with
    |zero=>rw[h0,if_pos rfl,if_pos e];rfl
    |succ j=>rw[(hp j (by omega)).1,if_neg (by omega),if_neg fun x=>(hp j (by omega)).2 (x.symm.trans e)];rfl
   ·rw[if_neg a,if_neg a]]
  exact nC _ (by omega)
 ·rw[if_neg e]
  rw[<-nE (n:=n) (dC (iF ((p,ex)::ts)) 0 fun j=>(if 0=j then 1 else 0)-(if q=nF ((p,ex)::ts) j then 1 else 0)) (fun r=>fh p (zQ ((p,ex)::ts) r)) n (Nat.le_refl _)]
  rw[ya]
  ·have e1:(if 1<=0/\0<=n then fh p (zQ ((p,ex)::ts) 0)*dC (iF ((p,ex)::ts)) 0 (fun j=>(if 0=j then 1 else 0)-(if q=nF ((p,ex)::ts) j then 1 else 0)) 0 0+dC (iF ((p,ex)::ts)) 0 (fun j=>(if 0=j then 1 else 0)-(if q=nF ((p,ex)::ts) j then 1 else 0)) 0 0 else dC (iF ((p,ex)::ts)) 0 (fun j=>(if 0=j then 1 else 0)-(if q=nF ((p,ex)::ts) j then 1 else 0)) 0 0)=(1:Int):=by
    rw[if_neg (by omega)]
    unfold dC
    rw[if_pos rfl,h0,if_pos rfl,if_neg e];rfl
   (try simp only)
   first
   |rw[e1,Int.one_mul]
   |(have e1:=e1
     simp only at e1
     rw[e1,Int.one_mul])
   refine dF fun i j hi hj=> ?_
   (try simp only)
   rw[if_pos (by omega)]
   unfold dC
   rw[if_pos rfl,if_neg (show¬i+1=0 by omega)]
   (try simp only)
   rw[(hp j hj).1,if_neg (show¬0=j+1 by omega)]
   unfold iF
   rw[Ss,Sr,Ki (hp j hj).2,List.length_map,(hp j hj).1]
   have e2:zQ ((p,ex)::ts) (i+1)=zQ ts i:=rfl
   rw[e2]
   by_cases a:q=nF ts j
   ·rw[if_pos a,if_pos a]
    by_cases b:i=j
    ·rw[if_pos b,if_pos (by omega)];omega
    ·rw[if_neg b,if_neg (by omega)];omega
   ·rw[if_neg a,if_neg a]
    by_cases b:i=j
    ·rw[if_pos b,if_pos (by omega)];omega
    ·rw[if_neg b,if_neg (by omega)];omega
  ·intro i h1 h2
   (try simp only)
   rw[if_pos (show 1<=i/\i<=n by omega)]
   unfold dC
   rw[if_neg (show¬i=0 by omega),if_pos (show 0=0 from rfl)]
   (try simp only)
   rw[h0,if_neg e]
   unfold iF
   rw[if_neg (show¬i=0 by omega),h0]
   simp
   omega
theorem CJ:∀(n:Nat)(ts:Tn),ts.length=n->(ts.map (·.1)).Nodup->cM n (iF ts)=LV n ts
 |0,ts,_,_=>by rw[cM];cases ts<;>rfl
 |n+1,(p,ex)::ts,h,hd=>by
  have hn:ts.length=n:=by simpa using h
  have QL:(ts.map (·.1)).Nodup:=by
   rw[List.map_cons,List.nodup_cons]at hd
   exact hd.2
  have key:∀l:List Int,cM (n+1) (dC (iF ((p,ex)::ts)) 0 fun j=>(if 0=j then(l.length:Int)else 0)-fh (nF ((p,ex)::ts) j) l)=(l.map fun q=>if q=p then 0 else LV n (qV p q ts)).sum:=by
   intro l
   induction l with
   |nil=>
    have:(fun j:Nat=>(if 0=j then((([]:List Int).length:Nat):Int)else 0)-fh (nF ((p,ex)::ts) j) [])=fun _=>0:=by
     funext j
     simp[fh]
    rw[this,nC _ (by omega)]
    rfl
   |cons q l ih=>
    have:(fun j:Nat=>(if 0=j then(((q::l).length:Nat):Int)else 0)-fh (nF ((p,ex)::ts) j) (q::l))=fun j=>1*((if 0=j then 1 else 0)-(if q=nF ((p,ex)::ts) j then 1 else 0))+((if 0=j then(l.length:Int)else 0)-fh (nF ((p,ex)::ts) j) l):=by
     funext j
     rw[fh,List.length_cons]
     by_cases a:0=j
     ·rw[if_pos a,if_pos a,if_pos a];omega
     ·rw[if_neg a,if_neg a,if_neg a];omega
    rw[this,sL (iF ((p,ex)::ts)) 1 (fun j=>(if 0=j then 1 else 0)-(if q=nF ((p,ex)::ts) j then 1 else 0)) (fun j=>(if 0=j then(l.length:Int)else 0)-fh (nF ((p,ex)::ts) j) l) (by omega),ih,OC hn hd,List.map_cons,List.sum_cons,Int.one_mul]
    congr 1
    by_cases a:q=p
    ·rw[if_pos a,if_pos a]
    ·rw[if_neg a,if_neg a,CJ n (qV p q ts) (by unfold qV;simpa using hn) (by rw[Bo];exact QL)]
  have e:dC (iF ((p,ex)::ts)) 0 (fun j=>(if 0=j then(ex.length:Int)else 0)-fh (nF ((p,ex)::ts) j) ex)=iF ((p,ex)::ts):=by
   have:=Bj (iF ((p,ex)::ts)) 0
   exact this
  rw[LV,<-key ex,e]
def cZ{α:Type}:List (List α)->List (List α)
 |[]=>[[]]
 |c::cs=>c.flatMap fun x=>(cZ cs).map (x:: ·)
theorem Bp{α β:Type}(f:α->β):∀cs:List (List α),cZ (cs.map (·.map f))=(cZ cs).map (·.map f)
 |[]=>rfl
 |c::cs=>by
  rw[List.map_cons,cZ,cZ,Bp f cs,List.map_flatMap,List.flatMap_map]
  congr 1
  funext x
  rw[List.map_map,List.map_map]
  rfl
def MI:Nat->List (Int×Int)->Bool
 |0,_=>true
 |_+1,[]=>true
 |n+1,(p,q)::l=> !decide (q=p)&&MI n (l.map fun t=>(t.1,CI p q t.2))
theorem Kj(p q:Int):∀(ns c:List Int),ns.zip (c.map (CI p q))=(ns.zip c).map fun t=>(t.1,CI p q t.2)
 |[],_=>by simp
 |_::_,[]=>by simp
 |x::ns,y::c=>by rw[List.map_cons,List.zip_cons_cons,List.zip_cons_cons,List.map_cons,Kj p q ns c]
theorem vA:∀l:List Nat,((l.sum:Nat):Int)=(l.map fun n:Nat=>(n:Int)).sum
 |[]=>rfl
 |x::l=>by rw[List.sum_cons,List.map_cons,List.sum_cons,<-vA l];omega
theorem yc:∀(n:Nat)(ts:Tn),ts.length=n->LV n ts=(((cZ (ts.map (·.2))).countP fun c=>MI n ((ts.map (·.1)).zip c):Nat):Int)
 |0,ts,h=>by
  rw[List.length_eq_zero_iff.1 h]
  rfl
 |n+1,(p,ex)::ts,h=>by
  have hn:ts.length=n:=by simpa using h
  have e0:cZ (((p,ex)::ts).map (·.2))=ex.flatMap fun q=>(cZ (ts.map (·.2))).map (q:: ·):=rfl
  rw[LV,e0,List.countP_flatMap,vA,List.map_map]
  congr 1
  refine List.map_congr_left fun q _=> ?_
  (try simp only[Function.comp])
  rw[List.countP_map]
  by_cases e:q=p
  ·rw[if_pos e]
   have:((cZ (ts.map (·.2))).countP ((fun c=>MI (n+1) ((((p,ex)::ts).map (·.1)).zip c))∘fun c=>q::c))=0:=by
    rw[List.countP_eq_zero]
    intro c _
    simp[MI,e]
   rw[this];rfl
  ·rw[if_neg e,yc n (qV p q ts) (by unfold qV;simpa using hn),Bo]
   have e1:(qV p q ts).map (·.2)=(ts.map (·.2)).map (·.map (CI p q)):=by
    unfold qV
    rw[List.map_map,List.map_map]
    rfl
   rw[e1,Bp,List.countP_map]
   congr 1
   refine List.countP_congr fun c _=> ?_
   (try simp only[Function.comp])
   rw[Kj,List.map_cons,List.zip_cons_cons,MI]
   simp[e]
theorem CK:∀(n:Nat)(l:List (Int×Int)),l.length=n->(l.map (·.1)).Nodup->(MI n l=true↔∃rk:Int->Nat,∀t,t∈l->t.2∈l.map (·.1)->rk t.2<rk t.1)
 |0,l,h,_=>by
  rw[List.length_eq_zero_iff.1 h]
  exact⟨fun _=>⟨fun _=>0,fun t ht=>by simp at ht⟩,fun _=>rfl⟩
 |n+1,(p,q)::l,h,hd=>by
  have hn:l.length=n:=by simpa using h
  rw[List.map_cons,List.nodup_cons]at hd
  have ih:=CK n (l.map fun t=>(t.1,CI p q t.2)) (by simpa using hn) (by rw[List.map_map];exact hd.2)
  have nm:(l.map fun t=>(t.1,CI p q t.2)).map (·.1)=l.map (·.1):=by rw[List.map_map];rfl
  rw[nm]at ih
  rw[MI,Bool.and_eq_true,ih]
  constructor
  ·rintro⟨hq,rk,H⟩
   have hq:¬q=p:=by simpa using hq
   refine⟨fun x=>if x=p then(if q∈l.map (·.1)then 2*rk q+3 else 1)else 2*rk x+2,fun t ht hm=> ?_⟩
   rcases List.mem_cons.1 ht with rfl|ht
   ·show(if q=p then(if q∈l.map (·.1)then 2*rk q+3 else 1)else 2*rk q+2)<(if p=p then(if q∈l.map (·.1)then 2*rk q+3 else 1)else 2*rk p+2)
    have hm':q∈l.map (·.1):=by
     rw[List.map_cons]at hm
     rcases List.mem_cons.1 hm with e|e
     ·exact absurd e hq
     ·exact e
    rw[if_neg hq,if_pos rfl,if_pos hm']
    omega
   ·have tp:t.1≠p:=fun e=>hd.1 (e▸List.mem_map.2 ⟨t,ht,rfl⟩)
    show(if t.2=p then(if q∈l.map (·.1)then 2*rk q+3 else 1)else 2*rk t.2+2)<(if t.1=p then(if q∈l.map (·.1)then 2*rk q+3 else 1)else 2*rk t.1+2)
    rw[if_neg tp]
    have H':=H (t.1,CI p q t.2) (List.mem_map.2 ⟨t,ht,rfl⟩)
    (try simp only at H')
    by_cases e:t.2=p
    ·rw[if_pos e]
     have er:CI p q t.2=q:=by unfold CI;rw[if_pos e]
     rw[er]at H'
     by_cases c:q∈l.map (·.1)
     ·rw[if_pos c];have:=H' c;omega
     ·rw[if_neg c];omega
    ·rw[if_neg e]
     have er:CI p q t.2=t.2:=by unfold CI;rw[if_neg e]
     rw[er]at H'
     rw[List.map_cons]at hm
     rcases List.mem_cons.1 hm with a|a
     ·exact absurd a e
     ·have:=H' a;omega
  ·rintro⟨rk,H⟩
   have H0:=H (p,q) (List.mem_cons_self ..)
   (try simp only at H0)
   refine⟨?_,rk,fun t ht hm=> ?_⟩
   ·have:¬q=p:=fun e=>by
     have:=H0 (by rw[List.map_cons,e];exact List.mem_cons_self ..)
     rw[e]at this
     omega
    simpa using this
   ·obtain⟨u,hu,rfl⟩:=List.mem_map.1 ht
    (try simp only at hm⊢)
    have Hu:=H u (List.mem_cons_of_mem _ hu)
    rw[List.map_cons]at H0 Hu
    by_cases e:u.2=p
    ·have er:CI p q u.2=q:=by unfold CI;rw[if_pos e]
     rw[er]at hm⊢
     have h1:=Hu (by rw[e];exact List.mem_cons_self ..)
     have h2:=H0 (List.mem_cons_of_mem _ hm)
     rw[e]at h1
     omega
    ·have er:CI p q u.2=u.2:=by unfold CI;rw[if_neg e]
     rw[er]at hm⊢
     exact Hu (List.mem_cons_of_mem _ hm)
def MJ(f:Int->Int)(sink:Int)(n:Nat):Nat->Nat->Int->Option Nat
 |0,_,_=>none
 |r+1,m,a=>if a=sink then some m else if f a<0\/n<m then none else MJ f sink n r (m+1) (f a)
def LW(g:List (List Int))(rs:List Int)(sink:Int):Nat->Option (List Int)
 |0=>some []
 |i+1=>match LW g rs sink i with
  |none=>none
  |some l=>match MJ (nx g rs) sink g.length (g.length+3) 0 i with
   |none=>none
   |some m=>some (l++[(m:Int)])
def Fu(g:List (List Int))(rs:List Int)(sink:Int):Bool:=(LW g rs sink g.length).isSome
theorem Fv{g:List (List Int)}{rs:List Int}{sink:Int}{i:Nat}(h:LW g rs sink i=none):∀m,LW g rs sink (i+m)=none
 |0=>h
 |m+1=>by rw[<-Nat.add_assoc,LW,Fv h m]
theorem WG{g:List (List Int)}{rs:List Int}{sink:Int}{i n:Nat}(h:LW g rs sink i=none)(hi:i<=n):LW g rs sink n=none:=by
 have:=Fv h (n-i)
 rwa [show i+(n-i)=n by omega]at this
theorem Sv{g:List (List Int)}{rs:List Int}{sink:Int}(h:∀p:Nat,p<g.length->(MJ (nx g rs) sink g.length (g.length+3) 0 p).isSome=true):Fu g rs sink=true:=by
 have:∀i,i<=g.length->(LW g rs sink i).isSome=true:=by
  intro i
  induction i with
  |zero=>intro _;rfl
  |succ i ih=>
   intro hi
   have h1:=ih (by omega)
   have h2:=h i (by omega)
   rw[LW]
   cases h3:LW g rs sink i with
   |none=>rw[h3]at h1;cases h1
   |some l=>
    cases h4:MJ (nx g rs) sink g.length (g.length+3) 0 i with
    |none=>rw[h4]at h2;cases h2
    |some m=>rfl
 exact this _ (Nat.le_refl _)
def Fw(n:Nat):List Int:=(List.range n).map fun i:Nat=>(i:Int)
def uc(g:List (List Int))(s:Int)(p:Nat):List Int:=if(p:Int)=s\/(g.getD p []).length=0 then[0]else Fw (g.getD p []).length
def qW(g:List (List Int))(s:Int):List (List Int):=cZ ((List.range g.length).map (uc g s))
def CL(g:List (List Int))(s:Int):List (List Int):=(qW g s).filter fun rs=>Fu g rs s
def gT(s:Int)(p:Nat):Bool:= !decide ((p:Int)=s)
theorem jW{s:Int}{p:Nat}:gT s p=true↔(p:Int)≠s:=by unfold gT;simp
theorem ud{s:Int}{p:Nat}(e:(p:Int)=s):¬gT s p=true:=fun h=>jW.1 h e
theorem Fx(s:Int)(n:Nat):(((List.range n).filter (gT s)).map fun p:Nat=>(p:Int)).Nodup:=by
 unfold List.Nodup
 rw[List.pairwise_map]
 exact(List.Pairwise.filter _ List.nodup_range).imp fun h e=>h (by omega)
def fJ(g:List (List Int))(s:Int):Tn:=((List.range g.length).filter (gT s)).map fun p:Nat=>((p:Int),g.getD p [])
theorem ue{α:Type}:∀(cs:List (List α))(l:List α),l∈cZ cs↔l.length=cs.length/\∀i(h1:i<l.length)(h2:i<cs.length),l[i]∈cs[i]
 |[],l=>by
  rw[cZ,List.mem_singleton]
  constructor
  ·rintro rfl;exact⟨rfl,fun i h1=>absurd h1 (by simp)⟩
  ·rintro⟨h,_⟩;exact List.length_eq_zero_iff.1 h
 |c::cs,l=>by
  rw[cZ,List.mem_flatMap]
  constructor
  ·rintro⟨x,hx,hl⟩
   obtain⟨m,hm,rfl⟩:=List.mem_map.1 hl
   obtain⟨h1,h2⟩:=(ue cs m).1 hm
   refine⟨by simp[h1],fun i a b=> ?_⟩
   cases i with
   |zero=>exact hx
   |succ i=>exact h2 i (by simpa using a) (by simpa using b)
  ·rintro⟨h1,h2⟩
   cases l with
   |nil=>simp at h1
   |cons x m=>
    refine⟨x,h2 0 (by simp) (by simp),List.mem_map.2 ⟨m,(ue cs m).2 ⟨by simpa using h1,fun i a b=> ?_⟩,rfl⟩⟩
    exact h2 (i+1) (by simpa using a) (by simpa using b)
theorem OD{n:Nat}{x:Int}:x∈Fw n↔0<=x/\x<(n:Int):=by
 unfold Fw
 rw[List.mem_map]
 constructor
 ·rintro⟨i,hi,rfl⟩
  rw[List.mem_range]at hi
  omega
 ·rintro⟨h0,h1⟩
  exact⟨x.toNat,List.mem_range.2 (by omega),by omega⟩
theorem OE{g:List (List Int)}{s:Int}{rs:List Int}(hg:aM g=true){a:Int}(h0:0<=a)(h1:a<(g.length:Int))(h:rs∈qW g s):gv g (rs,a)/\(0<=s->rs.getD s.toNat 0=0):=by
 obtain⟨e1,e2⟩:=(ue _ _).1 h
 rw[List.length_map,List.length_range]at e1
 have e3:∀i(h:i<rs.length),rs[i]∈uc g s i:=fun i hi=>by
  have:=e2 i hi (by rw[List.length_map,List.length_range];omega)
  rw[List.getElem_map,List.getElem_range]at this
  exact this
 refine⟨⟨hg,e1,h0,h1,fun i hi gH=> ?_⟩,fun hs=> ?_⟩
 ·have:=e3 i hi
  unfold uc at this
  rw[aR gH]at this
  (try simp only)
  split at this
  ·rw[List.mem_singleton]at this
   (try simp only at this)
   omega
  ·have:=OD.1 this
   (try simp only at this)
   omega
 ·by_cases hh:s.toNat<rs.length
  ·have:=e3 s.toNat hh
   unfold uc at this
   rw[if_pos (.inl (by omega)),List.mem_singleton]at this
   rw[aN hh,this]
  ·rw[List.getD_eq_getElem?_getD,List.getElem?_eq_none (by omega)];rfl
theorem Bq{g:List (List Int)}{rs:List Int}{s p:Int}{n:Nat}:∀(r m j:Nat),(MJ (nx g rs) s n r m (cT g rs p j)).isSome=true->∃k,cT g rs p k=s
 |0,m,j,h=>by rw[MJ]at h;cases h
 |r+1,m,j,h=>by
  rw[MJ]at h
  by_cases e:cT g rs p j=s
  ·exact⟨j,e⟩
  ·rw[if_neg e]at h
   split at h
   ·cases h
   ·exact Bq r (m+1) (j+1) h
theorem Bs{g:List (List Int)}{rs:List Int}{s p:Int}{n:Nat}(hs:0<=s):∀(k r m j:Nat),cT g rs p (j+k)=s->m+k<=n+1->k<r->(MJ (nx g rs) s n r m (cT g rs p j)).isSome=true
 |k,0,m,j,_,_,h=>by omega
 |k,r+1,m,j,h,h1,h2=>by
  rw[MJ]
  by_cases e:cT g rs p j=s
  ·rw[if_pos e];rfl
  ·rw[if_neg e]
   cases k with
   |zero=>exact absurd h e
   |succ k=>
    have h3:¬nx g rs (cT g rs p j)<0:=fun hh=>by
     have:cT g rs p (j+1)<0:=hh
     have:=fP (m:=j+(k+1)) this (by omega)
     omega
    rw[if_neg (by omega)]
    exact Bs hs k r (m+1) (j+1) (by rw[show j+1+k=j+(k+1) by omega];exact h) (by omega) (by omega)
theorem LX{g:List (List Int)}{rs:List Int}{a s p:Int}(W:gv g (rs,a))(h0:0<=p)(h1:p<(g.length:Int))(hs:0<=s){k:Nat}(h:cT g rs p k=s):∃m,m<g.length/\cT g rs p m=s:=by
 by_cases hn:cT g rs p g.length<0
 ·refine⟨k,Nat.not_le.1 fun hh=> ?_,h⟩
  have:=fP hn hh
  omega
 ·obtain⟨i,d,e1,e2,e3⟩:=sG W h0 h1 (by omega)
  by_cases hk:k<g.length
  ·exact⟨k,hk,h⟩
  ·have:=wB e3 (k-i)
   rw[show i+(k-i)=k by omega,h]at this
   have:=Nat.mod_lt (k-i) (show 0<d by omega)
   exact⟨i+(k-i)%d,by omega,by omega⟩
theorem Bt{g:List (List Int)}{rs:List Int}{a s:Int}(W:gv g (rs,a))(hs:0<=s):Fu g rs s=true↔∀p:Nat,p<g.length->∃k,cT g rs p k=s:=by
 constructor
 ·intro h p hp
  have:(MJ (nx g rs) s g.length (g.length+3) 0 (cT g rs p 0)).isSome=true:=by
   show(MJ (nx g rs) s g.length (g.length+3) 0 p).isSome=true
   cases hh:MJ (nx g rs) s g.length (g.length+3) 0 p with
   |some m=>rfl
   |none=>
    exfalso
    have e1:LW g rs s (p+1)=none:=by
     rw[LW]
     cases LW g rs s p with
     |none=>rfl
     |some l=>(try simp only);rw[hh]
    unfold Fu at h
    rw[WG e1 (by omega)]at h
    cases h
  exact Bq _ _ _ this
 ·intro h
  refine Sv fun p hp=> ?_
  obtain⟨k,hk⟩:=h p hp
  obtain⟨m,hm,e⟩:=LX W (p:=(p:Int)) (by omega) (by omega) hs hk
  exact Bs (p:=(p:Int)) hs m _ 0 0 (by rw[Nat.zero_add];exact e) (by omega) (by omega)
def gC(g:List (List Int))(s:Int)(ps:List Nat)(rs:List Int):List (Int×Int):=((ps.zip rs).filter fun t=>gT s t.1).map fun t=>((t.1:Int),(g.getD t.1 []).getD t.2.toNat 0)
theorem Kk{g:List (List Int)}{s:Int}{p:Nat}(e:(p:Int)≠s)(r:Int)(ps:List Nat)(rs:List Int):gC g s (p::ps) (r::rs)=((p:Int),(g.getD p []).getD r.toNat 0)::gC g s ps rs:=by
 unfold gC
 rw[List.zip_cons_cons,List.filter_cons_of_pos (p:=fun t:Nat×Int=>gT s t.1) (a:=(p,r)) (jW.2 e),List.map_cons]
theorem Kl{g:List (List Int)}{s:Int}{p:Nat}(e:(p:Int)=s)(r:Int)(ps:List Nat)(rs:List Int):gC g s (p::ps) (r::rs)=gC g s ps rs:=by
 unfold gC
 rw[List.zip_cons_cons,List.filter_cons_of_neg (p:=fun t:Nat×Int=>gT s t.1) (a:=(p,r)) (ud e)]
theorem Sx(ex:List Int):(Fw ex.length).map (fun k=>ex.getD k.toNat 0)=ex:=by
 apply List.ext_getElem
 ·simp[Fw]
 ·intro i h1 h2
  simp only[Fw,List.getElem_map,List.getElem_range]
  rw[show((i:Nat):Int).toNat=i by omega,aN h2]
theorem Km(g:List (List Int))(s:Int):∀ps:List Nat,(∀p,p∈ps->(p:Int)≠s->(g.getD p []).length≠0)->
 (cZ (ps.map (uc g s))).map (fun rs=>(gC g s ps rs).map (·.2))=cZ ((ps.filter (gT s)).map fun p:Nat=>g.getD p [])
 |[],_=>rfl
 |p::ps,h=>by
  have ih:=Km g s ps fun q hq=>h q (List.mem_cons_of_mem _ hq)
  rw[List.map_cons,cZ,List.map_flatMap]
  by_cases e:(p:Int)=s
  ·have hc:uc g s p=[0]:=by unfold uc;rw[if_pos (.inl e)]
   rw[hc,List.filter_cons_of_neg (ud e),<-ih,List.flatMap_cons,List.flatMap_nil,List.append_nil,List.map_map]
   refine List.map_congr_left fun rs _=> ?_
   (try simp only[Function.comp])
   rw[Kl e]
  ·have hc:uc g s p=Fw (g.getD p []).length:=by
    unfold uc
    rw[if_neg fun hh=>by
     rcases hh with hh|hh
     ·exact e hh
     ·exact h p (List.mem_cons_self ..) e hh]
   rw[hc,List.filter_cons_of_pos (jW.2 e),List.map_cons,cZ,<-ih]
   have:∀l:List Int,(l.flatMap fun x=>((cZ (ps.map (uc g s))).map (x:: ·)).map fun rs=>(gC g s (p::ps) rs).map (·.2))=(l.map fun k=>(g.getD p []).getD k.toNat 0).flatMap fun x=>((cZ (ps.map (uc g s))).map fun rs=>(gC g s ps rs).map (·.2)).map (x:: ·):=by
    intro l
    rw[List.flatMap_map]
    congr 1
    funext x
    rw[List.map_map,List.map_map]
    refine List.map_congr_left fun rs _=> ?_
    (try simp only[Function.comp])
    rw[Kk e,List.map_cons]
   rw[this,Sx]
theorem pU(g:List (List Int))(s:Int):∀(ps:List Nat)(rs:List Int),rs.length=ps.length->(gC g s ps rs).map (·.1)=(ps.filter (gT s)).map fun p:Nat=>(p:Int)
 |[],rs,h=>by simp[gC]
 |p::ps,[],h=>by simp at h
 |p::ps,r::rs,h=>by
  have ih:=pU g s ps rs (by simpa using h)
  by_cases e:(p:Int)=s
  ·rw[Kl e,List.filter_cons_of_neg (ud e)]
   exact ih
  ·rw[Kk e,List.filter_cons_of_pos (jW.2 e),List.map_cons,List.map_cons,ih]
theorem Kn{g:List (List Int)}{s:Int}{rs:List Int}(h:rs.length=g.length){t:Int×Int}:t∈gC g s (List.range g.length) rs↔∃p:Nat,p<g.length/\(p:Int)≠s/\t=((p:Int),(g.getD p []).getD (rs.getD p 0).toNat 0):=by
 unfold gC
 rw[List.mem_map]
 constructor
 ·rintro⟨u,hu,rfl⟩
  rw[List.mem_filter]at hu
  obtain⟨i,hi,e⟩:=List.getElem_of_mem hu.1
  rw[List.length_zip,List.length_range]at hi
  rw[List.getElem_zip,List.getElem_range]at e
  have hir:i<rs.length:=by have:=Nat.min_le_right g.length rs.length;omega
  refine⟨i,by omega,?_,?_⟩
  ·have:=hu.2
   rw[<-e]at this
   exact jW.1 this
  ·rw[<-e]
   (try simp only)
   rw[aN hir]
 ·rintro⟨p,hp,eA,rfl⟩
  refine⟨(p,rs.getD p 0),List.mem_filter.2 ⟨?_,jW.2 eA⟩,rfl⟩
  have hz:p<((List.range g.length).zip rs).length:=by rw[List.length_zip,List.length_range];omega
  have:=List.getElem_mem hz
  rw[List.getElem_zip,List.getElem_range]at this
  rw[aN (by omega)]
  exact this
theorem LY{g:List (List Int)}{rs:List Int}{s p:Int}:∀k,cT g rs p k=s->∃m,m<=k/\cT g rs p m=s/\∀j,j<m->cT g rs p j≠s:=by
 intro k
 induction k using Nat.strongRecOn with
 |ind k ih=>
  intro h
  by_cases hx:∃j,j<k/\cT g rs p j=s
  ·obtain⟨j,a,b⟩:=hx
   obtain⟨m,m1,m2⟩:=ih j a b
   exact⟨m,by omega,m2⟩
  ·exact⟨k,Nat.le_refl _,h,fun j hj e=>hx ⟨j,hj,e⟩⟩
theorem yd{g:List (List Int)}{rs:List Int}(p:Int):∀k,cT g rs (nx g rs p) k=cT g rs p (k+1)
 |0=>rfl
 |k+1=>by rw[cT,yd p k];rfl
theorem Sy{g:List (List Int)}{s a:Int}{rs:List Int}(W:gv g (rs,a))(h0:0<=s)(h1:s<(g.length:Int))(eA:∀p:Nat,p<g.length->(p:Int)≠s->(g.getD p []).length≠0):
 MI (gC g s (List.range g.length) rs).length (gC g s (List.range g.length) rs)=Fu g rs s:=by
 have hl:rs.length=g.length:=W.len
 have hn:(gC g s (List.range g.length) rs).map (·.1)=((List.range g.length).filter (gT s)).map fun p:Nat=>(p:Int):=pU g s _ _ (by rw[List.length_range];exact hl)
 have nd:((gC g s (List.range g.length) rs).map (·.1)).Nodup:=by
  rw[hn]
  exact Fx s _
 have nm:∀x:Int,x∈(gC g s (List.range g.length) rs).map (·.1)↔0<=x/\x<(g.length:Int)/\x≠s:=fun x=>by
  rw[hn,List.mem_map]
  constructor
  ·rintro⟨p,hp,rfl⟩
   rw[List.mem_filter,List.mem_range]at hp
   have:=jW.1 hp.2
   omega
  ·rintro⟨a,b,c⟩
   exact⟨x.toNat,List.mem_filter.2 ⟨List.mem_range.2 (by omega),jW.2 (by omega)⟩,by omega⟩
 have nxe:∀p:Nat,p<g.length->(p:Int)≠s->(g.getD p []).getD (rs.getD p 0).toNat 0=nx g rs p/\0<=nx g rs p/\nx g rs p<(g.length:Int):=fun p hp qj=>by
  have a1:=eA p hp qj
  obtain⟨hr,hm,h2,e⟩:=wA W (p:=(p:Int)) (by omega) (by omega) (by rw[aR hp]at a1;exact a1)
  have hm':=(aT W.bE (List.getElem_mem (show(p:Int).toNat<g.length by omega))).2 _ (List.getElem_mem hm)
  refine⟨?_,by rw[e];omega,by rw[e];omega⟩
  unfold nx
  rw[if_neg (by omega),show((p:Nat):Int).toNat=p by omega,if_neg a1]
 rw[Bool.eq_iff_iff,CK _ _ rfl nd,Bt W h0]
 constructor
 ·rintro⟨rk,H⟩
  have:∀(n:Nat)(p:Nat),p<g.length->rk p<n->∃k,cT g rs p k=s:=by
   intro n
   induction n with
   |zero=>intro p _ h;omega
   |succ n ih=>
    intro p hp hk
    by_cases e:(p:Int)=s
    ·exact⟨0,e⟩
    ·obtain⟨x1,x2,x3⟩:=nxe p hp e
     by_cases e2:nx g rs p=s
     ·exact⟨1,e2⟩
     ·have:=H _ ((Kn hl).2 ⟨p,hp,e,rfl⟩) (by(try simp only);rw[x1];exact(nm _).2 ⟨x2,x3,e2⟩)
      (try simp only at this)
      rw[x1]at this
      obtain⟨k,QU⟩:=ih (nx g rs p).toNat (by omega) (by rw[show(((nx g rs p).toNat:Nat):Int)=nx g rs p by omega];omega)
      rw[show(((nx g rs p).toNat:Nat):Int)=nx g rs p by omega,yd]at QU
      exact⟨k+1,QU⟩
  exact fun p hp=>this _ p hp (Nat.lt_succ_self _)
 ·intro H
  have hf:∀p:Int,∃m:Nat,0<=p->p<(g.length:Int)->cT g rs p m=s/\∀j,j<m->cT g rs p j≠s:=fun p=>by
   by_cases hp:0<=p/\p<(g.length:Int)
   ·obtain⟨k,hk⟩:=H p.toNat (by omega)
    rw[show((p.toNat:Nat):Int)=p by omega]at hk
    obtain⟨m,_,m2⟩:=LY k hk
    exact⟨m,fun _ _=>m2⟩
   ·exact⟨0,fun a b=>absurd ⟨a,b⟩ hp⟩
  refine⟨fun p=>Classical.choose (hf p),fun t ht hm=> ?_⟩
  obtain⟨p,hp,qj,rfl⟩:=(Kn hl).1 ht
  obtain⟨x1,x2,x3⟩:=nxe p hp qj
  (try simp only at hm⊢)
  rw[x1]at hm⊢
  obtain⟨a1,a2⟩:=Classical.choose_spec (hf (nx g rs p)) x2 x3
  obtain⟨b1,b2⟩:=Classical.choose_spec (hf (p:Int)) (by omega) (by omega)
  revert a1 a2 b1 b2
  generalize Classical.choose (hf (nx g rs p))=u
  generalize Classical.choose (hf (p:Int))=v
  intro a1 a2 b1 b2
  cases v with
  |zero=>exact absurd b1 qj
  |succ v=>
   rw[<-yd]at b1
   refine Nat.not_le.1 fun hh=> ?_
   exact a2 v (by omega) b1
theorem prod_nil{α:Type}:∀cs:List (List α),[]∈cs->cZ cs=[]
 |[],h=>by simp at h
 |c::cs,h=>by
  rw[cZ]
  rcases List.mem_cons.1 h with h|h
  ·rw[<-h];rfl
  ·rw[prod_nil cs h]
   simp
theorem Fy{g:List (List Int)}{s:Int}(hg:aM g=true)(h0:0<=s)(h1:s<(g.length:Int)):((CL g s).length:Int)=cM (g.length-1) (iF (fJ g s)):=by
 have hl:(fJ g s).length=g.length-1:=by
  unfold fJ
  rw[List.length_map]
  have:∀n:Nat,((List.range n).filter (gT s)).length=if s.toNat<n then n-1 else n:=by
   intro n
   induction n with
   |zero=>rfl
   |succ n ih=>
    rw[List.range_succ,List.filter_append,List.length_append,ih]
    by_cases e:(n:Int)=s
    ·rw[List.filter_cons_of_neg (ud e),if_neg (by omega),if_pos (by omega)];simp
    ·rw[List.filter_cons_of_pos (jW.2 e)]
     by_cases c:s.toNat<n
     ·rw[if_pos c,if_pos (by omega)];simp;omega
     ·rw[if_neg c,if_neg (by omega)];simp
  rw[this,if_pos (by omega)]
 have nd:((fJ g s).map (·.1)).Nodup:=by
  unfold fJ
  rw[List.map_map]
  exact Fx s _
 rw[CJ _ _ hl nd,yc _ _ hl]
 congr 1
 unfold CL
 rw[<-List.countP_eq_length_filter]
 have ex:(fJ g s).map (·.2)=((List.range g.length).filter (gT s)).map fun p:Nat=>g.getD p []:=by
  unfold fJ
  rw[List.map_map]
  rfl
 have en:(fJ g s).map (·.1)=((List.range g.length).filter (gT s)).map fun p:Nat=>(p:Int):=by
  unfold fJ
  rw[List.map_map]
  rfl
 by_cases eA:∀p:Nat,p<g.length->(p:Int)≠s->(g.getD p []).length≠0
 ·rw[ex,<-Km g s (List.range g.length) fun p hp=>eA p (List.mem_range.1 hp),List.countP_map]
  show(qW g s).countP _=(qW g s).countP _
  refine List.countP_congr fun rs Sz=> ?_
  (try simp only[Function.comp])
  have W:=(OE (a:=s) hg h0 h1 Sz).1
  have hrl:rs.length=g.length:=W.len
  rw[en,<-pU g s (List.range g.length) rs (by rw[List.length_range];exact hrl)]
  have hz:((gC g s (List.range g.length) rs).map (·.1)).zip ((gC g s (List.range g.length) rs).map (·.2))=gC g s (List.range g.length) rs:=by
   generalize gC g s (List.range g.length) rs=l
   induction l with
   |nil=>rfl
   |cons a l ih=>rw[List.map_cons,List.map_cons,List.zip_cons_cons,ih]
  have hlen:(gC g s (List.range g.length) rs).length=g.length-1:=by
   have:=congrArg List.length (pU g s (List.range g.length) rs (by rw[List.length_range];exact hrl))
   rw[List.length_map]at this
   rw[this,<-en,List.length_map,hl]
  rw[hz,<-hlen,Sy W h0 h1 eA]
 ·have:∃p:Nat,p<g.length/\(p:Int)≠s/\(g.getD p []).length=0:=by
   refine Classical.byContradiction fun hh=>eA fun p hp qj hz=>hh ⟨p,hp,qj,hz⟩
  obtain⟨p,hp,qj,hz⟩:=this
  have e1:cZ ((fJ g s).map (·.2))=[]:=by
   refine prod_nil _ ?_
   rw[ex,List.mem_map]
   exact⟨p,List.mem_filter.2 ⟨List.mem_range.2 hp,jW.2 qj⟩,List.length_eq_zero_iff.1 hz⟩
  rw[e1,List.countP_nil,List.countP_eq_zero]
  intro rs Sz hh
  have W:=(OE (a:=s) hg h0 h1 Sz).1
  obtain⟨k,hk⟩:=(Bt W h0).1 hh p hp
  cases k with
  |zero=>exact qj hk
  |succ k=>
   have:cT g rs p 1<0:=by
    show nx g rs p<0
    unfold nx
    rw[if_neg (by omega),show((p:Nat):Int).toNat=p by omega,if_pos hz]
    omega
   have:=fP this (show 1<=k+1 by omega)
   omega
def Way(g:List (List Int))(p:Int):Nat->Int->Prop
 |0,q=>p=q
 |k+1,q=>∃x,Way g p k x/\q∈g.getD x.toNat []
theorem Way.rng{g:List (List Int)}(hg:aM g=true){p:Int}(h0:0<=p)(h1:p<(g.length:Int)):∀{k:Nat}{q:Int},Way g p k q->0<=q/\q<(g.length:Int)
 |0,q,h=>by rw[<-show p=q from h];exact⟨h0,h1⟩
 |k+1,q,h=>by
  obtain⟨x,hx,hq⟩:=h
  have hr:=Way.rng hg h0 h1 hx
  rw[aR (by omega)]at hq
  exact(aT hg (List.getElem_mem (show x.toNat<g.length by omega))).2 q hq
theorem Way.trans{g:List (List Int)}{p q r:Int}{a:Nat}(h:Way g p a q):∀{b:Nat},Way g q b r->Way g p (a+b) r
 |0,k=>by rw[<-show q=r from k];exact h
 |b+1,k=>by
  obtain⟨x,hx,hr⟩:=k
  exact⟨x,h.trans hx,hr⟩
theorem kS{l:List Int}{i j:Nat}{v:Int}(hi:i<l.length):(l.set i v).getD j 0=if i=j then v else l.getD j 0:=by
 rw[List.getD_eq_getElem?_getD,List.getElem?_set,List.getD_eq_getElem?_getD]
 by_cases h:i=j
 ·subst h;simp[hi]
 ·simp[h]
structure BIn(x:Int)(qs cU:List Int)(dL new:List Int):Prop where
 len:dL.length=cU.length
 rU:∀y:Nat,0<=cU.getD y 0->dL.getD y 0=cU.getD y 0
 WH:∀y:Nat,cU.getD y 0<0->dL.getD y 0=cU.getD y 0\/dL.getD y 0=cU.getD x.toNat 0+1/\(y:Int)∈qs/\(y:Int)∈new
 met:∀y,y∈qs->0<=dL.getD y.toNat 0
 nw:∀z,z∈new->z∈qs/\dL.getD z.toNat 0=cU.getD x.toNat 0+1
 cnt:new.length+iZ dL=iZ cU
theorem qX(x:Int):∀(qs cU out:List Int),(∀q,q∈qs->0<=q/\q<(cU.length:Int))->0<=cU.getD x.toNat 0->∃dL new,lF x qs (cU,out)=(dL,out++new)/\BIn x qs cU dL new
 |[],cU,out,_,_=>⟨cU,[],by rw[lF,List.append_nil],rfl,fun _ _=>rfl,fun _ _=> .inl rfl,fun y hy=>by simp at hy,fun z hz=>by simp at hz,by simp⟩
 |q::qs,cU,out,hr,hx=>by
  have hq:=hr q List.mem_cons_self
  rw[lF]
  by_cases hn:cU.getD q.toNat 0<0
  ·rw[if_pos hn]
   simp only
   have hqx:q.toNat≠x.toNat:=fun e=>by rw[e]at hn;omega
   have gx:(cU.set q.toNat (cU.getD x.toNat 0+1)).getD x.toNat 0=cU.getD x.toNat 0:=by rw[kS (by omega),if_neg hqx]
   obtain⟨dL,new,e,B⟩:=qX x qs (cU.set q.toNat (cU.getD x.toNat 0+1)) (out++[q]) (fun r h=>by rw[List.length_set];exact hr r (List.mem_cons_of_mem _ h)) (by rw[gx];exact hx)
   have hc:=xY (l:=cU) (i:=q.toNat) (v:=cU.getD x.toNat 0+1) (by omega) (by rw[<-aN (by omega)];exact hn) (by omega)
   have hqf:dL.getD q.toNat 0=cU.getD x.toNat 0+1:=by
    have:=B.rU q.toNat (by rw[kS (by omega),if_pos rfl];omega)
    rw[this,kS (by omega),if_pos rfl]
   refine⟨dL,q::new,by rw[e,List.append_assoc];rfl,by rw[B.len,List.length_set],fun y hy=> ?_,fun y hy=> ?_,fun y hy=> ?_,fun z hz=> ?_,by have:=B.cnt;simp only[List.length_cons];omega⟩
   ·have eA:q.toNat≠y:=fun e=>by rw[e]at hn;omega
    have:=B.rU y (by rw[kS (by omega),if_neg eA];exact hy)
    rw[this,kS (by omega),if_neg eA]
   ·by_cases eA:q.toNat=y
    ·subst eA
     refine .inr ⟨hqf,?_,?_⟩<;>rw[show((q.toNat:Nat):Int)=q by omega]<;>exact List.mem_cons_self
    ·have g1:(cU.set q.toNat (cU.getD x.toNat 0+1)).getD y 0=cU.getD y 0:=by rw[kS (by omega),if_neg eA]
     rcases B.WH y (by rw[g1];exact hy)with h|⟨h1,h2,h3⟩
     ·exact .inl (h.trans g1)
     ·exact .inr ⟨by rw[h1,gx],List.mem_cons_of_mem _ h2,List.mem_cons_of_mem _ h3⟩
   ·rcases List.mem_cons.1 hy with rfl|hy
    ·rw[hqf];omega
    ·exact B.met y hy
   ·rcases List.mem_cons.1 hz with rfl|hz
    ·exact⟨List.mem_cons_self,hqf⟩
    ·have:=B.nw z hz
     exact⟨List.mem_cons_of_mem _ this.1,by rw[this.2,gx]⟩
  ·rw[if_neg hn]
   obtain⟨dL,new,e,B⟩:=qX x qs cU out (fun r h=>hr r (List.mem_cons_of_mem _ h)) hx
   refine⟨dL,new,e,B.len,B.rU,fun y hy=> ?_,fun y hy=> ?_,fun z hz=>⟨List.mem_cons_of_mem _ (B.nw z hz).1,(B.nw z hz).2⟩,B.cnt⟩
   ·rcases B.WH y hy with h|⟨h1,h2,h3⟩
    ·exact .inl h
    ·exact .inr ⟨h1,List.mem_cons_of_mem _ h2,h3⟩
   ·rcases List.mem_cons.1 hy with rfl|hy
    ·rw[B.rU _ (by omega)];omega
    ·exact B.met y hy
structure BQ(g:List (List Int))(p:Int)(cU qu:List Int):Prop where
 len:cU.length=g.length
 way:∀y:Nat,y<g.length->0<=cU.getD y 0->Way g p (cU.getD y 0).toNat y
 lo:∀y:Nat,-1<=cU.getD y 0
 qin:∀x,x∈qu->0<=x/\x<(g.length:Int)/\0<=cU.getD x.toNat 0
 ord:qu.Pairwise fun a b=>cU.getD a.toNat 0<=cU.getD b.toNat 0
 top:∀x r,qu=x::r->∀y:Nat,y<g.length->cU.getD y 0<=cU.getD x.toNat 0+1
 done:∀x:Nat,x<g.length->0<=cU.getD x 0->(x:Int)∈qu\/∀y,y∈g.getD x []->0<=cU.getD y.toNat 0/\cU.getD y.toNat 0<=cU.getD x 0+1
 home:cU.getD p.toNat 0=0
 hi:∀y:Nat,y<g.length->cU.getD y 0+iZ cU<g.length
theorem Fz{g:List (List Int)}(hg:aM g=true){p:Int}:∀(f:Nat)(cU qu:List Int),BQ g p cU qu->qu.length+iZ cU<=f->BQ g p (CD g f cU qu) []
 |0,cU,qu,B,h=>by
  have:qu=[]:=List.eq_nil_of_length_eq_zero (by omega)
  subst this
  exact B
 |f+1,cU,[],B,h=>B
 |f+1,cU,x::rest,B,h=>by
  have hx:=B.qin x List.mem_cons_self
  have MH:x.toNat<g.length:=by omega
  have hq:∀q,q∈g.getD x.toNat []->0<=q/\q<(cU.length:Int):=fun q hq=>by
   rw[aR MH]at hq
   rw[B.len]
   exact(aT hg (List.getElem_mem MH)).2 q hq
  obtain⟨dL,new,e,C⟩:=qX x (g.getD x.toNat []) cU [] hq hx.2.2
  rw[CD,e]
  simp only[List.nil_append]
  have gx:dL.getD x.toNat 0=cU.getD x.toNat 0:=C.rU _ hx.2.2
  have al1:∀y:Nat,0<=cU.getD y 0->dL.getD y 0=cU.getD y 0:=C.rU
  have hle:∀y:Nat,y<g.length->dL.getD y 0<=cU.getD x.toNat 0+1:=fun y hy=>by
   by_cases h0:0<=cU.getD y 0
   ·rw[C.rU y h0];exact B.top x rest rfl y hy
   ·rcases C.WH y (by omega)with h|⟨h,_⟩
    ·rw[h];omega
    ·omega
  have FA:∀z,z∈rest->dL.getD z.toNat 0=cU.getD z.toNat 0:=fun z hz=>C.rU _ (B.qin z (List.mem_cons_of_mem _ hz)).2.2
  obtain⟨o1,o2⟩:=List.pairwise_cons.1 B.ord
  refine Fz hg f dL (rest++new) ⟨by rw[C.len,B.len],fun y hy h0=> ?_,fun y=> ?_,fun z hz=> ?_,?_,fun z r hz y hy=> ?_,fun y hy h0=> ?_,?_,fun y hy=> ?_⟩ ?_
  ·by_cases h1:0<=cU.getD y 0
   ·rw[C.rU y h1];exact B.way y hy h1
   ·rcases C.WH y (by omega)with h|⟨h,h2,_⟩
    ·rw[h]at h0;omega
    ·rw[h,show(cU.getD x.toNat 0+1).toNat=(cU.getD x.toNat 0).toNat+1 by omega]
     refine⟨x,?_,h2⟩
     have:=B.way x.toNat MH hx.2.2
     rwa [show((x.toNat:Nat):Int)=x by omega]at this
  ·by_cases h1:0<=cU.getD y 0
   ·rw[C.rU y h1];omega
   ·have:=B.lo y
    rcases C.WH y (by omega)with h|⟨h,_⟩<;>omega
  ·rcases List.mem_append.1 hz with hz|hz
   ·have:=B.qin z (List.mem_cons_of_mem _ hz)
    exact⟨this.1,this.2.1,by rw[FA z hz];exact this.2.2⟩
   ·have a:=C.nw z hz
    have b:=hq z a.1
    rw[B.len]at b
    exact⟨b.1,b.2,by rw[a.2];omega⟩
  ·rw[List.pairwise_append]
   refine⟨o2.imp_of_mem fun{a b} ha hb hab=>by rw[FA a ha,FA b hb];exact hab,?_,fun a ha b hb=> ?_⟩
   ·rw[List.pairwise_iff_getElem]
    intro i j hi hj _
    rw[(C.nw _ (List.getElem_mem hi)).2,(C.nw _ (List.getElem_mem hj)).2]
    omega
   ·rw[FA a ha,(C.nw b hb).2]
    have:=B.qin a (List.mem_cons_of_mem _ ha)
    exact B.top x rest rfl a.toNat (by omega)
  ·have hz1:cU.getD x.toNat 0<=dL.getD z.toNat 0:=by
    have hzm:z∈rest++new:=by rw[hz];exact List.mem_cons_self
    rcases List.mem_append.1 hzm with h|h
    ·rw[FA z h];exact o1 z h
    ·rw[(C.nw z h).2];omega
   have:=hle y hy
   omega
  ·by_cases hyx:(y:Int)=x
   ·refine .inr fun z hz=> ?_
    have ajv:y=x.toNat:=by omega
    rw[ajv]at hz⊢
    have:=hq z hz
    rw[B.len]at this
    exact⟨C.met z hz,by rw[gx];exact hle z.toNat (by omega)⟩
   ·by_cases h1:0<=cU.getD y 0
    ·rcases B.done y hy h1 with h|h
     ·rcases List.mem_cons.1 h with h|h
      ·exact absurd h hyx
      ·exact .inl (List.mem_append.2 (.inl h))
     ·refine .inr fun z hz=> ?_
      obtain⟨a,b⟩:=h z hz
      rw[C.rU _ a,C.rU _ h1]
      exact⟨a,b⟩
    ·rcases C.WH y (by omega)with h|⟨_,_,h⟩
     ·rw[h]at h0;omega
     ·exact .inl (List.mem_append.2 (.inr h))
  ·rw[C.rU _ (by rw[B.home];omega)];exact B.home
  ·have hc:=C.cnt
   by_cases h1:0<=cU.getD y 0
   ·rw[C.rU y h1];have:=B.hi y hy;omega
   ·rcases C.WH y (by omega)with h|⟨h,_,h3⟩
    ·rw[h];have:=B.hi y hy;omega
    ·have:=List.length_pos_of_mem h3
     have:=B.hi x.toNat MH
     rw[h];omega
  ·have:=C.cnt
   simp only[List.length_cons,List.length_append]at*
   omega
theorem Ih{g:List (List Int)}(hg:aM g=true){p:Int}(h0:0<=p)(h1:p<(g.length:Int)):BQ g p (gr g p) []:=by
 obtain⟨b1,b2⟩:=WC (n:=g.length) (p:=p.toNat) (by omega)
 have gd:∀y:Nat,((List.replicate g.length (-1:Int)).set p.toNat 0).getD y 0=if p.toNat=y then 0 else if y<g.length then-1 else 0:=fun y=>by
  rw[kS (by simp;omega)]
  split
  ·rfl
  ·rw[List.getD_eq_getElem?_getD,List.getElem?_replicate];split<;>rfl
 refine Fz hg g.length _ [p] ⟨by simp,fun y hy h=> ?_,fun y=> ?_,fun x hx=> ?_,by simp,fun x r hx y hy=> ?_,fun x hx h=> ?_,?_,fun y hy=> ?_⟩ (by simp only[List.length_cons,List.length_nil];omega)
 ·rw[gd]at h⊢
  split at h
  ·rename_i e
   rw[if_pos e]
   show p=(y:Int)
   omega
  ·simp at h
 ·rw[gd];split
  ·omega
  ·split<;>omega
 ·simp only[List.mem_cons,List.not_mem_nil,or_false]at hx
  subst hx
  exact⟨h0,h1,by rw[gd,if_pos rfl];omega⟩
 ·simp only[List.cons.injEq]at hx
  rw[<-hx.1,gd,gd,if_pos rfl]
  split
  ·omega
  ·(try split)<;>omega
 ·rw[gd]at h
  split at h
  ·exact .inl (by simp;omega)
  ·simp at h
 ·rw[gd,if_pos rfl]
 ·rw[gd]
  split
  ·omega
  ·(try split)<;>omega
theorem Ii{g:List (List Int)}(hg:aM g=true){p:Int}(h0:0<=p)(h1:p<(g.length:Int)):∀{k:Nat}{q:Int},Way g p k q->0<=(gr g p).getD q.toNat 0/\(gr g p).getD q.toNat 0<=k
 |0,q,h=>by rw[<-show p=q from h,(Ih hg h0 h1).home];omega
 |k+1,q,h=>by
  obtain⟨x,hx,hq⟩:=h
  obtain⟨a,b⟩:=Ii hg h0 h1 hx
  have hr:=hx.rng hg h0 h1
  rcases(Ih hg h0 h1).done x.toNat (by omega) a with c|c
  ·simp at c
  ·have:=c q hq
   omega
theorem wF{g:List (List Int)}(hg:aM g=true){p q:Int}(h0:0<=p)(h1:p<(g.length:Int))(q0:0<=q)(q1:q<(g.length:Int))(h:0<=(gr g p).getD q.toNat 0):Way g p ((gr g p).getD q.toNat 0).toNat q:=by
 have:=(Ih hg h0 h1).way q.toNat (by omega) h
 rwa [show((q.toNat:Nat):Int)=q by omega]at this
@[reducible] def SA:TypeId:=52
theorem SB:ni Tryz.prog SA=some (9,1,16,[VS (⟨#[]⟩:ByteArray)]):=by kernel_rfl
theorem SC(xs:List ByteArray):(xs.map VS).all fu=true:=by simp[List.all_eq_true,fu]
@[reducible] def He(h:Heap)(F:Nat->Prop)(s:Sl)(xs:List ByteArray):Prop:=Ow h F 9 1 s (xs.map VS)
theorem Ij(g o j:Nat):(⟨g,o,none⟩:Addr).add j=⟨g,o+j,none⟩:=by
 unfold Addr.add
 by_cases h:j=0<;>simp[h]
theorem Ko(w:World)(a:Addr):w.cell? a=aQ w.heap a:=rfl
theorem eX(a b:List UInt8):((⟨a.toArray⟩:ByteArray)++(⟨b.toArray⟩:ByteArray))=⟨(a++b).toArray⟩:=by
 apply ByteArray.ext
 simp[ByteArray.data_append]
theorem bZ(a:List UInt8):(⟨a.toArray⟩:ByteArray).size=a.length:=by simp[ByteArray.size]
theorem sN{n:Nat}(h:n<100):(Lib.decDigits n).length<=2:=by
 by_cases h1:n<10
 ·rw[Lib.decDigits_one h1];simp
 ·rw[Lib.decDigits_two h1 h];simp
theorem ye:∀(xs:List (List UInt8)),(∀x,x∈xs->x.length<=2)->(Lib.join xs [44]).length<=3*xs.length
 |[],_=>by simp[Lib.join_nil]
 |x::r,h=>by
  rw[Lib.join_length]
  have:∀(l:List (List UInt8)),(∀x,x∈l->x.length<=2)->Lib.lens l<=2*l.length:=by
   intro l
   induction l with
   |nil=>intro _;simp[Lib.lens]
   |cons a l ih=>
    intro hl
    have h1:=ih fun y hy=>hl y (List.mem_cons_of_mem _ hy)
    have h2:=hl a (List.mem_cons_self ..)
    simp only[Lib.lens,List.map_cons,List.sum_cons,List.length_cons]at h1⊢
    omega
  have:=this _ h
  simp only[List.length_cons,List.length_nil]at this⊢
  omega
def dS(rs:List Int):List UInt8:=if rs.length=0 then[45]else Lib.join (rs.map fun x=>Lib.decDigits x.toNat) [44]
theorem uf{rs:List Int}(h:∀x,x∈rs->0<=x/\x<100):(dS rs).length<=3*rs.length+1:=by
 unfold dS
 split
 ·simp
 ·have:=ye (rs.map fun x=>Lib.decDigits x.toNat) fun y hy=>by
   obtain⟨x,hx,rfl⟩:=List.mem_map.1 hy
   exact sN (by have:=h x hx;omega)
  rw[List.length_map]at this
  omega
theorem OG{h:Heap}{n:Int}(h0:0<=n)(h1:n<100)(K:Value->Heap->Prop)(HK:K (VS ⟨(Lib.decDigits n.toNat).toArray⟩) h):aE Tryz.prog 92 #[VI n] h K:=by
 obtain⟨i,rfl⟩:∃i:Nat,n=(i:Int):=⟨n.toNat,by omega⟩
 refine⟨fun w hw=> .inr ⟨92,_,w,Go.Proofs.enters_of Tryz.func92 (by kernel_rfl) rfl _ _,rfl,?_⟩⟩
 subst hw
 refine(Tryz.strconv_Itoa_small i (by omega) w).mono ?_
 rintro e w' ⟨rfl,rfl⟩
 rw[Int.toNat_natCast]at HK
 exact⟨_,rfl,cO.refl _,HK⟩
theorem Ik{S:Nat->Prop}{h:Heap}{s:Sl}{ts:List ByteArray}{sep:ByteArray}(H:cY S h 1 s (ts.map VS))(eA:ts≠[])(hN:ts.length<=1000000)(hl:(Lib.join (ts.map (·.data.toList)) sep.data.toList).length<=1000000)(K:Value->Heap->Prop)(HK:∀h',Fr No h h'->K (VS ⟨(Lib.join (ts.map (·.data.toList)) sep.data.toList).toArray⟩) h'):aE Tryz.prog 90 #[s.v,VS sep] h K:=by
 refine⟨fun w hw=> .inr ⟨90,_,w,Go.Proofs.enters_of Tryz.func90 (by kernel_rfl) rfl _ _,rfl,?_⟩⟩
 subst hw
 have hlen:=H.len
 simp only[List.length_map,Nat.mul_one]at hlen
 have RX:=H.cap
 have ajw:0<ts.length:=List.length_pos_iff.2 eA
 obtain⟨a,ha,_,hc⟩:=cY.cell H 0 (by simpa using ajw)
 have Nd:a.spot=none:=by
  cases hs:a.spot with
  |none=>rfl
  |some sp=>exfalso;unfold aQ at hc;simp[Addr.add,hs]at hc;split at hc<;>simp at hc
 obtain⟨g,o,q⟩:=a
 simp only at Nd
 subst Nd
 have hv:s.v= .slice (some ⟨g,o,none⟩) ts.length s.c:=by unfold Sl.v;rw[ha,hlen]
 rw[hv]
 refine(Tryz.strings_Join g o s.c ts sep w (fun j x hj=> ?_) ?_ (by omega) (by omega) (by omega)).mono ?_
 ·have Ib:j<ts.length:=(List.getElem?_eq_some_iff.1 hj).1
  obtain⟨a',Ha,_,QN⟩:=cY.cell H j (by simp;omega)
  rw[ha]at Ha
  cases Ha
  rw[Ij]at QN
  rw[Ko,QN]
  rw[List.getElem?_eq_getElem Ib]at hj
  simp only[Option.some.injEq]at hj
  simp[hj]
 ·have:=mh hc;rw[ky]at this;exact this
 ·rintro e w' ⟨rfl,hb⟩
  exact⟨_,rfl,⟨hb.os,hb.tape,hb.output⟩,HK _ ⟨hb.size,fun k hk _=>hb.block k hk⟩⟩
theorem sO{L:List (Nat×List Value)}{F:Nat->Prop}{h:Heap}{o:Sl}{xs:List ByteArray}{x:ByteArray}(O:He h F o xs)(hF:∀k,h.size<=k->F k)(hL:Vars h L)(tZ:∀p,p∈L->¬F p.1)(hb:xs.length<=1000000)(R:Sl->Heap->Prop)(HR:∀t h',He h' F t (xs++[x])->Fr F h h'->Vars h' L->R t h'):kE Tryz.prog (Instr.buildSlice SA 1 #[(0,VS x)]) h fun rv h1=>∃t:Sl,rv=t.v/\Vars h1 L/\kE Tryz.prog (bR SA SA SA o.v t.v) h1 fun Ia h2=>∃t2:Sl,Ia=t2.v/\Vars h2 L/\R t2 h2:=by
 refine aS SB (fun k=>h.size<=k) (fun _ h=>h) 1 (by omega) [VS x] rfl rfl fun t h1 n1 c1 o1 f1 m1 _=>⟨t,rfl,hL.aB f1,?_⟩
 have z1:=f1.size
 have O1:He h1 F o xs:=Ow.no O f1
 have on:=O1.rd.len
 have tn:=o1.rd.len
 simp only[List.length_map,Nat.mul_one,List.length_cons,List.length_nil]at on tn
 refine bQ SB O1 (fun k hk=>hF k (by omega)) o1.rd (SC [x]) (by omega) fun s' h2 n2 o2 f2 d2=> ?_
 have g2:Fr F h1 h2:=f2.mono fun k _ hk=>(O1.aG hk).1
 have V2:Vars h2 L:=(hL.aB f1).fr g2 tZ
 exact⟨s',rfl,V2,HR s' h2 (by rw[He,List.map_append];exact o2) (f1.aB.trans g2) V2⟩
theorem yf{S:Nat->Prop}{h:Heap}{s:Sl}{rs:List Int}(H:aP S h s rs)(B:∀x,x∈rs->0<=x/\x<100)(hn:rs.length<=1000)(K:Value->Heap->Prop)(HK:∀h',Fr No h h'->K (VS ⟨(dS rs).toArray⟩) h'):aE Tryz.prog 89 #[s.v] h K:=by
 have sn:=aP.len H
 refine v89 s h K ⟨fun e=> ?_,fun e=> ?_⟩
 ·simp only[decide_eq_true_eq]at e
  have:=HK h (Fr.refl _ _)
  unfold dS at this
  rw[if_pos (by omega)]at this
  exact this
 simp only[decide_eq_false_iff_not]at e
 refine aS SB (fun k=>h.size<=k) (fun _ h=>h) 0 (by omega) [] rfl rfl fun o h1 n1 c1 o1 f1 m1 _=>⟨o,rfl,.nil,?_⟩
 have z1:=f1.size
 have Sa:He h1 (fun k=>h.size<=k) o []:=o1
 have vB:∀{x:Heap},Fr (fun k=>h.size<=k) h x->Fr No h x:=fun f=>f.mono fun k hk aI=>absurd aI (by omega)
 refine⟨fun m x p h'=>0<=p/\p+m=(rs.length:Int)/\He h' (fun k=>h.size<=k) x ((rs.take p.toNat).map fun y=>(⟨(Lib.decDigits y.toNat).toArray⟩:ByteArray))/\Fr (fun k=>h.size<=k) h h',⟨rs.length,by omega,by omega,by simpa using Sa,f1.aB⟩,?_⟩
 rintro m x p h2 ⟨p0,p1,o2,f2⟩ bP
 have z2:=f2.size
 have H2:=H.no (vB f2)
 refine⟨fun e2=> ?_,fun e2=> ?_⟩
 ·have hp:=H2.lt e2
  have bx:=B _ (List.getElem_mem (show p.toNat<rs.length by omega))
  refine⟨H2.bB p0 hp,_,H2.get p0 hp,OG bx.1 bx.2 _ ⟨_,rfl,.nil,?_⟩⟩
  refine sO o2 (fun k hk=>by omega) .nil (fun q hq=>by cases hq) (by simp;omega) _ fun t h5 o5 f5 _=> ?_
  rw[H2.succ p0 hp]
  refine⟨m-1,by omega,by omega,by omega,?_,f2.trans f5⟩
  rw[show(p+1).toNat=p.toNat+1 by omega,List.take_add_one,List.getElem?_eq_getElem (show p.toNat<rs.length by omega)]
  rw[List.map_append]
  exact o5
 ·have hp:=H2.ge e2
  rw[List.take_of_length_le (by omega)]at o2
  have hm:((rs.map fun y=>(⟨(Lib.decDigits y.toNat).toArray⟩:ByteArray)).map (·.data.toList))=rs.map fun y=>Lib.decDigits y.toNat:=by simp
  have WA:=ye (rs.map fun x=>Lib.decDigits x.toNat) fun y hy=>by
   obtain⟨x,hx,rfl⟩:=List.mem_map.1 hy
   exact sN (by have:=B x hx;omega)
  rw[List.length_map]at WA
  refine Ik o2.fa (fun hh=>by have:=congrArg List.length hh;simp at this;simp[this]at sn;omega) (by simp;omega) (by rw[hm];show(Lib.join _ [44]).length<=_;omega) _ fun h3 f3=>⟨_,rfl,.nil,?_⟩
  have:=HK h3 ((vB f2).trans f3)
  unfold dS at this
  rw[if_neg (by omega)]at this
  rw[hm]
  exact this
theorem WI:ni Tryz.prog 22=some (5,1,1,[.int .u8 0]):=by kernel_rfl
theorem sP{F:Nat->Prop}{h:Heap}{s:Sl}{x:Int}{bs:List UInt8}(H:cY F h 1 s [Value.int .u8 x])(hb:(strOfNums [x])=⟨bs.toArray⟩){K:Value->Prop}(HK:K (VS ⟨bs.toArray⟩)):zS Tryz.prog (convert 22 9 s.v) h K:=by
 have hlen:=H.len
 simp only[List.length_cons,List.length_nil,Nat.mul_one]at hlen
 obtain⟨a,ha,_,hc⟩:=cY.cell H 0 (by simp)
 have Nd:a.spot=none:=by
  cases hs:a.spot with
  |none=>rfl
  |some sp=>exfalso;unfold aQ at hc;simp[Addr.add,hs]at hc;split at hc<;>simp at hc
 obtain⟨g,o,q⟩:=a
 simp only at Nd
 subst Nd
 have hv:s.v= .slice (some ⟨g,o,none⟩) 1 s.c:=by unfold Sl.v;rw[ha,<-hlen]
 refine⟨_,fun w hw=> ?_,HK⟩
 subst hw
 rw[hv,run_convert_bytes_arg w 22 5 (by kernel_rfl) (by kernel_rfl) g o 1 s.c [x] rfl (fun i hi=>by
  have:i=0:=by omega
  subst this
  rw[Ij]at hc
  rw[Ko,hc]
  rfl) 9 (by kernel_rfl),hb]
theorem Kp{h:Heap}{n:Int}(h0:0<=n)(h1:n<10)(K:Value->Heap->Prop)(HK:∀h',Fr No h h'->K (VS ⟨(Lib.decDigits n.toNat).toArray⟩) h'):aE Tryz.prog 73 #[VI n] h K:=by
 refine v73 n h K ⟨fun e=> ?_,fun e=> ?_⟩
 ·rw[aH _ (by omega) (by omega)]
  refine kP (show Tryz.prog.underlying _=some (.int .i64)from by kernel_rfl) (show Tryz.prog.underlying _=some (.int .u8)from by kernel_rfl) (48+n) ⟨48+n,?_,?_⟩
  ·show Value.int .u8 (IntKind.u8.wrap (48+n))=_
   have:IntKind.u8.wrap (48+n)=48+n:=by
    show(48+n)%256=48+n
    omega
   rw[this]
  refine aS WI (fun k=>h.size<=k) (fun _ h=>h) 1 (by omega) [.int .u8 (48+n)] rfl rfl fun w h6 n6 c6 o6 f6 m6 _=>⟨w,rfl,.nil,?_⟩
  refine sP (bs:=Lib.decDigits n.toNat) o6.fa ?_ ⟨_,rfl,HK h6 f6⟩
  rw[Lib.decDigits_one (show n.toNat<10 by omega)]
  apply ByteArray.ext
  apply Array.toList_inj.1
  rw[strOfNums_data]
  simp only[List.map_cons,List.map_nil,List.cons.injEq,and_true]
  have:(48+n).toNat=48+n.toNat:=by omega
  rw[this]
 ·simp only[decide_eq_false_iff_not]at e
  omega
theorem qY(c:UInt8):∀(xs:List (List UInt8)),(∀x,x∈xs->x.length<=40)->(Lib.join xs [c]).length<=41*xs.length
 |[],_=>by simp[Lib.join_nil]
 |x::r,h=>by
  rw[Lib.join_length]
  have:∀(l:List (List UInt8)),(∀x,x∈l->x.length<=40)->Lib.lens l<=40*l.length:=by
   intro l
   induction l with
   |nil=>intro _;simp[Lib.lens]
   |cons a l ih=>
    intro hl
    have h1:=ih fun y hy=>hl y (List.mem_cons_of_mem _ hy)
    have h2:=hl a (List.mem_cons_self ..)
    simp only[Lib.lens,List.map_cons,List.sum_cons,List.length_cons]at h1⊢
    omega
  have:=this _ h
  simp only[List.length_cons,List.length_nil]at this⊢
  omega
theorem LZ(xs:List (List UInt8))(y sep:List UInt8):Lib.join (xs++[y]) sep=Lib.join xs sep++(if xs.length=0 then[]else sep)++y:=by
 cases xs with
 |nil=>simp[Lib.join_nil,Lib.join_one]
 |cons x r=>
  rw[List.cons_append,Lib.join_cons,Lib.join_cons]
  simp[Lib.joinTail]
theorem ug{α:Type}(f:α->List UInt8)(sep:List UInt8){xs:List α}{i:Nat}(hi:i<xs.length):Lib.join ((xs.take (i+1)).map f) sep=Lib.join ((xs.take i).map f) sep++(if i=0 then[]else sep)++f xs[i]:=by
 rw[List.take_add_one,List.getElem?_eq_getElem hi,Option.toList_some,List.map_append,List.map_cons,List.map_nil,LZ]
 congr 2
 simp only[List.length_map,List.length_take]
 by_cases h:i=0
 ·simp[h]
 ·rw[if_neg h,if_neg (by omega)]
def gU(c:UInt8):List UInt8->List (List UInt8)
 |[]=>[[]]
 |x::l=>if x=c then[]::gU c l else match gU c l with
  |[]=>[[x]]
  |w::ws=>(x::w)::ws
def uh(c:UInt8):List (List UInt8)->List UInt8
 |[]=>[]
 |[w]=>w
 |w::v::ws=>w++c::uh c (v::ws)
theorem sQ(c:UInt8):∀ws,Lib.join ws [c]=uh c ws
 |[]=>rfl
 |[w]=>by simp[Lib.join,uh,List.intercalate]
 |w::v::ws=>by
  rw[uh,<-sQ c (v::ws)]
  simp[Lib.join,List.intercalate]
theorem Bu(c:UInt8):∀l,gU c l≠[]
 |[]=>by simp[gU]
 |x::l=>by
  rw[gU]
  split
  ·simp
  ·split<;>simp
theorem ui(c:UInt8):∀l,(gU c l).length<=l.length+1
 |[]=>Nat.le_refl _
 |x::l=>by
  have ih:=ui c l
  rw[gU,List.length_cons]
  split
  ·rw[List.length_cons];omega
  ·split
   ·simp
   ·rename_i h
    rw[h]at ih
    rw[List.length_cons]at ih⊢
    omega
theorem wG(c:UInt8)(w:List UInt8){ws:List (List UInt8)}(h:ws≠[]):uh c (w::ws)=w++c::uh c ws:=by
 cases ws with
 |nil=>exact absurd rfl h
 |cons v ws=>rfl
theorem FB(c:UInt8):∀l,uh c (gU c l)=l
 |[]=>rfl
 |x::l=>by
  have ih:=FB c l
  have hn:=Bu c l
  rw[gU]
  by_cases e:x=c
  ·rw[if_pos e,wG c [] hn,ih,e];rfl
  ·rw[if_neg e]
   cases h:gU c l with
   |nil=>exact absurd h hn
   |cons w ws=>
    rw[h]at ih
    (try simp only)
    cases ws with
    |nil=>rw[uh]at ih⊢;rw[ih]
    |cons v ws=>rw[uh]at ih⊢;rw[<-ih];rfl
theorem CM{c:UInt8}:∀{w:List UInt8},c∉w->gU c w=[w]
 |[],_=>rfl
 |x::w,h=>by
  have h1:x≠c:=fun e=>h (e▸List.mem_cons_self)
  have h2:c∉w:=fun e=>h (List.mem_cons_of_mem _ e)
  rw[gU,if_neg h1,CM h2]
theorem Il{c:UInt8}(r:List UInt8):∀{w:List UInt8},c∉w->gU c (w++c::r)=w::gU c r
 |[],_=>by rw[List.nil_append,gU,if_pos rfl]
 |x::w,h=>by
  have h1:x≠c:=fun e=>h (e▸List.mem_cons_self)
  have h2:c∉w:=fun e=>h (List.mem_cons_of_mem _ e)
  rw[List.cons_append,gU,if_neg h1,Il r h2]
theorem OH{c:UInt8}:∀{ws:List (List UInt8)},ws≠[]->(∀w,w∈ws->c∉w)->gU c (uh c ws)=ws
 |[],h,_=>absurd rfl h
 |[w],_,h=>by rw[uh];exact CM (h w List.mem_cons_self)
 |w::v::ws,_,h=>by
  rw[uh,Il _ (h w List.mem_cons_self),OH (by simp) fun u hu=>h u (List.mem_cons_of_mem _ hu)]
theorem CN{c:UInt8}:∀{l:List UInt8},Lib.indexByte l c= -1->gU c l=[l]
 |[],_=>rfl
 |x::l,h=>by
  unfold Lib.indexByte at h
  by_cases e:x=c
  ·rw[if_pos (beq_iff_eq.2 e)]at h;cases h
  ·rw[if_neg (fun h=>e (beq_iff_eq.1 h))]at h
   have hg:=Lib.indexByte_ge l c
   split at h
   ·rename_i hm
    rw[gU,if_neg e,CN (beq_iff_eq.1 hm)]
   ·omega
theorem Im{c:UInt8}:∀{l:List UInt8}{i:Nat},Lib.indexByte l c=i->gU c l=l.take i::gU c (l.drop (i+1))
 |[],i,h=>by simp[Lib.indexByte]at h
 |x::l,i,h=>by
  unfold Lib.indexByte at h
  by_cases e:x=c
  ·rw[if_pos (beq_iff_eq.2 e)]at h
   have:i=0:=by omega
   subst this
   rw[gU,if_pos e]
   rfl
  ·rw[if_neg (fun h=>e (beq_iff_eq.1 h))]at h
   have hg:=Lib.indexByte_ge l c
   split at h
   ·omega
   ·rename_i hm
    have hm:Lib.indexByte l c≠ -1:=fun h=>hm (beq_iff_eq.2 h)
    obtain⟨j,hj⟩:∃j:Nat,i=j+1:=⟨i-1,by omega⟩
    subst hj
    rw[gU,if_neg e,Im (i:=j) (by omega)]
    rfl
theorem FC(c:UInt8):∀(n:Nat)(l:List UInt8),l.length<=n->Lib.splitK [c] 0 (Lib.count l [c]) l=gU c l
 |n,l,hn=>by
  have hi:=Lib.index_one l c
  have hg:=Lib.indexByte_ge l c
  by_cases h:Lib.indexByte l c= -1
  ·rw[Lib.count_miss (by rw[hi];exact h),Lib.splitK,CN h]
  ·obtain⟨i,wC⟩:∃i:Nat,Lib.indexByte l c=i:=⟨(Lib.indexByte l c).toNat,by omega⟩
   have hl:l≠[]:=fun e=>by rw[e]at h;exact h rfl
   rw[Lib.count_hit (by simp) (by rw[hi];exact wC),Nat.add_comm,Lib.splitK,hi,wC,if_neg (fun e=>by have:=beq_iff_eq.1 e;omega),Im wC]
   rw[Int.toNat_natCast,Nat.add_zero,List.length_singleton]
   congr 1
   cases n with
   |zero=>exact absurd (List.length_eq_zero_iff.1 (by omega)) hl
   |succ n=>exact FC c n _ (by have:=List.length_pos_iff.2 hl;rw[List.length_drop];omega)
def uj(g:List (List Int)):List UInt8:=Lib.join (g.map dS) [59]
def tK(x:List UInt8):Option Int:=match Lib.atoiAll x with
 | .ok n=>if Lib.itoa n=x then some n else none
 |_=>none
def gK{α β:Type}(f:α->Option β):List α->Option (List β)
 |[]=>some []
 |x::l=>match f x with
  |none=>none
  |some y=>match gK f l with
   |none=>none
   |some ys=>some (y::ys)
def Io(w:List UInt8):Option (List Int):=if w=[45]then some []else gK tK (gU 44 w)
def pf(s:List UInt8):Option (List (List Int)):=match gK Io (gU 59 s)with
 |some g=>if aM g=true then some g else none
 |none=>none
theorem mH{α β:Type}{f:α->Option β}:∀{l:List α}{r:List β},gK f l=some r->r.length=l.length/\∀i(h:i<l.length)(h':i<r.length),f l[i]=some r[i]
 |[],r,h=>by
  simp only[gK,Option.some.injEq]at h
  subst h
  exact⟨rfl,fun i h=>by simp at h⟩
 |x::l,r,h=>by
  rw[gK]at h
  cases hx:f x with
  |none=>rw[hx]at h;cases h
  |some y=>
   rw[hx]at h
   cases hl:gK f l with
   |none=>rw[hl]at h;cases h
   |some ys=>
    rw[hl]at h
    have h:=Option.some.inj h
    subst h
    obtain⟨h1,h2⟩:=mH hl
    refine⟨by simp[h1],fun i a b=> ?_⟩
    cases i with
    |zero=>exact hx
    |succ i=>exact h2 i _ _
theorem yg{α β:Type}{f:α->Option β}{g:β->α}:∀{l:List β},(∀x,x∈l->f (g x)=some x)->gK f (l.map g)=some l
 |[],_=>rfl
 |x::l,h=>by rw[List.map_cons,gK,h x List.mem_cons_self,yg fun y hy=>h y (List.mem_cons_of_mem _ hy)]
theorem Kq{α β:Type}{f:α->Option β}{g:β->α}{l:List α}{r:List β}(h:gK f l=some r)(hg:∀x y,y∈r->f x=some y->g y=x):r.map g=l:=by
 obtain⟨h1,h2⟩:=mH h
 apply List.ext_getElem (by rw[List.length_map,h1])
 intro i a b
 rw[List.getElem_map]
 exact hg _ _ (List.getElem_mem _) (h2 i b (by rw[List.length_map]at a;exact a))
theorem CO{x:Int}(h0:0<=x)(h1:x<10):Lib.decDigits x.toNat=[UInt8.ofNat (48+x.toNat)]:=Lib.decDigits_one (by omega)
theorem OI:∀n:Fin 10,Lib.atoiAll [UInt8.ofNat (48+n.val)]= .ok (n.val:Int):=by decide
theorem SD:∀n:Fin 10,tK [UInt8.ofNat (48+n.val)]=some (n.val:Int):=by
 intro n
 have e:Lib.itoa (n.val:Int)=[UInt8.ofNat (48+n.val)]:=by rw[Lib.itoa_nonneg,Lib.decDigits_one n.isLt]
 unfold tK
 rw[OI n]
 (try simp only)
 rw[if_pos e]
theorem WJ{x:Int}(h0:0<=x)(h1:x<10):tK (Lib.decDigits x.toNat)=some x:=by
 rw[CO h0 h1]
 have:=SD ⟨x.toNat,by omega⟩
 (try simp only at this)
 rw[this,Int.toNat_of_nonneg h0]
theorem WL{x:List UInt8}{n:Int}(h:tK x=some n)(h0:0<=n):Lib.decDigits n.toNat=x:=by
 unfold tK at h
 split at h
 ·split at h
  ·rename_i m _ e
   have h:=Option.some.inj h
   subst h
   rw[<-e]
   obtain⟨k,rfl⟩:∃k:Nat,m=k:=⟨m.toNat,by omega⟩
   rw[Lib.itoa_nonneg,Int.toNat_natCast]
  ·cases h
 ·cases h
theorem yh{x:Int}(h0:0<=x)(h1:x<10){c:UInt8}(hc:c=44\/c=59\/c=45):c∉Lib.decDigits x.toNat:=by
 rw[CO h0 h1]
 have:∀n:Fin 10,(44:UInt8)∉[UInt8.ofNat (48+n.val)]/\(59:UInt8)∉[UInt8.ofNat (48+n.val)]/\(45:UInt8)∉[UInt8.ofNat (48+n.val)]:=by decide
 have:=this ⟨x.toNat,by omega⟩
 rcases hc with rfl|rfl|rfl
 ·exact this.1
 ·exact this.2.1
 ·exact this.2.2
theorem Ip{c d:UInt8}:∀{ws:List (List UInt8)},d∈uh c ws->d=c\/∃w,w∈ws/\d∈w
 |[],h=>by simp[uh]at h
 |[w],h=> .inr ⟨w,List.mem_cons_self,h⟩
 |w::v::ws,h=>by
  rw[uh,List.mem_append,List.mem_cons]at h
  rcases h with h|h|h
  ·exact .inr ⟨w,List.mem_cons_self,h⟩
  ·exact .inl h
  ·rcases Ip h with h|⟨u,hu,hd⟩
   ·exact .inl h
   ·exact .inr ⟨u,List.mem_cons_of_mem _ hu,hd⟩
theorem Iq{l:List Int}(h:∀x,x∈l->0<=x/\x<10):(59:UInt8)∉dS l:=by
 unfold dS
 split
 ·decide
 ·rw[sQ]
  intro hm
  rcases Ip hm with h1|⟨w,hw,hd⟩
  ·exact absurd h1 (by decide)
  ·obtain⟨x,hx,rfl⟩:=List.mem_map.1 hw
   exact yh (h x hx).1 (h x hx).2 (.inr (.inl rfl)) hd
theorem WM{l:List Int}(h:∀x,x∈l->0<=x/\x<10):Io (dS l)=some l:=by
 unfold Io dS
 by_cases hz:l.length=0
 ·rw[if_pos hz,if_pos rfl,List.length_eq_zero_iff.1 hz]
 ·rw[if_neg hz,sQ]
  have eA:l.map (fun x=>Lib.decDigits x.toNat)≠[]:=fun e=>hz (by simpa using congrArg List.length e)
  have hf:∀w,w∈l.map (fun x=>Lib.decDigits x.toNat)->(44:UInt8)∉w:=fun w hw=>by
   obtain⟨x,hx,rfl⟩:=List.mem_map.1 hw
   exact yh (h x hx).1 (h x hx).2 (.inl rfl)
  rw[OH eA hf,if_neg]
  ·exact yg fun x hx=>WJ (h x hx).1 (h x hx).2
  ·intro e
   have hm:(45:UInt8)∈uh 44 (l.map fun x=>Lib.decDigits x.toNat):=by rw[e];decide
   rcases Ip hm with h1|⟨w,hw,hd⟩
   ·exact absurd h1 (by decide)
   ·obtain⟨x,hx,rfl⟩:=List.mem_map.1 hw
    exact yh (h x hx).1 (h x hx).2 (.inr (.inr rfl)) hd
theorem WN{w:List UInt8}{l:List Int}(h:Io w=some l)(h0:∀x,x∈l->0<=x):dS l=w:=by
 unfold Io at h
 split at h
 ·rename_i e
  have h:=Option.some.inj h
  subst h
  rw[e]
  rfl
 ·have hs:=Kq (g:=fun x:Int=>Lib.decDigits x.toNat) h fun x y hy hf=>WL hf (h0 y hy)
  have hl:=(mH h).1
  have hn:=List.length_pos_iff.2 (Bu 44 w)
  unfold dS
  rw[if_neg (by omega),sQ,hs,FB]
theorem mJ{g:List (List Int)}(hg:aM g=true){l:List Int}(hl:l∈g):∀x,x∈l->0<=x/\x<10:=fun x hx=>by
 have:=(aT hg hl).2 x hx
 have:=aO hg
 omega
theorem SE{g:List (List Int)}(hg:aM g=true):pf (uj g)=some g:=by
 have gl:=aO hg
 unfold pf uj
 have eA:g.map dS≠[]:=fun e=>by rw[List.map_eq_nil_iff]at e;rw[e]at gl;simp at gl
 rw[sQ,OH eA fun w hw=> ?_,yg fun l hl=>WM (mJ hg hl)]
 ·(try simp only)
  rw[if_pos hg]
 ·obtain⟨l,hl,rfl⟩:=List.mem_map.1 hw
  exact Iq (mJ hg hl)
theorem wH{s:List UInt8}{g:List (List Int)}(h:pf s=some g):aM g=true/\uj g=s:=by
 unfold pf at h
 split at h
 ·rename_i g' ha
  split at h
  ·rename_i hg
   have h:=Option.some.inj h
   subst h
   refine⟨hg,?_⟩
   have hs:=Kq (g:=dS) ha fun w l hl hf=>WN hf fun x hx=>(mJ hg hl x hx).1
   unfold uj
   rw[sQ,hs,FB]
  ·cases h
 ·cases h
theorem SG{g:List (List Int)}(hg:aM g=true):(uj g).length<=200:=by
 have gl:=aO hg
 have key:∀ls:List (List Int),(∀l,l∈ls->l.length<=5/\∀x,x∈l->0<=x/\x<100)->(Lib.join (ls.map dS) [59]).length<=17*ls.length:=by
  intro ls
  induction ls with
  |nil=>intro _;simp[Lib.join,List.intercalate]
  |cons l ls ih=>
   intro h
   have h1:=h l List.mem_cons_self
   have h2:=uf h1.2
   have ih:=ih fun y hy=>h y (List.mem_cons_of_mem _ hy)
   rw[sQ]at ih⊢
   rw[List.map_cons]
   cases ls with
   |nil=>rw[List.map_nil,uh,List.length_cons];simp;omega
   |cons v ls=>
    rw[wG _ _ (by simp),List.length_append,List.length_cons,List.length_cons]
    omega
 have:=key g fun l hl=>⟨(aT hg hl).1,fun x hx=>by have:=mJ hg hl x hx;omega⟩
 unfold uj
 omega
def qk(s:ByteArray):List (List Int)×Bool:=match pf s.data.toList with
 |some g=>(g,true)
 |none=>([],false)
structure gV(h:Heap):Prop where
 mx:∃m:Int,aQ h ⟨0,0,none⟩=some (.int .i64 m)
 sy:∃ev,aQ h ⟨2,0,none⟩=some ev/\(ev= .nilIface\/∃te pe,ev= .iface te pe)
 rg:∃ev,aQ h ⟨3,0,none⟩=some ev/\(ev= .nilIface\/∃te pe,ev= .iface te pe)
 tb:∃T f,h[1]?=some (.cells (Lib.pow10Tab.map fun z=>Value.int .u64 z).toArray T f)
theorem L1{h:Heap}{k:Nat}{o:Obj}(e:h[k]?=some o):k<h.size:=by
 rcases Nat.lt_or_ge k h.size with l|l
 ·exact l
 ·rw[Array.getElem?_eq_none l]at e;cases e
theorem gV.no{h h':Heap}(G:gV h)(f:Fr No h h'):gV h':=by
 obtain⟨⟨m,a⟩,⟨e1,b,b'⟩,⟨e2,c,c'⟩,⟨T,q,d⟩⟩:=G
 exact⟨⟨m,dJ a f fun h=>h⟩,⟨e1,dJ b f fun h=>h,b'⟩,⟨e2,dJ c f fun h=>h,c'⟩,⟨T,q,by rw[f.same _ (L1 d) fun h=>h];exact d⟩⟩
theorem CP{h:Heap}(GL:gV h){s:ByteArray}{c:UInt8}(hs:s.size<=1000000000)(K:Value->Heap->Prop)(HK:∀(t:Sl)(ps:List ByteArray) h',ps.map (·.data.toList)=gU c s.data.toList->cY (fun k=>h.size<=k/\k<h'.size) h' 1 t (ps.map VS)->Fr No h h'->K t.v h'):aE Tryz.prog 81 #[VS s,VS ⟨#[c]⟩] h K:=by
 refine⟨fun w hw=> .inr ⟨81,_,w,Go.Proofs.enters_of Tryz.func81 (by kernel_rfl) rfl _ _,rfl,?_⟩⟩
 subst hw
 obtain⟨m,hm⟩:=GL.mx
 have h1:1<=(⟨#[c]⟩:ByteArray).size:=Nat.le_refl 1
 refine(Tryz.strings_Split s ⟨#[c]⟩ m w (by omega) hm h1).mono ?_
 rintro e w' ⟨rfl,rfl⟩
 have hd:=Lib.splitB_data ⟨#[c]⟩ 0 (Lib.countB s ⟨#[c]⟩) s
 have e2:Lib.splitK [c] 0 (Lib.count s.data.toList [c]) s.data.toList=gU c s.data.toList:=FC c _ _ (Nat.le_refl _)
 have e1:(⟨#[c]⟩:ByteArray).data.toList=[c]:=rfl
 rw[e1]at hd
 have e3:Lib.countB s ⟨#[c]⟩=Lib.count s.data.toList [c]:=rfl
 rw[e3,e2]at hd
 have hl:=Lib.splitB_all ⟨#[c]⟩ h1 0 _ s rfl
 have hc:=Lib.countB_le ⟨#[c]⟩ h1 _ s (Nat.le_refl _)
 generalize qj:Lib.splitB ⟨#[c]⟩ 0 (Lib.countB s ⟨#[c]⟩) s=ps at*
 rw[e3]at hl hc⊢
 refine⟨_,rfl,⟨rfl,rfl,rfl⟩,HK ⟨some ⟨w.heap.size,0,none⟩,Lib.count s.data.toList [c]+1,Lib.count s.data.toList [c]+1⟩ ps _ hd ⟨by simp[hl],by simp[maxLen];omega,Nat.le_refl _,fun j hj=> ?_⟩ (Fr.push w.heap _)⟩
 rw[List.length_map]at hj
 refine⟨⟨w.heap.size,0,none⟩,rfl,⟨Nat.le_refl _,by show w.heap.size<(w.heap.push _).size;simp⟩,?_⟩
 rw[Ij]
 show aQ (w.heap.push _) _=_
 unfold aQ
 simp
theorem FD{l:List UInt8}{v:Int}(h:Lib.atoiAll l= .ok v): -9223372036854775808<=v/\v<=9223372036854775807:=by
 unfold Lib.atoiAll at h
 split at h
 ·cases h
 ·(try simp only at h)
  split at h
  ·cases h
  ·cases h
  ·split at h
   ·cases h
   ·split at h
    ·cases h
    ·injection h with h
     rename_i c r u _ h1 h2
     subst h
     split<;>omega
theorem OJ{h:Heap}(GL:gV h){s:ByteArray}(hs:s.size<=1000000000)(K:Value->Heap->Prop)(HK:∀v h',Lib.atoiAll s.data.toList= .ok v->Fr No h h'->K (.tuple #[VI v,.nilIface]) h')(HE:∀v t p h',(∀u,Lib.atoiAll s.data.toList≠ .ok u)->Fr No h h'->K (.tuple #[VI v,.iface t p]) h'):aE Tryz.prog 154 #[VS s] h K:=by
 refine⟨fun w hw=> .inr ⟨154,_,w,Go.Proofs.enters_of Tryz.func154 (by kernel_rfl) rfl _ _,rfl,?_⟩⟩
 subst hw
 cases ha:Lib.atoiAll s.data.toList
 case ok v=>
  refine(Tryz.strconv_Atoi_ok s (by omega) v ha w).mono ?_
  rintro e w' ⟨rfl,hw⟩
  rcases hw with rfl|⟨t,rfl⟩
  ·exact⟨_,rfl,cO.refl _,HK v _ ha (Fr.refl _ _)⟩
  ·have hb:=Lib.bytesWorld_below w 5 t
   exact⟨_,rfl,⟨hb.os,hb.tape,hb.output⟩,HK v _ ha ⟨hb.size,fun k hk _=>hb.block k hk⟩⟩
 case range=>
  obtain⟨ev,h1,h2⟩:=GL.rg
  refine(Tryz.strconv_Atoi_range s (by omega) ha ev w h1 h2).mono ?_
  rintro e w' ⟨N,rfl,_,_,hb⟩
  exact⟨_,rfl,⟨hb.os,hb.tape,hb.output⟩,HE _ _ _ _ (fun u hu=>by rw[ha]at hu;cases hu) ⟨hb.size,fun k hk _=>hb.block k hk⟩⟩
 obtain⟨ev,h1,h2⟩:=GL.sy
 refine(Tryz.strconv_Atoi_syntax s (by omega) ha ev w h1 h2).mono ?_
 rintro e w' ⟨N,rfl,_,_,hb⟩
 exact⟨_,rfl,⟨hb.os,hb.tape,hb.output⟩,HE _ _ _ _ (fun u hu=>by rw[ha]at hu;cases hu) ⟨hb.size,fun k hk _=>hb.block k hk⟩⟩
theorem jo{h:Heap}(GL:gV h){n:Int}(h0: -9223372036854775808<=n)(h1:n<=9223372036854775807)(K:Value->Heap->Prop)(HK:∀h',Fr No h h'->K (VS ⟨(Lib.itoa n).toArray⟩) h'):aE Tryz.prog 92 #[VI n] h K:=by
 refine⟨fun w hw=> .inr ⟨92,_,w,Go.Proofs.enters_of Tryz.func92 (by kernel_rfl) rfl _ _,rfl,?_⟩⟩
 subst hw
 obtain⟨T,f,ht⟩:=GL.tb
 refine(Tryz.strconv_Itoa n h0 h1 w ?_).mono ?_
 ·unfold Lib.TabIs World.var?
  rw[show Tryz.prog.globalNamed "internal/strconv.uint64pow10" =some 1 by kernel_rfl]
  simp[ht]
 ·rintro e w' ⟨rfl,k,os,rfl⟩
  exact⟨_,rfl,⟨rfl,rfl,rfl⟩,HK _ ⟨by simp[«Sort».grow,World.drewN],fun i hi _=>by simp[«Sort».grow,World.drewN,Array.getElem?_append_left hi]⟩⟩
theorem wI:∃ms,Tryz.prog.underlying 163=some (.interface ms):=by
 have h:(match Tryz.prog.underlying 163 with|some (.interface _)=>true|_=>false)=true:=by kernel_rfl
 split at h
 ·rename_i ms hm
  exact⟨ms,hm⟩
 ·cases h
theorem L2{P:Program}{t:TypeId}{ms}(ht:P.underlying t=some (.interface ms))(w:World):(Op.equal t .nilIface .nilIface).run P w= .ok true w:=by
 have key:∀d,(Op.equalIn (d+1) t .nilIface .nilIface).run P w= .ok true w:=fun d=>by
  unfold Op.equalIn
  rw[aK (bX ht w)]
  rfl
 exact key 9999
theorem FE{P:Program}{t:TypeId}{ms}(ht:P.underlying t=some (.interface ms))(a:TypeId)(b:Value)(w:World):(Op.equal t (.iface a b) .nilIface).run P w= .ok false w:=by
 have key:∀d,(Op.equalIn (d+1) t (.iface a b) .nilIface).run P w= .ok false w:=fun d=>by
  unfold Op.equalIn
  rw[aK (bX ht w)]
  rfl
 exact key 9999
theorem Bv{P:Program}{t:TypeId}{ms}(ht:P.underlying t=some (.interface ms))(x:Operand){K:Value->Prop}(H:K (.bool false)):pop P (lQ .neq t x (.const .nilIface) .nilIface .nilIface) K:=
 .mk' (fun w=>by
  unfold lQ
  have hg:(eqGuard .neq t x (.const .nilIface) .nilIface .nilIface).run P w= .ok () w:=by
   unfold eqGuard
   cases x<;>rfl
  rw[aK hg]
  show Sem.run P (Sem.bind (Op.equal t .nilIface .nilIface) _) w=_
  rw[Sem.run_bind',L2 ht]
  rfl) H
theorem vC{P:Program}{t:TypeId}{ms}(ht:P.underlying t=some (.interface ms))(x y:Operand)(a:TypeId)(b:Value){K:Value->Prop}(H:K (.bool true)):pop P (lQ .neq t x y (.iface a b) .nilIface) K:=
 .mk' (fun w=>by
  unfold lQ
  have hg:(eqGuard .neq t x y (.iface a b) .nilIface).run P w= .ok () w:=rfl
  rw[aK hg]
  show Sem.run P (Sem.bind (Op.equal t (.iface a b) .nilIface) _) w=_
  rw[Sem.run_bind',FE ht]
  rfl) H
theorem Kr(a:ByteArray):∀(n i:Nat)(r:List UInt8),a.size-i<=n->ByteArray.toList.loop a i r=r.reverse++a.data.toList.drop i
 |0,i,r,h=>by
  rw[ByteArray.toList.loop,if_neg (by omega),List.drop_eq_nil_of_le (by simp only[Array.length_toList];exact Nat.le_of_sub_eq_zero (Nat.le_zero.1 h)),List.append_nil]
 |n+1,i,r,h=>by
  rw[ByteArray.toList.loop]
  by_cases e:i<a.size
  ·have e':i<a.data.toList.length:=by simpa using e
   rw[if_pos e,Kr a n (i+1) _ (by omega),List.reverse_cons,List.append_assoc,List.singleton_append,List.drop_eq_getElem_cons e']
   congr 2
   show a.get! i=_
   unfold ByteArray.get!
   simp[getElem!_pos,e']
   exact getElem!_pos a.data i (by simpa using e')
  ·rw[if_neg e,List.drop_eq_nil_of_le (by simp only[Array.length_toList];exact Nat.le_of_not_lt e),List.append_nil]
theorem Bw(a:ByteArray):a.toList=a.data.toList:=by
 unfold ByteArray.toList
 rw[Kr a a.size 0 [] (by omega)]
 rfl
theorem jX(a:ByteArray):a.data.toList.length=a.size:=Array.length_toList
theorem qZ(a b:ByteArray):(a.toList==b.toList)=decide (a.data.toList=b.data.toList):=by
 rw[Bw,Bw]
 by_cases h:a.data.toList=b.data.toList
 ·rw[h];simp
 ·rw[decide_eq_false h];simpa using h
theorem mK{α β:Type}{f:α->Option β}:∀{l:List α}(i:Nat)(h:i<l.length),f l[i]=none->gK f l=none
 |x::l,0,_,hn=>by rw[gK,show f x=none from hn]
 |x::l,i+1,h,hn=>by
  rw[gK,mK (l:=l) i (by simpa using h) hn]
  cases f x<;>rfl
theorem wJ{α β:Type}{f:α->Option β}:∀{l:List α}{r:List β},r.length=l.length->(∀i(h:i<l.length)(h':i<r.length),f l[i]=some r[i])->gK f l=some r
 |[],[],_,_=>rfl
 |x::l,y::r,hl,h=>by
  rw[gK,show f x=some y from h 0 (by simp) (by simp),wJ (l:=l) (r:=r) (by simpa using hl) fun i a b=>h (i+1) (by simpa using a) (by simpa using b)]
def Bx{α β:Type}(f:α->Option β)(l:List α)(r:List β)(i:Nat):Prop:=r.length=i/\∀j(h:j<l.length)(h':j<r.length),f l[j]=some r[j]
theorem Bx.next{α β:Type}{f:α->Option β}{l:List α}{r:List β}{i:Nat}(H:Bx f l r i){y:β}(hi:i<l.length)(hy:f l[i]=some y):Bx f l (r++[y]) (i+1):=⟨by rw[List.length_append,H.1];rfl,fun j a b=>by
 have hl:=H.1
 by_cases e:j<r.length
 ·rw[List.getElem_append_left e]
  exact H.2 j a e
 ·have:j=i:=by rw[List.length_append,List.length_singleton]at b;omega
  subst this
  rw[List.getElem_append_right (by omega)]
  simp[hl,hy]⟩
theorem Ir{h:Heap}(GL:gV h){s:ByteArray}(hs:s.size<=1000000)(K:Value->Heap->Prop)(HK:∀t h',bK h' (fun k=>h.size<=k) t ((Io s.data.toList).getD [])->Fr No h h'->K (.tuple #[t.v,VB (Io s.data.toList).isSome]) h'):aE Tryz.prog 199 #[VS s] h K:=by
 refine ahk s h K ?_
 refine aS fL (fun k=>h.size<=k) (fun _ h=>h) 0 (by omega) [] rfl rfl fun o h1 n1 c1 o1 f1 m1 _=>⟨o,rfl,.nil,?_⟩
 rw[qZ]
 have e45:(⟨#[45]⟩:ByteArray).data.toList=[45]:=rfl
 rw[e45]
 unfold Io at HK
 refine⟨fun e=> ?_,fun e=> ?_⟩
 ·rw[if_pos (of_decide_eq_true e)]at HK
  exact HK o h1 o1 f1
 rw[if_neg (of_decide_eq_false e)]at HK
 have z1:=f1.size
 refine CP (GL.no f1) (by omega) _ fun t ps h2 qj T2 f2=>⟨t,rfl,.nil,?_⟩
 have z2:=f2.size
 have tn:=T2.len
 simp only[List.length_map,Nat.mul_one]at tn
 have hpl:ps.length=(gU 44 s.data.toList).length:=by rw[<-qj,List.length_map]
 have hpb:ps.length<=1000001:=by
  have h1:=ui 44 s.data.toList
  have h2:=jX s
  omega
 have OK:∀i(hi:i<ps.length),(gU 44 s.data.toList)[i]'(by omega)=(ps[i]).data.toList:=fun i hi=>by simp only[<-qj,List.getElem_map]
 have qd:∀i(hi:i<ps.length),(ps[i]).size<=1000000:=fun i hi=>by
  have h1:=FB 44 s.data.toList
  have:∀(ws:List (List UInt8))(w:List UInt8),w∈ws->w.length<=(uh 44 ws).length:=by
   intro ws
   induction ws with
   |nil=>intro w hw;simp at hw
   |cons v ws ih=>
    intro w hw
    cases ws with
    |nil=>
     rcases List.mem_cons.1 hw with rfl|hw
     ·exact Nat.le_refl _
     ·simp at hw
    |cons u ws=>
     rw[uh,List.length_append,List.length_cons]
     rcases List.mem_cons.1 hw with rfl|hw
     ·omega
     ·have:=ih w hw;omega
  have h2:=this _ _ (List.getElem_mem (show i<(gU 44 s.data.toList).length by omega))
  rw[h1,OK i hi]at h2
  have e1:=jX (ps[i])
  have e2:=jX s
  omega
 have o2:bK h2 (Iv h.size h1.size) o []:=(Ow.gf o1).no f2
 refine⟨fun n x i h'=>0<=i/\i+n=(ps.length:Int)/\∃r:List Int,Bx tK (gU 44 s.data.toList) r i.toNat/\bK h' (fun k=>h.size<=k/\¬(h1.size<=k/\k<h2.size)) x r/\Fr (fun k=>h.size<=k/\¬(h1.size<=k/\k<h2.size)) h2 h',⟨ps.length,by omega,by omega,[],⟨rfl,fun j _ h'=>by simp at h'⟩,o2.mono fun k _ hk=>⟨hk.1,fun h=>by have:=hk.2;omega⟩,Fr.refl _ _⟩,?_⟩
 rintro n x i h3 ⟨i0,i1,r,SF,o3,f3⟩ cF
 have z3:=f3.size
 have T3:=cY.fr T2 f3 fun k hk aI=>aI.2 hk
 have F3:Fr No h h3:=(f1.aA f2).fresh f3 fun k hk=>hk.1
 have ln:=cY.len T3
 have fail:∀h',Fr No h h'->gK tK (gU 44 s.data.toList)=none->K (.tuple #[aC.v,VB false]) h':=fun h' f hn=>by
  rw[hn]at HK
  exact HK aC h' (Ow.nil _ _ _ _) f
 refine⟨fun e2=> ?_,fun e2=> ?_⟩
 ·simp only[decide_eq_true_eq]at e2
  have hi:i.toNat<ps.length:=by omega
  have cc:=T3.get (i:=i) i0 (by rw[List.length_map];omega)
  rw[show(ps.map VS)[i.toNat]'(by rw[List.length_map];exact hi)=VS ps[i.toNat]from List.getElem_map _]at cc
  have gi:=OK i.toNat hi
  refine⟨cY.bB T3 i0 (by rw[List.length_map];omega),_,cc,OJ ((GL.no F3)) (by have:=qd i.toNat hi;omega) _ (fun v h4 ha f4=>⟨v,_,rfl,.nil,?_⟩) fun v ty p h4 hn f4=>⟨v,_,rfl,.nil,?_⟩⟩
  ·obtain⟨ms,hm⟩:=wI
   refine Bv hm _ ⟨_,rfl,fun e=>by simp at e,fun _=> ?_⟩
   have vr:=FD ha
   refine jo ((GL.no F3).no f4) vr.1 vr.2 _ fun h5 f5=>⟨_,rfl,.nil,?_⟩
   rw[qZ]
   have e5:(⟨(Lib.itoa v).toArray⟩:ByteArray).data.toList=Lib.itoa v:=rfl
   rw[e5]
   have F5:=F3.aA (f4.aA f5)
   refine⟨fun e3=> ?_,fun e3=> ?_⟩
   ·have e3:=of_decide_eq_false (aY e3)
    refine fail h5 F5 (mK i.toNat (by omega) ?_)
    rw[gi]
    unfold tK
    rw[ha]
    (try simp only)
    rw[if_neg e3]
   ·have e3:=of_decide_eq_true (aV e3)
    have hr:tK ((gU 44 s.data.toList)[i.toNat]'(by omega))=some v:=by
     rw[gi]
     unfold tK
     rw[ha]
     (try simp only)
     rw[if_pos e3]
    have z5:=(f4.aA f5).size
    refine mv (L:=[]) (F:=fun k=>h.size<=k/\¬(h1.size<=k/\k<h2.size)) (Ow.no o3 (f4.aA f5)) (fun k hk=>⟨by omega,fun h=>by omega⟩) .nil (fun p hp=>by simp at hp) (by rw[SF.1];have:=qd i.toNat hi;have:(gU 44 s.data.toList).length<=s.data.toList.length+1:=ui 44 _;have e2:=jX s;omega) _ fun t6 h7 o7 f7 _=> ?_
    rw[aH (i+1) (by omega) (by omega)]
    refine⟨n-1,by omega,by omega,by omega,r++[v],?_,o7,f3.trans ((f4.aA f5).aB.trans f7)⟩
    rw[show(i+1).toNat=i.toNat+1 by omega]
    exact SF.next (by omega) hr
  ·obtain⟨ms,hm⟩:=wI
   refine vC hm _ _ _ _ ⟨_,rfl,fun _=> ?_,fun e=>by simp at e⟩
   refine fail h4 (F3.aA f4) (mK i.toNat (by omega) ?_)
   rw[gi]
   unfold tK
   split
   ·rename_i m HA
    exact absurd HA (hn m)
   ·rfl
 ·simp only[decide_eq_false_iff_not]at e2
  have hr:=wJ (f:=tK) (l:=gU 44 s.data.toList) (r:=r) (by rw[SF.1];omega) SF.2
  rw[hr]at HK
  exact HK x h3 (o3.mono fun k _ hk=>hk.1) F3
theorem L3{s:ByteArray}{g:List (List Int)}(h:gK Io (gU 59 s.data.toList)=some g):qk s=(j7 g,aM g):=by
 unfold qk pf j7
 rw[h]
 (try simp only)
 by_cases e:aM g=true
 ·rw[if_pos e,if_pos e,e]
 ·rw[if_neg e,if_neg e]
  simp only[Bool.not_eq_true]at e
  rw[e]
theorem L4{s:ByteArray}(h:gK Io (gU 59 s.data.toList)=none):qk s=([],false):=by
 unfold qk pf
 rw[h]
theorem Ks{c:UInt8}:∀(ws:List (List UInt8))(w:List UInt8),w∈ws->w.length<=(uh c ws).length
 |[],w,hw=>by simp at hw
 |[v],w,hw=>by
  rcases List.mem_cons.1 hw with rfl|hw
  ·exact Nat.le_refl _
  ·simp at hw
 |v::u::ws,w,hw=>by
  rw[uh,List.length_append,List.length_cons]
  rcases List.mem_cons.1 hw with rfl|hw
  ·omega
  ·have:=Ks (c:=c) (u::ws) w hw;omega
theorem Kt{c:UInt8}{l w:List UInt8}(h:w∈gU c l):w.length<=l.length:=by
 have:=Ks (c:=c) _ _ h
 rwa [FB]at this
theorem CQ{h:Heap}(GL:gV h){s:ByteArray}(hs:s.size<=100000)(K:Value->Heap->Prop)(HK:∀t h',fM h' (Iv h.size h'.size) t (qk s).1->Fr No h h'->K (.tuple #[.agg #[t.v],VB (qk s).2]) h'):aE Tryz.prog 153 #[VS s] h K:=by
 refine agi s h K fun b1 b2 h1 dM dE f1 bG=> ?_
 have f1:=f1.aF
 have z1:=f1.size
 have l2:b2<h1.size:=bG.head.lt
 have l1:b1<h1.size:=bG.tail.head.lt
 refine CP (GL.no f1) (by omega) _ fun t ps h2 qj T2 f2=>⟨t,rfl,bG.aB f2,?_⟩
 have z2:=f2.size
 have tn:=T2.len
 simp only[List.length_map,Nat.mul_one]at tn
 have hpl:ps.length=(gU 59 s.data.toList).length:=by rw[<-qj,List.length_map]
 have hpb:ps.length<=100001:=by
  have h1:=ui 59 s.data.toList
  have h2:=jX s
  omega
 have OK:∀i(hi:i<ps.length),(gU 59 s.data.toList)[i]'(by omega)=(ps[i]).data.toList:=fun i hi=>by simp only[<-qj,List.getElem_map]
 have qd:∀i(hi:i<ps.length),(ps[i]).size<=100000:=fun i hi=>by
  have h2:=Kt (List.getElem_mem (show i<(gU 59 s.data.toList).length by omega))
  rw[OK i hi]at h2
  have e1:=jX (ps[i])
  have e2:=jX s
  omega
 refine⟨fun n i x h'=>0<=i/\i+n=(ps.length:Int)/\∃r:List (List Int),Bx Io (gU 59 s.data.toList) r i.toNat/\fM h' (fun k=>h2.size<=k) x r/\Fr (fun k=>k=b2\/h2.size<=k) h2 h'/\h2.size<=h'.size,⟨ps.length,by omega,by omega,[],⟨rfl,fun j _ h'=>by simp at h'⟩,dD.nil _ _ _ _,Fr.refl _ _,Nat.le_refl _⟩,?_⟩
 rintro n i x h3 ⟨i0,i1,r,SF,o3,f3,z3⟩ cF
 have T3:=cY.fr T2 f3 fun k hk aI=>by have:=hk.1;have:=hk.2;omega
 have F3:Fr No h h3:=(f1.aA f2).fresh f3 fun k hk=>by rcases hk with rfl|hk<;>omega
 have ln:=cY.len T3
 have fail:∀h' lg,Fr No h h'->Fr (In [b1]) h' lg->h2.size<=h'.size->gK Io (gU 59 s.data.toList)=none->K (.tuple #[.agg #[aC.v],VB false]) lg:=fun h' lg f f' z hn=>by
  rw[L4 hn]at HK
  exact HK aC lg (dD.nil _ _ _ _) (f.fresh f' fun k hk=>by simp[In]at hk;omega)
 refine⟨fun e2=> ?_,fun e2=> ?_⟩
 ·simp only[decide_eq_true_eq]at e2
  have hi:i.toNat<ps.length:=by omega
  have cc:=T3.get (i:=i) i0 (by rw[List.length_map];omega)
  rw[show(ps.map VS)[i.toNat]'(by rw[List.length_map];exact hi)=VS ps[i.toNat]from List.getElem_map _]at cc
  have gi:=OK i.toNat hi
  refine⟨cY.bB T3 i0 (by rw[List.length_map];omega),_,cc,Ir (GL.no F3) (by have:=qd i.toNat hi;omega) _ fun u h4 o4 f4=>⟨u,_,rfl,cF.aB f4,fun e3=> ?_,fun e3=> ?_⟩⟩
  ·have e3:=aY e3
   intro h5 f5 ic
   refine fail h4 h5 (F3.aA f4) f5 (by have:=f4.size;omega) (mK i.toNat (by omega) ?_)
   rw[gi]
   cases hr:Io (ps[i.toNat]).data.toList with
   |none=>rfl
   |some y=>rw[hr]at e3;cases e3
  ·have e3:=aV e3
   cases hr:Io (ps[i.toNat]).data.toList with
   |none=>rw[hr]at e3;cases e3
   |some y=>
    rw[hr]at o4
    have z4:=f4.size
    refine sK (F:=fun k=>h2.size<=k) (m:=h3.size) ((o3.gf.no f4).mono fun k _ hk=>hk) o4 (fun k hk=>by omega) z4 (cF.aB f4) (fun p hp=>by
     simp only[List.mem_cons,List.not_mem_nil,or_false]at hp
     rcases hp with rfl|rfl<;>simp only<;>omega) (by rw[SF.1];omega) _ fun t6 h7 o7 f7 V7 h8 f8 fO=> ?_
    have z7:=f7.size
    have z8:=f8.size
    rw[aH (i+1) (by omega) (by omega)]
    refine⟨n-1,by omega,by omega,by omega,r++[y],?_,dD.fr o7 f8 fun k hk aI HZ=>by simp[In]at HZ;omega,((f3.trans f4.aB).trans (f7.mono fun k _ hk=> .inr hk)).trans (f8.mono fun k _ hk=> .inl (by simpa[In]using hk)),by omega⟩
    rw[show(i+1).toNat=i.toNat+1 by omega]
    exact SF.next (by omega) (by rw[gi];exact hr)
 ·simp only[decide_eq_false_iff_not]at e2
  have hr:=wJ (f:=Io) (l:=gU 59 s.data.toList) (r:=r) (by rw[SF.1];omega) SF.2
  rw[L3 hr]at HK
  refine N6 o3.gf (Nat.le_refl _) _ fun v h4 o4 f4=>⟨v,_,rfl,cF.aB f4,fun h5 f5 ic=> ?_⟩
  have z4:=f4.size
  have z5:=f5.size
  refine HK v h5 ?_ ((F3.aA f4).fresh f5 fun k hk=>by simp[In]at hk;omega)
  exact(dD.fr o4 f5 fun k hk aI HZ=>by simp[In]at HZ;have:=aI.1;omega).mono fun k hk aI=>⟨by have:=aI.1;omega,hk⟩
def SH(g:List (List Int)):Prop:=g.length<=8/\∀l,l∈g->l.length<=12/\∀x,x∈l->0<=x/\x<10
theorem jq{g:List (List Int)}(hg:aM g=true):SH g:=⟨(aO hg).2,fun l hl=>⟨by have:=(aT hg hl).1;omega,mJ hg hl⟩⟩
theorem Bz{l:List Int}(h:l.length<=12/\∀x,x∈l->0<=x/\x<10):(dS l).length<=40:=by
 have:=uf (rs:=l) fun x hx=>by have:=h.2 x hx;omega
 omega
theorem SI{g:List (List Int)}(h:SH g):(uj g).length<=328:=by
 have:=qY 59 (g.map dS) fun y hy=>by
  obtain⟨l,hl,rfl⟩:=List.mem_map.1 hy
  exact Bz (h.2 l hl)
 rw[List.length_map]at this
 have:=h.1
 unfold uj
 omega
theorem sR{S:Nat->Prop}{h:Heap}{s:Sl}{aD:List (List Int)}(H:bF S h s aD)(B:SH aD)(K:Value->Heap->Prop)(HK:∀h',Fr No h h'->K (VS ⟨(uj aD).toArray⟩) h'):aE Tryz.prog 74 #[.agg #[s.v]] h K:=by
 have sn:=H.len
 have Bn:=B.1
 refine v74 s h K fun b1 h1 dM f1 bG=> ?_
 have f1:=f1.aF
 refine⟨fun m out i h'=>0<=i/\i+m=(aD.length:Int)/\out=(⟨(Lib.join ((aD.take i.toNat).map dS) [59]).toArray⟩:ByteArray)/\Fr No h h',⟨aD.length,by omega,by omega,rfl,f1⟩,?_⟩
 rintro m out i h3 ⟨i0,i1,rfl,f3⟩ cF
 have H3:=H.no f3
 refine⟨fun e2=> ?_,fun e2=> ?_⟩
 ·have hi:=H3.lt e2
  have wC:i.toNat<aD.length:=by omega
  obtain⟨si,c1,r1⟩:=H3.get i0 hi
  have rn:=r1.len
  have hk:=B.2 _ (List.getElem_mem wC)
  have hl1:=qY 59 ((aD.take i.toNat).map dS) fun y hy=>by
   obtain⟨l,hl,rfl⟩:=List.mem_map.1 hy
   exact Bz (B.2 l (List.mem_of_mem_take hl))
  have hl2:((aD.take i.toNat).map dS).length<=8:=by simp;omega
  generalize hB:Lib.join ((aD.take i.toNat).map dS) [59]++(if i.toNat=0 then[]else[59])=B'
  have Bl:B'.length<=400:=by rw[<-hB,List.length_append];split<;>simp only[List.length_nil,List.length_cons]<;>omega
  have next:Lib.join ((aD.take (i.toNat+1)).map dS) [59]=B'++dS aD[i.toNat]:=by rw[ug dS [59] wC,hB]
  refine⟨H3.bB i0 hi,si,c1,fun x h'=>x=(⟨B'.toArray⟩:ByteArray)/\h'=h3,⟨fun e5=>⟨?_,?_,rfl⟩,fun e5=>⟨?_,rfl⟩⟩,?_⟩
  ·rw[bZ];show _+1<=_;omega
  ·simp only[decide_eq_true_eq]at e5
   rw[show(⟨#[59]⟩:ByteArray)=⟨[59].toArray⟩from rfl,eX,<-hB,if_neg (by omega)]
  ·simp only[decide_eq_false_iff_not]at e5
   rw[<-hB,if_pos (by omega),List.append_nil]
  rintro x h5 ⟨rfl,rfl⟩ ic
  refine⟨fun x h'=>x=(⟨(B'++if aD[i.toNat].length=0 then[45]else[]).toArray⟩:ByteArray)/\h'=h5,⟨fun e5=>⟨?_,?_,rfl⟩,fun e5=>⟨?_,rfl⟩⟩,?_⟩
  ·rw[bZ];show _+1<=_;omega
  ·simp only[decide_eq_true_eq]at e5
   rw[show(⟨#[45]⟩:ByteArray)=⟨[45].toArray⟩from rfl,eX,if_pos (by omega)]
  ·simp only[decide_eq_false_iff_not]at e5
   rw[if_neg (by omega),List.append_nil]
  rintro x2 h6 ⟨rfl,rfl⟩ iN
  generalize hC:(B'++if aD[i.toNat].length=0 then[45]else[])=C
  have Cl:C.length<=401:=by rw[<-hC,List.length_append];split<;>simp only[List.length_nil,List.length_cons]<;>omega
  refine⟨fun m2 o j h'=>0<=j/\j+m2=(aD[i.toNat].length:Int)/\o=(⟨(C++Lib.join ((aD[i.toNat].take j.toNat).map fun y=>Lib.decDigits y.toNat) [44]).toArray⟩:ByteArray)/\Fr No h6 h',⟨aD[i.toNat].length,by omega,by omega,by simp[Lib.join_nil],Fr.refl _ _⟩,?_⟩
  rintro m2 o j h7 ⟨j0,j1,rfl,f7⟩ j8
  have R7:=r1.no f7
  refine⟨fun e5=> ?_,fun e5=> ?_⟩
  ·have hj:=R7.lt e5
   have Ib:j.toNat<aD[i.toNat].length:=by omega
   have dj:=hk.2 _ (List.getElem_mem Ib)
   have hl3:=ye ((aD[i.toNat].take j.toNat).map fun y=>Lib.decDigits y.toNat) fun y hy=>by
    obtain⟨x,hx,rfl⟩:=List.mem_map.1 hy
    have:=hk.2 x (List.mem_of_mem_take hx)
    exact sN (by omega)
   have hl4:((aD[i.toNat].take j.toNat).map fun y=>Lib.decDigits y.toNat).length<=12:=by simp;omega
   generalize hD:C++Lib.join ((aD[i.toNat].take j.toNat).map fun y=>Lib.decDigits y.toNat) [44]++(if j.toNat=0 then[]else[44])=D
   have Dl:D.length<=500:=by rw[<-hD,List.length_append,List.length_append];split<;>simp only[List.length_nil,List.length_cons]<;>omega
   refine⟨R7.bB j0 hj,_,R7.get j0 hj,fun x h'=>x=(⟨D.toArray⟩:ByteArray)/\h'=h7,⟨fun e6=>⟨?_,?_,rfl⟩,fun e6=>⟨?_,rfl⟩⟩,?_⟩
   ·rw[bZ,List.length_append];show _+1<=_;omega
   ·simp only[decide_eq_true_eq]at e6
    rw[show(⟨#[44]⟩:ByteArray)=⟨[44].toArray⟩from rfl,eX,<-hD,if_neg (by omega)]
   ·simp only[decide_eq_false_iff_not]at e6
    rw[<-hD,if_pos (by omega),List.append_nil]
   rintro x h8 ⟨rfl,rfl⟩ fO
   refine Kp dj.1 dj.2 _ fun h9 f9=>⟨_,rfl,fO.aB f9,?_,?_⟩
   ·have:=sN (show(aD[i.toNat][j.toNat]).toNat<100 by omega)
    rw[bZ,bZ];omega
   ·rw[R7.succ j0 hj]
    refine⟨m2-1,by omega,by omega,by omega,?_,f7.trans f9⟩
    rw[eX,show(j+1).toNat=j.toNat+1 by omega,ug _ _ Ib,<-hD]
    simp only[List.append_assoc]
  ·have hj:=R7.ge e5
   rw[List.take_of_length_le (by omega),H3.succ i0 hi]
   refine⟨m-1,by omega,by omega,by omega,?_,f3.trans f7⟩
   rw[show(i+1).toNat=i.toNat+1 by omega,next,<-hC]
   unfold dS
   by_cases hz:aD[i.toNat].length=0
   ·rw[if_pos hz,if_pos hz,List.length_eq_zero_iff.1 hz,List.map_nil,Lib.join_nil,List.append_nil]
   ·rw[if_neg hz,if_neg hz,List.append_nil]
 ·have hi:=H3.ge e2
  rw[List.take_of_length_le (by omega)]
  exact HK h3 f3
theorem pg{S:Nat->Prop}{h:Heap}{s:Sl}{aD:List (List Int)}(H:bF S h s aD)(B:SH aD)(hp:1<=aD.length)(K:Value->Heap->Prop)(HK:∀h',Fr No h h'->K (VS ⟨(uj aD).toArray⟩) h'):aE Tryz.prog 51 #[.agg #[s.v]] h K:=by
 have sn:=H.len
 have Bn:=B.1
 refine v51 s h K fun b1 h1 dM f1 bG=> ?_
 have f1:=f1.aF
 have z1:=f1.size
 have l1:b1<h1.size:=bG.head.lt
 refine aS SB (fun k=>h1.size<=k) (fun _ h=>h) 0 (by omega) [] rfl rfl fun o h2 n2 c2 o2 f2 m2 _=>⟨o,rfl,bG.aB f2,?_⟩
 have z2:=f2.size
 have MF:He h2 (fun k=>h1.size<=k) o []:=o2
 have vB:∀{x:Heap},Fr (fun k=>h1.size<=k) h x->Fr No h x:=fun f=>f.mono fun k hk aI=>absurd aI (by omega)
 refine⟨fun m x i h'=>0<=i/\i+m=(aD.length:Int)/\He h' (fun k=>h1.size<=k) x ((aD.take i.toNat).map fun l=>(⟨(dS l).toArray⟩:ByteArray))/\Fr (fun k=>h1.size<=k) h h'/\h1.size<=h'.size,⟨aD.length,by omega,by omega,by simpa using MF,f1.aB.trans f2.aB,z2⟩,?_⟩
 rintro m x i h3 ⟨i0,i1,o3,f3,z3⟩ cF
 have H3:=H.no (vB f3)
 refine⟨fun e2=> ?_,fun e2=> ?_⟩
 ·have hi:=H3.lt e2
  have wC:i.toNat<aD.length:=by omega
  obtain⟨si,c1,r1⟩:=H3.get i0 hi
  have rn:=r1.len
  have hk:=B.2 _ (List.getElem_mem wC)
  have off:∀A(q:Nat×List Value),q∈[(b1,A)]->¬h1.size<=q.1:=fun A q hq=>by
   simp only[List.mem_cons,List.not_mem_nil,or_false]at hq
   subst hq;simp only;omega
  refine⟨H3.bB i0 hi,si,c1,yf r1 (fun y hy=>by have:=hk.2 y hy;omega) (by omega) _ fun h9 f9=>⟨_,rfl,cF.aB f9,?_⟩⟩
  have z9:=f9.size
  refine sO (Ow.no o3 f9) (fun k hk=>by omega) (cF.aB f9) (off _) (by simp;omega) _ fun u ie lV f11 V11=> ?_
  have Se:=f11.size
  rw[H3.succ i0 hi]
  refine⟨m-1,by omega,by omega,by omega,?_,(f3.trans f9.aB).trans f11,by omega⟩
  rw[show(i+1).toNat=i.toNat+1 by omega,List.take_add_one,List.getElem?_eq_getElem wC,Option.toList_some,List.map_append]
  exact lV
 ·have hi:=H3.ge e2
  rw[List.take_of_length_le (by omega)]at o3
  have hm:((aD.map fun l=>(⟨(dS l).toArray⟩:ByteArray)).map (·.data.toList))=aD.map dS:=by simp
  have WA:=SI B
  unfold uj at WA HK
  refine Ik o3.fa (fun hh=>by have:=congrArg List.length hh;simp at this;simp[this]at hp) (by simp;omega) (by rw[hm];show(Lib.join _ [59]).length<=_;omega) _ fun iu f12=>⟨_,rfl,cF.aB f12,?_⟩
  have:=HK iu ((vB f3).trans f12)
  rw[hm]
  exact this
theorem nG{P:Program}{t:TypeId}(ht:P.underlying t=some .string){K:Value->Prop}(k:IntKind)(s:ByteArray)(i:Int)(h0:0<=i)(h1:i.toNat<s.size)(H:K (.int .u8 (s[i.toNat]'h1).toNat)):pop P (Instr.index t (.string s) (.int k i)) K:=
 .mk' (fun w=>by
  have hu:=bX ht w
  have e:s[i.toNat]?=some (s[i.toNat]'h1):=by simp[getElem?_pos s i.toNat h1]
  unfold Instr.index
  simp[asIntOf,go_sem,hu,h0,e]) H
def fH(st:List (List Int)×List Int)(c:UInt8):List (List Int)×List Int:=
 if 48<=(c.toNat:Int)/\(c.toNat:Int)<=55 then(st.1,st.2++[(c.toNat:Int)-48])else if(c.toNat:Int)=59 then(st.1++[st.2],[])else st
def Is(s:List UInt8):List (List Int)×List Int:=s.foldl fH ([],[])
def vQ(s:List UInt8):List (List Int):=(Is s).1++[(Is s).2]
theorem Ku:∀(l:List UInt8)(st:List (List Int)×List Int),(l.foldl fH st).1.length<=st.1.length+l.length/\(l.foldl fH st).2.length<=st.2.length+l.length
 |[],st=>⟨Nat.le_refl _,Nat.le_refl _⟩
 |c::l,st=>by
  have ih:=Ku l (fH st c)
  rw[List.foldl_cons,List.length_cons]
  have:(fH st c).1.length<=st.1.length+1/\(fH st c).2.length<=st.2.length+1:=by
   unfold fH
   split
   ·simp
   ·split
    ·simp
    ·omega
  omega
theorem Kv{st:List (List Int)×List Int}{x:Int}(h0:0<=x)(h1:x<8):(Lib.decDigits x.toNat).foldl fH st=(st.1,st.2++[x]):=by
 rw[CO h0 (by omega)]
 have:∀n:Fin 8,((UInt8.ofNat (48+n.val)).toNat:Int)=48+n.val:=by decide
 have:=this ⟨x.toNat,by omega⟩
 simp only[List.foldl_cons,List.foldl_nil]
 unfold fH
 simp only at this
 rw[this,if_pos (by omega),show(48+(x.toNat:Int)-48)=x by omega]
theorem Kw:∀(xs:List Int)(st:List (List Int)×List Int),(∀x,x∈xs->0<=x/\x<8)->(uh 44 (xs.map fun x=>Lib.decDigits x.toNat)).foldl fH st=(st.1,st.2++xs)
 |[],st,_=>by simp[uh]
 |[x],st,h=>by
  have:=h x List.mem_cons_self
  rw[List.map_cons,List.map_nil,uh,Kv this.1 this.2]
 |x::y::xs,st,h=>by
  have h1:=h x List.mem_cons_self
  rw[List.map_cons,wG _ _ (by simp),List.foldl_append,Kv h1.1 h1.2,List.foldl_cons]
  rw[show fH (st.1,st.2++[x]) 44=(st.1,st.2++[x])from rfl,Kw (y::xs) _ fun z hz=>h z (List.mem_cons_of_mem _ hz)]
  simp
theorem FF{xs:List Int}(st:List (List Int)×List Int)(h:∀x,x∈xs->0<=x/\x<8):(dS xs).foldl fH st=(st.1,st.2++xs):=by
 unfold dS
 by_cases e:xs.length=0
 ·rw[if_pos e,List.length_eq_zero_iff.1 e,List.append_nil]
  rfl
 ·rw[if_neg e,sQ,Kw xs st h]
theorem FG:∀(g:List (List Int))(R:List (List Int)),g≠[]->(∀l,l∈g->∀x,x∈l->0<=x/\x<8)->((uh 59 (g.map dS)).foldl fH (R,[])).1++[((uh 59 (g.map dS)).foldl fH (R,[])).2]=R++g
 |[],R,h,_=>absurd rfl h
 |[l],R,_,h=>by
  rw[List.map_cons,List.map_nil,uh,FF _ (h l List.mem_cons_self)]
  simp
 |l::m::g,R,_,h=>by
  rw[List.map_cons,wG _ _ (by simp),List.foldl_append,FF _ (h l List.mem_cons_self),List.foldl_cons]
  rw[show fH (R,[]++l) 59=(R++[[]++l],[])from rfl,FG (m::g) _ (by simp) fun z hz=>h z (List.mem_cons_of_mem _ hz)]
  simp
theorem WQ{g:List (List Int)}(hg:aM g=true):vQ (uj g)=g:=by
 have gl:=aO hg
 unfold vQ Is uj
 rw[sQ,FG g [] (fun e=>by rw[e]at gl;simp at gl) fun l hl x hx=>by have:=(aT hg hl).2 x hx;omega,List.nil_append]
theorem uk(s:ByteArray):qk s=if s.data.toList.length<=200/\aM (vQ s.data.toList)=true/\uj (vQ s.data.toList)=s.data.toList then(vQ s.data.toList,true)else([],false):=by
 unfold qk
 cases hp:pf s.data.toList with
 |some g=>
  obtain⟨hg,ht⟩:=wH hp
  have hl:=SG hg
  have hc:=WQ hg
  rw[ht]at hl hc
  rw[if_pos ⟨hl,by rw[hc];exact hg,by rw[hc];exact ht⟩,hc]
 |none=>
  rw[if_neg]
  rintro⟨_,hg,ht⟩
  have:=SE hg
  rw[ht,hp]at this
  cases this
theorem L5{h:Heap}{s:ByteArray}(K:Value->Heap->Prop)(HK:∀t h',fM h' (Iv h.size h'.size) t (qk s).1->Fr No h h'->K (.tuple #[.agg #[t.v],VB (qk s).2]) h'):aE Tryz.prog 125 #[VS s] h K:=by
 have sl:=jX s
 refine afK s h K ⟨fun e b1 h2 dM f2 bP=> ?_,fun e b1 b2 h4 dM dE f4 dN=> ?_⟩
 ·simp only[decide_eq_true_eq]at e
  rw[uk,if_neg (by omega)]at HK
  exact HK aC h2 (dD.nil _ _ _ _) f2.aF
 simp only[decide_eq_false_iff_not]at e
 have f4:=f4.aF
 have z4:=f4.size
 have l2:b2<h4.size:=dN.head.lt
 have l1:b1<h4.size:=dN.tail.head.lt
 have fin:∀{h':Heap},Fr (fun k=>k=b2\/k=b1\/h4.size<=k) h4 h'->Fr No h h':=fun f=>f4.fresh f fun k hk=>by rcases hk with rfl|rfl|hk<;>omega
 have off:∀A B(q:Nat×List Value),q∈[(b2,A),(b1,B)]->q.1<h4.size:=fun A B q hq=>by
  simp only[List.mem_cons,List.not_mem_nil,or_false]at hq
  rcases hq with rfl|rfl<;>simp only<;>omega
 refine⟨fun n l i x h'=>0<=i/\i+n=(s.size:Int)/\(∃m,h4.size<=m/\m<=h'.size/\fM h' (fun k=>h4.size<=k/\k<m) x (Is (s.data.toList.take i.toNat)).1/\bK h' (fun k=>m<=k) l (Is (s.data.toList.take i.toNat)).2)/\Fr (fun k=>k=b2\/k=b1\/h4.size<=k) h4 h',⟨s.size,by omega,by omega,⟨h4.size,Nat.le_refl _,Nat.le_refl _,dD.nil _ _ _ _,Ow.nil _ _ _ _⟩,Fr.refl _ _⟩,?_⟩
 rintro n l i x h5 ⟨i0,i1,⟨m,m0,m1,ox,ol⟩,f5⟩ ic
 have z5:=f5.size
 have cl:=Ku (s.data.toList.take i.toNat) ([],[])
 simp only[List.length_nil,List.length_take]at cl
 have c1:(Is (s.data.toList.take i.toNat)).1.length<=200:=by have:=cl.1;unfold Is;omega
 have c2:(Is (s.data.toList.take i.toNat)).2.length<=200:=by have:=cl.2;unfold Is;omega
 have row:∀(T:Sl->Heap->Prop),(∀t h',fM h' (fun k=>h4.size<=k) t ((Is (s.data.toList.take i.toNat)).1++[(Is (s.data.toList.take i.toNat)).2])->Fr (fun k=>k=b2\/k=b1\/h4.size<=k) h4 h'->Vars h' [(b2,[t.v]),(b1,[aC.v])]->T t h')->kE Tryz.prog (Instr.buildSlice nZ 1 #[(0,l.v)]) h5 fun rv h1=>∃t:Sl,rv=t.v/\Vars h1 [(b2,[x.v]),(b1,[aC.v])]/\kE Tryz.prog (bR nZ nZ nZ x.v t.v) h1 fun Ia h2=>∃t2:Sl,Ia=t2.v/\Vars h2 [(b2,[x.v]),(b1,[aC.v])]/\∀dY,Fr (In [b2]) h2 dY->Vars dY [(b2,[t2.v]),(b1,[aC.v])]->T t2 dY:=fun T HT=>by
  refine sK (F:=fun k=>h4.size<=k) (m:=m) ox ol (fun k hk=>by omega) m1 ic (fun p hp=>by have:=off _ _ p hp;omega) (by omega) _ fun t h7 o7 f7 V7 h8 f8 fO=> ?_
  refine HT t h8 (dD.fr o7 f8 fun k hk aI HZ=>by simp[In]at HZ;omega) ((f5.trans (f7.mono fun k _ hk=> .inr (.inr hk))).trans (f8.mono fun k _ hk=> .inl (by simpa[In]using hk))) fO
 refine⟨fun e2=> ?_,fun e2=> ?_⟩
 ·simp only[decide_eq_true_eq]at e2
  have hi:i.toNat<s.data.toList.length:=by omega
  have hc:Is (s.data.toList.take (i.toNat+1))=fH (Is (s.data.toList.take i.toNat)) (s.data.toList[i.toNat]):=by
   unfold Is
   rw[List.take_add_one,List.getElem?_eq_getElem hi,Option.toList_some,List.foldl_append]
   rfl
  have WR:s[i.toNat]'(by omega)=s.data.toList[i.toNat]:=by
   show s.data[i.toNat]'_=_
   simp
  generalize hcv:s.data.toList[i.toNat]=c at hc WR
  generalize Ni:Is (s.data.toList.take i.toNat)=st at*
  have cb:(c.toNat:Int)<256:=by have:=c.toNat_lt;omega
  refine⟨fun l' x' h'=>(∃m,h4.size<=m/\m<=h'.size/\fM h' (fun k=>h4.size<=k/\k<m) x' (fH st c).1/\bK h' (fun k=>m<=k) l' (fH st c).2)/\Fr (fun k=>k=b2\/k=b1\/h4.size<=k) h4 h',?_,?_⟩
  ·have other:¬(48<=(c.toNat:Int)/\(c.toNat:Int)<=55)->¬(c.toNat:Int)=59->(∃m,h4.size<=m/\m<=h5.size/\fM h5 (fun k=>h4.size<=k/\k<m) x (fH st c).1/\bK h5 (fun k=>m<=k) l (fH st c).2)/\Fr (fun k=>k=b2\/k=b1\/h4.size<=k) h4 h5:=fun a b=>by
    unfold fH
    rw[if_neg a,if_neg b]
    exact⟨⟨m,m0,m1,ox,ol⟩,f5⟩
   have acx:¬(48<=(c.toNat:Int)/\(c.toNat:Int)<=55)->(c.toNat:Int)=59->∀t h',fM h' (fun k=>h4.size<=k) t (st.1++[st.2])->Fr (fun k=>k=b2\/k=b1\/h4.size<=k) h4 h'->(∃m,h4.size<=m/\m<=h'.size/\fM h' (fun k=>h4.size<=k/\k<m) t (fH st c).1/\bK h' (fun k=>m<=k) aC (fH st c).2)/\Fr (fun k=>k=b2\/k=b1\/h4.size<=k) h4 h':=fun a b t h' o f=>by
    unfold fH
    rw[if_neg a,if_pos b]
    exact⟨⟨h'.size,f.size,Nat.le_refl _,o.gf,Ow.nil _ _ _ _⟩,f⟩
   refine nG (by kernel_rfl) _ _ i i0 (by omega) ⟨_,rfl,?_⟩
   rw[WR]
   refine⟨fun e3=>⟨fun e4=> ?_,fun e4=> ?_⟩,fun e3=> ?_⟩
   ·simp only[decide_eq_true_eq]at e3 e4
    refine kP (show Tryz.prog.underlying _=some (.int .u8)from by kernel_rfl) (show Tryz.prog.underlying _=some (.int .i64)from by kernel_rfl) _ ⟨(c.toNat:Int)-48,?_,?_⟩
    ·have:IntKind.u8.wrap ((c.toNat:Int)-48)=(c.toNat:Int)-48:=by
      show((c.toNat:Int)-48)%256=_
      omega
     rw[this]
     show VI (aL _)=_
     rw[aH _ (by omega) (by omega)]
    refine sJ (lo:=m) ol m1 ic (fun p hp=>by have:=off _ _ p hp;omega) (by omega) _ fun t h7 o7 f7 V7=> ?_
    refine⟨⟨m,m0,Nat.le_trans m1 f7.size,?_,?_⟩,f5.trans (f7.mono fun k _ hk=> .inr (.inr (by omega)))⟩
    ·unfold fH
     rw[if_pos ⟨e3,e4⟩]
     exact dD.fr ox f7 fun k hk aI HZ=>by omega
    ·unfold fH
     rw[if_pos ⟨e3,e4⟩]
     exact o7
   ·simp only[decide_eq_true_eq,decide_eq_false_iff_not]at e3 e4
    refine⟨fun e6=> ?_,fun e6=> ?_⟩
    ·simp only[decide_eq_true_eq]at e6
     exact row _ fun t h' o f V=>acx (by omega) e6 t h' o f
    ·simp only[decide_eq_false_iff_not]at e6
     exact other (by omega) e6
   ·simp only[decide_eq_false_iff_not]at e3
    refine⟨fun e6=> ?_,fun e6=> ?_⟩
    ·simp only[decide_eq_true_eq]at e6
     exact row _ fun t h' o f V=>acx (by omega) e6 t h' o f
    ·simp only[decide_eq_false_iff_not]at e6
     exact other (by omega) e6
  ·rintro l' x' h6 ⟨hm,f6⟩ iN
   rw[aH (i+1) (by omega) (by omega)]
   refine⟨n-1,by omega,by omega,by omega,?_,f6⟩
   rw[show(i+1).toNat=i.toNat+1 by omega,hc]
   exact hm
 ·simp only[decide_eq_false_iff_not]at e2
  refine row _ fun t h7 o7 f7 V7=> ?_
  rw[List.take_of_length_le (by omega)]at o7
  have o7:fM h7 (fun k=>h4.size<=k) t (vQ s.data.toList):=o7
  have ocl:vQ s.data.toList=vQ s.data.toList:=rfl
  have bad:∀h' lg,Fr No h7 h'->Fr (In [b1]) h' lg->¬(s.data.toList.length<=200/\aM (vQ s.data.toList)=true/\uj (vQ s.data.toList)=s.data.toList)->K (.tuple #[.agg #[aC.v],VB false]) lg:=fun h' lg a b hn=>by
   rw[uk,if_neg hn]at HK
   exact HK aC lg (dD.nil _ _ _ _) (fin ((f7.trans a.aB).trans (b.mono fun k _ hk=> .inr (.inl (by simpa[In]using hk)))))
  refine jD o7.rd _ fun h8 f8=>⟨_,rfl,V7.aB f8,fun e3 h9 f9 gh=> ?_,fun e3=> ?_⟩
  ·exact bad h8 h9 f8 f9 fun hh=>by rw[hh.2.1]at e3;cases e3
  have e3:=aV e3
  refine sR (o7.rd.no f8) (jq e3) _ fun h9 f9=>⟨_,rfl,(V7.aB f8).aB f9,?_⟩
  rw[qZ]
  rw[show(⟨(uj (vQ s.data.toList)).toArray⟩:ByteArray).data.toList=uj (vQ s.data.toList)from rfl]
  refine⟨fun e4 dY f10 dP=> ?_,fun e4 dY f10 dP=> ?_⟩
  ·exact bad h9 dY (f8.trans f9) f10 fun hh=>by rw[decide_eq_true hh.2.2]at e4;cases e4
  ·have e4:=of_decide_eq_true (aV e4)
   rw[uk,if_pos ⟨by omega,e3,e4⟩]at HK
   have z7:=f7.size
   refine HK t dY ?_ (fin ((f7.trans (f8.trans f9).aB).trans (f10.mono fun k _ hk=> .inr (.inl (by simpa[In]using hk)))))
   have mV:=dD.fr ((o7.no f8).no f9) f10 fun k hk aI HZ=>by simp[In]at HZ;omega
   exact mV.mono fun k hk aI=>⟨by omega,hk⟩
def sq(g:List (List Int))(s:St):Nat->Option St
 |0=>some s
 |n+1=>(sq g s n).bind (cA g)
theorem yi(g:List (List Int))(s:St)(a:Nat):∀b,sq g s (a+b)=(sq g s a).bind fun t=>sq g t b
 |0=>by rw[Nat.add_zero];cases sq g s a<;>rfl
 |b+1=>by
  rw[<-Nat.add_assoc,sq,yi g s a b]
  cases sq g s a<;>rfl
theorem OL{g:List (List Int)}{s:St}{a b:Nat}(h:sq g s a=sq g s b)(k:Nat):sq g s (a+k)=sq g s (b+k):=by
 rw[yi,yi,h]
theorem wK{g:List (List Int)}{s:St}{a:Nat}(h:sq g s a=none)(k:Nat):sq g s (a+k)=none:=by
 rw[yi,h];rfl
structure sS(g:List (List Int))(s:St)(m n:Nat):Prop where
 lt:m<n
 eq:sq g s m=sq g s n
 some:sq g s m≠none
 J7:∀i j,i<j->j<n->sq g s i≠sq g s j
theorem WS{g:List (List Int)}{s:St}:∀(b:Nat){a:Nat},a<b->sq g s a=sq g s b->sq g s a≠none->∃m n,n<=b/\sS g s m n:=by
 intro b
 induction b using Nat.strongRecOn with
 |ind b ih=>
  intro a h1 h2 h3
  by_cases hx:∃i j,i<j/\j<b/\sq g s i=sq g s j
  ·obtain⟨i,j,x1,x2,x3⟩:=hx
   obtain⟨m,n,y1,y2⟩:=ih j x2 x1 x3 (fun hn=>by
    have e0:i<=a\/a<i:=by omega
    have:=wK hn (b-i)
    rw[show i+(b-i)=b by omega,<-h2]at this
    exact h3 this)
   exact⟨m,n,by omega,y2⟩
  ·exact⟨a,b,Nat.le_refl _,h1,h2,h3,fun i j x1 x2 x3=>hx ⟨i,j,x1,x2,x3⟩⟩
theorem sS.mul{g:List (List Int)}{s:St}{m n:Nat}(R:sS g s m n){a:Nat}(h:m<=a):∀k,sq g s (a+k*(n-m))=sq g s a
 |0=>by rw[Nat.zero_mul,Nat.add_zero]
 |k+1=>by
  have:=OL R.eq (a+k*(n-m)-m)
  have rO:=R.lt
  rw[show m+(a+k*(n-m)-m)=a+k*(n-m) by omega,R.mul h k]at this
  rw[this,Nat.succ_mul]
  congr 1;omega
theorem sS.all{g:List (List Int)}{s:St}{m n:Nat}(R:sS g s m n)(a:Nat):sq g s a≠none:=by
 intro h
 have h1:=wK h (m+a*(n-m))
 have rO:=R.lt
 have h2:=R.mul (a:=m) (Nat.le_refl _) a
 have:a<=a*(n-m):=Nat.le_mul_of_pos_right _ (by omega)
 have h3:=wK h (m+a*(n-m)-a)
 rw[show a+(m+a*(n-m)-a)=m+a*(n-m) by omega,h2]at h3
 exact R.some h3
theorem sS.rep{g:List (List Int)}{s:St}{m n:Nat}(R:sS g s m n){a:Nat}(h:m<=a):sq g s (m+(a-m)%(n-m))=sq g s a/\m+(a-m)%(n-m)<n:=by
 have rO:=R.lt
 have h1:=Nat.mod_add_div (a-m) (n-m)
 have h2:=R.mul (a:=m+(a-m)%(n-m)) (by omega) ((a-m)/(n-m))
 rw[Nat.mul_comm]at h1
 rw[show m+(a-m)%(n-m)+(a-m)/(n-m)*(n-m)=a by omega]at h2
 have h3:=Nat.mod_lt (a-m) (show n-m>0 by omega)
 exact⟨h2.symm,by omega⟩
theorem sS.iff{g:List (List Int)}{s:St}{m n:Nat}(R:sS g s m n){a b:Nat}(h:a<b):sq g s a=sq g s b↔m<=a/\(b-a)%(n-m)=0:=by
 have rO:=R.lt
 constructor
 ·intro e
  have ha:m<=a:=by
   refine Nat.not_lt.1 fun hl=> ?_
   by_cases hb:b<n
   ·exact R.J7 a b h hb e
   ·obtain⟨r1,r2⟩:=R.rep (a:=b) (by omega)
    exact R.J7 a _ (by omega) r2 (e.trans r1.symm)
  refine⟨ha,?_⟩
  obtain⟨r1,r2⟩:=R.rep (a:=b) (by omega)
  obtain⟨q1,q2⟩:=R.rep ha
  have hr:(a-m)%(n-m)=(b-m)%(n-m):=by
   rcases Nat.lt_trichotomy ((a-m)%(n-m)) ((b-m)%(n-m))with x|x|x
   ·exact absurd (q1.trans (e.trans r1.symm)) (R.J7 _ _ (by omega) r2)
   ·exact x
   ·exact absurd (r1.trans (e.symm.trans q1.symm)) (R.J7 _ _ (by omega) q2)
  have:=Nat.sub_mod_eq_zero_of_mod_eq hr.symm
  rwa [show b-m-(a-m)=b-a by omega]at this
 ·rintro⟨h1,h2⟩
  have h3:=Nat.mod_add_div (b-a) (n-m)
  rw[h2,Nat.zero_add,Nat.mul_comm]at h3
  have:=R.mul h1 ((b-a)/(n-m))
  rw[h3,show a+(b-a)=b by omega]at this
  exact this.symm
theorem sS.WT{g:List (List Int)}{s:St}{m n m' n':Nat}(R:sS g s m n)(R':sS g s m' n'):m=m'/\n=n':=by
 have h1:=R.lt
 have h2:=R'.lt
 have hn:n=n':=by
  rcases Nat.lt_trichotomy n n' with x|x|x
  ·exact absurd R.eq (R'.J7 m n h1 x)
  ·exact x
  ·exact absurd R'.eq (R.J7 m' n' h2 x)
 subst hn
 refine⟨?_,rfl⟩
 rcases Nat.lt_trichotomy m m' with x|x|x
 ·exact absurd (R.eq.trans R'.eq.symm) (R.J7 m m' x h2)
 ·exact x
 ·exact absurd (R'.eq.trans R.eq.symm) (R.J7 m' m x h1)
theorem sS.meets{g:List (List Int)}{s:St}{m n:Nat}(R:sS g s m n):∃k,1<=k/\k<=n/\m<=k/\sq g s k=sq g s (2*k):=by
 have rO:=R.lt
 have h1:=Nat.mod_add_div m (n-m)
 have h3:=Nat.mod_lt m (show n-m>0 by omega)
 by_cases h0:m%(n-m)=0/\1<=m
 ·refine⟨m,h0.2,by omega,Nat.le_refl _,(R.iff (by omega)).2 ⟨Nat.le_refl _,?_⟩⟩
  rw[show 2*m-m=m by omega];exact h0.1
 ·have hk:(n-m)*(m/(n-m)+1)=(n-m)*(m/(n-m))+(n-m):=by rw[Nat.mul_succ]
  refine⟨(n-m)*(m/(n-m)+1),by omega,?_,by omega,?_⟩
  ·by_cases hm:m=0
   ·subst hm
    simp at hk⊢
   ·have:m%(n-m)≠0:=fun e=>h0 ⟨e,by omega⟩
    omega
  ·refine(R.iff (by omega)).2 ⟨by omega,?_⟩
   rw[show 2*((n-m)*(m/(n-m)+1))-(n-m)*(m/(n-m)+1)=(n-m)*(m/(n-m)+1) by omega]
   exact Nat.mul_mod_right _ _
def oe:List St->St->Option Nat
 |[],_=>none
 |x::xs,s=>if x=s then some 0 else(oe xs s).map (·+1)
theorem pV:∀{hs:List St}{s:St}{m:Nat},oe hs s=some m->hs[m]?=some s
 |[],s,m,h=>by simp[oe]at h
 |x::xs,s,m,h=>by
  rw[oe]at h
  split at h
  ·rename_i e
   simp only[Option.some.injEq]at h
   rw[<-h,e];rfl
  ·cases hm:oe xs s with
   |none=>rw[hm]at h;simp at h
   |some k=>
    rw[hm]at h
    simp only[Option.map_some,Option.some.injEq]at h
    rw[<-h,List.getElem?_cons_succ]
    exact pV hm
theorem ul:∀{hs:List St}{s:St},oe hs s=none->s∉hs
 |[],s,_=>by simp
 |x::xs,s,h=>by
  rw[oe]at h
  split at h
  ·cases h
  ·rename_i e
   cases hm:oe xs s with
   |none=>
    intro hx
    rcases List.mem_cons.1 hx with a|a
    ·exact e a.symm
    ·exact ul hm a
   |some k=>rw[hm]at h;simp at h
def FH(g:List (List Int)):Nat->Nat->St->List St->Int×Int×Bool
 |0,_,_,_=>(0,0,false)
 |f+1,n,s,hs=>match oe hs s with
  |some m=>((m:Int),(n:Int)-m,true)
  |none=>match cA g s with
   |none=>(0,0,false)
   |some s'=>FH g f (n+1) s' (hs++[s])
structure CR(g:List (List Int))(s0:St)(n:Nat)(s:St)(hs:List St):Prop where
 len:hs.length=n
 at_:∀i,i<n->hs[i]?=sq g s0 i
 now:sq g s0 n=some s
 J7:∀i j,i<j->j<n->sq g s0 i≠sq g s0 j
theorem CR.init(g:List (List Int))(s0:St):CR g s0 0 s0 []:=⟨rfl,fun i h=>by omega,rfl,fun i j _ h=>by omega⟩
theorem CR.next{g:List (List Int)}{s0 s s':St}{n:Nat}{hs:List St}(H:CR g s0 n s hs)(h:oe hs s=none)(Ho:cA g s=some s'):CR g s0 (n+1) s' (hs++[s]):=by
 refine⟨by rw[List.length_append,H.len];rfl,fun i hi=> ?_,by rw[sq,H.now];exact Ho,fun i j h1 h2=> ?_⟩
 ·by_cases e:i=n
  ·subst e
   rw[List.getElem?_append_right (by rw[H.len];exact Nat.le_refl _),H.len,Nat.sub_self,H.now];rfl
  ·rw[List.getElem?_append_left (by rw[H.len];omega)]
   exact H.at_ i (by omega)
 ·by_cases e:j=n
  ·subst e
   intro he
   rw[H.now,<-H.at_ i h1]at he
   exact ul h (List.mem_of_getElem? he)
  ·exact H.J7 i j h1 (by omega)
theorem FI{g:List (List Int)}{s0:St}{m k:Nat}(R:sS g s0 m k):∀(f n:Nat)(s:St)(hs:List St),CR g s0 n s hs->n<=k->k<n+f->FH g f n s hs=((m:Int),(k:Int)-m,true)
 |0,n,s,hs,H,h1,h2=>by omega
 |f+1,n,s,hs,H,h1,h2=>by
  rw[FH]
  cases hi:oe hs s with
  |some i=>
   have h3:=pV hi
   have U3:i<n:=by
    refine Nat.not_le.1 fun hle=> ?_
    rw[List.getElem?_eq_none (by rw[H.len];exact hle)]at h3;cases h3
   rw[H.at_ i U3,<-H.now]at h3
   have R':sS g s0 i n:=⟨U3,h3,by rw[h3,H.now];simp,H.J7⟩
   obtain⟨a,b⟩:=R.WT R'
   rw[a,b]
  |none=>
   cases Ho:cA g s with
   |none=>
    exfalso
    have:=R.all (n+1)
    rw[sq,H.now]at this
    exact this Ho
   |some s'=>
    have eA:n≠k:=by
     rintro rfl
     have h3:=R.eq
     rw[H.now,<-H.at_ m R.lt]at h3
     exact ul hi (List.mem_of_getElem? h3)
    exact FI R f (n+1) s' _ (H.next hi Ho) (by omega) (by omega)
theorem Kx{g:List (List Int)}{s0:St}:∀(f n:Nat)(s:St)(hs:List St),CR g s0 n s hs->(∀m k,sS g s0 m k->n+f<=k)->FH g f n s hs=(0,0,false)
 |0,n,s,hs,H,h=>rfl
 |f+1,n,s,hs,H,h=>by
  rw[FH]
  cases hi:oe hs s with
  |some i=>
   have h3:=pV hi
   have U3:i<n:=by
    refine Nat.not_le.1 fun hle=> ?_
    rw[List.getElem?_eq_none (by rw[H.len];exact hle)]at h3;cases h3
   rw[H.at_ i U3,<-H.now]at h3
   have:=h i n ⟨U3,h3,by rw[h3,H.now];simp,H.J7⟩
   omega
  |none=>
   cases Ho:cA g s with
   |none=>rfl
   |some s'=>exact Kx f (n+1) s' _ (H.next hi Ho) fun m k R=>by have:=h m k R;omega
def FJ(g:List (List Int))(s:St):Int×Int×Bool:=FH g 2001 0 s []
theorem FK{g:List (List Int)}{s:St}{m k:Nat}(R:sS g s m k)(h:k<=2000):FJ g s=((m:Int),(k:Int)-m,true):=FI R 2001 0 s [] (CR.init g s) (Nat.zero_le _) (by omega)
theorem Ky{g:List (List Int)}{s:St}(h:∀m k,sS g s m k->2000<k):FJ g s=(0,0,false):=Kx 2001 0 s [] (CR.init g s) fun m k R=>by have:=h m k R;omega
def pi(h:Heap)(b:Nat)(eZ:List (ByteArray×Int)):Prop:=∃(es:Array MapEntry)(clock:Nat),h[b]?=some (.map es clock)/\es.toList.map (fun e=>(e.key,e.val))=eZ.map fun q=>(VS q.1,VI q.2)
theorem pi.lt{h:Heap}{b:Nat}{eZ:List (ByteArray×Int)}(M:pi h b eZ):b<h.size:=by
 obtain⟨es,c,hb,_⟩:=M
 exact(Array.getElem?_eq_some_iff.1 hb).1
theorem pi.fr{h h':Heap}{b:Nat}{eZ:List (ByteArray×Int)}{T:Nat->Prop}(M:pi h b eZ)(f:Fr T h h')(hT:¬T b):pi h' b eZ:=by
 have hl:=M.lt
 obtain⟨es,c,hb,e⟩:=M
 exact⟨es,c,by rw[f.same b hl hT];exact hb,e⟩
def pj(eZ:List (ByteArray×Int))(k:ByteArray):Option Int:=match eZ with
 |[]=>none
 |q::r=>if q.1=k then some q.2 else pj r k
theorem FL{t:TypeId}{h:Heap}{K:Value->Heap->Prop}(HK:∀h',pi h' h.size []->Fr No h h'->h.size<h'.size->K (.map (some h.size)) h'):kE Tryz.prog (Instr.makeMap t none) h K:=by
 refine⟨fun w hw=> ?_⟩
 subst hw
 refine⟨_,_,run_makeMap_plain w t,⟨rfl,rfl,rfl⟩,HK _ ⟨#[],0,?_,rfl⟩ (Fr.push w.heap _) ?_⟩
 ·show(w.heap.push _)[w.heap.size]?=_
  simp
 ·show w.heap.size<(w.heap.push _).size
  simp
theorem po{k:ByteArray}:∀(l:List MapEntry)(eZ:List (ByteArray×Int))(i:Nat),l.map (fun e=>(e.key,e.val))=eZ.map (fun q=>(VS q.1,VI q.2))->∃r,Instr.findNow .string (VS k) l i=some r/\r.map (·.2)=(pj eZ k).map VI
 |[],[],i,_=>⟨none,rfl,rfl⟩
 |[],q::r,i,h=>by simp at h
 |e::l,[],i,h=>by simp at h
 |e::l,q::r,i,h=>by
  simp only[List.map_cons,List.cons.injEq,Prod.mk.injEq]at h
  obtain⟨⟨h1,h2⟩,h3⟩:=h
  obtain⟨x,hx,hy⟩:=po l r (i+1) h3
  unfold Instr.findNow pj
  rw[h1]
  by_cases hq:q.1=k
  ·have:Instr.sameNow .string (VS k) (VS q.1)=some true:=by
    show some (k==q.1)=some true
    rw[hq,(MapKept.bytes_beq k k).2 rfl]
   rw[this,if_pos hq]
   exact⟨some (i,e.val),rfl,by simp[h2]⟩
  ·have:Instr.sameNow .string (VS k) (VS q.1)=some false:=by
    show some (k==q.1)=some false
    have:(k==q.1)=false:=by
     cases hb:(k==q.1)with
     |false=>rfl
     |true=>exact absurd ((MapKept.bytes_beq k q.1).1 hb).symm hq
    rw[this]
   rw[this,if_neg hq]
   exact⟨x,hx,hy⟩
theorem Iu{t kt et:TypeId}{h:Heap}{b:Nat}{eZ:List (ByteArray×Int)}{k:ByteArray}(hm:Tryz.prog.underlying t=some (.map kt et))(hk:Tryz.prog.underlying kt=some .string)(hz:oE Tryz.prog et=some (VI 0))(M:pi h b eZ){K:Value->Prop}(HK:K (.tuple #[VI ((pj eZ k).getD 0),VB (pj eZ k).isSome])):zS Tryz.prog (Instr.lookup t (.map (some b)) (VS k) true) h K:=by
 obtain⟨es,c,hb,e⟩:=M
 obtain⟨r,hr,hv⟩:=po (k:=k) es.toList eZ 0 e
 refine⟨_,fun w hw=> ?_,HK⟩
 subst hw
 have hc:(Instr.checkKey es.isEmpty 10000 kt (VS k)).run Tryz.prog w= .ok () w:=MapKept.run_checkKey (k:= .string k) hk (by simp[MapKept.IsKey]) es.isEmpty 9999
 have hf:=MapKept.run_findKey (w:=w) hk hr
 have hzr:(zeroValue et).run Tryz.prog w= .ok (VI 0) w:=by
  unfold oE at hz
  cases hi:Tryz.prog.info? et with
  |none=>rw[hi]at hz;simp at hz
  |some i=>
   rw[hi]at hz
   simp only[Option.bind_some]at hz
   unfold zeroValue
   rw[aK (dV hi w)]
   simp[hz,pure,Sem.run]
 unfold Instr.lookup
 simp only[Sem.run_bind,run_underlying hm,Result.andThen,MapKept.run_getObj_map hb,hc,hf]
 cases r with
 |none=>
  cases hs:pj eZ k with
  |none=>simp[hc,hf,Sem.run,pure,hzr,Result.andThen]
  |some x=>rw[hs]at hv;simp at hv
 |some p=>
  cases hs:pj eZ k with
  |none=>rw[hs]at hv;simp at hv
  |some x=>
   rw[hs]at hv
   simp only[Option.map_some,Option.some.injEq]at hv
   simp[hc,hf,Sem.run,pure,Result.andThen,hv]
theorem Ag{t kt et:TypeId}{h:Heap}{b:Nat}{eZ:List (ByteArray×Int)}{k:ByteArray}{x:Int}(hm:Tryz.prog.underlying t=some (.map kt et))(hk:Tryz.prog.underlying kt=some .string)(M:pi h b eZ)(hn:pj eZ k=none){K:Value->Heap->Prop}(HK:∀v h',pi h' b (eZ++[(k,x)])->Fr (In [b]) h h'->K v h'):Aq Tryz.prog (Instr.mapUpdate t (.map (some b)) (VS k) (VI x)) h K:=by
 have hl:=M.lt
 obtain⟨es,c,hb,e⟩:=M
 obtain⟨r,hr,hv⟩:=po (k:=k) es.toList eZ 0 e
 rw[hn]at hv
 have Cx:r=none:=by cases r with
  |none=>rfl
  |some p=>simp at hv
 subst Cx
 refine⟨fun w hw=> ?_⟩
 subst hw
 have hc:(Instr.checkKey false 10000 kt (VS k)).run Tryz.prog w= .ok () w:=MapKept.run_checkKey (k:= .string k) hk (by simp[MapKept.IsKey]) false 9999
 have hf:=MapKept.run_findKey (w:=w) hk hr
 refine⟨{w with heap:=w.heap.setIfInBounds b (.map (es.push {key:=VS k,val:=VI x,born:=c}) (c+1))},?_,⟨rfl,rfl,rfl⟩,HK _ _ ⟨es.push {key:=VS k,val:=VI x,born:=c},c+1,?_,?_⟩ ⟨by simp,fun j hj eA=> ?_⟩⟩
 ·unfold Instr.mapUpdate
  simp only[Sem.run_bind,run_underlying hm,Result.andThen,MapKept.run_getObj_map hb,hc,hf,MapKept.run_setObj_map _ hb]
 ·simp only
  rw[Array.getElem?_setIfInBounds,if_pos rfl,if_pos hl]
 ·rw[Array.toList_push,List.map_append,List.map_append,e]
  rfl
 ·simp only
  rw[Array.getElem?_setIfInBounds,if_neg (fun hh=>eA (by simp[In,hh]))]
def Kz(s:St):List UInt8:=Lib.decDigits s.2.toNat++[58]++dS s.1
def CS(s:St):ByteArray:=⟨(Kz s).toArray⟩
theorem CU{a b:Int}(a0:0<=a)(a1:a<10)(b0:0<=b)(b1:b<10){x y:List UInt8}(h:Lib.decDigits a.toNat++x=Lib.decDigits b.toNat++y):a=b/\x=y:=by
 rw[Lib.decDigits_one (show a.toNat<10 by omega),Lib.decDigits_one (show b.toNat<10 by omega)]at h
 simp only[List.cons_append,List.nil_append,List.cons.injEq]at h
 obtain⟨h1,h2⟩:=h
 have h3:=congrArg UInt8.toNat h1
 simp only[UInt8.toNat_ofNat']at h3
 exact⟨by omega,h2⟩
theorem FM:∀(us vs:List Int),us.length=vs.length->(∀x,x∈us->0<=x/\x<10)->(∀x,x∈vs->0<=x/\x<10)->Lib.joinTail [44] (us.map fun x=>Lib.decDigits x.toNat)=Lib.joinTail [44] (vs.map fun x=>Lib.decDigits x.toNat)->us=vs
 |[],[],_,_,_,_=>rfl
 |[],_::_,h,_,_,_=>by simp at h
 |_::_,[],h,_,_,_=>by simp at h
 |a::us,b::vs,hl,ha,hb,h=>by
  simp only[Lib.joinTail,List.map_cons,List.flatten_cons,List.append_assoc,List.cons_append,List.nil_append,List.cons.injEq,true_and]at h
  have A:=ha a (List.mem_cons_self ..)
  have B:=hb b (List.mem_cons_self ..)
  obtain⟨e1,e2⟩:=CU A.1 A.2 B.1 B.2 h
  rw[e1,FM us vs (by simpa using hl) (fun x hx=>ha x (List.mem_cons_of_mem _ hx)) (fun x hx=>hb x (List.mem_cons_of_mem _ hx)) e2]
theorem OM{us vs:List Int}(hl:us.length=vs.length)(ha:∀x,x∈us->0<=x/\x<10)(hb:∀x,x∈vs->0<=x/\x<10)(h:dS us=dS vs):us=vs:=by
 match us,vs,hl,ha,hb,h with
 |[],[],_,_,_,_=>rfl
 |[],_::_,hl,_,_,_=>simp at hl
 |_::_,[],hl,_,_,_=>simp at hl
 |a::us,b::vs,hl,ha,hb,h=>
  unfold dS at h
  rw[if_neg (by simp),if_neg (by simp)]at h
  simp only[List.map_cons]at h
  rw[Lib.join_cons,Lib.join_cons]at h
  have A:=ha a (List.mem_cons_self ..)
  have B:=hb b (List.mem_cons_self ..)
  obtain⟨e1,e2⟩:=CU A.1 A.2 B.1 B.2 h
  rw[e1,FM us vs (by simpa using hl) (fun x hx=>ha x (List.mem_cons_of_mem _ hx)) (fun x hx=>hb x (List.mem_cons_of_mem _ hx)) e2]
theorem fV{g:List (List Int)}{s:St}(W:gv g s):(∀x,x∈s.1->0<=x/\x<10)/\0<=s.2/\s.2<10/\s.1.length<=8:=by
 have hg:=aO W.bE
 have hl:=W.len
 have h0:=W.lo
 have h1:=W.hi
 refine⟨fun x hx=> ?_,h0,by omega,by omega⟩
 obtain⟨i,hi,rfl⟩:=List.getElem_of_mem hx
 have:=W.QQ i hi (by omega)
 have hm:=(aT W.bE (List.getElem_mem (show i<g.length by omega))).1
 omega
theorem key_inj{g:List (List Int)}{s t:St}(W:gv g s)(W':gv g t)(h:CS s=CS t):s=t:=by
 obtain⟨a1,a2,a3,_⟩:=fV W
 obtain⟨b1,b2,b3,_⟩:=fV W'
 have h:Kz s=Kz t:=by
  have:=congrArg (fun x=>x.data.toList) h
  simpa[CS]using this
 unfold Kz at h
 rw[List.append_assoc,List.append_assoc]at h
 obtain⟨e1,e2⟩:=CU a2 a3 b2 b3 h
 simp only[List.cons_append,List.nil_append,List.cons.injEq,true_and]at e2
 exact Prod.ext (OM (by rw[W.len,W'.len]) a1 b1 e2) e1
def kvL(hs:List St):List (ByteArray×Int):=hs.zipIdx.map fun q=>(CS q.1,(q.2:Int))
theorem ON(hs:List St)(s:St):kvL (hs++[s])=kvL hs++[(CS s,(hs.length:Int))]:=by
 unfold kvL
 rw[List.zipIdx_append,List.map_append]
 simp
theorem KA{g:List (List Int)}{s:St}(W:gv g s):∀(hs:List St)(k:Nat),(∀t,t∈hs->gv g t)->pj ((hs.zipIdx k).map fun q=>(CS q.1,(q.2:Int))) (CS s)=(oe hs s).map fun m=>((m+k:Nat):Int)
 |[],k,_=>rfl
 |t::hs,k,h=>by
  rw[List.zipIdx_cons,List.map_cons,pj,oe]
  by_cases e:t=s
  ·rw[if_pos (by rw[e]),if_pos e];simp
  ·rw[if_neg fun hh=>e (key_inj (h t (List.mem_cons_self ..)) W hh),if_neg e,KA W hs (k+1) fun t ht=>h t (List.mem_cons_of_mem _ ht)]
   cases oe hs s with
   |none=>rfl
   |some m=>simp only[Option.map_some,Option.some.injEq];omega
theorem yj{g:List (List Int)}{s:St}(W:gv g s)(hs:List St)(h:∀t,t∈hs->gv g t):pj (kvL hs) (CS s)=(oe hs s).map fun m=>((m:Nat):Int):=KA W hs 0 h
theorem Iw{S:Nat->Prop}{h:Heap}{w:Sl}{rs:List Int}{p:Int}(H:aP S h w rs)(B:∀x,x∈rs->0<=x/\x<100)(hn:rs.length<=1000)(p0:0<=p)(p1:p<100)(K:Value->Heap->Prop)(HK:∀h',Fr No h h'->K (VS (CS (rs,p))) h'):aE Tryz.prog 55 #[.agg #[w.v,VI p]] h K:=by
 refine v55 w p h K fun b1 h1 dM f1 bG=> ?_
 have f1:=f1.aF
 have d1:=sN (show p.toNat<100 by omega)
 have l1:=uf B
 refine OG p0 p1 _ ⟨_,rfl,bG,?_,?_⟩
 ·rw[bZ];show _+1<=_;omega
 refine yf (H.no f1) B hn _ fun h3 f3=>⟨_,rfl,bG.aB f3,?_,?_⟩
 ·rw[show(⟨#[58]⟩:ByteArray)=⟨[58].toArray⟩from rfl,eX,bZ,bZ,List.length_append]
  show _+1+_<=_
  omega
 ·rw[show(⟨#[58]⟩:ByteArray)=⟨[58].toArray⟩from rfl,eX,eX]
  exact HK h3 (f1.trans f3)
theorem OO{S S':Nat->Prop}{h:Heap}{g w:Sl}{aD:List (List Int)}{rs:List Int}{p:Int}(G:bF S h g aD)(H:aP S' h w rs)(W:gv aD (rs,p))(K:Value->Heap->Prop)(HK:∀h',Fr No h h'->K (.tuple #[VI (FJ aD (rs,p)).1,VI (FJ aD (rs,p)).2.1,VB (FJ aD (rs,p)).2.2]) h'):aE Tryz.prog 203 #[.agg #[g.v],.agg #[w.v,VI p]] h K:=by
 have hm:Tryz.prog.underlying 257=some (.map 9 3):=by kernel_rfl
 have hk:Tryz.prog.underlying 9=some .string:=by kernel_rfl
 have hz:oE Tryz.prog 3=some (VI 0):=by kernel_rfl
 have wl:=W.len
 have ws:=fV W
 have ws4:rs.length<=8:=ws.2.2.2
 refine v203 g w p h K fun b1 b2 h2 dM dE f2 bP=> ?_
 have f2:=f2.aF
 have z2:=f2.size
 have l2:b2<h2.size:=bP.head.lt
 have l1:b1<h2.size:=bP.tail.head.lt
 refine FL fun h3 M3 f3 s3=>⟨_,rfl,bP.aB f3,?_⟩
 have gj:=f2.trans f3
 refine iy (H.no gj) p (by omega) _ fun u h4 o4 f4=>⟨u,p,rfl,(bP.aB f3).aB f4,fun b3 h6 ia f6 iN=> ?_⟩
 have f6:=f6.aF
 have z4:=f4.size
 have z6:=f6.size
 have l3:b3<h6.size:=iN.head.lt
 have f36:=f4.trans f6
 generalize hF:(fun k=>Iv h3.size h4.size k\/k=b3)=F
 have F1:∀k,F k->h2.size<k:=fun k hk=>by rw[<-hF]at hk;rcases hk with hk|hk;exact Nat.lt_of_lt_of_le s3 hk.1;omega
 have F2:∀k,Iv h3.size h4.size k->F k:=fun k hk=>by rw[<-hF];exact .inl hk
 have F3:F b3:=by rw[<-hF];exact .inr rfl
 have o6:bK h6 F u rs:=(Ow.no o4 f6).mono fun k _ hk=>F2 k hk
 have hub:¬u.own b3:=fun hk=>by have:=(o4.aG hk).2;omega
 have vB:∀{x:Heap},Fr (fun k=>h2.size<=k) h x->Fr No h x:=fun f=>f.mono fun k hk aI=>absurd aI (by omega)
 have G0:bF (fun k=>S k/\k<h.size) h g aD:=G.zY
 refine⟨fun x q h'=>FJ aD (rs,p)=(0,0,false)/\Fr (fun k=>h2.size<=k) h h',⟨fun n i x q h'=>∃(hs:List St)(s:St),i=(hs.length:Int)/\n+hs.length=2001/\q=s.2/\bK h' F x s.1/\¬x.own b3/\pi h' h2.size (kvL hs)/\(∀t,t∈hs->gv aD t)/\gv aD s/\FJ aD (rs,p)=FH aD n hs.length s hs/\Fr (fun k=>h2.size<=k) h h',⟨2001,[],(rs,p),rfl,rfl,rfl,o6,hub,M3.fr f36 (fun h=>h),fun t ht=>(by cases ht),W,rfl,(gj.trans f36).aB⟩,?_⟩,?_⟩
 ·rintro n i x q h7 ⟨hs,s,rfl,en,rfl,o7,hx,M7,Wh,Ws,eP,f7⟩ j8
  have ss:=fV Ws
  refine⟨fun e=> ?_,fun e=> ?_⟩
  ·simp only[decide_eq_true_eq]at e
   obtain⟨n,rfl⟩:∃n',n=n'+1:=⟨n-1,by omega⟩
   rw[FH]at eP
   refine Iw (show aP _ h7 x s.1 from o7.fa) (fun y hy=>by have:=ss.1 y hy;omega) (by omega) ss.2.1 (by omega) _ fun h8 f8=>⟨_,rfl,j8.aB f8,?_⟩
   have M8:=M7.fr f8 (fun h=>h)
   refine Iu hm hk hz M8 ⟨_,_,rfl,fun e2=> ?_,fun e2=> ?_⟩
   ·rw[yj Ws hs Wh]at e2⊢
    cases hi:oe hs s with
    |none=>rw[hi]at e2;cases e2
    |some m=>
     rw[hi]at eP
     simp only at eP
     have hml:=(List.getElem?_eq_some_iff.1 (pV hi)).1
     simp only[Option.map_some,Option.getD_some]
     rw[aH _ (by omega) (by omega)]
     have:=HK h8 ((vB f7).trans f8)
     rw[eP]at this
     exact this
   ·rw[yj Ws hs Wh]at e2
    cases hi:oe hs s with
    |some m=>rw[hi]at e2;cases e2
    |none=>
     rw[hi]at eP
     simp only at eP
     refine Ag hm hk M8 (by rw[yj Ws hs Wh,hi];rfl) fun v h9 M9 f9=>⟨?_,?_⟩
     ·exact(j8.aB f8).fr f9 fun q hq hk=>by
       simp only[List.mem_cons,List.not_mem_nil,or_false]at hq
       simp only[In,List.mem_cons,List.not_mem_nil,or_false]at hk
       rcases hq with rfl|rfl|rfl<;>simp only at hk<;>omega
     have gh:Vars h9 [(b3,[x.v,VI s.2]),(b2,[w.v,VI p]),(b1,[g.v])]:=(j8.aB f8).fr f9 fun q hq hk=>by
      simp only[List.mem_cons,List.not_mem_nil,or_false]at hq
      simp only[In,List.mem_cons,List.not_mem_nil,or_false]at hk
      rcases hq with rfl|rfl|rfl<;>simp only at hk<;>omega
     have f79:Fr (fun k=>h2.size<=k) h7 h9:=f8.aB.trans (f9.mono fun k _ hk=>by simp[In]at hk;omega)
     have o9:bK h9 F x s.1:=Ow.fr (Ow.no o7 f8) f9 fun k hk aI=>by have:=F1 _ (o7.aG hk).1;simp[In]at aI;omega
     have MG:=f7.trans f79
     have M9':pi h9 h2.size (kvL (hs++[s])):=by rw[ON];exact M9
     have G9:bF (fun k=>S k/\k<h.size) h9 g aD:=G0.fr MG fun k hk aI=>by omega
     refine Cv (s:=s) G9 gh.head o9 (fun k hk aI=>by have:=F1 _ aI;omega) F3 hx Ws _ (fun hn dY f10=>⟨x,s.2,false,rfl,gh.aB f10,fun _=> ?_,fun e=>by cases e⟩) (fun s' Ho dY mV V10 f10=>⟨x,s'.2,true,rfl,?_,fun e=>(by cases e),fun _=> ?_⟩)
     ·rw[hn]at eP
      exact⟨eP,MG.trans f10.aB⟩
     ·exact .cons V10 (gh.ne) (gh.tail.fr f10 fun q hq hk=>by
       simp only[List.mem_cons,List.not_mem_nil,or_false]at hq
       have:=F1 _ hk
       rcases hq with rfl|rfl<;>simp only at this<;>omega)
     ·rw[Ho]at eP
      simp only at eP
      refine⟨n,by omega,hs++[s],s',?_,by simp;omega,rfl,mV,hx,M9'.fr f10 fun hk=>by have:=F1 _ hk;omega,fun t ht=> ?_,Ws.step Ho,by rw[eP];simp,MG.trans (f10.mono fun k _ hk=>by have:=F1 _ hk;omega)⟩
      ·rw[aH _ (by omega) (by omega)];simp
      ·rcases List.mem_append.1 ht with ht|ht
       ·exact Wh t ht
       ·simp only[List.mem_cons,List.not_mem_nil,or_false]at ht
        rw[ht];exact Ws
  ·simp only[decide_eq_false_iff_not]at e
   have:n=0:=by omega
   subst this
   exact⟨eP,f7⟩
 ·rintro x q ie ⟨eP,f11⟩ jm
  have:=HK ie (vB f11)
  rw[eP]at this
  exact this
def Ch{α:Type}(f:α->Option α):List α->Option α->Prop
 |[],_=>True
 |[x],e=>f x=e
 |x::y::l,e=>f x=some y/\Ch f (y::l) e
theorem Ch.at{α:Type}{f:α->Option α}{e:Option α}:∀{pre post:List α}{x:α},Ch f (pre++x::post) e->f x=(match post with|[]=>e|y::_=>some y)
 |[],[],x,h=>h
 |[],y::post,x,h=>h.1
 |[a],post,x,h=>Ch.at (pre:=[]) h.2
 |a::b::pre,post,x,h=>Ch.at (pre:=b::pre) h.2
theorem Ch.map{α β:Type}{f:α->Option α}{F:β->Option β}{g:α->β}{e:Option β}:∀{l:List α},Ch f l none->(∀x y,f x=some y->F (g x)=some (g y))->(∀x,f x=none->x∈l->F (g x)=e)->Ch F (l.map g) e
 |[],_,_,_=>trivial
 |[x],h,_,h2=>h2 x h (List.mem_singleton.2 rfl)
 |x::y::l,h,h1,h2=>⟨h1 x y h.1,Ch.map (l:=y::l) h.2 h1 fun z hz hm=>h2 z hz (List.mem_cons_of_mem _ hm)⟩
theorem qC(b:Nat):∀(vs:List Value)(i o:Nat)(w:World),(World.setCells w b (o+i) vs).heap=(vs.zipIdx i).foldl (fun h p=>Mx.cK h ((⟨b,o,none⟩:Addr).add p.2) p.1) w.heap/\cO w (World.setCells w b (o+i) vs)
 |[],i,o,w=>⟨rfl,cO.refl _⟩
 |v::vs,i,o,w=>by
  rw[World.setCells,List.zipIdx_cons,List.foldl_cons,gz]
  obtain⟨a,b'⟩:=qC b vs (i+1) o (w.setCell ⟨b,o+i,none⟩ v)
  rw[show o+i+1=o+(i+1) by omega,a]
  exact⟨rfl,cO.trans (b:=w.setCell ⟨b,o+i,none⟩ v) ⟨rfl,rfl,rfl⟩ b'⟩
theorem Ow.acy{F:Nat->Prop}{e:TypeId}{s:Sl}{g o:Nat}(ha:s.a=some ⟨g,o,none⟩):∀(vs:List Value)(i:Nat){h:Heap}{cs:List Value},Ow h F e 1 s cs->i+vs.length<=s.n->
 Fr s.own h ((vs.zipIdx i).foldl (fun h p=>Mx.cK h ((⟨g,o,none⟩:Addr).add p.2) p.1) h)/\Ow ((vs.zipIdx i).foldl (fun h p=>Mx.cK h ((⟨g,o,none⟩:Addr).add p.2) p.1) h) F e 1 s (cs.take i++vs++cs.drop (i+vs.length))
 |[],i,h,cs,H,_=>⟨Fr.refl _ _,by simpa using H⟩
 |v::vs,i,h,cs,H,hl=>by
  simp only[List.length_cons]at hl
  simp only[List.zipIdx_cons,List.foldl_cons]
  have hc:=H.len
  have gH:((i:Nat):Int)<(s.n:Int):=by omega
  have h0':(0:Int)<=((i:Nat):Int):=by omega
  obtain⟨_,a2,a3⟩:=H.eH h0' gH v
  have ea:s.at (i:Int) 1=(⟨g,o,none⟩:Addr).add i:=by rw[at_one ha];rfl
  rw[ea]at a2 a3
  rw[show((i:Nat):Int).toNat=i from rfl]at a2
  obtain⟨b1,b2⟩:=Ow.acy ha vs (i+1) a2 (by omega)
  refine⟨a3.trans b1,?_⟩
  have eq1:(cs.set i v).take (i+1)++vs++(cs.set i v).drop (i+1+vs.length)=cs.take i++(v::vs)++cs.drop (i+(v::vs).length):=by
   have e1:(cs.set i v).take (i+1)=cs.take i++[v]:=by
    rw[List.take_succ_eq_append_getElem (by simp;omega),List.take_set_of_le (Nat.le_refl _)]
    simp
   have e2:(cs.set i v).drop (i+1+vs.length)=cs.drop (i+(v::vs).length):=by
    rw[List.drop_set_of_lt (by omega)]
    congr 1
    simp;omega
   rw[e1,e2]
   simp
  rw[<-eq1]
  exact b2
theorem OP{h:Heap}{F:Nat->Prop}{s:Sl}{xs:List Int}(O:bK h F s xs){i:Nat}(hi:i<xs.length)(K:Value->Heap->Prop)(HK:∀t h',bK h' F t (xs.eraseIdx i)->Fr s.own h h'->(∀k,t.own k->s.own k)->K t.v h'):aE Tryz.prog 258 #[s.v,VI i,VI (i+1:Nat)] h K:=by
 have sn:s.n=xs.length:=by have:=O.len;simpa using this.symm
 rcases O.out with⟨_,hv⟩|⟨g,o,j6,ha,hF,hg,h1,h2,h3,h4⟩
 ·rw[List.map_eq_nil_iff]at hv
  rw[hv]at hi
  simp at hi
 have hsv:s.v= .slice (some ⟨g,o,none⟩) xs.length s.c:=by unfold Sl.v;rw[ha,<-sn]
 refine⟨fun w hw=> .inr ⟨258,_,w,Go.Proofs.enters_of Tryz.func258 (by kernel_rfl) rfl _ _,rfl,?_⟩⟩
 subst hw
 rw[hsv]
 refine(Tryz.slices_Delete_int_cells g o xs.length s.c i (i+1) xs w (Nat.le_refl _) (by omega) (by have:=h2;simp only[maxLen]at this;omega) (by omega) (by omega) (fun j hj=> ?_) (fun j hj=> ?_)).mono ?_
 ·have:=Ow.B8 O (i:=j) (by simpa using hj)
  rw[at_one ha]at this
  rw[rT,<-qO,aN hj]
  simpa using this
 ·rw[Le]
  exact EC hg
 ·rintro e w' ⟨rfl,q,rfl⟩
  rw[List.take_of_length_le (Nat.le_refl _),show i+1-i=1 by omega]
  obtain⟨a1,a2⟩:=qC g ((xs.take i++xs.drop (i+1)++List.replicate 1 0).map (Value.int .i64)) 0 o (w.drewN q)
  rw[Nat.add_zero]at a1 a2
  have ell:(xs.take i++xs.drop (i+1)++List.replicate 1 (0:Int)).length=xs.length:=by simp;omega
  obtain⟨b1,b2⟩:=Ow.acy ha ((xs.take i++xs.drop (i+1)++List.replicate 1 (0:Int)).map (Value.int .i64)) 0 O (by rw[List.length_map,ell];omega)
  refine⟨_,rfl,cO.trans (b:=w.drewN q) ⟨rfl,rfl,rfl⟩ a2,?_⟩
  rw[a1]
  have b3:=Ow.cut b2 (l:=0) (m:=xs.length-1) (by omega) (by omega)
  have et:s.cut 1 0 (xs.length-1) s.c=⟨some ⟨g,o,none⟩,xs.length-1,s.c⟩:=by
   unfold Sl.cut
   rw[ha,if_neg (by omega)]
   rfl
  rw[et]at b3
  refine HK ⟨some ⟨g,o,none⟩,xs.length-1,s.c⟩ _ ?_ b1 fun k hk=>by unfold Sl.own at*;rw[ha];exact hk
  have ex:(((List.take 0 (xs.map VI)++(xs.take i++xs.drop (i+1)++List.replicate 1 (0:Int)).map (Value.int .i64)++List.drop (0+((xs.take i++xs.drop (i+1)++List.replicate 1 (0:Int)).map (Value.int .i64)).length) (xs.map VI)).drop (0*1)).take ((xs.length-1-0)*1))=(xs.eraseIdx i).map VI:=by
   rw[List.length_map,ell,List.drop_of_length_le (l:=xs.map VI) (by simp),List.append_nil,List.take_zero,List.nil_append,Nat.zero_mul,List.drop_zero,List.map_append,List.take_append_of_le_length (by simp;omega),List.take_of_length_le (by simp;omega),List.eraseIdx_eq_take_drop_succ]
  rw[ex]at b3
  exact b3
def bV(rows:List (List Int)):jS:=fun i j=>(rows.getD i []).getD j 0
theorem gD{rows:List (List Int)}{i j:Nat}(h1:i<rows.length)(h2:j<rows[i].length):bV rows i j=(rows[i])[j]:=by unfold bV;rw[aR h1,aN h2]
theorem OQ{rows:List (List Int)}{i j:Nat}{v:Int}(h1:i<rows.length)(h2:j<rows[i].length)(a b:Nat):bV (rows.set i (rows[i].set j v)) a b=if a=i/\b=j then v else bV rows a b:=by
 unfold bV
 rw[List.getD_eq_getElem?_getD (l:=rows.set i _),List.getElem?_set]
 by_cases ha:i=a
 ·subst ha
  rw[if_pos rfl,if_pos h1,Option.getD_some,aR h1,List.getD_eq_getElem?_getD,List.getElem?_set]
  by_cases hb:j=b
  ·subst hb;rw[if_pos rfl,if_pos h2,if_pos ⟨rfl,rfl⟩];rfl
  ·rw[if_neg hb,if_neg fun h=>hb h.2.symm,List.getD_eq_getElem?_getD]
 ·rw[if_neg ha,if_neg fun h=>ha h.1.symm]
  simp[List.getD_eq_getElem?_getD]
structure Sq(n:Nat)(rows:List (List Int)):Prop where
 len:rows.length=n
 row:∀i(h:i<rows.length),rows[i].length=n
theorem Sq.set{n:Nat}{rows:List (List Int)}(H:Sq n rows){i:Nat}(hi:i<rows.length)(l:List Int)(hl:l.length=n):Sq n (rows.set i l):=⟨by rw[List.length_set];exact H.len,fun a ha=>by
 rw[List.getElem_set]
 split
 ·exact hl
 ·exact H.row a (by rw[List.length_set]at ha;exact ha)⟩
def SJ(rows:List (List Int))(i j:Nat):List (List Int):=(rows.set i (rows.getD j [])).set j (rows.getD i [])
theorem KB{rows:List (List Int)}{i j:Nat}(hi:i<rows.length)(hj:j<rows.length)(a:Nat):(SJ rows i j).getD a []=rows.getD (fC i j a) []:=by
 unfold SJ fC
 rw[List.getD_eq_getElem?_getD,List.getElem?_set,List.length_set,List.getElem?_set]
 by_cases h1:a=i
 ·subst h1
  rw[if_pos rfl]
  by_cases h2:j=a
  ·subst h2;rw[if_pos rfl,if_pos hj];simp
  ·rw[if_neg h2,if_pos rfl,if_pos hi];rfl
 ·rw[if_neg h1]
  by_cases h2:a=j
  ·subst h2;rw[if_pos rfl,if_pos hj,if_pos rfl];rfl
  ·rw[if_neg h2,if_neg fun e=>h2 e.symm,if_neg fun e=>h1 e.symm,List.getD_eq_getElem?_getD]
theorem KC{rows:List (List Int)}{i j:Nat}(hi:i<rows.length)(hj:j<rows.length):bV (SJ rows i j)=fun a=>bV rows (fC i j a):=by
 funext a b
 unfold bV
 rw[KB hi hj]
theorem WU{n:Nat}{rows:List (List Int)}(H:Sq n rows){i j:Nat}(hi:i<rows.length)(hj:j<rows.length):Sq n (SJ rows i j):=by
 unfold SJ
 refine(H.set hi _ ?_).set (by rw[List.length_set];exact hj) _ ?_
 ·rw[aR hj];exact H.row j hj
 ·rw[aR hi];exact H.row i hi
theorem dD.swap{h:Heap}{F:Nat->Prop}{eo ei:TypeId}{s:Sl}{aD:List (List Int)}(H:dD h F eo ei s aD){i j:Int}(i0:0<=i)(i1:i<(aD.length:Int))(j0:0<=j)(j1:j<(aD.length:Int))(eA:i≠j):
 ∃si sj:Sl,aQ h (s.at i 1)=some si.v/\aQ h (s.at j 1)=some sj.v/\dW s i/\dW s j/\dI h (s.at i 1)/\dI (cK h (s.at i 1) sj.v) (s.at j 1)/\
  dD (cK (cK h (s.at i 1) sj.v) (s.at j 1) si.v) F eo ei s (SJ aD i.toNat j.toNat)/\Fr s.own h (cK (cK h (s.at i 1) sj.v) (s.at j 1) si.v)/\Fr s.own h (cK h (s.at i 1) sj.v):=by
 have hlen:=H.len
 obtain⟨ss,e1,h2,h3,h4,h5⟩:=H.out
 have hi:i.toNat<ss.length:=by omega
 have hj:j.toNat<ss.length:=by omega
 have ci:=h2.B8 (i:=i.toNat) (by simpa using hi)
 have cj:=h2.B8 (i:=j.toNat) (by simpa using hj)
 rw[show((i.toNat:Nat):Int)=i by omega,List.getElem_map]at ci
 rw[show((j.toNat:Nat):Int)=j by omega,List.getElem_map]at cj
 obtain⟨w1,o1,f1⟩:=h2.eH (i:=i) i0 (by omega) ss[j.toNat].v
 obtain⟨w2,o2,f2⟩:=o1.eH (i:=j) j0 (by omega) ss[i.toNat].v
 refine⟨ss[i.toNat],ss[j.toNat],ci,cj,h2.bB i0 (by omega),h2.bB j0 (by omega),w1,w2,?_,f1.trans f2,f1⟩
 have f:=f1.trans f2
 have es:((ss.map Sl.v).set i.toNat ss[j.toNat].v).set j.toNat ss[i.toNat].v=((ss.set i.toNat ss[j.toNat]).set j.toNat ss[i.toNat]).map Sl.v:=by rw[List.map_set,List.map_set]
 rw[es]at o2
 have eg:∀a(ha:a<((ss.set i.toNat ss[j.toNat]).set j.toNat ss[i.toNat]).length),∃hb:fC i.toNat j.toNat a<ss.length,((ss.set i.toNat ss[j.toNat]).set j.toNat ss[i.toNat])[a]=ss[fC i.toNat j.toNat a]:=fun a ha=>by
  rw[List.length_set,List.length_set]at ha
  have hb:fC i.toNat j.toNat a<ss.length:=by unfold fC;split<;>(try split)<;>omega
  refine⟨hb,?_⟩
  rw[List.getElem_set]
  by_cases h1:j.toNat=a
  ·rw[if_pos h1]
   congr 1
   unfold fC
   rw[if_neg (by omega),if_pos h1.symm]
  ·rw[if_neg h1,List.getElem_set]
   by_cases h2:i.toNat=a
   ·rw[if_pos h2]
    congr 1
    unfold fC
    rw[if_pos h2.symm]
   ·rw[if_neg h2]
    congr 1
    unfold fC
    rw[if_neg fun e=>h2 e.symm,if_neg fun e=>h1 e.symm]
 have inj:∀a b,a≠b->fC i.toNat j.toNat a≠fC i.toNat j.toNat b:=fun a b hab=>by
  unfold fC
  by_cases h1:a=i.toNat<;>by_cases h2:a=j.toNat<;>by_cases h3:b=i.toNat<;>by_cases h4:b=j.toNat<;>simp only[h1,h2,h3,h4,if_true,if_false]<;>(repeat' split)<;>omega
 refine⟨(ss.set i.toNat ss[j.toNat]).set j.toNat ss[i.toNat],?_,o2,fun a ha hb=> ?_,fun a b ha hb hab k=> ?_,fun a ha k hk=> ?_⟩
 ·unfold SJ
  simp only[List.length_set]
  exact e1
 ·obtain⟨hc,e⟩:=eg a ha
  rw[e]
  have ex:(SJ aD i.toNat j.toNat)[a]=aD[fC i.toNat j.toNat a]'(by omega):=by
   have:=KB (rows:=aD) (i:=i.toNat) (j:=j.toNat) (by omega) (by omega) a
   rw[aR hb,aR (by omega)]at this
   exact this
  rw[ex]
  exact(h3 _ hc (by omega)).fr f fun k hk hs=>h5 _ hc k hs hk
 ·obtain⟨hc,e⟩:=eg a ha
  obtain⟨hd,e'⟩:=eg b hb
  rw[e,e']
  exact h4 _ _ hc hd (inj a b hab) k
 ·obtain⟨hc,e⟩:=eg a ha
  rw[e]
  exact h5 _ hc k hk
theorem um{x:Int}{b:Nat}(h:x.natAbs<=b): -(b:Int)<=x/\x<=b:=by omega
theorem KD{x y:Int}{b:Nat}(h:x.natAbs<=b)(h':y.natAbs<=b):(x*y).natAbs<=b*b:=by rw[Int.natAbs_mul];exact Nat.mul_le_mul h h'
theorem ajA:Hd 6=720000000:=rfl
theorem WV:Hd 7=50400000000:=rfl
def vR(R:jS)(k:Nat)(last:Int)(i j:Nat):Int:=(R i j*R k k-R i k*R k j).tdiv last
theorem SK{n k:Nat}{last:Int}{O R:jS}(H:sM n k last O fun i j=>R (k+i) (k+j))(hO:Small n O)(hn:n<=7)(hl:last≠0){i j:Nat}(hi:k<i)(gH:i<n)(hj:k<j)(Ft:j<n):
 aL ((aL (aL (R i j*R k k)-aL (R i k*R k j))).tdiv last)=vR R k last i j:=by
 have b:∀a b,a<n->k<=a->b<n->k<=b->(R a b).natAbs<=720000000:=fun a b h1 h2 h3 h4=>by
  have:=H.acv hO (i:=a-k) (j:=b-k) (by omega) (by omega)
  (try simp only at this)
  rw[show k+(a-k)=a by omega,show k+(b-k)=b by omega]at this
  exact Nat.le_trans this (Nat.le_trans (yb (show k+1<=6 by omega)) (by rw[ajA];exact Nat.le_refl _))
 have b1:=um (KD (b i j gH (by omega) Ft (by omega)) (b k k (by omega) (by omega) (by omega) (by omega)))
 have b2:=um (KD (b i k gH (by omega) (by omega) (by omega)) (b k j (by omega) (by omega) Ft (by omega)))
 rw[aH (R i j*R k k) (by omega) (by omega),aH (R i k*R k j) (by omega) (by omega),aH (R i j*R k k-R i k*R k j) (by omega) (by omega)]
 obtain⟨q,hq⟩:=H.exact (i:=i-k-1) (j:=j-k-1) (by omega) (by omega)
 have eq:R i j*R k k-R i k*R k j=last*q:=by
  rw[<-hq]
  unfold CH
  (try simp only)
  rw[show k+(i-k-1+1)=i by omega,show k+(j-k-1+1)=j by omega,show k+0=k by omega,Int.mul_comm (R k k)]
 unfold vR
 have gN:q.natAbs<=(last*q).natAbs:=by
  rw[Int.natAbs_mul]
  exact Nat.le_mul_of_pos_left _ (by omega)
 rw[Kf eq hl]
 rw[<-eq]at gN
 exact aH _ (by omega) (by omega)
theorem OR{n k:Nat}{last:Int}{O R R':jS}(H:sM n k last O fun i j=>R (k+i) (k+j))(hl:last≠0)(hk:R k k≠0)(hR:∀i j,k<i->i<n->k<j->j<n->R' i j=vR R k last i j):sM n (k+1) (R k k) O fun i j=>R' (k+1+i) (k+1+j):=by
 have:=sM.step (A':=fun i j=>R' (k+1+i) (k+1+j)) H hl hk fun i j hi hj=>by
  (try simp only)
  rw[hR _ _ (by omega) (by omega) (by omega) (by omega)]
  unfold vR CH
  (try simp only)
  rw[show k+(i+1)=k+1+i by omega,show k+(j+1)=k+1+j by omega,show k+0=k by omega,Int.mul_comm (R k k)]
 exact this
def PM(s:Int):Prop:=s=1\/s= -1
theorem PM.neg_eq{s:Int}(h:PM s):aL (0-s)= -s:=by rcases h with rfl|rfl<;>rfl
theorem PM.neg{s:Int}(h:PM s):PM (aL (0-s)):=by rcases h with rfl|rfl;exact .inr rfl;exact .inl rfl
theorem SL{F:Nat->Prop}{iu:Heap}{a:Sl}{rt:List (List Int)}{n:Nat}{k i j last:Int}{R O:jS}(Ob:fM iu F a rt)(WW:Sq n rt)(S:Small n O)(hn:n<=7)(hl:last≠0)(B:sM n k.toNat last O fun i j=>R (k.toNat+i) (k.toNat+j))(k0:0<=k)(ki:k<i)(hi:i<(n:Int))(kj:k<j)(hj:j<(n:Int))
 (U4:∀i' j',i'<n->j'<n->bV rt i' j'=if k.toNat<i'/\k.toNat<j'/\(i'<i.toNat\/i'=i.toNat/\j'<j.toNat)then vR R k.toNat last i' j' else R i' j') (C:Heap->Prop)
 (HC:∀sD rs,fM sD F a rs->Sq n rs->(∀i' j',i'<n->j'<n->bV rs i' j'=if k.toNat<i'/\k.toNat<j'/\(i'<i.toNat\/i'=i.toNat/\j'<j.toNat+1)then vR R k.toNat last i' j' else R i' j')->Fr F iu sD->C sD):
 dW a i/\∃t87:Sl,aQ iu (Sl.at a i 1)=some t87.v/\dW a i/\∃t92:Sl,aQ iu (Sl.at a i 1)=some t92.v/\dW t92 j/\∃t95:Int,aQ iu (Sl.at t92 j 1)=some (VI t95)/\dW a k/\∃t99:Sl,aQ iu (Sl.at a k 1)=some t99.v/\dW t99 k/\∃t102:Int,aQ iu (Sl.at t99 k 1)=some (VI t102)/\dW a i/\∃t107:Sl,aQ iu (Sl.at a i 1)=some t107.v/\dW t107 k/\∃t110:Int,aQ iu (Sl.at t107 k 1)=some (VI t110)/\dW a k/\∃t114:Sl,aQ iu (Sl.at a k 1)=some t114.v/\dW t114 j/\∃t117:Int,aQ iu (Sl.at t114 j 1)=some (VI t117)/\last≠0/\
  dW t87 j/\dI iu (Sl.at t87 j 1)/\Vars (cK iu (Sl.at t87 j 1) (VI (aL (Int.tdiv (aL ((aL (t95*t102))-(aL (t110*t117)))) last)))) []/\∀sD:Heap,sD=cK iu (Sl.at t87 j 1) (VI (aL (Int.tdiv (aL ((aL (t95*t102))-(aL (t110*t117)))) last)))->Vars sD []->C sD:=by
 have apH:=WW.len
 have R12:=dD.rd Ob
 have i0:0<=i:=by omega
 have j0:0<=j:=by omega
 have ir:i<(rt.length:Int):=by omega
 have kr:k<(rt.length:Int):=by omega
 obtain⟨si,ci,oi,wz⟩:=dD.inner Ob i0 ir
 have JL:i.toNat<rt.length:=by omega
 have CV:k.toNat<rt.length:=by omega
 have wC:i.toNat<n:=by omega
 have aI:k.toNat<n:=by omega
 have Ib:j.toNat<n:=by omega
 have lri:=WW.row i.toNat JL
 have lrk:=WW.row k.toNat CV
 have ri:aP F iu si (rt[i.toNat]' JL):=oi.fa
 obtain⟨sk,ck,rk⟩:=R12.get k0 kr
 have ij1:j.toNat<(rt[i.toNat]' JL).length:=by omega
 have ik1:k.toNat<(rt[i.toNat]' JL).length:=by omega
 have kj1:j.toNat<(rt[k.toNat]' CV).length:=by omega
 have kk1:k.toNat<(rt[k.toNat]' CV).length:=by omega
 have v1:(rt[i.toNat]' JL)[j.toNat]'ij1=R i.toNat j.toNat:=by rw[<-gD JL ij1,U4 _ _ wC Ib,if_neg (by omega)]
 have v2:(rt[k.toNat]' CV)[k.toNat]'kk1=R k.toNat k.toNat:=by rw[<-gD CV kk1,U4 _ _ aI aI,if_neg (by omega)]
 have v3:(rt[i.toNat]' JL)[k.toNat]'ik1=R i.toNat k.toNat:=by rw[<-gD JL ik1,U4 _ _ wC aI,if_neg (by omega)]
 have v4:(rt[k.toNat]' CV)[j.toNat]'kj1=R k.toNat j.toNat:=by rw[<-gD CV kj1,U4 _ _ aI Ib,if_neg (by omega)]
 have rin:=aP.len ri
 have rkn:=aP.len rk
 have b1:j<((rt[i.toNat]' JL).length:Int):=by omega
 have b2:k<((rt[i.toNat]' JL).length:Int):=by omega
 have b3:j<((rt[k.toNat]' CV).length:Int):=by omega
 have b4:k<((rt[k.toNat]' CV).length:Int):=by omega
 obtain⟨wr,os,fs⟩:=Ow.eH oi j0 (show j<(si.n:Int) by omega) (VI (vR R k.toNat last i.toNat j.toNat))
 have es:=SK B S hn hl (i:=i.toNat) (j:=j.toNat) (by omega) wC (by omega) Ib
 refine⟨R12.bB i0 ir,si,ci,R12.bB i0 ir,si,ci,ri.bB j0 b1,_,ri.get j0 b1,R12.bB k0 kr,sk,ck,rk.bB k0 b4,_,rk.get k0 b4,R12.bB i0 ir,si,ci,ri.bB k0 b2,_,ri.get k0 b2,R12.bB k0 kr,sk,ck,rk.bB j0 b3,_,rk.get j0 b3,hl,ri.bB j0 b1,wr,.nil,?_⟩
 simp only[v1,v2,v3,v4,es]
 rintro sD rfl _
 have os':bK (cK iu (si.at j 1) (VI (vR R k.toNat last i.toNat j.toNat))) F si ((rt[i.toNat]' JL).set j.toNat (vR R k.toNat last i.toNat j.toNat)):=by
  show Ow _ _ _ _ _ _
  rw[List.map_set]
  exact os
 refine HC _ _ (wz _ _ fs os') (WW.set JL _ (by rw[List.length_set];exact lri)) (fun i' j' h1 h2=> ?_) (fs.mono fun q _ hq=>(Ow.aG oi hq).1)
 rw[OQ JL ij1,U4 i' j' h1 h2]
 by_cases hc:i'=i.toNat/\j'=j.toNat
 ·rw[if_pos hc,hc.1,hc.2,if_pos (by omega)]
 ·rw[if_neg hc]
  by_cases hd:k.toNat<i'/\k.toNat<j'/\(i'<i.toNat\/i'=i.toNat/\j'<j.toNat)
  ·rw[if_pos hd,if_pos (by omega)]
  ·rw[if_neg hd,if_neg (by omega)]
theorem SM{F:Nat->Prop}{dY:Heap}{s a:Sl}{rows:List (List Int)}{n:Nat}{k last:Int}{O:jS}(mV:fM dY F a rows)(Q10:Sq n rows)(S:Small n O)(hn:n<=7)(hl:last≠0)(B:sM n k.toNat last O fun i j=>bV rows (k.toNat+i) (k.toNat+j))(k0:0<=k)(hk:k<(n:Int))(sn:s.n=n)(C:Int->Heap->Prop)
 (HC:∀ie rs,fM ie F a rs->Sq n rs->(∀i' j',i'<n->j'<n->bV rs i' j'=if k.toNat<i'/\k.toNat<j' then vR (bV rows) k.toNat last i' j' else bV rows i' j')->Fr F dY ie->C (bV rows k.toNat k.toNat) ie):
 ∃OS:Nat->Int->Heap->Prop,(∃n0:Nat,OS n0 (k+1) dY)/\∀(n_4:Nat)(i:Int)(ie:Heap),OS n_4 i ie->Vars ie []->
  ((decide (i<(s.n:Int)))=true->∃WX:Nat->Int->Heap->Prop,(∃n0:Nat,WX n0 (k+1) ie)/\∀(n_5:Nat)(j:Int)(iu:Heap),WX n_5 j iu->Vars iu []->
    ((decide (j<(s.n:Int)))=true->dW a i/\∃t87:Sl,aQ iu (Sl.at a i 1)=some t87.v/\dW a i/\∃t92:Sl,aQ iu (Sl.at a i 1)=some t92.v/\dW t92 j/\∃t95:Int,aQ iu (Sl.at t92 j 1)=some (VI t95)/\dW a k/\∃t99:Sl,aQ iu (Sl.at a k 1)=some t99.v/\dW t99 k/\∃t102:Int,aQ iu (Sl.at t99 k 1)=some (VI t102)/\dW a i/\∃t107:Sl,aQ iu (Sl.at a i 1)=some t107.v/\dW t107 k/\∃t110:Int,aQ iu (Sl.at t107 k 1)=some (VI t110)/\dW a k/\∃t114:Sl,aQ iu (Sl.at a k 1)=some t114.v/\dW t114 j/\∃t117:Int,aQ iu (Sl.at t114 j 1)=some (VI t117)/\last≠0/\
      dW t87 j/\dI iu (Sl.at t87 j 1)/\Vars (cK iu (Sl.at t87 j 1) (VI (aL (Int.tdiv (aL ((aL (t95*t102))-(aL (t110*t117)))) last)))) []/\∀sD:Heap,sD=cK iu (Sl.at t87 j 1) (VI (aL (Int.tdiv (aL ((aL (t95*t102))-(aL (t110*t117)))) last)))->Vars sD []->∃m:Nat,m<n_5/\WX m (aL (j+1)) sD)/\
    ((decide (j<(s.n:Int)))=false->∃m:Nat,m<n_4/\OS m (aL (i+1)) iu))/\
  ((decide (i<(s.n:Int)))=false->dW a k/\∃t126:Sl,aQ ie (Sl.at a k 1)=some t126.v/\dW t126 k/\∃t129:Int,aQ ie (Sl.at t126 k 1)=some (VI t129)/\C t129 ie):=by
 refine⟨fun m4 i h'=>k<i/\i+m4=(n:Int)/\(∃rs,fM h' F a rs/\Sq n rs/\∀i' j',i'<n->j'<n->bV rs i' j'=if k.toNat<i'/\k.toNat<j'/\i'<i.toNat then vR (bV rows) k.toNat last i' j' else bV rows i' j')/\Fr F dY h',⟨n-(k.toNat+1),by omega,by omega,⟨rows,mV,Q10,fun i' j' _ _=>by rw[if_neg (by omega)]⟩,Fr.refl _ _⟩,?_⟩
 rintro m4 i ie ⟨i0',i1',⟨rs,lV,Q11,Sz⟩,f11⟩ jm
 have apM:=Q11.len
 refine⟨fun e7=> ?_,fun e7=> ?_⟩
 ·simp only[decide_eq_true_eq]at e7
  have hi7:i<(n:Int):=by omega
  refine⟨fun m5 j h'=>k<j/\j+m5=(n:Int)/\(∃rs,fM h' F a rs/\Sq n rs/\∀i' j',i'<n->j'<n->bV rs i' j'=if k.toNat<i'/\k.toNat<j'/\(i'<i.toNat\/i'=i.toNat/\j'<j.toNat)then vR (bV rows) k.toNat last i' j' else bV rows i' j')/\Fr F dY h',⟨n-(k.toNat+1),by omega,by omega,⟨rs,lV,Q11,fun i' j' h1 h2=> ?_⟩,f11⟩,?_⟩
  ·rw[Sz i' j' h1 h2]
   by_cases hc:k.toNat<i'/\k.toNat<j'/\i'<i.toNat
   ·rw[if_pos hc,if_pos ⟨hc.1,hc.2.1,.inl hc.2.2⟩]
   ·rw[if_neg hc,if_neg (by omega)]
  rintro m5 j iu ⟨j0',j1',⟨rt,Ob,WW,U4⟩,f12⟩ q6
  refine⟨fun e8=> ?_,fun e8=> ?_⟩
  ·simp only[decide_eq_true_eq]at e8
   have hj8:j<(n:Int):=by omega
   refine SL Ob WW S hn hl B k0 i0' hi7 j0' hj8 U4 _ fun sD sT L6 Q13 ajC f13=> ?_
   have jw:aL (j+1)=j+1:=aH _ (by omega) (by omega)
   rw[jw]
   exact⟨m5-1,by omega,by omega,by omega,⟨sT,L6,Q13,by rw[show(j+1).toNat=j.toNat+1 by omega];exact ajC⟩,f12.trans f13⟩
  ·simp only[decide_eq_false_iff_not]at e8
   have hj8:j=(n:Int):=by omega
   have iw:aL (i+1)=i+1:=aH _ (by omega) (by omega)
   rw[iw]
   refine⟨m4-1,by omega,by omega,by omega,⟨rt,Ob,WW,fun i' j' h1 h2=> ?_⟩,f12⟩
   rw[U4 i' j' h1 h2,show(i+1).toNat=i.toNat+1 by omega]
   by_cases hd:k.toNat<i'/\k.toNat<j'/\(i'<i.toNat\/i'=i.toNat/\j'<j.toNat)
   ·rw[if_pos hd,if_pos (by omega)]
   ·rw[if_neg hd,if_neg (by omega)]
 ·simp only[decide_eq_false_iff_not]at e7
  have hi7:i=(n:Int):=by omega
  have SN:=dD.rd lV
  have kr:k<(rs.length:Int):=by omega
  have CV:k.toNat<rs.length:=by omega
  have aI:k.toNat<n:=by omega
  obtain⟨sk,ck,rk⟩:=SN.get k0 kr
  have lrk:=Q11.row k.toNat CV
  have kk1:k.toNat<(rs[k.toNat]' CV).length:=by omega
  have v2:(rs[k.toNat]' CV)[k.toNat]'kk1=bV rows k.toNat k.toNat:=by rw[<-gD CV kk1,Sz _ _ aI aI,if_neg (by omega)]
  refine⟨SN.bB k0 kr,sk,ck,rk.bB k0 (by omega),_,rk.get k0 (by omega),?_⟩
  rw[v2]
  refine HC ie rs lV Q11 (fun i' j' h1 h2=> ?_) f11
  rw[Sz i' j' h1 h2]
  by_cases hd:k.toNat<i'/\k.toNat<j'/\i'<i.toNat
  ·rw[if_pos hd,if_pos ⟨hd.1,hd.2.1⟩]
  ·rw[if_neg hd,if_neg (by omega)]
set_option maxHeartbeats 4000000 in
theorem lY{S:Nat->Prop}{h:Heap}{s:Sl}{aD:List (List Int)}(M:bF S h s aD)(Q:Sq aD.length aD)(hn:aD.length<=7)(hb:Small aD.length (bV aD)):pO Tryz.prog 212 #[s.v] h (VI (cM aD.length (bV aD))):=by
 intro K HK
 have sn:=M.len
 refine v212 s h K ?_
 have vB:∀{x:Heap},Fr (fun k=>h.size<=k) h x->Fr No h x:=fun f=>f.mono fun k hk aI=>absurd aI (by omega)
 refine aS qg (fun k=>h.size<=k) (fun _ h=>h) 0 (by omega) [] rfl rfl fun a0 h1 n1 c1 o1 f1 m1 _=>⟨a0,rfl,.nil,?_⟩
 have z1:=f1.size
 have Sa:fM h1 (fun k=>h.size<=k) a0 []:=⟨[],rfl,o1,fun i h1=>by simp at h1,fun i j h1=>by simp at h1,fun i h1=>by simp at h1⟩
 refine⟨fun m a i h'=>0<=i/\i+m=(aD.length:Int)/\fM h' (fun k=>h.size<=k) a (aD.take i.toNat)/\Fr (fun k=>h.size<=k) h h',⟨aD.length,Int.le_refl _,by omega,Sa,f1.aB⟩,?_⟩
 rintro m a i h2 ⟨i0,i1,o2,f2⟩ bP
 have M2:=M.no (vB f2)
 refine⟨fun e=> ?_,fun e=> ?_⟩
 ·have hi:=M.lt e
  obtain⟨si,ci,ri⟩:=M2.get i0 hi
  have rl:=Q.row i.toNat (by omega)
  refine⟨M2.bB i0 hi,si,ci,wx ri (by omega) _ fun t h3 o3 f3=>⟨t,rfl,.nil,?_⟩⟩
  have z3:=f3.size
  refine jN (lo:=h.size) (m:=h2.size) (dD.gf o2|>.no f3) (o3.mono fun k _ hk=>hk.1) f2.size z3 .nil (fun p hp=>by simp at hp) (by rw[List.length_take];omega) _ fun t2 h5 o5 f5 V5=> ?_
  rw[M.succ i0 hi]
  refine⟨m-1,by omega,by omega,by omega,?_,(f2.trans f3.aB).trans f5⟩
  rw[eB _ i0 hi]
  exact o5
 ·have hi:=M.ge e
  rw[List.take_of_length_le (by omega)]at o2
  generalize hN:aD.length=n at*
  refine⟨fun m sg last k h'=>0<=k/\k+m=(n:Int)/\(∃rows O,fM h' (fun q=>h.size<=q) a rows/\Sq n rows/\Small n O/\PM sg/\sg*cM n O=cM n (bV aD)/\last≠0/\sM n k.toNat last O (fun i j=>bV rows (k.toNat+i) (k.toNat+j))/\(k=(n:Int)->last=cM n O))/\Fr (fun q=>h.size<=q) h h',⟨n,Int.le_refl _,by omega,⟨aD,bV aD,o2,Q,hb,.inl rfl,by rw[Int.one_mul],by omega,?_,?_⟩,f2⟩,?_⟩
  ·have:=sM.start n (bV aD)
   simpa using this
  ·intro h0
   rw[show n=0 by omega]
   rfl
  rintro m2 sg last k h6 ⟨k0,k1,⟨rows,O,o6,Q6,S6,hsg,OT,hl,B6,FN⟩,f6⟩ iN
  have ln:=Q6.len
  refine⟨fun e2=> ?_,fun e2=> ?_⟩
  ·have hk:k<(n:Int):=by have:=M.lt e2;omega
   refine⟨fun m3 p h'=>h'=h6/\k<=p/\p+m3=(n:Int)/\∀q:Nat,k.toNat<=q->q<p.toNat->bV rows q k.toNat=0,⟨(n-k.toNat),rfl,Int.le_refl _,by omega,fun q h1 h2=>by omega⟩,?_⟩
   rintro m3 p h7 ⟨rfl,p0,p1,hz⟩ j8
   have R7:=dD.rd o6
   have none_:p=(n:Int)->K (VI 0) h7:=fun ep=>by
    have:=B6.none (by omega) hl fun i hi=>by
     (try simp only)
     rw[Nat.add_zero]
     exact hz _ (by omega) (by omega)
    rw[this,Int.mul_zero]at OT
    rw[<-OT]at HK
    exact HK h7 (vB f6)
   refine⟨fun e3=> ?_,fun e3=> ?_⟩
   ·have hp:p<(n:Int):=by have:=M.lt e3;omega
    obtain⟨sp,cp,rp⟩:=R7.get (i:=p) (by omega) (by omega)
    have lp:=Q6.row p.toNat (by omega)
    have ep:bV rows p.toNat k.toNat=(rows[p.toNat]'(by omega))[k.toNat]'(by omega):=gD (by omega) (by omega)
    refine⟨R7.bB (by omega) (by omega),sp,cp,rp.bB k0 (by omega),_,rp.get k0 (by omega),fun e4=> ?_,fun e4=>⟨fun e5=> ?_,fun e5=> ?_⟩⟩
    ·simp only[decide_eq_true_eq]at e4
     refine⟨m3-1,by omega,rfl,?_,?_,?_⟩
     ·rw[aH _ (by omega) (by omega)];omega
     ·rw[aH _ (by omega) (by omega)];omega
     ·intro q h1 h2
      rw[aH _ (by omega) (by omega)]at h2
      by_cases hq:q<p.toNat
      ·exact hz q h1 hq
      ·rw[show q=p.toNat by omega,ep];exact e4
    ·simp only[decide_eq_true_eq]at e5;omega
    ·simp only[decide_eq_false_iff_not]at e4
     refine⟨fun x h'=>PM x/\∃rows' O',fM h' (fun q=>h.size<=q) a rows'/\Sq n rows'/\Small n O'/\x*cM n O'=cM n (bV aD)/\sM n k.toNat last O' (fun i j=>bV rows' (k.toNat+i) (k.toNat+j))/\bV rows' k.toNat k.toNat≠0/\Fr (fun q=>h.size<=q) h h',⟨fun e6=> ?_,fun e6=> ?_⟩,?_⟩
     ·simp only[Bool.not_eq_true',decide_eq_false_iff_not]at e6
      obtain⟨sk,sp',w1,w2,w3,w4,w5,w6,w7,w8,w9⟩:=dD.swap o6 (i:=p) (j:=k) (by omega) (by omega) k0 (by omega) e6
      refine⟨w4,sp',w2,w3,sk,w1,w3,w5,.nil,?_⟩
      rintro h8 rfl _
      refine⟨w4,w6,.nil,?_⟩
      rintro h9 rfl _
      refine⟨?_,SJ rows p.toNat k.toNat,fun i=>O (fC k.toNat p.toNat i),w7,WU Q6 (by omega) (by omega),fun i j hi hj=>S6 _ _ (by unfold fC;split<;>(try split)<;>omega) hj,?_,?_,?_,f6.trans (dD.RA o6 w8)⟩
      ·exact hsg.neg
      ·rw[Oz O (by omega) (by omega) (by omega),<-OT]
       rw[hsg.neg_eq,Int.neg_mul_neg]
      ·have:=B6.swap (p:=p.toNat-k.toNat) (by omega)
       rw[show k.toNat+(p.toNat-k.toNat)=p.toNat by omega]at this
       rw[KC (by omega) (by omega)]
       refine cast (congrArg (sM n k.toNat last _) ?_) this
       funext i j
       (try simp only)
       congr 1
       unfold fC
       by_cases h1:i=0
       ·rw[if_pos h1,if_neg (by omega),if_pos (by omega)];omega
       ·rw[if_neg h1]
        by_cases h2:i=p.toNat-k.toNat
        ·rw[if_pos h2,if_pos (by omega)];rfl
        ·rw[if_neg h2,if_neg (by omega),if_neg (by omega)]
      ·rw[KC (by omega) (by omega)]
       (try simp only)
       rw[show fC p.toNat k.toNat k.toNat=p.toNat by unfold fC;rw[if_neg (by omega),if_pos rfl],ep]
       exact e4
     ·simp only[Bool.not_eq_false',decide_eq_true_eq]at e6
      refine⟨hsg,rows,O,o6,Q6,S6,OT,B6,?_,f6⟩
      rw[<-ep,e6]at e4
      exact e4
     ·rintro x dY ⟨hx,rows',O',mV,Q10,S10,acB,B10,hkk,f10⟩ dP
      have ln':=Q10.len
      have k1w:aL (k+1)=k+1:=aH _ (by omega) (by omega)
      rw[k1w]
      refine SM mV Q10 S10 hn hl B10 k0 hk sn (fun v h'=>∃m:Nat,m<m2/\0<=k+1/\k+1+m=(n:Int)/\(∃rows O,fM h' (fun q=>h.size<=q) a rows/\Sq n rows/\Small n O/\PM x/\x*cM n O=cM n (bV aD)/\v≠0/\sM n (k+1).toNat v O (fun i j=>bV rows ((k+1).toNat+i) ((k+1).toNat+j))/\(k+1=(n:Int)->v=cM n O))/\Fr (fun q=>h.size<=q) h h') fun ie rs lV Q11 Sz f11=> ?_
      refine⟨m2-1,by omega,by omega,by omega,⟨rs,O',lV,Q11,S10,hx,acB,hkk,?_,?_⟩,f10.trans f11⟩
      ·rw[show(k+1).toNat=k.toNat+1 by omega]
       exact OR B10 hl hkk fun i' j' h1 h2 h3 h4=>by rw[Sz i' j' h2 h4,if_pos ⟨h1,h3⟩]
      ·intro CV
       have:=B10.last (by omega)
       (try simp only at this)
       rw[Nat.add_zero]at this
       exact this
   ·have hp:p=(n:Int):=by have:=M.ge e3;omega
    exact⟨fun _=>none_ hp,fun e5=>by simp only[decide_eq_false_iff_not]at e5;omega⟩
  ·have hk:k=(n:Int):=by have:=M.ge e2;omega
   have hd:sg*last=cM n (bV aD):=by rw[FN hk];exact OT
   have D0:=um (Nat.le_trans (mG hb) (Nat.le_trans (yb hn) (show Hd 7<=50400000000 by rw[WV];exact Nat.le_refl _)))
   rw[hd,aH _ (by clear HK;omega) (by clear HK;omega)]
   exact HK h6 (vB f6)
end Go.Proofs.YtcnfcnoooecchaaGreatDoor
