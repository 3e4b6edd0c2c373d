import Derived.Test.YtcnfcnoooecchaaGreatDoorDeskLineU1
import Derived.Test.YtcnfcnoooecchaaGreatDoorM4
import Derived.Laws.BytesArg
import Derived.Lib.AtoiAll
import Derived.Lib.CountLaws
import Derived.Lib.Split
import Derived.Lib.IndexBytes
import Derived.Lib.ItoaMem
import Derived.WideMake
import Derived.MapKept
import Derived.Laws.IdiomCopy
import Derived.Deep.Draws
import Derived.Lib.AtoiTie
import Derived.Lib.ItoaLen
import Derived.Test.YtcnfcnoooecchaaGreatDoorDeskLineH
set_option linter.unusedVariables false
set_option linter.unusedSimpArgs false
namespace Go.Proofs.YtcnfcnoooecchaaGreatDoor
open Go Go.Mx
@[reducible] def tI:TypeId:=3
@[reducible] def sv:TypeId:=27
@[reducible] def nZ:TypeId:=24
theorem fL:ni Tryz.prog sv=some (tI,1,8,[VI 0]):=by kernel_rfl
theorem qg:ni Tryz.prog nZ=some (sv,1,24,[aC.v]):=by kernel_rfl
@[reducible] def bK(h:Heap)(F:Nat->Prop)(s:Sl)(xs:List Int):Prop:=Ow h F tI 1 s (xs.map VI)
@[reducible] def fM(h:Heap)(F:Nat->Prop)(s:Sl)(aD:List (List Int)):Prop:=dD h F sv tI s aD
theorem ff(xs:List Int):(xs.map VI).all fu=true:=by simp[List.all_eq_true,fu]
theorem eO(n lo hi:Int)(h:Heap)(K:Value->Heap->Prop)(H:K (VB (decide (lo<=n)&&decide (n<=hi))) h):aE Tryz.prog 52 #[VI n,VI lo,VI hi] h K:=by
 refine v52 n lo hi h K ⟨fun e=> ?_,fun e=> ?_⟩
 ·rw[e,Bool.true_and]at H;exact H
 ·rw[e,Bool.false_and]at H;exact H
theorem cX(n lo hi:Int)(h:Heap)(K:Value->Heap->Prop)(H:K (VB (decide (lo<=n)&&decide (n<=hi))) h):aE Tryz.prog 119 #[VI n,VI lo,VI hi] h K:=by
 refine afA n lo hi h K ⟨fun e=> ?_,fun e=> ?_⟩
 ·rw[e,Bool.true_and]at H;exact H
 ·rw[e,Bool.false_and]at H;exact H
def iD(lo hi x:Int):Bool:=decide (lo<=x)&&decide (x<=hi)
def aM(g:List (List Int)):Bool:=iD 1 8 g.length&&g.all fun l=> !decide (5<(l.length:Int))&&l.all (iD 0 ((g.length:Int)-1))
theorem aY{b:Bool}(h:(!b)=true):b=false:=by simpa using h
theorem aV{b:Bool}(h:(!b)=false):b=true:=by simpa using h
theorem Ct{S:Nat->Prop}{h:Heap}{l:Sl}{xs:List Int}(H:aP S h l xs)(lo HU:Int)(K:Value->Heap->Prop)(HK:K (VB (xs.all (iD lo HU))) h):aE Tryz.prog 120 #[l.v,VI lo,VI HU] h K:=by
 refine afC l lo HU h K ?_
 refine⟨fun n i h'=>h'=h/\0<=i/\i+n=(xs.length:Int)/\xs.all (iD lo HU)=(xs.drop i.toNat).all (iD lo HU),⟨xs.length,rfl,by omega,by omega,by simp⟩,?_⟩
 rintro n i _ ⟨rfl,h0,h1,h2⟩ hL
 refine⟨fun e=> ?_,fun e=> ?_⟩
 ·have hi:=H.lt e
  refine⟨H.bB h0 hi,_,H.get h0 hi,?_⟩
  rw[drop_cons xs h0 hi,List.all_cons]at h2
  refine cX _ _ _ _ _ ⟨_,rfl,hL,fun e2=> ?_,fun e2=> ?_⟩
  ·have e3:iD lo HU (xs[i.toNat]'(by omega))=false:=aY e2
   rw[h2,e3]at HK
   exact HK
  ·have e3:iD lo HU (xs[i.toNat]'(by omega))=true:=aV e2
   rw[e3,Bool.true_and]at h2
   rw[H.succ h0 hi]
   exact⟨n-1,by omega,rfl,by omega,by omega,h2⟩
 ·have hi:=H.ge e
  rw[List.drop_of_length_le (by omega)]at h2
  rw[h2]at HK
  exact HK
theorem jD{S:Nat->Prop}{h:Heap}{g:Sl}{aD:List (List Int)}(H:bF S h g aD):pO Tryz.prog 82 #[.agg #[g.v]] h (VB (aM aD)):=by
 intro K HK
 refine v82 g h K ?_
 intro b1 h1 dM hf1 bG
 have f1:=hf1.aF
 have hlen:=H.len
 refine cX _ _ _ _ _ ⟨_,rfl,bG,fun e=> ?_,fun e=> ?_⟩
 ·have e3:iD 1 8 aD.length=false:=by have:=aY e;rw[hlen]at this;exact this
  have:aM aD=false:=by unfold aM;rw[e3];rfl
  rw[<-this];exact HK _ f1
 ·have e3:iD 1 8 aD.length=true:=by have:=aV e;rw[hlen]at this;exact this
  have hw:aL ((g.n:Int)-1)=(aD.length:Int)-1:=by rw[hlen];exact aH _ (by omega) (by have:=kz H.GY;omega)
  have hg:aM aD=aD.all fun l=> !decide (5<(l.length:Int))&&l.all (iD 0 ((aD.length:Int)-1)):=by unfold aM;rw[e3];rfl
  rw[hw]
  refine⟨fun n i h'=>Fr No h1 h'/\0<=i/\i+n=(aD.length:Int)/\aM aD=(aD.drop i.toNat).all (fun l=> !decide (5<(l.length:Int))&&l.all (iD 0 ((aD.length:Int)-1))),⟨aD.length,Fr.refl _ _,by omega,by omega,by simp[hg]⟩,?_⟩
  rintro n i h3 ⟨f3,h0,h2,h4⟩ hL
  have H3:=(H.no f1).no f3
  refine⟨fun e=> ?_,fun e=> ?_⟩
  ·have hi:=H.lt e
   obtain⟨si,hc,Hi⟩:=H3.get h0 hi
   refine⟨H3.bB h0 hi,si,hc,fun e5=> ?_,fun e5=> ?_⟩
   ·rw[drop_cons aD h0 hi,List.all_cons]at h4
    rw[Hi.len]at e5
    rw[e5]at h4
    have h5:aM aD=false:=by rw[h4];rfl
    rw[<-h5];exact HK _ (f1.trans f3)
   ·rw[drop_cons aD h0 hi,List.all_cons]at h4
    rw[Hi.len]at e5
    rw[e5]at h4
    refine Ct Hi _ _ _ ⟨_,rfl,hL,fun e6=> ?_,fun e6=> ?_⟩
    ·rw[aY e6]at h4
     have h5:aM aD=false:=by rw[h4];rfl
     rw[<-h5];exact HK _ (f1.trans f3)
    ·rw[aV e6]at h4
     rw[H.succ h0 hi]
     exact⟨n-1,by omega,f3,by omega,by omega,by rw[h4];rfl⟩
  ·have hi:=H.ge e
   rw[List.drop_of_length_le (by omega)]at h4
   have h5:aM aD=true:=by rw[h4];rfl
   rw[<-h5];exact HK _ (f1.trans f3)
theorem E3{S:Nat->Prop}{h:Heap}{s:Sl}{xs:List Int}(H:aP S h s xs)(f:Value)(p:Int->Bool)(hf:∀(x:Int)(K:Value->Heap->Prop),K (VB (p x)) h->fD Tryz.prog f [VI x] h K)(K:Value->Heap->Prop)(HK:∀r:Int,decide (0<=r)=xs.any p->K (VI r) h):aE Tryz.prog 91 #[s.v,f] h K:=by
 refine v91 s f h K ⟨fun n i h'=>h'=h/\0<=i/\i+n=(xs.length:Int)/\xs.any p=(xs.drop i.toNat).any p,⟨xs.length,rfl,by omega,by omega,by simp⟩,?_⟩
 rintro n i _ ⟨rfl,i0,i1,i2⟩ hL
 refine⟨fun e=> ?_,fun e=> ?_⟩
 ·have hi:=H.lt e
  rw[drop_cons xs i0 hi,List.any_cons]at i2
  refine⟨H.bB i0 hi,_,H.get i0 hi,hf _ _ ⟨_,rfl,.nil,fun e=> ?_,fun e=> ?_⟩⟩
  ·rw[e,Bool.true_or]at i2
   exact HK _ (by rw[i2];simpa using i0)
  ·rw[e,Bool.false_or]at i2
   rw[H.succ i0 hi]
   exact⟨n-1,by omega,rfl,by omega,by omega,i2⟩
 ·have hi:=H.ge e
  rw[List.drop_of_length_le (by omega)]at i2
  exact HK _ (by rw[i2];rfl)
theorem oR{S:Nat->Prop}{h:Heap}{s:Sl}{xs:List Int}(H:aP S h s xs)(f:Value)(p:Int->Bool)(hf:∀(x:Int)(K:Value->Heap->Prop),K (VB (p x)) h->fD Tryz.prog f [VI x] h K)(K:Value->Heap->Prop)(HK:K (VB (xs.any p)) h):aE Tryz.prog 53 #[s.v,f] h K:=by
 refine v53 s f h K (E3 H f p hf _ fun r hr=>⟨r,rfl,.nil,?_⟩)
 rw[hr];exact HK
theorem HV{h:Heap}{b:Nat}{n:Int}(x:Int){L:List (Nat×List Value)}(hL:Vars h ((b,[VI n])::L))(K:Value->Heap->Prop)(HK:K (VB (! iD 0 (aL (n-1)) x)) h):fD Tryz.prog (.func (.func 88) #[] #[VP b 0]) [VI x] h K:=by
 refine v88 x b n h K (.cons hL.head (by simp) .nil) ?_
 refine eO _ _ _ _ _ ⟨_,rfl,.cons hL.head (by simp) .nil,?_⟩
 exact HK
theorem Wf{h:Heap}{b:Nat}{g:Sl}(x:Int){L:List (Nat×List Value)}(hL:Vars h ((b,[g.v])::L))(K:Value->Heap->Prop)(HK:K (VB (! iD 0 (aL (g.n-1)) x)) h):fD Tryz.prog (.func (.func 147) #[] #[VP b 0]) [VI x] h K:=by
 refine age x b g h K (.cons hL.head (by simp) .nil) ?_
 refine eO _ _ _ _ _ ⟨_,rfl,.cons hL.head (by simp) .nil,?_⟩
 exact HK
theorem A9{aD:List (List Int)}(e3:iD 1 8 aD.length=true):aM aD=aD.all fun l=> !decide (5<(l.length:Int))&&l.all (iD 0 ((aD.length:Int)-1)):=by unfold aM;rw[e3];rfl
theorem Lu{aD:List (List Int)}(e3:iD 1 8 aD.length=false):aM aD=false:=by unfold aM;rw[e3];rfl
theorem Cu{xs:List Int}{p:Int->Bool}:xs.any (fun x=> !p x)= !xs.all p:=by
 induction xs with
 |nil=>rfl
 |cons x xs ih=>simp only[List.any_cons,List.all_cons,ih,Bool.not_and]
theorem wv{S:Nat->Prop}{h:Heap}{g:Sl}{aD:List (List Int)}(H:bF S h g aD):aL ((g.n:Int)-1)=(aD.length:Int)-1:=by
 rw[H.len]
 have h1:=kz H.GY
 have h2:=H.len
 exact aH _ (by omega) (by omega)
theorem Ba{S:Nat->Prop}{h:Heap}{g:Sl}{aD:List (List Int)}(H:bF S h g aD):pO Tryz.prog 50 #[.agg #[g.v]] h (VB (aM aD)):=by
 intro K HK
 refine v50 g h K fun b1 b2 h1 dM dE hf1 bG=> ?_
 have f1:=hf1.aF
 have hlen:=H.len
 refine eO _ _ _ _ _ ⟨_,rfl,bG,fun e=> ?_,fun e=> ?_⟩
 ·have e3:iD 1 8 aD.length=false:=by have:=aY e;rw[hlen]at this;exact this
  rw[<-Lu e3];exact HK _ f1
 ·have e3:iD 1 8 aD.length=true:=by have:=aV e;rw[hlen]at this;exact this
  have hg:=A9 e3
  refine⟨fun n i x h'=>h'=h1/\x=(g.n:Int)/\0<=i/\i+n=(aD.length:Int)/\aM aD=(aD.drop i.toNat).all (fun l=> !decide (5<(l.length:Int))&&l.all (iD 0 ((aD.length:Int)-1))),⟨aD.length,rfl,rfl,by omega,by omega,by simp[hg]⟩,?_⟩
  rintro n i x _ ⟨rfl,rfl,h0,h2,h4⟩ hL
  have H3:=H.no f1
  refine⟨fun e=> ?_,fun e=> ?_⟩
  ·have hi:=H.lt e
   obtain⟨si,hc,Hi⟩:=H3.get h0 hi
   rw[drop_cons aD h0 hi,List.all_cons]at h4
   refine⟨H3.bB h0 hi,si,hc,fun e5=> ?_,fun e5=> ?_⟩
   ·rw[Hi.len]at e5
    rw[e5]at h4
    have h5:aM aD=false:=by rw[h4];rfl
    rw[<-h5];exact HK _ f1
   ·rw[Hi.len]at e5
    rw[e5]at h4
    refine oR Hi _ _ (fun x K HK=>HV x hL K HK) _ ?_
    refine⟨_,_,rfl,hL,fun e6=> ?_,fun e6=> ?_⟩
    ·rw[Cu,wv H]at e6
     rw[aY e6]at h4
     have h5:aM aD=false:=by rw[h4];rfl
     rw[<-h5];exact HK _ f1
    ·rw[Cu,wv H]at e6
     rw[aV e6]at h4
     rw[H.succ h0 hi]
     exact⟨n-1,by omega,rfl,rfl,by omega,by omega,by rw[h4];rfl⟩
  ·have hi:=H.ge e
   rw[List.drop_of_length_le (by omega)]at h4
   have h5:aM aD=true:=by rw[h4];rfl
   rw[<-h5];exact HK _ f1
theorem sx{S S':Nat->Prop}{h:Heap}{g s:Sl}{aD:List (List Int)}{ps:List Int}(H:bF S h g aD)(Hp:aP S' h s ps):pO Tryz.prog 107 #[.agg #[g.v],s.v] h (VB (aM aD&&ps.all (iD 0 ((aD.length:Int)-1)))):=by
 intro K HK
 refine v107 g s h K fun b1 h1 dM f1 bG=> ?_
 have f1:=f1.aF
 refine Ba (H.no f1) _ fun h2 f2=>⟨_,rfl,bG.aB f2,fun e=> ?_,fun e=> ?_⟩
 ·rw[e,Bool.true_and]at HK
  have bP:=bG.aB f2
  refine oR ((Hp.no f1).no f2) _ _ (fun x K HK=>Wf x bP K HK) _ ?_
  refine⟨_,_,rfl,bP,?_⟩
  rw[Cu,wv H,Bool.not_not]
  exact HK _ (f1.trans f2)
 ·rw[e,Bool.false_and]at HK
  exact HK _ (f1.trans f2)
theorem cR{S:Nat->Prop}{h:Heap}{g:Sl}{aD:List (List Int)}(H:bF S h g aD)(p:Int):pO Tryz.prog 121 #[.agg #[g.v],VI p] h (VB (aM aD&&iD 0 ((aD.length:Int)-1) p)):=by
 intro K HK
 refine afE g p h K fun b1 h1 dM f1 bG=> ?_
 have f1:=f1.aF
 refine jD (H.no f1) _ fun h2 f2=>⟨_,rfl,bG.aB f2,fun e=> ?_,fun e=> ?_⟩
 ·rw[e,Bool.true_and]at HK
  refine cX _ _ _ _ _ ⟨_,rfl,bG.aB f2,?_⟩
  rw[wv H]
  exact HK _ (f1.trans f2)
 ·rw[e,Bool.false_and]at HK
  exact HK _ (f1.trans f2)
theorem Aa(a b:Int)(h:Heap)(K:Value->Heap->Prop)(HK:K (VI (max a b)) h):aE Tryz.prog 122 #[VI a,VI b] h K:=by
 refine ab0 a b h K ⟨fun e=> ?_,fun e=> ?_⟩
 ·simp only[decide_eq_true_eq]at e
  rw[Int.max_eq_left (by omega)]at HK
  exact HK
 ·simp only[decide_eq_false_iff_not]at e
  rw[Int.max_eq_right (by omega)]at HK
  exact HK
def Ab(l:List Int)(r:Int):Bool:=iD 0 (max ((l.length:Int)-1) 0) r
def eC(g:List (List Int))(rs:List Int)(p:Int):Bool:=aM g&&iD 0 ((g.length:Int)-1) p&&decide (rs.length=g.length)&&(g.zip rs).all fun q=>Ab q.1 q.2
theorem tW{g:List (List Int)}{rs:List Int}{p:Int}(e:(aM g&&iD 0 ((g.length:Int)-1) p)=false):eC g rs p=false:=by unfold eC;rw[e];rfl
theorem Bb{g:List (List Int)}{rs:List Int}{p:Int}(e:¬rs.length=g.length):eC g rs p=false:=by unfold eC;rw[decide_eq_false e];simp
theorem E4{g:List (List Int)}{rs:List Int}{p:Int}(e:(aM g&&iD 0 ((g.length:Int)-1) p)=true)(e2:rs.length=g.length):eC g rs p=(g.zip rs).all fun q=>Ab q.1 q.2:=by unfold eC;rw[e,decide_eq_true e2];rfl
theorem E5(g:List (List Int))(rs:List Int){i:Int}(h0:0<=i)(h1:i<(g.length:Int))(h2:i<(rs.length:Int)):(g.zip rs).drop i.toNat=(g[i.toNat]'(by omega),rs[i.toNat]'(by omega))::(g.zip rs).drop (i+1).toNat:=by
 have:=drop_cons (g.zip rs) h0 (by simp;omega)
 simpa using this
theorem E6{S:Nat->Prop}{h:Heap}{g:Sl}{xs:List Int}(H:aP S h g xs):aL ((g.n:Int)-1)=(xs.length:Int)-1:=by
 rw[H.len]
 have h1:=kz (cY.GY H)
 have h2:=H.len
 exact aH _ (by omega) (by omega)
theorem oS{S S':Nat->Prop}{h:Heap}{g s:Sl}{aD:List (List Int)}{rs:List Int}(G:bF S h g aD)(H:aP S' h s rs)(p:Int):pO Tryz.prog 77 #[.agg #[g.v],.agg #[s.v,VI p]] h (VB (eC aD rs p)):=by
 intro K HK
 refine v77 g s p h K fun b1 b2 h1 dM dE f1 bG=> ?_
 have f1:=f1.aF
 refine aS fL (fun k=>h1.size<=k) (fun _ h=>h) 1 (by omega) [VI p] rfl rfl fun t h2 n2 c2 o2 f2 l2 _=>⟨t,rfl,bG.aB f2,?_⟩
 have o2:aP (fun k=>h1.size<=k) h2 t [p]:=o2.fa
 refine sx ((G.no f1).no f2) o2 _ fun h3 f3=>⟨_,rfl,(bG.aB f2).aB f3,fun e=> ?_,fun e=> ?_⟩
 all_goals simp only[List.all_cons,List.all_nil,Bool.and_true]at e
 ·rw[<-tW (rs:=rs) (aY e)];exact HK _ ((f1.aA f2).aA f3)
 ·have f13:=(f1.aA f2).aA f3
  rw[G.len,H.len]
  refine⟨fun e2=> ?_,fun e2=> ?_⟩
  ·have e3:=aY e2
   simp only[decide_eq_false_iff_not]at e3
   rw[<-Bb (g:=aD) (rs:=rs) (p:=p) (by omega)];exact HK _ f13
  ·have e3:=aV e2
   simp only[decide_eq_true_eq]at e3
   have e4:=E4 (aV e) (rs:=rs) (by omega)
   have G3:=G.no f13
   have H3:=H.no f13
   refine⟨fun n i h'=>h'=h3/\0<=i/\i+n=(aD.length:Int)/\eC aD rs p=((aD.zip rs).drop i.toNat).all fun q=>Ab q.1 q.2,⟨aD.length,rfl,by omega,by omega,by simpa using e4⟩,?_⟩
   rintro n i _ ⟨rfl,i0,i1,i2⟩ hL
   refine⟨fun e5=> ?_,fun e5=> ?_⟩
   ·have hi:i<(rs.length:Int):=by simpa using e5
    have gH:i<(aD.length:Int):=by omega
    obtain⟨si,c1,c2⟩:=G3.get i0 gH
    rw[E5 aD rs i0 gH hi,List.all_cons]at i2
    refine⟨H3.bB i0 hi,_,H3.get i0 hi,G3.bB i0 gH,si,c1,?_⟩
    rw[E6 c2]
    refine B9 _ _ _ _ ⟨_,rfl,eO _ _ _ _ _ ⟨_,rfl,hL,fun e6=> ?_,fun e6=> ?_⟩⟩
    ·have e7:Ab (aD[i.toNat]'(by omega)) (rs[i.toNat]'(by omega))=false:=aY e6
     simp only at i2
     rw[e7]at i2
     have e8:eC aD rs p=false:=by rw[i2];rfl
     rw[<-e8];exact HK _ f13
    ·have e7:Ab (aD[i.toNat]'(by omega)) (rs[i.toNat]'(by omega))=true:=aV e6
     simp only at i2
     rw[e7,Bool.true_and]at i2
     rw[H.succ i0 hi]
     exact⟨n-1,by omega,rfl,by omega,by omega,i2⟩
   ·have hi:¬i<(rs.length:Int):=by simpa using e5
    rw[List.drop_of_length_le (by simp;omega)]at i2
    have e8:eC aD rs p=true:=by rw[i2];rfl
    rw[<-e8];exact HK _ f13
theorem eK{S S':Nat->Prop}{h:Heap}{g s:Sl}{aD:List (List Int)}{rs:List Int}(G:bF S h g aD)(H:aP S' h s rs)(p:Int):pO Tryz.prog 83 #[.agg #[g.v],.agg #[s.v,VI p]] h (VB (eC aD rs p)):=by
 intro K HK
 refine v83 g s p h K fun b1 b2 h1 dM dE f1 bG=> ?_
 have f1:=f1.aF
 refine cR (G.no f1) p _ fun h3 f3=>⟨_,rfl,bG.aB f3,fun e=> ?_,fun e=> ?_⟩
 ·rw[<-tW (rs:=rs) (aY e)];exact HK _ (f1.aA f3)
 ·have f13:=f1.aA f3
  rw[G.len,H.len]
  refine⟨fun e2=> ?_,fun e2=> ?_⟩
  ·have e3:=aY e2
   simp only[decide_eq_false_iff_not]at e3
   rw[<-Bb (g:=aD) (rs:=rs) (p:=p) (by omega)];exact HK _ f13
  ·have e3:=aV e2
   simp only[decide_eq_true_eq]at e3
   have e4:=E4 (aV e) (rs:=rs) (by omega)
   have G3:=G.no f13
   have H3:=H.no f13
   refine⟨fun n i h'=>h'=h3/\0<=i/\i+n=(aD.length:Int)/\eC aD rs p=((aD.zip rs).drop i.toNat).all fun q=>Ab q.1 q.2,⟨aD.length,rfl,by omega,by omega,by simpa using e4⟩,?_⟩
   rintro n i _ ⟨rfl,i0,i1,i2⟩ hL
   refine⟨fun e5=> ?_,fun e5=> ?_⟩
   ·have gH:i<(aD.length:Int):=by simpa using e5
    have hi:i<(rs.length:Int):=by omega
    obtain⟨si,c1,c2⟩:=G3.get i0 gH
    rw[E5 aD rs i0 gH hi,List.all_cons]at i2
    refine⟨G3.bB i0 gH,si,c1,H3.bB i0 hi,_,H3.get i0 hi,?_⟩
    rw[E6 c2]
    refine Aa _ _ _ _ ⟨_,rfl,hL,H3.get i0 hi,?_⟩
    rw[Int.max_comm]
    refine cX _ _ _ _ _ ⟨_,rfl,hL,fun e6=> ?_,fun e6=> ?_⟩
    ·have e7:Ab (aD[i.toNat]'(by omega)) (rs[i.toNat]'(by omega))=false:=aY e6
     simp only at i2
     rw[e7]at i2
     have e8:eC aD rs p=false:=by rw[i2];rfl
     rw[<-e8];exact HK _ f13
    ·have e7:Ab (aD[i.toNat]'(by omega)) (rs[i.toNat]'(by omega))=true:=aV e6
     simp only at i2
     rw[e7,Bool.true_and]at i2
     rw[G.succ i0 gH]
     exact⟨n-1,by omega,rfl,by omega,by omega,i2⟩
   ·have hi:¬i<(aD.length:Int):=by simpa using e5
    rw[List.drop_of_length_le (by simp;omega)]at i2
    have e8:eC aD rs p=true:=by rw[i2];rfl
    rw[<-e8];exact HK _ f13
theorem NV{S S':Nat->Prop}{h:Heap}{g s:Sl}{aD:List (List Int)}{rs:List Int}(G:bF S h g aD)(H:aP S' h s rs)(p:Int):pO Tryz.prog 42 #[.agg #[g.v,s.v,VI p]] h (VB (eC aD rs p)):=by
 intro K HK
 refine v42 g s p h K fun b1 h1 dM f1 bG=> ?_
 have f1:=f1.aF
 exact oS (G.no f1) (H.no f1) p _ fun h2 f2=>⟨_,rfl,bG.aB f2,HK _ (f1.aA f2)⟩
theorem Ac{S S':Nat->Prop}{h:Heap}{g s:Sl}{aD:List (List Int)}{rs:List Int}(G:bF S h g aD)(H:aP S' h s rs)(p:Int):pO Tryz.prog 45 #[.agg #[g.v,s.v,VI p]] h (VB (eC aD rs p)):=by
 intro K HK
 refine v45 g s p h K fun b1 h1 dM f1 bG=> ?_
 have f1:=f1.aF
 refine jD (G.no f1) _ fun h2 f2=>⟨_,rfl,bG.aB f2,fun e=> ?_,fun e=> ?_⟩
 ·exact eK ((G.no f1).no f2) ((H.no f1).no f2) p _ fun h3 f3=>⟨_,rfl,(bG.aB f2).aB f3,HK _ ((f1.aA f2).aA f3)⟩
 ·rw[<-tW (g:=aD) (rs:=rs) (p:=p) (by rw[e];rfl)]
  exact HK _ (f1.aA f2)
theorem E7{S S':Nat->Prop}{h:Heap}{a b:Sl}{xs ys:List Int}(H:aP S h a xs)(H':aP S' h b ys)(K:Value->Heap->Prop)(HK:K (VB (decide (xs=ys))) h):aE Tryz.prog 35 #[a.v,b.v] h K:=by
 refine v35 a b h K ⟨fun e=> ?_,fun e=> ?_⟩
 ·have e1:=aY e
  rw[H.len,H'.len]at e1
  have:¬xs=ys:=fun e2=>by subst e2;simp at e1
  rw[decide_eq_false this]at HK
  exact HK
 ·have e1:=aV e
  rw[H.len,H'.len]at e1
  have hl:xs.length=ys.length:=by simp at e1;omega
  refine⟨fun n i h'=>h'=h/\0<=i/\i+n=(xs.length:Int)/\decide (xs=ys)=decide (xs.drop i.toNat=ys.drop i.toNat),⟨xs.length,rfl,by omega,by omega,by simp⟩,?_⟩
  rintro n i _ ⟨rfl,h0,h1,h2⟩ hL
  refine⟨fun e=> ?_,fun e=> ?_⟩
  ·have hi:=H.lt e
   have gH:i<(ys.length:Int):=by omega
   refine⟨H.bB h0 hi,_,H.get h0 hi,H'.bB h0 gH,_,H'.get h0 gH,fun e=> ?_,fun e=> ?_⟩
   ·rw[drop_cons xs h0 hi,drop_cons ys h0 gH]at h2
    have e3:=aY e
    simp only[decide_eq_false_iff_not]at e3
    rw[h2,decide_eq_false (fun e4=>e3 (List.cons.inj e4).1)]at HK
    exact HK
   ·rw[drop_cons xs h0 hi,drop_cons ys h0 gH]at h2
    have e3:=aV e
    simp only[decide_eq_true_eq]at e3
    rw[H.succ h0 hi]
    refine⟨n-1,by omega,rfl,by omega,by omega,h2.trans ?_⟩
    rw[e3]
    simp
  ·have hi:=H.ge e
   rw[List.drop_of_length_le (by omega),List.drop_of_length_le (by omega)]at h2
   rw[h2]at HK
   exact HK
theorem Lv{S S':Nat->Prop}{h:Heap}{a b:Sl}{xs ys:List (List Int)}(H:bF S h a xs)(H':bF S' h b ys)(K:Value->Heap->Prop)(HK:K (VB (decide (xs=ys))) h):aE Tryz.prog 97 #[a.v,b.v] h K:=by
 refine v97 a b h K ⟨fun e=> ?_,fun e=> ?_⟩
 ·have e1:=aY e
  rw[H.len,H'.len]at e1
  have:¬xs=ys:=fun e2=>by subst e2;simp at e1
  rw[decide_eq_false this]at HK
  exact HK
 ·have e1:=aV e
  rw[H.len,H'.len]at e1
  have hl:xs.length=ys.length:=by simp at e1;omega
  refine⟨fun n i h'=>h'=h/\0<=i/\i+n=(xs.length:Int)/\decide (xs=ys)=decide (xs.drop i.toNat=ys.drop i.toNat),⟨xs.length,rfl,by omega,by omega,by simp⟩,?_⟩
  rintro n i _ ⟨rfl,h0,h1,h2⟩ hL
  refine⟨fun e=> ?_,fun e=> ?_⟩
  ·have hi:=H.lt e
   have gH:i<(ys.length:Int):=by omega
   obtain⟨x,cx,rx⟩:=H.get h0 hi
   obtain⟨y,cy,ry⟩:=H'.get h0 gH
   refine⟨H.bB h0 hi,x,cx,H'.bB h0 gH,y,cy,E7 rx ry _ ⟨_,rfl,hL,fun e=> ?_,fun e=> ?_⟩⟩
   ·rw[drop_cons xs h0 hi,drop_cons ys h0 gH]at h2
    have e3:=aY e
    simp only[decide_eq_false_iff_not]at e3
    rw[h2,decide_eq_false (fun e4=>e3 (List.cons.inj e4).1)]at HK
    exact HK
   ·rw[drop_cons xs h0 hi,drop_cons ys h0 gH]at h2
    have e3:=aV e
    simp only[decide_eq_true_eq]at e3
    rw[H.succ h0 hi]
    refine⟨n-1,by omega,rfl,by omega,by omega,h2.trans ?_⟩
    rw[e3]
    simp
  ·have hi:=H.ge e
   rw[List.drop_of_length_le (by omega),List.drop_of_length_le (by omega)]at h2
   rw[h2]at HK
   exact HK
theorem Lw{S S':Nat->Prop}{h:Heap}{a b:Sl}{xs ys:List (List Int)}(H:bF S h a xs)(H':bF S' h b ys):pO Tryz.prog 60 #[.agg #[a.v],.agg #[b.v]] h (VB (decide (xs=ys))):=by
 intro K HK
 refine v60 a b h K fun b1 b2 h1 dM dE f1 bG=> ?_
 refine Lv (H.no f1.aF) (H'.no f1.aF) _ ⟨_,rfl,bG,fun e=> ?_,fun e=> ?_⟩
 ·rw[<-aY e];exact HK _ f1.aF
 ·rw[<-aV e];exact HK _ f1.aF
theorem NW{S S':Nat->Prop}{h:Heap}{a b:Sl}{xs ys:List Int}(H:aP S h a xs)(H':aP S' h b ys)(p q:Int):pO Tryz.prog 61 #[.agg #[a.v,VI p],.agg #[b.v,VI q]] h (VB (decide (xs=ys/\p=q))):=by
 intro K HK
 refine v61 a p b q h K fun b1 b2 h1 dM dE f1 bG=> ?_
 refine E7 (H.no f1.aF) (H'.no f1.aF) _ ⟨_,rfl,bG,fun e=> ?_,fun e=> ?_⟩
 ·have e3:=aY e
  simp only[decide_eq_false_iff_not]at e3
  rw[decide_eq_false fun e4=>e3 e4.1]at HK
  exact HK _ f1.aF
 ·have e3:=aV e
  simp only[decide_eq_true_eq]at e3
  refine⟨fun e=> ?_,fun e=> ?_⟩
  ·have e5:=aY e
   simp only[decide_eq_false_iff_not]at e5
   rw[decide_eq_false fun e4=>e5 e4.2]at HK
   exact HK _ f1.aF
  ·have e5:=aV e
   simp only[decide_eq_true_eq]at e5
   rw[decide_eq_true ⟨e3,e5⟩]at HK
   exact HK _ f1.aF
theorem sA{S S' T T':Nat->Prop}{h:Heap}{a b c d:Sl}{aD yss:List (List Int)}{xs ys:List Int}(G:bF S h a aD)(G':bF S' h b yss)(H:aP T h c xs)(H':aP T' h d ys)(p q:Int):pO Tryz.prog 21 #[.agg #[a.v,c.v,VI p],.agg #[b.v,d.v,VI q]] h (VB (decide (aD=yss/\xs=ys/\p=q))):=by
 intro K HK
 refine v21 a c p b d q h K fun b1 b2 h1 dM dE f1 bG=> ?_
 have f1:=f1.aF
 refine Lw (G.no f1) (G'.no f1) _ fun h2 f2=>⟨_,rfl,bG.aB f2,fun e=> ?_,fun e=> ?_⟩
 ·have e3:=aY e
  simp only[decide_eq_false_iff_not]at e3
  rw[decide_eq_false fun e4=>e3 e4.1]at HK
  exact HK _ (f1.trans f2)
 ·have e3:=aV e
  simp only[decide_eq_true_eq]at e3
  have f12:=f1.aA f2
  refine NW (H.no f12) (H'.no f12) p q _ fun h3 f3=>⟨_,rfl,(bG.aB f2).aB f3,fun e=> ?_,fun e=> ?_⟩
  ·have e5:=aY e
   simp only[decide_eq_false_iff_not]at e5
   rw[decide_eq_false fun e4=>e5 e4.2]at HK
   exact HK _ (f12.trans f3)
  ·have e5:=aV e
   simp only[decide_eq_true_eq]at e5
   rw[decide_eq_true ⟨e3,e5⟩]at HK
   exact HK _ (f12.trans f3)
def oc(k:Int):List Int->List Int
 |[]=>[]
 |_::xs=>k::oc (k+1) xs
theorem gB:∀(k:Int)(xs:List Int),(oc k xs).length=xs.length
 |_,[]=>rfl
 |k,_::xs=>by simp[oc,gB (k+1) xs]
theorem xJ:∀(xs:List Int)(k:Int)(i:Nat)(h:i<(oc k xs).length),(oc k xs)[i]=k+i
 |[],k,i,h=>by simp[oc]at h
 |x::xs,k,0,h=>by simp[oc]
 |x::xs,k,i+1,h=>by
  simp only[oc,List.getElem_cons_succ]
  rw[xJ xs (k+1) i]
  omega
def dO(aD:List (List Int)):Nat:=(aD.map List.length).sum
def ny(k:Int):List (List Int)->List (List Int)
 |[]=>[]
 |xs::aD=>oc k xs::ny (k+xs.length) aD
theorem fG:∀(k:Int)(aD:List (List Int)),(ny k aD).length=aD.length
 |_,[]=>rfl
 |k,xs::aD=>by simp[ny,fG (k+xs.length) aD]
theorem xK:∀(aD:List (List Int))(k:Int)(i:Nat)(h:i<(ny k aD).length)(h':i<aD.length),(ny k aD)[i]=oc (k+dO (aD.take i)) aD[i]
 |[],k,i,h,_=>by simp[ny]at h
 |x::xs,k,0,h,_=>by simp[ny,dO]
 |x::xs,k,i+1,h,h'=>by
  simp only[ny,List.getElem_cons_succ]
  rw[xK xs _ i (by simpa[ny]using h) (by simpa using h')]
  congr 1
  simp[dO]
  omega
theorem gJ:∀(aD:List (List Int))(i:Nat),dO (aD.take i)<=dO aD
 |[],i=>by simp[dO]
 |x::xs,0=>by simp[dO]
 |x::xs,i+1=>by
  have:=gJ xs i
  simp only[dO,List.take_succ_cons,List.map_cons,List.sum_cons]at*
  omega
theorem pT(aD:List (List Int))(i:Nat)(h:i<aD.length):dO (aD.take (i+1))=dO (aD.take i)+aD[i].length:=by
 rw[List.take_succ_eq_append_getElem h]
 simp only[dO,List.map_append,List.sum_append,List.map_cons,List.map_nil,List.sum_cons,List.sum_nil]
 omega
theorem xL{F:Nat->Prop}{h:Heap}{s:Sl}{xs:List Int}(H:bK h F s xs)(k:Int)(h0:0<=k)(hk:k<=1000000000000000)(hn:xs.length<=1000000000000)(K:Value->Heap->Prop)(HK:∀h',bK h' F s (oc k xs)->Fr s.own h h'->K (VI (k+xs.length)) h'):aE Tryz.prog 36 #[s.v,VI k] h K:=by
 have hl:s.n=xs.length:=by have:=H.len;simp at this;omega
 refine v36 s k h K ⟨fun n k' i h'=>0<=i/\i+n=(xs.length:Int)/\k'=k+i/\bK h' F s ((oc k xs).take i.toNat++xs.drop i.toNat)/\Fr s.own h h',⟨xs.length,by omega,by omega,by omega,by simpa using H,Fr.refl _ _⟩,?_⟩
 rintro n k' i h' ⟨i0,i1,rfl,H',f⟩ hL
 refine⟨fun e=> ?_,fun e=> ?_⟩
 ·have hi:i<(s.n:Int):=by simpa using e
  have ws:aL (i+1)=i+1:=aH _ (by omega) (by omega)
  have wk:aL (k+i+1)=k+i+1:=aH _ (by omega) (by omega)
  obtain⟨w1,w2,w3⟩:=H'.eH i0 hi (VI (k+i))
  refine⟨H'.bB i0 hi,w1,.nil,fun h2 e2 _=> ?_⟩
  rw[ws,wk]
  refine⟨n-1,by omega,by omega,by omega,by omega,?_,?_⟩
  ·subst e2
   have e3:VI (k+i)=VI ((oc k xs)[i.toNat]'(by rw[gB];omega)):=by rw[xJ];congr 1;omega
   rw[e3]at w2⊢
   rw[<-List.map_set,rV _ _ _ _ (by omega)]at w2
   rw[fk i0]
   exact w2
  ·subst e2;exact f.trans w3
 ·have hi:¬i<(s.n:Int):=by simpa using e
  have e4:i=xs.length:=by omega
  subst e4
  have:=HK h' (by simpa[List.take_of_length_le,gB]using H') f
  exact this
theorem E8{F:Nat->Prop}{h:Heap}{s:Sl}{aD:List (List Int)}(H:fM h F s aD)(k:Int)(h0:0<=k)(hk:k<=100000000000)(hn:dO aD<=100000000000)(K:Value->Heap->Prop)(HK:∀h',fM h' F s (ny k aD)->Fr F h h'->K (VI (k+dO aD)) h'):aE Tryz.prog 98 #[s.v,VI k] h K:=by
 have hl:s.n=aD.length:=H.len
 have Lx:=H.rd.GY
 refine v98 s k h K ⟨fun n k' i h'=>0<=i/\i+n=(aD.length:Int)/\k'=k+dO (aD.take i.toNat)/\fM h' F s ((ny k aD).take i.toNat++aD.drop i.toNat)/\Fr F h h',⟨aD.length,by omega,by omega,by simp[dO],by simpa using H,Fr.refl _ _⟩,?_⟩
 rintro n k' i h' ⟨i0,i1,rfl,H',f⟩ hL
 refine⟨fun e=> ?_,fun e=> ?_⟩
 ·have hi:i<(s.n:Int):=by simpa using e
  have hlen:((ny k aD).take i.toNat++aD.drop i.toNat).length=aD.length:=by simp[fG];omega
  have ab5:((ny k aD).take i.toNat).length=i.toNat:=by simp[fG];omega
  obtain⟨si,c1,c2,c3⟩:=H'.inner i0 (by omega)
  have e1:((ny k aD).take i.toNat++aD.drop i.toNat)[i.toNat]'(by omega)=aD[i.toNat]'(by omega):=by
   rw[List.getElem_append_right (by omega)]
   simp[ab5]
  rw[e1]at c2
  have hle:=gJ aD i.toNat
  have aiX:=gJ aD (i.toNat+1)
  have VF:=pT aD i.toNat (by omega)
  refine⟨H'.rd.bB i0 (by omega),si,c1,xL c2 _ (by omega) (by omega) (by omega) _ fun h2 o2 f2=>⟨_,rfl,.nil,n-1,by omega,?_,?_,?_,?_,?_⟩⟩
  ·rw[mm i0 hi Lx];omega
  ·rw[mm i0 hi Lx];omega
  ·rw[mm i0 hi Lx,fk i0,VF];omega
  ·rw[mm i0 hi Lx]
   have:=c3 h2 _ f2 o2
   rw[<-xK aD k i.toNat (by rw[fG];omega) (by omega),rV _ _ _ _ (by omega)]at this
   rw[fk i0]
   exact this
  ·exact f.trans (f2.mono fun k _ hk=>(c2.aG hk).1)
 ·have hi:¬i<(s.n:Int):=by simpa using e
  have e4:i=aD.length:=by omega
  subst e4
  have:=HK h' (by simpa[List.take_of_length_le,fG]using H') f
  simpa using this
theorem xM{S:Nat->Prop}{h:Heap}{s:Sl}{xs:List Int}(k:Int)(H:aP S h s (oc k xs))(h0:0<=k)(hk:k<=1000000000000000)(hn:xs.length<=1000000000000)(K:Value->Heap->Prop)(HK:K (VI (k+xs.length)) h):aE Tryz.prog 37 #[s.v,VI k] h K:=by
 have hl:s.n=xs.length:=by have:=H.len;rw[gB]at this;exact this
 refine v37 s k h K ⟨fun n k' i h'=>h'=h/\0<=i/\i+n=(xs.length:Int)/\k'=k+i,⟨xs.length,rfl,by omega,by omega,by omega⟩,?_⟩
 rintro n k' i _ ⟨rfl,i0,i1,rfl⟩ hL
 refine⟨fun e=> ?_,fun e=> ?_⟩
 ·have hi:=H.lt e
  refine⟨H.bB i0 hi,_,H.get i0 hi,fun e=> ?_,fun e=> ?_⟩
  ·have e5:=aY e
   simp only[decide_eq_false_iff_not]at e5
   rw[xJ]at e5
   omega
  ·rw[H.succ i0 hi,aH _ (by omega) (by rw[gB]at hi;omega)]
   rw[gB]at hi
   exact⟨n-1,by omega,rfl,by omega,by omega,by omega⟩
 ·have hi:=H.ge e
  rw[gB]at hi
  have e4:i=xs.length:=by omega
  rw[e4]
  exact HK
theorem E9{S:Nat->Prop}{h:Heap}{s:Sl}{aD:List (List Int)}(k:Int)(H:bF S h s (ny k aD))(h0:0<=k)(hk:k<=100000000000)(hn:dO aD<=100000000000)(K:Value->Heap->Prop)(HK:K (VI (k+dO aD)) h):aE Tryz.prog 99 #[s.v,VI k] h K:=by
 have hl:s.n=aD.length:=by have:=H.len;rw[fG]at this;exact this
 refine v99 s k h K ⟨fun n k' i h'=>h'=h/\0<=i/\i+n=(aD.length:Int)/\k'=k+dO (aD.take i.toNat),⟨aD.length,rfl,by omega,by omega,by simp[dO]⟩,?_⟩
 rintro n k' i _ ⟨rfl,i0,i1,rfl⟩ hL
 refine⟨fun e=> ?_,fun e=> ?_⟩
 ·have hi:=H.lt e
  have gH:i<(aD.length:Int):=by rw[fG]at hi;exact hi
  obtain⟨si,c1,c2⟩:=H.get i0 hi
  rw[xK aD k i.toNat _ (by omega)]at c2
  have hle:=gJ aD i.toNat
  have aiX:=gJ aD (i.toNat+1)
  have VF:=pT aD i.toNat (by omega)
  refine⟨H.bB i0 hi,si,c1,xM _ c2 (by omega) (by omega) (by omega) _ ⟨_,rfl,.nil,fun e=> ?_,fun e=> ?_⟩⟩
  ·simp only[decide_eq_true_eq]at e
   omega
  ·rw[H.succ i0 hi]
   exact⟨n-1,by omega,rfl,by omega,by omega,by rw[fk i0,VF];omega⟩
 ·have hi:=H.ge e
  rw[fG]at hi
  have e4:i=aD.length:=by omega
  rw[e4]
  simpa using HK
theorem Fa{F:Nat->Prop}{h:Heap}{s:Sl}{aD:List (List Int)}(H:fM h F s aD)(k:Int)(h0:0<=k)(hk:k<=100000000000)(hn:dO aD<=100000000000)(K:Value->Heap->Prop)(HK:∀h',fM h' F s (ny k aD)->Fr F h h'->K (VI (k+dO aD)) h'):aE Tryz.prog 62 #[.agg #[s.v],VI k] h K:=by
 refine v62 s k h K fun b1 h1 dM f1 bG=> ?_
 have H1:fM h1 (fun k=>F k/\k<h.size) s aD:=(H.mono fun k hk hF=>⟨hF,hk⟩:fM h _ s aD).no f1.aF
 refine E8 H1 k h0 hk hn _ fun h2 o2 f2=> ?_
 refine⟨_,rfl,bG.fr f2 (fun p hp hk=> ?_),?_⟩
 ·obtain rfl:p=(b1,[s.v]):=by simpa using hp
  have:=hk.2
  simp only at this
  omega
 ·exact HK _ (o2.mono fun k _ hk=>hk.1) (f1.aF.aB.trans (f2.mono fun k _ hk=>hk.1))
theorem HW{F:Nat->Prop}{h:Heap}{s:Sl}{xs:List Int}(H:bK h F s xs)(p k:Int)(h0:0<=k)(hk:k<=1000000000000000)(hn:xs.length<=1000000000000)(K:Value->Heap->Prop)(HK:∀h',bK h' F s (oc k xs)->Fr s.own h h'->K (VI (k+xs.length)) h'):aE Tryz.prog 63 #[.agg #[s.v,VI p],VI k] h K:=by
 refine v63 s p k h K fun b1 h1 dM f1 bG=> ?_
 refine xL (Ow.no H f1.aF) k h0 hk hn _ fun h2 o2 f2=> ?_
 refine⟨_,rfl,bG.fr f2 (fun p hp hk=> ?_),?_⟩
 ·obtain rfl:p=(b1,[s.v,_]):=by simpa using hp
  have:=(H.aG hk).2
  simp only at this
  omega
 ·exact HK _ o2 (f1.aF.aB.trans f2)
theorem xP{F F':Nat->Prop}{h:Heap}{s t:Sl}{aD:List (List Int)}{xs:List Int}(G:fM h F s aD)(H:bK h F' t xs)(hd:∀k,F k->¬F' k)(p k:Int)(h0:0<=k)(hk:k<=100000000000)(hn:dO aD<=100000000000)(hm:xs.length<=1000000000000)(K:Value->Heap->Prop)
 (HK:∀h',fM h' F s (ny k aD)->bK h' F' t (oc (k+dO aD) xs)->Fr (fun k=>F k\/F' k) h h'->K (VI (k+dO aD+xs.length)) h'):aE Tryz.prog 22 #[.agg #[s.v,t.v,VI p],VI k] h K:=by
 refine v22 s t p k h K fun b1 h1 dM f1 bG=> ?_
 have G1:fM h1 (fun k=>F k/\k<h.size) s aD:=(G.mono fun k hk hF=>⟨hF,hk⟩:fM h _ s aD).no f1.aF
 have H1:bK h1 (fun k=>F' k/\k<h.size) t xs:=Ow.no (H.mono fun k hk hF=>⟨hF,(H.aG hk).2⟩) f1.aF
 refine Fa G1 k h0 hk hn _ fun h2 o2 f2=> ?_
 have bP:=bG.fr f2 fun p hp hk=>by
  obtain rfl:p=(b1,[s.v,t.v,_]):=by simpa using hp
  have:=hk.2
  simp only at this
  omega
 have H2:=H1.fr f2 fun k hk aI=>hd k aI.1 (H1.aG hk).1.1
 refine⟨_,rfl,bP,?_⟩
 refine HW H2 p _ (by omega) (by omega) (by omega) _ fun h3 o3 f3=> ?_
 refine⟨_,rfl,bP.fr f3 (fun p hp hk=> ?_),?_⟩
 ·obtain rfl:p=(b1,[s.v,t.v,_]):=by simpa using hp
  have:=(H1.aG hk).1.2
  simp only at this
  omega
 ·refine HK _ ((o2.fr f3 fun k _ hk aI=>hd k hk.1 (H2.aG aI).1.1).mono fun k _ hk=>hk.1) (o3.mono fun k _ hk=>hk.1) ?_
  exact(f1.aF.aB.trans (f2.mono fun k _ hk=> .inl hk.1)).trans (f3.mono fun k _ hk=> .inr (H2.aG hk).1.1)
theorem Fb{S:Nat->Prop}{h:Heap}{s:Sl}{aD:List (List Int)}(k:Int)(H:bF S h s (ny k aD))(h0:0<=k)(hk:k<=100000000000)(hn:dO aD<=100000000000):pO Tryz.prog 64 #[.agg #[s.v],VI k] h (VI (k+dO aD)):=by
 intro K HK
 refine v64 s k h K fun b1 h1 dM f1 bG=> ?_
 refine E9 k (H.no f1.aF) h0 hk hn _ ⟨_,rfl,bG,fun e=> ?_,fun e=>HK _ f1.aF⟩
 simp only[decide_eq_true_eq]at e
 omega
theorem HX{S:Nat->Prop}{h:Heap}{s:Sl}{xs:List Int}(p k:Int)(H:aP S h s (oc k xs))(h0:0<=k)(hk:k<=1000000000000000)(hn:xs.length<=1000000000000):pO Tryz.prog 65 #[.agg #[s.v,VI p],VI k] h (VI (k+xs.length)):=by
 intro K HK
 refine v65 s p k h K fun b1 h1 dM f1 bG=> ?_
 refine xM k (H.no f1.aF) h0 hk hn _ ⟨_,rfl,bG,fun e=> ?_,fun e=>HK _ f1.aF⟩
 simp only[decide_eq_true_eq]at e
 omega
theorem xQ{S S':Nat->Prop}{h:Heap}{s t:Sl}{aD:List (List Int)}{xs:List Int}(p k:Int)(G:bF S h s (ny k aD))(H:aP S' h t (oc (k+dO aD) xs))(h0:0<=k)(hk:k<=100000000000)(hn:dO aD<=100000000000)(hm:xs.length<=1000000000000):pO Tryz.prog 23 #[.agg #[s.v,t.v,VI p],VI k] h (VI (k+dO aD+xs.length)):=by
 intro K HK
 refine v23 s t p k h K fun b1 h1 dM f1 bG=> ?_
 have f1:=f1.aF
 refine Fb k (G.no f1) h0 hk hn _ fun h2 f2=>⟨_,rfl,bG.aB f2,fun e=> ?_,fun e=> ?_⟩
 ·simp only[decide_eq_true_eq]at e
  omega
 ·refine HX p _ ((H.no f1).no f2) (by omega) (by omega) (by omega) _ fun h3 f3=>⟨_,rfl,(bG.aB f2).aB f3,fun e=> ?_,fun e=>HK _ ((f1.aA f2).trans f3)⟩
  simp only[decide_eq_true_eq]at e
  omega
theorem NX{F:Nat->Prop}{h:Heap}{g:Sl}{aD:List (List Int)}(H:fM h F g aD)(hn:aD.length<=1000000000000)(K:Value->Heap->Prop)(HK:∀w h',fM h' (fun k=>F k/\k<h.size) g aD->bK h' (fun k=>h.size<=k) w (List.replicate aD.length 0)->Fr No h h'->K (.agg #[g.v,w.v,VI 0]) h'):aE Tryz.prog 69 #[.agg #[g.v]] h K:=by
 refine v69 g h K fun b1 b2 h1 dM dE f1 bG=> ?_
 have f1:=f1.aF
 have s1:=f1.size
 refine dK fL (fun k=>h1.size<=k) (fun _ h=>h) .i64 .i64 g.n g.n (Nat.le_refl _) (by rw[H.len];exact hn) fun t7 h3 n3 c3 o3 f3 l3 _=>⟨t7,rfl,bG.aB f3,fun h4 f4 dN=> ?_⟩
 have hb:b2<h1.size:=bG.head.lt
 have f13:=f1.aA f3
 refine HK _ _ ((((H.mono fun k hk hF=>⟨hF,hk⟩:fM h (fun k=>F k/\k<h.size) g aD).no f13).fr f4 fun k _ hk aI=> ?_)) ?_ ?_
 ·simp[In]at aI
  omega
 ·have e:(List.replicate g.n [VI 0]).flatten=(List.replicate aD.length (0:Int)).map VI:=by rw[H.len];simp[List.flatten_replicate_singleton]
  rw[e]at o3
  refine(Ow.fr o3 f4 fun k hk aI=> ?_).mono fun k _ hk=>by omega
  have:=l3 k hk
  simp[In]at aI
  omega
 ·have f14:Fr (In [b2]) h h4:=f13.aB.trans f4
  refine⟨f14.size,fun k hk _=>f14.same k hk fun aI=> ?_⟩
  simp[In]at aI
  omega
theorem Fc{S:Nat->Prop}{h:Heap}{s:Sl}{xs:List Int}(H:aP S h s xs)(left:Int)(h0:0<=left)(h1:left<=1048576)(K:Value->Heap->Prop)(HK:∀r:Int,r= -1\/(0<=r/\r=left-xs.length)->K (VI r) h):aE Tryz.prog 94 #[s.v,VI left] h K:=by
 have hb:=kz (cY.GY H)
 have e:=H.len
 have hw:aL (left-s.n)=left-s.n:=aH _ (by omega) (by omega)
 refine v94 s left h K ⟨fun _=>HK _ (.inl rfl),fun e2=>HK _ (.inr ?_)⟩
 rw[hw]at e2⊢
 simp only[decide_eq_false_iff_not]at e2
 omega
theorem Ly{S:Nat->Prop}{h:Heap}{s:Sl}{aD:List (List Int)}(H:bF S h s aD)(left:Int)(h0:0<=left)(h1:left<=1048576)(K:Value->Heap->Prop)(HK:∀r:Int,r= -1\/(0<=r/\r=left-aD.length-dO aD)->K (VI r) h):aE Tryz.prog 93 #[s.v,VI left] h K:=by
 have hb:=kz H.GY
 have e:=H.len
 have hw:aL (left-s.n)=left-s.n:=aH _ (by omega) (by omega)
 refine v93 s left h K ⟨fun _=>HK _ (.inl rfl),fun e2=> ?_⟩
 rw[hw]at e2⊢
 simp only[decide_eq_false_iff_not]at e2
 refine⟨fun n l i h'=>h'=h/\0<=i/\i+n=(aD.length:Int)/\l=left-aD.length-dO (aD.take i.toNat)/\0<=l,⟨aD.length,rfl,by omega,by omega,by simp[dO];omega,by omega⟩,?_⟩
 rintro n l i _ ⟨rfl,i0,i1,rfl,l0⟩ hL
 refine⟨fun e=> ?_,fun e=> ?_⟩
 ·have hi:=H.lt e
  obtain⟨si,c1,c2⟩:=H.get i0 hi
  have VF:=pT aD i.toNat (by omega)
  refine⟨H.bB i0 hi,si,c1,Fc c2 _ l0 (by omega) _ fun r hr=>⟨r,rfl,.nil,fun _=>HK _ (.inl rfl),fun e3=> ?_⟩⟩
  simp only[decide_eq_false_iff_not]at e3
  rw[H.succ i0 hi]
  exact⟨n-1,by omega,rfl,by omega,by omega,by rw[fk i0,VF];omega,by omega⟩
 ·have hi:=H.ge e
  have e4:i=aD.length:=by omega
  refine HK _ (.inr ⟨l0,?_⟩)
  rw[e4]
  simp
theorem Lz{S:Nat->Prop}{h:Heap}{s:Sl}{aD:List (List Int)}(H:bF S h s aD)(left:Int)(h0:0<=left)(h1:left<=1048576)(K:Value->Heap->Prop)(HK:∀(h':Heap)(r:Int),Fr No h h'->r= -1\/(0<=r/\r=left-aD.length-dO aD)->K (VI r) h'):aE Tryz.prog 56 #[.agg #[s.v],VI left] h K:=by
 refine v56 s left h K fun b1 QK dM f1 bG=> ?_
 refine Ly (H.no f1.aF) left h0 h1 _ fun r hr=>⟨r,rfl,bG,fun e=>HK _ _ f1.aF (.inl rfl),fun e=>HK _ _ f1.aF hr⟩
theorem NY{S:Nat->Prop}{h:Heap}{s:Sl}{xs:List Int}(H:aP S h s xs)(p left:Int)(h0:0<=left)(h1:left<=1048576)(K:Value->Heap->Prop)(HK:∀(h':Heap)(r:Int),Fr No h h'->r= -1\/(0<=r/\r=left-xs.length)->K (VI r) h'):aE Tryz.prog 57 #[.agg #[s.v,VI p],VI left] h K:=by
 refine v57 s p left h K fun b1 QK dM f1 bG=> ?_
 refine Fc (H.no f1.aF) left h0 h1 _ fun r hr=>⟨r,rfl,bG,fun e=>HK _ _ f1.aF (.inl rfl),fun e=>HK _ _ f1.aF hr⟩
theorem NZ{S S':Nat->Prop}{h:Heap}{s t:Sl}{aD:List (List Int)}{xs:List Int}(G:bF S h s aD)(H:aP S' h t xs)(p left:Int)(h0:0<=left)(h1:left<=1048576)(K:Value->Heap->Prop)(HK:∀(h':Heap)(r:Int),Fr No h h'->r= -1\/(0<=r/\r=left-aD.length-dO aD-xs.length)->K (VI r) h'):aE Tryz.prog 19 #[.agg #[s.v,t.v,VI p],VI left] h K:=by
 refine v19 s t p left h K fun b1 QK dM f1 bG=> ?_
 have f1:=f1.aF
 refine Lz (G.no f1) left h0 h1 _ fun h2 r f2 hr=>⟨r,rfl,bG.aB f2,fun e=>HK _ _ (f1.aA f2) (.inl rfl),fun e=> ?_⟩
 simp only[decide_eq_false_iff_not]at e
 refine NY ((H.no f1).no f2) p r (by omega) (by omega) _ fun h3 q f3 hq=>⟨q,rfl,(bG.aB f2).aB f3,fun e=>HK _ _ ((f1.aA f2).aA f3) (.inl rfl),fun e2=>HK _ _ ((f1.aA f2).aA f3) ?_⟩
 simp only[decide_eq_false_iff_not]at e2
 exact .inr (by omega)
theorem Fe{S:Nat->Prop}{h:Heap}{s:Sl}{xs:List Int}(H:aP S h s xs)(hn:xs.length<=1000000000000)(K:Value->Heap->Prop)(HK:∀t h',bK h' (fun k=>h.size<=k) t xs->Fr No h h'->K t.v h'):aE Tryz.prog 96 #[s.v] h K:=by
 have hl:=H.len
 refine v96 s h K ?_
 refine dK fL (fun k=>h.size<=k) (fun _ h=>h) .i64 .i64 s.n s.n (Nat.le_refl _) (by omega) fun t h1 n1 c1 o1 f1 l1 _=>⟨t,rfl,.nil,?_⟩
 have o1:bK h1 (fun k=>h.size<=k) t (List.replicate xs.length 0):=by
  have e:(List.replicate s.n [VI 0]).flatten=(List.replicate xs.length (0:Int)).map VI:=by rw[H.len];simp[List.flatten_replicate_singleton]
  rw[e]at o1;exact o1
 refine⟨fun n i h'=>0<=i/\i+n=(xs.length:Int)/\bK h' (fun k=>h.size<=k) t (xs.take i.toNat++(List.replicate xs.length (0:Int)).drop i.toNat)/\Fr t.own h1 h',⟨xs.length,by omega,by omega,by simpa using o1,Fr.refl _ _⟩,?_⟩
 rintro n i h2 ⟨i0,i1,o2,f2⟩ hL
 have H2:=H.on f1 f2 l1
 refine⟨fun e=> ?_,fun e=> ?_⟩
 ·have hi:=H.lt e
  obtain⟨w1,w2,w3⟩:=o2.eH i0 (by omega) (VI (xs[i.toNat]'(by omega)))
  refine⟨H2.bB i0 hi,_,H2.get i0 hi,o2.bB i0 (by omega),w1,.nil,fun h3 e3 _=> ?_⟩
  subst e3
  rw[<-List.map_set,rV _ _ _ _ (by simp;omega)]at w2
  rw[H.succ i0 hi]
  exact⟨n-1,by omega,by omega,by omega,by rw[fk i0];exact w2,f2.trans w3⟩
 ·have hi:=H.ge e
  have e4:i=xs.length:=by omega
  subst e4
  exact HK t h2 (by simpa using o2) (f1.fresh f2 l1)
theorem LA{S:Nat->Prop}{h:Heap}{s:Sl}{aD:List (List Int)}(H:bF S h s aD)(hn:aD.length<=1000000000000)(hm:dO aD<=1000000000000)(K:Value->Heap->Prop)(HK:∀t h',fM h' (fun k=>h.size<=k) t aD->Fr No h h'->K t.v h'):aE Tryz.prog 95 #[s.v] h K:=by
 have hl:=H.len
 refine v95 s h K ?_
 refine dK qg (fun k=>h.size<=k) (fun _ h=>h) .i64 .i64 s.n s.n (Nat.le_refl _) (by omega) fun t h1 n1 c1 o1 f1 l1 _=>⟨t,rfl,.nil,?_⟩
 have o1:fM h1 (fun k=>h.size<=k) t (List.replicate aD.length []):=dD.abI _ (by rw[hl]at o1;exact o1)
 refine⟨fun n i h'=>0<=i/\i+n=(aD.length:Int)/\fM h' (fun k=>h.size<=k) t (aD.take i.toNat++(List.replicate aD.length []).drop i.toNat)/\Fr No h h',⟨aD.length,by omega,by omega,by simpa using o1,f1⟩,?_⟩
 rintro n i h2 ⟨i0,i1,o2,f2⟩ hL
 have H2:=H.no f2
 refine⟨fun e=> ?_,fun e=> ?_⟩
 ·have hi:=H.lt e
  obtain⟨si,c1,c2⟩:=H2.get i0 hi
  have hlen:(aD.take i.toNat++(List.replicate aD.length ([]:List Int)).drop i.toNat).length=aD.length:=by simp;omega
  have qd:(aD[i.toNat]'(by omega)).length<=dO aD:=by
   have h1:=pT aD i.toNat (by omega)
   have h2:=gJ aD (i.toNat+1)
   omega
  refine⟨H2.bB i0 hi,si,c1,Fe c2 (by omega) _ fun x h3 o3 f3=>⟨x,rfl,.nil,?_⟩⟩
  have MF:=(o2.mono (F':=fun k=>h.size<=k/\k<h2.size) fun k hk hF=>⟨hF,hk⟩).no f3
  obtain⟨sj,d1,d2,_⟩:=MF.inner i0 (by omega)
  have s2:=f2.size
  obtain⟨w1,w2,w3⟩:=MF.outer i0 (by omega) d1 (F':=fun k=>h.size<=k) (o3.mono fun k _ hk=>by omega) (fun k _ hk=>hk.1) (fun k hk=> .inr fun aI=>by have:=(o3.aG hk).1;omega)
  refine⟨MF.rd.bB i0 (by omega),w1,.nil,fun h4 e4 _=> ?_⟩
  subst e4
  rw[rV _ _ _ _ (by simp;omega)]at w2
  rw[H.succ i0 hi]
  exact⟨n-1,by omega,by omega,by omega,by rw[fk i0];exact w2,(f2.aA f3).fresh w3 fun k hk=>by
   obtain⟨ss,_,h5,_⟩:=MF.out
   exact(h5.aG hk).1.1⟩
 ·have hi:=H.ge e
  have e4:i=aD.length:=by omega
  subst e4
  exact HK t h2 (by simpa using o2) f2
theorem LB{S:Nat->Prop}{h:Heap}{s:Sl}{aD:List (List Int)}(H:bF S h s aD)(hn:aD.length<=1000000000000)(hm:dO aD<=1000000000000)(K:Value->Heap->Prop)(HK:∀t h',fM h' (fun k=>h.size<=k) t aD->Fr No h h'->K (.agg #[t.v]) h'):aE Tryz.prog 58 #[.agg #[s.v]] h K:=by
 refine v58 s h K fun b1 b2 b3 h1 dM dE ia f1 bG=> ?_
 have f1:=f1.aF
 refine LA (H.no f1) hn hm _ fun t h2 o2 f2=>⟨t,rfl,bG.aB f2,fun h3 f3 cF=> ?_⟩
 have l3:b3<h1.size:=bG.head.lt
 have l2:b2<h1.size:=bG.tail.head.lt
 have s1:=f1.size
 refine HK t h3 ((o2.fr f3 fun k _ hk=>In.off (n:=h1.size) (by simp;omega) hk).mono fun k _ hk=>by omega) ((f1.aA f2).fresh f3 (JK (by simp;omega)))
theorem N3{S:Nat->Prop}{h:Heap}{s:Sl}{xs:List Int}(H:aP S h s xs)(p:Int)(hn:xs.length<=1000000000000)(K:Value->Heap->Prop)(HK:∀t h',bK h' (fun k=>h.size<=k) t xs->Fr No h h'->K (.agg #[t.v,VI p]) h'):aE Tryz.prog 59 #[.agg #[s.v,VI p]] h K:=by
 refine v59 s p h K fun b1 b2 b3 h1 dM dE ia f1 bG=> ?_
 have f1:=f1.aF
 refine Fe (H.no f1) hn _ fun t h2 o2 f2=>⟨t,rfl,bG.aB f2,fun h3 f3 cF=> ?_⟩
 have l3:b3<h1.size:=bG.head.lt
 have l2:b2<h1.size:=bG.tail.head.lt
 have s1:=f1.size
 refine HK t h3 ((Ow.fr o2 f3 fun k hk=>In.off (n:=h1.size) (by simp;omega) (o2.aG hk).1).mono fun k _ hk=>by omega) ((f1.aA f2).fresh f3 (JK (by simp;omega)))
theorem sB{S S':Nat->Prop}{h:Heap}{s t:Sl}{aD:List (List Int)}{xs:List Int}(G:bF S h s aD)(H:aP S' h t xs)(p:Int)(hn:aD.length<=1000000000000)(hm:dO aD<=1000000000000)(hk:xs.length<=1000000000000)(K:Value->Heap->Prop)
 (HK:∀s' t' m h',fM h' (fun k=>h.size<=k/\k<m) s' aD->bK h' (fun k=>h.size<=k/\m<=k) t' xs->Fr No h h'->K (.agg #[s'.v,t'.v,VI p]) h'):aE Tryz.prog 20 #[.agg #[s.v,t.v,VI p]] h K:=by
 refine v20 s t p h K fun b1 b2 b3 h1 dM dE ia f1 bG=> ?_
 have f1:=f1.aF
 have l3:b3<h1.size:=bG.head.lt
 have l2:b2<h1.size:=bG.tail.head.lt
 have s1:=f1.size
 refine LB (G.no f1) hn hm _ fun s' h2 o2 f2=>⟨s',rfl,bG.aB f2,fun h3 f3 cF=> ?_⟩
 have s2:=f2.size
 have gj:Fr No h h3:=(f1.aA f2).fresh f3 (JK (by simp;omega))
 have s3:=f3.size
 refine N3 (H.no gj) p hk _ fun t' h4 o4 f4=>⟨t',p,rfl,cF.aB f4,fun h5 f5 ic=> ?_⟩
 have o3:=(o2.mono (F':=fun k=>h1.size<=k/\k<h3.size) fun k hk hF=>⟨hF,by omega⟩).fr f3 fun k _ hk=>In.off (n:=h1.size) (by simp;omega) hk.1
 have s4:=f4.size
 refine HK s' t' h3.size h5 (((o3.no f4).fr f5 fun k _ hk=>In.off (n:=h1.size) (by simp;omega) hk.1).mono fun k _ hk=>by omega) ((Ow.fr o4 f5 fun k hk=>In.off (n:=h1.size) (by simp;omega) (Nat.le_trans (by omega) (o4.aG hk).1)).mono fun k _ hk=>by omega) ((gj.aA f4).fresh f5 (JK (by simp;omega)))
theorem Ff{S:Nat->Prop}{h:Heap}{s:Sl}{xs:List Int}(H:aP S h s xs)(hn:s.a=none):xs=[]:=by
 cases xs with
 |nil=>rfl
 |cons x xs=>
  obtain⟨a,ha,_⟩:=cY.cell H 0 (by simp)
  rw[hn]at ha
  cases ha
theorem wx{S:Nat->Prop}{h:Heap}{s:Sl}{xs:List Int}(H:aP S h s xs)(hn:xs.length<=1000000000)(K:Value->Heap->Prop)(HK:∀t h',bK h' (Iv h.size h'.size) t xs->Fr No h h'->K t.v h'):aE Tryz.prog 152 #[s.v] h K:=by
 refine v152 s h K (Lo fL _ _ ⟨_,rfl,fun e=> ?_,fun e=> ?_⟩)
 ·have:xs=[]:=Ff H (by simpa using e)
  subst this
  exact HK aC h (Ow.nil _ _ _ _) (Fr.refl _ _)
 ·refine aS fL (fun k=>h.size<=k) (fun _ h=>h) 0 (by omega) [] rfl rfl fun t h1 n1 c1 o1 f1 l1 _=>⟨t,rfl,.nil,?_⟩
  refine bQ fL o1 (fun k hk=>Nat.le_trans f1.size hk) (H.no f1) (ff _) (by have:=H.len;omega) fun t' h2 n2 o2 f2 l2=>⟨t',rfl,.nil,?_⟩
  exact HK t' h2 (Ow.gf (by simpa using o2)) (f1.fresh f2 l1)
theorem lE{S:Nat->Prop}{h:Heap}{s:Sl}{xs:List Int}(H:aP S h s xs)(hn:xs.length<=1000000000)(K:Value->Heap->Prop)(HK:∀t h',bK h' (Iv h.size h'.size) t xs->Fr No h h'->K t.v h'):aE Tryz.prog 87 #[s.v] h K:=by
 refine v87 s h K ?_
 refine aS fL (fun k=>h.size<=k) (fun _ h=>h) 0 (by omega) [] rfl rfl fun t h1 n1 c1 o1 f1 l1 _=>⟨t,rfl,.nil,?_⟩
 refine bQ fL o1 (fun k hk=>Nat.le_trans f1.size hk) (H.no f1) (ff _) (by have:=H.len;omega) fun t' h2 n2 o2 f2 l2=>⟨t',rfl,.nil,?_⟩
 exact HK t' h2 (Ow.gf (by simpa using o2)) (f1.fresh f2 l1)
theorem Bc{n:Nat}:∀{aD:List (List Int)}{m:Nat},aD.length<=m->(∀l,l∈aD->l.length<=n)->dO aD<=m*n
 |[],m,_,_=>by simp[dO]
 |x::xs,0,h,_=>by simp at h
 |x::xs,m+1,h,h2=>by
  have h3:=Bc (n:=n) (aD:=xs) (m:=m) (by simpa using h) fun l hl=>h2 l (List.mem_cons_of_mem _ hl)
  have h4:=h2 x (by simp)
  have h5:dO (x::xs)=x.length+dO xs:=by simp[dO]
  rw[h5,Nat.add_mul]
  omega
theorem sC{aD:List (List Int)}:∀l,l∈aD->l.length<=dO aD:=by
 induction aD with
 |nil=>intro l h;simp at h
 |cons x xs ih=>
  intro l hl
  have h5:dO (x::xs)=x.length+dO xs:=by simp[dO]
  rcases List.mem_cons.1 hl with rfl|hl
  ·omega
  ·have:=ih l hl;omega
theorem Fg{S:Nat->Prop}{h:Heap}{g:Sl}{aD:List (List Int)}(H:bF S h g aD)(hn:aD.length+dO aD<=1000000000)(K:Value->Heap->Prop)(HK:∀t h',fM h' (Iv h.size h'.size) t aD->Fr No h h'->K (.agg #[t.v]) h'):aE Tryz.prog 109 #[.agg #[g.v]] h K:=by
 refine v109 g h K fun b1 b2 b3 h4 dM dE ia f4 dN=> ?_
 have f4:=f4.aF
 have l3:b3<h4.size:=dN.head.lt
 have l2:b2<h4.size:=dN.tail.head.lt
 have l1:b1<h4.size:=dN.tail.tail.head.lt
 have s4:=f4.size
 refine⟨fun n i x h'=>0<=i/\i+n=(aD.length:Int)/\fM h' (fun k=>h4.size<=k) x (aD.take i.toNat)/\Fr No h h'/\h4.size<=h'.size,⟨aD.length,by omega,by omega,by simpa using dD.nil _ _ _ _,f4,Nat.le_refl _⟩,?_⟩
 rintro n i x h5 ⟨i0,i1,o5,f5,z5⟩ ic
 have H5:=H.no f5
 refine⟨fun e=> ?_,fun e=> ?_⟩
 ·have hi:=H.lt e
  obtain⟨si,c1,c2⟩:=H5.get i0 hi
  have UN:=sC (aD[i.toNat]'(by omega)) (List.getElem_mem (by omega))
  refine⟨H5.bB i0 hi,si,c1,wx c2 (by omega) _ fun t h6 o6 f6=>⟨t,rfl,ic.aB f6,?_⟩⟩
  refine aS qg (fun k=>h6.size<=k) (fun _ h=>h) 1 (by omega) [t.v] rfl rfl fun u h7 n7 c7 o7 f7 l7 _=>⟨u,rfl,(ic.aB f6).aB f7,?_⟩
  have s6:=f6.size
  have s7:=f7.size
  refine dD.snoc qg ((o5.gf.no f6).no f7) (F':=fun k=>h4.size<=k) (fun k _ hk=>hk.1) (fun k hk=>by omega) ((Ow.no o6 f7).mono fun k _ hk=>Nat.le_trans z5 hk.1) (fun k hk aI=>by have:=(o6.aG hk).1.1;have:=aI.2;omega) o7.rd (by simp;omega) fun y h8 o8 f8=>⟨y,rfl,((ic.aB f6).aB f7).iv f8 ⟨.inl l3,.inl l2,.inl l1,trivial⟩,fun h9 f9 gh=> ?_⟩
  have s8:=f8.size
  have f9:=f9.cB (lo:=h.size) (hi:=h4.size) ⟨⟨ia,l3⟩,trivial⟩
  have s9:=f9.size
  rw[H.succ i0 hi]
  refine⟨n-1,by omega,by omega,by omega,?_,?_,by omega⟩
  ·rw[eB aD i0 hi]
   exact(o8.gf.iv f9 (.inr (Nat.le_refl _))).mono fun k _ hk=>hk.1
  ·exact((((f5.aA f6).aA f7).aJ f8 (by omega))).aJ f9 (Nat.le_refl _)
 ·have hi:=H.ge e
  rw[List.take_of_length_le (by omega)]at o5
  intro dY f10 dP
  have f10:=f10.cB (lo:=h.size) (hi:=h4.size) ⟨⟨dE,l2⟩,trivial⟩
  exact HK x dY ((o5.gf.iv f10 (.inr (Nat.le_refl _))).mono fun k aI hk=>⟨Nat.le_trans s4 hk.1,aI⟩) (f5.aJ f10 (Nat.le_refl _))
theorem N4{S:Nat->Prop}{h:Heap}{g:Sl}{aD:List (List Int)}(H:bF S h g aD)(hn:aD.length+dO aD<=1000000000)(K:Value->Heap->Prop)(HK:∀t h',fM h' (Iv h.size h'.size) t aD->Fr No h h'->K (.agg #[t.v]) h'):aE Tryz.prog 175 #[.agg #[g.v]] h K:=by
 refine v175 g h K fun b1 b2 b3 h4 dM dE ia f4 dN=> ?_
 have f4:=f4.aF
 have l3:b3<h4.size:=dN.head.lt
 have l2:b2<h4.size:=dN.tail.head.lt
 have l1:b1<h4.size:=dN.tail.tail.head.lt
 have s4:=f4.size
 refine⟨fun n i x h'=>0<=i/\i+n=(aD.length:Int)/\fM h' (fun k=>h4.size<=k) x (aD.take i.toNat)/\Fr No h h'/\h4.size<=h'.size,⟨aD.length,by omega,by omega,by simpa using dD.nil _ _ _ _,f4,Nat.le_refl _⟩,?_⟩
 rintro n i x h5 ⟨i0,i1,o5,f5,z5⟩ ic
 have H5:=H.no f5
 refine⟨fun e=> ?_,fun e=> ?_⟩
 ·have hi:=H.lt e
  obtain⟨si,c1,c2⟩:=H5.get i0 hi
  have UN:=sC (aD[i.toNat]'(by omega)) (List.getElem_mem (by omega))
  refine⟨H5.bB i0 hi,si,c1,lE c2 (by omega) _ fun t h6 o6 f6=>⟨t,rfl,ic.aB f6,?_⟩⟩
  refine aS qg (fun k=>h6.size<=k) (fun _ h=>h) 1 (by omega) [t.v] rfl rfl fun u h7 n7 c7 o7 f7 l7 _=>⟨u,rfl,(ic.aB f6).aB f7,?_⟩
  have s6:=f6.size
  have s7:=f7.size
  refine dD.snoc qg ((o5.gf.no f6).no f7) (F':=fun k=>h4.size<=k) (fun k _ hk=>hk.1) (fun k hk=>by omega) ((Ow.no o6 f7).mono fun k _ hk=>Nat.le_trans z5 hk.1) (fun k hk aI=>by have:=(o6.aG hk).1.1;have:=aI.2;omega) o7.rd (by simp;omega) fun y h8 o8 f8=>⟨y,rfl,((ic.aB f6).aB f7).iv f8 ⟨.inl l3,.inl l2,.inl l1,trivial⟩,fun h9 f9 gh=> ?_⟩
  have s8:=f8.size
  have f9:=f9.cB (lo:=h.size) (hi:=h4.size) ⟨⟨ia,l3⟩,trivial⟩
  have s9:=f9.size
  rw[H.succ i0 hi]
  refine⟨n-1,by omega,by omega,by omega,?_,?_,by omega⟩
  ·rw[eB aD i0 hi]
   exact(o8.gf.iv f9 (.inr (Nat.le_refl _))).mono fun k _ hk=>hk.1
  ·exact((((f5.aA f6).aA f7).aJ f8 (by omega))).aJ f9 (Nat.le_refl _)
 ·have hi:=H.ge e
  rw[List.take_of_length_le (by omega)]at o5
  intro dY f10 dP
  have f10:=f10.cB (lo:=h.size) (hi:=h4.size) ⟨⟨dE,l2⟩,trivial⟩
  exact HK x dY ((o5.gf.iv f10 (.inr (Nat.le_refl _))).mono fun k aI hk=>⟨Nat.le_trans s4 hk.1,aI⟩) (f5.aJ f10 (Nat.le_refl _))
def j7(aD:List (List Int)):List (List Int):=if aM aD then aD else[]
def gS(g:List (List Int))(p q:Int):List (List Int)×Bool:=
 if aM g&&iD 0 ((g.length:Int)-1) p&&iD 0 ((g.length:Int)-1) q then(j7 (g.set p.toNat (g.getD p.toNat []++[q])),aM (g.set p.toNat (g.getD p.toNat []++[q])))else([],false)
theorem aZ{lo hi x:Int}:iD lo hi x=true↔lo<=x/\x<=hi:=by simp[iD]
theorem aO{g:List (List Int)}(h:aM g=true):1<=g.length/\g.length<=8:=by
 unfold aM at h
 rw[Bool.and_eq_true,aZ]at h
 omega
theorem aT{g:List (List Int)}(h:aM g=true){l:List Int}(hl:l∈g):l.length<=5/\∀x,x∈l->0<=x/\x<(g.length:Int):=by
 unfold aM at h
 rw[Bool.and_eq_true]at h
 have:=List.all_eq_true.1 h.2 l hl
 rw[Bool.and_eq_true]at this
 obtain⟨h1,h2⟩:=this
 simp only[Bool.not_eq_true',decide_eq_false_iff_not]at h1
 refine⟨by omega,fun x hx=> ?_⟩
 have:=List.all_eq_true.1 h2 x hx
 rw[aZ]at this
 omega
theorem mu{g:List (List Int)}(h:aM g=true):dO g<=40:=by
 have:=Bc (n:=5) (aD:=g) (m:=8) (aO h).2 fun l hl=>(aT h hl).1
 omega
theorem aR{g:List (List Int)}{i:Nat}(h:i<g.length):g.getD i []=g[i]:=by simp[List.getD,List.getElem?_eq_getElem h]
theorem N6{x y:Nat}{h:Heap}{g:Sl}{aD:List (List Int)}(H:fM h (Iv x y) g aD)(hy:y<=h.size)(K:Value->Heap->Prop)(HK:∀t h',fM h' (Iv x y) t (j7 aD)->Fr No h h'->K (.tuple #[.agg #[t.v],VB (aM aD)]) h'):aE Tryz.prog 200 #[.agg #[g.v]] h K:=by
 refine ahm g h K fun b1 b2 h2 dM dE f2 bP=> ?_
 have f2:=f2.aF
 have l2:b2<h2.size:=bP.head.lt
 refine Ba (H.rd.no f2) _ fun h3 f3=>⟨_,rfl,bP.aB f3,fun e h4 f4 dN=> ?_,fun e h4 f4 dN=> ?_⟩
 ·have f4:=f4.cB (lo:=h.size) (hi:=h2.size) ⟨⟨dE,l2⟩,trivial⟩
  have e:=aY e
  have:=HK aC h4 (by unfold j7;rw[e];exact dD.nil _ _ _ _) ((f2.aA f3).aJ f4 (Nat.le_refl _))
  rw[e]at this
  exact this
 ·have f4:=f4.cB (lo:=h.size) (hi:=h2.size) ⟨⟨dE,l2⟩,trivial⟩
  have e:=aV e
  have:=HK g h4 (by unfold j7;rw[e];exact((H.no f2).no f3).iv f4 (.inl hy)) ((f2.aA f3).aJ f4 (Nat.le_refl _))
  rw[e]at this
  exact this
theorem Wg{x y:Nat}{h:Heap}{g:Sl}{aD:List (List Int)}(H:fM h (Iv x y) g aD)(hy:y<=h.size)(K:Value->Heap->Prop)(HK:∀t h',fM h' (Iv x y) t (j7 aD)->Fr No h h'->K (.tuple #[.agg #[t.v],VB (aM aD)]) h'):aE Tryz.prog 176 #[.agg #[g.v]] h K:=by
 refine agN g h K fun b1 b2 h2 dM dE f2 bP=> ?_
 have f2:=f2.aF
 have l2:b2<h2.size:=bP.head.lt
 refine jD (H.rd.no f2) _ fun h3 f3=>⟨_,rfl,bP.aB f3,fun e h4 f4 dN=> ?_,fun e h4 f4 dN=> ?_⟩
 ·have f4:=f4.cB (lo:=h.size) (hi:=h2.size) ⟨⟨dE,l2⟩,trivial⟩
  have e:=aY e
  have:=HK aC h4 (by unfold j7;rw[e];exact dD.nil _ _ _ _) ((f2.aA f3).aJ f4 (Nat.le_refl _))
  rw[e]at this
  exact this
 ·have f4:=f4.cB (lo:=h.size) (hi:=h2.size) ⟨⟨dE,l2⟩,trivial⟩
  have e:=aV e
  have:=HK g h4 (by unfold j7;rw[e];exact((H.no f2).no f3).iv f4 (.inl hy)) ((f2.aA f3).aJ f4 (Nat.le_refl _))
  rw[e]at this
  exact this
theorem LC{S:Nat->Prop}{h:Heap}{g:Sl}{aD:List (List Int)}(H:bF S h g aD)(p q:Int)(K:Value->Heap->Prop)(HK:∀t h',fM h' (Iv h.size h'.size) t (gS aD p q).1->Fr No h h'->K (.tuple #[.agg #[t.v],VB (gS aD p q).2]) h'):aE Tryz.prog 216 #[.agg #[g.v],VI p,VI q] h K:=by
 refine ahJ g p q h K fun b1 b2 h2 dM dE f2 bP=> ?_
 have f2:=f2.aF
 have l2:b2<h2.size:=bP.head.lt
 have l1:b1<h2.size:=bP.tail.head.lt
 have s2:=f2.size
 refine aS fL (fun k=>h2.size<=k) (fun _ h=>h) 2 (by omega) [VI p,VI q] rfl rfl fun t h3 n3 c3 o3 f3 m3 _=>⟨t,rfl,bP.aB f3,?_⟩
 have o3:aP (fun k=>h2.size<=k) h3 t [p,q]:=o3.fa
 have cF:=bP.aB f3
 have s3:=f3.size
 refine sx ((H.no f2).no f3) o3 _ fun h4 f4=>⟨_,rfl,cF.aB f4,fun e h5 f5 ic=> ?_,fun e=> ?_⟩
 all_goals simp only[List.all_cons,List.all_nil,Bool.and_true]at e
 ·have f5:=f5.cB (lo:=h.size) (hi:=h2.size) ⟨⟨dE,l2⟩,trivial⟩
  have e2:gS aD p q=([],false):=by unfold gS;rw[Bool.and_assoc,aY e];rfl
  have:=HK aC h5 (by rw[e2];exact dD.nil _ _ _ _) (((f2.aA f3).aA f4).aJ f5 (Nat.le_refl _))
  rw[e2]at this
  exact this
 ·have e:=aV e
  have e2:gS aD p q=(j7 (aD.set p.toNat (aD.getD p.toNat []++[q])),aM (aD.set p.toNat (aD.getD p.toNat []++[q]))):=by unfold gS;rw[Bool.and_assoc,e];rfl
  rw[Bool.and_eq_true,Bool.and_eq_true,aZ,aZ]at e
  obtain⟨hg,⟨RY,hp1⟩,hq⟩:=e
  have hlen:=aO hg
  have aiZ:=mu hg
  rw[e2]at HK
  have f24:=(f2.aA f3).aA f4
  have s4:=f4.size
  refine Fg (H.no f24) (by omega) _ fun u h6 o6 f6=>⟨u,rfl,(cF.aB f4).aB f6,o6.rd.bB RY (by omega),fun b3 h8 ia f8 fO=> ?_⟩
  have f8:=f8.aF
  have s6:=f6.size
  have s8:=f8.size
  have l3:b3<h8.size:=fO.head.lt
  have o8:=o6.no f8
  obtain⟨si,c1,c2,_⟩:=o8.inner RY (by omega)
  refine⟨si,c1,?_⟩
  refine aS fL (fun k=>h8.size<=k) (fun _ h=>h) 1 (by omega) [VI q] rfl rfl fun v h9 n9 c9 o9 f9 m9 _=>⟨v,rfl,fO.aB f9,dJ c1 f9 (fun h=>h),?_⟩
  have s9:=f9.size
  have o9:aP (fun k=>h8.size<=k) h9 v [q]:=o9.fa
  have UN:=(aT hg (List.getElem_mem (show p.toNat<aD.length by omega))).1
  have gh:=fO.aB f9
  have Wi:=o8.no f9
  have N7:bK h9 (fun k=>h4.size<=k) si (aD[p.toNat]'(by omega)):=(Ow.no c2 f9).mono fun k _ hk=>hk.1
  refine bQ fL N7 (fun k hk=>by omega) o9 (ff _) (by have h1:=aP.len N7.fa;have h2:=o9.len;simp at h2;omega) fun w dY U1 mV f10 d10=>⟨w,rfl,?_⟩
  have N8:Fr (Iv h4.size h6.size) h9 dY:=f10.mono fun k _ hk=>(c2.aG hk).1
  have dP:=gh.iv N8 ⟨.inr ia,.inl (by omega),.inl (by omega),trivial⟩
  have s10:=f10.size
  rw[<-List.map_append]at mV
  obtain⟨i11,w11,lV,f11⟩:=Wi.Nl RY (by omega) (dJ c1 f9 fun h=>h) f10 (F':=fun k=>h4.size<=k) mV (fun k _ hk=>hk.1) fun k hk=>(d10 k hk).imp id fun aI HZ=>by have:=HZ.2;omega
  have Oa:Fr (Iv h4.size h6.size) dY _:=Wi.RA f11
  have jm:=dP.iv Oa ⟨.inr ia,.inl (by omega),.inl (by omega),trivial⟩
  refine⟨dP,i11,w11,jm,fun ie Wj _=> ?_⟩
  subst Wj
  have s11:=f11.size
  refine N6 lV.gf (Nat.le_refl _) _ fun z iu Ob f12=>⟨z,_,rfl,jm.aB f12,fun sD f13 Oc=> ?_⟩
  have f13:=f13.cB (lo:=h.size) (hi:=h2.size) ⟨⟨dE,l2⟩,trivial⟩
  have s12:=f12.size
  have s13:=f13.size
  rw[aR (show p.toNat<aD.length by omega)]at HK
  refine HK z sD ((Ob.iv f13 (.inr (by omega))).mono fun k hk hF=>⟨by have:=hF.1;omega,hk⟩) ?_
  exact((((((f24.aA f6).aA f8).aA f9).aJ N8 (by omega)).aJ Oa (by omega)).aA f12).aJ f13 (Nat.le_refl _)
theorem oT{S:Nat->Prop}{h:Heap}{g:Sl}{aD:List (List Int)}(H:bF S h g aD)(p q:Int)(K:Value->Heap->Prop)(HK:∀t h',fM h' (Iv h.size h'.size) t (gS aD p q).1->Fr No h h'->K (.tuple #[.agg #[t.v],VB (gS aD p q).2]) h'):aE Tryz.prog 126 #[.agg #[g.v],VI p,VI q] h K:=by
 refine afM g p q h K fun b1 b2 h2 dM dE f2 bP=> ?_
 have f2:=f2.aF
 have l2:b2<h2.size:=bP.head.lt
 have l1:b1<h2.size:=bP.tail.head.lt
 have s2:=f2.size
 refine cR (H.no f2) p _ fun h3 f3=>⟨_,rfl,bP.aB f3,fun e h5 f5 ic=> ?_,fun e=> ?_⟩
 ·have f5:=f5.cB (lo:=h.size) (hi:=h2.size) ⟨⟨dE,l2⟩,trivial⟩
  have e2:gS aD p q=([],false):=by unfold gS;rw[aY e];rfl
  have:=HK aC h5 (by rw[e2];exact dD.nil _ _ _ _) ((f2.aA f3).aJ f5 (Nat.le_refl _))
  rw[e2]at this
  exact this
 have cF:=bP.aB f3
 have s3:=f3.size
 have e1:=aV e
 refine cR ((H.no f2).no f3) q _ fun h4 f4=>⟨_,rfl,cF.aB f4,fun e h5 f5 ic=> ?_,fun e=> ?_⟩
 ·have f5:=f5.cB (lo:=h.size) (hi:=h2.size) ⟨⟨dE,l2⟩,trivial⟩
  have e:=aY e
  have e2:gS aD p q=([],false):=by
   unfold gS
   rw[Bool.and_eq_true]at e1
   rw[e1.1,Bool.true_and]at e
   rw[e1.1,e1.2,e];rfl
  have:=HK aC h5 (by rw[e2];exact dD.nil _ _ _ _) (((f2.aA f3).aA f4).aJ f5 (Nat.le_refl _))
  rw[e2]at this
  exact this
 ·have e:=aV e
  have e2:gS aD p q=(j7 (aD.set p.toNat (aD.getD p.toNat []++[q])),aM (aD.set p.toNat (aD.getD p.toNat []++[q]))):=by
   unfold gS
   rw[Bool.and_eq_true]at e
   rw[e1,e.2];rfl
  rw[Bool.and_eq_true,aZ]at e e1
  obtain⟨hg,RY,hp1⟩:=e1
  have hlen:=aO hg
  have aiZ:=mu hg
  rw[e2]at HK
  have f24:=(f2.aA f3).aA f4
  have s4:=f4.size
  refine N4 (H.no f24) (by omega) _ fun u h6 o6 f6=>⟨u,rfl,(cF.aB f4).aB f6,o6.rd.bB RY (by omega),fun b3 h8 ia f8 fO=> ?_⟩
  have f8:=f8.aF
  have s6:=f6.size
  have s8:=f8.size
  have l3:b3<h8.size:=fO.head.lt
  have o8:=o6.no f8
  obtain⟨si,c1,c2,_⟩:=o8.inner RY (by omega)
  refine⟨si,c1,?_⟩
  refine aS fL (fun k=>h8.size<=k) (fun _ h=>h) 1 (by omega) [VI q] rfl rfl fun v h9 n9 c9 o9 f9 m9 _=>⟨v,rfl,fO.aB f9,dJ c1 f9 (fun h=>h),?_⟩
  have s9:=f9.size
  have o9:aP (fun k=>h8.size<=k) h9 v [q]:=o9.fa
  have UN:=(aT hg (List.getElem_mem (show p.toNat<aD.length by omega))).1
  have gh:=fO.aB f9
  have Wi:=o8.no f9
  have N7:bK h9 (fun k=>h4.size<=k) si (aD[p.toNat]'(by omega)):=(Ow.no c2 f9).mono fun k _ hk=>hk.1
  refine bQ fL N7 (fun k hk=>by omega) o9 (ff _) (by have h1:=aP.len N7.fa;have h2:=o9.len;simp at h2;omega) fun w dY U1 mV f10 d10=>⟨w,rfl,?_⟩
  have N8:Fr (Iv h4.size h6.size) h9 dY:=f10.mono fun k _ hk=>(c2.aG hk).1
  have dP:=gh.iv N8 ⟨.inr ia,.inl (by omega),.inl (by omega),trivial⟩
  have s10:=f10.size
  rw[<-List.map_append]at mV
  obtain⟨i11,w11,lV,f11⟩:=Wi.Nl RY (by omega) (dJ c1 f9 fun h=>h) f10 (F':=fun k=>h4.size<=k) mV (fun k _ hk=>hk.1) fun k hk=>(d10 k hk).imp id fun aI HZ=>by have:=HZ.2;omega
  have Oa:Fr (Iv h4.size h6.size) dY _:=Wi.RA f11
  have jm:=dP.iv Oa ⟨.inr ia,.inl (by omega),.inl (by omega),trivial⟩
  refine⟨dP,i11,w11,jm,fun ie Wj _=> ?_⟩
  subst Wj
  have s11:=f11.size
  refine Wg lV.gf (Nat.le_refl _) _ fun z iu Ob f12=>⟨z,_,rfl,jm.aB f12,fun sD f13 Oc=> ?_⟩
  have f13:=f13.cB (lo:=h.size) (hi:=h2.size) ⟨⟨dE,l2⟩,trivial⟩
  have s12:=f12.size
  have s13:=f13.size
  rw[aR (show p.toNat<aD.length by omega)]at HK
  refine HK z sD ((Ob.iv f13 (.inr (by omega))).mono fun k hk hF=>⟨by have:=hF.1;omega,hk⟩) ?_
  exact((((((f24.aA f6).aA f8).aA f9).aJ N8 (by omega)).aJ Oa (by omega)).aA f12).aJ f13 (Nat.le_refl _)
theorem Fh{k n:Int}(h0:0<=k)(hn:0<=n):Int.tmod k n=((k.toNat%n.toNat:Nat):Int):=by
 obtain⟨a,rfl⟩:=Int.eq_ofNat_of_zero_le h0
 obtain⟨b,rfl⟩:=Int.eq_ofNat_of_zero_le hn
 rfl
@[reducible] def tB:TypeId:=4
@[reducible] def tBs:TypeId:=195
theorem rBs:ni Tryz.prog tBs=some (tB,1,1,[VB false]):=by kernel_rfl
theorem ai1{S:Nat->Prop}{h:Heap}{s:Sl}{bs:List Bool}(H:cY S h 1 s (bs.map VB)){i:Int}(h0:0<=i)(h1:i<(bs.length:Int)):aQ h (s.at i 1)=some (VB (bs[i.toNat]'(by omega))):=by
 have:=cY.get H h0 (by simpa using h1)
 simpa using this
theorem ai2{S:Nat->Prop}{h:Heap}{s:Sl}{bs:List Bool}(H:cY S h 1 s (bs.map VB)):s.n=bs.length:=by have:=cY.len H;simp at this;exact this.symm
abbrev St:=List Int×Int
def cA(g:List (List Int))(w:St):Option St:=
 if(g.getD w.2.toNat []).length=0 then none
 else some (w.1.set w.2.toNat ((((w.1.getD w.2.toNat 0).toNat+1)%(g.getD w.2.toNat []).length:Nat):Int),(g.getD w.2.toNat []).getD (((w.1.getD w.2.toNat 0).toNat+1)%(g.getD w.2.toNat []).length) 0)
structure gv(g:List (List Int))(w:St):Prop where
 bE:aM g=true
 len:w.1.length=g.length
 lo:0<=w.2
 hi:w.2<(g.length:Int)
 QQ:∀i(h:i<w.1.length)(h':i<g.length),0<=w.1[i]/\w.1[i]<=max ((g[i].length:Int)-1) 0
theorem cG{g:List (List Int)}{rs:List Int}{p:Int}(h:eC g rs p=true):gv g (rs,p):=by
 unfold eC at h
 simp only[Bool.and_eq_true,decide_eq_true_eq]at h
 obtain⟨⟨⟨h1,h2⟩,h3⟩,h4⟩:=h
 rw[aZ]at h2
 refine⟨h1,h3,h2.1,by simp only;omega,fun i a b=> ?_⟩
 have:=List.all_eq_true.1 h4 (g[i],rs[i]) (by
  rw[show(g[i],rs[i])=(g.zip rs)[i]'(by simp only[List.length_zip];simp only at a;omega) by simp]
  exact List.getElem_mem _)
 unfold Ab at this
 rw[aZ]at this
 exact this
theorem nz{g:List (List Int)}{w:St}(W:gv g w)(hp:w.2.toNat<g.length):(g[w.2.toNat]).length=0->cA g w=none:=fun h=>by
 unfold cA
 rw[aR hp,if_pos h]
theorem aN{xs:List Int}{i:Nat}(h:i<xs.length):xs.getD i 0=xs[i]:=by simp[List.getD,List.getElem?_eq_getElem h]
theorem qT{g:List (List Int)}{w:St}(W:gv g w)(hp:w.2.toNat<g.length)(hr:w.2.toNat<w.1.length)(h:(g[w.2.toNat]).length≠0):
 cA g w=some (w.1.set w.2.toNat ((((w.1[w.2.toNat]).toNat+1)%(g[w.2.toNat]).length:Nat):Int),(g[w.2.toNat])[((w.1[w.2.toNat]).toNat+1)%(g[w.2.toNat]).length]'(Nat.mod_lt _ (by omega))):=by
 unfold cA
 rw[aR hp,if_neg h,aN hr,aN (Nat.mod_lt _ (by omega))]
theorem gv.step{g:List (List Int)}{w w':St}(W:gv g w)(h:cA g w=some w'):gv g w':=by
 have hp:w.2.toNat<g.length:=by have:=W.hi;have:=W.lo;omega
 have hr:w.2.toNat<w.1.length:=by rw[W.len];exact hp
 by_cases h0:(g[w.2.toNat]).length=0
 ·rw[nz W hp h0]at h;cases h
 ·rw[qT W hp hr h0]at h
  have hm:=Nat.mod_lt ((w.1[w.2.toNat]).toNat+1) (show 0<(g[w.2.toNat]).length by omega)
  simp only[Option.some.injEq]at h
  subst h
  have ab6:=(aT W.bE (List.getElem_mem hp)).2 _ (List.getElem_mem hm)
  refine⟨W.bE,by simpa using W.len,ab6.1,ab6.2,fun i a b=> ?_⟩
  simp only[List.length_set]at a
  simp only[List.getElem_set]
  split
  ·rename_i e
   subst e
   omega
  ·exact W.QQ i a b
theorem iy{S:Nat->Prop}{h:Heap}{s:Sl}{xs:List Int}(H:aP S h s xs)(p:Int)(hn:xs.length<=1000000000)(K:Value->Heap->Prop)(HK:∀t h',bK h' (Iv h.size h'.size) t xs->Fr No h h'->K (.agg #[t.v,VI p]) h'):aE Tryz.prog 110 #[.agg #[s.v,VI p]] h K:=by
 refine afl s p h K fun b1 b2 h2 dM dE f2 bP=> ?_
 have f2:=f2.aF
 have l2:b2<h2.size:=bP.head.lt
 have s2:=f2.size
 refine wx (H.no f2) hn _ fun t h3 o3 f3=>⟨t,rfl,bP.aB f3,fun h4 f4 dN=> ?_⟩
 have f4:=f4.cB (lo:=h.size) (hi:=h2.size) ⟨⟨dE,l2⟩,trivial⟩
 exact HK t h4 ((Ow.iv o3 f4 (.inr (Nat.le_refl _))).mono fun k hk hF=>⟨Nat.le_trans s2 hF.1,Nat.lt_of_lt_of_le hF.2 f4.size⟩) ((f2.aA f3).aJ f4 (Nat.le_refl _))
theorem Cv{F S:Nat->Prop}{b:Nat}{h:Heap}{g w:Sl}{aD:List (List Int)}{s:St}(G:bF S h g aD)(V:dB h b [w.v,VI s.2])(H:bK h F w s.1)(hS:∀k,S k->¬F k)(hFb:F b)(Hl:¬w.own b)(W:gv aD s)(K:Value->Heap->Prop)
 (HN:cA aD s=none->∀h',Fr No h h'->K (VB false) h') (HS:∀s',cA aD s=some s'->∀h',bK h' F w s'.1->dB h' b [w.v,VI s'.2]->Fr F h h'->K (VB true) h'):
 aE Tryz.prog 254 #[.agg #[g.v],VP b 0] h K:=by
 have hp:s.2.toNat<aD.length:=by have:=W.hi;have:=W.lo;omega
 have hr:s.2.toNat<s.1.length:=by rw[W.len];exact hp
 have wy:=W.lo
 refine ail g b w s.2 h K (.cons V (by simp) .nil) ⟨G.bB W.lo W.hi,fun b2 h1 dE f1 bG=> ?_⟩
 have f1:=f1.aF
 obtain⟨si,c1,c2⟩:=(G.no f1).get W.lo W.hi
 have H1:=Ow.no H f1
 have hn1:w.n=s.1.length:=aP.len H.fa
 refine⟨si,c1,fun e=> ?_,fun e=> ?_⟩
 ·simp only[decide_eq_true_eq]at e
  exact HN (nz W hp (by have:=c2.len;omega)) h1 f1
 ·simp only[decide_eq_false_iff_not]at e
  have h0:(aD[s.2.toNat]'hp).length≠0:=by have:=c2.len;omega
  have Ni:=qT W hp hr h0
  have hm:=Nat.mod_lt ((s.1[s.2.toNat]'hr).toNat+1) (show 0<(aD[s.2.toNat]'hp).length by omega)
  have Wk:=W.QQ _ hr hp
  have Lx:=(aT W.bE (List.getElem_mem hp)).1
  have hw:aL (s.1[s.2.toNat]'hr+1)=s.1[s.2.toNat]'hr+1:=aH _ (by omega) (by omega)
  have HA:Int.tmod (s.1[s.2.toNat]'hr+1) (si.n:Int)=((((s.1[s.2.toNat]'hr).toNat+1)%(aD[s.2.toNat]'hp).length:Nat):Int):=by
   rw[Fh (by omega) (by omega),c2.len]
   congr 2
   omega
  have R1:aP F h1 w s.1:=H1.fa
  refine⟨R1.bB wy (by omega),_,R1.get wy (by omega),by omega,R1.bB wy (by omega),?_⟩
  rw[hw,HA]
  obtain⟨w1,w2,w3⟩:=H1.eH wy (by omega) (VI ((((s.1[s.2.toNat]'hr).toNat+1)%(aD[s.2.toNat]'hp).length:Nat):Int))
  have oW:Fr F h1 _:=w3.mono fun k _ hk=>(H1.aG hk).1
  have hbl:=V.lt
  have bP:=bG.fr w3 fun p hp=>by
   simp only[List.mem_cons,List.not_mem_nil,or_false]at hp
   rcases hp with rfl|rfl
   ·exact fun hk=>by have:=(H.aG hk).2;simp only at this;omega
   ·exact Hl
  refine⟨w1,bP,fun h2 e2 _=> ?_⟩
  subst e2
  rw[<-List.map_set]at w2
  have R2:aP F _ w _:=w2.fa
  have N7:=aP.fr c2 oW hS
  have hv:aQ (cK h1 (w.at s.2 1) (VI ((((s.1[s.2.toNat]'hr).toNat+1)%(aD[s.2.toNat]'hp).length:Nat):Int))) (w.at s.2 1)=some (VI ((((s.1[s.2.toNat]'hr).toNat+1)%(aD[s.2.toNat]'hp).length:Nat):Int)):=by
   have:=R2.get (i:=s.2) wy (by simp;omega)
   simpa using this
  have hq:=N7.get (i:=((((s.1[s.2.toNat]'hr).toNat+1)%(aD[s.2.toNat]'hp).length:Nat):Int)) (by omega) (by omega)
  simp only[Int.toNat_natCast]at hq
  refine⟨R2.bB wy (by simp;omega),_,hv,N7.bB (by omega) (by omega),_,hq,fun h3 f3 cF=> ?_⟩
  have Wl:Fr F _ h3:=f3.mono fun k _ hk=>by simp only[In,List.mem_cons,List.not_mem_nil,or_false]at hk;subst hk;exact hFb
  refine HS _ Ni h3 ?_ ?_ ((f1.aB.trans oW).trans Wl)
  ·exact Ow.fr w2 f3 fun k hk aI=>by
    simp only[In,List.mem_cons,List.not_mem_nil,or_false]at aI
    subst aI
    exact Hl hk
  ·exact cF.tail.head
theorem Wm{a c b:Nat}{h:Heap}{g w:Sl}{aD:List (List Int)}{s:St}(G:bF (Iv 0 a) h g aD)(V:dB h b [w.v,VI s.2])(H:bK h (Iv a c) w s.1)(hb0:a<=b)(dM:b<c)(Hl:¬w.own b)(W:gv aD s)(K:Value->Heap->Prop)
 (HN:cA aD s=none->∀h',Fr No h h'->K (VB false) h') (HS:∀s',cA aD s=some s'->∀h',bK h' (Iv a c) w s'.1->dB h' b [w.v,VI s'.2]->Fr (Iv a c) h h'->K (VB true) h'):
 aE Tryz.prog 254 #[.agg #[g.v],VP b 0] h K:=
 Cv G V H (fun k hk aI=>by have:=hk.2;have:=aI.1;omega) ⟨hb0,dM⟩ Hl W K HN HS
theorem oX{S S':Nat->Prop}{h:Heap}{g w:Sl}{aD:List (List Int)}{s:St}(G:bF S h g aD)(H:aP S' h w s.1)(W:gv aD s)(K:Value->Heap->Prop)
 (HN:cA aD s=none->∀h',Fr No h h'->K (.tuple #[.agg #[w.v,VI s.2],VB false]) h') (HS:∀s',cA aD s=some s'->∀t h',bK h' (Iv h.size h'.size) t s'.1->Fr No h h'->K (.tuple #[.agg #[t.v,VI s'.2],VB true]) h'):
 aE Tryz.prog 177 #[.agg #[g.v],.agg #[w.v,VI s.2]] h K:=by
 have hp:s.2.toNat<aD.length:=by have:=W.hi;have:=W.lo;omega
 have hr:s.2.toNat<s.1.length:=by rw[W.len];exact hp
 have wy:=W.lo
 refine agP g w s.2 h K ⟨G.bB W.lo W.hi,fun b1 b2 b3 h3 dM dE ia f3 cF=> ?_⟩
 have f3:=f3.aF
 have l3:b3<h3.size:=cF.head.lt
 have l2:b2<h3.size:=cF.tail.head.lt
 have l1:b1<h3.size:=cF.tail.tail.head.lt
 have s3:=f3.size
 have G3:=G.low.no f3
 obtain⟨si,c1,c2⟩:=G3.get W.lo W.hi
 refine⟨si,c1,fun e h4 f4 dN=> ?_,fun e=> ?_⟩
 ·simp only[decide_eq_true_eq]at e
  have f4:=f4.cB (lo:=h.size) (hi:=h3.size) ⟨⟨ia,l3⟩,trivial⟩
  exact HN (nz W hp (by have:=c2.len;omega)) h4 (f3.aJ f4 (Nat.le_refl _))
 ·simp only[decide_eq_false_iff_not]at e
  have h0:(aD[s.2.toNat]'hp).length≠0:=by have:=c2.len;omega
  have Ni:=qT W hp hr h0
  have hm:=Nat.mod_lt ((s.1[s.2.toNat]'hr).toNat+1) (show 0<(aD[s.2.toNat]'hp).length by omega)
  have Wk:=W.QQ _ hr hp
  have Lx:=(aT W.bE (List.getElem_mem hp)).1
  have ab8:=aO W.bE
  have hw:aL (s.1[s.2.toNat]'hr+1)=s.1[s.2.toNat]'hr+1:=aH _ (by omega) (by omega)
  have HA:Int.tmod (s.1[s.2.toNat]'hr+1) (si.n:Int)=((((s.1[s.2.toNat]'hr).toNat+1)%(aD[s.2.toNat]'hp).length:Nat):Int):=by
   rw[Fh (by omega) (by omega),c2.len]
   congr 2
   omega
  refine lE (H.no f3) (by have:=W.len;omega) _ fun t h5 o5 f5=>⟨t,rfl,cF.aB f5,(H.bB wy (by omega)),fun b4 h7 Fi f7 j8=> ?_⟩
  have f7:=f7.aF
  have s5:=f5.size
  have s7:=f7.size
  have l4:b4<h7.size:=j8.head.lt
  have f07:=(f3.aA f5).aA f7
  have H7:=H.no f07
  have o7:=Ow.no o5 f7
  have hn7:t.n=s.1.length:=aP.len o7.fa
  refine⟨_,H7.get wy (by omega),by omega,o7.bB wy (by omega),?_⟩
  rw[hw,HA]
  obtain⟨w1,w2,w3⟩:=o7.eH wy (by omega) (VI ((((s.1[s.2.toNat]'hr).toNat+1)%(aD[s.2.toNat]'hp).length:Nat):Int))
  have oW:Fr (Iv h3.size h5.size) h7 _:=w3.mono fun k _ hk=>(o7.aG hk).1
  have fO:=j8.iv oW ⟨.inr Fi,.inl l3,.inl l2,.inl l1,trivial⟩
  refine⟨w1,fO,fun h8 e8 _=> ?_⟩
  subst e8
  rw[<-List.map_set]at w2
  have N7:=((c2.no f5).no f7).fr oW fun k hk aI=>by have:=aI.1;omega
  have hq:=N7.get (i:=((((s.1[s.2.toNat]'hr).toNat+1)%(aD[s.2.toNat]'hp).length:Nat):Int)) (by omega) (by omega)
  simp only[Int.toNat_natCast]at hq
  refine⟨N7.bB (by omega) (by omega),_,hq,fun dY f10 dP=> ?_⟩
  have s8:=oW.size
  have e1:Fr No h dY:=by
   refine(f07.aJ oW (by omega)).fresh f10 fun k hk=> ?_
   simp only[In,List.mem_cons,List.not_mem_nil,or_false]at hk
   rcases hk with rfl|rfl<;>omega
  refine HS _ Ni t dY ?_ e1
  have s10:=f10.size
  refine(Ow.fr w2 f10 fun k hk aI=> ?_).mono fun k _ hk=>⟨by have:=hk.1;omega,by have:=hk.2;omega⟩
  have:=(o7.aG hk).1
  have h1:=this.1
  have h2:=this.2
  simp only[In,List.mem_cons,List.not_mem_nil,or_false]at aI
  rcases aI with rfl|rfl<;>omega
def bH{τ:Type}(g:List (List Int))(test:τ->St->Bool×τ)(Bd:Int):Nat->Int->τ->St->Int×Bool
 |0,_,_,_=>(0,false)
 |f+1,n,t,s=>
  if Bd<=n then
   if(test t s).1 then(n,true)
   else match cA g s with
    |none=>(0,false)
    |some s'=>bH g test Bd f (n+1) (test t s).2 s'
  else match cA g s with
   |none=>(0,false)
   |some s'=>bH g test Bd f (n+1) t s'
theorem Fj{τ:Type}(test:τ->St->Bool×τ)(C:τ->Heap->Prop){S S' T:Nat->Prop}{h:Heap}{g w:Sl}{aD:List (List Int)}{s:St}(G:bF S h g aD)(H:aP S' h w s.1)(W:gv aD s)(Bd:Int)(so:Value)(t0:τ)(hC0:C t0 h)
 (hT:∀k,T k->k<h.size) (hST:∀k,S k->¬T k) (hC:∀t h1 h2,C t h1->Fr (fun k=>h.size<=k) h1 h2->C t h2)
 (hso:∀t x(s':St) h1(K:Value->Heap->Prop),h.size<=h1.size->C t h1->aP (fun k=>h.size<=k) h1 x s'.1->gv aD s'->(∀h2,C (test t s').2 h2->Fr T h1 h2->K (VB (test t s').1) h2)->fD Tryz.prog so [.agg #[x.v,VI s'.2]] h1 K)
 (K:Value->Heap->Prop) (HK:∀h',Fr T h h'->K (.tuple #[VI (bH aD test Bd 2001 0 t0 s).1,VB (bH aD test Bd 2001 0 t0 s).2]) h'):
 aE Tryz.prog 210 #[.agg #[g.v],.agg #[w.v,VI s.2],VI Bd,so] h K:=by
 refine v210 g w s.2 Bd so h K fun b1 b2 h2 dM dE f2 bP=> ?_
 generalize hR:bH aD test Bd 2001 0 t0 s=R at HK
 have f2:=f2.aF
 have l2:b2<h2.size:=bP.head.lt
 have l1:b1<h2.size:=bP.tail.head.lt
 have z2:=f2.size
 have ab8:=aO W.bE
 refine iy (H.no f2) s.2 (by have:=W.len;omega) _ fun u h3 o3 f3=>⟨u,s.2,rfl,bP.aB f3,fun b3 h5 ia f5 ic=> ?_⟩
 have f5:=f5.aF
 have l3:b3<h5.size:=ic.head.lt
 have s3:=f3.size
 have s5:=f5.size
 have tX:=(f2.aA f3).aA f5
 have hub:¬u.own b3:=fun hk=>by have:=(o3.aG hk).2;omega
 have o5:=Ow.no o3 f5
 have hfr:∀{h1 Rz:Heap},Fr No h1 Rz->Fr (fun k=>h.size<=k) h1 Rz:=fun f=>f.aB
 refine⟨fun n i x p h'=>∃(t:τ)(s':St),x=u/\p=s'.2/\0<=i/\i+n=2001/\C t h'/\bK h' (Iv h2.size h5.size) u s'.1/\gv aD s'/\Fr T h h'/\h5.size<=h'.size/\R=bH aD test Bd n i t s',⟨2001,t0,s,rfl,rfl,by omega,by omega,hC _ _ _ hC0 (hfr tX),o5.mono fun k _ hk=>⟨hk.1,Nat.lt_of_lt_of_le hk.2 s5⟩,W,tX.aB,Nat.le_refl _,hR.symm⟩,?_⟩
 rintro n i x p h6 ⟨t,s',rfl,rfl,i0,i1,c6,o6,W6,f6,z6,eq⟩ iN
 --a step,from ab9
 have stp:∀(t':τ)(h7:Heap)(m:Nat),n=m+1->C t' h7->bK h7 (Iv h2.size h5.size) x s'.1->Vars h7 [(b3,[x.v,VI s'.2]),(b2,[w.v,VI s.2]),(b1,[g.v])]->Fr T h h7->h5.size<=h7.size->
  (R=match cA aD s' with
   |none=>(0,false)
   |some s2=>bH aD test Bd m (i+1) t' s2)->
  ∀K2:Value->Heap->Prop,(∀h',Fr T h h'->Vars h' [(b3,[x.v,VI s'.2]),(b2,[w.v,VI s.2]),(b1,[g.v])]->R=(0,false)->K2 (VB false) h')->(∀s2 h',C t' h'->bK h' (Iv h2.size h5.size) x s2.1->gv aD s2->Vars h' [(b3,[x.v,VI s2.2]),(b2,[w.v,VI s.2]),(b1,[g.v])]->Fr T h h'->h5.size<=h'.size->R=bH aD test Bd m (i+1) t' s2->K2 (VB true) h')->
  aE Tryz.prog 254 #[.agg #[g.v],VP b3 0] h7 K2:=by
  intro t' h7 m hn c7 o7 j8 f7 z7 e7 K2 k1 k2
  have G7:bF (Iv 0 h2.size) h7 g aD:=(G.zY.fr f7 fun k hk aI=>hST k hk.1 aI).mono fun k hk=>⟨Nat.zero_le _,by have:=hk.2;omega⟩
  refine Wm G7 j8.head o7 (by omega) l3 hub W6 K2 (fun hs h8 f8=> ?_) fun s2 hs h8 o8 v8 f8=> ?_
  ·rw[hs]at e7
   exact k1 h8 (f7.trans f8.aB) (j8.aB f8) e7
  ·rw[hs]at e7
   refine k2 s2 h8 (hC _ _ _ c7 (f8.mono fun k _ hk=>Nat.le_trans z2 hk.1)) o8 (W6.step hs) (.cons v8 ?_ (j8.tail.iv f8 ⟨.inl l2,.inl l1,trivial⟩)) (f7.B3 f8 fun k hk=>Nat.le_trans z2 hk.1) (Nat.le_trans z7 f8.size) e7
   intro p hp
   simp only[List.mem_cons,List.not_mem_nil,or_false]at hp
   rcases hp with rfl|rfl<;>(simp only;omega)
 refine⟨fun e=>⟨fun e2=> ?_,fun e2=> ?_⟩,fun e=> ?_⟩
 ·simp only[decide_eq_true_eq]at e e2
  obtain⟨m,rfl⟩:∃m,n=m+1:=⟨n-1,by omega⟩
  rw[bH,if_pos e2]at eq
  refine hso t x s' h6 _ (by omega) c6 (o6.tK.mono fun k hk=>Nat.le_trans z2 hk.1) W6 fun h7 c7 f7=> ?_
  have j8:=iN.fr f7 fun p hp=>by
   simp only[List.mem_cons,List.not_mem_nil,or_false]at hp
   rcases hp with rfl|rfl|rfl<;>exact fun hk=>by have:=hT _ hk;simp only at this;omega
  refine⟨_,rfl,j8,fun e3=> ?_,fun e3=> ?_⟩
  ·rw[if_pos e3]at eq
   rw[eq]at HK
   exact HK h7 (f6.trans f7)
  ·rw[if_neg (by simp[e3])]at eq
   refine stp _ h7 m rfl c7 (Ow.fr o6 f7 fun k hk aI=>by have:=hT _ aI;have:=(o6.aG hk).1.1;omega) j8 (f6.trans f7) (Nat.le_trans z6 f7.size) eq _ (fun h8 f8 fO e8=> ?_) fun s2 h8 c8 o8 W8 fO f8 z8 e8=> ?_
   ·refine⟨x,s'.2,_,rfl,fO,fun _=> ?_,fun e=>by simp at e⟩
    rw[e8]at HK
    exact HK h8 f8
   ·refine⟨x,s2.2,_,rfl,fO,fun e=>by simp at e,fun _=> ?_⟩
    rw[aH (i+1) (by omega) (by omega)]
    exact⟨m,by omega,_,s2,rfl,rfl,by omega,by omega,c8,o8,W8,f8,z8,e8⟩
 ·simp only[decide_eq_true_eq]at e
  simp only[decide_eq_false_iff_not]at e2
  obtain⟨m,rfl⟩:∃m,n=m+1:=⟨n-1,by omega⟩
  rw[bH,if_neg e2]at eq
  refine stp _ h6 m rfl c6 o6 iN f6 z6 eq _ (fun h8 f8 fO e8=> ?_) fun s2 h8 c8 o8 W8 fO f8 z8 e8=> ?_
  ·refine⟨x,s'.2,_,rfl,fO,fun _=> ?_,fun e=>by simp at e⟩
   rw[e8]at HK
   exact HK h8 f8
  ·refine⟨x,s2.2,_,rfl,fO,fun e=>by simp at e,fun _=> ?_⟩
   rw[aH (i+1) (by omega) (by omega)]
   exact⟨m,by omega,_,s2,rfl,rfl,by omega,by omega,c8,o8,W8,f8,z8,e8⟩
 ·simp only[decide_eq_false_iff_not]at e
  obtain rfl:n=0:=by omega
  rw[eq]at HK
  exact HK h6 f6
def nA(g:List (List Int))(rs:List Int)(p q:Int):Int×Bool:=
 if eC g rs p&&(aM g&&iD 0 ((g.length:Int)-1) q)then bH g (fun(_:Unit) s=>(decide (s.2=q),())) 0 2001 0 () (rs,p)else(0,false)
theorem J6{S:Nat->Prop}{h:Heap}{s:Sl}{xs:List Int}(H:aP S h s xs){b:Nat}(hb:h.size<=b):aP (fun k=>k≠b) h s xs:=H.low.mono fun k hk=>by omega
theorem Wn{h:Heap}{b:Nat}{q:Int}(V:dB h b [VI q])(x:Sl)(p:Int)(K:Value->Heap->Prop)(HK:∀h',dB h' b [VI q]->Fr No h h'->K (VB (decide (p=q))) h'):fD Tryz.prog (.func (.func 211) #[] #[VP b 0]) [.agg #[x.v,VI p]] h K:=by
 refine ahA x p b q h K (.cons V (by simp) .nil) fun b2 h2 dE f2 bP=> ?_
 exact HK h2 bP.tail.head f2.aF
theorem LD{S S':Nat->Prop}{h:Heap}{g w:Sl}{aD:List (List Int)}{rs:List Int}(G:bF S h g aD)(H:aP S' h w rs)(p q:Int)(K:Value->Heap->Prop)(HK:∀h',Fr No h h'->K (.tuple #[VI (nA aD rs p q).1,VB (nA aD rs p q).2]) h'):aE Tryz.prog 164 #[.agg #[g.v],.agg #[w.v,VI p],VI q] h K:=by
 refine v164 g w p q h K fun b1 b2 b3 h3 dM dE ia f3 cF=> ?_
 have f3:=f3.aF
 refine oS (G.no f3) (H.no f3) p _ fun h4 f4=>⟨_,rfl,cF.aB f4,fun e=> ?_,fun e=> ?_⟩
 ·have e2:nA aD rs p q=(0,false):=by unfold nA;rw[if_neg (by rw[aY e];simp)]
  rw[e2]at HK
  exact HK h4 (f3.aA f4)
 have e:=aV e
 have dN:=cF.aB f4
 have iE:=f3.aA f4
 refine aS fL (fun k=>h4.size<=k) (fun _ h=>h) 1 (by omega) [VI q] rfl rfl fun t h5 n5 c5 o5 f5 m5 _=>⟨t,rfl,dN.aB f5,?_⟩
 have o5:aP (fun k=>h4.size<=k) h5 t [q]:=o5.fa
 have ic:=dN.aB f5
 have tX:=iE.aA f5
 refine sx (G.no tX) o5 _ fun h6 f6=>⟨_,rfl,ic.aB f6,fun e1=> ?_,fun e1=> ?_⟩
 all_goals simp only[List.all_cons,List.all_nil,Bool.and_true]at e1
 ·have e2:nA aD rs p q=(0,false):=by unfold nA;rw[if_neg (by rw[e,aY e1];simp)]
  rw[e2]at HK
  exact HK h6 (tX.aA f6)
 have e1:=aV e1
 have e2:nA aD rs p q=bH aD (fun(_:Unit) s=>(decide (s.2=q),())) 0 2001 0 () (rs,p):=by unfold nA;rw[if_pos (by rw[e,e1];rfl)]
 rw[e2]at HK
 have iN:=ic.aB f6
 have sE:=tX.aA f6
 have RZ:=iN.head.lt
 refine Fj (S:=S) (T:=No) (s:=(rs,p)) (fun(_:Unit)(s:St)=>(decide (s.2=q),())) (fun _ h'=>dB h' b3 [VI q]/\Fr No h6 h') (G.no sE) (H.no sE) (cG e) 0 _ () ⟨iN.head,Fr.refl _ _⟩ (fun _ h=>h.elim) (fun _ _ h=>h) (fun _ h1 h2 c f=>⟨c.1.fr f (by omega),c.2.fresh f fun k hk=>hk⟩) (fun t x s' h1 K z1 c1 r1 W1 HK=>Wn c1.1 x s'.2 K fun h2 v2 f2=>HK h2 ⟨v2,c1.2.trans f2⟩ f2) _ fun h7 f7=>⟨_,_,_,rfl,iN.aB f7,HK h7 (sE.aA f7)⟩
theorem xR{S S':Nat->Prop}{h:Heap}{g w:Sl}{aD:List (List Int)}{rs:List Int}(G:bF S h g aD)(H:aP S' h w rs)(p q:Int)(K:Value->Heap->Prop)(HK:∀h',Fr No h h'->K (.tuple #[VI (nA aD rs p q).1,VB (nA aD rs p q).2]) h'):aE Tryz.prog 135 #[.agg #[g.v],.agg #[w.v,VI p],VI q] h K:=by
 refine af1 g w p q h K fun b1 b2 h2 dM dE f2 bP=> ?_
 have f2:=f2.aF
 have l2:b2<h2.size:=bP.head.lt
 refine eK (G.no f2) (H.no f2) p _ fun h3 f3=>⟨_,rfl,bP.aB f3,fun e=> ?_,fun e=> ?_⟩
 ·have e2:nA aD rs p q=(0,false):=by unfold nA;rw[if_neg (by rw[aY e];simp)]
  rw[e2]at HK
  exact HK h3 (f2.aA f3)
 have e:=aV e
 have cF:=bP.aB f3
 have gj:=f2.aA f3
 refine cR (G.no gj) q _ fun h4 f4=>⟨_,rfl,cF.aB f4,fun e1=> ?_,fun e1=> ?_⟩
 ·have e2:nA aD rs p q=(0,false):=by unfold nA;rw[if_neg (by rw[e,aY e1];simp)]
  rw[e2]at HK
  exact HK h4 (gj.aA f4)
 have e1:=aV e1
 have e2:nA aD rs p q=bH aD (fun(_:Unit) s=>(decide (s.2=q),())) 0 2001 0 () (rs,p):=by unfold nA;rw[if_pos (by rw[e,e1];rfl)]
 rw[e2]at HK
 generalize hR:bH aD (fun(_:Unit)(s:St)=>(decide (s.2=q),())) 0 2001 0 () (rs,p)=R at HK
 have iE:=gj.aA f4
 have z4:=iE.size
 refine⟨fun n i x y h'=>∃s':St,y=s'.2/\0<=i/\i+n=2001/\aP (fun k=>k≠b2) h' x s'.1/\gv aD s'/\Fr No h h'/\h2.size<=h'.size/\R=bH aD (fun(_:Unit)(s:St)=>(decide (s.2=q),())) 0 n i () s',⟨2001,(rs,p),rfl,by omega,by omega,(J6 H dE).no iE,cG e,iE,by have:=f3.size;have:=f4.size;omega,hR.symm⟩,?_⟩
 rintro n i x y h5 ⟨s',rfl,i0,i1,r5,W5,f5,z5,eq⟩ ic
 refine⟨fun e3=>⟨fun e4=> ?_,fun e4=> ?_⟩,fun e3=> ?_⟩
 ·simp only[decide_eq_true_eq]at e3
  obtain⟨m,rfl⟩:∃m,n=m+1:=⟨n-1,by omega⟩
  rw[bH,if_pos i0]at eq
  simp only[e4,if_true]at eq
  rw[eq]at HK
  exact HK h5 f5
 ·simp only[decide_eq_true_eq]at e3
  obtain⟨m,rfl⟩:∃m,n=m+1:=⟨n-1,by omega⟩
  rw[bH,if_pos i0]at eq
  simp only[e4]at eq
  refine oX (G.no f5) r5 W5 _ (fun hs h6 f6=>⟨x,s'.2,false,rfl,ic.aB f6,fun _ b3 h8 ia f8 fO=> ?_,fun e=>by simp at e⟩) fun s2 hs t h6 o6 f6=>⟨t,s2.2,true,rfl,ic.aB f6,fun e=>by simp at e,fun _ b3 h9 ia f9 gh=> ?_⟩
  ·rw[hs]at eq
   simp only[Bool.false_eq_true,if_false]at eq
   rw[eq]at HK
   exact HK h8 ((f5.aA f6).aA f8.aF)
  ·rw[hs]at eq
   simp only[Bool.false_eq_true,if_false]at eq
   rw[aH (i+1) (by omega) (by omega)]
   refine⟨m,by omega,s2,rfl,by omega,by omega,?_,W5.step hs,(f5.aA f6).fresh f9 (fun k hk=> ?_),by have:=f6.size;have:=f9.size;omega,eq⟩
   ·refine(aP.fr (o6.tK) f9 fun k hk aI=> ?_).mono fun k hk=> ?_
    ·simp only[In,List.mem_cons,List.not_mem_nil,or_false]at aI
     have:=hk.1
     omega
    ·have:=hk.1
     omega
   ·simp only[In,List.mem_cons,List.not_mem_nil,or_false]at hk
    omega
 ·simp only[decide_eq_false_iff_not]at e3
  obtain rfl:n=0:=by omega
  rw[eq]at HK
  exact HK h5 f5
theorem xS{S S':Nat->Prop}{h:Heap}{a b:Sl}{xs ys:List Int}(H:aP S h a xs)(H':aP S' h b ys)(p q:Int):pO Tryz.prog 226 #[.agg #[a.v,VI p],.agg #[b.v,VI q]] h (VB (decide (p=q/\xs=ys))):=by
 intro K HK
 refine v226 a p b q h K ⟨fun e b1 b2 h2 dM dE f2 bP=> ?_,fun e=>⟨fun e1 b1 b2 h2 dM dE f2 bP=> ?_,fun e1 b1 b2 h2 dM dE f2 bP=> ?_⟩⟩
 ·have e:=aY e
  simp only[decide_eq_false_iff_not]at e
  rw[decide_eq_false (fun e2=>e e2.1)]at HK
  exact HK _ f2.aF
 ·have e1:=aY e1
  rw[H.len,H'.len]at e1
  simp only[decide_eq_false_iff_not]at e1
  rw[decide_eq_false (fun e2=>e1 (by rw[e2.2]))]at HK
  exact HK _ f2.aF
 ·have e:=aV e
  simp only[decide_eq_true_eq]at e
  have e1:=aV e1
  rw[H.len,H'.len]at e1
  have hl:xs.length=ys.length:=by simp at e1;omega
  have f2:=f2.aF
  have H2:=H.no f2
  have H2':=H'.no f2
  have HK2:=HK _ f2
  have e2:decide (p=q/\xs=ys)=decide (xs=ys):=by simp[e]
  rw[e2]at HK2
  refine⟨fun n i h'=>h'=h2/\0<=i/\i+n=(xs.length:Int)/\decide (xs=ys)=decide (xs.drop i.toNat=ys.drop i.toNat),⟨xs.length,rfl,by omega,by omega,by simp⟩,?_⟩
  rintro n i hh ⟨rfl,h0,h1,h3⟩ hL
  refine⟨fun e=> ?_,fun e=> ?_⟩
  ·have hi:=H2.lt e
   have gH:i<(ys.length:Int):=by omega
   refine⟨H2.bB h0 hi,_,H2.get h0 hi,H2'.bB h0 gH,_,H2'.get h0 gH,fun e=> ?_,fun e=> ?_⟩
   ·rw[drop_cons xs h0 hi,drop_cons ys h0 gH]at h3
    have e3:=aY e
    simp only[decide_eq_false_iff_not]at e3
    rw[h3,decide_eq_false (fun e4=>e3 (List.cons.inj e4).1)]at HK2
    exact HK2
   ·rw[drop_cons xs h0 hi,drop_cons ys h0 gH]at h3
    have e3:=aV e
    simp only[decide_eq_true_eq]at e3
    rw[H2.succ h0 hi]
    refine⟨n-1,by omega,rfl,by omega,by omega,h3.trans ?_⟩
    rw[e3]
    simp
  ·have hi:=H2.ge e
   rw[List.drop_of_length_le (by omega),List.drop_of_length_le (by omega)]at h3
   rw[h3]at HK2
   exact HK2
def jM(rs:List Int)(p:Int)(_:Unit)(s:St):Bool×Unit:=(decide (p=s.2/\rs=s.1),())
theorem LF{S S':Nat->Prop}{h:Heap}{g w:Sl}{aD:List (List Int)}{rs:List Int}(G:bF S h g aD)(H:aP S' h w rs)(p:Int)(W:gv aD (rs,p))(K:Value->Heap->Prop)(HK:∀h',Fr No h h'->K (VI (bH aD (jM rs p) 1 2001 0 () (rs,p)).1) h'):aE Tryz.prog 227 #[.agg #[g.v],.agg #[w.v,VI p],VI 2000] h K:=by
 refine v227 g w p 2000 h K fun b1 b2 b3 h4 dM dE ia f4 dN=> ?_
 have f4:=f4.aF
 have l3:b3<h4.size:=dN.head.lt
 have z4:=f4.size
 have hR0:bH aD (jM rs p) 1 2001 0 () (rs,p)=match cA aD (rs,p)with
  |none=>(0,false)
  |some s'=>bH aD (jM rs p) 1 2000 1 () s':=by rw[bH,if_neg (by omega)];rfl
 generalize hR:bH aD (jM rs p) 1 2001 0 () (rs,p)=R at HK
 rw[hR]at hR0
 refine⟨fun n i x y h'=>∃s':St,y=s'.2/\1<=i/\i+n=2001/\aP (fun k=>k≠b3) h' x s'.1/\gv aD s'/\Fr No h h'/\h4.size<=h'.size/\R=(match cA aD s' with
  |none=>(0,false)
  |some s2=>bH aD (jM rs p) 1 n i () s2),⟨2000,(rs,p),rfl,by omega,by omega,(J6 H ia).no f4,W,f4,Nat.le_refl _,hR0⟩,?_⟩
 rintro n i x y h5 ⟨s',rfl,i0,i1,r5,W5,f5,z5,eq⟩ ic
 refine⟨fun e3=> ?_,fun e3=> ?_⟩
 ·simp only[decide_eq_true_eq]at e3
  obtain⟨m,rfl⟩:∃m,n=m+1:=⟨n-1,by omega⟩
  refine oX (G.no f5) r5 W5 _ (fun hs h6 f6=>⟨x,s'.2,false,rfl,ic.aB f6,fun _ b4 h8 Fi f8 fO=> ?_,fun e=>by simp at e⟩) fun s2 hs t h6 o6 f6=>⟨t,s2.2,true,rfl,ic.aB f6,fun e=>by simp at e,fun _ b4 h9 Fi f9 gh=> ?_⟩
  ·rw[hs]at eq
   simp only at eq
   rw[eq]at HK
   exact HK h8 ((f5.aA f6).aA f8.aF)
  ·rw[hs]at eq
   simp only at eq
   rw[bH,if_pos i0]at eq
   have z6:=f6.size
   have z9:=f9.size
   have ai4:∀k,In [b3] k->h.size<=k:=fun k hk=>by simp only[In,List.mem_cons,List.not_mem_nil,or_false]at hk;omega
   have MG:=(f5.aA f6).fresh f9 ai4
   have r9:aP (fun k=>k≠b3) h9 t s2.1:=(aP.fr (o6.tK) f9 fun k hk aI=>by
    simp only[In,List.mem_cons,List.not_mem_nil,or_false]at aI
    have:=hk.1
    omega).mono fun k hk=>by have:=hk.1;omega
   refine xS r9 (H.no MG) s2.2 p _ fun dY f10=>⟨_,rfl,gh.aB f10,fun e=> ?_,fun e=> ?_⟩
   ·have e1:(jM rs p () s2).1=true:=by
     simp only[decide_eq_true_eq]at e
     simp[jM,e.1,e.2]
    rw[if_pos e1]at eq
    rw[eq]at HK
    exact HK dY (MG.aA f10)
   ·have e1:¬(jM rs p () s2).1=true:=by
     simp only[decide_eq_false_iff_not]at e
     simp only[jM,decide_eq_true_eq]
     exact fun h=>e ⟨h.1.symm,h.2.symm⟩
    rw[if_neg e1]at eq
    rw[aH (i+1) (by omega) (by omega)]
    exact⟨m,by omega,s2,rfl,by omega,by omega,r9.no f10,W5.step hs,MG.aA f10,by have:=f10.size;omega,eq⟩
 ·simp only[decide_eq_false_iff_not]at e3
  obtain rfl:n=0:=by omega
  have:R=(0,false):=by
   rw[eq]
   split
   ·rfl
   ·rw[bH]
  rw[this]at HK
  exact HK h5 f5
def runT{τ:Type}(g:List (List Int))(wz:τ->St->St->τ):Nat->τ->St->Option (τ×St)
 |0,t,s=>some (t,s)
 |n+1,t,s=>match cA g s with
  |none=>none
  |some s'=>runT g wz n (wz t s s') s'
theorem Be{τ:Type}{g:List (List Int)}{wz:τ->St->St->τ}{s'':St}:∀(n:Nat)(t:τ)(s:St)(t':τ)(s':St),runT g wz n t s=some (t',s')->cA g s'=some s''->runT g wz (n+1) t s=some (wz t' s' s'',s'')
 |0,t,s,t',s',h,hs=>by
  simp only[runT,Option.some.injEq,Prod.mk.injEq]at h
  obtain⟨rfl,rfl⟩:=h
  rw[runT,hs]
  rfl
 |n+1,t,s,t',s',h,hs=>by
  rw[runT]at h
  rw[runT]
  split at h
  ·cases h
  ·rename_i s2 h2
   exact Be n _ _ _ _ h hs
theorem Od{τ:Type}(wz:τ->St->St->τ)(C:Nat->τ->Heap->Prop)(T0:Nat->Prop){F S:Nat->Prop}{b:Nat}{h:Heap}{g w:Sl}{aD:List (List Int)}{s0:St}(G:bF S h g aD)(V:dB h b [w.v,VI s0.2])(H:bK h F w s0.1)(hS:∀k,S k->¬F k/\¬T0 k)(hFb:F b)(Hl:¬w.own b)(W:gv aD s0)(n:Int)(hn0:0<=n)(hn1:n<=1000000)(wt:Value)(t0:τ)
 (hF:∀k,F k->k<h.size) (hT0:∀k,T0 k->¬F k/\k<h.size) (hC0:∀N,h.size<=N->C N t0 h) (hC:∀N t h1 h2(U:Nat->Prop),C N t h1->Fr U h1 h2->(∀k,U k->¬T0 k/\k<N)->C N t h2)
 (hw:∀N t s s' h1(K:Value->Heap->Prop),h.size<=N->N<=h1.size->C N t h1->dB h1 b [w.v,VI s'.2]->bK h1 F w s'.1->gv aD s->cA aD s=some s'->(∃m:Nat,(m:Int)<n/\runT aD wz m t0 s0=some (t,s))->(∀h2 v,C N (wz t s s') h2->Fr (fun k=>T0 k\/N<=k) h1 h2->K v h2)->fD Tryz.prog wt [VI s.2] h1 K)
 (K:Value->Heap->Prop)
 (HN:runT aD wz n.toNat t0 s0=none->∀N t' h' p,h.size<=N->C N t' h'->dB h' b [w.v,VI p]->Fr (fun k=>F k\/T0 k) h h'->K (VB false) h')
 (HS:∀t' s',runT aD wz n.toNat t0 s0=some (t',s')->∀N h',h.size<=N->C N t' h'->bK h' F w s'.1->gv aD s'->dB h' b [w.v,VI s'.2]->Fr (fun k=>F k\/T0 k) h h'->K (VB true) h'):
 aE Tryz.prog 206 #[.agg #[g.v],VP b 0,VI n,wt] h K:=by
 have hbl:=V.lt
 refine v206 g b w s0.2 n wt h K (.cons V (by simp) .nil) fun b2 h1 dE f1 bG=> ?_
 have f1:=f1.aF
 have l2:b2<h1.size:=bG.head.lt
 have z1:=f1.size
 have J7:∀k,F k->¬T0 k:=fun k hk aI=>(hT0 k aI).1 hk
 refine⟨fun m i x p h'=>∃(t:τ)(s':St),x=w/\p=s'.2/\0<=i/\i+m=n/\C h1.size t h'/\bK h' F w s'.1/\gv aD s'/\Fr (fun k=>F k\/T0 k) h h'/\h1.size<=h'.size/\runT aD wz i.toNat t0 s0=some (t,s')/\runT aD wz n.toNat t0 s0=runT aD wz m t s',⟨n.toNat,t0,s0,rfl,rfl,by omega,by omega,hC _ _ _ _ _ (hC0 _ z1) f1 (fun k hk=>hk.elim),Ow.no H f1,W,f1.aB,Nat.le_refl _,rfl,rfl⟩,?_⟩
 rintro m i x p h2 ⟨t,s',rfl,rfl,i0,i1,c2,o2,W2,f2,z2,hm,eq⟩ bP
 refine⟨fun e=> ?_,fun e=> ?_⟩
 ·simp only[decide_eq_true_eq]at e
  obtain⟨m,rfl⟩:∃q,m=q+1:=⟨m-1,by omega⟩
  rw[runT]at eq
  have G2:bF S h2 g aD:=G.fr f2 fun k hk aI=>by
   rcases aI with aI|aI
   ·exact(hS k hk).1 aI
   ·exact(hS k hk).2 aI
  refine Cv G2 bP.tail.head o2 (fun k hk=>(hS k hk).1) hFb Hl W2 _ (fun hs h3 f3=> ?_) fun s3 hs h3 o3 v3 f3=> ?_
  ·rw[hs]at eq
   have cF:=bP.aB f3
   exact⟨x,s'.2,_,rfl,cF,fun _=>HN eq _ _ h3 _ z1 (hC _ _ _ _ _ c2 f3 fun k hk=>hk.elim) cF.tail.head (f2.trans f3.aB),fun e=>by simp at e⟩
  ·rw[hs]at eq
   have cF:Vars h3 [(b2,[g.v]),(b,[x.v,VI s3.2])]:= .cons (bP.head.fr f3 fun hk=>by have:=hF _ hk;omega) (fun p hp=>by simp only[List.mem_cons,List.not_mem_nil,or_false]at hp;subst hp;simp only;omega) (.cons v3 (by simp) .nil)
   have c3:=hC _ _ _ _ _ c2 f3 fun k hk=>⟨J7 k hk,by have:=hF k hk;omega⟩
   have z3:=f3.size
   refine⟨x,s3.2,_,rfl,cF,fun e=>by simp at e,fun _=> ?_⟩
   refine hw h1.size t s' s3 h3 _ z1 (by omega) c3 v3 o3 W2 hs ⟨i.toNat,by omega,hm⟩ fun h4 v c4 f4=> ?_
   have dN:Vars h4 [(b2,[g.v]),(b,[x.v,VI s3.2])]:=cF.fr f4 fun p hp hk=>by
    simp only[List.mem_cons,List.not_mem_nil,or_false]at hp
    rcases hp with rfl|rfl<;>simp only at hk
    ·rcases hk with hk|hk
     ·have:=(hT0 _ hk).2;omega
     ·omega
    ·rcases hk with hk|hk
     ·exact(hT0 _ hk).1 hFb
     ·have:=hF _ hFb;omega
   rw[aH (i+1) (by omega) (by omega)]
   refine⟨dN,m,by omega,_,s3,rfl,rfl,by omega,by omega,c4,Ow.fr o3 f4 fun k hk aI=> ?_,W2.step hs,?_,by have:=f4.size;omega,by rw[fk i0];exact Be _ _ _ _ _ hm hs,eq⟩
   ·have h5:=(o3.aG hk).1
    rcases aI with aI|aI
    ·exact(hT0 _ aI).1 h5
    ·have:=hF _ h5;omega
   ·refine⟨by have:=f2.size;have:=f4.size;omega,fun k hk ht=> ?_⟩
    rw[f4.same k (by have:=f2.size;omega) fun h=>by
     rcases h with h|h
     ·exact ht (.inr h)
     ·omega]
    rw[f3.same k (by have:=f2.size;omega) fun h=>ht (.inl h)]
    exact f2.same k hk ht
 ·simp only[decide_eq_false_iff_not]at e
  obtain rfl:m=0:=by omega
  rw[runT]at eq
  exact HS t s' eq h1.size h2 z1 c2 o2 W2 bP.tail.head f2
theorem Cw{S S':Nat->Prop}{h:Heap}{g s:Sl}{aD:List (List Int)}{rs:List Int}(G:bF S h g aD)(H:aP S' h s rs)(p n most:Int):pO Tryz.prog 205 #[.agg #[g.v],.agg #[s.v,VI p],VI n,VI most] h (VB (eC aD rs p&&iD 0 most n)):=by
 intro K HK
 refine ahr g s p n most h K fun b1 b2 h2 dM dE f2 bP=> ?_
 have f2:=f2.aF
 refine oS (G.no f2) (H.no f2) p _ fun h3 f3=>⟨_,rfl,bP.aB f3,fun e=> ?_,fun e=> ?_⟩
 ·rw[e,Bool.true_and]at HK
  exact eO _ _ _ _ _ ⟨_,rfl,bP.aB f3,HK _ (f2.aA f3)⟩
 ·rw[e,Bool.false_and]at HK
  exact HK _ (f2.aA f3)
theorem Bf{S S':Nat->Prop}{h:Heap}{g s:Sl}{aD:List (List Int)}{rs:List Int}(G:bF S h g aD)(H:aP S' h s rs)(p n:Int):pO Tryz.prog 178 #[.agg #[g.v],.agg #[s.v,VI p],VI n] h (VB (eC aD rs p&&iD 0 2000 n)):=by
 intro K HK
 refine agR g s p n h K fun b1 b2 h2 dM dE f2 bP=> ?_
 have f2:=f2.aF
 refine eK (G.no f2) (H.no f2) p _ fun h3 f3=>⟨_,rfl,bP.aB f3,fun e=> ?_,fun e=> ?_⟩
 ·rw[e,Bool.true_and]at HK
  exact cX _ _ _ _ _ ⟨_,rfl,bP.aB f3,HK _ (f2.aA f3)⟩
 ·rw[e,Bool.false_and]at HK
  exact HK _ (f2.aA f3)
def dG(g:List (List Int))(rs:List Int)(p n:Int):St×Bool:=
 if eC g rs p&&iD 0 2000 n then match runT g (fun(_:Unit) _ _=>()) n.toNat () (rs,p)with
  |none=>(([],0),false)
  |some (_,s)=>(s,true)
 else(([],0),false)
theorem J8{τ:Type}{g:List (List Int)}{wz:τ->St->St->τ}:∀(n:Nat)(t:τ)(s:St),gv g s->∀t' s',runT g wz n t s=some (t',s')->gv g s'
 |0,t,s,W,t',s',h=>by
  simp only[runT,Option.some.injEq,Prod.mk.injEq]at h
  rw[<-h.2];exact W
 |n+1,t,s,W,t',s',h=>by
  rw[runT]at h
  split at h
  ·cases h
  ·rename_i s2 hs
   exact J8 n _ s2 (W.step hs) t' s' h
theorem J9{S S':Nat->Prop}{h:Heap}{g w:Sl}{aD:List (List Int)}{rs:List Int}(G:bF S h g aD)(H:aP S' h w rs)(p n:Int)(K:Value->Heap->Prop)(HK:∀t h',bK h' (Iv h.size h'.size) t (dG aD rs p n).1.1->Fr No h h'->K (.tuple #[.agg #[t.v,VI (dG aD rs p n).1.2],VB (dG aD rs p n).2]) h'):aE Tryz.prog 161 #[.agg #[g.v],.agg #[w.v,VI p],VI n] h K:=by
 refine agt g w p n h K fun b1 b2 b3 h3 dM dE ia f3 cF=> ?_
 have f3:=f3.aF
 have l3:b3<h3.size:=cF.head.lt
 have l2:b2<h3.size:=cF.tail.head.lt
 have l1:b1<h3.size:=cF.tail.tail.head.lt
 have z3:=f3.size
 refine Cw (G.no f3) (H.no f3) p n 2000 _ fun h4 f4=>⟨_,rfl,cF.aB f4,fun e h5 f5 ic=> ?_,fun e=> ?_⟩
 ·have e2:dG aD rs p n=(([],0),false):=by unfold dG;rw[if_neg (by rw[aY e];simp)]
  have f5:=f5.cB (lo:=h.size) (hi:=h3.size) ⟨⟨ia,l3⟩,trivial⟩
  have:=HK aC h5 (by rw[e2];exact Ow.nil _ _ _ _) ((f3.aA f4).aJ f5 (Nat.le_refl _))
  rw[e2]at this
  exact this
 have e:=aV e
 have e2:dG aD rs p n=match runT aD (fun(_:Unit) _ _=>()) n.toNat () (rs,p)with
  |none=>(([],0),false)
  |some (_,s)=>(s,true):=by unfold dG;rw[if_pos e]
 rw[Bool.and_eq_true,aZ]at e
 have W:=cG e.1
 have R0:=aO W.bE
 have dN:=cF.aB f4
 have z4:=f4.size
 have iE:=f3.aA f4
 refine iy (H.no iE) p (by have:=W.len;simp only at this;omega) _ fun u h6 o6 f6=>⟨u,p,rfl,dN.aB f6,fun b4 h8 Fi f8 fO=> ?_⟩
 have f8:=f8.aF
 have z6:=f6.size
 have z8:=f8.size
 have l4:b4<h8.size:=fO.head.lt
 have f48:=f6.aA f8
 have G8:bF (Iv 0 h4.size) h8 g aD:=(G.no iE).gf.no f48
 have o8:bK h8 (Iv h4.size h8.size) u rs:=(Ow.no o6 f8).mono fun k _ hk=>⟨hk.1,by have:=hk.2;omega⟩
 have hub:¬u.own b4:=fun hk=>by have:=(o6.aG hk).2;omega
 have fT:∀{x y:Heap},Fr (fun k=>Iv h4.size h8.size k\/False) x y->Fr (Iv h4.size h8.size) x y:=fun f=>f.mono fun k _ hk=>by rcases hk with hk|hk;exact hk;exact hk.elim
 refine Od (s0:=(rs,p)) (fun(_:Unit) _ _=>()) (fun _ _ _=>True) (fun _=>False) G8 fO.head o8 (fun k hk=>⟨fun aI=>by have:=hk.2;have:=aI.1;omega,fun h=>h⟩) ⟨by omega,l4⟩ hub W n (by omega) (by omega) _ () (fun k hk=>hk.2) (fun k hk=>hk.elim) (fun _ _=>trivial) (fun _ _ _ _ _ _ _ _=>trivial) (fun N t s s' h1 K hN hN2 _ V O W hs _ HK=> ?_) _ (fun hr N t h9 q hN _ v9 f9=> ?_) fun t' s' hr N h9 hN _ o9 W9 v9 f9=> ?_
 ·refine ahu s.2 h1 K ?_
  exact HK h1 _ trivial (Fr.refl _ _)
 ·have f9:=fT f9
  have gh:Vars h9 [(b4,[u.v,VI q]),(b3,[aC.v,VI 0]),(b2,[w.v,VI p]),(b1,[g.v])]:= .cons v9 fO.ne (fO.tail.iv f9 ⟨.inl (by omega),.inl (by omega),.inl (by omega),trivial⟩)
  refine⟨u,q,_,rfl,gh,fun _ dY f10 dP=> ?_,fun e=>by simp at e⟩
  have f10:=f10.cB (lo:=h.size) (hi:=h3.size) ⟨⟨ia,l3⟩,trivial⟩
  rw[hr]at e2
  have:=HK aC dY (by rw[e2];exact Ow.nil _ _ _ _) (((iE.aA f48).aJ f9 (by omega)).aJ f10 (Nat.le_refl _))
  rw[e2]at this
  exact this
 ·have f9:=fT f9
  have gh:Vars h9 [(b4,[u.v,VI s'.2]),(b3,[aC.v,VI 0]),(b2,[w.v,VI p]),(b1,[g.v])]:= .cons v9 fO.ne (fO.tail.iv f9 ⟨.inl (by omega),.inl (by omega),.inl (by omega),trivial⟩)
  refine⟨u,s'.2,_,rfl,gh,fun e=>by simp at e,fun _ dY f10 dP=> ?_⟩
  have f10:=f10.cB (lo:=h.size) (hi:=h3.size) ⟨⟨ia,l3⟩,trivial⟩
  rw[hr]at e2
  have z9:=f9.size
  have Ad:=f10.size
  have:=HK u dY (by rw[e2];exact(Ow.iv o9 f10 (.inr (by omega))).mono fun k _ hk=>⟨by have:=hk.1;omega,by have:=hk.2;omega⟩) (((iE.aA f48).aJ f9 (by omega)).aJ f10 (Nat.le_refl _))
  rw[e2]at this
  exact this
theorem Oe{S S':Nat->Prop}{h:Heap}{g w:Sl}{aD:List (List Int)}{rs:List Int}(G:bF S h g aD)(H:aP S' h w rs)(p:Int)(K:Value->Heap->Prop)(HK:∀t h',bK h' (Iv h.size h'.size) t (dG aD rs p 1).1.1->Fr No h h'->K (.tuple #[.agg #[t.v,VI (dG aD rs p 1).1.2],VB (dG aD rs p 1).2]) h'):aE Tryz.prog 156 #[.agg #[g.v],.agg #[w.v,VI p]] h K:=by
 refine agm g w p h K fun b1 b2 b3 h3 dM dE ia f3 cF=> ?_
 have f3:=f3.aF
 have l3:b3<h3.size:=cF.head.lt
 have z3:=f3.size
 refine J9 (G.no f3) (H.no f3) p 1 _ fun t h4 o4 f4=>⟨t,_,_,rfl,cF.aB f4,fun h5 f5 ic=> ?_⟩
 have f5:=f5.cB (lo:=h.size) (hi:=h3.size) ⟨⟨ia,l3⟩,trivial⟩
 have z5:=f5.size
 exact HK t h5 ((Ow.iv o4 f5 (.inr (Nat.le_refl _))).mono fun k _ hk=>⟨by have:=hk.1;omega,by have:=hk.2;omega⟩) ((f3.aA f4).aJ f5 (Nat.le_refl _))
theorem Ae{S S':Nat->Prop}{h:Heap}{g w:Sl}{aD:List (List Int)}{rs:List Int}(G:bF S h g aD)(H:aP S' h w rs)(p:Int)(K:Value->Heap->Prop)(HK:∀t h',bK h' (Iv h.size h'.size) t (dG aD rs p 1).1.1->Fr No h h'->K (.tuple #[.agg #[t.v,VI (dG aD rs p 1).1.2],VB (dG aD rs p 1).2]) h'):aE Tryz.prog 128 #[.agg #[g.v],.agg #[w.v,VI p]] h K:=by
 refine afP g w p h K fun b1 b2 b3 h3 dM dE ia f3 cF=> ?_
 have f3:=f3.aF
 have l3:b3<h3.size:=cF.head.lt
 have z3:=f3.size
 refine eK (G.no f3) (H.no f3) p _ fun h4 f4=>⟨_,rfl,cF.aB f4,fun e h5 f5 ic=> ?_,fun e=> ?_⟩
 ·have e2:dG aD rs p 1=(([],0),false):=by unfold dG;rw[if_neg (by rw[aY e];simp)]
  have f5:=f5.cB (lo:=h.size) (hi:=h3.size) ⟨⟨ia,l3⟩,trivial⟩
  have:=HK aC h5 (by rw[e2];exact Ow.nil _ _ _ _) ((f3.aA f4).aJ f5 (Nat.le_refl _))
  rw[e2]at this
  exact this
 have e:=aV e
 have iE:=f3.aA f4
 have e2:dG aD rs p 1=match cA aD (rs,p)with
  |none=>(([],0),false)
  |some s=>(s,true):=by
  unfold dG
  rw[if_pos (by rw[e];rfl)]
  show(match runT aD (fun(_:Unit) _ _=>()) 1 () (rs,p)with
   |none=>(([],0),false)
   |some (_,s)=>(s,true))=_
  rw[runT]
  cases cA aD (rs,p)with
  |none=>rfl
  |some s=>rfl
 refine oX (s:=(rs,p)) (G.no iE) (H.no iE) (cG e) _ (fun hs h6 f6=>⟨w,p,false,rfl,(cF.aB f4).aB f6,fun _ b4 h9 Fi f9 gh=> ?_,fun e=>by simp at e⟩) fun s' hs t h6 o6 f6=>⟨t,s'.2,true,rfl,(cF.aB f4).aB f6,fun e=>by simp at e,fun _ b4 h9 Fi f9 gh=> ?_⟩
 ·have f9:=f9.cB (lo:=h.size) (hi:=h3.size) ⟨⟨ia,l3⟩,trivial⟩
  rw[hs]at e2
  have:=HK aC h9 (by rw[e2];exact Ow.nil _ _ _ _) ((iE.aA f6).aJ f9 (Nat.le_refl _))
  rw[e2]at this
  exact this
 ·have f9:=f9.cB (lo:=h.size) (hi:=h3.size) ⟨⟨ia,l3⟩,trivial⟩
  rw[hs]at e2
  have z4:=f4.size
  have z9:=f9.size
  have:=HK t h9 (by rw[e2];exact(Ow.iv o6 f9 (.inr (by omega))).mono fun k _ hk=>⟨by have:=hk.1;omega,by have:=hk.2;omega⟩) ((iE.aA f6).aJ f9 (Nat.le_refl _))
  rw[e2]at this
  exact this
structure Rn where
 s:St
 ps:List Int
 vs:List Int
 us:List (List Int)
def bump(l:List Int)(i:Nat):List Int:=l.set i (l.getD i 0+1)
def Of(g:List (List Int)):Nat->Rn->Option Rn
 |0,r=>some r
 |n+1,r=>match cA g r.s with
  |none=>none
  |some s'=>Of g n ⟨s',r.ps++[s'.2],bump r.vs s'.2.toNat,r.us.set r.s.2.toNat (bump (r.us.getD r.s.2.toNat []) (s'.1.getD r.s.2.toNat 0).toNat)⟩
def lW(g:List (List Int)):List (List Int):=g.map fun l=>List.replicate l.length 0
def LG(g:List (List Int))(s:St):Rn:=⟨s,[s.2],List.replicate g.length 0,lW g⟩
structure LH(g:List (List Int))(m:Nat)(r:Rn):Prop where
 w:gv g r.s
 ps:r.ps.length=m+1
 vs:r.vs.length=g.length
 us:r.us.length=g.length
 row:∀i(h:i<r.us.length)(h':i<g.length),r.us[i].length=g[i].length
 vb:∀x,x∈r.vs->0<=x/\x<=m
 ub:∀l,l∈r.us->∀x,x∈l->0<=x/\x<=m
theorem oY(l:List Int)(i:Nat):(bump l i).length=l.length:=by simp[bump]
theorem xT{l:List Int}{i m:Nat}(h:∀x,x∈l->0<=x/\x<=(m:Int)):∀x,x∈bump l i->0<=x/\x<=((m+1:Nat):Int):=by
 intro x hx
 unfold bump at hx
 rcases List.mem_or_eq_of_mem_set hx with hx|rfl
 ·have:=h x hx;omega
 ·by_cases hi:i<l.length
  ·rw[aN hi]
   have:=h _ (List.getElem_mem hi)
   omega
  ·rw[show l.getD i 0=0 by simp[List.getD,List.getElem?_eq_none (by omega:l.length<=i)]]
   omega
theorem LH.step{g:List (List Int)}{m:Nat}{r:Rn}(R:LH g m r){s':St}(hs:cA g r.s=some s'):LH g (m+1) ⟨s',r.ps++[s'.2],bump r.vs s'.2.toNat,r.us.set r.s.2.toNat (bump (r.us.getD r.s.2.toNat []) (s'.1.getD r.s.2.toNat 0).toNat)⟩:=by
 have hp:r.s.2.toNat<r.us.length:=by rw[R.us];have:=R.w.hi;have:=R.w.lo;omega
 refine⟨R.w.step hs,by simp[R.ps],by simp[oY,R.vs],by simp[R.us],fun i a b=> ?_,xT R.vb,fun l hl=> ?_⟩
 ·simp only[List.length_set]at a
  simp only[List.getElem_set]
  split
  ·rename_i e
   subst e
   rw[oY,aR hp]
   exact R.row _ a b
  ·exact R.row i a b
 ·rcases List.mem_or_eq_of_mem_set hl with hl|rfl
  ·exact fun x hx=>by have:=R.ub l hl x hx;omega
  ·rw[aR hp]
   exact xT (R.ub _ (List.getElem_mem hp))
theorem Wo{g:List (List Int)}{s:St}(W:gv g s):LH g 0 (LG g s):=by
 refine⟨W,rfl,by simp[LG],by simp[LG,lW],fun i a b=>by simp[LG,lW],fun x hx=> ?_,fun l hl x hx=> ?_⟩
 ·simp only[LG,List.mem_replicate]at hx
  omega
 ·simp only[LG,lW,List.mem_map]at hl
  obtain⟨l',_,rfl⟩:=hl
  simp only[List.mem_replicate]at hx
  omega
theorem H6{S S':Nat->Prop}{h:Heap}{g w:Sl}{aD:List (List Int)}{rs:List Int}(G:bF S h g aD)(H:aP S' h w rs)(p n:Int)(W:gv aD (rs,p))(hn0:0<=n)(hn1:n<=2000)(K:Value->Heap->Prop)
 (HN:Of aD n.toNat (LG aD (rs,p))=none->∀h',Fr No h h'->K (.tuple #[.agg #[aC.v,VI 0,aC.v,aC.v,aC.v],VB false]) h')
 (HS:∀r,Of aD n.toNat (LG aD (rs,p))=some r->LH aD n.toNat r->∀e ps vs us h',aP (fun _=>True) h' e r.s.1->aP (fun k=>h.size<=k) h' ps r.ps->aP (fun k=>h.size<=k) h' vs r.vs->bF (fun k=>h.size<=k) h' us r.us->Fr No h h'->K (.tuple #[.agg #[e.v,VI r.s.2,ps.v,vs.v,us.v],VB true]) h'):
 aE Tryz.prog 179 #[.agg #[g.v],.agg #[w.v,VI p],VI n] h K:=by
 refine agT g w p n h K fun b1 b2 b3 h3 dM dE ia f3 cF=> ?_
 have f3:=f3.aF
 have l3:b3<h3.size:=cF.head.lt
 have l2:b2<h3.size:=cF.tail.head.lt
 have l1:b1<h3.size:=cF.tail.tail.head.lt
 have z3:=f3.size
 have R0:=aO W.bE
 have hgt:=mu W.bE
 have lit:∀{h1:Heap}{K:Value->Heap->Prop},(∀t h2,bK h2 (Iv h1.size h2.size) t [p]->Fr No h1 h2->K t.v h2)->kE Tryz.prog (Instr.buildSlice sv 1 #[(0,VI p)]) h1 K:=fun HK=>aS fL (fun k=>_<=k) (fun _ h=>h) 1 (by omega) [VI p] rfl rfl fun t h2 n2 c2 o2 f2 m2 _=>HK t h2 (Ow.gf o2) f2
 have mk:∀{h1:Heap}{K:Value->Heap->Prop},(∀t h2,bK h2 (Iv h1.size h2.size) t (List.replicate aD.length 0)->Fr No h1 h2->K t.v h2)->kE Tryz.prog (Instr.makeSlice sv (VI (g.n:Int)) (VI (g.n:Int))) h1 K:=fun HK=>dK fL (fun k=>_<=k) (fun _ h=>h) .i64 .i64 g.n g.n (Nat.le_refl _) (by rw[G.len];omega) fun t h2 n2 c2 o2 f2 m2 _=>HK t h2 (Ow.gf (by
  have e:(List.replicate g.n [VI 0]).flatten=(List.replicate aD.length (0:Int)).map VI:=by rw[G.len];simp[List.flatten_replicate_singleton]
  rw[e]at o2;exact o2)) f2
 refine⟨fun b x1 x2 x3 x4 x5 h'=>x1=w/\x2=p/\x5=aC/\∃i1 j1 i2 j2,bK h' (Iv i1 j1) x3 [p]/\bK h' (Iv i2 j2) x4 (List.replicate aD.length 0)/\(j1<=i2\/j2<=i1)/\(b<i1\/j1<=b)/\(b<i2\/j2<=b)/\h3.size<=i1/\h3.size<=i2/\h3.size<=b/\j1<=h'.size/\j2<=h'.size/\Fr No h3 h',⟨?_,?_,?_⟩,?_⟩
 ·refine lit fun t h4 o4 f4=>⟨t,rfl,cF.aB f4,?_⟩
  have z4:=f4.size
  have dN:=cF.aB f4
  refine⟨mk fun u h5 o5 f5=>⟨u,rfl,dN.aB f5,fun b5 h6 Og f6 iN h7 f7 j8=> ?_⟩,fun b6 h8 Wp f8 fO=>mk fun u h9 o9 f9=>⟨u,rfl,fO.aB f9,fun dY f10 dP=> ?_⟩⟩
  ·have f6:=f6.aF
   have z5:=f5.size
   have z6:=f6.size
   have lb:=iN.head.lt
   have f7:=f7.cB (lo:=h5.size) (hi:=h6.size) ⟨⟨Og,lb⟩,trivial⟩
   have z7:=f7.size
   exact⟨rfl,rfl,rfl,h3.size,h4.size,h4.size,h5.size,((Ow.no o4 f5).no f6).iv f7 (by omega),(Ow.no o5 f6).iv f7 (by omega),by omega,by omega,by omega,by omega,by omega,by omega,by omega,by omega,((f4.aA f5).aA f6).aJ f7 (by omega)⟩
  ·have f8:=f8.aF
   have z8:=f8.size
   have z9:=f9.size
   have lb:=fO.head.lt
   have f10:=f10.cB (lo:=h4.size) (hi:=h8.size) ⟨⟨Wp,lb⟩,trivial⟩
   have Ad:=f10.size
   exact⟨rfl,rfl,rfl,h3.size,h4.size,h8.size,h9.size,((Ow.no o4 f8).no f9).iv f10 (by omega),Ow.iv o9 f10 (by omega),by omega,by omega,by omega,by omega,by omega,by omega,by omega,by omega,((f4.aA f8).aA f9).aJ f10 (by omega)⟩
 ·refine mk fun u h4 o4 f4=>⟨u,rfl,cF.aB f4,?_⟩
  have z4:=f4.size
  have dN:=cF.aB f4
  refine⟨lit fun t h5 o5 f5=>⟨t,rfl,dN.aB f5,fun b5 h6 Og f6 iN h7 f7 j8=> ?_⟩,fun b6 h8 Wp f8 fO=>lit fun t h9 o9 f9=>⟨t,rfl,fO.aB f9,fun dY f10 dP=> ?_⟩⟩
  ·have f6:=f6.aF
   have z5:=f5.size
   have z6:=f6.size
   have lb:=iN.head.lt
   have f7:=f7.cB (lo:=h5.size) (hi:=h6.size) ⟨⟨Og,lb⟩,trivial⟩
   have z7:=f7.size
   exact⟨rfl,rfl,rfl,h4.size,h5.size,h3.size,h4.size,(Ow.no o5 f6).iv f7 (by omega),((Ow.no o4 f5).no f6).iv f7 (by omega),by omega,by omega,by omega,by omega,by omega,by omega,by omega,by omega,((f4.aA f5).aA f6).aJ f7 (by omega)⟩
  ·have f8:=f8.aF
   have z8:=f8.size
   have z9:=f9.size
   have lb:=fO.head.lt
   have f10:=f10.cB (lo:=h4.size) (hi:=h8.size) ⟨⟨Wp,lb⟩,trivial⟩
   have Ad:=f10.size
   exact⟨rfl,rfl,rfl,h8.size,h9.size,h3.size,h4.size,Ow.iv o9 f10 (by omega),((Ow.no o4 f8).no f9).iv f10 (by omega),by omega,by omega,by omega,by omega,by omega,by omega,by omega,by omega,((f4.aA f8).aA f9).aJ f10 (by omega)⟩
 ·intro b9 h4 hb9 f4 dN
  have f4:=f4.aF
  have z4:=f4.size
  have lb:=dN.head.lt
  refine⟨lit fun t h5 o5 f5=>⟨t,rfl,dN.aB f5,mk fun u h6 o6 f6=>⟨u,rfl,(dN.aB f5).aB f6,fun h7 f7 j8=> ?_⟩⟩,mk fun u h5 o5 f5=>⟨u,rfl,dN.aB f5,lit fun t h6 o6 f6=>⟨t,rfl,(dN.aB f5).aB f6,fun h7 f7 j8=> ?_⟩⟩⟩
  ·have z5:=f5.size
   have z6:=f6.size
   have f7:=f7.cB (lo:=h3.size) (hi:=h4.size) ⟨⟨hb9,lb⟩,trivial⟩
   have z7:=f7.size
   exact⟨rfl,rfl,rfl,h4.size,h5.size,h5.size,h6.size,(Ow.no o5 f6).iv f7 (by omega),Ow.iv o6 f7 (by omega),by omega,by omega,by omega,by omega,by omega,by omega,by omega,by omega,((f4.aA f5).aA f6).aJ f7 (by omega)⟩
  ·have z5:=f5.size
   have z6:=f6.size
   have f7:=f7.cB (lo:=h3.size) (hi:=h4.size) ⟨⟨hb9,lb⟩,trivial⟩
   have z7:=f7.size
   exact⟨rfl,rfl,rfl,h5.size,h6.size,h4.size,h5.size,Ow.iv o6 f7 (by omega),(Ow.no o5 f6).iv f7 (by omega),by omega,by omega,by omega,by omega,by omega,by omega,by omega,by omega,((f4.aA f5).aA f6).aJ f7 (by omega)⟩
 rintro b4 x1 x2 ps0 vs0 x5 Ka ⟨rfl,rfl,rfl,i1,j1,i2,j2,o1,o2,d12,d1,d2,e1,e2,e3,e4,e5,f25⟩ R5
 have ai6:=f3.aA f25
 have z25:=f25.size
 have lb4:b4<Ka.size:=R5.head.lt
 refine⟨fun m i x6 x7 x8 x9 Oh h'=>x6=x1/\x7=x2/\x8=ps0/\x9=vs0/\0<=i/\i+m=(aD.length:Int)/\fM h' (fun k=>Ka.size<=k) Oh (lW (aD.take i.toNat))/\Fr (Iv b4 (b4+1)) Ka h'/\Ka.size<=h'.size,⟨aD.length,rfl,rfl,rfl,rfl,by omega,by omega,by simpa[lW]using dD.nil _ _ _ _,Fr.refl _ _,Nat.le_refl _⟩,?_⟩
 rintro m i x6 x7 x8 x9 Oh vy ⟨rfl,rfl,rfl,rfl,i0,im,mV,f26,z26⟩ tY
 have H8:Fr No h vy:=ai6.aJ f26 (by omega)
 refine⟨fun e=> ?_,fun e=> ?_⟩
 ·have hi:=G.lt e
  obtain⟨si,c1,c2⟩:=(G.no H8).get i0 hi
  have UN:=(aT W.bE (List.getElem_mem (show i.toNat<aD.length by omega))).1
  refine⟨(G.no H8).bB i0 hi,si,c1,?_⟩
  refine dK fL (fun k=>vy.size<=k) (fun _ h=>h) .i64 .i64 si.n si.n (Nat.le_refl _) (by have:=c2.len;omega) fun t R9 n27 c27 Oi f27 m27 _=>⟨t,rfl,tY.aB f27,?_⟩
  have Oi:bK R9 (fun k=>vy.size<=k) t (List.replicate (aD[i.toNat]'(by omega)).length 0):=by
   have e:(List.replicate si.n [VI 0]).flatten=(List.replicate (aD[i.toNat]'(by omega)).length (0:Int)).map VI:=by rw[c2.len];simp[List.flatten_replicate_singleton]
   rw[e]at Oi;exact Oi
  refine aS qg (fun k=>R9.size<=k) (fun _ h=>h) 1 (by omega) [t.v] rfl rfl fun u h28 n28 c28 o28 f28 m28 _=>⟨u,rfl,(tY.aB f27).aB f28,?_⟩
  have z27:=f27.size
  have z28:=f28.size
  refine dD.snoc qg ((mV.gf.no f27).no f28) (F':=fun k=>Ka.size<=k) (fun k _ hk=>hk.1) (fun k hk=>by omega) ((Ow.no Oi f28).mono fun k _ hk=>Nat.le_trans z26 hk) (fun k hk aI=>by have:=(Oi.aG hk).1;have:=aI.2;omega) o28.rd (by simp[lW];omega) fun y h29 o29 f29=>⟨y,rfl,((tY.aB f27).aB f28).iv f29 ⟨.inl lb4,.inl (by omega),.inl (by omega),.inl (by omega),trivial⟩,fun h30 f30 ajb=> ?_⟩
  have z29:=f29.size
  have f30:=f30.cB (lo:=b4) (hi:=b4+1) ⟨⟨Nat.le_refl _,Nat.lt_succ_self _⟩,trivial⟩
  have z30:=f30.size
  rw[G.succ i0 hi]
  refine⟨m-1,by omega,rfl,rfl,rfl,rfl,by omega,by omega,?_,?_,by omega⟩
  ·rw[eB aD i0 hi]
   have:lW (aD.take i.toNat++[aD[i.toNat]'(by omega)])=lW (aD.take i.toNat)++[List.replicate (aD[i.toNat]'(by omega)).length 0]:=by simp only[lW,List.map_append,List.map_cons,List.map_nil]
   rw[this]
   exact(o29.gf.iv f30 (.inr (by omega))).mono fun k _ hk=>hk.1
  ·exact(f26.B3 (f27.aA f28).aB (fun k(hk:Iv Ka.size vy.size k)=>hk.1)).B3 f29 (fun k hk=>hk.1)|>.trans f30
 have hi:=G.ge e
 rw[List.take_of_length_le (by omega)]at mV
 --the rounds
 generalize hR:Of aD n.toNat (LG aD (rs,x7))=R at HN HS
 have Sa:=Ow.iv o1 f26 (by omega)
 have MF:=Ow.iv o2 f26 (by omega)
 refine⟨fun q n2 Oj QR Kb x14 x15 h'=>∃(r:Rn)(m:Nat)(E:Nat->Prop),LH aD m r/\n2=q/\m+q=n.toNat/\QR=r.s.2/\x14=x9/\x15=Oh/\aP E h' Oj r.s.1/\(∀k,E k->(k<h.size\/vy.size<=k)/\k<h'.size/\¬Kb.own k)/\bK h' (fun k=>h3.size<=k) Kb r.ps/\(∀k,Kb.own k->Iv i1 j1 k\/vy.size<=k)/\bK h' (Iv i2 j2) x9 r.vs/\fM h' (Iv Ka.size vy.size) Oh r.us/\Fr No h h'/\vy.size<=h'.size/\R=Of aD q r,
  ⟨n.toNat,LG aD (rs,x7),0,fun k=>k<h.size,Wo W,by omega,by omega,rfl,rfl,rfl,H.low.no H8,fun k hk=>⟨.inl hk,by have:=H8.size;omega,fun aI=>by have:=(Sa.aG aI).1.1;omega⟩,Sa.mono fun k _ hk=>by have:=hk.1;omega,fun k hk=> .inl (Sa.aG hk).1,MF,mV.gf,H8,Nat.le_refl _,hR.symm⟩,?_⟩
 rintro q n2 Oj QR Kb x14 x15 h31 ⟨r,m',E,ok,rfl,hm,rfl,rfl,rfl,rE,hE,oP,hP,oV,oU,f31,z31,eq⟩ Sb
 refine⟨fun e=> ?_,fun e=> ?_⟩
 ·simp only[decide_eq_true_eq]at e
  obtain⟨q,rfl⟩:∃q',q=q'+1:=⟨q-1,by omega⟩
  rw[Of]at eq
  refine oX (G.no f31) rE ok.w _ (fun hs Wq f32=>⟨Oj,r.s.2,false,rfl,Sb.aB f32,fun _ b10 h35 ach f35 aci=> ?_,fun e=>by simp at e⟩) fun s' hs t Wq o32 f32=>⟨t,s'.2,true,rfl,Sb.aB f32,fun e=>by simp at e,fun _=> ?_⟩
  ·rw[hs]at eq
   have f35:=f35.cB (lo:=h.size) (hi:=h3.size) ⟨⟨ia,l3⟩,trivial⟩
   exact HN eq h35 ((f31.aA f32).aJ f35 (Nat.le_refl _))
  ·rw[hs]at eq
   simp only at eq
   have z32:=f32.size
   have hp:r.s.2.toNat<r.us.length:=by rw[ok.us];have:=ok.w.hi;have:=ok.w.lo;omega
   have wy:=ok.w.lo
   have W':=ok.w.step hs
   have Sc:=W'.lo
   have ao9:=W'.hi
   have apa:=ok.us
   have oP2:=Ow.no oP f32
   have oV2:=Ow.no oV f32
   have oU2:=oU.no f32
   have aje:=f31.aA f32
   refine⟨oU2.rd.bB wy (by omega),fun b10 h34 ach f34 Wr=> ?_⟩
   have f34:=f34.aF
   have z34:=f34.size
   have oP4:=Ow.no oP2 f34
   have oV4:=Ow.no oV2 f34
   have oU4:=oU2.no f34
   have oT4:=Ow.no o32 f34
   obtain⟨si,d1',d2',d3'⟩:=oU4.inner wy (by omega)
   have acj:(r.us[r.s.2.toNat]'hp).length=(aD[r.s.2.toNat]'(by omega)).length:=ok.row _ hp (by omega)
   have hsl:si.n=(r.us[r.s.2.toNat]'hp).length:=aP.len d2'.fa
   have QS:r.s.2.toNat<s'.1.length:=by rw[W'.len];omega
   have Wk:=W'.QQ _ QS (by omega)
   have eA:(aD[r.s.2.toNat]'(by omega)).length≠0:=fun h0=>by rw[nz ok.w (by omega) h0]at hs;cases hs
   have Cx:0<=s'.1[r.s.2.toNat]' QS:=Wk.1
   have VA:s'.1[r.s.2.toNat]' QS<((r.us[r.s.2.toNat]'hp).length:Int):=by omega
   have RT:aP (Iv h31.size Wq.size) h34 t s'.1:=oT4.tK
   have RU:aP (Iv Ka.size vy.size) h34 si (r.us[r.s.2.toNat]'hp):=d2'.tK
   have hub:=ok.ub _ (List.getElem_mem hp) _ (List.getElem_mem (show(s'.1[r.s.2.toNat]' QS).toNat<(r.us[r.s.2.toNat]'hp).length by omega))
   have hwu:aL ((r.us[r.s.2.toNat]'hp)[(s'.1[r.s.2.toNat]' QS).toNat]'(by omega)+1)=(r.us[r.s.2.toNat]'hp)[(s'.1[r.s.2.toNat]' QS).toNat]'(by omega)+1:=aH _ (by omega) (by omega)
   refine⟨si,d1',RT.bB wy (by omega),_,RT.get wy (by omega),RU.bB Cx VA,_,RU.get Cx VA,RU.bB Cx VA,?_⟩
   rw[hwu]
   obtain⟨w1,w2,w3⟩:=d2'.eH Cx (by omega) (VI ((r.us[r.s.2.toNat]'hp)[(s'.1[r.s.2.toNat]' QS).toNat]'(by omega)+1))
   have oW:Fr (Iv Ka.size vy.size) h34 _:=w3.mono fun k _ hk=>(d2'.aG hk).1
   have Sd:=Wr.iv oW ⟨.inr (by omega),.inl lb4,.inl (by omega),.inl (by omega),.inl (by omega),trivial⟩
   refine⟨w1,Sd,fun h36 e36 _=> ?_⟩
   subst e36
   rw[<-List.map_set]at w2
   have oU6:=d3' _ _ w3 w2
   have oV6:=Ow.iv oV4 oW (by omega)
   have QT:=ok.vs
   have hV:s'.2.toNat<r.vs.length:=by omega
   have RV:aP (Iv i2 j2) _ x14 r.vs:=oV6.tK
   have hvb:=ok.vb _ (List.getElem_mem hV)
   have hwv:aL ((r.vs[s'.2.toNat]'hV)+1)=(r.vs[s'.2.toNat]'hV)+1:=aH _ (by omega) (by omega)
   refine⟨RV.bB Sc (by omega),_,RV.get Sc (by omega),RV.bB Sc (by omega),?_⟩
   rw[hwv]
   have hvn:x14.n=r.vs.length:=aP.len RV
   obtain⟨y1,y2,y3⟩:=oV6.eH Sc (by omega) (VI ((r.vs[s'.2.toNat]'hV)+1))
   have y3':Fr (Iv i2 j2) _ _:=y3.mono fun k _ hk=>(oV6.aG hk).1
   have Ok:=Sd.iv y3' ⟨.inr (by omega),(by have h1:=d2;exact h1.elim .inl .inr),.inl (by omega),.inl (by omega),.inl (by omega),trivial⟩
   refine⟨y1,Ok,fun h37 e37 _=> ?_⟩
   subst e37
   rw[<-List.map_set]at y2
   have z36:=oW.size
   have z37:=y3'.size
   have ack:∀k,Kb.own k->¬Iv Ka.size vy.size k:=fun k hk aI=>by
    have h1:=aI.1
    have h2:=aI.2
    rcases hP k hk with h3|h3
    ·have:=h3.2;omega
    ·omega
   have qh:∀k,Kb.own k->¬Iv i2 j2 k:=fun k hk aI=>by
    have h1:=aI.1
    have h2:=aI.2
    rcases hP k hk with h3|h3
    ·have:=h3.1;have:=h3.2;omega
    ·omega
   have oP7:=(Ow.fr oP4 oW ack).fr y3' qh
   refine aS fL (fun k=>_<=k) (fun _ h=>h) 1 (by omega) [VI s'.2] rfl rfl fun v h38 n38 c38 o38 f38 m38 _=>⟨v,rfl,Ok.aB f38,?_⟩
   have z38:=f38.size
   have o38:aP v.own h38 v [s'.2]:=o38.rd
   have Ol:Kb.n=r.ps.length:=aP.len oP7.fa
   have apm:v.n=1:=o38.len
   refine bQ fL (oP7.no f38) (fun k hk=>by omega) o38 (ff _) (by have:=ok.ps;omega) fun y LI n39 o39 f39 d39=> ?_
   have z39:=f39.size
   have Om:=(Ok.aB f38).fr f39 fun p hp hk=>by
    have h1:=(oP.aG hk).2
    have h2:=(oP.aG hk).1
    simp only[List.mem_cons,List.not_mem_nil,or_false]at hp
    rcases hp with rfl|rfl|rfl|rfl|rfl<;>simp only at h1 h2 hk
    ·omega
    ·rcases hP _ hk with h3|h3
     ·have:=h3.1;have:=h3.2;omega
     ·omega
    ·omega
    ·omega
    ·omega
   refine⟨y,rfl,Om,fun h41 f41 app=> ?_⟩
   have f41:=f41.cB (lo:=b4) (hi:=b4+1) ⟨⟨Nat.le_refl _,Nat.lt_succ_self _⟩,⟨Nat.le_refl _,Nat.lt_succ_self _⟩,trivial⟩
   have z41:=f41.size
   have Fi:∀k,Kb.own k->¬k=b4:=fun k hk e=>by
    subst e
    rcases hP _ hk with h3|h3
    ·have:=h3.1;have:=h3.2;omega
    ·omega
   rw[aH _ (by omega) (by omega)]
   rw[<-List.map_append]at o39
   have eV:r.vs.set s'.2.toNat ((r.vs[s'.2.toNat]'hV)+1)=bump r.vs s'.2.toNat:=by unfold bump;rw[aN hV]
   have eU:(r.us[r.s.2.toNat]'hp).set (s'.1[r.s.2.toNat]' QS).toNat ((r.us[r.s.2.toNat]'hp)[(s'.1[r.s.2.toNat]' QS).toNat]'(by omega)+1)=bump (r.us.getD r.s.2.toNat []) (s'.1.getD r.s.2.toNat 0).toNat:=by unfold bump;rw[aR hp,aN QS,aN (by omega)]
   rw[eV]at y2
   rw[eU]at oU6
   have acm:∀k,Kb.own k->¬Iv h31.size Wq.size k:=fun k hk aI=>by have:=(oP.aG hk).2;have:=aI.1;omega
   refine⟨q,by omega,_,m'+1,Iv h31.size Wq.size,ok.step hs,by omega,by omega,rfl,rfl,rfl,?_,fun k hk=>⟨.inr (by have:=hk.1;omega),by have:=hk.2;omega,fun aI=> ?_⟩,?_,fun k hk=> ?_,?_,?_,?_,by omega,eq⟩
   ·exact(((((oT4.iv oW (by omega)).iv y3' (by omega)).no f38).fr f39 fun k hk aI=>acm k aI (oT4.aG hk).1).iv f41 (by omega)).tK
   ·rcases d39 k aI with h1|h1
    ·exact acm k h1 hk
    ·have:=hk.2;omega
   ·exact Ow.fr o39 f41 fun k hk aI=>by
     have h1:=aI.1
     have h2:=aI.2
     rcases d39 k hk with h3|h3
     ·exact Fi k h3 (by omega)
     ·omega
   ·rcases d39 k hk with h1|h1
    ·exact hP k h1
    ·exact .inr (by omega)
   ·exact((Ow.no y2 f38).fr f39 fun k hk aI=>qh k aI (y2.aG hk).1).iv f41 (by omega)
   ·exact(((oU6.iv y3' (by omega)).no f38).fr f39 fun k _ hk aI=>ack k aI hk).iv f41 (by omega)
   ·exact((((((aje.aA f34).aJ oW (by omega)).aJ y3' (by omega)).aA f38).fresh f39 fun k hk=>by have:=(oP.aG hk).1;omega).aJ f41 (by omega))
 ·simp only[decide_eq_false_iff_not]at e
  obtain rfl:q=0:=by omega
  rw[Of]at eq
  intro h42 f42 aji
  have f42:=f42.cB (lo:=h.size) (hi:=h3.size) ⟨⟨ia,l3⟩,trivial⟩
  have em:m'=n.toNat:=by omega
  subst em
  refine HS r eq ok Oj Kb x14 x15 h42 ?_ ?_ ?_ ?_ (f31.aJ f42 (Nat.le_refl _))
  ·exact(aP.fr rE f42 fun k hk aI=>by have:=(hE k hk).1;have:=aI.1;have:=aI.2;omega).mono fun _ _=>trivial
  ·exact(aP.fr oP.rd f42 fun k hk aI=>by
    have h1:=aI.1
    have h2:=aI.2
    rcases hP k hk with h3|h3
    ·have:=h3.1;omega
    ·omega).mono fun k hk=>by have:=(oP.aG hk).1;omega
  ·exact(aP.iv oV.tK f42 (by omega)).mono fun k hk=>by have:=hk.1;omega
  ·exact(bF.iv oU.tK f42 (by omega)).mono fun k hk=>by have:=hk.1;omega
def On(r:Rn)(s':St):Rn:=⟨s',r.ps++[s'.2],bump r.vs s'.2.toNat,r.us.set r.s.2.toNat (bump (r.us.getD r.s.2.toNat []) (s'.1.getD r.s.2.toNat 0).toNat)⟩
theorem Cy{τ:Type}(g:List (List Int))(f:Rn->τ)(wz:τ->St->St->τ)(hf:∀r s',f (On r s')=wz (f r) r.s s'):∀(n:Nat)(r:Rn),runT g wz n (f r) r.s=(Of g n r).map fun r=>(f r,r.s)
 |0,r=>by simp[runT,Of]
 |n+1,r=>by
  rw[runT,Of]
  cases cA g r.s with
  |none=>rfl
  |some s'=>
   show runT g wz n (wz (f r) r.s s') s'=(Of g n (On r s')).map _
   rw[<-Cy g f wz hf n (On r s'),hf]
   rfl
theorem Cz{S S':Nat->Prop}{h:Heap}{g w:Sl}{aD:List (List Int)}{rs:List Int}(G:bF S h g aD)(H:aP S' h w rs)(p n:Int)(K:Value->Heap->Prop)(HK:∀t h',bK h' (Iv h.size h'.size) t (dG aD rs p n).1.1->Fr No h h'->K (.tuple #[.agg #[t.v,VI (dG aD rs p n).1.2],VB (dG aD rs p n).2]) h'):aE Tryz.prog 129 #[.agg #[g.v],.agg #[w.v,VI p],VI n] h K:=by
 refine afR g w p n h K fun b1 b2 b3 h3 dM dE ia f3 cF=> ?_
 have f3:=f3.aF
 have l3:b3<h3.size:=cF.head.lt
 have z3:=f3.size
 refine Bf (G.no f3) (H.no f3) p n _ fun h4 f4=>⟨_,rfl,cF.aB f4,fun e h5 f5 ic=> ?_,fun e=> ?_⟩
 ·have e2:dG aD rs p n=(([],0),false):=by unfold dG;rw[if_neg (by rw[aY e];simp)]
  have f5:=f5.cB (lo:=h.size) (hi:=h3.size) ⟨⟨ia,l3⟩,trivial⟩
  have:=HK aC h5 (by rw[e2];exact Ow.nil _ _ _ _) ((f3.aA f4).aJ f5 (Nat.le_refl _))
  rw[e2]at this
  exact this
 have e:=aV e
 have e2:dG aD rs p n=match runT aD (fun(_:Unit) _ _=>()) n.toNat () (rs,p)with
  |none=>(([],0),false)
  |some (_,s)=>(s,true):=by unfold dG;exact if_pos e
 rw[show runT aD (fun(_:Unit) _ _=>()) n.toNat () (rs,p)=_ from Cy aD (fun _=>()) (fun(_:Unit) _ _=>()) (fun _ _=>rfl) n.toNat (LG aD (rs,p))]at e2
 rw[Bool.and_eq_true,aZ]at e
 have W:=cG e.1
 have R0:=aO W.bE
 have iE:=f3.aA f4
 have dN:=cF.aB f4
 refine H6 (G.no iE) (H.no iE) p n W e.2.1 e.2.2 _ (fun hr h6 f6=>⟨aC,0,aC,aC,aC,false,rfl,dN.aB f6,fun _ b4 h9 Fi f9 gh=> ?_,fun e=>by simp at e⟩) fun r hr ok e' ps vs us h6 r1 r2 r3 r4 f6=>⟨e',r.s.2,ps,vs,us,true,rfl,dN.aB f6,fun e=>by simp at e,fun _ b4 h8 Fi f8 fO=> ?_⟩
 ·have f9:=f9.cB (lo:=h.size) (hi:=h3.size) ⟨⟨ia,l3⟩,trivial⟩
  rw[hr]at e2
  have:=HK aC h9 (by rw[e2];exact Ow.nil _ _ _ _) ((iE.aA f6).aJ f9 (Nat.le_refl _))
  rw[e2]at this
  exact this
 ·have f8:=f8.aF
  rw[hr]at e2
  have Fk:=(iE.aA f6).aA f8
  refine lE (r1.no f8) (by have:=ok.w.len;omega) _ fun t dY mV f10=>⟨t,rfl,fO.aB f10,fun ie f11 jm=> ?_⟩
  have f11:=f11.cB (lo:=h.size) (hi:=h3.size) ⟨⟨ia,l3⟩,trivial⟩
  have z4:=f4.size
  have z6:=f6.size
  have z8:=f8.size
  have Ad:=f10.size
  have Se:=f11.size
  have:=HK t ie (by rw[e2];exact(Ow.iv mV f11 (.inr (by omega))).QO (by omega) (by omega)) ((Fk.aA f10).aJ f11 (Nat.le_refl _))
  rw[e2]at this
  exact this
def nS(t:List Int)(_ s':St):List Int:=t++[s'.2]
def iO(g:List (List Int))(rs:List Int)(p n:Int):List Int×Bool:=
 if eC g rs p&&iD 0 200 n then match runT g nS n.toNat [p] (rs,p)with
  |none=>([],false)
  |some (t,_)=>(t,true)
 else([],false)
def H9(t:List Int)(_ s':St):List Int:=bump t s'.2.toNat
def od(g:List (List Int))(rs:List Int)(p n:Int):List Int×Bool:=
 if eC g rs p&&iD 0 2000 n then match runT g H9 n.toNat (List.replicate g.length 0) (rs,p)with
  |none=>([],false)
  |some (t,_)=>(t,true)
 else([],false)
theorem qi{S S':Nat->Prop}{h:Heap}{g w:Sl}{aD:List (List Int)}{rs:List Int}(G:bF S h g aD)(H:aP S' h w rs)(p n:Int)(K:Value->Heap->Prop)(HK:∀t h',aP (Iv h.size h'.size) h' t (iO aD rs p n).1->Fr No h h'->K (.tuple #[t.v,VB (iO aD rs p n).2]) h'):aE Tryz.prog 132 #[.agg #[g.v],.agg #[w.v,VI p],VI n] h K:=by
 refine afV g w p n h K fun b1 b2 h2 dM dE f2 bP=> ?_
 have f2:=f2.aF
 have no:iO aD rs p n=([],false)->∀h',Fr No h h'->K (.tuple #[aC.v,VB false]) h':=fun e h' f=>by
  have:=HK aC h' (by rw[e];exact cY.nil _ _ _) f
  rw[e]at this
  exact this
 refine eK (G.no f2) (H.no f2) p _ fun h3 f3=>⟨_,rfl,bP.aB f3,fun e=> ?_,fun e=> ?_⟩
 ·exact no (by unfold iO;rw[if_neg (by rw[aY e];simp)]) _ (f2.aA f3)
 have e:=aV e
 have gj:=f2.aA f3
 have cF:=bP.aB f3
 refine cX _ _ _ _ _ ⟨_,rfl,cF,fun e1=> ?_,fun e1=> ?_⟩
 ·have e1:iD 0 200 n=false:=aY e1
  exact no (by unfold iO;rw[if_neg (by rw[e,e1];simp)]) _ gj
 have e1:iD 0 200 n=true:=aV e1
 have e2:iO aD rs p n=match runT aD nS n.toNat [p] (rs,p)with
  |none=>([],false)
  |some (t,_)=>(t,true):=by unfold iO;exact if_pos (by rw[e,e1];rfl)
 rw[show runT aD nS n.toNat [p] (rs,p)=_ from Cy aD Rn.ps nS (fun _ _=>rfl) n.toNat (LG aD (rs,p))]at e2
 rw[aZ]at e1
 have z03:=gj.size
 refine H6 (G.no gj) (H.no gj) p n (cG e) e1.1 (by omega) _ (fun hr h6 f6=>⟨aC,0,aC,aC,aC,false,rfl,cF.aB f6,fun b3 h7 ia f7 j8=> ?_⟩) fun r hr ok e' ps vs us h6 r1 r2 r3 r4 f6=>⟨e',r.s.2,ps,vs,us,true,rfl,cF.aB f6,fun b3 h7 ia f7 j8=> ?_⟩
 ·rw[hr]at e2
  exact no e2 _ ((gj.aA f6).aA f7.aF)
 ·rw[hr]at e2
  have z7:=f7.aF.size
  have:=HK ps h7 (by rw[e2];exact((cY.lt r2).mono fun k hk=>⟨by have:=hk.1;omega,by have:=hk.2;omega⟩:aP _ h6 ps _).no f7.aF) ((gj.aA f6).aA f7.aF)
  rw[e2]at this
  exact this
theorem vP{S S':Nat->Prop}{h:Heap}{g w:Sl}{aD:List (List Int)}{rs:List Int}(G:bF S h g aD)(H:aP S' h w rs)(p n:Int)(K:Value->Heap->Prop)(HK:∀t h',aP (Iv h.size h'.size) h' t (od aD rs p n).1->Fr No h h'->K (.tuple #[t.v,VB (od aD rs p n).2]) h'):aE Tryz.prog 133 #[.agg #[g.v],.agg #[w.v,VI p],VI n] h K:=by
 refine afX g w p n h K fun b1 b2 h2 dM dE f2 bP=> ?_
 have f2:=f2.aF
 have no:od aD rs p n=([],false)->∀h',Fr No h h'->K (.tuple #[aC.v,VB false]) h':=fun e h' f=>by
  have:=HK aC h' (by rw[e];exact cY.nil _ _ _) f
  rw[e]at this
  exact this
 refine Bf (G.no f2) (H.no f2) p n _ fun h3 f3=>⟨_,rfl,bP.aB f3,fun e=> ?_,fun e=> ?_⟩
 ·exact no (by unfold od;rw[if_neg (by rw[aY e];simp)]) _ (f2.aA f3)
 have e:=aV e
 have gj:=f2.aA f3
 have cF:=bP.aB f3
 have e2:od aD rs p n=match runT aD H9 n.toNat (List.replicate aD.length 0) (rs,p)with
  |none=>([],false)
  |some (t,_)=>(t,true):=by unfold od;exact if_pos e
 rw[show runT aD H9 n.toNat (List.replicate aD.length 0) (rs,p)=_ from Cy aD Rn.vs H9 (fun _ _=>rfl) n.toNat (LG aD (rs,p))]at e2
 rw[Bool.and_eq_true,aZ]at e
 have z03:=gj.size
 refine H6 (G.no gj) (H.no gj) p n (cG e.1) e.2.1 e.2.2 _ (fun hr h6 f6=>⟨aC,0,aC,aC,aC,false,rfl,cF.aB f6,fun b3 h7 ia f7 j8=> ?_⟩) fun r hr ok e' ps vs us h6 r1 r2 r3 r4 f6=>⟨e',r.s.2,ps,vs,us,true,rfl,cF.aB f6,fun b3 h7 ia f7 j8=> ?_⟩
 ·rw[hr]at e2
  exact no e2 _ ((gj.aA f6).aA f7.aF)
 ·rw[hr]at e2
  have z7:=f7.aF.size
  have:=HK vs h7 (by rw[e2];exact((cY.lt r3).mono fun k hk=>⟨by have:=hk.1;omega,by have:=hk.2;omega⟩:aP _ h6 vs _).no f7.aF) ((gj.aA f6).aA f7.aF)
  rw[e2]at this
  exact this
theorem LJ(g:List (List Int))(rs:List Int)(p n:Int):(iO g rs p n).1.length<=201:=by
 unfold iO
 split
 ·rename_i h
  rw[Bool.and_eq_true,aZ]at h
  have key:∀(m:Nat)(t:List Int)(s:St)(t':List Int)(s':St),runT g nS m t s=some (t',s')->t'.length=t.length+m:=by
   intro m
   induction m with
   |zero=>
    intro t s t' s' h
    simp only[runT,Option.some.injEq,Prod.mk.injEq]at h
    rw[h.1]
    rfl
   |succ m ih=>
    intro t s t' s' h
    rw[runT]at h
    split at h
    ·cases h
    ·have:=ih _ _ _ _ h
     simp[nS]at this
     omega
  split
  ·simp
  ·rename_i t s hs
   have:=key _ _ _ _ _ hs
   simp at this
   simp only
   omega
 ·simp
theorem mv{L:List (Nat×List Value)}{F:Nat->Prop}{h:Heap}{o:Sl}{xs:List Int}{x:Int}(O:bK h F o xs)(hF:∀k,h.size<=k->F k)(hL:Vars h L)(tZ:∀p,p∈L->¬F p.1)(hb:xs.length<=1000000)(R:Sl->Heap->Prop)(HR:∀t h',bK h' F t (xs++[x])->Fr F h h'->Vars h' L->R t h'):kE Tryz.prog (Instr.buildSlice sv 1 #[(0,VI x)]) h fun rv h1=>∃t:Sl,rv=t.v/\Vars h1 L/\kE Tryz.prog (bR sv sv sv o.v t.v) h1 fun Ia h2=>∃t2:Sl,Ia=t2.v/\Vars h2 L/\R t2 h2:=by
 refine aS fL (fun k=>h.size<=k) (fun _ h=>h) 1 (by omega) [VI x] rfl rfl fun t h1 n1 c1 o1 f1 m1 _=>⟨t,rfl,hL.aB f1,?_⟩
 have z1:=f1.size
 have O1:bK h1 F o xs:=Ow.no O f1
 have on:=O1.rd.len
 have tn:=o1.rd.len
 simp only[List.length_map,Nat.mul_one,List.length_cons,List.length_nil]at on tn
 refine bQ fL O1 (fun k hk=>hF k (by omega)) o1.rd (ff [x]) (by omega) fun s' h2 n2 o2 f2 d2=> ?_
 have g2:Fr F h1 h2:=f2.mono fun k _ hk=>(O1.aG hk).1
 have V2:Vars h2 L:=(hL.aB f1).fr g2 tZ
 exact⟨s',rfl,V2,HR s' h2 (by rw[bK,List.map_append];exact o2) (f1.aB.trans g2) V2⟩
theorem Sf{S:Nat->Prop}{h:Heap}{s:Sl}{xs:List Int}(H:aP S h s xs)(v:Int)(K:Value->Heap->Prop)(HK:K (VB (decide (v∈xs))) h):aE Tryz.prog 229 #[s.v,VI v] h K:=by
 refine v229 s v h K ⟨fun n i h'=>h'=h/\0<=i/\i+n=(xs.length:Int)/\decide (v∈xs)=decide (v∈xs.drop i.toNat),⟨xs.length,rfl,by omega,by omega,by simp⟩,?_⟩
 rintro n i _ ⟨rfl,i0,i1,i2⟩ hL
 refine⟨fun e=> ?_,fun e=> ?_⟩
 ·have hi:=H.lt e
  rw[drop_cons xs i0 hi]at i2
  refine⟨H.bB i0 hi,_,H.get i0 hi,fun e=> ?_,fun e=> ?_⟩
  ·simp only[decide_eq_true_eq]at e
   rw[i2,decide_eq_true (by rw[e];exact List.mem_cons_self)]at HK
   exact HK
  ·simp only[decide_eq_false_iff_not]at e
   rw[H.succ i0 hi]
   refine⟨n-1,by omega,rfl,by omega,by omega,?_⟩
   rw[i2,decide_eq_decide,List.mem_cons]
   exact⟨fun h=>h.resolve_left fun h=>e h.symm,.inr⟩
 ·have hi:=H.ge e
  rw[List.drop_of_length_le (by omega)]at i2
  rw[i2]at HK
  simpa using HK
theorem xU{S:Nat->Prop}{h:Heap}{s:Sl}{xs:List Int}(H:aP S h s xs)(v:Int)(K:Value->Heap->Prop)(HN:v∉xs->K (VI (-1)) h)(HS:∀i:Nat,i<xs.length->xs.getD i 0=v->(∀j,j<i->xs.getD j 0≠v)->K (VI i) h):aE Tryz.prog 257 #[s.v,VI v] h K:=by
 refine air s v h K ⟨fun n i h'=>h'=h/\0<=i/\i+n=(xs.length:Int)/\∀j:Nat,(j:Int)<i->xs.getD j 0≠v,⟨xs.length,rfl,by omega,by omega,fun j hj=>by omega⟩,?_⟩
 rintro n i _ ⟨rfl,i0,i1,i2⟩ hL
 refine⟨fun e=> ?_,fun e=> ?_⟩
 ·have hi:=H.lt e
  refine⟨H.bB i0 hi,_,H.get i0 hi,fun e=> ?_,fun e=> ?_⟩
  ·simp only[decide_eq_true_eq]at e
   have:=HS i.toNat (by omega) (by rw[aN (by omega)];exact e.symm) fun j hj=>i2 j (by omega)
   rwa [show((i.toNat:Nat):Int)=i by omega]at this
  ·simp only[decide_eq_false_iff_not]at e
   rw[H.succ i0 hi]
   refine⟨n-1,by omega,rfl,by omega,by omega,fun j hj=> ?_⟩
   by_cases Ib:(j:Int)<i
   ·exact i2 j Ib
   ·have:j=i.toNat:=by omega
    subst this
    rw[aN (by omega)]
    exact fun h=>e h.symm
 ·have hi:=H.ge e
  refine HN fun hm=> ?_
  obtain⟨j,hj,e2⟩:=List.getElem_of_mem hm
  exact i2 j (by omega) (by rw[aN hj];exact e2)
theorem Fl{S:Nat->Prop}{h:Heap}{s:Sl}{xs:List Int}(H:aP S h s xs)(v:Int)(K:Value->Heap->Prop)(HK:K (VB (decide (v∈xs))) h):aE Tryz.prog 255 #[s.v,VI v] h K:=by
 refine ain s v h K (xU H v _ (fun hn=>⟨_,rfl,.nil,?_⟩) fun i hi e _=>⟨_,rfl,.nil,?_⟩)
 ·rw[decide_eq_false hn]at HK
  exact HK
 ·rw[decide_eq_true (by rw[<-e,aN hi];exact List.getElem_mem _)]at HK
  rw[decide_eq_true (by omega)]
  exact HK
theorem php:∀(N:Nat)(f:Nat->Nat),(∀i,i<=N->f i<N)->∃i j,i<j/\j<=N/\f i=f j
 |0,f,h=>by have:=h 0 (Nat.le_refl _);omega
 |N+1,f,h=>by
  by_cases hx:∃i,i<=N/\f i=f (N+1)
  ·obtain⟨i,h1,h2⟩:=hx
   exact⟨i,N+1,by omega,Nat.le_refl _,h2⟩
  ·have hx:∀i,i<=N->f i≠f (N+1):=fun i h1 h2=>hx ⟨i,h1,h2⟩
   obtain⟨i,j,h1,h2,h3⟩:=php N (fun i=>if f i=N then f (N+1)else f i) fun i hi=>by
    have a:=h i (by omega)
    have b:=h (N+1) (by omega)
    have c:=hx i hi
    (try simp only)
    split<;>omega
   refine⟨i,j,h1,by omega,?_⟩
   have a:=hx i (by omega)
   have b:=hx j h2
   (try simp only at h3)
   split at h3<;>split at h3<;>omega
def nx(g:List (List Int))(rs:List Int)(p:Int):Int:=if p<0 then-1 else if(g.getD p.toNat []).length=0 then-1 else(g.getD p.toNat []).getD (rs.getD p.toNat 0).toNat 0
def cT(g:List (List Int))(rs:List Int)(p:Int):Nat->Int
 |0=>p
 |k+1=>nx g rs (cT g rs p k)
section
variable {g:List (List Int)} {rs:List Int} {a:Int}
theorem wA(W:gv g (rs,a)){p:Int}(h0:0<=p)(h1:p<(g.length:Int))(eA:(g[p.toNat]'(by omega)).length≠0):∃(hr:p.toNat<rs.length)(hm:(rs[p.toNat]).toNat<(g[p.toNat]'(by omega)).length),0<=rs[p.toNat]/\nx g rs p=(g[p.toNat]'(by omega))[(rs[p.toNat]).toNat]:=by
 have hl:rs.length=g.length:=W.len
 have hr:p.toNat<rs.length:=by omega
 have h:=W.QQ p.toNat hr (by omega)
 have h2:0<=rs[p.toNat]:=h.1
 have h3:rs[p.toNat]<=max (((g[p.toNat]'(by omega)).length:Int)-1) 0:=h.2
 refine⟨hr,by omega,h2,?_⟩
 unfold nx
 rw[if_neg (by omega),aR (by omega),if_neg eA,aN hr,aN (by omega)]
theorem CA{p:Int}(h0:0<=p)(h1:p<(g.length:Int))(eA:(g[p.toNat]'(by omega)).length=0):nx g rs p= -1:=by
 unfold nx
 rw[if_neg (by omega),aR (by omega),if_pos eA]
theorem Oo{p:Int}(h:p<0):nx g rs p= -1:=by unfold nx;rw[if_pos h]
theorem acn(W:gv g (rs,a)){p:Int}(h1:p<(g.length:Int)): -1<=nx g rs p/\nx g rs p<(g.length:Int):=by
 by_cases h0:p<0
 ·rw[Oo h0];omega
 by_cases eA:(g[p.toNat]'(by omega)).length=0
 ·rw[CA (by omega) h1 eA];omega
 ·obtain⟨hr,hm,h2,e⟩:=wA W (by omega) h1 eA
  rw[e]
  have:=(aT W.bE (List.getElem_mem (show p.toNat<g.length by omega))).2 _ (List.getElem_mem hm)
  omega
theorem kO(W:gv g (rs,a)){p:Int}(h0:0<=p)(h1:p<(g.length:Int)):∀k,-1<=cT g rs p k/\cT g rs p k<(g.length:Int)
 |0=>by simp only[cT];omega
 |k+1=>by simp only[cT];exact acn W (kO W h0 h1 k).2
theorem Fm{p:Int}{k:Nat}(h:cT g rs p k<0):∀m,cT g rs p (k+m)<0
 |0=>h
 |m+1=>by
  rw[<-Nat.add_assoc,cT,Oo (Fm h m)]
  omega
theorem fP{p:Int}{k m:Nat}(h:cT g rs p k<0)(hm:k<=m):cT g rs p m<0:=by
 have:=Fm h (m-k)
 rwa [show k+(m-k)=m by omega]at this
theorem mw{p:Int}{i j:Nat}(h:cT g rs p i=cT g rs p j):∀m,cT g rs p (i+m)=cT g rs p (j+m)
 |0=>h
 |m+1=>by rw[<-Nat.add_assoc,<-Nat.add_assoc,cT,cT,mw h m]
theorem sF{p:Int}{i d:Nat}(h:cT g rs p i=cT g rs p (i+d))(r:Nat):∀c,cT g rs p (i+r+d*c)=cT g rs p (i+r)
 |0=>rfl
 |c+1=>by
  have:=mw h (r+d*c)
  rw[show i+r+d*(c+1)=i+d+(r+d*c) by rw[Nat.mul_succ];omega,<-this,<-Nat.add_assoc]
  exact sF h r c
theorem wB{p:Int}{i d:Nat}(h:cT g rs p i=cT g rs p (i+d))(r:Nat):cT g rs p (i+r)=cT g rs p (i+r%d):=by
 have:=sF h (r%d) (r/d)
 rw[Nat.add_assoc,Nat.mod_add_div]at this
 exact this
theorem sG(W:gv g (rs,a)){p:Int}(h0:0<=p)(h1:p<(g.length:Int))(h:0<=cT g rs p g.length):∃i d,1<=d/\i+d<=g.length/\cT g rs p i=cT g rs p (i+d):=by
 have hn:∀k,k<=g.length->0<=cT g rs p k:=fun k hk=>by
  by_cases hx:cT g rs p k<0
  ·have:=fP hx hk;omega
  ·omega
 obtain⟨i,j,e1,e2,e3⟩:=php g.length (fun k=>(cT g rs p k).toNat) fun k hk=>by
  have:=hn k hk
  have:=(kO W h0 h1 k).2
  (try simp only)
  omega
 refine⟨i,j-i,by omega,by omega,?_⟩
 rw[show i+(j-i)=j by omega]
 have:=hn i (by omega)
 have:=hn j e2
 (try simp only at e3)
 omega
theorem xV(W:gv g (rs,a)){p:Int}(h0:0<=p)(h1:p<(g.length:Int))(h:0<=cT g rs p g.length)(k:Nat):0<=cT g rs p k:=by
 have hn:∀k,k<=g.length->0<=cT g rs p k:=fun k hk=>by
  by_cases hx:cT g rs p k<0
  ·have:=fP hx hk;omega
  ·omega
 obtain⟨i,d,e1,e2,e3⟩:=sG W h0 h1 h
 by_cases hk:k<=g.length
 ·exact hn k hk
 ·have:=wB e3 (k-i)
  rw[show i+(k-i)=k by omega]at this
  rw[this]
  have:=Nat.mod_lt (k-i) (show 0<d by omega)
  exact hn _ (by omega)
theorem Si{p:Int}{i d n:Nat}(h:cT g rs p i=cT g rs p (i+d))(hd:1<=d)(hi:i<=n)(x:Int):x∈(List.range d).map (fun r=>cT g rs p (i+r))↔∃k,n<=k/\cT g rs p k=x:=by
 simp only[List.mem_map,List.mem_range]
 constructor
 ·rintro⟨r,hr,rfl⟩
  refine⟨i+r+d*n,?_,sF h r n⟩
  have:1*n<=d*n:=Nat.mul_le_mul_right _ hd
  omega
 ·rintro⟨k,hk,rfl⟩
  refine⟨(k-i)%d,Nat.mod_lt _ hd,?_⟩
  rw[<-wB h]
  congr 1
  omega
end
structure vz(g:List (List Int))(rs:List Int)(p:Int)(i d:Nat):Prop where
 d1:1<=d
 eq:cT g rs p i=cT g rs p (i+d)
 inj:∀a b,a<b->b<i+d->cT g rs p a≠cT g rs p b
theorem my{S S':Nat->Prop}{h:Heap}{g w:Sl}{aD:List (List Int)}{rs:List Int}{a:Int}(G:bF S h g aD)(H:aP S' h w rs)(W:gv aD (rs,a)){p:Int}(h0:0<=p)(h1:p<(aD.length:Int)):pO Tryz.prog 230 #[.agg #[g.v],w.v,VI p] h (VI (nx aD rs p)):=by
 intro K HK
 refine ah0 g w p h K ⟨G.bB h0 h1,fun b1 h2 dM f2 bP=> ?_⟩
 have f2:=f2.aF
 have G2:=G.no f2
 have H2:=H.no f2
 obtain⟨si,c1,r1⟩:=G2.get h0 h1
 refine⟨si,c1,fun e=> ?_,fun e=> ?_⟩
 ·simp only[decide_eq_true_eq]at e
  rw[CA h0 h1 (by have:=r1.len;omega)]at HK
  exact HK h2 f2
 ·simp only[decide_eq_false_iff_not]at e
  obtain⟨hr,hm,e2,e3⟩:=wA W h0 h1 (by have:=r1.len;omega)
  rw[e3]at HK
  exact⟨G2.bB h0 h1,si,c1,H2.bB h0 (by omega),_,H2.get h0 (by omega),r1.bB e2 (by omega),_,r1.get e2 (by omega),HK h2 f2⟩
theorem Ww{S S':Nat->Prop}{h:Heap}{g w:Sl}{aD:List (List Int)}{rs:List Int}{a:Int}(G:bF S h g aD)(H:aP S' h w rs)(W:gv aD (rs,a)){p:Int}(h0:0<=p)(h1:p<(aD.length:Int)):pO Tryz.prog 256 #[.agg #[g.v],w.v,VI p] h (VI (nx aD rs p)):=by
 intro K HK
 refine aip g w p h K ⟨G.bB h0 h1,fun b1 h2 dM f2 bP=> ?_⟩
 have f2:=f2.aF
 have G2:=G.no f2
 have H2:=H.no f2
 obtain⟨si,c1,r1⟩:=G2.get h0 h1
 refine⟨si,c1,fun e=> ?_,fun e=> ?_⟩
 ·simp only[decide_eq_true_eq]at e
  rw[CA h0 h1 (by have:=r1.len;omega)]at HK
  exact HK h2 f2
 ·simp only[decide_eq_false_iff_not]at e
  obtain⟨hr,hm,e2,e3⟩:=wA W h0 h1 (by have:=r1.len;omega)
  rw[e3]at HK
  exact⟨G2.bB h0 h1,si,c1,H2.bB h0 (by omega),_,H2.get h0 (by omega),r1.bB e2 (by omega),_,r1.get e2 (by omega),HK h2 f2⟩
theorem LK{S S':Nat->Prop}{h:Heap}{g w:Sl}{aD:List (List Int)}{rs:List Int}{a:Int}(G:bF S h g aD)(H:aP S' h w rs)(W:gv aD (rs,a)){p:Int}(h0:0<=p)(h1:p<(aD.length:Int))(K:Value->Heap->Prop)
 (HN:cT aD rs p aD.length<0->∀h',Fr No h h'->K (.tuple #[aC.v,VB false]) h')
 (HS:0<=cT aD rs p aD.length->∀t xs h',(∀x,x∈xs↔∃k,aD.length<=k/\cT aD rs p k=x)->aP (fun _=>True) h' t xs->Fr No h h'->K (.tuple #[t.v,VB true]) h'):aE Tryz.prog 228 #[.agg #[g.v],w.v,VI p] h K:=by
 refine v228 g w p h K fun b1 h2 dM f2 bP=> ?_
 have f2:=f2.aF
 have l1:b1<h2.size:=bP.head.lt
 have z2:=f2.size
 have R0:=aO W.bE
 refine⟨fun n p' i h'=>0<=i/\i+n=(aD.length:Int)/\p'=cT aD rs p i.toNat/\0<=p'/\Fr No h h'/\h2.size<=h'.size,⟨aD.length,by omega,by omega,rfl,h0,f2,Nat.le_refl _⟩,?_⟩
 rintro n p' i h3 ⟨i0,i1,rfl,p0,f3,z3⟩ cF
 have G3:=G.no f3
 have H3:=H.no f3
 refine⟨fun e=> ?_,fun e=> ?_⟩
 ·have hi:=G3.lt e
  refine my G3 H3 W p0 (kO W h0 h1 _).2 _ fun h4 f4=>⟨_,rfl,cF.aB f4,fun e2=> ?_,fun e2=> ?_⟩
  ·simp only[decide_eq_true_eq]at e2
   refine HN ?_ h4 (f3.aA f4)
   exact fP (k:=i.toNat+1) (by rw[cT];exact e2) (by omega)
  ·simp only[decide_eq_false_iff_not]at e2
   rw[G3.succ i0 hi]
   exact⟨n-1,by omega,by omega,by omega,by rw[fk i0,cT],by omega,f3.aA f4,by have:=f4.size;omega⟩
 have hi:=G3.ge e
 have ei:i.toNat=aD.length:=by omega
 rw[ei]at p0
 rw[ei]
 obtain⟨i9,d,d1,d2,d3⟩:=sG W h0 h1 p0
 have hd:cT aD rs p aD.length=cT aD rs p (aD.length+d):=by
  have:=mw d3 (aD.length-i9)
  rw[show i9+(aD.length-i9)=aD.length by omega,show i9+d+(aD.length-i9)=aD.length+d by omega]at this
  exact this
 refine aS fL (fun k=>h3.size<=k) (fun _ h=>h) 1 (by omega) [VI (cT aD rs p aD.length)] rfl rfl fun t h4 n4 c4 o4 f4 m4 _=>⟨t,rfl,cF.aB f4,?_⟩
 have z4:=f4.size
 have iE:=f3.aA f4
 refine my (G.no iE) (H.no iE) W p0 (kO W h0 h1 _).2 _ fun h5 f5=>⟨_,rfl,(cF.aB f4).aB f5,?_⟩
 have z5:=f5.size
 have tX:=iE.aA f5
 refine⟨fun n x q h'=>∃m,1<=m/\m<=d/\n=d-m/\q=cT aD rs p (aD.length+m)/\bK h' (fun k=>h3.size<=k) x ((List.range m).map fun r=>cT aD rs p (aD.length+r))/\Fr No h h'/\h3.size<=h'.size,⟨d-1,1,Nat.le_refl _,d1,rfl,rfl,by show Ow _ _ _ _ _ _;simpa using Ow.no o4 f5,tX,by omega⟩,?_⟩
 rintro n x q h6 ⟨m,m1,m2,rfl,rfl,o6,f6,z6⟩ iN
 refine⟨fun e=> ?_,fun e=> ?_⟩
 ·have e:=aY e
  simp only[decide_eq_false_iff_not]at e
  have jL:m≠d:=fun h=>e (by rw[h];exact hd.symm)
  refine aS fL (fun k=>h6.size<=k) (fun _ h=>h) 1 (by omega) [VI (cT aD rs p (aD.length+m))] rfl rfl fun u h7 n7 c7 o7 f7 m7 _=>⟨u,rfl,iN.aB f7,?_⟩
  have z7:=f7.size
  have r7:aP u.own h7 u [cT aD rs p (aD.length+m)]:=o7.rd
  have hxn:x.n=m:=by have:=aP.len (Ow.fa o6:aP _ h6 x _);simpa using this
  refine bQ fL (Ow.no o6 f7) (fun k hk=>by omega) r7 (ff _) (by have:=r7.len;simp at this;omega) fun y h8 n8 o8 f8 d8=>⟨y,rfl,(iN.aB f7).fr f8 (fun p hp hk=>by
   simp only[List.mem_cons,List.not_mem_nil,or_false]at hp
   subst hp
   have:=(o6.aG hk).1
   simp only at this
   omega),?_⟩
  have z8:=f8.size
  have Fk:Fr No h h8:=(f6.aA f7).fresh f8 fun k hk=>by have:=(o6.aG hk).1;omega
  refine my (G.no Fk) (H.no Fk) W (xV W h0 h1 p0 _) (kO W h0 h1 _).2 _ fun h9 f9=>⟨_,rfl,((iN.aB f7).fr f8 (fun p hp hk=>by
   simp only[List.mem_cons,List.not_mem_nil,or_false]at hp
   subst hp
   have:=(o6.aG hk).1
   simp only at this
   omega)).aB f9,?_⟩
  have z9:=f9.size
  rw[<-List.map_append]at o8
  refine⟨d-(m+1),by omega,m+1,by omega,by omega,rfl,by rw[<-Nat.add_assoc,cT],?_,Fk.aA f9,by omega⟩
  rw[List.range_succ,List.map_append,List.map_cons,List.map_nil]
  exact Ow.no o8 f9
 ·have e:=aV e
  simp only[decide_eq_true_eq]at e
  exact HS p0 x _ h6 (Si e.symm m1 (Nat.le_refl _)) ((Ow.fa o6:aP _ h6 x _).mono fun _ _=>trivial) f6
theorem CB{S S':Nat->Prop}{h:Heap}{g w:Sl}{aD:List (List Int)}{rs:List Int}{a:Int}(G:bF S h g aD)(H:aP S' h w rs)(W:gv aD (rs,a)){p:Int}(h0:0<=p)(h1:p<(aD.length:Int))(K:Value->Heap->Prop)
 (HN:cT aD rs p aD.length<0->∀h',Fr No h h'->K (.tuple #[aC.v,VB false]) h')
 (HS:0<=cT aD rs p aD.length->∀i d t h',vz aD rs p i d->i+d<=aD.length->aP (fun _=>True) h' t ((List.range d).map fun r=>cT aD rs p (i+r))->Fr No h h'->K (.tuple #[t.v,VB true]) h'):aE Tryz.prog 204 #[.agg #[g.v],w.v,VI p] h K:=by
 refine ahp g w p h K fun b1 h2 dM f2 bP=> ?_
 have f2:=f2.aF
 have l1:b1<h2.size:=bP.head.lt
 have z2:=f2.size
 have R0:=aO W.bE
 refine aS fL (fun k=>h2.size<=k) (fun _ h=>h) 0 (by omega) [] rfl rfl fun t0 h3 n3 c3 o3 f3 m3 _=>⟨t0,rfl,bP.aB f3,?_⟩
 have z3:=f3.size
 refine⟨fun n p' x h'=>∃m,m<=aD.length/\n=aD.length-m/\p'=cT aD rs p m/\(∀k,k<=m->0<=cT aD rs p k)/\bK h' (fun k=>h2.size<=k) x ((List.range m).map fun r=>cT aD rs p r)/\(∀i j,i<j->j<m->cT aD rs p i≠cT aD rs p j)/\Fr No h h'/\h2.size<=h'.size,⟨aD.length,0,by omega,rfl,rfl,fun k hk=>by obtain rfl:k=0:=(by omega);exact h0,by show Ow _ _ _ _ _ _;simpa using o3,fun i j _ h=>by omega,f2.aA f3,z3⟩,?_⟩
 rintro n p' x h4 ⟨m,hm,rfl,rfl,Wx,o4,hd,f4,z4⟩ dN
 have r4:aP (fun k=>h2.size<=k) h4 x _:=o4.fa
 refine Fl r4 _ _ ⟨_,rfl,dN,fun e=> ?_,fun e=> ?_⟩
 ·have e:=aY e
  simp only[decide_eq_false_iff_not,List.mem_map,List.mem_range]at e
  have hd2:∀i j,i<j->j<m+1->cT aD rs p i≠cT aD rs p j:=fun i j a b h=>by
   by_cases hj:j<m
   ·exact hd i j a hj h
   ·obtain rfl:j=m:=by omega
    exact e ⟨i,a,h⟩
  have HA:m+1<=aD.length:=by
   by_cases hx:m+1<=aD.length
   ·exact hx
   ·exfalso
    obtain⟨i,j,e1,e2,e3⟩:=php aD.length (fun k=>(cT aD rs p k).toNat) fun k hk=>by
     have:=Wx k (by omega)
     have:=(kO W h0 h1 k).2
     (try simp only)
     omega
    have a1:=Wx i (by omega)
    have a2:=Wx j (by omega)
    (try simp only at e3)
    exact hd2 i j e1 (by omega) (by omega)
  refine aS fL (fun k=>h4.size<=k) (fun _ h=>h) 1 (by omega) [VI (cT aD rs p m)] rfl rfl fun u h5 n5 c5 o5 f5 m5 _=>⟨u,rfl,dN.aB f5,?_⟩
  have z5:=f5.size
  have r5:aP u.own h5 u [cT aD rs p m]:=o5.rd
  have hxn:x.n=m:=by have:=r4.len;simpa using this
  refine bQ fL (Ow.no o4 f5) (fun k hk=>by omega) r5 (ff _) (by have:=r5.len;simp at this;omega) fun y h6 n6 o6 f6 d6=> ?_
  have iN:=(dN.aB f5).fr f6 (fun p hp hk=>by
   simp only[List.mem_cons,List.not_mem_nil,or_false]at hp
   subst hp
   have:=(o4.aG hk).1
   simp only at this
   omega)
  have z6:=f6.size
  have sE:Fr No h h6:=(f4.aA f5).fresh f6 fun k hk=>by have:=(o4.aG hk).1;omega
  refine⟨y,rfl,iN,Ww (G.no sE) (H.no sE) W (Wx m (Nat.le_refl _)) (kO W h0 h1 _).2 _ fun h7 f7=>⟨_,rfl,iN.aB f7,fun e2=> ?_,fun e2=> ?_⟩⟩
  ·simp only[decide_eq_true_eq]at e2
   exact HN (fP (k:=m+1) (by rw[cT];exact e2) HA) h7 (sE.aA f7)
  ·simp only[decide_eq_false_iff_not]at e2
   have z7:=f7.size
   rw[<-List.map_append]at o6
   refine⟨aD.length-(m+1),by omega,m+1,HA,rfl,by rw[cT],fun k hk=> ?_,?_,hd2,sE.aA f7,by omega⟩
   ·by_cases aI:k<=m
    ·exact Wx k aI
    ·obtain rfl:k=m+1:=by omega
     rw[cT];omega
   ·rw[List.range_succ,List.map_append,List.map_cons,List.map_nil]
    exact Ow.no o6 f7
 ·have e:=aV e
  simp only[decide_eq_true_eq]at e
  refine xU r4 _ _ (fun hn=>absurd e hn) fun i hi ei hj=>⟨_,rfl,dN,iq fL .i64 (by omega) (by have:=r4.len;omega) ⟨_,rfl,?_⟩⟩
  have wC:i<m:=by simpa using hi
  rw[aN hi]at ei
  simp only[List.getElem_map,List.getElem_range]at ei
  have xW:cT aD rs p i=cT aD rs p (i+(m-i)):=by rw[show i+(m-i)=m by omega];exact ei
  have Wy:∀k,0<=cT aD rs p k:=fun k=>by
   by_cases hk:k<=m
   ·exact Wx k hk
   ·have:=wB xW (k-i)
    rw[show i+(k-i)=k by omega]at this
    rw[this]
    have:=Nat.mod_lt (k-i) (show 0<m-i by omega)
    exact Wx _ (by omega)
  have hx:((((List.range m).map fun r=>cT aD rs p r).drop i).take (x.n-i))=(List.range (m-i)).map fun r=>cT aD rs p (i+r):=by
   have hxn:x.n=m:=by have:=r4.len;simpa using this
   apply List.ext_getElem
   ·simp;omega
   ·intro j a b
    simp
  have hc:=aP.cut r4 (l:=i) (m:=x.n) (by have:=r4.len;omega) (by have:=r4.len;omega)
  rw[hx]at hc
  exact HS (Wy _) i (m-i) _ h4 ⟨by omega,xW,fun a b e1 e2=>hd a b e1 (by omega)⟩ (by omega) (hc.mono fun _ _=>trivial) f4
theorem CC{P:Program}{t:TypeId}{K:Value->Prop}(k:IntKind)(a b:Int)(H:K (.int k (bits .and k a b))):pop P (gO .and t (.int k a) (.int k b)) K:=
 .mk' (fun w=>by simp[gO,eqGuard,binOp,intBits_and,bind,Sem.bind,pure,Sem.run]) H
theorem sH{P:Program}{t:TypeId}{K:Value->Prop}(k:IntKind)(a b:Int)(hb:0<=b)(H:K (.int k (a.fdiv (2^(min b.toNat k.bits))))):pop P (gO .shr t (.int k a) (.int k b)) K:=
 .mk' (fun w=>by simp[gO,eqGuard,binOp,Op.shift,show¬b<0 by omega,bind,Sem.bind,pure,Sem.run]) H
theorem kP{P:Program}{src dst:TypeId}{k k':IntKind}(hs:P.underlying src=some (.int k))(hd:P.underlying dst=some (.int k')){h:Heap}{K:Value->Prop}(n:Int)(H:K (.int k' (k'.wrap n))):zS P (convert src dst (.int k n)) h K:=by
 have hk:P.intKind dst=k':=by simp[Program.intKind,hd]
 refine⟨_,fun w hw=>run_convert_int w src dst k n (by simp[hs]) (by rw[hk];exact hd),?_⟩
 rw[hk]
 exact H
theorem Oq{s:Sl}(h:s.n<=s.c):s.cut 1 0 s.n s.c=s:=by
 obtain⟨a,n,c⟩:=s
 unfold Sl.cut
 cases a with
 |none=>simp
 |some a=>simp[B7]
theorem Fo{P:Program}{t t2 e ty:TypeId}{bs:Nat}{z:List Value}(T:ni P t=some (e,1,bs,z)){h:Heap}{F S:Nat->Prop}{s x:Sl}{vs us:List Value}(H:Ow h F e 1 s vs)(X:cY S h 1 x us)(hp:us.all fu=true)(l m:Nat)(hl:l<=s.n)(hm:m=min x.n (s.n-l))
 {K:Value->Heap->Prop} (HK:∀h',Ow h' F e 1 s (vs.take l++us.take m++vs.drop (l+m))->Fr s.own h h'->K (VI m) h'):kE P (Builtin.copy_ #[t,t2] ty #[(s.cut 1 l s.n s.c).v,x.v]) h K:=by
 obtain⟨hu,i,zv,hi,qd,rfl,hz,hzc,Rv,_,hbs,Ng,Rw⟩:=jg T
 refine⟨fun w hw=> ?_⟩
 subst hw
 have Wz:(P.info? e).map (·.size)=some 1:=by rw[hi];simp[qd]
 have QT:=H.len
 have hul:=X.len
 by_cases h0:m=0
 ·subst h0
  have hr:=run_copy_none (P:=P) w t t2 ty e (s.cut 1 l s.n s.c).a x.a (s.cut 1 l s.n s.c).n (s.cut 1 l s.n s.c).c x.n x.c hu Wz (by simp only[Sl.cut];exact hm.symm)
  refine⟨_,w,hr,cO.refl w,HK w.heap ?_ (Fr.refl _ _)⟩
  simpa using H
 ·rcases H.out with⟨rfl,rfl⟩|⟨g,o,j6,ha,hF,hg,h1,h2,h3,h4⟩
  ·simp[aC]at hm;omega
  ·obtain⟨a,hxa,_,_⟩:=X.cell 0 (by omega)
   have hcl:s.c≠l:=by omega
   have hda:(s.cut 1 l s.n s.c).a=some ⟨g,o+l,none⟩:=by simp[Sl.cut,hcl,ha,qO]
   have hr:=run_copy_row (P:=P) w t t2 ty e g (o+l) (s.n-l) (s.c-l) a x.n x.c j6 e (us.take m) hu Wz hg (by rw[List.length_take,hm];simp only[Nat.min_def];split<;>split<;>omega) (fun j v hj=>by
    obtain⟨WA,rfl⟩:=List.getElem?_eq_some_iff.1 hj
    have ajl:j<us.length:=by simp at WA;omega
    obtain⟨a',Ha,_,hc⟩:=X.cell j ajl
    rw[hxa]at Ha
    obtain rfl:a=a':=by simpa using Ha
    simp only[List.getElem_take]
    exact hc) (by simp;omega) (fun u hu=>by
    have:=List.all_eq_true.1 hp u (List.mem_of_mem_take hu)
    cases u<;>simp[fu]at this<;>rfl)
   have hml:(us.take m).length=m:=by simp;omega
   rw[hml]at hr
   have hv:(s.cut 1 l s.n s.c).v= .slice (some ⟨g,o+l,none⟩) (s.n-l) (s.c-l):=by simp only[Sl.v,hda];rfl
   have hxv:x.v= .slice (some a) x.n x.c:=by simp only[Sl.v,hxa]
   rw[<-hv,<-hxv]at hr
   refine⟨_,_,hr,⟨rfl,rfl,rfl⟩,HK _ ⟨?_,.inr ⟨g,o,_,ha,hF,setRow_heap w g j6 _ e _ hg,h1,h2,?_,?_⟩⟩ ⟨by simp[World.setRow],fun k _ hk=>setRow_other w g k _ (fun e=>hk (by simp[Sl.own,ha,e]))⟩⟩
   ·simp;omega
   ·simp;omega
   ·have hol:(j6.toList.take (o+l)).length=o+l:=by simp;omega
    simp only[Nat.mul_one]at h4 QT⊢
    have e1:(j6.toList.take (o+l)++us.take m++j6.toList.drop (o+l+m)).drop o=vs.take l++us.take m++j6.toList.drop (o+l+m):=by
     rw[List.append_assoc,List.drop_append_of_le_length (by omega),List.drop_take,show o+l-o=l by omega,<-h4,List.take_take,Nat.min_eq_left hl,List.append_assoc]
    (try simp only[List.toList_toArray])
    rw[e1,List.take_append,List.take_of_length_le (by simp;omega)]
    congr 1
    have e2:(vs.take l++us.take m).length=l+m:=by simp;omega
    rw[e2,<-h4,List.drop_take,List.drop_drop,Nat.add_assoc]
theorem LM{P:Program}{t t2 e ty:TypeId}{bs:Nat}{z:List Value}(T:ni P t=some (e,1,bs,z)){h:Heap}{F S:Nat->Prop}{s x:Sl}{vs us:List Value}(H:Ow h F e 1 s vs)(X:cY S h 1 x us)(hp:us.all fu=true)(m:Nat)(hm:m=min x.n s.n)
 {K:Value->Heap->Prop} (HK:∀h',Ow h' F e 1 s (us.take m++vs.drop m)->Fr s.own h h'->K (VI m) h'):kE P (Builtin.copy_ #[t,t2] ty #[s.v,x.v]) h K:=by
 have:=Fo (t2:=t2) (ty:=ty) T H X hp 0 m (by omega) (by simpa using hm) (K:=K) fun h' o f=>HK h' (by simpa using o) f
 rw[Oq H.cap.1]at this
 exact this
theorem LN(a n:Int)(ha:a=1)(h0:0<=n)(h1:n<=100):bits .and .u64 a 4294967295=1/\bits .and .u64 n 4294967295=n/\bits .and .u64 0 4294967295=0:=by
 subst ha
 refine⟨by decide,?_,by decide⟩
 have key:∀k:Fin 101,bits .and .u64 (k.val:Int) 4294967295=(k.val:Int):=by decide
 have:=key ⟨n.toNat,by omega⟩
 simp only[show((n.toNat:Nat):Int)=n by omega]at this
 exact this
theorem ua{n:Int}(h0:0<=n)(h1:n<18446744073709551616):IntKind.u64.wrap n=n:=by
 simp only[IntKind.wrap,IntKind.bits,IntKind.signed]
 simp
 omega
theorem kQ{n:Int}(h0:0<=n)(h1:n<4294967296):n.fdiv (2^(min (32:Int).toNat IntKind.u64.bits))=0:=by
 have e:(2:Int)^(min (32:Int).toNat IntKind.u64.bits)=4294967296:=by decide
 rw[e,Int.fdiv_eq_ediv_of_nonneg _ (by omega)]
 omega
theorem Sj(n:Int)(h0:0<=n)(h1:n<=100)(h:Heap)(K:Value->Heap->Prop)(HK:K (.tuple #[.int .u64 0,.int .u64 n]) h):aE Tryz.prog 288 #[.int .u64 1,.int .u64 n] h K:=by
 obtain⟨m1,m2,m3⟩:=LN 1 n rfl h0 h1
 refine aiW 1 n h K (CC _ _ _ ⟨1,by rw[m1],sH _ _ _ (by omega) ⟨0,by rw[kQ (by omega) (by omega)],CC _ _ _ ⟨n,by rw[m2],sH _ _ _ (by omega) ⟨0,by rw[kQ (by omega) (by omega)],?_⟩⟩⟩⟩)
 have u0:IntKind.u64.wrap 0=0:=ua (by omega) (by omega)
 have un:IntKind.u64.wrap n=n:=ua h0 (by omega)
 simp only[Int.one_mul,Int.zero_mul,Int.mul_zero,Int.zero_add,Int.add_zero,u0,un]
 refine sH _ _ _ (by omega) ⟨0,by rw[kQ (by omega) (by omega)],?_⟩
 simp only[Int.one_mul,Int.zero_mul,Int.mul_zero,Int.zero_add,Int.add_zero,u0,un]
 refine CC _ _ _ ⟨0,by rw[m3],sH _ _ _ (by omega) ⟨0,by rw[kQ (by omega) (by omega)],?_⟩⟩
 simp only[Int.one_mul,Int.zero_mul,Int.mul_zero,Int.zero_add,Int.add_zero,u0,un]
 refine sH _ _ _ (by omega) ⟨0,by rw[kQ (by omega) (by omega)],?_⟩
 simp only[Int.one_mul,Int.zero_mul,Int.mul_zero,Int.zero_add,Int.add_zero,u0,un]
 exact HK
theorem acp(n:Int)(h0:0<=n)(h1:n<=100)(h:Heap)(K:Value->Heap->Prop)(HK:K (.tuple #[.int .u64 0,.int .u64 n]) h):aE Tryz.prog 282 #[.int .u64 1,.int .u64 n] h K:=
 aiU 1 n h K (Sj n h0 h1 h _ ⟨_,_,rfl,.nil,HK⟩)
theorem xX{S:Nat->Prop}{h:Heap}{x:Sl}(v:Int)(X:aP S h x [v])(n:Nat)(h1:1<=n)(h8:n<=100)(K:Value->Heap->Prop)(HK:∀t h',bK h' (Iv h.size h'.size) t (List.replicate n v)->Fr No h h'->K t.v h'):aE Tryz.prog 267 #[x.v,VI n] h K:=by
 have hx1:x.n=1:=by have:=X.len;simpa using this
 refine aiJ x n h K ⟨fun h'=>h'=h,⟨fun e=>by simp only[decide_eq_true_eq]at e;omega,fun _=>rfl⟩,?_⟩
 rintro _ rfl _
 refine kP (k:= .i64) (k':= .u64) (show Tryz.prog.underlying 3=some (.int .i64)from by kernel_rfl) (show Tryz.prog.underlying 166=some (.int .u64)from by kernel_rfl) _ ⟨1,by rw[hx1];rfl,kP (k:= .i64) (k':= .u64) (show Tryz.prog.underlying 3=some (.int .i64)from by kernel_rfl) (show Tryz.prog.underlying 166=some (.int .u64)from by kernel_rfl) _ ⟨n,by rw[ua (by omega) (by omega)],?_⟩⟩
 refine acp n (by omega) (by omega) _ _ ⟨_,_,rfl,.nil,⟨fun h'=>h'=_,⟨fun e=>by simp at e,fun _=>⟨fun e=>by simp only[decide_eq_true_eq]at e;omega,fun _=>rfl⟩⟩,?_⟩⟩
 rintro _ rfl _
 refine kP (k:= .u64) (k':= .i64) (show Tryz.prog.underlying 166=some (.int .u64)from by kernel_rfl) (show Tryz.prog.underlying 3=some (.int .i64)from by kernel_rfl) _ ⟨n,by rw[show IntKind.i64.wrap (n:Int)=n from aH n (by omega) (by omega)],?_⟩
 refine dK fL (fun k=>_<=k) (fun _ h=>h) .i64 .i64 n n (Nat.le_refl _) (by omega) fun t QK n1 c1 o1 f1 m1 _=>⟨t,rfl,.nil,?_⟩
 have e1:(List.replicate n [VI 0]).flatten=(List.replicate n (0:Int)).map VI:=by simp[List.flatten_replicate_singleton]
 rw[e1]at o1
 have r1:=aP.no X f1
 have z1:=f1.size
 refine LM (P:=Tryz.prog) fL o1 r1 (ff _) 1 (by omega) fun h2 o2 f2=>⟨1,rfl,.nil,?_⟩
 have e2:([v].map VI).take 1++((List.replicate n (0:Int)).map VI).drop 1=(List.replicate 1 v++List.replicate (n-1) 0).map VI:=by simp
 rw[e2]at o2
 refine⟨fun q m h'=>∃m':Nat,m=m'/\1<=m'/\m'<=n/\q=n-m'/\bK h' (fun k=>_<=k) t (List.replicate m' v++List.replicate (n-m') 0)/\Fr t.own QK h',⟨n-1,1,rfl,Nat.le_refl _,h1,rfl,o2,f2⟩,?_⟩
 rintro q m h3 ⟨m,rfl,q1,q2,rfl,o3,f3⟩ hL
 refine⟨fun e=> ?_,fun e=> ?_⟩
 ·simp only[decide_eq_true_eq]at e
  have WB:t.n=n:=n1
  refine iq fL .i64 (by omega) (by omega) ⟨_,rfl,AL fL .i64 (by omega) (by omega) ⟨_,rfl,?_⟩⟩
  simp only[Int.toNat_natCast]
  have r3:aP t.own h3 t _:=o3.rd
  have rb:=aP.cut r3 (l:=0) (m:=m) (by omega) (by simp;try omega)
  rw[List.drop_zero,Nat.sub_zero,List.take_left' (by simp)]at rb
  refine Fo (P:=Tryz.prog) fL o3 rb (ff _) m (min m (n-m)) (by omega) (by simp[Sl.cut,WB]) fun h4 o4 f4=>⟨_,rfl,.nil,?_⟩
  have e4:((List.replicate m v++List.replicate (n-m) 0).map VI).take m++((List.replicate m v).map VI).take (min m (n-m))++((List.replicate m v++List.replicate (n-m) 0).map VI).drop (m+min m (n-m))=(List.replicate (m+min m (n-m)) v++List.replicate (n-(m+min m (n-m))) 0).map VI:=by
   rw[<-List.map_take,<-List.map_take,<-List.map_drop,<-List.map_append,<-List.map_append]
   congr 1
   rw[List.take_left' (by simp),List.take_replicate,List.drop_append,List.drop_of_length_le (by simp),List.nil_append,List.length_replicate,List.drop_replicate,List.replicate_append_replicate]
   congr 2
   ·omega
   ·omega
  rw[e4]at o4
  rw[aH _ (by omega) (by omega)]
  exact⟨n-(m+min m (n-m)),by omega,m+min m (n-m),by omega,by omega,by omega,rfl,o4,f3.trans f4⟩
 ·simp only[decide_eq_false_iff_not]at e
  have WB:t.n=n:=n1
  obtain rfl:m=n:=by omega
  rw[Nat.sub_self,List.replicate_zero,List.append_nil]at o3
  exact HK t h3 (Ow.gf o3) (f1.fresh f3 m1)
def lF(x:Int):List Int->List Int×List Int->List Int×List Int
 |[],s=>s
 |q::qs,s=>lF x qs (if s.1.getD q.toNat 0<0 then(s.1.set q.toNat (s.1.getD x.toNat 0+1),s.2++[q])else s)
def CD(g:List (List Int)):Nat->List Int->List Int->List Int
 |0,cU,_=>cU
 |_+1,cU,[]=>cU
 |f+1,cU,x::rest=>CD g f (lF x (g.getD x.toNat []) (cU,[])).1 (rest++(lF x (g.getD x.toNat []) (cU,[])).2)
def gr(g:List (List Int))(p:Int):List Int:=CD g g.length ((List.replicate g.length (-1)).set p.toNat 0) [p]
def iZ(l:List Int):Nat:=(l.filter fun x=>decide (x<0)).length
theorem xY{l:List Int}{i:Nat}{v:Int}(h:i<l.length)(h1:l[i]<0)(h2:0<=v):iZ (l.set i v)+1=iZ l:=by
 induction l generalizing i with
 |nil=>simp at h
 |cons x xs ih=>
  cases i with
  |zero=>
   simp only[List.getElem_cons_zero]at h1
   simp only[iZ,List.set_cons_zero,List.filter_cons,show¬v<0 by omega,h1,decide_true,decide_false,if_true,Bool.false_eq_true,if_false,List.length_cons]
  |succ i=>
   have:=ih (by simpa using h) (by simpa using h1)
   simp only[iZ,List.set_cons_succ,List.filter_cons]at this⊢
   split<;>(try simp only[List.length_cons])<;>simp_all<;>omega
structure U2(n:Nat)(cU:List Int):Prop where
 len:cU.length=n
 lo:∀v,v∈cU-> -1<=v
 hi:∀v,v∈cU->v+iZ cU<=n
theorem U2.step{n:Nat}{cU:List Int}(B:U2 n cU){x q:Int}(hx:x.toNat<n)(hq:q.toNat<n)(hn:cU.getD q.toNat 0<0):U2 n (cU.set q.toNat (cU.getD x.toNat 0+1))/\iZ (cU.set q.toNat (cU.getD x.toNat 0+1))+1=iZ cU:=by
 have hl:=B.len
 rw[aN (by omega)]at hn
 rw[aN (show x.toNat<cU.length by omega)]
 have h1:=B.lo _ (List.getElem_mem (show x.toNat<cU.length by omega))
 have h2:=B.hi _ (List.getElem_mem (show x.toNat<cU.length by omega))
 have h3:=xY (show q.toNat<cU.length by omega) hn (v:=cU[x.toNat]'(by omega)+1) (by omega)
 refine⟨⟨by simp[hl],fun v hv=> ?_,fun v hv=> ?_⟩,h3⟩
 ·rcases List.mem_or_eq_of_mem_set hv with hv|rfl
  ·exact B.lo v hv
  ·omega
 ·rcases List.mem_or_eq_of_mem_set hv with hv|rfl
  ·have:=B.hi v hv;omega
  ·omega
theorem LO{g:List (List Int)}{p:Int}(h:g.getD p.toNat []=[]):gr g p=(List.replicate g.length (-1)).set p.toNat 0:=by
 unfold gr
 cases hg:g.length with
 |zero=>rfl
 |succ n=>
  rw[CD,h]
  cases n<;>rfl
theorem WC{n p:Nat}(hp:p<n):U2 n ((List.replicate n (-1)).set p 0)/\iZ ((List.replicate n (-1)).set p 0)+1=n:=by
 have h1:iZ (List.replicate n (-1))=n:=by
  unfold iZ
  rw[List.filter_replicate_of_pos (by decide)]
  simp
 have h2:=xY (l:=List.replicate n (-1)) (i:=p) (v:=0) (by simpa using hp) (by simp) (by omega)
 refine⟨⟨by simp,fun v hv=> ?_,fun v hv=> ?_⟩,by omega⟩
 ·rcases List.mem_or_eq_of_mem_set hv with hv|rfl
  ·simp only[List.mem_replicate]at hv;omega
  ·omega
 ·rcases List.mem_or_eq_of_mem_set hv with hv|rfl
  ·simp only[List.mem_replicate]at hv;omega
  ·omega
theorem Ot{g:List (List Int)}(hg:aM g=true){x:Nat}(hx:x<g.length){i:Nat}(hi:i<(g[x]).length):0<=(g[x])[i]/\(g[x])[i]<(g.length:Int):=(aT hg (List.getElem_mem hx)).2 _ (List.getElem_mem hi)
theorem Kc{S:Nat->Prop}{h:Heap}{g:Sl}{aD:List (List Int)}(G:bF S h g aD)(hg:aM aD=true){p:Int}(h0:0<=p)(h1:p<(aD.length:Int))(K:Value->Heap->Prop)(HK:∀t h',bK h' (Iv h.size h'.size) t (gr aD p)->(gr aD p).length=aD.length->Fr No h h'->K t.v h'):aE Tryz.prog 271 #[.agg #[g.v],VI p] h K:=by
 refine aiO g p h K fun b1 h2 dM f2 bP=> ?_
 generalize hR:gr aD p=R at HK
 have f2:=f2.aF
 have l1:b1<h2.size:=bP.head.lt
 have z2:=f2.size
 have R0:=aO hg
 refine dK fL (fun k=>h2.size<=k) (fun _ h=>h) .i64 .i64 g.n g.n (Nat.le_refl _) (by rw[G.len];omega) fun t h3 n3 c3 o3 f3 m3 _=>⟨t,rfl,bP.aB f3,?_⟩
 have o3:bK h3 (Iv h2.size h3.size) t (List.replicate aD.length 0):=by
  have e:(List.replicate g.n [VI 0]).flatten=(List.replicate aD.length (0:Int)).map VI:=by rw[G.len];simp[List.flatten_replicate_singleton]
  rw[e]at o3;exact Ow.gf o3
 have z3:=f3.size
 have gj:=f2.aA f3
 have WB:t.n=aD.length:=by rw[n3,G.len]
 have cF:=bP.aB f3
 refine⟨fun n i h'=>0<=i/\i+n=(aD.length:Int)/\bK h' (Iv h2.size h3.size) t (List.replicate i.toNat (-1)++List.replicate n 0)/\Fr (Iv h2.size h3.size) h3 h',⟨aD.length,by omega,by omega,by simpa using o3,Fr.refl _ _⟩,?_⟩
 rintro n i h4 ⟨i0,i1,o4,f4⟩ dN
 refine⟨fun e=> ?_,fun e=> ?_⟩
 ·simp only[decide_eq_true_eq]at e
  obtain⟨w1,w2,w3⟩:=o4.eH i0 (by omega) (VI (-1))
  have oW:Fr (Iv h2.size h3.size) h4 _:=w3.mono fun _ _ hk=>(o4.aG hk).1
  have ic:=dN.iv oW ⟨.inl l1,trivial⟩
  refine⟨o4.bB i0 (by omega),w1,ic,fun h5 e5 _=> ?_⟩
  subst e5
  rw[aH _ (by omega) (by omega)]
  refine⟨n-1,by omega,by omega,by omega,?_,f4.trans oW⟩
  rw[<-List.map_set]at w2
  have e6:(List.replicate i.toNat (-1:Int)++List.replicate n 0).set i.toNat (-1)=List.replicate (i+1).toNat (-1)++List.replicate (n-1) 0:=by
   rw[List.set_append_right _ _ (by simp),List.length_replicate,Nat.sub_self,fk i0,List.replicate_succ',List.append_assoc]
   obtain⟨m,rfl⟩:∃m,n=m+1:=⟨n-1,by omega⟩
   simp[List.replicate_succ]
  rw[e6]at w2
  exact w2
 simp only[decide_eq_false_iff_not]at e
 obtain rfl:n=0:=by omega
 have ei:i.toNat=aD.length:=by omega
 rw[ei,List.replicate_zero,List.append_nil]at o4
 obtain⟨w1,w2,w3⟩:=o4.eH h0 (by omega) (VI 0)
 have oW:Fr (Iv h2.size h3.size) h4 _:=w3.mono fun _ _ hk=>(o4.aG hk).1
 have ic:=dN.iv oW ⟨.inl l1,trivial⟩
 refine⟨o4.bB h0 (by omega),w1,ic,fun h5 e5 _=> ?_⟩
 subst e5
 rw[<-List.map_set]at w2
 have tX:Fr No h _:=(gj.aJ f4 (by omega)).aJ oW (by omega)
 have z4:=f4.size
 have z5:=oW.size
 refine aS fL (fun k=>_<=k) (fun _ h=>h) 1 (by omega) [VI p] rfl rfl fun u h6 n6 c6 o6 f6 m6 _=>⟨u,rfl,ic.aB f6,?_⟩
 have z6:=f6.size
 have sE:=tX.aA f6
 have w6:=Ow.no w2 f6
 obtain⟨B0,N0⟩:=WC (n:=aD.length) (p:=p.toNat) (by omega)
 refine⟨fun n x k h'=>∃(cU dn nB:List Int),0<=k/\k=dn.length/\n=nB.length+iZ cU/\dn.length+n=aD.length/\U2 aD.length cU/\(∀y,y∈nB->0<=y/\y<(aD.length:Int))/\bK h' (Iv h2.size h3.size) t cU/\bK h' (fun k=>h3.size<=k) x (dn++nB)/\Fr No h h'/\h3.size<=h'.size/\R=CD aD n cU nB,
  ⟨aD.length,(List.replicate aD.length (-1)).set p.toNat 0,[],[p],by omega,rfl,by simp only[List.length_cons,List.length_nil];omega,by simp,B0,fun y hy=>by simp at hy;omega,w6,by show Ow _ _ _ _ _ _;simpa using o6.mono (F':=fun k=>h3.size<=k) fun k _ hk=>by omega,sE,by omega,hR.symm⟩,?_⟩
 rintro n x k h7 ⟨cU,dn,nB,k0,rfl,rfl,WD,B,hp,o7,q7,f7,z7,eq⟩ j8
 have rq:aP (fun k=>h3.size<=k) h7 x (dn++nB):=q7.fa
 refine⟨fun e=> ?_,fun e=> ?_⟩
 ·have hk:=rq.lt e
  rw[List.length_append]at hk
  obtain⟨y,rest,rfl⟩:∃y rest,nB=y::rest:=by
   cases nB with
   |nil=>simp at hk
   |cons y rest=>exact⟨y,rest,rfl⟩
  have hy:=hp y List.mem_cons_self
  have sI:y.toNat<aD.length:=by omega
  have hdl:(dn.length:Int)<((dn++y::rest).length:Int):=by simp only[List.length_append,List.length_cons];omega
  have eg:∀hh,(dn++y::rest)[(dn.length:Int).toNat]'hh=y:=by intro hh;simp
  have c0:=rq.get k0 hdl
  rw[eg]at c0
  obtain⟨gi,c1,r1⟩:=G.get hy.1 hy.2
  have Ou:(y::rest).length+iZ cU=(rest.length+iZ cU)+1:=by simp only[List.length_cons];omega
  rw[Ou,CD,aR sI]at eq
  refine⟨rq.bB k0 hdl,_,c0,(G.no f7).bB hy.1 hy.2,gi,dJ c1 f7 (fun h=>h),?_⟩
  generalize hF:lF y (aD[y.toNat]' sI) (cU,[])=Fin at eq
  refine⟨fun m x' j h'=>∃(dL new:List Int),0<=j/\j+m=((aD[y.toNat]' sI).length:Int)/\U2 aD.length dL/\new.length+iZ dL=iZ cU/\(∀y,y∈new->0<=y/\y<(aD.length:Int))/\bK h' (Iv h2.size h3.size) t dL/\bK h' (fun k=>h3.size<=k) x' (dn++y::rest++new)/\Fr No h h'/\h3.size<=h'.size/\Fin=lF y ((aD[y.toNat]' sI).drop j.toNat) (dL,new),
   ⟨(aD[y.toNat]' sI).length,cU,[],by omega,by omega,B,by simp,fun y hy=>by simp at hy,o7,by simpa using q7,f7,z7,by simpa using hF.symm⟩,?_⟩
  rintro m x' j h8 ⟨dL,new,j0,j1,B',hnw,M5,o8,q8,f8,z8,eF⟩ fO
  have LP:aP S h8 gi (aD[y.toNat]' sI):=aP.no r1 f8
  have WE:aP (fun k=>h3.size<=k) h8 x' (dn++y::rest++new):=q8.fa
  have LQ:aP (Iv h2.size h3.size) h8 t dL:=o8.tK
  have ME:=B'.len
  refine⟨fun e2=> ?_,fun e2=> ?_⟩
  ·have hj:=LP.lt e2
   rw[drop_cons _ j0 hj,lF]at eF
   have hq:=Ot hg sI (show j.toNat<(aD[y.toNat]' sI).length by omega)
   refine⟨LP.bB j0 hj,_,LP.get j0 hj,LQ.bB hq.1 (by omega),_,LQ.get hq.1 (by omega),fun e3=> ?_,fun e3=> ?_⟩
   ·simp only[decide_eq_true_eq]at e3
    have Ov:dL.getD ((aD[y.toNat]' sI)[j.toNat]'(by omega)).toNat 0<0:=by rw[aN (by omega)];exact e3
    obtain⟨B2,N2⟩:=B'.step (x:=y) (by omega) (by omega) Ov
    simp only[Ov,if_true]at eF
    have hyv:=B'.hi _ (List.getElem_mem (show y.toNat<dL.length by omega))
    have ajn:=B'.lo _ (List.getElem_mem (show y.toNat<dL.length by omega))
    have Ox:(dn.length:Int)<((dn++y::rest++new).length:Int):=by simp only[List.length_append,List.length_cons];omega
    have eg8:∀hh,(dn++y::rest++new)[(dn.length:Int).toNat]'hh=y:=by intro hh;simp
    have c8:=WE.get k0 Ox
    rw[eg8]at c8
    obtain⟨w1,w2,w3⟩:=o8.eH hq.1 (by have:=LQ.len;omega) (VI (dL[y.toNat]'(by omega)+1))
    have oW:Fr (Iv h2.size h3.size) h8 _:=w3.mono fun _ _ hk=>(o8.aG hk).1
    have gh:=fO.iv oW ⟨.inl l1,trivial⟩
    refine⟨WE.bB k0 Ox,_,c8,LQ.bB hy.1 (by omega),_,LQ.get hy.1 (by omega),LQ.bB hq.1 (by omega),?_⟩
    rw[aH _ (by omega) (by omega)]
    refine⟨w1,gh,fun h9 e9 _=> ?_⟩
    subst e9
    rw[<-List.map_set]at w2
    have z9:=oW.size
    have q9:=Ow.fr q8 oW fun k hk aI=>by have h1:=(q8.aG hk).1;have:=aI.2;(try simp only at h1);omega
    refine aS fL (fun k=>_<=k) (fun _ h=>h) 1 (by omega) [VI ((aD[y.toNat]' sI)[j.toNat]'(by omega))] rfl rfl fun v dY U1 c10 mV f10 m10 _=>⟨v,rfl,gh.aB f10,?_⟩
    have Ad:=f10.size
    have r10:aP v.own dY v [(aD[y.toNat]' sI)[j.toNat]'(by omega)]:=mV.rd
    have MH:=WE.len
    simp only[List.length_append,List.length_cons]at MH WD hk
    refine bQ fL (Ow.no q9 f10) (fun k hk=>by omega) r10 (ff _) (by have:=r10.len;simp at this;omega) fun w ie n11 lV f11 d11=>⟨w,rfl,(gh.aB f10).fr f11 (fun p hp hk=>by
     simp only[List.mem_cons,List.not_mem_nil,or_false]at hp
     subst hp
     have:=(q8.aG hk).1
     simp only at this
     omega),?_⟩
    have Se:=f11.size
    rw[<-List.map_append]at lV
    rw[LP.succ j0 hj]
    refine⟨m-1,by omega,dL.set ((aD[y.toNat]' sI)[j.toNat]'(by omega)).toNat (dL.getD y.toNat 0+1),new++[(aD[y.toNat]' sI)[j.toNat]'(by omega)],by omega,by omega,B2,by simp only[List.length_append,List.length_cons,List.length_nil];omega,fun z hz=> ?_,?_,?_,?_,by omega,eF⟩
    ·rcases List.mem_append.1 hz with hz|hz
     ·exact M5 z hz
     ·simp only[List.mem_cons,List.not_mem_nil,or_false]at hz
      rw[hz];exact hq
    ·rw[aN (show y.toNat<dL.length by omega)]
     exact(Ow.no w2 f10).fr f11 fun k hk aI=>by have h1:=(q8.aG aI).1;have:=(o8.aG hk).1.2;(try simp only at h1);omega
    ·rw[<-List.append_assoc]
     exact lV
    ·exact(((f8.aJ oW (by omega)).aA f10).fresh f11 fun k hk=>by have h1:=(q8.aG hk).1;(try simp only at h1);omega)
   ·simp only[decide_eq_false_iff_not]at e3
    have Ov:¬dL.getD ((aD[y.toNat]' sI)[j.toNat]'(by omega)).toNat 0<0:=by rw[aN (by omega)];exact e3
    simp only[Ov,if_false]at eF
    rw[LP.succ j0 hj]
    exact⟨m-1,by omega,dL,new,by omega,by omega,B',hnw,M5,o8,q8,f8,z8,eF⟩
  ·have hj:=LP.ge e2
   rw[List.drop_of_length_le (by omega),lF]at eF
   subst eF
   simp only[List.length_cons]at WD
   rw[aH _ (by omega) (by omega)]
   refine⟨rest.length+iZ cU,by simp only[List.length_cons];omega,dL,dn++[y],rest++new,by omega,by simp,by simp only[List.length_append];omega,by simp only[List.length_append,List.length_cons,List.length_nil];omega,B',fun z hz=> ?_,o8,by simpa using q8,f8,z8,?_⟩
   ·rcases List.mem_append.1 hz with hz|hz
    ·exact hp z (List.mem_cons_of_mem _ hz)
    ·exact M5 z hz
   ·exact eq
 ·have hk:=rq.ge e
  rw[List.length_append]at hk
  obtain rfl:nB=[]:=List.eq_nil_of_length_eq_zero (by omega)
  have e9:R=cU:=by
   rw[eq]
   simp only[List.length_nil,Nat.zero_add]
   cases iZ cU<;>rfl
  subst e9
  exact HK t h7 (Ow.QO o7 (by omega) (by omega)) B.len f7
theorem Bg{S:Nat->Prop}{h:Heap}{g:Sl}{aD:List (List Int)}(G:bF S h g aD)(hg:aM aD=true){p:Int}(h0:0<=p)(h1:p<(aD.length:Int))(K:Value->Heap->Prop)(HK:∀t h',bK h' (Iv h.size h'.size) t (gr aD p)->(gr aD p).length=aD.length->Fr No h h'->K t.v h'):aE Tryz.prog 260 #[.agg #[g.v],VI p] h K:=by
 refine aiv g p h K fun b1 QK dM f1 bG=> ?_
 generalize hR:gr aD p=R at HK
 have f1:=f1.aF
 have l1:b1<QK.size:=bG.head.lt
 have z1:=f1.size
 have R0:=aO hg
 refine aS fL (fun k=>QK.size<=k) (fun _ h=>h) 1 (by omega) [VI (-1)] rfl rfl fun m1 h2 n2 c2 o2 f2 _ _=>⟨m1,rfl,bG.aB f2,?_⟩
 have r2:aP (fun k=>QK.size<=k) h2 m1 [-1]:=o2.fa
 have z2:=f2.size
 have bP:=bG.aB f2
 rw[G.len]
 refine xX (-1) r2 aD.length (by omega) (by omega) _ fun t h3 o3 f3=>⟨t,rfl,bP.aB f3,?_⟩
 have z3:=f3.size
 have gj:=(f1.aA f2).aA f3
 have cF:=bP.aB f3
 have WB:t.n=aD.length:=by have:=aP.len (Ow.fa o3:aP _ h3 t _);simpa using this
 obtain⟨w1,w2,w3⟩:=o3.eH h0 (by omega) (VI 0)
 have oW:Fr (Iv h2.size h3.size) h3 _:=w3.mono fun _ _ hk=>(o3.aG hk).1
 have ic:=cF.iv oW ⟨.inl (by omega),trivial⟩
 refine⟨o3.bB h0 (by omega),w1,ic,fun h5 e5 _=> ?_⟩
 subst e5
 rw[<-List.map_set]at w2
 have tX:Fr No h _:=gj.aJ oW (by omega)
 have z5:=oW.size
 refine aS fL (fun k=>_<=k) (fun _ h=>h) 1 (by omega) [VI p] rfl rfl fun u h6 n6 c6 o6 f6 m6 _=>⟨u,rfl,ic.aB f6,?_⟩
 have z6:=f6.size
 have sE:=tX.aA f6
 have w6:=Ow.no w2 f6
 obtain⟨B0,N0⟩:=WC (n:=aD.length) (p:=p.toNat) (by omega)
 refine⟨fun n x h'=>∃(cU nB:List Int),n=nB.length+iZ cU/\n<=aD.length/\U2 aD.length cU/\(∀y,y∈nB->0<=y/\y<(aD.length:Int))/\bK h' (Iv h2.size h3.size) t cU/\bK h' (fun k=>h3.size<=k) x nB/\Fr No h h'/\h3.size<=h'.size/\R=CD aD n cU nB,
  ⟨aD.length,(List.replicate aD.length (-1)).set p.toNat 0,[p],by simp only[List.length_cons,List.length_nil];omega,Nat.le_refl _,B0,fun y hy=>by simp at hy;omega,w6,by show Ow _ _ _ _ _ _;simpa using o6.mono (F':=fun k=>h3.size<=k) fun k _ hk=>by omega,sE,by omega,hR.symm⟩,?_⟩
 rintro n x h7 ⟨cU,nB,rfl,WD,B,hp,o7,q7,f7,z7,eq⟩ j8
 have rq:aP (fun k=>h3.size<=k) h7 x nB:=q7.fa
 have MH:=rq.len
 refine⟨fun e=> ?_,fun e=> ?_⟩
 ·simp only[decide_eq_true_eq]at e
  obtain⟨y,rest,rfl⟩:∃y rest,nB=y::rest:=by
   cases nB with
   |nil=>simp at MH;omega
   |cons y rest=>exact⟨y,rest,rfl⟩
  have hy:=hp y List.mem_cons_self
  have sI:y.toNat<aD.length:=by omega
  have hdl:(0:Int)<((y::rest).length:Int):=by simp only[List.length_cons];omega
  have eg:∀hh,(y::rest)[(0:Int).toNat]'hh=y:=by intro hh;simp
  have c0:=rq.get (Int.le_refl 0) hdl
  rw[eg]at c0
  obtain⟨gi,c1,r1⟩:=G.get hy.1 hy.2
  have Ou:(y::rest).length+iZ cU=(rest.length+iZ cU)+1:=by simp only[List.length_cons];omega
  rw[Ou,CD,aR sI]at eq
  refine⟨rq.bB (Int.le_refl 0) hdl,_,c0,(G.no f7).bB hy.1 hy.2,gi,dJ c1 f7 (fun h=>h),?_⟩
  generalize hF:lF y (aD[y.toNat]' sI) (cU,[])=Fin at eq
  refine⟨fun m x' j h'=>∃(dL new:List Int),0<=j/\j+m=((aD[y.toNat]' sI).length:Int)/\U2 aD.length dL/\new.length+iZ dL=iZ cU/\(∀y,y∈new->0<=y/\y<(aD.length:Int))/\bK h' (Iv h2.size h3.size) t dL/\bK h' (fun k=>h3.size<=k) x' (y::rest++new)/\Fr No h h'/\h3.size<=h'.size/\Fin=lF y ((aD[y.toNat]' sI).drop j.toNat) (dL,new),
   ⟨(aD[y.toNat]' sI).length,cU,[],by omega,by omega,B,by simp,fun y hy=>by simp at hy,o7,by simpa using q7,f7,z7,by simpa using hF.symm⟩,?_⟩
  rintro m x' j h8 ⟨dL,new,j0,j1,B',hnw,M5,o8,q8,f8,z8,eF⟩ fO
  have LP:aP S h8 gi (aD[y.toNat]' sI):=aP.no r1 f8
  have WE:aP (fun k=>h3.size<=k) h8 x' (y::rest++new):=q8.fa
  have LQ:aP (Iv h2.size h3.size) h8 t dL:=o8.tK
  have ME:=B'.len
  have ajp:=WE.len
  simp only[List.length_append,List.length_cons]at ajp WD
  refine⟨fun e2=> ?_,fun e2=> ?_⟩
  ·have hj:=LP.lt e2
   rw[drop_cons _ j0 hj,lF]at eF
   have hq:=Ot hg sI (show j.toNat<(aD[y.toNat]' sI).length by omega)
   refine⟨LP.bB j0 hj,_,LP.get j0 hj,LQ.bB hq.1 (by omega),_,LQ.get hq.1 (by omega),fun e3=> ?_,fun e3=> ?_⟩
   ·simp only[decide_eq_true_eq]at e3
    have Ov:dL.getD ((aD[y.toNat]' sI)[j.toNat]'(by omega)).toNat 0<0:=by rw[aN (by omega)];exact e3
    obtain⟨B2,N2⟩:=B'.step (x:=y) (by omega) (by omega) Ov
    simp only[Ov,if_true]at eF
    have hyv:=B'.hi _ (List.getElem_mem (show y.toNat<dL.length by omega))
    have ajn:=B'.lo _ (List.getElem_mem (show y.toNat<dL.length by omega))
    have Ox:(0:Int)<((y::rest++new).length:Int):=by simp only[List.length_append,List.length_cons];omega
    have eg8:∀hh,(y::rest++new)[(0:Int).toNat]'hh=y:=by intro hh;simp
    have c8:=WE.get (Int.le_refl 0) Ox
    rw[eg8]at c8
    obtain⟨w1,w2,w3⟩:=o8.eH hq.1 (by have:=LQ.len;omega) (VI (dL[y.toNat]'(by omega)+1))
    have oW:Fr (Iv h2.size h3.size) h8 _:=w3.mono fun _ _ hk=>(o8.aG hk).1
    have gh:=fO.iv oW ⟨.inl (by omega),trivial⟩
    refine⟨WE.bB (Int.le_refl 0) Ox,_,c8,LQ.bB hy.1 (by omega),_,LQ.get hy.1 (by omega),LQ.bB hq.1 (by omega),?_⟩
    rw[aH _ (by omega) (by omega)]
    refine⟨w1,gh,fun h9 e9 _=> ?_⟩
    subst e9
    rw[<-List.map_set]at w2
    have z9:=oW.size
    have q9:=Ow.fr q8 oW fun k hk aI=>by have h1:=(q8.aG hk).1;have:=aI.2;(try simp only at h1);omega
    refine aS fL (fun k=>_<=k) (fun _ h=>h) 1 (by omega) [VI ((aD[y.toNat]' sI)[j.toNat]'(by omega))] rfl rfl fun v dY U1 c10 mV f10 m10 _=>⟨v,rfl,gh.aB f10,?_⟩
    have Ad:=f10.size
    have r10:aP v.own dY v [(aD[y.toNat]' sI)[j.toNat]'(by omega)]:=mV.rd
    refine bQ fL (Ow.no q9 f10) (fun k hk=>by omega) r10 (ff _) (by have:=r10.len;simp at this;omega) fun w ie n11 lV f11 d11=>⟨w,rfl,(gh.aB f10).fr f11 (fun p hp hk=>by
     simp only[List.mem_cons,List.not_mem_nil,or_false]at hp
     subst hp
     have:=(q8.aG hk).1
     simp only at this
     omega),?_⟩
    have Se:=f11.size
    rw[<-List.map_append]at lV
    rw[LP.succ j0 hj]
    refine⟨m-1,by omega,dL.set ((aD[y.toNat]' sI)[j.toNat]'(by omega)).toNat (dL.getD y.toNat 0+1),new++[(aD[y.toNat]' sI)[j.toNat]'(by omega)],by omega,by omega,B2,by simp only[List.length_append,List.length_cons,List.length_nil];omega,fun z hz=> ?_,?_,?_,?_,by omega,eF⟩
    ·rcases List.mem_append.1 hz with hz|hz
     ·exact M5 z hz
     ·simp only[List.mem_cons,List.not_mem_nil,or_false]at hz
      rw[hz];exact hq
    ·rw[aN (show y.toNat<dL.length by omega)]
     exact(Ow.no w2 f10).fr f11 fun k hk aI=>by have h1:=(q8.aG aI).1;have:=(o8.aG hk).1.2;(try simp only at h1);omega
    ·rw[<-List.append_assoc]
     exact lV
    ·exact(((f8.aJ oW (by omega)).aA f10).fresh f11 fun k hk=>by have h1:=(q8.aG hk).1;(try simp only at h1);omega)
   ·simp only[decide_eq_false_iff_not]at e3
    have Ov:¬dL.getD ((aD[y.toNat]' sI)[j.toNat]'(by omega)).toNat 0<0:=by rw[aN (by omega)];exact e3
    simp only[Ov,if_false]at eF
    rw[LP.succ j0 hj]
    exact⟨m-1,by omega,dL,new,by omega,by omega,B',hnw,M5,o8,q8,f8,z8,eF⟩
  ·have hj:=LP.ge e2
   rw[List.drop_of_length_le (by omega),lF]at eF
   subst eF
   refine iq fL .i64 (by omega) (by omega) ⟨_,rfl,?_⟩
   have qc:=q8.cut (l:=1) (m:=x'.n) (by omega) (Nat.le_refl _)
   have ec:(((y::rest++new).map VI).drop (1*1)).take ((x'.n-1)*1)=(rest++new).map VI:=by
    rw[List.take_of_length_le (by simp;omega)]
    rfl
   rw[ec]at qc
   refine⟨rest.length+iZ cU,by simp only[List.length_cons];omega,dL,rest++new,by simp only[List.length_append];omega,by omega,B',fun z hz=> ?_,o8,qc,f8,z8,?_⟩
   ·rcases List.mem_append.1 hz with hz|hz
    ·exact hp z (List.mem_cons_of_mem _ hz)
    ·exact M5 z hz
   ·exact eq
 ·simp only[decide_eq_false_iff_not]at e
  obtain rfl:nB=[]:=List.eq_nil_of_length_eq_zero (by omega)
  have e9:R=cU:=by
   rw[eq]
   simp only[List.length_nil,Nat.zero_add]
   cases iZ cU<;>rfl
  subst e9
  exact HK t h7 (Ow.QO o7 (by omega) (by omega)) B.len f7
def nT(g:List (List Int))(p:Int):Bool:=(List.range g.length).all fun q=> !decide ((gr g q).getD p.toNat 0<0)
theorem Ic{g:List (List Int)}{sink:Int}(h0:0<=sink)(h:nT g sink=true){p:Nat}(hp:p<g.length)(hs:(p:Int)≠sink)(h1:sink<(g.length:Int)):(g[p]).length≠0:=by
 intro hz
 have:=List.all_eq_true.1 h p (by simpa using hp)
 rw[LO (by rw[show((p:Int)).toNat=p from rfl,aR hp];exact List.eq_nil_of_length_eq_zero hz)]at this
 simp only[Bool.not_eq_true',decide_eq_false_iff_not]at this
 rw[aN (by simp;omega),List.getElem_set]at this
 rw[if_neg (by omega)]at this
 simp at this
def oZ(g:List (List Int))(sink:Int):Bool:=aM g&&iD 0 ((g.length:Int)-1) sink&&nT g sink
theorem Bh{n:Nat}{f:Nat->Bool}:(List.range n).all f=true↔∀i,i<n->f i=true:=by simp[List.all_eq_true]
theorem LR{S:Nat->Prop}{h:Heap}{g:Sl}{aD:List (List Int)}(G:bF S h g aD)(hg:aM aD=true){p:Int}(h0:0<=p)(h1:p<(aD.length:Int)):pO Tryz.prog 237 #[.agg #[g.v],VI p] h (VB (nT aD p)):=by
 intro K HK
 refine aia g p h K fun b1 h2 dM f2 bP=> ?_
 have f2:=f2.aF
 refine⟨fun n i h'=>0<=i/\i+n=(aD.length:Int)/\(∀q:Nat,(q:Int)<i->¬(gr aD q).getD p.toNat 0<0)/\Fr No h h',⟨aD.length,by omega,by omega,fun q hq=>by omega,f2⟩,?_⟩
 rintro n i h3 ⟨i0,i1,i2,f3⟩ cF
 have G3:=G.no f3
 refine⟨fun e=> ?_,fun e=> ?_⟩
 ·have hi:=G3.lt e
  have ei:((i.toNat:Nat):Int)=i:=by omega
  refine Kc G3 hg i0 hi _ fun t h4 o4 hl f4=>⟨t,rfl,cF.aB f4,?_⟩
  have r4:aP _ h4 t _:=Ow.fa o4
  refine⟨r4.bB h0 (by omega),_,r4.get h0 (by omega),fun e2=> ?_,fun e2=> ?_⟩
  ·simp only[decide_eq_true_eq]at e2
   have:nT aD p=false:=by
    unfold nT
    rw[List.all_eq_false]
    refine⟨i.toNat,by simp;omega,?_⟩
    rw[ei,aN (by omega),decide_eq_true e2]
    simp
   rw[this]at HK
   exact HK h4 (f3.aA f4)
  ·simp only[decide_eq_false_iff_not]at e2
   rw[G3.succ i0 hi]
   refine⟨n-1,by omega,by omega,by omega,fun q hq=> ?_,f3.aA f4⟩
   by_cases gN:(q:Int)<i
   ·exact i2 q gN
   ·have:(q:Int)=i:=by omega
    rw[this,aN (by omega)]
    exact e2
 ·have hi:=G3.ge e
  have:nT aD p=true:=by
   unfold nT
   rw[Bh]
   intro q hq
   rw[decide_eq_false (i2 q (by omega))]
   rfl
  rw[this]at HK
  exact HK h3 f3
theorem LS{S:Nat->Prop}{h:Heap}{g:Sl}{aD:List (List Int)}(G:bF S h g aD)(hg:aM aD=true){p:Int}(h0:0<=p)(h1:p<(aD.length:Int)):pO Tryz.prog 259 #[.agg #[g.v],VI p] h (VB (nT aD p)):=by
 intro K HK
 refine ait g p h K fun b1 h2 dM f2 bP=> ?_
 have f2:=f2.aF
 refine⟨fun n i h'=>0<=i/\i+n=(aD.length:Int)/\(∀q:Nat,(q:Int)<i->¬(gr aD q).getD p.toNat 0<0)/\Fr No h h',⟨aD.length,by omega,by omega,fun q hq=>by omega,f2⟩,?_⟩
 rintro n i h3 ⟨i0,i1,i2,f3⟩ cF
 have G3:=G.no f3
 refine⟨fun e=> ?_,fun e=> ?_⟩
 ·have hi:=G3.lt e
  have ei:((i.toNat:Nat):Int)=i:=by omega
  refine Bg G3 hg i0 hi _ fun t h4 o4 hl f4=>⟨t,rfl,cF.aB f4,?_⟩
  have r4:aP _ h4 t _:=Ow.fa o4
  refine⟨r4.bB h0 (by omega),_,r4.get h0 (by omega),fun e2=> ?_,fun e2=> ?_⟩
  ·simp only[decide_eq_true_eq]at e2
   have:nT aD p=false:=by
    unfold nT
    rw[List.all_eq_false]
    refine⟨i.toNat,by simp;omega,?_⟩
    rw[ei,aN (by omega),decide_eq_true e2]
    simp
   rw[this]at HK
   exact HK h4 (f3.aA f4)
  ·simp only[decide_eq_false_iff_not]at e2
   rw[G3.succ i0 hi]
   refine⟨n-1,by omega,by omega,by omega,fun q hq=> ?_,f3.aA f4⟩
   by_cases gN:(q:Int)<i
   ·exact i2 q gN
   ·have:(q:Int)=i:=by omega
    rw[this,aN (by omega)]
    exact e2
 ·have hi:=G3.ge e
  have:nT aD p=true:=by
   unfold nT
   rw[Bh]
   intro q hq
   rw[decide_eq_false (i2 q (by omega))]
   rfl
  rw[this]at HK
  exact HK h3 f3
theorem Oy{S:Nat->Prop}{h:Heap}{g:Sl}{aD:List (List Int)}(G:bF S h g aD)(sink:Int):pO Tryz.prog 187 #[.agg #[g.v],VI sink] h (VB (oZ aD sink)):=by
 intro K HK
 unfold oZ at HK
 refine ag7 g sink h K fun b1 h2 dM f2 bP=> ?_
 have f2:=f2.aF
 refine cR (G.no f2) sink _ fun h3 f3=>⟨_,rfl,bP.aB f3,fun e=> ?_,fun e=> ?_⟩
 ·rw[e,Bool.true_and]at HK
  rw[Bool.and_eq_true,aZ]at e
  exact LR (G.no (f2.aA f3)) e.1 e.2.1 (by omega) _ fun h4 f4=>⟨_,rfl,(bP.aB f3).aB f4,HK h4 ((f2.aA f3).aA f4)⟩
 ·rw[e,Bool.false_and]at HK
  exact HK h3 (f2.aA f3)
theorem LU{S:Nat->Prop}{h:Heap}{g:Sl}{aD:List (List Int)}(G:bF S h g aD)(sink:Int):pO Tryz.prog 214 #[.agg #[g.v],VI sink] h (VB (oZ aD sink)):=by
 intro K HK
 unfold oZ at HK
 refine ahF g sink h K fun b1 h2 dM f2 bP=> ?_
 have f2:=f2.aF
 refine aS fL (fun k=>h2.size<=k) (fun _ h=>h) 1 (by omega) [VI sink] rfl rfl fun t Rz n2 c2 o2 f2' m2 _=>⟨t,rfl,bP.aB f2',?_⟩
 have o2:aP (fun k=>h2.size<=k) Rz t [sink]:=o2.fa
 have acs:=bP.aB f2'
 have CE:=f2.aA f2'
 refine sx (G.no CE) o2 _ fun h3 f3=>⟨_,rfl,acs.aB f3,fun e=> ?_,fun e=> ?_⟩
 all_goals simp only[List.all_cons,List.all_nil,Bool.and_true]at e
 ·rw[e,Bool.true_and]at HK
  rw[Bool.and_eq_true,aZ]at e
  exact LS (G.no (CE.aA f3)) e.1 e.2.1 (by omega) _ fun h4 f4=>⟨_,rfl,(acs.aB f3).aB f4,HK h4 ((CE.aA f3).aA f4)⟩
 ·rw[e,Bool.false_and]at HK
  exact HK h3 (CE.aA f3)
structure CF(a n:Nat)(h:Heap)(c:Sl)(i:Int):Prop where
 code:∃vs,cY (fun k=>k<a) h 1 c vs/\∀v,v∈vs->∃m:Int,v=Value.int .u8 m/\0<=m/\m<=255
 lo:0<=i
 hi:i<=(n:Int)
theorem CF.fr{a n:Nat}{h h':Heap}{c:Sl}{i:Int}{T:Nat->Prop}(D:CF a n h c i)(f:Fr T h h')(hT:∀k,k<a->¬T k):CF a n h' c i:=by
 obtain⟨vs,h1,h2⟩:=D.code
 exact⟨⟨vs,h1.fr f hT,h2⟩,D.lo,D.hi⟩
theorem CF.no{a n:Nat}{h h':Heap}{c:Sl}{i:Int}(D:CF a n h c i)(f:Fr No h h'):CF a n h' c i:=D.fr f fun _ _ h=>h
theorem CF.up{a n m:Nat}{h:Heap}{c:Sl}{i:Int}(D:CF a n h c i)(hm:n<=m):CF a m h c i:=⟨D.code,D.lo,by have:=D.hi;omega⟩
theorem sJ{L:List (Nat×List Value)}{lo:Nat}{h:Heap}{o:Sl}{xs:List Int}{x:Int}(O:bK h (fun k=>lo<=k) o xs)(wy:lo<=h.size)(hL:Vars h L)(tZ:∀p,p∈L->p.1<lo)(hb:xs.length<=1000000)(R:Sl->Heap->Prop)(HR:∀t h',bK h' (fun k=>lo<=k) t (xs++[x])->Fr (fun k=>lo<=k) h h'->Vars h' L->R t h'):kE Tryz.prog (Instr.buildSlice sv 1 #[(0,VI x)]) h fun rv h1=>∃t:Sl,rv=t.v/\Vars h1 L/\kE Tryz.prog (bR sv sv sv o.v t.v) h1 fun Ia h2=>∃t2:Sl,Ia=t2.v/\Vars h2 L/\R t2 h2:=by
 refine aS fL (fun k=>h.size<=k) (fun _ h=>h) 1 (by omega) [VI x] rfl rfl fun t h1 n1 c1 o1 f1 m1 _=>⟨t,rfl,hL.aB f1,?_⟩
 have z1:=f1.size
 have O1:bK h1 (fun k=>lo<=k) o xs:=Ow.no O f1
 have on:=O1.rd.len
 have tn:=o1.rd.len
 simp only[List.length_map,Nat.mul_one,List.length_cons,List.length_nil]at on tn
 refine bQ fL O1 (fun k hk=>by omega) o1.rd (ff [x]) (by omega) fun s' h2 n2 o2 f2 d2=> ?_
 have g2:Fr (fun k=>lo<=k) h1 h2:=f2.mono fun k _ hk=>(O1.aG hk).1
 have V2:Vars h2 L:=(hL.aB f1).fr g2 fun p hp hk=>by have:=tZ p hp;omega
 exact⟨s',rfl,V2,HR s' h2 (by rw[bK,List.map_append];exact o2) (f1.aB.trans g2) V2⟩
theorem jN{L:List (Nat×List Value)}{lo m:Nat}{h:Heap}{s x:Sl}{aD:List (List Int)}{ys:List Int}(O:fM h (Iv lo m) s aD)(X:bK h (fun k=>m<=k) x ys)(wy:lo<=m)(hm:m<=h.size)(hL:Vars h L)(tZ:∀p,p∈L->p.1<lo)(hb:aD.length<=1000000)(R:Sl->Heap->Prop)(HR:∀t h',fM h' (fun k=>lo<=k) t (aD++[ys])->Fr (fun k=>lo<=k) h h'->Vars h' L->R t h'):kE Tryz.prog (Instr.buildSlice nZ 1 #[(0,x.v)]) h fun rv h1=>∃t:Sl,rv=t.v/\Vars h1 L/\kE Tryz.prog (bR nZ nZ nZ s.v t.v) h1 fun Ia h2=>∃t2:Sl,Ia=t2.v/\Vars h2 L/\R t2 h2:=by
 refine aS qg (fun k=>h.size<=k) (fun _ h=>h) 1 (by omega) [x.v] rfl rfl fun t h1 n1 c1 o1 f1 m1 _=>⟨t,rfl,hL.aB f1,?_⟩
 have z1:=f1.size
 refine dD.snoc qg (dD.no O f1) (F':=fun k=>lo<=k) (fun k _ hk=>hk.1) (fun k hk=>by omega) ((Ow.no X f1).mono fun k _ hk=>Nat.le_trans wy hk) (fun k hk aI=>by have:=(X.aG hk).1;have:=aI.2;omega) o1.rd (by omega) fun y h2 o2 f2=> ?_
 have g2:Fr (fun k=>lo<=k) h1 h2:=f2.mono fun k _ hk=>hk.1
 have V2:Vars h2 L:=(hL.aB f1).fr g2 fun p hp hk=>by have:=tZ p hp;omega
 exact⟨y,rfl,V2,HR y h2 o2 (f1.aB.trans g2) V2⟩
end Go.Proofs.YtcnfcnoooecchaaGreatDoor
