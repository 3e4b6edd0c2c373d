import Derived.Test.YtcnfcnoooecchaaGreatDoorDeskAfterU1
import Derived.Test.YtcnfcnoooecchaaGreatDoorM4
import Derived.Laws.BytesArg
import Derived.Lib.AtoiAll
import Derived.Lib.CountLaws
import Derived.Lib.Split
import Derived.Lib.IndexBytes
import Derived.Lib.ItoaMem
import Derived.WideMake
import Derived.MapKept
import Derived.Laws.IdiomCopy
import Derived.Deep.Draws
import Derived.Lib.AtoiTie
import Derived.Lib.ItoaLen
import Derived.Test.YtcnfcnoooecchaaGreatDoorDeskAfterH
set_option linter.unusedVariables false
set_option linter.unusedSimpArgs false
namespace Go.Proofs.YtcnfcnoooecchaaGreatDoor
open Go Go.Mx
@[reducible] def tI:TypeId:=3
@[reducible] def qD:TypeId:=27
@[reducible] def nu:TypeId:=24
theorem fy:nh Tryz.prog qD=some (tI,1,8,[VI 0]):=by kernel_rfl
theorem qg:nh Tryz.prog nu=some (qD,1,24,[aC.v]):=by kernel_rfl
@[reducible] def bM(h:Heap)(F:Nat->Prop)(s:Sl)(xs:List Int):Prop:=Ow h F tI 1 s (xs.map VI)
@[reducible] def fQ(h:Heap)(F:Nat->Prop)(s:Sl)(aD:List (List Int)):Prop:=dI h F qD tI s aD
theorem fc(xs:List Int):(xs.map VI).all fq=true:=by simp[List.all_eq_true,fq]
theorem eJ(n lo hi:Int)(h:Heap)(K:Value->Heap->Prop)(H:K (VB (decide (lo<=n)&&decide (n<=hi))) h):aE Tryz.prog 52 #[VI n,VI lo,VI hi] h K:=by
 refine v52 n lo hi h K ⟨fun e=> ?_,fun e=> ?_⟩
 ·rw[e,Bool.true_and]at H;exact H
 ·rw[e,Bool.false_and]at H;exact H
theorem cY(n lo hi:Int)(h:Heap)(K:Value->Heap->Prop)(H:K (VB (decide (lo<=n)&&decide (n<=hi))) h):aE Tryz.prog 119 #[VI n,VI lo,VI hi] h K:=by
 refine afo n lo hi h K ⟨fun e=> ?_,fun e=> ?_⟩
 ·rw[e,Bool.true_and]at H;exact H
 ·rw[e,Bool.false_and]at H;exact H
def iB(lo hi x:Int):Bool:=decide (lo<=x)&&decide (x<=hi)
def aM(g:List (List Int)):Bool:=iB 1 8 g.length&&g.all fun l=> !decide (5<(l.length:Int))&&l.all (iB 0 ((g.length:Int)-1))
theorem aX{b:Bool}(h:(!b)=true):b=false:=by simpa using h
theorem aW{b:Bool}(h:(!b)=false):b=true:=by simpa using h
theorem CB{S:Nat->Prop}{h:Heap}{l:Sl}{xs:List Int}(H:aP S h l xs)(lo HL:Int)(K:Value->Heap->Prop)(HK:K (VB (xs.all (iB lo HL))) h):aE Tryz.prog 120 #[l.v,VI lo,VI HL] h K:=by
 refine afq l lo HL h K ?_
 refine⟨fun n i h'=>h'=h/\0<=i/\i+n=(xs.length:Int)/\xs.all (iB lo HL)=(xs.drop i.toNat).all (iB lo HL),⟨xs.length,rfl,by omega,by omega,by simp⟩,?_⟩
 rintro n i _ ⟨rfl,h0,h1,h2⟩ hL
 refine⟨fun e=> ?_,fun e=> ?_⟩
 ·have hi:=H.lt e
  refine⟨H.bB h0 hi,_,H.get h0 hi,?_⟩
  rw[drop_cons xs h0 hi,List.all_cons]at h2
  refine cY _ _ _ _ _ ⟨_,rfl,hL,fun e2=> ?_,fun e2=> ?_⟩
  ·have e3:iB lo HL (xs[i.toNat]'(by omega))=false:=aX e2
   rw[h2,e3]at HK
   exact HK
  ·have e3:iB lo HL (xs[i.toNat]'(by omega))=true:=aW e2
   rw[e3,Bool.true_and]at h2
   rw[H.succ h0 hi]
   exact⟨n-1,by omega,rfl,by omega,by omega,h2⟩
 ·have hi:=H.ge e
  rw[List.drop_of_length_le (by omega)]at h2
  rw[h2]at HK
  exact HK
theorem lT{S:Nat->Prop}{h:Heap}{g:Sl}{aD:List (List Int)}(H:bL S h g aD):qR Tryz.prog 82 #[.agg #[g.v]] h (VB (aM aD)):=by
 intro K HK
 refine v82 g h K ?_
 intro b1 h1 dT hf1 bF
 have f1:=hf1.aF
 have hlen:=H.len
 refine cY _ _ _ _ _ ⟨_,rfl,bF,fun e=> ?_,fun e=> ?_⟩
 ·have e3:iB 1 8 aD.length=false:=by have:=aX e;rw[hlen]at this;exact this
  have:aM aD=false:=by unfold aM;rw[e3];rfl
  rw[<-this];exact HK _ f1
 ·have e3:iB 1 8 aD.length=true:=by have:=aW e;rw[hlen]at this;exact this
  have hw:aL ((g.n:Int)-1)=(aD.length:Int)-1:=by rw[hlen];exact aH _ (by omega) (by have:=pR H.JE;omega)
  have hg:aM aD=aD.all fun l=> !decide (5<(l.length:Int))&&l.all (iB 0 ((aD.length:Int)-1)):=by unfold aM;rw[e3];rfl
  rw[hw]
  refine⟨fun n i h'=>Fr No h1 h'/\0<=i/\i+n=(aD.length:Int)/\aM aD=(aD.drop i.toNat).all (fun l=> !decide (5<(l.length:Int))&&l.all (iB 0 ((aD.length:Int)-1))),⟨aD.length,Fr.refl _ _,by omega,by omega,by simp[hg]⟩,?_⟩
  rintro n i h3 ⟨f3,h0,h2,h4⟩ hL
  have H3:=(H.no f1).no f3
  refine⟨fun e=> ?_,fun e=> ?_⟩
  ·have hi:=H.lt e
   obtain⟨si,hc,Hi⟩:=H3.get h0 hi
   refine⟨H3.bB h0 hi,si,hc,fun e5=> ?_,fun e5=> ?_⟩
   ·rw[drop_cons aD h0 hi,List.all_cons]at h4
    rw[Hi.len]at e5
    rw[e5]at h4
    have h5:aM aD=false:=by rw[h4];rfl
    rw[<-h5];exact HK _ (f1.trans f3)
   ·rw[drop_cons aD h0 hi,List.all_cons]at h4
    rw[Hi.len]at e5
    rw[e5]at h4
    refine CB Hi _ _ _ ⟨_,rfl,hL,fun e6=> ?_,fun e6=> ?_⟩
    ·rw[aX e6]at h4
     have h5:aM aD=false:=by rw[h4];rfl
     rw[<-h5];exact HK _ (f1.trans f3)
    ·rw[aW e6]at h4
     rw[H.succ h0 hi]
     exact⟨n-1,by omega,f3,by omega,by omega,by rw[h4];rfl⟩
  ·have hi:=H.ge e
   rw[List.drop_of_length_le (by omega)]at h4
   have h5:aM aD=true:=by rw[h4];rfl
   rw[<-h5];exact HK _ (f1.trans f3)
theorem E6{S:Nat->Prop}{h:Heap}{s:Sl}{xs:List Int}(H:aP S h s xs)(f:Value)(p:Int->Bool)(hf:∀(x:Int)(K:Value->Heap->Prop),K (VB (p x)) h->fD Tryz.prog f [VI x] h K)(K:Value->Heap->Prop)(HK:∀r:Int,decide (0<=r)=xs.any p->K (VI r) h):aE Tryz.prog 91 #[s.v,f] h K:=by
 refine v91 s f h K ⟨fun n i h'=>h'=h/\0<=i/\i+n=(xs.length:Int)/\xs.any p=(xs.drop i.toNat).any p,⟨xs.length,rfl,by omega,by omega,by simp⟩,?_⟩
 rintro n i _ ⟨rfl,i0,i1,i2⟩ hL
 refine⟨fun e=> ?_,fun e=> ?_⟩
 ·have hi:=H.lt e
  rw[drop_cons xs i0 hi,List.any_cons]at i2
  refine⟨H.bB i0 hi,_,H.get i0 hi,hf _ _ ⟨_,rfl,.nil,fun e=> ?_,fun e=> ?_⟩⟩
  ·rw[e,Bool.true_or]at i2
   exact HK _ (by rw[i2];simpa using i0)
  ·rw[e,Bool.false_or]at i2
   rw[H.succ i0 hi]
   exact⟨n-1,by omega,rfl,by omega,by omega,i2⟩
 ·have hi:=H.ge e
  rw[List.drop_of_length_le (by omega)]at i2
  exact HK _ (by rw[i2];rfl)
theorem oS{S:Nat->Prop}{h:Heap}{s:Sl}{xs:List Int}(H:aP S h s xs)(f:Value)(p:Int->Bool)(hf:∀(x:Int)(K:Value->Heap->Prop),K (VB (p x)) h->fD Tryz.prog f [VI x] h K)(K:Value->Heap->Prop)(HK:K (VB (xs.any p)) h):aE Tryz.prog 53 #[s.v,f] h K:=by
 refine v53 s f h K (E6 H f p hf _ fun r hr=>⟨r,rfl,.nil,?_⟩)
 rw[hr];exact HK
theorem HM{h:Heap}{b:Nat}{n:Int}(x:Int){L:List (Nat×List Value)}(hL:Vars h ((b,[VI n])::L))(K:Value->Heap->Prop)(HK:K (VB (! iB 0 (aL (n-1)) x)) h):fD Tryz.prog (.func (.func 88) #[] #[VP b 0]) [VI x] h K:=by
 refine v88 x b n h K (.cons hL.head (by simp) .nil) ?_
 refine eJ _ _ _ _ _ ⟨_,rfl,.cons hL.head (by simp) .nil,?_⟩
 exact HK
theorem VJ{h:Heap}{b:Nat}{g:Sl}(x:Int){L:List (Nat×List Value)}(hL:Vars h ((b,[g.v])::L))(K:Value->Heap->Prop)(HK:K (VB (! iB 0 (aL (g.n-1)) x)) h):fD Tryz.prog (.func (.func 147) #[] #[VP b 0]) [VI x] h K:=by
 refine af2 x b g h K (.cons hL.head (by simp) .nil) ?_
 refine eJ _ _ _ _ _ ⟨_,rfl,.cons hL.head (by simp) .nil,?_⟩
 exact HK
theorem Bb{aD:List (List Int)}(e3:iB 1 8 aD.length=true):aM aD=aD.all fun l=> !decide (5<(l.length:Int))&&l.all (iB 0 ((aD.length:Int)-1)):=by unfold aM;rw[e3];rfl
theorem Ll{aD:List (List Int)}(e3:iB 1 8 aD.length=false):aM aD=false:=by unfold aM;rw[e3];rfl
theorem CC{xs:List Int}{p:Int->Bool}:xs.any (fun x=> !p x)= !xs.all p:=by
 induction xs with
 |nil=>rfl
 |cons x xs ih=>simp only[List.any_cons,List.all_cons,ih,Bool.not_and]
theorem wq{S:Nat->Prop}{h:Heap}{g:Sl}{aD:List (List Int)}(H:bL S h g aD):aL ((g.n:Int)-1)=(aD.length:Int)-1:=by
 rw[H.len]
 have h1:=pR H.JE
 have h2:=H.len
 exact aH _ (by omega) (by omega)
theorem Bc{S:Nat->Prop}{h:Heap}{g:Sl}{aD:List (List Int)}(H:bL S h g aD):qR Tryz.prog 50 #[.agg #[g.v]] h (VB (aM aD)):=by
 intro K HK
 refine v50 g h K fun b1 b2 h1 dT dC hf1 bF=> ?_
 have f1:=hf1.aF
 have hlen:=H.len
 refine eJ _ _ _ _ _ ⟨_,rfl,bF,fun e=> ?_,fun e=> ?_⟩
 ·have e3:iB 1 8 aD.length=false:=by have:=aX e;rw[hlen]at this;exact this
  rw[<-Ll e3];exact HK _ f1
 ·have e3:iB 1 8 aD.length=true:=by have:=aW e;rw[hlen]at this;exact this
  have hg:=Bb e3
  refine⟨fun n i x h'=>h'=h1/\x=(g.n:Int)/\0<=i/\i+n=(aD.length:Int)/\aM aD=(aD.drop i.toNat).all (fun l=> !decide (5<(l.length:Int))&&l.all (iB 0 ((aD.length:Int)-1))),⟨aD.length,rfl,rfl,by omega,by omega,by simp[hg]⟩,?_⟩
  rintro n i x _ ⟨rfl,rfl,h0,h2,h4⟩ hL
  have H3:=H.no f1
  refine⟨fun e=> ?_,fun e=> ?_⟩
  ·have hi:=H.lt e
   obtain⟨si,hc,Hi⟩:=H3.get h0 hi
   rw[drop_cons aD h0 hi,List.all_cons]at h4
   refine⟨H3.bB h0 hi,si,hc,fun e5=> ?_,fun e5=> ?_⟩
   ·rw[Hi.len]at e5
    rw[e5]at h4
    have h5:aM aD=false:=by rw[h4];rfl
    rw[<-h5];exact HK _ f1
   ·rw[Hi.len]at e5
    rw[e5]at h4
    refine oS Hi _ _ (fun x K HK=>HM x hL K HK) _ ?_
    refine⟨_,_,rfl,hL,fun e6=> ?_,fun e6=> ?_⟩
    ·rw[CC,wq H]at e6
     rw[aX e6]at h4
     have h5:aM aD=false:=by rw[h4];rfl
     rw[<-h5];exact HK _ f1
    ·rw[CC,wq H]at e6
     rw[aW e6]at h4
     rw[H.succ h0 hi]
     exact⟨n-1,by omega,rfl,rfl,by omega,by omega,by rw[h4];rfl⟩
  ·have hi:=H.ge e
   rw[List.drop_of_length_le (by omega)]at h4
   have h5:aM aD=true:=by rw[h4];rfl
   rw[<-h5];exact HK _ f1
theorem sA{S S':Nat->Prop}{h:Heap}{g s:Sl}{aD:List (List Int)}{ps:List Int}(H:bL S h g aD)(Hp:aP S' h s ps):qR Tryz.prog 107 #[.agg #[g.v],s.v] h (VB (aM aD&&ps.all (iB 0 ((aD.length:Int)-1)))):=by
 intro K HK
 refine v107 g s h K fun b1 h1 dT f1 bF=> ?_
 have f1:=f1.aF
 refine Bc (H.no f1) _ fun h2 f2=>⟨_,rfl,bF.aB f2,fun e=> ?_,fun e=> ?_⟩
 ·rw[e,Bool.true_and]at HK
  have bW:=bF.aB f2
  refine oS ((Hp.no f1).no f2) _ _ (fun x K HK=>VJ x bW K HK) _ ?_
  refine⟨_,_,rfl,bW,?_⟩
  rw[CC,wq H,Bool.not_not]
  exact HK _ (f1.trans f2)
 ·rw[e,Bool.false_and]at HK
  exact HK _ (f1.trans f2)
theorem cQ{S:Nat->Prop}{h:Heap}{g:Sl}{aD:List (List Int)}(H:bL S h g aD)(p:Int):qR Tryz.prog 121 #[.agg #[g.v],VI p] h (VB (aM aD&&iB 0 ((aD.length:Int)-1) p)):=by
 intro K HK
 refine afs g p h K fun b1 h1 dT f1 bF=> ?_
 have f1:=f1.aF
 refine lT (H.no f1) _ fun h2 f2=>⟨_,rfl,bF.aB f2,fun e=> ?_,fun e=> ?_⟩
 ·rw[e,Bool.true_and]at HK
  refine cY _ _ _ _ _ ⟨_,rfl,bF.aB f2,?_⟩
  rw[wq H]
  exact HK _ (f1.trans f2)
 ·rw[e,Bool.false_and]at HK
  exact HK _ (f1.trans f2)
theorem Af(a b:Int)(h:Heap)(K:Value->Heap->Prop)(HK:K (VI (max a b)) h):aE Tryz.prog 122 #[VI a,VI b] h K:=by
 refine abL a b h K ⟨fun e=> ?_,fun e=> ?_⟩
 ·simp only[decide_eq_true_eq]at e
  rw[Int.max_eq_left (by omega)]at HK
  exact HK
 ·simp only[decide_eq_false_iff_not]at e
  rw[Int.max_eq_right (by omega)]at HK
  exact HK
def Ag(l:List Int)(r:Int):Bool:=iB 0 (max ((l.length:Int)-1) 0) r
def eW(g:List (List Int))(rs:List Int)(p:Int):Bool:=aM g&&iB 0 ((g.length:Int)-1) p&&decide (rs.length=g.length)&&(g.zip rs).all fun q=>Ag q.1 q.2
theorem Bd{g:List (List Int)}{rs:List Int}{p:Int}(e:(aM g&&iB 0 ((g.length:Int)-1) p)=false):eW g rs p=false:=by unfold eW;rw[e];rfl
theorem Be{g:List (List Int)}{rs:List Int}{p:Int}(e:¬rs.length=g.length):eW g rs p=false:=by unfold eW;rw[decide_eq_false e];simp
theorem E7{g:List (List Int)}{rs:List Int}{p:Int}(e:(aM g&&iB 0 ((g.length:Int)-1) p)=true)(e2:rs.length=g.length):eW g rs p=(g.zip rs).all fun q=>Ag q.1 q.2:=by unfold eW;rw[e,decide_eq_true e2];rfl
theorem E8(g:List (List Int))(rs:List Int){i:Int}(h0:0<=i)(h1:i<(g.length:Int))(h2:i<(rs.length:Int)):(g.zip rs).drop i.toNat=(g[i.toNat]'(by omega),rs[i.toNat]'(by omega))::(g.zip rs).drop (i+1).toNat:=by
 have:=drop_cons (g.zip rs) h0 (by simp;omega)
 simpa using this
theorem E9{S:Nat->Prop}{h:Heap}{g:Sl}{xs:List Int}(H:aP S h g xs):aL ((g.n:Int)-1)=(xs.length:Int)-1:=by
 rw[H.len]
 have h1:=pR (cW.JE H)
 have h2:=H.len
 exact aH _ (by omega) (by omega)
theorem sB{S S':Nat->Prop}{h:Heap}{g s:Sl}{aD:List (List Int)}{rs:List Int}(G:bL S h g aD)(H:aP S' h s rs)(p:Int):qR Tryz.prog 77 #[.agg #[g.v],.agg #[s.v,VI p]] h (VB (eW aD rs p)):=by
 intro K HK
 refine v77 g s p h K fun b1 b2 h1 dT dC f1 bF=> ?_
 have f1:=f1.aF
 refine aQ fy (fun k=>h1.size<=k) (fun _ h=>h) 1 (by omega) [VI p] rfl rfl fun t h2 n2 c2 o2 f2 l2 _=>⟨t,rfl,bF.aB f2,?_⟩
 have o2:aP (fun k=>h1.size<=k) h2 t [p]:=o2.eQ
 refine sA ((G.no f1).no f2) o2 _ fun h3 f3=>⟨_,rfl,(bF.aB f2).aB f3,fun e=> ?_,fun e=> ?_⟩
 all_goals simp only[List.all_cons,List.all_nil,Bool.and_true]at e
 ·rw[<-Bd (rs:=rs) (aX e)];exact HK _ ((f1.aA f2).aA f3)
 ·have f13:=(f1.aA f2).aA f3
  rw[G.len,H.len]
  refine⟨fun e2=> ?_,fun e2=> ?_⟩
  ·have e3:=aX e2
   simp only[decide_eq_false_iff_not]at e3
   rw[<-Be (g:=aD) (rs:=rs) (p:=p) (by omega)];exact HK _ f13
  ·have e3:=aW e2
   simp only[decide_eq_true_eq]at e3
   have e4:=E7 (aW e) (rs:=rs) (by omega)
   have G3:=G.no f13
   have H3:=H.no f13
   refine⟨fun n i h'=>h'=h3/\0<=i/\i+n=(aD.length:Int)/\eW aD rs p=((aD.zip rs).drop i.toNat).all fun q=>Ag q.1 q.2,⟨aD.length,rfl,by omega,by omega,by simpa using e4⟩,?_⟩
   rintro n i _ ⟨rfl,i0,i1,i2⟩ hL
   refine⟨fun e5=> ?_,fun e5=> ?_⟩
   ·have hi:i<(rs.length:Int):=by simpa using e5
    have gH:i<(aD.length:Int):=by omega
    obtain⟨si,c1,c2⟩:=G3.get i0 gH
    rw[E8 aD rs i0 gH hi,List.all_cons]at i2
    refine⟨H3.bB i0 hi,_,H3.get i0 hi,G3.bB i0 gH,si,c1,?_⟩
    rw[E9 c2]
    refine Ci _ _ _ _ ⟨_,rfl,eJ _ _ _ _ _ ⟨_,rfl,hL,fun e6=> ?_,fun e6=> ?_⟩⟩
    ·have e7:Ag (aD[i.toNat]'(by omega)) (rs[i.toNat]'(by omega))=false:=aX e6
     simp only at i2
     rw[e7]at i2
     have e8:eW aD rs p=false:=by rw[i2];rfl
     rw[<-e8];exact HK _ f13
    ·have e7:Ag (aD[i.toNat]'(by omega)) (rs[i.toNat]'(by omega))=true:=aW e6
     simp only at i2
     rw[e7,Bool.true_and]at i2
     rw[H.succ i0 hi]
     exact⟨n-1,by omega,rfl,by omega,by omega,i2⟩
   ·have hi:¬i<(rs.length:Int):=by simpa using e5
    rw[List.drop_of_length_le (by simp;omega)]at i2
    have e8:eW aD rs p=true:=by rw[i2];rfl
    rw[<-e8];exact HK _ f13
theorem fi{S S':Nat->Prop}{h:Heap}{g s:Sl}{aD:List (List Int)}{rs:List Int}(G:bL S h g aD)(H:aP S' h s rs)(p:Int):qR Tryz.prog 83 #[.agg #[g.v],.agg #[s.v,VI p]] h (VB (eW aD rs p)):=by
 intro K HK
 refine v83 g s p h K fun b1 b2 h1 dT dC f1 bF=> ?_
 have f1:=f1.aF
 refine cQ (G.no f1) p _ fun h3 f3=>⟨_,rfl,bF.aB f3,fun e=> ?_,fun e=> ?_⟩
 ·rw[<-Bd (rs:=rs) (aX e)];exact HK _ (f1.aA f3)
 ·have f13:=f1.aA f3
  rw[G.len,H.len]
  refine⟨fun e2=> ?_,fun e2=> ?_⟩
  ·have e3:=aX e2
   simp only[decide_eq_false_iff_not]at e3
   rw[<-Be (g:=aD) (rs:=rs) (p:=p) (by omega)];exact HK _ f13
  ·have e3:=aW e2
   simp only[decide_eq_true_eq]at e3
   have e4:=E7 (aW e) (rs:=rs) (by omega)
   have G3:=G.no f13
   have H3:=H.no f13
   refine⟨fun n i h'=>h'=h3/\0<=i/\i+n=(aD.length:Int)/\eW aD rs p=((aD.zip rs).drop i.toNat).all fun q=>Ag q.1 q.2,⟨aD.length,rfl,by omega,by omega,by simpa using e4⟩,?_⟩
   rintro n i _ ⟨rfl,i0,i1,i2⟩ hL
   refine⟨fun e5=> ?_,fun e5=> ?_⟩
   ·have gH:i<(aD.length:Int):=by simpa using e5
    have hi:i<(rs.length:Int):=by omega
    obtain⟨si,c1,c2⟩:=G3.get i0 gH
    rw[E8 aD rs i0 gH hi,List.all_cons]at i2
    refine⟨G3.bB i0 gH,si,c1,H3.bB i0 hi,_,H3.get i0 hi,?_⟩
    rw[E9 c2]
    refine Af _ _ _ _ ⟨_,rfl,hL,H3.get i0 hi,?_⟩
    rw[Int.max_comm]
    refine cY _ _ _ _ _ ⟨_,rfl,hL,fun e6=> ?_,fun e6=> ?_⟩
    ·have e7:Ag (aD[i.toNat]'(by omega)) (rs[i.toNat]'(by omega))=false:=aX e6
     simp only at i2
     rw[e7]at i2
     have e8:eW aD rs p=false:=by rw[i2];rfl
     rw[<-e8];exact HK _ f13
    ·have e7:Ag (aD[i.toNat]'(by omega)) (rs[i.toNat]'(by omega))=true:=aW e6
     simp only at i2
     rw[e7,Bool.true_and]at i2
     rw[G.succ i0 gH]
     exact⟨n-1,by omega,rfl,by omega,by omega,i2⟩
   ·have hi:¬i<(aD.length:Int):=by simpa using e5
    rw[List.drop_of_length_le (by simp;omega)]at i2
    have e8:eW aD rs p=true:=by rw[i2];rfl
    rw[<-e8];exact HK _ f13
theorem Fa{S S':Nat->Prop}{h:Heap}{a b:Sl}{xs ys:List Int}(H:aP S h a xs)(H':aP S' h b ys)(K:Value->Heap->Prop)(HK:K (VB (decide (xs=ys))) h):aE Tryz.prog 35 #[a.v,b.v] h K:=by
 refine v35 a b h K ⟨fun e=> ?_,fun e=> ?_⟩
 ·have e1:=aX e
  rw[H.len,H'.len]at e1
  have:¬xs=ys:=fun e2=>by subst e2;simp at e1
  rw[decide_eq_false this]at HK
  exact HK
 ·have e1:=aW e
  rw[H.len,H'.len]at e1
  have hl:xs.length=ys.length:=by simp at e1;omega
  refine⟨fun n i h'=>h'=h/\0<=i/\i+n=(xs.length:Int)/\decide (xs=ys)=decide (xs.drop i.toNat=ys.drop i.toNat),⟨xs.length,rfl,by omega,by omega,by simp⟩,?_⟩
  rintro n i _ ⟨rfl,h0,h1,h2⟩ hL
  refine⟨fun e=> ?_,fun e=> ?_⟩
  ·have hi:=H.lt e
   have gH:i<(ys.length:Int):=by omega
   refine⟨H.bB h0 hi,_,H.get h0 hi,H'.bB h0 gH,_,H'.get h0 gH,fun e=> ?_,fun e=> ?_⟩
   ·rw[drop_cons xs h0 hi,drop_cons ys h0 gH]at h2
    have e3:=aX e
    simp only[decide_eq_false_iff_not]at e3
    rw[h2,decide_eq_false (fun e4=>e3 (List.cons.inj e4).1)]at HK
    exact HK
   ·rw[drop_cons xs h0 hi,drop_cons ys h0 gH]at h2
    have e3:=aW e
    simp only[decide_eq_true_eq]at e3
    rw[H.succ h0 hi]
    refine⟨n-1,by omega,rfl,by omega,by omega,h2.trans ?_⟩
    rw[e3]
    simp
  ·have hi:=H.ge e
   rw[List.drop_of_length_le (by omega),List.drop_of_length_le (by omega)]at h2
   rw[h2]at HK
   exact HK
theorem Lm{S S':Nat->Prop}{h:Heap}{a b:Sl}{xs ys:List (List Int)}(H:bL S h a xs)(H':bL S' h b ys)(K:Value->Heap->Prop)(HK:K (VB (decide (xs=ys))) h):aE Tryz.prog 97 #[a.v,b.v] h K:=by
 refine v97 a b h K ⟨fun e=> ?_,fun e=> ?_⟩
 ·have e1:=aX e
  rw[H.len,H'.len]at e1
  have:¬xs=ys:=fun e2=>by subst e2;simp at e1
  rw[decide_eq_false this]at HK
  exact HK
 ·have e1:=aW e
  rw[H.len,H'.len]at e1
  have hl:xs.length=ys.length:=by simp at e1;omega
  refine⟨fun n i h'=>h'=h/\0<=i/\i+n=(xs.length:Int)/\decide (xs=ys)=decide (xs.drop i.toNat=ys.drop i.toNat),⟨xs.length,rfl,by omega,by omega,by simp⟩,?_⟩
  rintro n i _ ⟨rfl,h0,h1,h2⟩ hL
  refine⟨fun e=> ?_,fun e=> ?_⟩
  ·have hi:=H.lt e
   have gH:i<(ys.length:Int):=by omega
   obtain⟨x,cx,rx⟩:=H.get h0 hi
   obtain⟨y,cy,ry⟩:=H'.get h0 gH
   refine⟨H.bB h0 hi,x,cx,H'.bB h0 gH,y,cy,Fa rx ry _ ⟨_,rfl,hL,fun e=> ?_,fun e=> ?_⟩⟩
   ·rw[drop_cons xs h0 hi,drop_cons ys h0 gH]at h2
    have e3:=aX e
    simp only[decide_eq_false_iff_not]at e3
    rw[h2,decide_eq_false (fun e4=>e3 (List.cons.inj e4).1)]at HK
    exact HK
   ·rw[drop_cons xs h0 hi,drop_cons ys h0 gH]at h2
    have e3:=aW e
    simp only[decide_eq_true_eq]at e3
    rw[H.succ h0 hi]
    refine⟨n-1,by omega,rfl,by omega,by omega,h2.trans ?_⟩
    rw[e3]
    simp
  ·have hi:=H.ge e
   rw[List.drop_of_length_le (by omega),List.drop_of_length_le (by omega)]at h2
   rw[h2]at HK
   exact HK
theorem Ln{S S':Nat->Prop}{h:Heap}{a b:Sl}{xs ys:List (List Int)}(H:bL S h a xs)(H':bL S' h b ys):qR Tryz.prog 60 #[.agg #[a.v],.agg #[b.v]] h (VB (decide (xs=ys))):=by
 intro K HK
 refine v60 a b h K fun b1 b2 h1 dT dC f1 bF=> ?_
 refine Lm (H.no f1.aF) (H'.no f1.aF) _ ⟨_,rfl,bF,fun e=> ?_,fun e=> ?_⟩
 ·rw[<-aX e];exact HK _ f1.aF
 ·rw[<-aW e];exact HK _ f1.aF
theorem NJ{S S':Nat->Prop}{h:Heap}{a b:Sl}{xs ys:List Int}(H:aP S h a xs)(H':aP S' h b ys)(p q:Int):qR Tryz.prog 61 #[.agg #[a.v,VI p],.agg #[b.v,VI q]] h (VB (decide (xs=ys/\p=q))):=by
 intro K HK
 refine v61 a p b q h K fun b1 b2 h1 dT dC f1 bF=> ?_
 refine Fa (H.no f1.aF) (H'.no f1.aF) _ ⟨_,rfl,bF,fun e=> ?_,fun e=> ?_⟩
 ·have e3:=aX e
  simp only[decide_eq_false_iff_not]at e3
  rw[decide_eq_false fun e4=>e3 e4.1]at HK
  exact HK _ f1.aF
 ·have e3:=aW e
  simp only[decide_eq_true_eq]at e3
  refine⟨fun e=> ?_,fun e=> ?_⟩
  ·have e5:=aX e
   simp only[decide_eq_false_iff_not]at e5
   rw[decide_eq_false fun e4=>e5 e4.2]at HK
   exact HK _ f1.aF
  ·have e5:=aW e
   simp only[decide_eq_true_eq]at e5
   rw[decide_eq_true ⟨e3,e5⟩]at HK
   exact HK _ f1.aF
theorem Fb{S S' T T':Nat->Prop}{h:Heap}{a b c d:Sl}{aD yss:List (List Int)}{xs ys:List Int}(G:bL S h a aD)(G':bL S' h b yss)(H:aP T h c xs)(H':aP T' h d ys)(p q:Int):qR Tryz.prog 21 #[.agg #[a.v,c.v,VI p],.agg #[b.v,d.v,VI q]] h (VB (decide (aD=yss/\xs=ys/\p=q))):=by
 intro K HK
 refine v21 a c p b d q h K fun b1 b2 h1 dT dC f1 bF=> ?_
 have f1:=f1.aF
 refine Ln (G.no f1) (G'.no f1) _ fun h2 f2=>⟨_,rfl,bF.aB f2,fun e=> ?_,fun e=> ?_⟩
 ·have e3:=aX e
  simp only[decide_eq_false_iff_not]at e3
  rw[decide_eq_false fun e4=>e3 e4.1]at HK
  exact HK _ (f1.trans f2)
 ·have e3:=aW e
  simp only[decide_eq_true_eq]at e3
  have f12:=f1.aA f2
  refine NJ (H.no f12) (H'.no f12) p q _ fun h3 f3=>⟨_,rfl,(bF.aB f2).aB f3,fun e=> ?_,fun e=> ?_⟩
  ·have e5:=aX e
   simp only[decide_eq_false_iff_not]at e5
   rw[decide_eq_false fun e4=>e5 e4.2]at HK
   exact HK _ (f12.trans f3)
  ·have e5:=aW e
   simp only[decide_eq_true_eq]at e5
   rw[decide_eq_true ⟨e3,e5⟩]at HK
   exact HK _ (f12.trans f3)
def od(k:Int):List Int->List Int
 |[]=>[]
 |_::xs=>k::od (k+1) xs
theorem gB:∀(k:Int)(xs:List Int),(od k xs).length=xs.length
 |_,[]=>rfl
 |k,_::xs=>by simp[od,gB (k+1) xs]
theorem xM:∀(xs:List Int)(k:Int)(i:Nat)(h:i<(od k xs).length),(od k xs)[i]=k+i
 |[],k,i,h=>by simp[od]at h
 |x::xs,k,0,h=>by simp[od]
 |x::xs,k,i+1,h=>by
  simp only[od,List.getElem_cons_succ]
  rw[xM xs (k+1) i]
  omega
def fe(aD:List (List Int)):Nat:=(aD.map List.length).sum
def ny(k:Int):List (List Int)->List (List Int)
 |[]=>[]
 |xs::aD=>od k xs::ny (k+xs.length) aD
theorem fG:∀(k:Int)(aD:List (List Int)),(ny k aD).length=aD.length
 |_,[]=>rfl
 |k,xs::aD=>by simp[ny,fG (k+xs.length) aD]
theorem xP:∀(aD:List (List Int))(k:Int)(i:Nat)(h:i<(ny k aD).length)(h':i<aD.length),(ny k aD)[i]=od (k+fe (aD.take i)) aD[i]
 |[],k,i,h,_=>by simp[ny]at h
 |x::xs,k,0,h,_=>by simp[ny,fe]
 |x::xs,k,i+1,h,h'=>by
  simp only[ny,List.getElem_cons_succ]
  rw[xP xs _ i (by simpa[ny]using h) (by simpa using h')]
  congr 1
  simp[fe]
  omega
theorem iM:∀(aD:List (List Int))(i:Nat),fe (aD.take i)<=fe aD
 |[],i=>by simp[fe]
 |x::xs,0=>by simp[fe]
 |x::xs,i+1=>by
  have:=iM xs i
  simp only[fe,List.take_succ_cons,List.map_cons,List.sum_cons]at*
  omega
theorem Bf(aD:List (List Int))(i:Nat)(h:i<aD.length):fe (aD.take (i+1))=fe (aD.take i)+aD[i].length:=by
 rw[List.take_succ_eq_append_getElem h]
 simp only[fe,List.map_append,List.sum_append,List.map_cons,List.map_nil,List.sum_cons,List.sum_nil]
 omega
theorem xQ{F:Nat->Prop}{h:Heap}{s:Sl}{xs:List Int}(H:bM h F s xs)(k:Int)(h0:0<=k)(hk:k<=1000000000000000)(hn:xs.length<=1000000000000)(K:Value->Heap->Prop)(HK:∀h',bM h' F s (od k xs)->Fr s.own h h'->K (VI (k+xs.length)) h'):aE Tryz.prog 36 #[s.v,VI k] h K:=by
 have hl:s.n=xs.length:=by have:=H.len;simp at this;omega
 refine v36 s k h K ⟨fun n k' i h'=>0<=i/\i+n=(xs.length:Int)/\k'=k+i/\bM h' F s ((od k xs).take i.toNat++xs.drop i.toNat)/\Fr s.own h h',⟨xs.length,by omega,by omega,by omega,by simpa using H,Fr.refl _ _⟩,?_⟩
 rintro n k' i h' ⟨i0,i1,rfl,H',f⟩ hL
 refine⟨fun e=> ?_,fun e=> ?_⟩
 ·have hi:i<(s.n:Int):=by simpa using e
  have ws:aL (i+1)=i+1:=aH _ (by omega) (by omega)
  have wk:aL (k+i+1)=k+i+1:=aH _ (by omega) (by omega)
  obtain⟨w1,w2,w3⟩:=H'.eX i0 hi (VI (k+i))
  refine⟨H'.bB i0 hi,w1,.nil,fun h2 e2 _=> ?_⟩
  rw[ws,wk]
  refine⟨n-1,by omega,by omega,by omega,by omega,?_,?_⟩
  ·subst e2
   have e3:VI (k+i)=VI ((od k xs)[i.toNat]'(by rw[gB];omega)):=by rw[xM];congr 1;omega
   rw[e3]at w2⊢
   rw[<-List.map_set,Cb _ _ _ _ (by omega)]at w2
   rw[ig i0]
   exact w2
  ·subst e2;exact f.trans w3
 ·have hi:¬i<(s.n:Int):=by simpa using e
  have e4:i=xs.length:=by omega
  subst e4
  have:=HK h' (by simpa[List.take_of_length_le,gB]using H') f
  exact this
theorem Fc{F:Nat->Prop}{h:Heap}{s:Sl}{aD:List (List Int)}(H:fQ h F s aD)(k:Int)(h0:0<=k)(hk:k<=100000000000)(hn:fe aD<=100000000000)(K:Value->Heap->Prop)(HK:∀h',fQ h' F s (ny k aD)->Fr F h h'->K (VI (k+fe aD)) h'):aE Tryz.prog 98 #[s.v,VI k] h K:=by
 have hl:s.n=aD.length:=H.len
 have Lo:=H.rd.JE
 refine v98 s k h K ⟨fun n k' i h'=>0<=i/\i+n=(aD.length:Int)/\k'=k+fe (aD.take i.toNat)/\fQ h' F s ((ny k aD).take i.toNat++aD.drop i.toNat)/\Fr F h h',⟨aD.length,by omega,by omega,by simp[fe],by simpa using H,Fr.refl _ _⟩,?_⟩
 rintro n k' i h' ⟨i0,i1,rfl,H',f⟩ hL
 refine⟨fun e=> ?_,fun e=> ?_⟩
 ·have hi:i<(s.n:Int):=by simpa using e
  have hlen:((ny k aD).take i.toNat++aD.drop i.toNat).length=aD.length:=by simp[fG];omega
  have abP:((ny k aD).take i.toNat).length=i.toNat:=by simp[fG];omega
  obtain⟨si,c1,c2,c3⟩:=H'.inner i0 (by omega)
  have e1:((ny k aD).take i.toNat++aD.drop i.toNat)[i.toNat]'(by omega)=aD[i.toNat]'(by omega):=by
   rw[List.getElem_append_right (by omega)]
   simp[abP]
  rw[e1]at c2
  have hle:=iM aD i.toNat
  have aiM:=iM aD (i.toNat+1)
  have hsn:=Bf aD i.toNat (by omega)
  refine⟨H'.rd.bB i0 (by omega),si,c1,xQ c2 _ (by omega) (by omega) (by omega) _ fun h2 o2 f2=>⟨_,rfl,.nil,n-1,by omega,?_,?_,?_,?_,?_⟩⟩
  ·rw[mg i0 hi Lo];omega
  ·rw[mg i0 hi Lo];omega
  ·rw[mg i0 hi Lo,ig i0,hsn];omega
  ·rw[mg i0 hi Lo]
   have:=c3 h2 _ f2 o2
   rw[<-xP aD k i.toNat (by rw[fG];omega) (by omega),Cb _ _ _ _ (by omega)]at this
   rw[ig i0]
   exact this
  ·exact f.trans (f2.mono fun k _ hk=>(c2.aG hk).1)
 ·have hi:¬i<(s.n:Int):=by simpa using e
  have e4:i=aD.length:=by omega
  subst e4
  have:=HK h' (by simpa[List.take_of_length_le,fG]using H') f
  simpa using this
theorem xR{S:Nat->Prop}{h:Heap}{s:Sl}{xs:List Int}(k:Int)(H:aP S h s (od k xs))(h0:0<=k)(hk:k<=1000000000000000)(hn:xs.length<=1000000000000)(K:Value->Heap->Prop)(HK:K (VI (k+xs.length)) h):aE Tryz.prog 37 #[s.v,VI k] h K:=by
 have hl:s.n=xs.length:=by have:=H.len;rw[gB]at this;exact this
 refine v37 s k h K ⟨fun n k' i h'=>h'=h/\0<=i/\i+n=(xs.length:Int)/\k'=k+i,⟨xs.length,rfl,by omega,by omega,by omega⟩,?_⟩
 rintro n k' i _ ⟨rfl,i0,i1,rfl⟩ hL
 refine⟨fun e=> ?_,fun e=> ?_⟩
 ·have hi:=H.lt e
  refine⟨H.bB i0 hi,_,H.get i0 hi,fun e=> ?_,fun e=> ?_⟩
  ·have e5:=aX e
   simp only[decide_eq_false_iff_not]at e5
   rw[xM]at e5
   omega
  ·rw[H.succ i0 hi,aH _ (by omega) (by rw[gB]at hi;omega)]
   rw[gB]at hi
   exact⟨n-1,by omega,rfl,by omega,by omega,by omega⟩
 ·have hi:=H.ge e
  rw[gB]at hi
  have e4:i=xs.length:=by omega
  rw[e4]
  exact HK
theorem Fe{S:Nat->Prop}{h:Heap}{s:Sl}{aD:List (List Int)}(k:Int)(H:bL S h s (ny k aD))(h0:0<=k)(hk:k<=100000000000)(hn:fe aD<=100000000000)(K:Value->Heap->Prop)(HK:K (VI (k+fe aD)) h):aE Tryz.prog 99 #[s.v,VI k] h K:=by
 have hl:s.n=aD.length:=by have:=H.len;rw[fG]at this;exact this
 refine v99 s k h K ⟨fun n k' i h'=>h'=h/\0<=i/\i+n=(aD.length:Int)/\k'=k+fe (aD.take i.toNat),⟨aD.length,rfl,by omega,by omega,by simp[fe]⟩,?_⟩
 rintro n k' i _ ⟨rfl,i0,i1,rfl⟩ hL
 refine⟨fun e=> ?_,fun e=> ?_⟩
 ·have hi:=H.lt e
  have gH:i<(aD.length:Int):=by rw[fG]at hi;exact hi
  obtain⟨si,c1,c2⟩:=H.get i0 hi
  rw[xP aD k i.toNat _ (by omega)]at c2
  have hle:=iM aD i.toNat
  have aiM:=iM aD (i.toNat+1)
  have hsn:=Bf aD i.toNat (by omega)
  refine⟨H.bB i0 hi,si,c1,xR _ c2 (by omega) (by omega) (by omega) _ ⟨_,rfl,.nil,fun e=> ?_,fun e=> ?_⟩⟩
  ·simp only[decide_eq_true_eq]at e
   omega
  ·rw[H.succ i0 hi]
   exact⟨n-1,by omega,rfl,by omega,by omega,by rw[ig i0,hsn];omega⟩
 ·have hi:=H.ge e
  rw[fG]at hi
  have e4:i=aD.length:=by omega
  rw[e4]
  simpa using HK
theorem Ff{F:Nat->Prop}{h:Heap}{s:Sl}{aD:List (List Int)}(H:fQ h F s aD)(k:Int)(h0:0<=k)(hk:k<=100000000000)(hn:fe aD<=100000000000)(K:Value->Heap->Prop)(HK:∀h',fQ h' F s (ny k aD)->Fr F h h'->K (VI (k+fe aD)) h'):aE Tryz.prog 62 #[.agg #[s.v],VI k] h K:=by
 refine v62 s k h K fun b1 h1 dT f1 bF=> ?_
 have H1:fQ h1 (fun k=>F k/\k<h.size) s aD:=(H.mono fun k hk hF=>⟨hF,hk⟩:fQ h _ s aD).no f1.aF
 refine Fc H1 k h0 hk hn _ fun h2 o2 f2=> ?_
 refine⟨_,rfl,bF.fr f2 (fun p hp hk=> ?_),?_⟩
 ·obtain rfl:p=(b1,[s.v]):=by simpa using hp
  have:=hk.2
  simp only at this
  omega
 ·exact HK _ (o2.mono fun k _ hk=>hk.1) (f1.aF.aB.trans (f2.mono fun k _ hk=>hk.1))
theorem HO{F:Nat->Prop}{h:Heap}{s:Sl}{xs:List Int}(H:bM h F s xs)(p k:Int)(h0:0<=k)(hk:k<=1000000000000000)(hn:xs.length<=1000000000000)(K:Value->Heap->Prop)(HK:∀h',bM h' F s (od k xs)->Fr s.own h h'->K (VI (k+xs.length)) h'):aE Tryz.prog 63 #[.agg #[s.v,VI p],VI k] h K:=by
 refine v63 s p k h K fun b1 h1 dT f1 bF=> ?_
 refine xQ (Ow.no H f1.aF) k h0 hk hn _ fun h2 o2 f2=> ?_
 refine⟨_,rfl,bF.fr f2 (fun p hp hk=> ?_),?_⟩
 ·obtain rfl:p=(b1,[s.v,_]):=by simpa using hp
  have:=(H.aG hk).2
  simp only at this
  omega
 ·exact HK _ o2 (f1.aF.aB.trans f2)
theorem HP{F F':Nat->Prop}{h:Heap}{s t:Sl}{aD:List (List Int)}{xs:List Int}(G:fQ h F s aD)(H:bM h F' t xs)(hd:∀k,F k->¬F' k)(p k:Int)(h0:0<=k)(hk:k<=100000000000)(hn:fe aD<=100000000000)(hm:xs.length<=1000000000000)(K:Value->Heap->Prop)
 (HK:∀h',fQ h' F s (ny k aD)->bM h' F' t (od (k+fe aD) xs)->Fr (fun k=>F k\/F' k) h h'->K (VI (k+fe aD+xs.length)) h'):aE Tryz.prog 22 #[.agg #[s.v,t.v,VI p],VI k] h K:=by
 refine v22 s t p k h K fun b1 h1 dT f1 bF=> ?_
 have G1:fQ h1 (fun k=>F k/\k<h.size) s aD:=(G.mono fun k hk hF=>⟨hF,hk⟩:fQ h _ s aD).no f1.aF
 have H1:bM h1 (fun k=>F' k/\k<h.size) t xs:=Ow.no (H.mono fun k hk hF=>⟨hF,(H.aG hk).2⟩) f1.aF
 refine Ff G1 k h0 hk hn _ fun h2 o2 f2=> ?_
 have bW:=bF.fr f2 fun p hp hk=>by
  obtain rfl:p=(b1,[s.v,t.v,_]):=by simpa using hp
  have:=hk.2
  simp only at this
  omega
 have H2:=H1.fr f2 fun k hk aI=>hd k aI.1 (H1.aG hk).1.1
 refine⟨_,rfl,bW,?_⟩
 refine HO H2 p _ (by omega) (by omega) (by omega) _ fun h3 o3 f3=> ?_
 refine⟨_,rfl,bW.fr f3 (fun p hp hk=> ?_),?_⟩
 ·obtain rfl:p=(b1,[s.v,t.v,_]):=by simpa using hp
  have:=(H1.aG hk).1.2
  simp only at this
  omega
 ·refine HK _ ((o2.fr f3 fun k _ hk aI=>hd k hk.1 (H2.aG aI).1.1).mono fun k _ hk=>hk.1) (o3.mono fun k _ hk=>hk.1) ?_
  exact(f1.aF.aB.trans (f2.mono fun k _ hk=> .inl hk.1)).trans (f3.mono fun k _ hk=> .inr (H2.aG hk).1.1)
theorem Fg{S:Nat->Prop}{h:Heap}{s:Sl}{aD:List (List Int)}(k:Int)(H:bL S h s (ny k aD))(h0:0<=k)(hk:k<=100000000000)(hn:fe aD<=100000000000):qR Tryz.prog 64 #[.agg #[s.v],VI k] h (VI (k+fe aD)):=by
 intro K HK
 refine v64 s k h K fun b1 h1 dT f1 bF=> ?_
 refine Fe k (H.no f1.aF) h0 hk hn _ ⟨_,rfl,bF,fun e=> ?_,fun e=>HK _ f1.aF⟩
 simp only[decide_eq_true_eq]at e
 omega
theorem HQ{S:Nat->Prop}{h:Heap}{s:Sl}{xs:List Int}(p k:Int)(H:aP S h s (od k xs))(h0:0<=k)(hk:k<=1000000000000000)(hn:xs.length<=1000000000000):qR Tryz.prog 65 #[.agg #[s.v,VI p],VI k] h (VI (k+xs.length)):=by
 intro K HK
 refine v65 s p k h K fun b1 h1 dT f1 bF=> ?_
 refine xR k (H.no f1.aF) h0 hk hn _ ⟨_,rfl,bF,fun e=> ?_,fun e=>HK _ f1.aF⟩
 simp only[decide_eq_true_eq]at e
 omega
theorem xS{S S':Nat->Prop}{h:Heap}{s t:Sl}{aD:List (List Int)}{xs:List Int}(p k:Int)(G:bL S h s (ny k aD))(H:aP S' h t (od (k+fe aD) xs))(h0:0<=k)(hk:k<=100000000000)(hn:fe aD<=100000000000)(hm:xs.length<=1000000000000):qR Tryz.prog 23 #[.agg #[s.v,t.v,VI p],VI k] h (VI (k+fe aD+xs.length)):=by
 intro K HK
 refine v23 s t p k h K fun b1 h1 dT f1 bF=> ?_
 have f1:=f1.aF
 refine Fg k (G.no f1) h0 hk hn _ fun h2 f2=>⟨_,rfl,bF.aB f2,fun e=> ?_,fun e=> ?_⟩
 ·simp only[decide_eq_true_eq]at e
  omega
 ·refine HQ p _ ((H.no f1).no f2) (by omega) (by omega) (by omega) _ fun h3 f3=>⟨_,rfl,(bF.aB f2).aB f3,fun e=> ?_,fun e=>HK _ ((f1.aA f2).trans f3)⟩
  simp only[decide_eq_true_eq]at e
  omega
def nz:List (List Int):=[[1,2],[0,2],[0]]
def NK(h h':Heap)(v:Value):Prop:=∃(g w:Sl)(m:Nat),v= .agg #[g.v,w.v,VI 0]/\fQ h' (fun k=>h.size<=k/\k<m) g nz/\bM h' (fun k=>h.size<=k/\m<=k) w [0,0,0]/\Fr No h h'
theorem HU{h:Heap}{F:Nat->Prop}{e:TypeId}{sz:Nat}{s:Sl}{vs:List Value}(H:Ow h F e sz s vs){n:Nat}(hn:h.size<=n):∀k,s.own k->k<n:=fun k hk=>Nat.lt_of_lt_of_le (H.aG hk).2 hn
theorem Bg{h1:Heap}{K:Value->Heap->Prop}(HK:∀(g:Sl)(h':Heap),fQ h' (fun k=>h1.size<=k) g nz->Fr No h1 h'->K g.v h'):
 jU Tryz.prog (Instr.buildSlice qD 2 #[(0,VI 1),(1,VI 2)]) h1 fun VK h_2=>∃abQ:Sl,VK=abQ.v/\Fr No h1 h_2/\
 jU Tryz.prog (Instr.buildSlice qD 2 #[(0,VI 0),(1,VI 2)]) h_2 fun VM Qv=>∃abR:Sl,VM=abR.v/\Fr No h_2 Qv/\
 jU Tryz.prog (Instr.buildSlice qD 1 #[(0,VI 0)]) Qv fun VN oe=>∃abS:Sl,VN=abS.v/\Fr No Qv oe/\
 jU Tryz.prog (Instr.buildSlice nu 3 #[(0,abQ.v),(1,abR.v),(2,abS.v)]) oe K:=by
 refine aQ fy (fun k=>h1.size<=k) (fun _ h=>h) 2 (by omega) [VI 1,VI 2] rfl rfl fun t1 h2 n1 c1 o1 f1 l1 _=>⟨t1,rfl,f1,?_⟩
 refine aQ fy (fun k=>h1.size<=k) (fun _ h=>Nat.le_trans f1.size h) 2 (by omega) [VI 0,VI 2] rfl rfl fun t2 h3 n2 c2 o2 f2 l2 _=>⟨t2,rfl,f2,?_⟩
 have f13:=f1.aA f2
 refine aQ fy (fun k=>h1.size<=k) (fun _ h=>Nat.le_trans f13.size h) 1 (by omega) [VI 0] rfl rfl fun t3 h4 n3 c3 o3 f3 l3 _=>⟨t3,rfl,f3,?_⟩
 have f14:=f13.aA f3
 refine aQ qg (fun k=>h1.size<=k) (fun _ h=>Nat.le_trans f14.size h) 3 (by omega) [t1.v,t2.v,t3.v] rfl rfl fun t4 h5 n4 c4 o4 f4 l4 _=> ?_
 have g1:=HU o1 (Nat.le_refl _)
 have g2:=HU o2 (Nat.le_refl _)
 have g3:=HU o3 (Nat.le_refl _)
 have s3:=f2.size
 have s4:=f3.size
 refine HK t4 h5 (dI.of [t1,t2,t3] rfl o4 ?_ ?_ ?_) (f14.trans f4)
 ·intro p hp
  simp only[nz,List.zip_cons_cons,List.zip_nil_right,List.mem_cons,List.not_mem_nil,or_false]at hp
  rcases hp with rfl|rfl|rfl
  ·exact((o1.no f2).no f3).no f4
  ·exact(o2.no f3).no f4
  ·exact o3.no f4
 ·simp only[List.pairwise_cons,List.mem_cons,List.not_mem_nil,or_false,forall_eq_or_imp,forall_eq,List.Pairwise.nil,and_true]
  refine⟨⟨fun k a b=> ?_,fun k a b=> ?_⟩,fun k a b=> ?_,by simp⟩
  ·have:=g1 k a;have:=l2 k b;omega
  ·have:=g1 k a;have:=l3 k b;omega
  ·have:=g2 k a;have:=l3 k b;omega
 ·intro a ha k hk aI
  have:=l4 k hk
  simp only[List.mem_cons,List.not_mem_nil,or_false]at ha
  rcases ha with rfl|rfl|rfl
  ·have:=g1 k aI;omega
  ·have:=g2 k aI;omega
  ·have:=g3 k aI;omega
theorem vN(h:Heap)(K:Value->Heap->Prop)(HK:∀v h',NK h h' v->K v h'):aE Tryz.prog 102 #[] h K:=by
 refine ae5 h K fun b1 h1 dT f1 bF=> ?_
 have f1:=f1.aF
 refine(Bg (K:=fun v h'=>∃g:Sl,v=g.v/\fQ h' (fun k=>h1.size<=k) g nz/\Fr No h1 h') fun g h' a b=>⟨g,rfl,a,b⟩).mono ?_
 rintro _ h2 ⟨t1,rfl,f2,H⟩
 refine⟨t1,rfl,bF.aB f2,H.mono ?_⟩
 rintro _ h3 ⟨t2,rfl,f3,H⟩
 refine⟨t2,rfl,(bF.aB f2).aB f3,H.mono ?_⟩
 rintro _ h4 ⟨t3,rfl,f4,H⟩
 refine⟨t3,rfl,((bF.aB f2).aB f3).aB f4,H.mono ?_⟩
 rintro _ h5 ⟨t4,rfl,o5,f5⟩
 have gr:=bF.aB f5
 refine⟨t4,rfl,gr,?_⟩
 refine aQ fy (fun k=>h5.size<=k) (fun _ h=>h) 3 (by omega) [VI 0,VI 0,VI 0] rfl rfl fun t6 h6 n6 c6 o6 f6 l6 _=>⟨t6,rfl,gr.aB f6,fun h7 f7 jC=> ?_⟩
 have hb:b1<h1.size:=bF.head.lt
 have s5:=f5.size
 have s1:=f1.size
 have f67:Fr (In [b1]) h5 h7:=f6.aB.trans f7
 refine HK _ _ ⟨t4,t6,h5.size,rfl,?_,?_,?_⟩
 ·refine(dI.mono (F':=fun k=>h1.size<=k/\k<h5.size) o5 fun k hk hF=>⟨hF,hk⟩:fQ h5 _ t4 nz).fr f67 (fun k _ hk aI=> ?_)|>.mono fun k _ hk=>⟨by omega,hk.2⟩
  simp[In]at aI
  omega
 ·refine(Ow.fr o6 f7 fun k hk aI=> ?_).mono fun k _ hk=>⟨by omega,hk⟩
  have:=l6 k hk
  simp[In]at aI
  omega
 ·have f17:Fr (In [b1]) h1 h7:=f5.aB.trans f67
  refine⟨Nat.le_trans s1 f17.size,fun k hk _=>(f17.same k (by omega) fun aI=> ?_).trans (f1.same k hk fun h=>h)⟩
  simp[In]at aI
  omega
theorem Fh{F:Nat->Prop}{h:Heap}{g:Sl}{aD:List (List Int)}(H:fQ h F g aD)(hn:aD.length<=1000000000000)(K:Value->Heap->Prop)(HK:∀w h',fQ h' (fun k=>F k/\k<h.size) g aD->bM h' (fun k=>h.size<=k) w (List.replicate aD.length 0)->Fr No h h'->K (.agg #[g.v,w.v,VI 0]) h'):aE Tryz.prog 69 #[.agg #[g.v]] h K:=by
 refine v69 g h K fun b1 b2 h1 dT dC f1 bF=> ?_
 have f1:=f1.aF
 have s1:=f1.size
 refine eB fy (fun k=>h1.size<=k) (fun _ h=>h) .i64 .i64 g.n g.n (Nat.le_refl _) (by rw[H.len];exact hn) fun t7 h3 n3 c3 o3 f3 l3 _=>⟨t7,rfl,bF.aB f3,fun h4 f4 dJ=> ?_⟩
 have hb:b2<h1.size:=bF.head.lt
 have f13:=f1.aA f3
 refine HK _ _ ((((H.mono fun k hk hF=>⟨hF,hk⟩:fQ h (fun k=>F k/\k<h.size) g aD).no f13).fr f4 fun k _ hk aI=> ?_)) ?_ ?_
 ·simp[In]at aI
  omega
 ·have e:(List.replicate g.n [VI 0]).flatten=(List.replicate aD.length (0:Int)).map VI:=by rw[H.len];simp[List.flatten_replicate_singleton]
  rw[e]at o3
  refine(Ow.fr o3 f4 fun k hk aI=> ?_).mono fun k _ hk=>by omega
  have:=l3 k hk
  simp[In]at aI
  omega
 ·have f14:Fr (In [b2]) h h4:=f13.aB.trans f4
  refine⟨f14.size,fun k hk _=>f14.same k hk fun aI=> ?_⟩
  simp[In]at aI
  omega
theorem vO(h:Heap)(K:Value->Heap->Prop)(HK:∀v h',NK h h' v->K v h'):aE Tryz.prog 30 #[] h K:=by
 refine v30 h K fun b1 h1 dT f1 bF=> ?_
 have f1:=f1.aF
 refine(Bg (K:=fun v h'=>∃g:Sl,v=g.v/\fQ h' (fun k=>h1.size<=k) g nz/\Fr No h1 h') fun g h' a b=>⟨g,rfl,a,b⟩).mono ?_
 rintro _ h2 ⟨t1,rfl,f2,H⟩
 refine⟨t1,rfl,bF.aB f2,H.mono ?_⟩
 rintro _ h3 ⟨t2,rfl,f3,H⟩
 refine⟨t2,rfl,(bF.aB f2).aB f3,H.mono ?_⟩
 rintro _ h4 ⟨t3,rfl,f4,H⟩
 refine⟨t3,rfl,((bF.aB f2).aB f3).aB f4,H.mono ?_⟩
 rintro _ h5 ⟨t4,rfl,o5,f5⟩
 have gr:=bF.aB f5
 refine⟨t4,rfl,gr,?_⟩
 refine Fh o5 (by simp[nz]) _ fun t6 h6 o6 p6 f6=>⟨t4,t6,0,rfl,gr.aB f6,fun h7 f7 jC=> ?_⟩
 have hb:b1<h1.size:=bF.head.lt
 have s5:=f5.size
 have s1:=f1.size
 have f67:Fr (In [b1]) h5 h7:=f6.aB.trans f7
 refine HK _ _ ⟨t4,t6,h5.size,rfl,?_,?_,?_⟩
 ·refine(dI.fr o6 f7 (fun k _ hk aI=> ?_)).mono fun k _ hk=>⟨by omega,hk.2⟩
  simp[In]at aI
  omega
 ·refine(Ow.fr p6 f7 fun k hk aI=> ?_).mono fun k _ hk=>⟨by omega,hk⟩
  have:=(p6.aG hk).1
  simp[In]at aI
  omega
 ·have f17:Fr (In [b1]) h1 h7:=f5.aB.trans f67
  refine⟨Nat.le_trans s1 f17.size,fun k hk _=>(f17.same k (by omega) fun aI=> ?_).trans (f1.same k hk fun h=>h)⟩
  simp[In]at aI
  omega
theorem Fi{S:Nat->Prop}{h:Heap}{s:Sl}{xs:List Int}(H:aP S h s xs)(hn:s.a=none):xs=[]:=by
 cases xs with
 |nil=>rfl
 |cons x xs=>
  obtain⟨a,ha,_⟩:=cW.cell H 0 (by simp)
  rw[hn]at ha
  cases ha
theorem wu{S:Nat->Prop}{h:Heap}{s:Sl}{xs:List Int}(H:aP S h s xs)(hn:xs.length<=1000000000)(K:Value->Heap->Prop)(HK:∀t h',bM h' (Iv h.size h'.size) t xs->Fr No h h'->K t.v h'):aE Tryz.prog 152 #[s.v] h K:=by
 refine v152 s h K (Lh fy _ _ ⟨_,rfl,fun e=> ?_,fun e=> ?_⟩)
 ·have:xs=[]:=Fi H (by simpa using e)
  subst this
  exact HK aC h (Ow.nil _ _ _ _) (Fr.refl _ _)
 ·refine aQ fy (fun k=>h.size<=k) (fun _ h=>h) 0 (by omega) [] rfl rfl fun t h1 n1 c1 o1 f1 l1 _=>⟨t,rfl,.nil,?_⟩
  refine bQ fy o1 (fun k hk=>Nat.le_trans f1.size hk) (H.no f1) (fc _) (by have:=H.len;omega) fun t' h2 n2 o2 f2 l2=>⟨t',rfl,.nil,?_⟩
  exact HK t' h2 (Ow.ga (by simpa using o2)) (f1.fresh f2 l1)
theorem lC{S:Nat->Prop}{h:Heap}{s:Sl}{xs:List Int}(H:aP S h s xs)(hn:xs.length<=1000000000)(K:Value->Heap->Prop)(HK:∀t h',bM h' (Iv h.size h'.size) t xs->Fr No h h'->K t.v h'):aE Tryz.prog 87 #[s.v] h K:=by
 refine v87 s h K ?_
 refine aQ fy (fun k=>h.size<=k) (fun _ h=>h) 0 (by omega) [] rfl rfl fun t h1 n1 c1 o1 f1 l1 _=>⟨t,rfl,.nil,?_⟩
 refine bQ fy o1 (fun k hk=>Nat.le_trans f1.size hk) (H.no f1) (fc _) (by have:=H.len;omega) fun t' h2 n2 o2 f2 l2=>⟨t',rfl,.nil,?_⟩
 exact HK t' h2 (Ow.ga (by simpa using o2)) (f1.fresh f2 l1)
theorem Bh{n:Nat}:∀{aD:List (List Int)}{m:Nat},aD.length<=m->(∀l,l∈aD->l.length<=n)->fe aD<=m*n
 |[],m,_,_=>by simp[fe]
 |x::xs,0,h,_=>by simp at h
 |x::xs,m+1,h,h2=>by
  have h3:=Bh (n:=n) (aD:=xs) (m:=m) (by simpa using h) fun l hl=>h2 l (List.mem_cons_of_mem _ hl)
  have h4:=h2 x (by simp)
  have h5:fe (x::xs)=x.length+fe xs:=by simp[fe]
  rw[h5,Nat.add_mul]
  omega
theorem sC{aD:List (List Int)}:∀l,l∈aD->l.length<=fe aD:=by
 induction aD with
 |nil=>intro l h;simp at h
 |cons x xs ih=>
  intro l hl
  have h5:fe (x::xs)=x.length+fe xs:=by simp[fe]
  rcases List.mem_cons.1 hl with rfl|hl
  ·omega
  ·have:=ih l hl;omega
theorem Fj{S:Nat->Prop}{h:Heap}{g:Sl}{aD:List (List Int)}(H:bL S h g aD)(hn:aD.length+fe aD<=1000000000)(K:Value->Heap->Prop)(HK:∀t h',fQ h' (Iv h.size h'.size) t aD->Fr No h h'->K (.agg #[t.v]) h'):aE Tryz.prog 109 #[.agg #[g.v]] h K:=by
 refine v109 g h K fun b1 b2 b3 h4 dT dC iE f4 dJ=> ?_
 have f4:=f4.aF
 have l3:b3<h4.size:=dJ.head.lt
 have l2:b2<h4.size:=dJ.tail.head.lt
 have l1:b1<h4.size:=dJ.tail.tail.head.lt
 have s4:=f4.size
 refine⟨fun n i x h'=>0<=i/\i+n=(aD.length:Int)/\fQ h' (fun k=>h4.size<=k) x (aD.take i.toNat)/\Fr No h h'/\h4.size<=h'.size,⟨aD.length,by omega,by omega,by simpa using dI.nil _ _ _ _,f4,Nat.le_refl _⟩,?_⟩
 rintro n i x h5 ⟨i0,i1,o5,f5,z5⟩ gr
 have H5:=H.no f5
 refine⟨fun e=> ?_,fun e=> ?_⟩
 ·have hi:=H.lt e
  obtain⟨si,c1,c2⟩:=H5.get i0 hi
  have hsi:=sC (aD[i.toNat]'(by omega)) (List.getElem_mem (by omega))
  refine⟨H5.bB i0 hi,si,c1,wu c2 (by omega) _ fun t h6 o6 f6=>⟨t,rfl,gr.aB f6,?_⟩⟩
  refine aQ qg (fun k=>h6.size<=k) (fun _ h=>h) 1 (by omega) [t.v] rfl rfl fun u h7 n7 c7 o7 f7 l7 _=>⟨u,rfl,(gr.aB f6).aB f7,?_⟩
  have s6:=f6.size
  have s7:=f7.size
  refine dI.snoc qg ((o5.ga.no f6).no f7) (F':=fun k=>h4.size<=k) (fun k _ hk=>hk.1) (fun k hk=>by omega) ((Ow.no o6 f7).mono fun k _ hk=>Nat.le_trans z5 hk.1) (fun k hk aI=>by have:=(o6.aG hk).1.1;have:=aI.2;omega) o7.rd (by simp;omega) fun y h8 o8 f8=>⟨y,rfl,((gr.aB f6).aB f7).iv f8 ⟨.inl l3,.inl l2,.inl l1,trivial⟩,fun h9 f9 fS=> ?_⟩
  have s8:=f8.size
  have f9:=f9.cB (lo:=h.size) (hi:=h4.size) ⟨⟨iE,l3⟩,trivial⟩
  have s9:=f9.size
  rw[H.succ i0 hi]
  refine⟨n-1,by omega,by omega,by omega,?_,?_,by omega⟩
  ·rw[dY aD i0 hi]
   exact(o8.ga.iv f9 (.inr (Nat.le_refl _))).mono fun k _ hk=>hk.1
  ·exact((((f5.aA f6).aA f7).aJ f8 (by omega))).aJ f9 (Nat.le_refl _)
 ·have hi:=H.ge e
  rw[List.take_of_length_le (by omega)]at o5
  intro dV f10 dN
  have f10:=f10.cB (lo:=h.size) (hi:=h4.size) ⟨⟨dC,l2⟩,trivial⟩
  exact HK x dV ((o5.ga.iv f10 (.inr (Nat.le_refl _))).mono fun k aI hk=>⟨Nat.le_trans s4 hk.1,aI⟩) (f5.aJ f10 (Nat.le_refl _))
theorem NL{S:Nat->Prop}{h:Heap}{g:Sl}{aD:List (List Int)}(H:bL S h g aD)(hn:aD.length+fe aD<=1000000000)(K:Value->Heap->Prop)(HK:∀t h',fQ h' (Iv h.size h'.size) t aD->Fr No h h'->K (.agg #[t.v]) h'):aE Tryz.prog 175 #[.agg #[g.v]] h K:=by
 refine v175 g h K fun b1 b2 b3 h4 dT dC iE f4 dJ=> ?_
 have f4:=f4.aF
 have l3:b3<h4.size:=dJ.head.lt
 have l2:b2<h4.size:=dJ.tail.head.lt
 have l1:b1<h4.size:=dJ.tail.tail.head.lt
 have s4:=f4.size
 refine⟨fun n i x h'=>0<=i/\i+n=(aD.length:Int)/\fQ h' (fun k=>h4.size<=k) x (aD.take i.toNat)/\Fr No h h'/\h4.size<=h'.size,⟨aD.length,by omega,by omega,by simpa using dI.nil _ _ _ _,f4,Nat.le_refl _⟩,?_⟩
 rintro n i x h5 ⟨i0,i1,o5,f5,z5⟩ gr
 have H5:=H.no f5
 refine⟨fun e=> ?_,fun e=> ?_⟩
 ·have hi:=H.lt e
  obtain⟨si,c1,c2⟩:=H5.get i0 hi
  have hsi:=sC (aD[i.toNat]'(by omega)) (List.getElem_mem (by omega))
  refine⟨H5.bB i0 hi,si,c1,lC c2 (by omega) _ fun t h6 o6 f6=>⟨t,rfl,gr.aB f6,?_⟩⟩
  refine aQ qg (fun k=>h6.size<=k) (fun _ h=>h) 1 (by omega) [t.v] rfl rfl fun u h7 n7 c7 o7 f7 l7 _=>⟨u,rfl,(gr.aB f6).aB f7,?_⟩
  have s6:=f6.size
  have s7:=f7.size
  refine dI.snoc qg ((o5.ga.no f6).no f7) (F':=fun k=>h4.size<=k) (fun k _ hk=>hk.1) (fun k hk=>by omega) ((Ow.no o6 f7).mono fun k _ hk=>Nat.le_trans z5 hk.1) (fun k hk aI=>by have:=(o6.aG hk).1.1;have:=aI.2;omega) o7.rd (by simp;omega) fun y h8 o8 f8=>⟨y,rfl,((gr.aB f6).aB f7).iv f8 ⟨.inl l3,.inl l2,.inl l1,trivial⟩,fun h9 f9 fS=> ?_⟩
  have s8:=f8.size
  have f9:=f9.cB (lo:=h.size) (hi:=h4.size) ⟨⟨iE,l3⟩,trivial⟩
  have s9:=f9.size
  rw[H.succ i0 hi]
  refine⟨n-1,by omega,by omega,by omega,?_,?_,by omega⟩
  ·rw[dY aD i0 hi]
   exact(o8.ga.iv f9 (.inr (Nat.le_refl _))).mono fun k _ hk=>hk.1
  ·exact((((f5.aA f6).aA f7).aJ f8 (by omega))).aJ f9 (Nat.le_refl _)
 ·have hi:=H.ge e
  rw[List.take_of_length_le (by omega)]at o5
  intro dV f10 dN
  have f10:=f10.cB (lo:=h.size) (hi:=h4.size) ⟨⟨dC,l2⟩,trivial⟩
  exact HK x dV ((o5.ga.iv f10 (.inr (Nat.le_refl _))).mono fun k aI hk=>⟨Nat.le_trans s4 hk.1,aI⟩) (f5.aJ f10 (Nat.le_refl _))
def j9(aD:List (List Int)):List (List Int):=if aM aD then aD else[]
def gW(g:List (List Int))(p q:Int):List (List Int)×Bool:=
 if aM g&&iB 0 ((g.length:Int)-1) p&&iB 0 ((g.length:Int)-1) q then(j9 (g.set p.toNat (g.getD p.toNat []++[q])),aM (g.set p.toNat (g.getD p.toNat []++[q])))else([],false)
theorem aZ{lo hi x:Int}:iB lo hi x=true↔lo<=x/\x<=hi:=by simp[iB]
theorem aO{g:List (List Int)}(h:aM g=true):1<=g.length/\g.length<=8:=by
 unfold aM at h
 rw[Bool.and_eq_true,aZ]at h
 omega
theorem aT{g:List (List Int)}(h:aM g=true){l:List Int}(hl:l∈g):l.length<=5/\∀x,x∈l->0<=x/\x<(g.length:Int):=by
 unfold aM at h
 rw[Bool.and_eq_true]at h
 have:=List.all_eq_true.1 h.2 l hl
 rw[Bool.and_eq_true]at this
 obtain⟨h1,h2⟩:=this
 simp only[Bool.not_eq_true',decide_eq_false_iff_not]at h1
 refine⟨by omega,fun x hx=> ?_⟩
 have:=List.all_eq_true.1 h2 x hx
 rw[aZ]at this
 omega
theorem mn{g:List (List Int)}(h:aM g=true):fe g<=40:=by
 have:=Bh (n:=5) (aD:=g) (m:=8) (aO h).2 fun l hl=>(aT h hl).1
 omega
theorem aR{g:List (List Int)}{i:Nat}(h:i<g.length):g.getD i []=g[i]:=by simp[List.getD,List.getElem?_eq_getElem h]
theorem NM{x y:Nat}{h:Heap}{g:Sl}{aD:List (List Int)}(H:fQ h (Iv x y) g aD)(hy:y<=h.size)(K:Value->Heap->Prop)(HK:∀t h',fQ h' (Iv x y) t (j9 aD)->Fr No h h'->K (.tuple #[.agg #[t.v],VB (aM aD)]) h'):aE Tryz.prog 200 #[.agg #[g.v]] h K:=by
 refine aha g h K fun b1 b2 h2 dT dC f2 bW=> ?_
 have f2:=f2.aF
 have l2:b2<h2.size:=bW.head.lt
 refine Bc (H.rd.no f2) _ fun h3 f3=>⟨_,rfl,bW.aB f3,fun e h4 f4 dJ=> ?_,fun e h4 f4 dJ=> ?_⟩
 ·have f4:=f4.cB (lo:=h.size) (hi:=h2.size) ⟨⟨dC,l2⟩,trivial⟩
  have e:=aX e
  have:=HK aC h4 (by unfold j9;rw[e];exact dI.nil _ _ _ _) ((f2.aA f3).aJ f4 (Nat.le_refl _))
  rw[e]at this
  exact this
 ·have f4:=f4.cB (lo:=h.size) (hi:=h2.size) ⟨⟨dC,l2⟩,trivial⟩
  have e:=aW e
  have:=HK g h4 (by unfold j9;rw[e];exact((H.no f2).no f3).iv f4 (.inl hy)) ((f2.aA f3).aJ f4 (Nat.le_refl _))
  rw[e]at this
  exact this
theorem VO{x y:Nat}{h:Heap}{g:Sl}{aD:List (List Int)}(H:fQ h (Iv x y) g aD)(hy:y<=h.size)(K:Value->Heap->Prop)(HK:∀t h',fQ h' (Iv x y) t (j9 aD)->Fr No h h'->K (.tuple #[.agg #[t.v],VB (aM aD)]) h'):aE Tryz.prog 176 #[.agg #[g.v]] h K:=by
 refine agB g h K fun b1 b2 h2 dT dC f2 bW=> ?_
 have f2:=f2.aF
 have l2:b2<h2.size:=bW.head.lt
 refine lT (H.rd.no f2) _ fun h3 f3=>⟨_,rfl,bW.aB f3,fun e h4 f4 dJ=> ?_,fun e h4 f4 dJ=> ?_⟩
 ·have f4:=f4.cB (lo:=h.size) (hi:=h2.size) ⟨⟨dC,l2⟩,trivial⟩
  have e:=aX e
  have:=HK aC h4 (by unfold j9;rw[e];exact dI.nil _ _ _ _) ((f2.aA f3).aJ f4 (Nat.le_refl _))
  rw[e]at this
  exact this
 ·have f4:=f4.cB (lo:=h.size) (hi:=h2.size) ⟨⟨dC,l2⟩,trivial⟩
  have e:=aW e
  have:=HK g h4 (by unfold j9;rw[e];exact((H.no f2).no f3).iv f4 (.inl hy)) ((f2.aA f3).aJ f4 (Nat.le_refl _))
  rw[e]at this
  exact this
theorem Lp{S:Nat->Prop}{h:Heap}{g:Sl}{aD:List (List Int)}(H:bL S h g aD)(p q:Int)(K:Value->Heap->Prop)(HK:∀t h',fQ h' (Iv h.size h'.size) t (gW aD p q).1->Fr No h h'->K (.tuple #[.agg #[t.v],VB (gW aD p q).2]) h'):aE Tryz.prog 216 #[.agg #[g.v],VI p,VI q] h K:=by
 refine ahx g p q h K fun b1 b2 h2 dT dC f2 bW=> ?_
 have f2:=f2.aF
 have l2:b2<h2.size:=bW.head.lt
 have l1:b1<h2.size:=bW.tail.head.lt
 have s2:=f2.size
 refine aQ fy (fun k=>h2.size<=k) (fun _ h=>h) 2 (by omega) [VI p,VI q] rfl rfl fun t h3 n3 c3 o3 f3 m3 _=>⟨t,rfl,bW.aB f3,?_⟩
 have o3:aP (fun k=>h2.size<=k) h3 t [p,q]:=o3.eQ
 have cF:=bW.aB f3
 have s3:=f3.size
 refine sA ((H.no f2).no f3) o3 _ fun h4 f4=>⟨_,rfl,cF.aB f4,fun e h5 f5 gr=> ?_,fun e=> ?_⟩
 all_goals simp only[List.all_cons,List.all_nil,Bool.and_true]at e
 ·have f5:=f5.cB (lo:=h.size) (hi:=h2.size) ⟨⟨dC,l2⟩,trivial⟩
  have e2:gW aD p q=([],false):=by unfold gW;rw[Bool.and_assoc,aX e];rfl
  have:=HK aC h5 (by rw[e2];exact dI.nil _ _ _ _) (((f2.aA f3).aA f4).aJ f5 (Nat.le_refl _))
  rw[e2]at this
  exact this
 ·have e:=aW e
  have e2:gW aD p q=(j9 (aD.set p.toNat (aD.getD p.toNat []++[q])),aM (aD.set p.toNat (aD.getD p.toNat []++[q]))):=by unfold gW;rw[Bool.and_assoc,e];rfl
  rw[Bool.and_eq_true,Bool.and_eq_true,aZ,aZ]at e
  obtain⟨hg,⟨NN,hp1⟩,hq⟩:=e
  have hlen:=aO hg
  have aiP:=mn hg
  rw[e2]at HK
  have f24:=(f2.aA f3).aA f4
  have s4:=f4.size
  refine Fj (H.no f24) (by omega) _ fun u h6 o6 f6=>⟨u,rfl,(cF.aB f4).aB f6,o6.rd.bB NN (by omega),fun b3 h8 iE f8 fA=> ?_⟩
  have f8:=f8.aF
  have s6:=f6.size
  have s8:=f8.size
  have l3:b3<h8.size:=fA.head.lt
  have o8:=o6.no f8
  obtain⟨si,c1,c2,_⟩:=o8.inner NN (by omega)
  refine⟨si,c1,?_⟩
  refine aQ fy (fun k=>h8.size<=k) (fun _ h=>h) 1 (by omega) [VI q] rfl rfl fun v h9 n9 c9 o9 f9 m9 _=>⟨v,rfl,fA.aB f9,dL c1 f9 (fun h=>h),?_⟩
  have s9:=f9.size
  have o9:aP (fun k=>h8.size<=k) h9 v [q]:=o9.eQ
  have hsi:=(aT hg (List.getElem_mem (show p.toNat<aD.length by omega))).1
  have fS:=fA.aB f9
  have VR:=o8.no f9
  have NO:bM h9 (fun k=>h4.size<=k) si (aD[p.toNat]'(by omega)):=(Ow.no c2 f9).mono fun k _ hk=>hk.1
  refine bQ fy NO (fun k hk=>by omega) o9 (fc _) (by have h1:=aP.len NO.eQ;have h2:=o9.len;simp at h2;omega) fun w dV UI mU f10 d10=>⟨w,rfl,?_⟩
  have NP:Fr (Iv h4.size h6.size) h9 dV:=f10.mono fun k _ hk=>(c2.aG hk).1
  have dN:=fS.iv NP ⟨.inr iE,.inl (by omega),.inl (by omega),trivial⟩
  have s10:=f10.size
  rw[<-List.map_append]at mU
  obtain⟨i11,w11,lU,f11⟩:=VR.M5 NN (by omega) (dL c1 f9 fun h=>h) f10 (F':=fun k=>h4.size<=k) mU (fun k _ hk=>hk.1) fun k hk=>(d10 k hk).imp id fun aI HV=>by have:=HV.2;omega
  have NQ:Fr (Iv h4.size h6.size) dV _:=VR.Rg f11
  have iC:=dN.iv NQ ⟨.inr iE,.inl (by omega),.inl (by omega),trivial⟩
  refine⟨dN,i11,w11,iC,fun gP VT _=> ?_⟩
  subst VT
  have s11:=f11.size
  refine NM lU.ga (Nat.le_refl _) _ fun z gQ NR f12=>⟨z,_,rfl,iC.aB f12,fun qE f13 Lq=> ?_⟩
  have f13:=f13.cB (lo:=h.size) (hi:=h2.size) ⟨⟨dC,l2⟩,trivial⟩
  have s12:=f12.size
  have s13:=f13.size
  rw[aR (show p.toNat<aD.length by omega)]at HK
  refine HK z qE ((NR.iv f13 (.inr (by omega))).mono fun k hk hF=>⟨by have:=hF.1;omega,hk⟩) ?_
  exact((((((f24.aA f6).aA f8).aA f9).aJ NP (by omega)).aJ NQ (by omega)).aA f12).aJ f13 (Nat.le_refl _)
theorem oT{S:Nat->Prop}{h:Heap}{g:Sl}{aD:List (List Int)}(H:bL S h g aD)(p q:Int)(K:Value->Heap->Prop)(HK:∀t h',fQ h' (Iv h.size h'.size) t (gW aD p q).1->Fr No h h'->K (.tuple #[.agg #[t.v],VB (gW aD p q).2]) h'):aE Tryz.prog 126 #[.agg #[g.v],VI p,VI q] h K:=by
 refine afA g p q h K fun b1 b2 h2 dT dC f2 bW=> ?_
 have f2:=f2.aF
 have l2:b2<h2.size:=bW.head.lt
 have l1:b1<h2.size:=bW.tail.head.lt
 have s2:=f2.size
 refine cQ (H.no f2) p _ fun h3 f3=>⟨_,rfl,bW.aB f3,fun e h5 f5 gr=> ?_,fun e=> ?_⟩
 ·have f5:=f5.cB (lo:=h.size) (hi:=h2.size) ⟨⟨dC,l2⟩,trivial⟩
  have e2:gW aD p q=([],false):=by unfold gW;rw[aX e];rfl
  have:=HK aC h5 (by rw[e2];exact dI.nil _ _ _ _) ((f2.aA f3).aJ f5 (Nat.le_refl _))
  rw[e2]at this
  exact this
 have cF:=bW.aB f3
 have s3:=f3.size
 have e1:=aW e
 refine cQ ((H.no f2).no f3) q _ fun h4 f4=>⟨_,rfl,cF.aB f4,fun e h5 f5 gr=> ?_,fun e=> ?_⟩
 ·have f5:=f5.cB (lo:=h.size) (hi:=h2.size) ⟨⟨dC,l2⟩,trivial⟩
  have e:=aX e
  have e2:gW aD p q=([],false):=by
   unfold gW
   rw[Bool.and_eq_true]at e1
   rw[e1.1,Bool.true_and]at e
   rw[e1.1,e1.2,e];rfl
  have:=HK aC h5 (by rw[e2];exact dI.nil _ _ _ _) (((f2.aA f3).aA f4).aJ f5 (Nat.le_refl _))
  rw[e2]at this
  exact this
 ·have e:=aW e
  have e2:gW aD p q=(j9 (aD.set p.toNat (aD.getD p.toNat []++[q])),aM (aD.set p.toNat (aD.getD p.toNat []++[q]))):=by
   unfold gW
   rw[Bool.and_eq_true]at e
   rw[e1,e.2];rfl
  rw[Bool.and_eq_true,aZ]at e e1
  obtain⟨hg,NN,hp1⟩:=e1
  have hlen:=aO hg
  have aiP:=mn hg
  rw[e2]at HK
  have f24:=(f2.aA f3).aA f4
  have s4:=f4.size
  refine NL (H.no f24) (by omega) _ fun u h6 o6 f6=>⟨u,rfl,(cF.aB f4).aB f6,o6.rd.bB NN (by omega),fun b3 h8 iE f8 fA=> ?_⟩
  have f8:=f8.aF
  have s6:=f6.size
  have s8:=f8.size
  have l3:b3<h8.size:=fA.head.lt
  have o8:=o6.no f8
  obtain⟨si,c1,c2,_⟩:=o8.inner NN (by omega)
  refine⟨si,c1,?_⟩
  refine aQ fy (fun k=>h8.size<=k) (fun _ h=>h) 1 (by omega) [VI q] rfl rfl fun v h9 n9 c9 o9 f9 m9 _=>⟨v,rfl,fA.aB f9,dL c1 f9 (fun h=>h),?_⟩
  have s9:=f9.size
  have o9:aP (fun k=>h8.size<=k) h9 v [q]:=o9.eQ
  have hsi:=(aT hg (List.getElem_mem (show p.toNat<aD.length by omega))).1
  have fS:=fA.aB f9
  have VR:=o8.no f9
  have NO:bM h9 (fun k=>h4.size<=k) si (aD[p.toNat]'(by omega)):=(Ow.no c2 f9).mono fun k _ hk=>hk.1
  refine bQ fy NO (fun k hk=>by omega) o9 (fc _) (by have h1:=aP.len NO.eQ;have h2:=o9.len;simp at h2;omega) fun w dV UI mU f10 d10=>⟨w,rfl,?_⟩
  have NP:Fr (Iv h4.size h6.size) h9 dV:=f10.mono fun k _ hk=>(c2.aG hk).1
  have dN:=fS.iv NP ⟨.inr iE,.inl (by omega),.inl (by omega),trivial⟩
  have s10:=f10.size
  rw[<-List.map_append]at mU
  obtain⟨i11,w11,lU,f11⟩:=VR.M5 NN (by omega) (dL c1 f9 fun h=>h) f10 (F':=fun k=>h4.size<=k) mU (fun k _ hk=>hk.1) fun k hk=>(d10 k hk).imp id fun aI HV=>by have:=HV.2;omega
  have NQ:Fr (Iv h4.size h6.size) dV _:=VR.Rg f11
  have iC:=dN.iv NQ ⟨.inr iE,.inl (by omega),.inl (by omega),trivial⟩
  refine⟨dN,i11,w11,iC,fun gP VT _=> ?_⟩
  subst VT
  have s11:=f11.size
  refine VO lU.ga (Nat.le_refl _) _ fun z gQ NR f12=>⟨z,_,rfl,iC.aB f12,fun qE f13 Lq=> ?_⟩
  have f13:=f13.cB (lo:=h.size) (hi:=h2.size) ⟨⟨dC,l2⟩,trivial⟩
  have s12:=f12.size
  have s13:=f13.size
  rw[aR (show p.toNat<aD.length by omega)]at HK
  refine HK z qE ((NR.iv f13 (.inr (by omega))).mono fun k hk hF=>⟨by have:=hF.1;omega,hk⟩) ?_
  exact((((((f24.aA f6).aA f8).aA f9).aJ NP (by omega)).aJ NQ (by omega)).aA f12).aJ f13 (Nat.le_refl _)
theorem Fk{k n:Int}(h0:0<=k)(hn:0<=n):Int.tmod k n=((k.toNat%n.toNat:Nat):Int):=by
 obtain⟨a,rfl⟩:=Int.eq_ofNat_of_zero_le h0
 obtain⟨b,rfl⟩:=Int.eq_ofNat_of_zero_le hn
 rfl
@[reducible] def tB:TypeId:=4
@[reducible] def tBs:TypeId:=195
theorem rBs:nh Tryz.prog tBs=some (tB,1,1,[VB false]):=by kernel_rfl
theorem aiR{S:Nat->Prop}{h:Heap}{s:Sl}{bs:List Bool}(H:cW S h 1 s (bs.map VB)){i:Int}(h0:0<=i)(h1:i<(bs.length:Int)):aS h (s.at i 1)=some (VB (bs[i.toNat]'(by omega))):=by
 have:=cW.get H h0 (by simpa using h1)
 simpa using this
theorem aiS{S:Nat->Prop}{h:Heap}{s:Sl}{bs:List Bool}(H:cW S h 1 s (bs.map VB)):s.n=bs.length:=by have:=cW.len H;simp at this;exact this.symm
abbrev St:=List Int×Int
def cA(g:List (List Int))(w:St):Option St:=
 if(g.getD w.2.toNat []).length=0 then none
 else some (w.1.set w.2.toNat ((((w.1.getD w.2.toNat 0).toNat+1)%(g.getD w.2.toNat []).length:Nat):Int),(g.getD w.2.toNat []).getD (((w.1.getD w.2.toNat 0).toNat+1)%(g.getD w.2.toNat []).length) 0)
structure gu(g:List (List Int))(w:St):Prop where
 bE:aM g=true
 len:w.1.length=g.length
 lo:0<=w.2
 hi:w.2<(g.length:Int)
 Qw:∀i(h:i<w.1.length)(h':i<g.length),0<=w.1[i]/\w.1[i]<=max ((g[i].length:Int)-1) 0
theorem cG{g:List (List Int)}{rs:List Int}{p:Int}(h:eW g rs p=true):gu g (rs,p):=by
 unfold eW at h
 simp only[Bool.and_eq_true,decide_eq_true_eq]at h
 obtain⟨⟨⟨h1,h2⟩,h3⟩,h4⟩:=h
 rw[aZ]at h2
 refine⟨h1,h3,h2.1,by simp only;omega,fun i a b=> ?_⟩
 have:=List.all_eq_true.1 h4 (g[i],rs[i]) (by
  rw[show(g[i],rs[i])=(g.zip rs)[i]'(by simp only[List.length_zip];simp only at a;omega) by simp]
  exact List.getElem_mem _)
 unfold Ag at this
 rw[aZ]at this
 exact this
theorem nA{g:List (List Int)}{w:St}(W:gu g w)(hp:w.2.toNat<g.length):(g[w.2.toNat]).length=0->cA g w=none:=fun h=>by
 unfold cA
 rw[aR hp,if_pos h]
theorem aN{xs:List Int}{i:Nat}(h:i<xs.length):xs.getD i 0=xs[i]:=by simp[List.getD,List.getElem?_eq_getElem h]
theorem qW{g:List (List Int)}{w:St}(W:gu g w)(hp:w.2.toNat<g.length)(hr:w.2.toNat<w.1.length)(h:(g[w.2.toNat]).length≠0):
 cA g w=some (w.1.set w.2.toNat ((((w.1[w.2.toNat]).toNat+1)%(g[w.2.toNat]).length:Nat):Int),(g[w.2.toNat])[((w.1[w.2.toNat]).toNat+1)%(g[w.2.toNat]).length]'(Nat.mod_lt _ (by omega))):=by
 unfold cA
 rw[aR hp,if_neg h,aN hr,aN (Nat.mod_lt _ (by omega))]
theorem gu.step{g:List (List Int)}{w w':St}(W:gu g w)(h:cA g w=some w'):gu g w':=by
 have hp:w.2.toNat<g.length:=by have:=W.hi;have:=W.lo;omega
 have hr:w.2.toNat<w.1.length:=by rw[W.len];exact hp
 by_cases h0:(g[w.2.toNat]).length=0
 ·rw[nA W hp h0]at h;cases h
 ·rw[qW W hp hr h0]at h
  have hm:=Nat.mod_lt ((w.1[w.2.toNat]).toNat+1) (show 0<(g[w.2.toNat]).length by omega)
  simp only[Option.some.injEq]at h
  subst h
  have abT:=(aT W.bE (List.getElem_mem hp)).2 _ (List.getElem_mem hm)
  refine⟨W.bE,by simpa using W.len,abT.1,abT.2,fun i a b=> ?_⟩
  simp only[List.length_set]at a
  simp only[List.getElem_set]
  split
  ·rename_i e
   subst e
   omega
  ·exact W.Qw i a b
theorem iq{S:Nat->Prop}{h:Heap}{s:Sl}{xs:List Int}(H:aP S h s xs)(p:Int)(hn:xs.length<=1000000000)(K:Value->Heap->Prop)(HK:∀t h',bM h' (Iv h.size h'.size) t xs->Fr No h h'->K (.agg #[t.v,VI p]) h'):aE Tryz.prog 110 #[.agg #[s.v,VI p]] h K:=by
 refine ae9 s p h K fun b1 b2 h2 dT dC f2 bW=> ?_
 have f2:=f2.aF
 have l2:b2<h2.size:=bW.head.lt
 have s2:=f2.size
 refine wu (H.no f2) hn _ fun t h3 o3 f3=>⟨t,rfl,bW.aB f3,fun h4 f4 dJ=> ?_⟩
 have f4:=f4.cB (lo:=h.size) (hi:=h2.size) ⟨⟨dC,l2⟩,trivial⟩
 exact HK t h4 ((Ow.iv o3 f4 (.inr (Nat.le_refl _))).mono fun k hk hF=>⟨Nat.le_trans s2 hF.1,Nat.lt_of_lt_of_le hF.2 f4.size⟩) ((f2.aA f3).aJ f4 (Nat.le_refl _))
theorem CD{F S:Nat->Prop}{b:Nat}{h:Heap}{g w:Sl}{aD:List (List Int)}{s:St}(G:bL S h g aD)(V:dD h b [w.v,VI s.2])(H:bM h F w s.1)(hS:∀k,S k->¬F k)(hFb:F b)(Hh:¬w.own b)(W:gu aD s)(K:Value->Heap->Prop)
 (HN:cA aD s=none->∀h',Fr No h h'->K (VB false) h') (HS:∀s',cA aD s=some s'->∀h',bM h' F w s'.1->dD h' b [w.v,VI s'.2]->Fr F h h'->K (VB true) h'):
 aE Tryz.prog 254 #[.agg #[g.v],VP b 0] h K:=by
 have hp:s.2.toNat<aD.length:=by have:=W.hi;have:=W.lo;omega
 have hr:s.2.toNat<s.1.length:=by rw[W.len];exact hp
 have wv:=W.lo
 refine ah8 g b w s.2 h K (.cons V (by simp) .nil) ⟨G.bB W.lo W.hi,fun b2 h1 dC f1 bF=> ?_⟩
 have f1:=f1.aF
 obtain⟨si,c1,c2⟩:=(G.no f1).get W.lo W.hi
 have H1:=Ow.no H f1
 have hn1:w.n=s.1.length:=aP.len H.eQ
 refine⟨si,c1,fun e=> ?_,fun e=> ?_⟩
 ·simp only[decide_eq_true_eq]at e
  exact HN (nA W hp (by have:=c2.len;omega)) h1 f1
 ·simp only[decide_eq_false_iff_not]at e
  have h0:(aD[s.2.toNat]'hp).length≠0:=by have:=c2.len;omega
  have M0:=qW W hp hr h0
  have hm:=Nat.mod_lt ((s.1[s.2.toNat]'hr).toNat+1) (show 0<(aD[s.2.toNat]'hp).length by omega)
  have VU:=W.Qw _ hr hp
  have Lo:=(aT W.bE (List.getElem_mem hp)).1
  have hw:aL (s.1[s.2.toNat]'hr+1)=s.1[s.2.toNat]'hr+1:=aH _ (by omega) (by omega)
  have JW:Int.tmod (s.1[s.2.toNat]'hr+1) (si.n:Int)=((((s.1[s.2.toNat]'hr).toNat+1)%(aD[s.2.toNat]'hp).length:Nat):Int):=by
   rw[Fk (by omega) (by omega),c2.len]
   congr 2
   omega
  have R1:aP F h1 w s.1:=H1.eQ
  refine⟨R1.bB wv (by omega),_,R1.get wv (by omega),by omega,R1.bB wv (by omega),?_⟩
  rw[hw,JW]
  obtain⟨w1,w2,w3⟩:=H1.eX wv (by omega) (VI ((((s.1[s.2.toNat]'hr).toNat+1)%(aD[s.2.toNat]'hp).length:Nat):Int))
  have oW:Fr F h1 _:=w3.mono fun k _ hk=>(H1.aG hk).1
  have hbl:=V.lt
  have bW:=bF.fr w3 fun p hp=>by
   simp only[List.mem_cons,List.not_mem_nil,or_false]at hp
   rcases hp with rfl|rfl
   ·exact fun hk=>by have:=(H.aG hk).2;simp only at this;omega
   ·exact Hh
  refine⟨w1,bW,fun h2 e2 _=> ?_⟩
  subst e2
  rw[<-List.map_set]at w2
  have R2:aP F _ w _:=w2.eQ
  have NO:=aP.fr c2 oW hS
  have hv:aS (cL h1 (w.at s.2 1) (VI ((((s.1[s.2.toNat]'hr).toNat+1)%(aD[s.2.toNat]'hp).length:Nat):Int))) (w.at s.2 1)=some (VI ((((s.1[s.2.toNat]'hr).toNat+1)%(aD[s.2.toNat]'hp).length:Nat):Int)):=by
   have:=R2.get (i:=s.2) wv (by simp;omega)
   simpa using this
  have hq:=NO.get (i:=((((s.1[s.2.toNat]'hr).toNat+1)%(aD[s.2.toNat]'hp).length:Nat):Int)) (by omega) (by omega)
  simp only[Int.toNat_natCast]at hq
  refine⟨R2.bB wv (by simp;omega),_,hv,NO.bB (by omega) (by omega),_,hq,fun h3 f3 cF=> ?_⟩
  have VV:Fr F _ h3:=f3.mono fun k _ hk=>by simp only[In,List.mem_cons,List.not_mem_nil,or_false]at hk;subst hk;exact hFb
  refine HS _ M0 h3 ?_ ?_ ((f1.aB.trans oW).trans VV)
  ·exact Ow.fr w2 f3 fun k hk aI=>by
    simp only[In,List.mem_cons,List.not_mem_nil,or_false]at aI
    subst aI
    exact Hh hk
  ·exact cF.tail.head
theorem VW{a c b:Nat}{h:Heap}{g w:Sl}{aD:List (List Int)}{s:St}(G:bL (Iv 0 a) h g aD)(V:dD h b [w.v,VI s.2])(H:bM h (Iv a c) w s.1)(hb0:a<=b)(dT:b<c)(Hh:¬w.own b)(W:gu aD s)(K:Value->Heap->Prop)
 (HN:cA aD s=none->∀h',Fr No h h'->K (VB false) h') (HS:∀s',cA aD s=some s'->∀h',bM h' (Iv a c) w s'.1->dD h' b [w.v,VI s'.2]->Fr (Iv a c) h h'->K (VB true) h'):
 aE Tryz.prog 254 #[.agg #[g.v],VP b 0] h K:=
 CD G V H (fun k hk aI=>by have:=hk.2;have:=aI.1;omega) ⟨hb0,dT⟩ Hh W K HN HS
theorem oX{S S':Nat->Prop}{h:Heap}{g w:Sl}{aD:List (List Int)}{s:St}(G:bL S h g aD)(H:aP S' h w s.1)(W:gu aD s)(K:Value->Heap->Prop)
 (HN:cA aD s=none->∀h',Fr No h h'->K (.tuple #[.agg #[w.v,VI s.2],VB false]) h') (HS:∀s',cA aD s=some s'->∀t h',bM h' (Iv h.size h'.size) t s'.1->Fr No h h'->K (.tuple #[.agg #[t.v,VI s'.2],VB true]) h'):
 aE Tryz.prog 177 #[.agg #[g.v],.agg #[w.v,VI s.2]] h K:=by
 have hp:s.2.toNat<aD.length:=by have:=W.hi;have:=W.lo;omega
 have hr:s.2.toNat<s.1.length:=by rw[W.len];exact hp
 have wv:=W.lo
 refine agD g w s.2 h K ⟨G.bB W.lo W.hi,fun b1 b2 b3 h3 dT dC iE f3 cF=> ?_⟩
 have f3:=f3.aF
 have l3:b3<h3.size:=cF.head.lt
 have l2:b2<h3.size:=cF.tail.head.lt
 have l1:b1<h3.size:=cF.tail.tail.head.lt
 have s3:=f3.size
 have G3:=G.low.no f3
 obtain⟨si,c1,c2⟩:=G3.get W.lo W.hi
 refine⟨si,c1,fun e h4 f4 dJ=> ?_,fun e=> ?_⟩
 ·simp only[decide_eq_true_eq]at e
  have f4:=f4.cB (lo:=h.size) (hi:=h3.size) ⟨⟨iE,l3⟩,trivial⟩
  exact HN (nA W hp (by have:=c2.len;omega)) h4 (f3.aJ f4 (Nat.le_refl _))
 ·simp only[decide_eq_false_iff_not]at e
  have h0:(aD[s.2.toNat]'hp).length≠0:=by have:=c2.len;omega
  have M0:=qW W hp hr h0
  have hm:=Nat.mod_lt ((s.1[s.2.toNat]'hr).toNat+1) (show 0<(aD[s.2.toNat]'hp).length by omega)
  have VU:=W.Qw _ hr hp
  have Lo:=(aT W.bE (List.getElem_mem hp)).1
  have abV:=aO W.bE
  have hw:aL (s.1[s.2.toNat]'hr+1)=s.1[s.2.toNat]'hr+1:=aH _ (by omega) (by omega)
  have JW:Int.tmod (s.1[s.2.toNat]'hr+1) (si.n:Int)=((((s.1[s.2.toNat]'hr).toNat+1)%(aD[s.2.toNat]'hp).length:Nat):Int):=by
   rw[Fk (by omega) (by omega),c2.len]
   congr 2
   omega
  refine lC (H.no f3) (by have:=W.len;omega) _ fun t h5 o5 f5=>⟨t,rfl,cF.aB f5,(H.bB wv (by omega)),fun b4 h7 Ha f7 jC=> ?_⟩
  have f7:=f7.aF
  have s5:=f5.size
  have s7:=f7.size
  have l4:b4<h7.size:=jC.head.lt
  have J1:=(f3.aA f5).aA f7
  have H7:=H.no J1
  have o7:=Ow.no o5 f7
  have hn7:t.n=s.1.length:=aP.len o7.eQ
  refine⟨_,H7.get wv (by omega),by omega,o7.bB wv (by omega),?_⟩
  rw[hw,JW]
  obtain⟨w1,w2,w3⟩:=o7.eX wv (by omega) (VI ((((s.1[s.2.toNat]'hr).toNat+1)%(aD[s.2.toNat]'hp).length:Nat):Int))
  have oW:Fr (Iv h3.size h5.size) h7 _:=w3.mono fun k _ hk=>(o7.aG hk).1
  have fA:=jC.iv oW ⟨.inr Ha,.inl l3,.inl l2,.inl l1,trivial⟩
  refine⟨w1,fA,fun h8 e8 _=> ?_⟩
  subst e8
  rw[<-List.map_set]at w2
  have NO:=((c2.no f5).no f7).fr oW fun k hk aI=>by have:=aI.1;omega
  have hq:=NO.get (i:=((((s.1[s.2.toNat]'hr).toNat+1)%(aD[s.2.toNat]'hp).length:Nat):Int)) (by omega) (by omega)
  simp only[Int.toNat_natCast]at hq
  refine⟨NO.bB (by omega) (by omega),_,hq,fun dV f10 dN=> ?_⟩
  have s8:=oW.size
  have e1:Fr No h dV:=by
   refine(J1.aJ oW (by omega)).fresh f10 fun k hk=> ?_
   simp only[In,List.mem_cons,List.not_mem_nil,or_false]at hk
   rcases hk with rfl|rfl<;>omega
  refine HS _ M0 t dV ?_ e1
  have s10:=f10.size
  refine(Ow.fr w2 f10 fun k hk aI=> ?_).mono fun k _ hk=>⟨by have:=hk.1;omega,by have:=hk.2;omega⟩
  have:=(o7.aG hk).1
  have h1:=this.1
  have h2:=this.2
  simp only[In,List.mem_cons,List.not_mem_nil,or_false]at aI
  rcases aI with rfl|rfl<;>omega
def bG{τ:Type}(g:List (List Int))(test:τ->St->Bool×τ)(Bi:Int):Nat->Int->τ->St->Int×Bool
 |0,_,_,_=>(0,false)
 |f+1,n,t,s=>
  if Bi<=n then
   if(test t s).1 then(n,true)
   else match cA g s with
    |none=>(0,false)
    |some s'=>bG g test Bi f (n+1) (test t s).2 s'
  else match cA g s with
   |none=>(0,false)
   |some s'=>bG g test Bi f (n+1) t s'
theorem Fl{τ:Type}(test:τ->St->Bool×τ)(C:τ->Heap->Prop){S S' T:Nat->Prop}{h:Heap}{g w:Sl}{aD:List (List Int)}{s:St}(G:bL S h g aD)(H:aP S' h w s.1)(W:gu aD s)(Bi:Int)(so:Value)(t0:τ)(hC0:C t0 h)
 (hT:∀k,T k->k<h.size) (hST:∀k,S k->¬T k) (hC:∀t h1 h2,C t h1->Fr (fun k=>h.size<=k) h1 h2->C t h2)
 (hso:∀t x(s':St) h1(K:Value->Heap->Prop),h.size<=h1.size->C t h1->aP (fun k=>h.size<=k) h1 x s'.1->gu aD s'->(∀h2,C (test t s').2 h2->Fr T h1 h2->K (VB (test t s').1) h2)->fD Tryz.prog so [.agg #[x.v,VI s'.2]] h1 K)
 (K:Value->Heap->Prop) (HK:∀h',Fr T h h'->K (.tuple #[VI (bG aD test Bi 2001 0 t0 s).1,VB (bG aD test Bi 2001 0 t0 s).2]) h'):
 aE Tryz.prog 210 #[.agg #[g.v],.agg #[w.v,VI s.2],VI Bi,so] h K:=by
 refine v210 g w s.2 Bi so h K fun b1 b2 h2 dT dC f2 bW=> ?_
 generalize hR:bG aD test Bi 2001 0 t0 s=R at HK
 have f2:=f2.aF
 have l2:b2<h2.size:=bW.head.lt
 have l1:b1<h2.size:=bW.tail.head.lt
 have z2:=f2.size
 have abV:=aO W.bE
 refine iq (H.no f2) s.2 (by have:=W.len;omega) _ fun u h3 o3 f3=>⟨u,s.2,rfl,bW.aB f3,fun b3 h5 iE f5 gr=> ?_⟩
 have f5:=f5.aF
 have l3:b3<h5.size:=gr.head.lt
 have s3:=f3.size
 have s5:=f5.size
 have qX:=(f2.aA f3).aA f5
 have hub:¬u.own b3:=fun hk=>by have:=(o3.aG hk).2;omega
 have o5:=Ow.no o3 f5
 have hfr:∀{h1 Rf:Heap},Fr No h1 Rf->Fr (fun k=>h.size<=k) h1 Rf:=fun f=>f.aB
 refine⟨fun n i x p h'=>∃(t:τ)(s':St),x=u/\p=s'.2/\0<=i/\i+n=2001/\C t h'/\bM h' (Iv h2.size h5.size) u s'.1/\gu aD s'/\Fr T h h'/\h5.size<=h'.size/\R=bG aD test Bi n i t s',⟨2001,t0,s,rfl,rfl,by omega,by omega,hC _ _ _ hC0 (hfr qX),o5.mono fun k _ hk=>⟨hk.1,Nat.lt_of_lt_of_le hk.2 s5⟩,W,qX.aB,Nat.le_refl _,hR.symm⟩,?_⟩
 rintro n i x p h6 ⟨t,s',rfl,rfl,i0,i1,c6,o6,W6,f6,z6,eq⟩ iY
 --a step,from abW
 have stp:∀(t':τ)(h7:Heap)(m:Nat),n=m+1->C t' h7->bM h7 (Iv h2.size h5.size) x s'.1->Vars h7 [(b3,[x.v,VI s'.2]),(b2,[w.v,VI s.2]),(b1,[g.v])]->Fr T h h7->h5.size<=h7.size->
  (R=match cA aD s' with
   |none=>(0,false)
   |some s2=>bG aD test Bi m (i+1) t' s2)->
  ∀K2:Value->Heap->Prop,(∀h',Fr T h h'->Vars h' [(b3,[x.v,VI s'.2]),(b2,[w.v,VI s.2]),(b1,[g.v])]->R=(0,false)->K2 (VB false) h')->(∀s2 h',C t' h'->bM h' (Iv h2.size h5.size) x s2.1->gu aD s2->Vars h' [(b3,[x.v,VI s2.2]),(b2,[w.v,VI s.2]),(b1,[g.v])]->Fr T h h'->h5.size<=h'.size->R=bG aD test Bi m (i+1) t' s2->K2 (VB true) h')->
  aE Tryz.prog 254 #[.agg #[g.v],VP b3 0] h7 K2:=by
  intro t' h7 m hn c7 o7 jC f7 z7 e7 K2 k1 k2
  have G7:bL (Iv 0 h2.size) h7 g aD:=(G.xm.fr f7 fun k hk aI=>hST k hk.1 aI).mono fun k hk=>⟨Nat.zero_le _,by have:=hk.2;omega⟩
  refine VW G7 jC.head o7 (by omega) l3 hub W6 K2 (fun hs h8 f8=> ?_) fun s2 hs h8 o8 v8 f8=> ?_
  ·rw[hs]at e7
   exact k1 h8 (f7.trans f8.aB) (jC.aB f8) e7
  ·rw[hs]at e7
   refine k2 s2 h8 (hC _ _ _ c7 (f8.mono fun k _ hk=>Nat.le_trans z2 hk.1)) o8 (W6.step hs) (.cons v8 ?_ (jC.tail.iv f8 ⟨.inl l2,.inl l1,trivial⟩)) (f7.Cc f8 fun k hk=>Nat.le_trans z2 hk.1) (Nat.le_trans z7 f8.size) e7
   intro p hp
   simp only[List.mem_cons,List.not_mem_nil,or_false]at hp
   rcases hp with rfl|rfl<;>(simp only;omega)
 refine⟨fun e=>⟨fun e2=> ?_,fun e2=> ?_⟩,fun e=> ?_⟩
 ·simp only[decide_eq_true_eq]at e e2
  obtain⟨m,rfl⟩:∃m,n=m+1:=⟨n-1,by omega⟩
  rw[bG,if_pos e2]at eq
  refine hso t x s' h6 _ (by omega) c6 (o6.tJ.mono fun k hk=>Nat.le_trans z2 hk.1) W6 fun h7 c7 f7=> ?_
  have jC:=iY.fr f7 fun p hp=>by
   simp only[List.mem_cons,List.not_mem_nil,or_false]at hp
   rcases hp with rfl|rfl|rfl<;>exact fun hk=>by have:=hT _ hk;simp only at this;omega
  refine⟨_,rfl,jC,fun e3=> ?_,fun e3=> ?_⟩
  ·rw[if_pos e3]at eq
   rw[eq]at HK
   exact HK h7 (f6.trans f7)
  ·rw[if_neg (by simp[e3])]at eq
   refine stp _ h7 m rfl c7 (Ow.fr o6 f7 fun k hk aI=>by have:=hT _ aI;have:=(o6.aG hk).1.1;omega) jC (f6.trans f7) (Nat.le_trans z6 f7.size) eq _ (fun h8 f8 fA e8=> ?_) fun s2 h8 c8 o8 W8 fA f8 z8 e8=> ?_
   ·refine⟨x,s'.2,_,rfl,fA,fun _=> ?_,fun e=>by simp at e⟩
    rw[e8]at HK
    exact HK h8 f8
   ·refine⟨x,s2.2,_,rfl,fA,fun e=>by simp at e,fun _=> ?_⟩
    rw[aH (i+1) (by omega) (by omega)]
    exact⟨m,by omega,_,s2,rfl,rfl,by omega,by omega,c8,o8,W8,f8,z8,e8⟩
 ·simp only[decide_eq_true_eq]at e
  simp only[decide_eq_false_iff_not]at e2
  obtain⟨m,rfl⟩:∃m,n=m+1:=⟨n-1,by omega⟩
  rw[bG,if_neg e2]at eq
  refine stp _ h6 m rfl c6 o6 iY f6 z6 eq _ (fun h8 f8 fA e8=> ?_) fun s2 h8 c8 o8 W8 fA f8 z8 e8=> ?_
  ·refine⟨x,s'.2,_,rfl,fA,fun _=> ?_,fun e=>by simp at e⟩
   rw[e8]at HK
   exact HK h8 f8
  ·refine⟨x,s2.2,_,rfl,fA,fun e=>by simp at e,fun _=> ?_⟩
   rw[aH (i+1) (by omega) (by omega)]
   exact⟨m,by omega,_,s2,rfl,rfl,by omega,by omega,c8,o8,W8,f8,z8,e8⟩
 ·simp only[decide_eq_false_iff_not]at e
  obtain rfl:n=0:=by omega
  rw[eq]at HK
  exact HK h6 f6
def nB(g:List (List Int))(rs:List Int)(p q:Int):Int×Bool:=
 if eW g rs p&&(aM g&&iB 0 ((g.length:Int)-1) q)then bG g (fun(_:Unit) s=>(decide (s.2=q),())) 0 2001 0 () (rs,p)else(0,false)
theorem J2{S:Nat->Prop}{h:Heap}{s:Sl}{xs:List Int}(H:aP S h s xs){b:Nat}(hb:h.size<=b):aP (fun k=>k≠b) h s xs:=H.low.mono fun k hk=>by omega
theorem VX{h:Heap}{b:Nat}{q:Int}(V:dD h b [VI q])(x:Sl)(p:Int)(K:Value->Heap->Prop)(HK:∀h',dD h' b [VI q]->Fr No h h'->K (VB (decide (p=q))) h'):fD Tryz.prog (.func (.func 211) #[] #[VP b 0]) [.agg #[x.v,VI p]] h K:=by
 refine aho x p b q h K (.cons V (by simp) .nil) fun b2 h2 dC f2 bW=> ?_
 exact HK h2 bW.tail.head f2.aF
theorem Lr{S S':Nat->Prop}{h:Heap}{g w:Sl}{aD:List (List Int)}{rs:List Int}(G:bL S h g aD)(H:aP S' h w rs)(p q:Int)(K:Value->Heap->Prop)(HK:∀h',Fr No h h'->K (.tuple #[VI (nB aD rs p q).1,VB (nB aD rs p q).2]) h'):aE Tryz.prog 164 #[.agg #[g.v],.agg #[w.v,VI p],VI q] h K:=by
 refine v164 g w p q h K fun b1 b2 b3 h3 dT dC iE f3 cF=> ?_
 have f3:=f3.aF
 refine sB (G.no f3) (H.no f3) p _ fun h4 f4=>⟨_,rfl,cF.aB f4,fun e=> ?_,fun e=> ?_⟩
 ·have e2:nB aD rs p q=(0,false):=by unfold nB;rw[if_neg (by rw[aX e];simp)]
  rw[e2]at HK
  exact HK h4 (f3.aA f4)
 have e:=aW e
 have dJ:=cF.aB f4
 have jR:=f3.aA f4
 refine aQ fy (fun k=>h4.size<=k) (fun _ h=>h) 1 (by omega) [VI q] rfl rfl fun t h5 n5 c5 o5 f5 m5 _=>⟨t,rfl,dJ.aB f5,?_⟩
 have o5:aP (fun k=>h4.size<=k) h5 t [q]:=o5.eQ
 have gr:=dJ.aB f5
 have qX:=jR.aA f5
 refine sA (G.no qX) o5 _ fun h6 f6=>⟨_,rfl,gr.aB f6,fun e1=> ?_,fun e1=> ?_⟩
 all_goals simp only[List.all_cons,List.all_nil,Bool.and_true]at e1
 ·have e2:nB aD rs p q=(0,false):=by unfold nB;rw[if_neg (by rw[e,aX e1];simp)]
  rw[e2]at HK
  exact HK h6 (qX.aA f6)
 have e1:=aW e1
 have e2:nB aD rs p q=bG aD (fun(_:Unit) s=>(decide (s.2=q),())) 0 2001 0 () (rs,p):=by unfold nB;rw[if_pos (by rw[e,e1];rfl)]
 rw[e2]at HK
 have iY:=gr.aB f6
 have xT:=qX.aA f6
 have RB:=iY.head.lt
 refine Fl (S:=S) (T:=No) (s:=(rs,p)) (fun(_:Unit)(s:St)=>(decide (s.2=q),())) (fun _ h'=>dD h' b3 [VI q]/\Fr No h6 h') (G.no xT) (H.no xT) (cG e) 0 _ () ⟨iY.head,Fr.refl _ _⟩ (fun _ h=>h.elim) (fun _ _ h=>h) (fun _ h1 h2 c f=>⟨c.1.fr f (by omega),c.2.fresh f fun k hk=>hk⟩) (fun t x s' h1 K z1 c1 r1 W1 HK=>VX c1.1 x s'.2 K fun h2 v2 f2=>HK h2 ⟨v2,c1.2.trans f2⟩ f2) _ fun h7 f7=>⟨_,_,_,rfl,iY.aB f7,HK h7 (xT.aA f7)⟩
theorem xU{S S':Nat->Prop}{h:Heap}{g w:Sl}{aD:List (List Int)}{rs:List Int}(G:bL S h g aD)(H:aP S' h w rs)(p q:Int)(K:Value->Heap->Prop)(HK:∀h',Fr No h h'->K (.tuple #[VI (nB aD rs p q).1,VB (nB aD rs p q).2]) h'):aE Tryz.prog 135 #[.agg #[g.v],.agg #[w.v,VI p],VI q] h K:=by
 refine afP g w p q h K fun b1 b2 h2 dT dC f2 bW=> ?_
 have f2:=f2.aF
 have l2:b2<h2.size:=bW.head.lt
 refine fi (G.no f2) (H.no f2) p _ fun h3 f3=>⟨_,rfl,bW.aB f3,fun e=> ?_,fun e=> ?_⟩
 ·have e2:nB aD rs p q=(0,false):=by unfold nB;rw[if_neg (by rw[aX e];simp)]
  rw[e2]at HK
  exact HK h3 (f2.aA f3)
 have e:=aW e
 have cF:=bW.aB f3
 have gI:=f2.aA f3
 refine cQ (G.no gI) q _ fun h4 f4=>⟨_,rfl,cF.aB f4,fun e1=> ?_,fun e1=> ?_⟩
 ·have e2:nB aD rs p q=(0,false):=by unfold nB;rw[if_neg (by rw[e,aX e1];simp)]
  rw[e2]at HK
  exact HK h4 (gI.aA f4)
 have e1:=aW e1
 have e2:nB aD rs p q=bG aD (fun(_:Unit) s=>(decide (s.2=q),())) 0 2001 0 () (rs,p):=by unfold nB;rw[if_pos (by rw[e,e1];rfl)]
 rw[e2]at HK
 generalize hR:bG aD (fun(_:Unit)(s:St)=>(decide (s.2=q),())) 0 2001 0 () (rs,p)=R at HK
 have jR:=gI.aA f4
 have z4:=jR.size
 refine⟨fun n i x y h'=>∃s':St,y=s'.2/\0<=i/\i+n=2001/\aP (fun k=>k≠b2) h' x s'.1/\gu aD s'/\Fr No h h'/\h2.size<=h'.size/\R=bG aD (fun(_:Unit)(s:St)=>(decide (s.2=q),())) 0 n i () s',⟨2001,(rs,p),rfl,by omega,by omega,(J2 H dC).no jR,cG e,jR,by have:=f3.size;have:=f4.size;omega,hR.symm⟩,?_⟩
 rintro n i x y h5 ⟨s',rfl,i0,i1,r5,W5,f5,z5,eq⟩ gr
 refine⟨fun e3=>⟨fun e4=> ?_,fun e4=> ?_⟩,fun e3=> ?_⟩
 ·simp only[decide_eq_true_eq]at e3
  obtain⟨m,rfl⟩:∃m,n=m+1:=⟨n-1,by omega⟩
  rw[bG,if_pos i0]at eq
  simp only[e4,if_true]at eq
  rw[eq]at HK
  exact HK h5 f5
 ·simp only[decide_eq_true_eq]at e3
  obtain⟨m,rfl⟩:∃m,n=m+1:=⟨n-1,by omega⟩
  rw[bG,if_pos i0]at eq
  simp only[e4]at eq
  refine oX (G.no f5) r5 W5 _ (fun hs h6 f6=>⟨x,s'.2,false,rfl,gr.aB f6,fun _ b3 h8 iE f8 fA=> ?_,fun e=>by simp at e⟩) fun s2 hs t h6 o6 f6=>⟨t,s2.2,true,rfl,gr.aB f6,fun e=>by simp at e,fun _ b3 h9 iE f9 fS=> ?_⟩
  ·rw[hs]at eq
   simp only[Bool.false_eq_true,if_false]at eq
   rw[eq]at HK
   exact HK h8 ((f5.aA f6).aA f8.aF)
  ·rw[hs]at eq
   simp only[Bool.false_eq_true,if_false]at eq
   rw[aH (i+1) (by omega) (by omega)]
   refine⟨m,by omega,s2,rfl,by omega,by omega,?_,W5.step hs,(f5.aA f6).fresh f9 (fun k hk=> ?_),by have:=f6.size;have:=f9.size;omega,eq⟩
   ·refine(aP.fr (o6.tJ) f9 fun k hk aI=> ?_).mono fun k hk=> ?_
    ·simp only[In,List.mem_cons,List.not_mem_nil,or_false]at aI
     have:=hk.1
     omega
    ·have:=hk.1
     omega
   ·simp only[In,List.mem_cons,List.not_mem_nil,or_false]at hk
    omega
 ·simp only[decide_eq_false_iff_not]at e3
  obtain rfl:n=0:=by omega
  rw[eq]at HK
  exact HK h5 f5
theorem xV{S S':Nat->Prop}{h:Heap}{a b:Sl}{xs ys:List Int}(H:aP S h a xs)(H':aP S' h b ys)(p q:Int):qR Tryz.prog 226 #[.agg #[a.v,VI p],.agg #[b.v,VI q]] h (VB (decide (p=q/\xs=ys))):=by
 intro K HK
 refine v226 a p b q h K ⟨fun e b1 b2 h2 dT dC f2 bW=> ?_,fun e=>⟨fun e1 b1 b2 h2 dT dC f2 bW=> ?_,fun e1 b1 b2 h2 dT dC f2 bW=> ?_⟩⟩
 ·have e:=aX e
  simp only[decide_eq_false_iff_not]at e
  rw[decide_eq_false (fun e2=>e e2.1)]at HK
  exact HK _ f2.aF
 ·have e1:=aX e1
  rw[H.len,H'.len]at e1
  simp only[decide_eq_false_iff_not]at e1
  rw[decide_eq_false (fun e2=>e1 (by rw[e2.2]))]at HK
  exact HK _ f2.aF
 ·have e:=aW e
  simp only[decide_eq_true_eq]at e
  have e1:=aW e1
  rw[H.len,H'.len]at e1
  have hl:xs.length=ys.length:=by simp at e1;omega
  have f2:=f2.aF
  have H2:=H.no f2
  have H2':=H'.no f2
  have HK2:=HK _ f2
  have e2:decide (p=q/\xs=ys)=decide (xs=ys):=by simp[e]
  rw[e2]at HK2
  refine⟨fun n i h'=>h'=h2/\0<=i/\i+n=(xs.length:Int)/\decide (xs=ys)=decide (xs.drop i.toNat=ys.drop i.toNat),⟨xs.length,rfl,by omega,by omega,by simp⟩,?_⟩
  rintro n i hh ⟨rfl,h0,h1,h3⟩ hL
  refine⟨fun e=> ?_,fun e=> ?_⟩
  ·have hi:=H2.lt e
   have gH:i<(ys.length:Int):=by omega
   refine⟨H2.bB h0 hi,_,H2.get h0 hi,H2'.bB h0 gH,_,H2'.get h0 gH,fun e=> ?_,fun e=> ?_⟩
   ·rw[drop_cons xs h0 hi,drop_cons ys h0 gH]at h3
    have e3:=aX e
    simp only[decide_eq_false_iff_not]at e3
    rw[h3,decide_eq_false (fun e4=>e3 (List.cons.inj e4).1)]at HK2
    exact HK2
   ·rw[drop_cons xs h0 hi,drop_cons ys h0 gH]at h3
    have e3:=aW e
    simp only[decide_eq_true_eq]at e3
    rw[H2.succ h0 hi]
    refine⟨n-1,by omega,rfl,by omega,by omega,h3.trans ?_⟩
    rw[e3]
    simp
  ·have hi:=H2.ge e
   rw[List.drop_of_length_le (by omega),List.drop_of_length_le (by omega)]at h3
   rw[h3]at HK2
   exact HK2
def jL(rs:List Int)(p:Int)(_:Unit)(s:St):Bool×Unit:=(decide (p=s.2/\rs=s.1),())
theorem Ls{S S':Nat->Prop}{h:Heap}{g w:Sl}{aD:List (List Int)}{rs:List Int}(G:bL S h g aD)(H:aP S' h w rs)(p:Int)(W:gu aD (rs,p))(K:Value->Heap->Prop)(HK:∀h',Fr No h h'->K (VI (bG aD (jL rs p) 1 2001 0 () (rs,p)).1) h'):aE Tryz.prog 227 #[.agg #[g.v],.agg #[w.v,VI p],VI 2000] h K:=by
 refine v227 g w p 2000 h K fun b1 b2 b3 h4 dT dC iE f4 dJ=> ?_
 have f4:=f4.aF
 have l3:b3<h4.size:=dJ.head.lt
 have z4:=f4.size
 have hR0:bG aD (jL rs p) 1 2001 0 () (rs,p)=match cA aD (rs,p)with
  |none=>(0,false)
  |some s'=>bG aD (jL rs p) 1 2000 1 () s':=by rw[bG,if_neg (by omega)];rfl
 generalize hR:bG aD (jL rs p) 1 2001 0 () (rs,p)=R at HK
 rw[hR]at hR0
 refine⟨fun n i x y h'=>∃s':St,y=s'.2/\1<=i/\i+n=2001/\aP (fun k=>k≠b3) h' x s'.1/\gu aD s'/\Fr No h h'/\h4.size<=h'.size/\R=(match cA aD s' with
  |none=>(0,false)
  |some s2=>bG aD (jL rs p) 1 n i () s2),⟨2000,(rs,p),rfl,by omega,by omega,(J2 H iE).no f4,W,f4,Nat.le_refl _,hR0⟩,?_⟩
 rintro n i x y h5 ⟨s',rfl,i0,i1,r5,W5,f5,z5,eq⟩ gr
 refine⟨fun e3=> ?_,fun e3=> ?_⟩
 ·simp only[decide_eq_true_eq]at e3
  obtain⟨m,rfl⟩:∃m,n=m+1:=⟨n-1,by omega⟩
  refine oX (G.no f5) r5 W5 _ (fun hs h6 f6=>⟨x,s'.2,false,rfl,gr.aB f6,fun _ b4 h8 Ha f8 fA=> ?_,fun e=>by simp at e⟩) fun s2 hs t h6 o6 f6=>⟨t,s2.2,true,rfl,gr.aB f6,fun e=>by simp at e,fun _ b4 h9 Ha f9 fS=> ?_⟩
  ·rw[hs]at eq
   simp only at eq
   rw[eq]at HK
   exact HK h8 ((f5.aA f6).aA f8.aF)
  ·rw[hs]at eq
   simp only at eq
   rw[bG,if_pos i0]at eq
   have z6:=f6.size
   have z9:=f9.size
   have aiU:∀k,In [b3] k->h.size<=k:=fun k hk=>by simp only[In,List.mem_cons,List.not_mem_nil,or_false]at hk;omega
   have Mu:=(f5.aA f6).fresh f9 aiU
   have r9:aP (fun k=>k≠b3) h9 t s2.1:=(aP.fr (o6.tJ) f9 fun k hk aI=>by
    simp only[In,List.mem_cons,List.not_mem_nil,or_false]at aI
    have:=hk.1
    omega).mono fun k hk=>by have:=hk.1;omega
   refine xV r9 (H.no Mu) s2.2 p _ fun dV f10=>⟨_,rfl,fS.aB f10,fun e=> ?_,fun e=> ?_⟩
   ·have e1:(jL rs p () s2).1=true:=by
     simp only[decide_eq_true_eq]at e
     simp[jL,e.1,e.2]
    rw[if_pos e1]at eq
    rw[eq]at HK
    exact HK dV (Mu.aA f10)
   ·have e1:¬(jL rs p () s2).1=true:=by
     simp only[decide_eq_false_iff_not]at e
     simp only[jL,decide_eq_true_eq]
     exact fun h=>e ⟨h.1.symm,h.2.symm⟩
    rw[if_neg e1]at eq
    rw[aH (i+1) (by omega) (by omega)]
    exact⟨m,by omega,s2,rfl,by omega,by omega,r9.no f10,W5.step hs,Mu.aA f10,by have:=f10.size;omega,eq⟩
 ·simp only[decide_eq_false_iff_not]at e3
  obtain rfl:n=0:=by omega
  have:R=(0,false):=by
   rw[eq]
   split
   ·rfl
   ·rw[bG]
  rw[this]at HK
  exact HK h5 f5
def runT{τ:Type}(g:List (List Int))(wx:τ->St->St->τ):Nat->τ->St->Option (τ×St)
 |0,t,s=>some (t,s)
 |n+1,t,s=>match cA g s with
  |none=>none
  |some s'=>runT g wx n (wx t s s') s'
theorem Bj{τ:Type}{g:List (List Int)}{wx:τ->St->St->τ}{s'':St}:∀(n:Nat)(t:τ)(s:St)(t':τ)(s':St),runT g wx n t s=some (t',s')->cA g s'=some s''->runT g wx (n+1) t s=some (wx t' s' s'',s'')
 |0,t,s,t',s',h,hs=>by
  simp only[runT,Option.some.injEq,Prod.mk.injEq]at h
  obtain⟨rfl,rfl⟩:=h
  rw[runT,hs]
  rfl
 |n+1,t,s,t',s',h,hs=>by
  rw[runT]at h
  rw[runT]
  split at h
  ·cases h
  ·rename_i s2 h2
   exact Bj n _ _ _ _ h hs
theorem NS{τ:Type}(wx:τ->St->St->τ)(C:Nat->τ->Heap->Prop)(T0:Nat->Prop){F S:Nat->Prop}{b:Nat}{h:Heap}{g w:Sl}{aD:List (List Int)}{s0:St}(G:bL S h g aD)(V:dD h b [w.v,VI s0.2])(H:bM h F w s0.1)(hS:∀k,S k->¬F k/\¬T0 k)(hFb:F b)(Hh:¬w.own b)(W:gu aD s0)(n:Int)(hn0:0<=n)(hn1:n<=1000000)(wt:Value)(t0:τ)
 (hF:∀k,F k->k<h.size) (hT0:∀k,T0 k->¬F k/\k<h.size) (hC0:∀N,h.size<=N->C N t0 h) (hC:∀N t h1 h2(U:Nat->Prop),C N t h1->Fr U h1 h2->(∀k,U k->¬T0 k/\k<N)->C N t h2)
 (hw:∀N t s s' h1(K:Value->Heap->Prop),h.size<=N->N<=h1.size->C N t h1->dD h1 b [w.v,VI s'.2]->bM h1 F w s'.1->gu aD s->cA aD s=some s'->(∃m:Nat,(m:Int)<n/\runT aD wx m t0 s0=some (t,s))->(∀h2 v,C N (wx t s s') h2->Fr (fun k=>T0 k\/N<=k) h1 h2->K v h2)->fD Tryz.prog wt [VI s.2] h1 K)
 (K:Value->Heap->Prop)
 (HN:runT aD wx n.toNat t0 s0=none->∀N t' h' p,h.size<=N->C N t' h'->dD h' b [w.v,VI p]->Fr (fun k=>F k\/T0 k) h h'->K (VB false) h')
 (HS:∀t' s',runT aD wx n.toNat t0 s0=some (t',s')->∀N h',h.size<=N->C N t' h'->bM h' F w s'.1->gu aD s'->dD h' b [w.v,VI s'.2]->Fr (fun k=>F k\/T0 k) h h'->K (VB true) h'):
 aE Tryz.prog 206 #[.agg #[g.v],VP b 0,VI n,wt] h K:=by
 have hbl:=V.lt
 refine v206 g b w s0.2 n wt h K (.cons V (by simp) .nil) fun b2 h1 dC f1 bF=> ?_
 have f1:=f1.aF
 have l2:b2<h1.size:=bF.head.lt
 have z1:=f1.size
 have J3:∀k,F k->¬T0 k:=fun k hk aI=>(hT0 k aI).1 hk
 refine⟨fun m i x p h'=>∃(t:τ)(s':St),x=w/\p=s'.2/\0<=i/\i+m=n/\C h1.size t h'/\bM h' F w s'.1/\gu aD s'/\Fr (fun k=>F k\/T0 k) h h'/\h1.size<=h'.size/\runT aD wx i.toNat t0 s0=some (t,s')/\runT aD wx n.toNat t0 s0=runT aD wx m t s',⟨n.toNat,t0,s0,rfl,rfl,by omega,by omega,hC _ _ _ _ _ (hC0 _ z1) f1 (fun k hk=>hk.elim),Ow.no H f1,W,f1.aB,Nat.le_refl _,rfl,rfl⟩,?_⟩
 rintro m i x p h2 ⟨t,s',rfl,rfl,i0,i1,c2,o2,W2,f2,z2,hm,eq⟩ bW
 refine⟨fun e=> ?_,fun e=> ?_⟩
 ·simp only[decide_eq_true_eq]at e
  obtain⟨m,rfl⟩:∃q,m=q+1:=⟨m-1,by omega⟩
  rw[runT]at eq
  have G2:bL S h2 g aD:=G.fr f2 fun k hk aI=>by
   rcases aI with aI|aI
   ·exact(hS k hk).1 aI
   ·exact(hS k hk).2 aI
  refine CD G2 bW.tail.head o2 (fun k hk=>(hS k hk).1) hFb Hh W2 _ (fun hs h3 f3=> ?_) fun s3 hs h3 o3 v3 f3=> ?_
  ·rw[hs]at eq
   have cF:=bW.aB f3
   exact⟨x,s'.2,_,rfl,cF,fun _=>HN eq _ _ h3 _ z1 (hC _ _ _ _ _ c2 f3 fun k hk=>hk.elim) cF.tail.head (f2.trans f3.aB),fun e=>by simp at e⟩
  ·rw[hs]at eq
   have cF:Vars h3 [(b2,[g.v]),(b,[x.v,VI s3.2])]:= .cons (bW.head.fr f3 fun hk=>by have:=hF _ hk;omega) (fun p hp=>by simp only[List.mem_cons,List.not_mem_nil,or_false]at hp;subst hp;simp only;omega) (.cons v3 (by simp) .nil)
   have c3:=hC _ _ _ _ _ c2 f3 fun k hk=>⟨J3 k hk,by have:=hF k hk;omega⟩
   have z3:=f3.size
   refine⟨x,s3.2,_,rfl,cF,fun e=>by simp at e,fun _=> ?_⟩
   refine hw h1.size t s' s3 h3 _ z1 (by omega) c3 v3 o3 W2 hs ⟨i.toNat,by omega,hm⟩ fun h4 v c4 f4=> ?_
   have dJ:Vars h4 [(b2,[g.v]),(b,[x.v,VI s3.2])]:=cF.fr f4 fun p hp hk=>by
    simp only[List.mem_cons,List.not_mem_nil,or_false]at hp
    rcases hp with rfl|rfl<;>simp only at hk
    ·rcases hk with hk|hk
     ·have:=(hT0 _ hk).2;omega
     ·omega
    ·rcases hk with hk|hk
     ·exact(hT0 _ hk).1 hFb
     ·have:=hF _ hFb;omega
   rw[aH (i+1) (by omega) (by omega)]
   refine⟨dJ,m,by omega,_,s3,rfl,rfl,by omega,by omega,c4,Ow.fr o3 f4 fun k hk aI=> ?_,W2.step hs,?_,by have:=f4.size;omega,by rw[ig i0];exact Bj _ _ _ _ _ hm hs,eq⟩
   ·have h5:=(o3.aG hk).1
    rcases aI with aI|aI
    ·exact(hT0 _ aI).1 h5
    ·have:=hF _ h5;omega
   ·refine⟨by have:=f2.size;have:=f4.size;omega,fun k hk ht=> ?_⟩
    rw[f4.same k (by have:=f2.size;omega) fun h=>by
     rcases h with h|h
     ·exact ht (.inr h)
     ·omega]
    rw[f3.same k (by have:=f2.size;omega) fun h=>ht (.inl h)]
    exact f2.same k hk ht
 ·simp only[decide_eq_false_iff_not]at e
  obtain rfl:m=0:=by omega
  rw[runT]at eq
  exact HS t s' eq h1.size h2 z1 c2 o2 W2 bW.tail.head f2
theorem CE{S S':Nat->Prop}{h:Heap}{g s:Sl}{aD:List (List Int)}{rs:List Int}(G:bL S h g aD)(H:aP S' h s rs)(p n most:Int):qR Tryz.prog 205 #[.agg #[g.v],.agg #[s.v,VI p],VI n,VI most] h (VB (eW aD rs p&&iB 0 most n)):=by
 intro K HK
 refine ahf g s p n most h K fun b1 b2 h2 dT dC f2 bW=> ?_
 have f2:=f2.aF
 refine sB (G.no f2) (H.no f2) p _ fun h3 f3=>⟨_,rfl,bW.aB f3,fun e=> ?_,fun e=> ?_⟩
 ·rw[e,Bool.true_and]at HK
  exact eJ _ _ _ _ _ ⟨_,rfl,bW.aB f3,HK _ (f2.aA f3)⟩
 ·rw[e,Bool.false_and]at HK
  exact HK _ (f2.aA f3)
theorem Bk{S S':Nat->Prop}{h:Heap}{g s:Sl}{aD:List (List Int)}{rs:List Int}(G:bL S h g aD)(H:aP S' h s rs)(p n:Int):qR Tryz.prog 178 #[.agg #[g.v],.agg #[s.v,VI p],VI n] h (VB (eW aD rs p&&iB 0 2000 n)):=by
 intro K HK
 refine agF g s p n h K fun b1 b2 h2 dT dC f2 bW=> ?_
 have f2:=f2.aF
 refine fi (G.no f2) (H.no f2) p _ fun h3 f3=>⟨_,rfl,bW.aB f3,fun e=> ?_,fun e=> ?_⟩
 ·rw[e,Bool.true_and]at HK
  exact cY _ _ _ _ _ ⟨_,rfl,bW.aB f3,HK _ (f2.aA f3)⟩
 ·rw[e,Bool.false_and]at HK
  exact HK _ (f2.aA f3)
def dH(g:List (List Int))(rs:List Int)(p n:Int):St×Bool:=
 if eW g rs p&&iB 0 2000 n then match runT g (fun(_:Unit) _ _=>()) n.toNat () (rs,p)with
  |none=>(([],0),false)
  |some (_,s)=>(s,true)
 else(([],0),false)
theorem J4{τ:Type}{g:List (List Int)}{wx:τ->St->St->τ}:∀(n:Nat)(t:τ)(s:St),gu g s->∀t' s',runT g wx n t s=some (t',s')->gu g s'
 |0,t,s,W,t',s',h=>by
  simp only[runT,Option.some.injEq,Prod.mk.injEq]at h
  rw[<-h.2];exact W
 |n+1,t,s,W,t',s',h=>by
  rw[runT]at h
  split at h
  ·cases h
  ·rename_i s2 hs
   exact J4 n _ s2 (W.step hs) t' s' h
theorem J5{S S':Nat->Prop}{h:Heap}{g w:Sl}{aD:List (List Int)}{rs:List Int}(G:bL S h g aD)(H:aP S' h w rs)(p n:Int)(K:Value->Heap->Prop)(HK:∀t h',bM h' (Iv h.size h'.size) t (dH aD rs p n).1.1->Fr No h h'->K (.tuple #[.agg #[t.v,VI (dH aD rs p n).1.2],VB (dH aD rs p n).2]) h'):aE Tryz.prog 161 #[.agg #[g.v],.agg #[w.v,VI p],VI n] h K:=by
 refine agh g w p n h K fun b1 b2 b3 h3 dT dC iE f3 cF=> ?_
 have f3:=f3.aF
 have l3:b3<h3.size:=cF.head.lt
 have l2:b2<h3.size:=cF.tail.head.lt
 have l1:b1<h3.size:=cF.tail.tail.head.lt
 have z3:=f3.size
 refine CE (G.no f3) (H.no f3) p n 2000 _ fun h4 f4=>⟨_,rfl,cF.aB f4,fun e h5 f5 gr=> ?_,fun e=> ?_⟩
 ·have e2:dH aD rs p n=(([],0),false):=by unfold dH;rw[if_neg (by rw[aX e];simp)]
  have f5:=f5.cB (lo:=h.size) (hi:=h3.size) ⟨⟨iE,l3⟩,trivial⟩
  have:=HK aC h5 (by rw[e2];exact Ow.nil _ _ _ _) ((f3.aA f4).aJ f5 (Nat.le_refl _))
  rw[e2]at this
  exact this
 have e:=aW e
 have e2:dH aD rs p n=match runT aD (fun(_:Unit) _ _=>()) n.toNat () (rs,p)with
  |none=>(([],0),false)
  |some (_,s)=>(s,true):=by unfold dH;rw[if_pos e]
 rw[Bool.and_eq_true,aZ]at e
 have W:=cG e.1
 have RC:=aO W.bE
 have dJ:=cF.aB f4
 have z4:=f4.size
 have jR:=f3.aA f4
 refine iq (H.no jR) p (by have:=W.len;simp only at this;omega) _ fun u h6 o6 f6=>⟨u,p,rfl,dJ.aB f6,fun b4 h8 Ha f8 fA=> ?_⟩
 have f8:=f8.aF
 have z6:=f6.size
 have z8:=f8.size
 have l4:b4<h8.size:=fA.head.lt
 have f48:=f6.aA f8
 have G8:bL (Iv 0 h4.size) h8 g aD:=(G.no jR).ga.no f48
 have o8:bM h8 (Iv h4.size h8.size) u rs:=(Ow.no o6 f8).mono fun k _ hk=>⟨hk.1,by have:=hk.2;omega⟩
 have hub:¬u.own b4:=fun hk=>by have:=(o6.aG hk).2;omega
 have fT:∀{x y:Heap},Fr (fun k=>Iv h4.size h8.size k\/False) x y->Fr (Iv h4.size h8.size) x y:=fun f=>f.mono fun k _ hk=>by rcases hk with hk|hk;exact hk;exact hk.elim
 refine NS (s0:=(rs,p)) (fun(_:Unit) _ _=>()) (fun _ _ _=>True) (fun _=>False) G8 fA.head o8 (fun k hk=>⟨fun aI=>by have:=hk.2;have:=aI.1;omega,fun h=>h⟩) ⟨by omega,l4⟩ hub W n (by omega) (by omega) _ () (fun k hk=>hk.2) (fun k hk=>hk.elim) (fun _ _=>trivial) (fun _ _ _ _ _ _ _ _=>trivial) (fun N t s s' h1 K hN hN2 _ V O W hs _ HK=> ?_) _ (fun hr N t h9 q hN _ v9 f9=> ?_) fun t' s' hr N h9 hN _ o9 W9 v9 f9=> ?_
 ·refine ahi s.2 h1 K ?_
  exact HK h1 _ trivial (Fr.refl _ _)
 ·have f9:=fT f9
  have fS:Vars h9 [(b4,[u.v,VI q]),(b3,[aC.v,VI 0]),(b2,[w.v,VI p]),(b1,[g.v])]:= .cons v9 fA.ne (fA.tail.iv f9 ⟨.inl (by omega),.inl (by omega),.inl (by omega),trivial⟩)
  refine⟨u,q,_,rfl,fS,fun _ dV f10 dN=> ?_,fun e=>by simp at e⟩
  have f10:=f10.cB (lo:=h.size) (hi:=h3.size) ⟨⟨iE,l3⟩,trivial⟩
  rw[hr]at e2
  have:=HK aC dV (by rw[e2];exact Ow.nil _ _ _ _) (((jR.aA f48).aJ f9 (by omega)).aJ f10 (Nat.le_refl _))
  rw[e2]at this
  exact this
 ·have f9:=fT f9
  have fS:Vars h9 [(b4,[u.v,VI s'.2]),(b3,[aC.v,VI 0]),(b2,[w.v,VI p]),(b1,[g.v])]:= .cons v9 fA.ne (fA.tail.iv f9 ⟨.inl (by omega),.inl (by omega),.inl (by omega),trivial⟩)
  refine⟨u,s'.2,_,rfl,fS,fun e=>by simp at e,fun _ dV f10 dN=> ?_⟩
  have f10:=f10.cB (lo:=h.size) (hi:=h3.size) ⟨⟨iE,l3⟩,trivial⟩
  rw[hr]at e2
  have z9:=f9.size
  have Ah:=f10.size
  have:=HK u dV (by rw[e2];exact(Ow.iv o9 f10 (.inr (by omega))).mono fun k _ hk=>⟨by have:=hk.1;omega,by have:=hk.2;omega⟩) (((jR.aA f48).aJ f9 (by omega)).aJ f10 (Nat.le_refl _))
  rw[e2]at this
  exact this
theorem NT{S S':Nat->Prop}{h:Heap}{g w:Sl}{aD:List (List Int)}{rs:List Int}(G:bL S h g aD)(H:aP S' h w rs)(p:Int)(K:Value->Heap->Prop)(HK:∀t h',bM h' (Iv h.size h'.size) t (dH aD rs p 1).1.1->Fr No h h'->K (.tuple #[.agg #[t.v,VI (dH aD rs p 1).1.2],VB (dH aD rs p 1).2]) h'):aE Tryz.prog 156 #[.agg #[g.v],.agg #[w.v,VI p]] h K:=by
 refine af9 g w p h K fun b1 b2 b3 h3 dT dC iE f3 cF=> ?_
 have f3:=f3.aF
 have l3:b3<h3.size:=cF.head.lt
 have z3:=f3.size
 refine J5 (G.no f3) (H.no f3) p 1 _ fun t h4 o4 f4=>⟨t,_,_,rfl,cF.aB f4,fun h5 f5 gr=> ?_⟩
 have f5:=f5.cB (lo:=h.size) (hi:=h3.size) ⟨⟨iE,l3⟩,trivial⟩
 have z5:=f5.size
 exact HK t h5 ((Ow.iv o4 f5 (.inr (Nat.le_refl _))).mono fun k _ hk=>⟨by have:=hk.1;omega,by have:=hk.2;omega⟩) ((f3.aA f4).aJ f5 (Nat.le_refl _))
theorem Ai{S S':Nat->Prop}{h:Heap}{g w:Sl}{aD:List (List Int)}{rs:List Int}(G:bL S h g aD)(H:aP S' h w rs)(p:Int)(K:Value->Heap->Prop)(HK:∀t h',bM h' (Iv h.size h'.size) t (dH aD rs p 1).1.1->Fr No h h'->K (.tuple #[.agg #[t.v,VI (dH aD rs p 1).1.2],VB (dH aD rs p 1).2]) h'):aE Tryz.prog 128 #[.agg #[g.v],.agg #[w.v,VI p]] h K:=by
 refine afD g w p h K fun b1 b2 b3 h3 dT dC iE f3 cF=> ?_
 have f3:=f3.aF
 have l3:b3<h3.size:=cF.head.lt
 have z3:=f3.size
 refine fi (G.no f3) (H.no f3) p _ fun h4 f4=>⟨_,rfl,cF.aB f4,fun e h5 f5 gr=> ?_,fun e=> ?_⟩
 ·have e2:dH aD rs p 1=(([],0),false):=by unfold dH;rw[if_neg (by rw[aX e];simp)]
  have f5:=f5.cB (lo:=h.size) (hi:=h3.size) ⟨⟨iE,l3⟩,trivial⟩
  have:=HK aC h5 (by rw[e2];exact Ow.nil _ _ _ _) ((f3.aA f4).aJ f5 (Nat.le_refl _))
  rw[e2]at this
  exact this
 have e:=aW e
 have jR:=f3.aA f4
 have e2:dH aD rs p 1=match cA aD (rs,p)with
  |none=>(([],0),false)
  |some s=>(s,true):=by
  unfold dH
  rw[if_pos (by rw[e];rfl)]
  show(match runT aD (fun(_:Unit) _ _=>()) 1 () (rs,p)with
   |none=>(([],0),false)
   |some (_,s)=>(s,true))=_
  rw[runT]
  cases cA aD (rs,p)with
  |none=>rfl
  |some s=>rfl
 refine oX (s:=(rs,p)) (G.no jR) (H.no jR) (cG e) _ (fun hs h6 f6=>⟨w,p,false,rfl,(cF.aB f4).aB f6,fun _ b4 h9 Ha f9 fS=> ?_,fun e=>by simp at e⟩) fun s' hs t h6 o6 f6=>⟨t,s'.2,true,rfl,(cF.aB f4).aB f6,fun e=>by simp at e,fun _ b4 h9 Ha f9 fS=> ?_⟩
 ·have f9:=f9.cB (lo:=h.size) (hi:=h3.size) ⟨⟨iE,l3⟩,trivial⟩
  rw[hs]at e2
  have:=HK aC h9 (by rw[e2];exact Ow.nil _ _ _ _) ((jR.aA f6).aJ f9 (Nat.le_refl _))
  rw[e2]at this
  exact this
 ·have f9:=f9.cB (lo:=h.size) (hi:=h3.size) ⟨⟨iE,l3⟩,trivial⟩
  rw[hs]at e2
  have z4:=f4.size
  have z9:=f9.size
  have:=HK t h9 (by rw[e2];exact(Ow.iv o6 f9 (.inr (by omega))).mono fun k _ hk=>⟨by have:=hk.1;omega,by have:=hk.2;omega⟩) ((jR.aA f6).aJ f9 (Nat.le_refl _))
  rw[e2]at this
  exact this
structure Rn where
 s:St
 ps:List Int
 vs:List Int
 us:List (List Int)
def bump(l:List Int)(i:Nat):List Int:=l.set i (l.getD i 0+1)
def NU(g:List (List Int)):Nat->Rn->Option Rn
 |0,r=>some r
 |n+1,r=>match cA g r.s with
  |none=>none
  |some s'=>NU g n ⟨s',r.ps++[s'.2],bump r.vs s'.2.toNat,r.us.set r.s.2.toNat (bump (r.us.getD r.s.2.toNat []) (s'.1.getD r.s.2.toNat 0).toNat)⟩
def lV(g:List (List Int)):List (List Int):=g.map fun l=>List.replicate l.length 0
def Lu(g:List (List Int))(s:St):Rn:=⟨s,[s.2],List.replicate g.length 0,lV g⟩
structure Lv(g:List (List Int))(m:Nat)(r:Rn):Prop where
 w:gu g r.s
 ps:r.ps.length=m+1
 vs:r.vs.length=g.length
 us:r.us.length=g.length
 row:∀i(h:i<r.us.length)(h':i<g.length),r.us[i].length=g[i].length
 vb:∀x,x∈r.vs->0<=x/\x<=m
 ub:∀l,l∈r.us->∀x,x∈l->0<=x/\x<=m
theorem oY(l:List Int)(i:Nat):(bump l i).length=l.length:=by simp[bump]
theorem xW{l:List Int}{i m:Nat}(h:∀x,x∈l->0<=x/\x<=(m:Int)):∀x,x∈bump l i->0<=x/\x<=((m+1:Nat):Int):=by
 intro x hx
 unfold bump at hx
 rcases List.mem_or_eq_of_mem_set hx with hx|rfl
 ·have:=h x hx;omega
 ·by_cases hi:i<l.length
  ·rw[aN hi]
   have:=h _ (List.getElem_mem hi)
   omega
  ·rw[show l.getD i 0=0 by simp[List.getD,List.getElem?_eq_none (by omega:l.length<=i)]]
   omega
theorem Lv.step{g:List (List Int)}{m:Nat}{r:Rn}(R:Lv g m r){s':St}(hs:cA g r.s=some s'):Lv g (m+1) ⟨s',r.ps++[s'.2],bump r.vs s'.2.toNat,r.us.set r.s.2.toNat (bump (r.us.getD r.s.2.toNat []) (s'.1.getD r.s.2.toNat 0).toNat)⟩:=by
 have hp:r.s.2.toNat<r.us.length:=by rw[R.us];have:=R.w.hi;have:=R.w.lo;omega
 refine⟨R.w.step hs,by simp[R.ps],by simp[oY,R.vs],by simp[R.us],fun i a b=> ?_,xW R.vb,fun l hl=> ?_⟩
 ·simp only[List.length_set]at a
  simp only[List.getElem_set]
  split
  ·rename_i e
   subst e
   rw[oY,aR hp]
   exact R.row _ a b
  ·exact R.row i a b
 ·rcases List.mem_or_eq_of_mem_set hl with hl|rfl
  ·exact fun x hx=>by have:=R.ub l hl x hx;omega
  ·rw[aR hp]
   exact xW (R.ub _ (List.getElem_mem hp))
theorem VY{g:List (List Int)}{s:St}(W:gu g s):Lv g 0 (Lu g s):=by
 refine⟨W,rfl,by simp[Lu],by simp[Lu,lV],fun i a b=>by simp[Lu,lV],fun x hx=> ?_,fun l hl x hx=> ?_⟩
 ·simp only[Lu,List.mem_replicate]at hx
  omega
 ·simp only[Lu,lV,List.mem_map]at hl
  obtain⟨l',_,rfl⟩:=hl
  simp only[List.mem_replicate]at hx
  omega
theorem HW{S S':Nat->Prop}{h:Heap}{g w:Sl}{aD:List (List Int)}{rs:List Int}(G:bL S h g aD)(H:aP S' h w rs)(p n:Int)(W:gu aD (rs,p))(hn0:0<=n)(hn1:n<=2000)(K:Value->Heap->Prop)
 (HN:NU aD n.toNat (Lu aD (rs,p))=none->∀h',Fr No h h'->K (.tuple #[.agg #[aC.v,VI 0,aC.v,aC.v,aC.v],VB false]) h')
 (HS:∀r,NU aD n.toNat (Lu aD (rs,p))=some r->Lv aD n.toNat r->∀e ps vs us h',aP (fun _=>True) h' e r.s.1->aP (fun k=>h.size<=k) h' ps r.ps->aP (fun k=>h.size<=k) h' vs r.vs->bL (fun k=>h.size<=k) h' us r.us->Fr No h h'->K (.tuple #[.agg #[e.v,VI r.s.2,ps.v,vs.v,us.v],VB true]) h'):
 aE Tryz.prog 179 #[.agg #[g.v],.agg #[w.v,VI p],VI n] h K:=by
 refine agH g w p n h K fun b1 b2 b3 h3 dT dC iE f3 cF=> ?_
 have f3:=f3.aF
 have l3:b3<h3.size:=cF.head.lt
 have l2:b2<h3.size:=cF.tail.head.lt
 have l1:b1<h3.size:=cF.tail.tail.head.lt
 have z3:=f3.size
 have RC:=aO W.bE
 have hgt:=mn W.bE
 have lit:∀{h1:Heap}{K:Value->Heap->Prop},(∀t h2,bM h2 (Iv h1.size h2.size) t [p]->Fr No h1 h2->K t.v h2)->jU Tryz.prog (Instr.buildSlice qD 1 #[(0,VI p)]) h1 K:=fun HK=>aQ fy (fun k=>_<=k) (fun _ h=>h) 1 (by omega) [VI p] rfl rfl fun t h2 n2 c2 o2 f2 m2 _=>HK t h2 (Ow.ga o2) f2
 have mk:∀{h1:Heap}{K:Value->Heap->Prop},(∀t h2,bM h2 (Iv h1.size h2.size) t (List.replicate aD.length 0)->Fr No h1 h2->K t.v h2)->jU Tryz.prog (Instr.makeSlice qD (VI (g.n:Int)) (VI (g.n:Int))) h1 K:=fun HK=>eB fy (fun k=>_<=k) (fun _ h=>h) .i64 .i64 g.n g.n (Nat.le_refl _) (by rw[G.len];omega) fun t h2 n2 c2 o2 f2 m2 _=>HK t h2 (Ow.ga (by
  have e:(List.replicate g.n [VI 0]).flatten=(List.replicate aD.length (0:Int)).map VI:=by rw[G.len];simp[List.flatten_replicate_singleton]
  rw[e]at o2;exact o2)) f2
 refine⟨fun b x1 x2 x3 x4 x5 h'=>x1=w/\x2=p/\x5=aC/\∃i1 j1 i2 j2,bM h' (Iv i1 j1) x3 [p]/\bM h' (Iv i2 j2) x4 (List.replicate aD.length 0)/\(j1<=i2\/j2<=i1)/\(b<i1\/j1<=b)/\(b<i2\/j2<=b)/\h3.size<=i1/\h3.size<=i2/\h3.size<=b/\j1<=h'.size/\j2<=h'.size/\Fr No h3 h',⟨?_,?_,?_⟩,?_⟩
 ·refine lit fun t h4 o4 f4=>⟨t,rfl,cF.aB f4,?_⟩
  have z4:=f4.size
  have dJ:=cF.aB f4
  refine⟨mk fun u h5 o5 f5=>⟨u,rfl,dJ.aB f5,fun b5 h6 Qx f6 iY h7 f7 jC=> ?_⟩,fun b6 h8 VZ f8 fA=>mk fun u h9 o9 f9=>⟨u,rfl,fA.aB f9,fun dV f10 dN=> ?_⟩⟩
  ·have f6:=f6.aF
   have z5:=f5.size
   have z6:=f6.size
   have lb:=iY.head.lt
   have f7:=f7.cB (lo:=h5.size) (hi:=h6.size) ⟨⟨Qx,lb⟩,trivial⟩
   have z7:=f7.size
   exact⟨rfl,rfl,rfl,h3.size,h4.size,h4.size,h5.size,((Ow.no o4 f5).no f6).iv f7 (by omega),(Ow.no o5 f6).iv f7 (by omega),by omega,by omega,by omega,by omega,by omega,by omega,by omega,by omega,((f4.aA f5).aA f6).aJ f7 (by omega)⟩
  ·have f8:=f8.aF
   have z8:=f8.size
   have z9:=f9.size
   have lb:=fA.head.lt
   have f10:=f10.cB (lo:=h4.size) (hi:=h8.size) ⟨⟨VZ,lb⟩,trivial⟩
   have Ah:=f10.size
   exact⟨rfl,rfl,rfl,h3.size,h4.size,h8.size,h9.size,((Ow.no o4 f8).no f9).iv f10 (by omega),Ow.iv o9 f10 (by omega),by omega,by omega,by omega,by omega,by omega,by omega,by omega,by omega,((f4.aA f8).aA f9).aJ f10 (by omega)⟩
 ·refine mk fun u h4 o4 f4=>⟨u,rfl,cF.aB f4,?_⟩
  have z4:=f4.size
  have dJ:=cF.aB f4
  refine⟨lit fun t h5 o5 f5=>⟨t,rfl,dJ.aB f5,fun b5 h6 Qx f6 iY h7 f7 jC=> ?_⟩,fun b6 h8 VZ f8 fA=>lit fun t h9 o9 f9=>⟨t,rfl,fA.aB f9,fun dV f10 dN=> ?_⟩⟩
  ·have f6:=f6.aF
   have z5:=f5.size
   have z6:=f6.size
   have lb:=iY.head.lt
   have f7:=f7.cB (lo:=h5.size) (hi:=h6.size) ⟨⟨Qx,lb⟩,trivial⟩
   have z7:=f7.size
   exact⟨rfl,rfl,rfl,h4.size,h5.size,h3.size,h4.size,(Ow.no o5 f6).iv f7 (by omega),((Ow.no o4 f5).no f6).iv f7 (by omega),by omega,by omega,by omega,by omega,by omega,by omega,by omega,by omega,((f4.aA f5).aA f6).aJ f7 (by omega)⟩
  ·have f8:=f8.aF
   have z8:=f8.size
   have z9:=f9.size
   have lb:=fA.head.lt
   have f10:=f10.cB (lo:=h4.size) (hi:=h8.size) ⟨⟨VZ,lb⟩,trivial⟩
   have Ah:=f10.size
   exact⟨rfl,rfl,rfl,h8.size,h9.size,h3.size,h4.size,Ow.iv o9 f10 (by omega),((Ow.no o4 f8).no f9).iv f10 (by omega),by omega,by omega,by omega,by omega,by omega,by omega,by omega,by omega,((f4.aA f8).aA f9).aJ f10 (by omega)⟩
 ·intro b9 h4 hb9 f4 dJ
  have f4:=f4.aF
  have z4:=f4.size
  have lb:=dJ.head.lt
  refine⟨lit fun t h5 o5 f5=>⟨t,rfl,dJ.aB f5,mk fun u h6 o6 f6=>⟨u,rfl,(dJ.aB f5).aB f6,fun h7 f7 jC=> ?_⟩⟩,mk fun u h5 o5 f5=>⟨u,rfl,dJ.aB f5,lit fun t h6 o6 f6=>⟨t,rfl,(dJ.aB f5).aB f6,fun h7 f7 jC=> ?_⟩⟩⟩
  ·have z5:=f5.size
   have z6:=f6.size
   have f7:=f7.cB (lo:=h3.size) (hi:=h4.size) ⟨⟨hb9,lb⟩,trivial⟩
   have z7:=f7.size
   exact⟨rfl,rfl,rfl,h4.size,h5.size,h5.size,h6.size,(Ow.no o5 f6).iv f7 (by omega),Ow.iv o6 f7 (by omega),by omega,by omega,by omega,by omega,by omega,by omega,by omega,by omega,((f4.aA f5).aA f6).aJ f7 (by omega)⟩
  ·have z5:=f5.size
   have z6:=f6.size
   have f7:=f7.cB (lo:=h3.size) (hi:=h4.size) ⟨⟨hb9,lb⟩,trivial⟩
   have z7:=f7.size
   exact⟨rfl,rfl,rfl,h5.size,h6.size,h4.size,h5.size,Ow.iv o6 f7 (by omega),(Ow.no o5 f6).iv f7 (by omega),by omega,by omega,by omega,by omega,by omega,by omega,by omega,by omega,((f4.aA f5).aA f6).aJ f7 (by omega)⟩
 rintro b4 x1 x2 ps0 vs0 x5 Lw ⟨rfl,rfl,rfl,i1,j1,i2,j2,o1,o2,d12,d1,d2,e1,e2,e3,e4,e5,f25⟩ RD
 have aiW:=f3.aA f25
 have z25:=f25.size
 have lb4:b4<Lw.size:=RD.head.lt
 refine⟨fun m i x6 x7 x8 x9 NV h'=>x6=x1/\x7=x2/\x8=ps0/\x9=vs0/\0<=i/\i+m=(aD.length:Int)/\fQ h' (fun k=>Lw.size<=k) NV (lV (aD.take i.toNat))/\Fr (Iv b4 (b4+1)) Lw h'/\Lw.size<=h'.size,⟨aD.length,rfl,rfl,rfl,rfl,by omega,by omega,by simpa[lV]using dI.nil _ _ _ _,Fr.refl _ _,Nat.le_refl _⟩,?_⟩
 rintro m i x6 x7 x8 x9 NV vv ⟨rfl,rfl,rfl,rfl,i0,im,mU,f26,z26⟩ tV
 have HX:Fr No h vv:=aiW.aJ f26 (by omega)
 refine⟨fun e=> ?_,fun e=> ?_⟩
 ·have hi:=G.lt e
  obtain⟨si,c1,c2⟩:=(G.no HX).get i0 hi
  have hsi:=(aT W.bE (List.getElem_mem (show i.toNat<aD.length by omega))).1
  refine⟨(G.no HX).bB i0 hi,si,c1,?_⟩
  refine eB fy (fun k=>vv.size<=k) (fun _ h=>h) .i64 .i64 si.n si.n (Nat.le_refl _) (by have:=c2.len;omega) fun t RE n27 c27 NW f27 m27 _=>⟨t,rfl,tV.aB f27,?_⟩
  have NW:bM RE (fun k=>vv.size<=k) t (List.replicate (aD[i.toNat]'(by omega)).length 0):=by
   have e:(List.replicate si.n [VI 0]).flatten=(List.replicate (aD[i.toNat]'(by omega)).length (0:Int)).map VI:=by rw[c2.len];simp[List.flatten_replicate_singleton]
   rw[e]at NW;exact NW
  refine aQ qg (fun k=>RE.size<=k) (fun _ h=>h) 1 (by omega) [t.v] rfl rfl fun u h28 n28 c28 o28 f28 m28 _=>⟨u,rfl,(tV.aB f27).aB f28,?_⟩
  have z27:=f27.size
  have z28:=f28.size
  refine dI.snoc qg ((mU.ga.no f27).no f28) (F':=fun k=>Lw.size<=k) (fun k _ hk=>hk.1) (fun k hk=>by omega) ((Ow.no NW f28).mono fun k _ hk=>Nat.le_trans z26 hk) (fun k hk aI=>by have:=(NW.aG hk).1;have:=aI.2;omega) o28.rd (by simp[lV];omega) fun y h29 o29 f29=>⟨y,rfl,((tV.aB f27).aB f28).iv f29 ⟨.inl lb4,.inl (by omega),.inl (by omega),.inl (by omega),trivial⟩,fun h30 f30 ai0=> ?_⟩
  have z29:=f29.size
  have f30:=f30.cB (lo:=b4) (hi:=b4+1) ⟨⟨Nat.le_refl _,Nat.lt_succ_self _⟩,trivial⟩
  have z30:=f30.size
  rw[G.succ i0 hi]
  refine⟨m-1,by omega,rfl,rfl,rfl,rfl,by omega,by omega,?_,?_,by omega⟩
  ·rw[dY aD i0 hi]
   have:lV (aD.take i.toNat++[aD[i.toNat]'(by omega)])=lV (aD.take i.toNat)++[List.replicate (aD[i.toNat]'(by omega)).length 0]:=by simp only[lV,List.map_append,List.map_cons,List.map_nil]
   rw[this]
   exact(o29.ga.iv f30 (.inr (by omega))).mono fun k _ hk=>hk.1
  ·exact(f26.Cc (f27.aA f28).aB (fun k(hk:Iv Lw.size vv.size k)=>hk.1)).Cc f29 (fun k hk=>hk.1)|>.trans f30
 have hi:=G.ge e
 rw[List.take_of_length_le (by omega)]at mU
 --the rounds
 generalize hR:NU aD n.toNat (Lu aD (rs,x7))=R at HN HS
 have RF:=Ow.iv o1 f26 (by omega)
 have Wa:=Ow.iv o2 f26 (by omega)
 refine⟨fun q n2 NX Qy J6 x14 x15 h'=>∃(r:Rn)(m:Nat)(E:Nat->Prop),Lv aD m r/\n2=q/\m+q=n.toNat/\Qy=r.s.2/\x14=x9/\x15=NV/\aP E h' NX r.s.1/\(∀k,E k->(k<h.size\/vv.size<=k)/\k<h'.size/\¬J6.own k)/\bM h' (fun k=>h3.size<=k) J6 r.ps/\(∀k,J6.own k->Iv i1 j1 k\/vv.size<=k)/\bM h' (Iv i2 j2) x9 r.vs/\fQ h' (Iv Lw.size vv.size) NV r.us/\Fr No h h'/\vv.size<=h'.size/\R=NU aD q r,
  ⟨n.toNat,Lu aD (rs,x7),0,fun k=>k<h.size,VY W,by omega,by omega,rfl,rfl,rfl,H.low.no HX,fun k hk=>⟨.inl hk,by have:=HX.size;omega,fun aI=>by have:=(RF.aG aI).1.1;omega⟩,RF.mono fun k _ hk=>by have:=hk.1;omega,fun k hk=> .inl (RF.aG hk).1,Wa,mU.ga,HX,Nat.le_refl _,hR.symm⟩,?_⟩
 rintro q n2 NX Qy J6 x14 x15 h31 ⟨r,m',E,ok,rfl,hm,rfl,rfl,rfl,rE,hE,oP,hP,oV,oU,f31,z31,eq⟩ RG
 refine⟨fun e=> ?_,fun e=> ?_⟩
 ·simp only[decide_eq_true_eq]at e
  obtain⟨q,rfl⟩:∃q',q=q'+1:=⟨q-1,by omega⟩
  rw[NU]at eq
  refine oX (G.no f31) rE ok.w _ (fun hs Wb f32=>⟨NX,r.s.2,false,rfl,RG.aB f32,fun _ b10 h35 ab3 f35 ab4=> ?_,fun e=>by simp at e⟩) fun s' hs t Wb o32 f32=>⟨t,s'.2,true,rfl,RG.aB f32,fun e=>by simp at e,fun _=> ?_⟩
  ·rw[hs]at eq
   have f35:=f35.cB (lo:=h.size) (hi:=h3.size) ⟨⟨iE,l3⟩,trivial⟩
   exact HN eq h35 ((f31.aA f32).aJ f35 (Nat.le_refl _))
  ·rw[hs]at eq
   simp only at eq
   have z32:=f32.size
   have hp:r.s.2.toNat<r.us.length:=by rw[ok.us];have:=ok.w.hi;have:=ok.w.lo;omega
   have wv:=ok.w.lo
   have W':=ok.w.step hs
   have RH:=W'.lo
   have aoz:=W'.hi
   have aoA:=ok.us
   have oP2:=Ow.no oP f32
   have oV2:=Ow.no oV f32
   have oU2:=oU.no f32
   have ai3:=f31.aA f32
   refine⟨oU2.rd.bB wv (by omega),fun b10 h34 ab3 f34 Wc=> ?_⟩
   have f34:=f34.aF
   have z34:=f34.size
   have oP4:=Ow.no oP2 f34
   have oV4:=Ow.no oV2 f34
   have oU4:=oU2.no f34
   have oT4:=Ow.no o32 f34
   obtain⟨si,d1',d2',d3'⟩:=oU4.inner wv (by omega)
   have ab5:(r.us[r.s.2.toNat]'hp).length=(aD[r.s.2.toNat]'(by omega)).length:=ok.row _ hp (by omega)
   have hsl:si.n=(r.us[r.s.2.toNat]'hp).length:=aP.len d2'.eQ
   have Qz:r.s.2.toNat<s'.1.length:=by rw[W'.len];omega
   have VU:=W'.Qw _ Qz (by omega)
   have eA:(aD[r.s.2.toNat]'(by omega)).length≠0:=fun h0=>by rw[nA ok.w (by omega) h0]at hs;cases hs
   have CF:0<=s'.1[r.s.2.toNat]' Qz:=VU.1
   have Vj:s'.1[r.s.2.toNat]' Qz<((r.us[r.s.2.toNat]'hp).length:Int):=by omega
   have RT:aP (Iv h31.size Wb.size) h34 t s'.1:=oT4.tJ
   have RU:aP (Iv Lw.size vv.size) h34 si (r.us[r.s.2.toNat]'hp):=d2'.tJ
   have hub:=ok.ub _ (List.getElem_mem hp) _ (List.getElem_mem (show(s'.1[r.s.2.toNat]' Qz).toNat<(r.us[r.s.2.toNat]'hp).length by omega))
   have hwu:aL ((r.us[r.s.2.toNat]'hp)[(s'.1[r.s.2.toNat]' Qz).toNat]'(by omega)+1)=(r.us[r.s.2.toNat]'hp)[(s'.1[r.s.2.toNat]' Qz).toNat]'(by omega)+1:=aH _ (by omega) (by omega)
   refine⟨si,d1',RT.bB wv (by omega),_,RT.get wv (by omega),RU.bB CF Vj,_,RU.get CF Vj,RU.bB CF Vj,?_⟩
   rw[hwu]
   obtain⟨w1,w2,w3⟩:=d2'.eX CF (by omega) (VI ((r.us[r.s.2.toNat]'hp)[(s'.1[r.s.2.toNat]' Qz).toNat]'(by omega)+1))
   have oW:Fr (Iv Lw.size vv.size) h34 _:=w3.mono fun k _ hk=>(d2'.aG hk).1
   have RI:=Wc.iv oW ⟨.inr (by omega),.inl lb4,.inl (by omega),.inl (by omega),.inl (by omega),trivial⟩
   refine⟨w1,RI,fun h36 e36 _=> ?_⟩
   subst e36
   rw[<-List.map_set]at w2
   have oU6:=d3' _ _ w3 w2
   have oV6:=Ow.iv oV4 oW (by omega)
   have QA:=ok.vs
   have hV:s'.2.toNat<r.vs.length:=by omega
   have RV:aP (Iv i2 j2) _ x14 r.vs:=oV6.tJ
   have hvb:=ok.vb _ (List.getElem_mem hV)
   have hwv:aL ((r.vs[s'.2.toNat]'hV)+1)=(r.vs[s'.2.toNat]'hV)+1:=aH _ (by omega) (by omega)
   refine⟨RV.bB RH (by omega),_,RV.get RH (by omega),RV.bB RH (by omega),?_⟩
   rw[hwv]
   have hvn:x14.n=r.vs.length:=aP.len RV
   obtain⟨y1,y2,y3⟩:=oV6.eX RH (by omega) (VI ((r.vs[s'.2.toNat]'hV)+1))
   have y3':Fr (Iv i2 j2) _ _:=y3.mono fun k _ hk=>(oV6.aG hk).1
   have NY:=RI.iv y3' ⟨.inr (by omega),(by have h1:=d2;exact h1.elim .inl .inr),.inl (by omega),.inl (by omega),.inl (by omega),trivial⟩
   refine⟨y1,NY,fun h37 e37 _=> ?_⟩
   subst e37
   rw[<-List.map_set]at y2
   have z36:=oW.size
   have z37:=y3'.size
   have ab6:∀k,J6.own k->¬Iv Lw.size vv.size k:=fun k hk aI=>by
    have h1:=aI.1
    have h2:=aI.2
    rcases hP k hk with h3|h3
    ·have:=h3.2;omega
    ·omega
   have qh:∀k,J6.own k->¬Iv i2 j2 k:=fun k hk aI=>by
    have h1:=aI.1
    have h2:=aI.2
    rcases hP k hk with h3|h3
    ·have:=h3.1;have:=h3.2;omega
    ·omega
   have oP7:=(Ow.fr oP4 oW ab6).fr y3' qh
   refine aQ fy (fun k=>_<=k) (fun _ h=>h) 1 (by omega) [VI s'.2] rfl rfl fun v h38 n38 c38 o38 f38 m38 _=>⟨v,rfl,NY.aB f38,?_⟩
   have z38:=f38.size
   have o38:aP v.own h38 v [s'.2]:=o38.rd
   have NZ:J6.n=r.ps.length:=aP.len oP7.eQ
   have aoM:v.n=1:=o38.len
   refine bQ fy (oP7.no f38) (fun k hk=>by omega) o38 (fc _) (by have:=ok.ps;omega) fun y Lx n39 o39 f39 d39=> ?_
   have z39:=f39.size
   have N3:=(NY.aB f38).fr f39 fun p hp hk=>by
    have h1:=(oP.aG hk).2
    have h2:=(oP.aG hk).1
    simp only[List.mem_cons,List.not_mem_nil,or_false]at hp
    rcases hp with rfl|rfl|rfl|rfl|rfl<;>simp only at h1 h2 hk
    ·omega
    ·rcases hP _ hk with h3|h3
     ·have:=h3.1;have:=h3.2;omega
     ·omega
    ·omega
    ·omega
    ·omega
   refine⟨y,rfl,N3,fun h41 f41 aoP=> ?_⟩
   have f41:=f41.cB (lo:=b4) (hi:=b4+1) ⟨⟨Nat.le_refl _,Nat.lt_succ_self _⟩,⟨Nat.le_refl _,Nat.lt_succ_self _⟩,trivial⟩
   have z41:=f41.size
   have Ha:∀k,J6.own k->¬k=b4:=fun k hk e=>by
    subst e
    rcases hP _ hk with h3|h3
    ·have:=h3.1;have:=h3.2;omega
    ·omega
   rw[aH _ (by omega) (by omega)]
   rw[<-List.map_append]at o39
   have eV:r.vs.set s'.2.toNat ((r.vs[s'.2.toNat]'hV)+1)=bump r.vs s'.2.toNat:=by unfold bump;rw[aN hV]
   have eU:(r.us[r.s.2.toNat]'hp).set (s'.1[r.s.2.toNat]' Qz).toNat ((r.us[r.s.2.toNat]'hp)[(s'.1[r.s.2.toNat]' Qz).toNat]'(by omega)+1)=bump (r.us.getD r.s.2.toNat []) (s'.1.getD r.s.2.toNat 0).toNat:=by unfold bump;rw[aR hp,aN Qz,aN (by omega)]
   rw[eV]at y2
   rw[eU]at oU6
   have ab7:∀k,J6.own k->¬Iv h31.size Wb.size k:=fun k hk aI=>by have:=(oP.aG hk).2;have:=aI.1;omega
   refine⟨q,by omega,_,m'+1,Iv h31.size Wb.size,ok.step hs,by omega,by omega,rfl,rfl,rfl,?_,fun k hk=>⟨.inr (by have:=hk.1;omega),by have:=hk.2;omega,fun aI=> ?_⟩,?_,fun k hk=> ?_,?_,?_,?_,by omega,eq⟩
   ·exact(((((oT4.iv oW (by omega)).iv y3' (by omega)).no f38).fr f39 fun k hk aI=>ab7 k aI (oT4.aG hk).1).iv f41 (by omega)).tJ
   ·rcases d39 k aI with h1|h1
    ·exact ab7 k h1 hk
    ·have:=hk.2;omega
   ·exact Ow.fr o39 f41 fun k hk aI=>by
     have h1:=aI.1
     have h2:=aI.2
     rcases d39 k hk with h3|h3
     ·exact Ha k h3 (by omega)
     ·omega
   ·rcases d39 k hk with h1|h1
    ·exact hP k h1
    ·exact .inr (by omega)
   ·exact((Ow.no y2 f38).fr f39 fun k hk aI=>qh k aI (y2.aG hk).1).iv f41 (by omega)
   ·exact(((oU6.iv y3' (by omega)).no f38).fr f39 fun k _ hk aI=>ab6 k aI hk).iv f41 (by omega)
   ·exact((((((ai3.aA f34).aJ oW (by omega)).aJ y3' (by omega)).aA f38).fresh f39 fun k hk=>by have:=(oP.aG hk).1;omega).aJ f41 (by omega))
 ·simp only[decide_eq_false_iff_not]at e
  obtain rfl:q=0:=by omega
  rw[NU]at eq
  intro h42 f42 ai7
  have f42:=f42.cB (lo:=h.size) (hi:=h3.size) ⟨⟨iE,l3⟩,trivial⟩
  have em:m'=n.toNat:=by omega
  subst em
  refine HS r eq ok NX J6 x14 x15 h42 ?_ ?_ ?_ ?_ (f31.aJ f42 (Nat.le_refl _))
  ·exact(aP.fr rE f42 fun k hk aI=>by have:=(hE k hk).1;have:=aI.1;have:=aI.2;omega).mono fun _ _=>trivial
  ·exact(aP.fr oP.rd f42 fun k hk aI=>by
    have h1:=aI.1
    have h2:=aI.2
    rcases hP k hk with h3|h3
    ·have:=h3.1;omega
    ·omega).mono fun k hk=>by have:=(oP.aG hk).1;omega
  ·exact(aP.iv oV.tJ f42 (by omega)).mono fun k hk=>by have:=hk.1;omega
  ·exact(bL.iv oU.tJ f42 (by omega)).mono fun k hk=>by have:=hk.1;omega
def N4(r:Rn)(s':St):Rn:=⟨s',r.ps++[s'.2],bump r.vs s'.2.toNat,r.us.set r.s.2.toNat (bump (r.us.getD r.s.2.toNat []) (s'.1.getD r.s.2.toNat 0).toNat)⟩
theorem CG{τ:Type}(g:List (List Int))(f:Rn->τ)(wx:τ->St->St->τ)(hf:∀r s',f (N4 r s')=wx (f r) r.s s'):∀(n:Nat)(r:Rn),runT g wx n (f r) r.s=(NU g n r).map fun r=>(f r,r.s)
 |0,r=>by simp[runT,NU]
 |n+1,r=>by
  rw[runT,NU]
  cases cA g r.s with
  |none=>rfl
  |some s'=>
   show runT g wx n (wx (f r) r.s s') s'=(NU g n (N4 r s')).map _
   rw[<-CG g f wx hf n (N4 r s'),hf]
   rfl
theorem CH{S S':Nat->Prop}{h:Heap}{g w:Sl}{aD:List (List Int)}{rs:List Int}(G:bL S h g aD)(H:aP S' h w rs)(p n:Int)(K:Value->Heap->Prop)(HK:∀t h',bM h' (Iv h.size h'.size) t (dH aD rs p n).1.1->Fr No h h'->K (.tuple #[.agg #[t.v,VI (dH aD rs p n).1.2],VB (dH aD rs p n).2]) h'):aE Tryz.prog 129 #[.agg #[g.v],.agg #[w.v,VI p],VI n] h K:=by
 refine afF g w p n h K fun b1 b2 b3 h3 dT dC iE f3 cF=> ?_
 have f3:=f3.aF
 have l3:b3<h3.size:=cF.head.lt
 have z3:=f3.size
 refine Bk (G.no f3) (H.no f3) p n _ fun h4 f4=>⟨_,rfl,cF.aB f4,fun e h5 f5 gr=> ?_,fun e=> ?_⟩
 ·have e2:dH aD rs p n=(([],0),false):=by unfold dH;rw[if_neg (by rw[aX e];simp)]
  have f5:=f5.cB (lo:=h.size) (hi:=h3.size) ⟨⟨iE,l3⟩,trivial⟩
  have:=HK aC h5 (by rw[e2];exact Ow.nil _ _ _ _) ((f3.aA f4).aJ f5 (Nat.le_refl _))
  rw[e2]at this
  exact this
 have e:=aW e
 have e2:dH aD rs p n=match runT aD (fun(_:Unit) _ _=>()) n.toNat () (rs,p)with
  |none=>(([],0),false)
  |some (_,s)=>(s,true):=by unfold dH;exact if_pos e
 rw[show runT aD (fun(_:Unit) _ _=>()) n.toNat () (rs,p)=_ from CG aD (fun _=>()) (fun(_:Unit) _ _=>()) (fun _ _=>rfl) n.toNat (Lu aD (rs,p))]at e2
 rw[Bool.and_eq_true,aZ]at e
 have W:=cG e.1
 have RC:=aO W.bE
 have jR:=f3.aA f4
 have dJ:=cF.aB f4
 refine HW (G.no jR) (H.no jR) p n W e.2.1 e.2.2 _ (fun hr h6 f6=>⟨aC,0,aC,aC,aC,false,rfl,dJ.aB f6,fun _ b4 h9 Ha f9 fS=> ?_,fun e=>by simp at e⟩) fun r hr ok e' ps vs us h6 r1 r2 r3 r4 f6=>⟨e',r.s.2,ps,vs,us,true,rfl,dJ.aB f6,fun e=>by simp at e,fun _ b4 h8 Ha f8 fA=> ?_⟩
 ·have f9:=f9.cB (lo:=h.size) (hi:=h3.size) ⟨⟨iE,l3⟩,trivial⟩
  rw[hr]at e2
  have:=HK aC h9 (by rw[e2];exact Ow.nil _ _ _ _) ((jR.aA f6).aJ f9 (Nat.le_refl _))
  rw[e2]at this
  exact this
 ·have f8:=f8.aF
  rw[hr]at e2
  have Bm:=(jR.aA f6).aA f8
  refine lC (r1.no f8) (by have:=ok.w.len;omega) _ fun t dV mU f10=>⟨t,rfl,fA.aB f10,fun gP f11 iC=> ?_⟩
  have f11:=f11.cB (lo:=h.size) (hi:=h3.size) ⟨⟨iE,l3⟩,trivial⟩
  have z4:=f4.size
  have z6:=f6.size
  have z8:=f8.size
  have Ah:=f10.size
  have QB:=f11.size
  have:=HK t gP (by rw[e2];exact(Ow.iv mU f11 (.inr (by omega))).Qt (by omega) (by omega)) ((Bm.aA f10).aJ f11 (Nat.le_refl _))
  rw[e2]at this
  exact this
def nU(t:List Int)(_ s':St):List Int:=t++[s'.2]
def iN(g:List (List Int))(rs:List Int)(p n:Int):List Int×Bool:=
 if eW g rs p&&iB 0 200 n then match runT g nU n.toNat [p] (rs,p)with
  |none=>([],false)
  |some (t,_)=>(t,true)
 else([],false)
def HZ(t:List Int)(_ s':St):List Int:=bump t s'.2.toNat
def og(g:List (List Int))(rs:List Int)(p n:Int):List Int×Bool:=
 if eW g rs p&&iB 0 2000 n then match runT g HZ n.toNat (List.replicate g.length 0) (rs,p)with
  |none=>([],false)
  |some (t,_)=>(t,true)
 else([],false)
theorem qi{S S':Nat->Prop}{h:Heap}{g w:Sl}{aD:List (List Int)}{rs:List Int}(G:bL S h g aD)(H:aP S' h w rs)(p n:Int)(K:Value->Heap->Prop)(HK:∀t h',aP (Iv h.size h'.size) h' t (iN aD rs p n).1->Fr No h h'->K (.tuple #[t.v,VB (iN aD rs p n).2]) h'):aE Tryz.prog 132 #[.agg #[g.v],.agg #[w.v,VI p],VI n] h K:=by
 refine afJ g w p n h K fun b1 b2 h2 dT dC f2 bW=> ?_
 have f2:=f2.aF
 have no:iN aD rs p n=([],false)->∀h',Fr No h h'->K (.tuple #[aC.v,VB false]) h':=fun e h' f=>by
  have:=HK aC h' (by rw[e];exact cW.nil _ _ _) f
  rw[e]at this
  exact this
 refine fi (G.no f2) (H.no f2) p _ fun h3 f3=>⟨_,rfl,bW.aB f3,fun e=> ?_,fun e=> ?_⟩
 ·exact no (by unfold iN;rw[if_neg (by rw[aX e];simp)]) _ (f2.aA f3)
 have e:=aW e
 have gI:=f2.aA f3
 have cF:=bW.aB f3
 refine cY _ _ _ _ _ ⟨_,rfl,cF,fun e1=> ?_,fun e1=> ?_⟩
 ·have e1:iB 0 200 n=false:=aX e1
  exact no (by unfold iN;rw[if_neg (by rw[e,e1];simp)]) _ gI
 have e1:iB 0 200 n=true:=aW e1
 have e2:iN aD rs p n=match runT aD nU n.toNat [p] (rs,p)with
  |none=>([],false)
  |some (t,_)=>(t,true):=by unfold iN;exact if_pos (by rw[e,e1];rfl)
 rw[show runT aD nU n.toNat [p] (rs,p)=_ from CG aD Rn.ps nU (fun _ _=>rfl) n.toNat (Lu aD (rs,p))]at e2
 rw[aZ]at e1
 have z03:=gI.size
 refine HW (G.no gI) (H.no gI) p n (cG e) e1.1 (by omega) _ (fun hr h6 f6=>⟨aC,0,aC,aC,aC,false,rfl,cF.aB f6,fun b3 h7 iE f7 jC=> ?_⟩) fun r hr ok e' ps vs us h6 r1 r2 r3 r4 f6=>⟨e',r.s.2,ps,vs,us,true,rfl,cF.aB f6,fun b3 h7 iE f7 jC=> ?_⟩
 ·rw[hr]at e2
  exact no e2 _ ((gI.aA f6).aA f7.aF)
 ·rw[hr]at e2
  have z7:=f7.aF.size
  have:=HK ps h7 (by rw[e2];exact((cW.lt r2).mono fun k hk=>⟨by have:=hk.1;omega,by have:=hk.2;omega⟩:aP _ h6 ps _).no f7.aF) ((gI.aA f6).aA f7.aF)
  rw[e2]at this
  exact this
theorem vP{S S':Nat->Prop}{h:Heap}{g w:Sl}{aD:List (List Int)}{rs:List Int}(G:bL S h g aD)(H:aP S' h w rs)(p n:Int)(K:Value->Heap->Prop)(HK:∀t h',aP (Iv h.size h'.size) h' t (og aD rs p n).1->Fr No h h'->K (.tuple #[t.v,VB (og aD rs p n).2]) h'):aE Tryz.prog 133 #[.agg #[g.v],.agg #[w.v,VI p],VI n] h K:=by
 refine afL g w p n h K fun b1 b2 h2 dT dC f2 bW=> ?_
 have f2:=f2.aF
 have no:og aD rs p n=([],false)->∀h',Fr No h h'->K (.tuple #[aC.v,VB false]) h':=fun e h' f=>by
  have:=HK aC h' (by rw[e];exact cW.nil _ _ _) f
  rw[e]at this
  exact this
 refine Bk (G.no f2) (H.no f2) p n _ fun h3 f3=>⟨_,rfl,bW.aB f3,fun e=> ?_,fun e=> ?_⟩
 ·exact no (by unfold og;rw[if_neg (by rw[aX e];simp)]) _ (f2.aA f3)
 have e:=aW e
 have gI:=f2.aA f3
 have cF:=bW.aB f3
 have e2:og aD rs p n=match runT aD HZ n.toNat (List.replicate aD.length 0) (rs,p)with
  |none=>([],false)
  |some (t,_)=>(t,true):=by unfold og;exact if_pos e
 rw[show runT aD HZ n.toNat (List.replicate aD.length 0) (rs,p)=_ from CG aD Rn.vs HZ (fun _ _=>rfl) n.toNat (Lu aD (rs,p))]at e2
 rw[Bool.and_eq_true,aZ]at e
 have z03:=gI.size
 refine HW (G.no gI) (H.no gI) p n (cG e.1) e.2.1 e.2.2 _ (fun hr h6 f6=>⟨aC,0,aC,aC,aC,false,rfl,cF.aB f6,fun b3 h7 iE f7 jC=> ?_⟩) fun r hr ok e' ps vs us h6 r1 r2 r3 r4 f6=>⟨e',r.s.2,ps,vs,us,true,rfl,cF.aB f6,fun b3 h7 iE f7 jC=> ?_⟩
 ·rw[hr]at e2
  exact no e2 _ ((gI.aA f6).aA f7.aF)
 ·rw[hr]at e2
  have z7:=f7.aF.size
  have:=HK vs h7 (by rw[e2];exact((cW.lt r3).mono fun k hk=>⟨by have:=hk.1;omega,by have:=hk.2;omega⟩:aP _ h6 vs _).no f7.aF) ((gI.aA f6).aA f7.aF)
  rw[e2]at this
  exact this
theorem Ly(g:List (List Int))(rs:List Int)(p n:Int):(iN g rs p n).1.length<=201:=by
 unfold iN
 split
 ·rename_i h
  rw[Bool.and_eq_true,aZ]at h
  have key:∀(m:Nat)(t:List Int)(s:St)(t':List Int)(s':St),runT g nU m t s=some (t',s')->t'.length=t.length+m:=by
   intro m
   induction m with
   |zero=>
    intro t s t' s' h
    simp only[runT,Option.some.injEq,Prod.mk.injEq]at h
    rw[h.1]
    rfl
   |succ m ih=>
    intro t s t' s' h
    rw[runT]at h
    split at h
    ·cases h
    ·have:=ih _ _ _ _ h
     simp[nU]at this
     omega
  split
  ·simp
  ·rename_i t s hs
   have:=key _ _ _ _ _ hs
   simp at this
   simp only
   omega
 ·simp
theorem mq{L:List (Nat×List Value)}{F:Nat->Prop}{h:Heap}{o:Sl}{xs:List Int}{x:Int}(O:bM h F o xs)(hF:∀k,h.size<=k->F k)(hL:Vars h L)(tW:∀p,p∈L->¬F p.1)(hb:xs.length<=1000000)(R:Sl->Heap->Prop)(HR:∀t h',bM h' F t (xs++[x])->Fr F h h'->Vars h' L->R t h'):jU Tryz.prog (Instr.buildSlice qD 1 #[(0,VI x)]) h fun rv h1=>∃t:Sl,rv=t.v/\Vars h1 L/\jU Tryz.prog (bP qD qD qD o.v t.v) h1 fun H6 h2=>∃t2:Sl,H6=t2.v/\Vars h2 L/\R t2 h2:=by
 refine aQ fy (fun k=>h.size<=k) (fun _ h=>h) 1 (by omega) [VI x] rfl rfl fun t h1 n1 c1 o1 f1 m1 _=>⟨t,rfl,hL.aB f1,?_⟩
 have z1:=f1.size
 have O1:bM h1 F o xs:=Ow.no O f1
 have on:=O1.rd.len
 have tn:=o1.rd.len
 simp only[List.length_map,Nat.mul_one,List.length_cons,List.length_nil]at on tn
 refine bQ fy O1 (fun k hk=>hF k (by omega)) o1.rd (fc [x]) (by omega) fun s' h2 n2 o2 f2 d2=> ?_
 have g2:Fr F h1 h2:=f2.mono fun k _ hk=>(O1.aG hk).1
 have V2:Vars h2 L:=(hL.aB f1).fr g2 tW
 exact⟨s',rfl,V2,HR s' h2 (by rw[bM,List.map_append];exact o2) (f1.aB.trans g2) V2⟩
theorem RJ{S:Nat->Prop}{h:Heap}{s:Sl}{xs:List Int}(H:aP S h s xs)(v:Int)(K:Value->Heap->Prop)(HK:K (VB (decide (v∈xs))) h):aE Tryz.prog 229 #[s.v,VI v] h K:=by
 refine v229 s v h K ⟨fun n i h'=>h'=h/\0<=i/\i+n=(xs.length:Int)/\decide (v∈xs)=decide (v∈xs.drop i.toNat),⟨xs.length,rfl,by omega,by omega,by simp⟩,?_⟩
 rintro n i _ ⟨rfl,i0,i1,i2⟩ hL
 refine⟨fun e=> ?_,fun e=> ?_⟩
 ·have hi:=H.lt e
  rw[drop_cons xs i0 hi]at i2
  refine⟨H.bB i0 hi,_,H.get i0 hi,fun e=> ?_,fun e=> ?_⟩
  ·simp only[decide_eq_true_eq]at e
   rw[i2,decide_eq_true (by rw[e];exact List.mem_cons_self)]at HK
   exact HK
  ·simp only[decide_eq_false_iff_not]at e
   rw[H.succ i0 hi]
   refine⟨n-1,by omega,rfl,by omega,by omega,?_⟩
   rw[i2,decide_eq_decide,List.mem_cons]
   exact⟨fun h=>h.resolve_left fun h=>e h.symm,.inr⟩
 ·have hi:=H.ge e
  rw[List.drop_of_length_le (by omega)]at i2
  rw[i2]at HK
  simpa using HK
theorem xX{S:Nat->Prop}{h:Heap}{s:Sl}{xs:List Int}(H:aP S h s xs)(v:Int)(K:Value->Heap->Prop)(HN:v∉xs->K (VI (-1)) h)(HS:∀i:Nat,i<xs.length->xs.getD i 0=v->(∀j,j<i->xs.getD j 0≠v)->K (VI i) h):aE Tryz.prog 257 #[s.v,VI v] h K:=by
 refine aie s v h K ⟨fun n i h'=>h'=h/\0<=i/\i+n=(xs.length:Int)/\∀j:Nat,(j:Int)<i->xs.getD j 0≠v,⟨xs.length,rfl,by omega,by omega,fun j hj=>by omega⟩,?_⟩
 rintro n i _ ⟨rfl,i0,i1,i2⟩ hL
 refine⟨fun e=> ?_,fun e=> ?_⟩
 ·have hi:=H.lt e
  refine⟨H.bB i0 hi,_,H.get i0 hi,fun e=> ?_,fun e=> ?_⟩
  ·simp only[decide_eq_true_eq]at e
   have:=HS i.toNat (by omega) (by rw[aN (by omega)];exact e.symm) fun j hj=>i2 j (by omega)
   rwa [show((i.toNat:Nat):Int)=i by omega]at this
  ·simp only[decide_eq_false_iff_not]at e
   rw[H.succ i0 hi]
   refine⟨n-1,by omega,rfl,by omega,by omega,fun j hj=> ?_⟩
   by_cases H8:(j:Int)<i
   ·exact i2 j H8
   ·have:j=i.toNat:=by omega
    subst this
    rw[aN (by omega)]
    exact fun h=>e h.symm
 ·have hi:=H.ge e
  refine HN fun hm=> ?_
  obtain⟨j,hj,e2⟩:=List.getElem_of_mem hm
  exact i2 j (by omega) (by rw[aN hj];exact e2)
theorem Fm{S:Nat->Prop}{h:Heap}{s:Sl}{xs:List Int}(H:aP S h s xs)(v:Int)(K:Value->Heap->Prop)(HK:K (VB (decide (v∈xs))) h):aE Tryz.prog 255 #[s.v,VI v] h K:=by
 refine aia s v h K (xX H v _ (fun hn=>⟨_,rfl,.nil,?_⟩) fun i hi e _=>⟨_,rfl,.nil,?_⟩)
 ·rw[decide_eq_false hn]at HK
  exact HK
 ·rw[decide_eq_true (by rw[<-e,aN hi];exact List.getElem_mem _)]at HK
  rw[decide_eq_true (by omega)]
  exact HK
theorem php:∀(N:Nat)(f:Nat->Nat),(∀i,i<=N->f i<N)->∃i j,i<j/\j<=N/\f i=f j
 |0,f,h=>by have:=h 0 (Nat.le_refl _);omega
 |N+1,f,h=>by
  by_cases hx:∃i,i<=N/\f i=f (N+1)
  ·obtain⟨i,h1,h2⟩:=hx
   exact⟨i,N+1,by omega,Nat.le_refl _,h2⟩
  ·have hx:∀i,i<=N->f i≠f (N+1):=fun i h1 h2=>hx ⟨i,h1,h2⟩
   obtain⟨i,j,h1,h2,h3⟩:=php N (fun i=>if f i=N then f (N+1)else f i) fun i hi=>by
    have a:=h i (by omega)
    have b:=h (N+1) (by omega)
    have c:=hx i hi
    (try simp only)
    split<;>omega
   refine⟨i,j,h1,by omega,?_⟩
   have a:=hx i (by omega)
   have b:=hx j h2
   (try simp only at h3)
   split at h3<;>split at h3<;>omega
def nx(g:List (List Int))(rs:List Int)(p:Int):Int:=if p<0 then-1 else if(g.getD p.toNat []).length=0 then-1 else(g.getD p.toNat []).getD (rs.getD p.toNat 0).toNat 0
def cR(g:List (List Int))(rs:List Int)(p:Int):Nat->Int
 |0=>p
 |k+1=>nx g rs (cR g rs p k)
section
variable {g:List (List Int)} {rs:List Int} {a:Int}
theorem wy(W:gu g (rs,a)){p:Int}(h0:0<=p)(h1:p<(g.length:Int))(eA:(g[p.toNat]'(by omega)).length≠0):∃(hr:p.toNat<rs.length)(hm:(rs[p.toNat]).toNat<(g[p.toNat]'(by omega)).length),0<=rs[p.toNat]/\nx g rs p=(g[p.toNat]'(by omega))[(rs[p.toNat]).toNat]:=by
 have hl:rs.length=g.length:=W.len
 have hr:p.toNat<rs.length:=by omega
 have h:=W.Qw p.toNat hr (by omega)
 have h2:0<=rs[p.toNat]:=h.1
 have h3:rs[p.toNat]<=max (((g[p.toNat]'(by omega)).length:Int)-1) 0:=h.2
 refine⟨hr,by omega,h2,?_⟩
 unfold nx
 rw[if_neg (by omega),aR (by omega),if_neg eA,aN hr,aN (by omega)]
theorem CI{p:Int}(h0:0<=p)(h1:p<(g.length:Int))(eA:(g[p.toNat]'(by omega)).length=0):nx g rs p= -1:=by
 unfold nx
 rw[if_neg (by omega),aR (by omega),if_pos eA]
theorem N6{p:Int}(h:p<0):nx g rs p= -1:=by unfold nx;rw[if_pos h]
theorem ab8(W:gu g (rs,a)){p:Int}(h1:p<(g.length:Int)): -1<=nx g rs p/\nx g rs p<(g.length:Int):=by
 by_cases h0:p<0
 ·rw[N6 h0];omega
 by_cases eA:(g[p.toNat]'(by omega)).length=0
 ·rw[CI (by omega) h1 eA];omega
 ·obtain⟨hr,hm,h2,e⟩:=wy W (by omega) h1 eA
  rw[e]
  have:=(aT W.bE (List.getElem_mem (show p.toNat<g.length by omega))).2 _ (List.getElem_mem hm)
  omega
theorem kM(W:gu g (rs,a)){p:Int}(h0:0<=p)(h1:p<(g.length:Int)):∀k,-1<=cR g rs p k/\cR g rs p k<(g.length:Int)
 |0=>by simp only[cR];omega
 |k+1=>by simp only[cR];exact ab8 W (kM W h0 h1 k).2
theorem Fo{p:Int}{k:Nat}(h:cR g rs p k<0):∀m,cR g rs p (k+m)<0
 |0=>h
 |m+1=>by
  rw[<-Nat.add_assoc,cR,N6 (Fo h m)]
  omega
theorem fL{p:Int}{k m:Nat}(h:cR g rs p k<0)(hm:k<=m):cR g rs p m<0:=by
 have:=Fo h (m-k)
 rwa [show k+(m-k)=m by omega]at this
theorem mr{p:Int}{i j:Nat}(h:cR g rs p i=cR g rs p j):∀m,cR g rs p (i+m)=cR g rs p (j+m)
 |0=>h
 |m+1=>by rw[<-Nat.add_assoc,<-Nat.add_assoc,cR,cR,mr h m]
theorem sD{p:Int}{i d:Nat}(h:cR g rs p i=cR g rs p (i+d))(r:Nat):∀c,cR g rs p (i+r+d*c)=cR g rs p (i+r)
 |0=>rfl
 |c+1=>by
  have:=mr h (r+d*c)
  rw[show i+r+d*(c+1)=i+d+(r+d*c) by rw[Nat.mul_succ];omega,<-this,<-Nat.add_assoc]
  exact sD h r c
theorem wz{p:Int}{i d:Nat}(h:cR g rs p i=cR g rs p (i+d))(r:Nat):cR g rs p (i+r)=cR g rs p (i+r%d):=by
 have:=sD h (r%d) (r/d)
 rw[Nat.add_assoc,Nat.mod_add_div]at this
 exact this
theorem sE(W:gu g (rs,a)){p:Int}(h0:0<=p)(h1:p<(g.length:Int))(h:0<=cR g rs p g.length):∃i d,1<=d/\i+d<=g.length/\cR g rs p i=cR g rs p (i+d):=by
 have hn:∀k,k<=g.length->0<=cR g rs p k:=fun k hk=>by
  by_cases hx:cR g rs p k<0
  ·have:=fL hx hk;omega
  ·omega
 obtain⟨i,j,e1,e2,e3⟩:=php g.length (fun k=>(cR g rs p k).toNat) fun k hk=>by
  have:=hn k hk
  have:=(kM W h0 h1 k).2
  (try simp only)
  omega
 refine⟨i,j-i,by omega,by omega,?_⟩
 rw[show i+(j-i)=j by omega]
 have:=hn i (by omega)
 have:=hn j e2
 (try simp only at e3)
 omega
theorem xY(W:gu g (rs,a)){p:Int}(h0:0<=p)(h1:p<(g.length:Int))(h:0<=cR g rs p g.length)(k:Nat):0<=cR g rs p k:=by
 have hn:∀k,k<=g.length->0<=cR g rs p k:=fun k hk=>by
  by_cases hx:cR g rs p k<0
  ·have:=fL hx hk;omega
  ·omega
 obtain⟨i,d,e1,e2,e3⟩:=sE W h0 h1 h
 by_cases hk:k<=g.length
 ·exact hn k hk
 ·have:=wz e3 (k-i)
  rw[show i+(k-i)=k by omega]at this
  rw[this]
  have:=Nat.mod_lt (k-i) (show 0<d by omega)
  exact hn _ (by omega)
theorem RL{p:Int}{i d n:Nat}(h:cR g rs p i=cR g rs p (i+d))(hd:1<=d)(hi:i<=n)(x:Int):x∈(List.range d).map (fun r=>cR g rs p (i+r))↔∃k,n<=k/\cR g rs p k=x:=by
 simp only[List.mem_map,List.mem_range]
 constructor
 ·rintro⟨r,hr,rfl⟩
  refine⟨i+r+d*n,?_,sD h r n⟩
  have:1*n<=d*n:=Nat.mul_le_mul_right _ hd
  omega
 ·rintro⟨k,hk,rfl⟩
  refine⟨(k-i)%d,Nat.mod_lt _ hd,?_⟩
  rw[<-wz h]
  congr 1
  omega
end
structure vw(g:List (List Int))(rs:List Int)(p:Int)(i d:Nat):Prop where
 d1:1<=d
 eq:cR g rs p i=cR g rs p (i+d)
 inj:∀a b,a<b->b<i+d->cR g rs p a≠cR g rs p b
theorem mu{S S':Nat->Prop}{h:Heap}{g w:Sl}{aD:List (List Int)}{rs:List Int}{a:Int}(G:bL S h g aD)(H:aP S' h w rs)(W:gu aD (rs,a)){p:Int}(h0:0<=p)(h1:p<(aD.length:Int)):qR Tryz.prog 230 #[.agg #[g.v],w.v,VI p] h (VI (nx aD rs p)):=by
 intro K HK
 refine ahO g w p h K ⟨G.bB h0 h1,fun b1 h2 dT f2 bW=> ?_⟩
 have f2:=f2.aF
 have G2:=G.no f2
 have H2:=H.no f2
 obtain⟨si,c1,r1⟩:=G2.get h0 h1
 refine⟨si,c1,fun e=> ?_,fun e=> ?_⟩
 ·simp only[decide_eq_true_eq]at e
  rw[CI h0 h1 (by have:=r1.len;omega)]at HK
  exact HK h2 f2
 ·simp only[decide_eq_false_iff_not]at e
  obtain⟨hr,hm,e2,e3⟩:=wy W h0 h1 (by have:=r1.len;omega)
  rw[e3]at HK
  exact⟨G2.bB h0 h1,si,c1,H2.bB h0 (by omega),_,H2.get h0 (by omega),r1.bB e2 (by omega),_,r1.get e2 (by omega),HK h2 f2⟩
theorem Wd{S S':Nat->Prop}{h:Heap}{g w:Sl}{aD:List (List Int)}{rs:List Int}{a:Int}(G:bL S h g aD)(H:aP S' h w rs)(W:gu aD (rs,a)){p:Int}(h0:0<=p)(h1:p<(aD.length:Int)):qR Tryz.prog 256 #[.agg #[g.v],w.v,VI p] h (VI (nx aD rs p)):=by
 intro K HK
 refine aic g w p h K ⟨G.bB h0 h1,fun b1 h2 dT f2 bW=> ?_⟩
 have f2:=f2.aF
 have G2:=G.no f2
 have H2:=H.no f2
 obtain⟨si,c1,r1⟩:=G2.get h0 h1
 refine⟨si,c1,fun e=> ?_,fun e=> ?_⟩
 ·simp only[decide_eq_true_eq]at e
  rw[CI h0 h1 (by have:=r1.len;omega)]at HK
  exact HK h2 f2
 ·simp only[decide_eq_false_iff_not]at e
  obtain⟨hr,hm,e2,e3⟩:=wy W h0 h1 (by have:=r1.len;omega)
  rw[e3]at HK
  exact⟨G2.bB h0 h1,si,c1,H2.bB h0 (by omega),_,H2.get h0 (by omega),r1.bB e2 (by omega),_,r1.get e2 (by omega),HK h2 f2⟩
theorem Lz{S S':Nat->Prop}{h:Heap}{g w:Sl}{aD:List (List Int)}{rs:List Int}{a:Int}(G:bL S h g aD)(H:aP S' h w rs)(W:gu aD (rs,a)){p:Int}(h0:0<=p)(h1:p<(aD.length:Int))(K:Value->Heap->Prop)
 (HN:cR aD rs p aD.length<0->∀h',Fr No h h'->K (.tuple #[aC.v,VB false]) h')
 (HS:0<=cR aD rs p aD.length->∀t xs h',(∀x,x∈xs↔∃k,aD.length<=k/\cR aD rs p k=x)->aP (fun _=>True) h' t xs->Fr No h h'->K (.tuple #[t.v,VB true]) h'):aE Tryz.prog 228 #[.agg #[g.v],w.v,VI p] h K:=by
 refine v228 g w p h K fun b1 h2 dT f2 bW=> ?_
 have f2:=f2.aF
 have l1:b1<h2.size:=bW.head.lt
 have z2:=f2.size
 have RC:=aO W.bE
 refine⟨fun n p' i h'=>0<=i/\i+n=(aD.length:Int)/\p'=cR aD rs p i.toNat/\0<=p'/\Fr No h h'/\h2.size<=h'.size,⟨aD.length,by omega,by omega,rfl,h0,f2,Nat.le_refl _⟩,?_⟩
 rintro n p' i h3 ⟨i0,i1,rfl,p0,f3,z3⟩ cF
 have G3:=G.no f3
 have H3:=H.no f3
 refine⟨fun e=> ?_,fun e=> ?_⟩
 ·have hi:=G3.lt e
  refine mu G3 H3 W p0 (kM W h0 h1 _).2 _ fun h4 f4=>⟨_,rfl,cF.aB f4,fun e2=> ?_,fun e2=> ?_⟩
  ·simp only[decide_eq_true_eq]at e2
   refine HN ?_ h4 (f3.aA f4)
   exact fL (k:=i.toNat+1) (by rw[cR];exact e2) (by omega)
  ·simp only[decide_eq_false_iff_not]at e2
   rw[G3.succ i0 hi]
   exact⟨n-1,by omega,by omega,by omega,by rw[ig i0,cR],by omega,f3.aA f4,by have:=f4.size;omega⟩
 have hi:=G3.ge e
 have ei:i.toNat=aD.length:=by omega
 rw[ei]at p0
 rw[ei]
 obtain⟨i9,d,d1,d2,d3⟩:=sE W h0 h1 p0
 have hd:cR aD rs p aD.length=cR aD rs p (aD.length+d):=by
  have:=mr d3 (aD.length-i9)
  rw[show i9+(aD.length-i9)=aD.length by omega,show i9+d+(aD.length-i9)=aD.length+d by omega]at this
  exact this
 refine aQ fy (fun k=>h3.size<=k) (fun _ h=>h) 1 (by omega) [VI (cR aD rs p aD.length)] rfl rfl fun t h4 n4 c4 o4 f4 m4 _=>⟨t,rfl,cF.aB f4,?_⟩
 have z4:=f4.size
 have jR:=f3.aA f4
 refine mu (G.no jR) (H.no jR) W p0 (kM W h0 h1 _).2 _ fun h5 f5=>⟨_,rfl,(cF.aB f4).aB f5,?_⟩
 have z5:=f5.size
 have qX:=jR.aA f5
 refine⟨fun n x q h'=>∃m,1<=m/\m<=d/\n=d-m/\q=cR aD rs p (aD.length+m)/\bM h' (fun k=>h3.size<=k) x ((List.range m).map fun r=>cR aD rs p (aD.length+r))/\Fr No h h'/\h3.size<=h'.size,⟨d-1,1,Nat.le_refl _,d1,rfl,rfl,by show Ow _ _ _ _ _ _;simpa using Ow.no o4 f5,qX,by omega⟩,?_⟩
 rintro n x q h6 ⟨m,m1,m2,rfl,rfl,o6,f6,z6⟩ iY
 refine⟨fun e=> ?_,fun e=> ?_⟩
 ·have e:=aX e
  simp only[decide_eq_false_iff_not]at e
  have jK:m≠d:=fun h=>e (by rw[h];exact hd.symm)
  refine aQ fy (fun k=>h6.size<=k) (fun _ h=>h) 1 (by omega) [VI (cR aD rs p (aD.length+m))] rfl rfl fun u h7 n7 c7 o7 f7 m7 _=>⟨u,rfl,iY.aB f7,?_⟩
  have z7:=f7.size
  have r7:aP u.own h7 u [cR aD rs p (aD.length+m)]:=o7.rd
  have hxn:x.n=m:=by have:=aP.len (Ow.eQ o6:aP _ h6 x _);simpa using this
  refine bQ fy (Ow.no o6 f7) (fun k hk=>by omega) r7 (fc _) (by have:=r7.len;simp at this;omega) fun y h8 n8 o8 f8 d8=>⟨y,rfl,(iY.aB f7).fr f8 (fun p hp hk=>by
   simp only[List.mem_cons,List.not_mem_nil,or_false]at hp
   subst hp
   have:=(o6.aG hk).1
   simp only at this
   omega),?_⟩
  have z8:=f8.size
  have Bm:Fr No h h8:=(f6.aA f7).fresh f8 fun k hk=>by have:=(o6.aG hk).1;omega
  refine mu (G.no Bm) (H.no Bm) W (xY W h0 h1 p0 _) (kM W h0 h1 _).2 _ fun h9 f9=>⟨_,rfl,((iY.aB f7).fr f8 (fun p hp hk=>by
   simp only[List.mem_cons,List.not_mem_nil,or_false]at hp
   subst hp
   have:=(o6.aG hk).1
   simp only at this
   omega)).aB f9,?_⟩
  have z9:=f9.size
  rw[<-List.map_append]at o8
  refine⟨d-(m+1),by omega,m+1,by omega,by omega,rfl,by rw[<-Nat.add_assoc,cR],?_,Bm.aA f9,by omega⟩
  rw[List.range_succ,List.map_append,List.map_cons,List.map_nil]
  exact Ow.no o8 f9
 ·have e:=aW e
  simp only[decide_eq_true_eq]at e
  exact HS p0 x _ h6 (RL e.symm m1 (Nat.le_refl _)) ((Ow.eQ o6:aP _ h6 x _).mono fun _ _=>trivial) f6
theorem CJ{S S':Nat->Prop}{h:Heap}{g w:Sl}{aD:List (List Int)}{rs:List Int}{a:Int}(G:bL S h g aD)(H:aP S' h w rs)(W:gu aD (rs,a)){p:Int}(h0:0<=p)(h1:p<(aD.length:Int))(K:Value->Heap->Prop)
 (HN:cR aD rs p aD.length<0->∀h',Fr No h h'->K (.tuple #[aC.v,VB false]) h')
 (HS:0<=cR aD rs p aD.length->∀i d t h',vw aD rs p i d->i+d<=aD.length->aP (fun _=>True) h' t ((List.range d).map fun r=>cR aD rs p (i+r))->Fr No h h'->K (.tuple #[t.v,VB true]) h'):aE Tryz.prog 204 #[.agg #[g.v],w.v,VI p] h K:=by
 refine ahd g w p h K fun b1 h2 dT f2 bW=> ?_
 have f2:=f2.aF
 have l1:b1<h2.size:=bW.head.lt
 have z2:=f2.size
 have RC:=aO W.bE
 refine aQ fy (fun k=>h2.size<=k) (fun _ h=>h) 0 (by omega) [] rfl rfl fun t0 h3 n3 c3 o3 f3 m3 _=>⟨t0,rfl,bW.aB f3,?_⟩
 have z3:=f3.size
 refine⟨fun n p' x h'=>∃m,m<=aD.length/\n=aD.length-m/\p'=cR aD rs p m/\(∀k,k<=m->0<=cR aD rs p k)/\bM h' (fun k=>h2.size<=k) x ((List.range m).map fun r=>cR aD rs p r)/\(∀i j,i<j->j<m->cR aD rs p i≠cR aD rs p j)/\Fr No h h'/\h2.size<=h'.size,⟨aD.length,0,by omega,rfl,rfl,fun k hk=>by obtain rfl:k=0:=(by omega);exact h0,by show Ow _ _ _ _ _ _;simpa using o3,fun i j _ h=>by omega,f2.aA f3,z3⟩,?_⟩
 rintro n p' x h4 ⟨m,hm,rfl,rfl,We,o4,hd,f4,z4⟩ dJ
 have r4:aP (fun k=>h2.size<=k) h4 x _:=o4.eQ
 refine Fm r4 _ _ ⟨_,rfl,dJ,fun e=> ?_,fun e=> ?_⟩
 ·have e:=aX e
  simp only[decide_eq_false_iff_not,List.mem_map,List.mem_range]at e
  have hd2:∀i j,i<j->j<m+1->cR aD rs p i≠cR aD rs p j:=fun i j a b h=>by
   by_cases hj:j<m
   ·exact hd i j a hj h
   ·obtain rfl:j=m:=by omega
    exact e ⟨i,a,h⟩
  have JW:m+1<=aD.length:=by
   by_cases hx:m+1<=aD.length
   ·exact hx
   ·exfalso
    obtain⟨i,j,e1,e2,e3⟩:=php aD.length (fun k=>(cR aD rs p k).toNat) fun k hk=>by
     have:=We k (by omega)
     have:=(kM W h0 h1 k).2
     (try simp only)
     omega
    have a1:=We i (by omega)
    have a2:=We j (by omega)
    (try simp only at e3)
    exact hd2 i j e1 (by omega) (by omega)
  refine aQ fy (fun k=>h4.size<=k) (fun _ h=>h) 1 (by omega) [VI (cR aD rs p m)] rfl rfl fun u h5 n5 c5 o5 f5 m5 _=>⟨u,rfl,dJ.aB f5,?_⟩
  have z5:=f5.size
  have r5:aP u.own h5 u [cR aD rs p m]:=o5.rd
  have hxn:x.n=m:=by have:=r4.len;simpa using this
  refine bQ fy (Ow.no o4 f5) (fun k hk=>by omega) r5 (fc _) (by have:=r5.len;simp at this;omega) fun y h6 n6 o6 f6 d6=> ?_
  have iY:=(dJ.aB f5).fr f6 (fun p hp hk=>by
   simp only[List.mem_cons,List.not_mem_nil,or_false]at hp
   subst hp
   have:=(o4.aG hk).1
   simp only at this
   omega)
  have z6:=f6.size
  have xT:Fr No h h6:=(f4.aA f5).fresh f6 fun k hk=>by have:=(o4.aG hk).1;omega
  refine⟨y,rfl,iY,Wd (G.no xT) (H.no xT) W (We m (Nat.le_refl _)) (kM W h0 h1 _).2 _ fun h7 f7=>⟨_,rfl,iY.aB f7,fun e2=> ?_,fun e2=> ?_⟩⟩
  ·simp only[decide_eq_true_eq]at e2
   exact HN (fL (k:=m+1) (by rw[cR];exact e2) JW) h7 (xT.aA f7)
  ·simp only[decide_eq_false_iff_not]at e2
   have z7:=f7.size
   rw[<-List.map_append]at o6
   refine⟨aD.length-(m+1),by omega,m+1,JW,rfl,by rw[cR],fun k hk=> ?_,?_,hd2,xT.aA f7,by omega⟩
   ·by_cases aI:k<=m
    ·exact We k aI
    ·obtain rfl:k=m+1:=by omega
     rw[cR];omega
   ·rw[List.range_succ,List.map_append,List.map_cons,List.map_nil]
    exact Ow.no o6 f7
 ·have e:=aW e
  simp only[decide_eq_true_eq]at e
  refine xX r4 _ _ (fun hn=>absurd e hn) fun i hi ei hj=>⟨_,rfl,dJ,ik fy .i64 (by omega) (by have:=r4.len;omega) ⟨_,rfl,?_⟩⟩
  have wB:i<m:=by simpa using hi
  rw[aN hi]at ei
  simp only[List.getElem_map,List.getElem_range]at ei
  have xZ:cR aD rs p i=cR aD rs p (i+(m-i)):=by rw[show i+(m-i)=m by omega];exact ei
  have Wf:∀k,0<=cR aD rs p k:=fun k=>by
   by_cases hk:k<=m
   ·exact We k hk
   ·have:=wz xZ (k-i)
    rw[show i+(k-i)=k by omega]at this
    rw[this]
    have:=Nat.mod_lt (k-i) (show 0<m-i by omega)
    exact We _ (by omega)
  have hx:((((List.range m).map fun r=>cR aD rs p r).drop i).take (x.n-i))=(List.range (m-i)).map fun r=>cR aD rs p (i+r):=by
   have hxn:x.n=m:=by have:=r4.len;simpa using this
   apply List.ext_getElem
   ·simp;omega
   ·intro j a b
    simp
  have hc:=aP.cut r4 (l:=i) (m:=x.n) (by have:=r4.len;omega) (by have:=r4.len;omega)
  rw[hx]at hc
  exact HS (Wf _) i (m-i) _ h4 ⟨by omega,xZ,fun a b e1 e2=>hd a b e1 (by omega)⟩ (by omega) (hc.mono fun _ _=>trivial) f4
theorem CK{P:Program}{t:TypeId}{K:Value->Prop}(k:IntKind)(a b:Int)(H:K (.int k (bits .and k a b))):pop P (gT .and t (.int k a) (.int k b)) K:=
 .mk' (fun w=>by simp[gT,eqGuard,binOp,intBits_and,bind,Sem.bind,pure,Sem.run]) H
theorem sF{P:Program}{t:TypeId}{K:Value->Prop}(k:IntKind)(a b:Int)(hb:0<=b)(H:K (.int k (a.fdiv (2^(min b.toNat k.bits))))):pop P (gT .shr t (.int k a) (.int k b)) K:=
 .mk' (fun w=>by simp[gT,eqGuard,binOp,Op.shift,show¬b<0 by omega,bind,Sem.bind,pure,Sem.run]) H
theorem kN{P:Program}{src dst:TypeId}{k k':IntKind}(hs:P.underlying src=some (.int k))(hd:P.underlying dst=some (.int k')){h:Heap}{K:Value->Prop}(n:Int)(H:K (.int k' (k'.wrap n))):zZ P (convert src dst (.int k n)) h K:=by
 have hk:P.intKind dst=k':=by simp[Program.intKind,hd]
 refine⟨_,fun w hw=>run_convert_int w src dst k n (by simp[hs]) (by rw[hk];exact hd),?_⟩
 rw[hk]
 exact H
theorem N7{s:Sl}(h:s.n<=s.c):s.cut 1 0 s.n s.c=s:=by
 obtain⟨a,n,c⟩:=s
 unfold Sl.cut
 cases a with
 |none=>simp
 |some a=>simp[Cf]
theorem Fp{P:Program}{t t2 e ty:TypeId}{bs:Nat}{z:List Value}(T:nh P t=some (e,1,bs,z)){h:Heap}{F S:Nat->Prop}{s x:Sl}{vs us:List Value}(H:Ow h F e 1 s vs)(X:cW S h 1 x us)(hp:us.all fq=true)(l m:Nat)(hl:l<=s.n)(hm:m=min x.n (s.n-l))
 {K:Value->Heap->Prop} (HK:∀h',Ow h' F e 1 s (vs.take l++us.take m++vs.drop (l+m))->Fr s.own h h'->K (VI m) h'):jU P (Builtin.copy_ #[t,t2] ty #[(s.cut 1 l s.n s.c).v,x.v]) h K:=by
 obtain⟨hu,i,zv,hi,qA,rfl,hz,hzc,Uw,_,hbs,MY,Rc⟩:=jg T
 refine⟨fun w hw=> ?_⟩
 subst hw
 have Wg:(P.info? e).map (·.size)=some 1:=by rw[hi];simp[qA]
 have QA:=H.len
 have hul:=X.len
 by_cases h0:m=0
 ·subst h0
  have hr:=run_copy_none (P:=P) w t t2 ty e (s.cut 1 l s.n s.c).a x.a (s.cut 1 l s.n s.c).n (s.cut 1 l s.n s.c).c x.n x.c hu Wg (by simp only[Sl.cut];exact hm.symm)
  refine⟨_,w,hr,cN.refl w,HK w.heap ?_ (Fr.refl _ _)⟩
  simpa using H
 ·rcases H.out with⟨rfl,rfl⟩|⟨g,o,j8,ha,hF,hg,h1,h2,h3,h4⟩
  ·simp[aC]at hm;omega
  ·obtain⟨a,hxa,_,_⟩:=X.cell 0 (by omega)
   have hcl:s.c≠l:=by omega
   have hda:(s.cut 1 l s.n s.c).a=some ⟨g,o+l,none⟩:=by simp[Sl.cut,hcl,ha,qS]
   have hr:=run_copy_row (P:=P) w t t2 ty e g (o+l) (s.n-l) (s.c-l) a x.n x.c j8 e (us.take m) hu Wg hg (by rw[List.length_take,hm];simp only[Nat.min_def];split<;>split<;>omega) (fun j v hj=>by
    obtain⟨Wi,rfl⟩:=List.getElem?_eq_some_iff.1 hj
    have aja:j<us.length:=by simp at Wi;omega
    obtain⟨a',GW,_,hc⟩:=X.cell j aja
    rw[hxa]at GW
    obtain rfl:a=a':=by simpa using GW
    simp only[List.getElem_take]
    exact hc) (by simp;omega) (fun u hu=>by
    have:=List.all_eq_true.1 hp u (List.mem_of_mem_take hu)
    cases u<;>simp[fq]at this<;>rfl)
   have hml:(us.take m).length=m:=by simp;omega
   rw[hml]at hr
   have hv:(s.cut 1 l s.n s.c).v= .slice (some ⟨g,o+l,none⟩) (s.n-l) (s.c-l):=by simp only[Sl.v,hda];rfl
   have hxv:x.v= .slice (some a) x.n x.c:=by simp only[Sl.v,hxa]
   rw[<-hv,<-hxv]at hr
   refine⟨_,_,hr,⟨rfl,rfl,rfl⟩,HK _ ⟨?_,.inr ⟨g,o,_,ha,hF,setRow_heap w g j8 _ e _ hg,h1,h2,?_,?_⟩⟩ ⟨by simp[World.setRow],fun k _ hk=>setRow_other w g k _ (fun e=>hk (by simp[Sl.own,ha,e]))⟩⟩
   ·simp;omega
   ·simp;omega
   ·have hol:(j8.toList.take (o+l)).length=o+l:=by simp;omega
    simp only[Nat.mul_one]at h4 QA⊢
    have e1:(j8.toList.take (o+l)++us.take m++j8.toList.drop (o+l+m)).drop o=vs.take l++us.take m++j8.toList.drop (o+l+m):=by
     rw[List.append_assoc,List.drop_append_of_le_length (by omega),List.drop_take,show o+l-o=l by omega,<-h4,List.take_take,Nat.min_eq_left hl,List.append_assoc]
    (try simp only[List.toList_toArray])
    rw[e1,List.take_append,List.take_of_length_le (by simp;omega)]
    congr 1
    have e2:(vs.take l++us.take m).length=l+m:=by simp;omega
    rw[e2,<-h4,List.drop_take,List.drop_drop,Nat.add_assoc]
theorem LA{P:Program}{t t2 e ty:TypeId}{bs:Nat}{z:List Value}(T:nh P t=some (e,1,bs,z)){h:Heap}{F S:Nat->Prop}{s x:Sl}{vs us:List Value}(H:Ow h F e 1 s vs)(X:cW S h 1 x us)(hp:us.all fq=true)(m:Nat)(hm:m=min x.n s.n)
 {K:Value->Heap->Prop} (HK:∀h',Ow h' F e 1 s (us.take m++vs.drop m)->Fr s.own h h'->K (VI m) h'):jU P (Builtin.copy_ #[t,t2] ty #[s.v,x.v]) h K:=by
 have:=Fp (t2:=t2) (ty:=ty) T H X hp 0 m (by omega) (by simpa using hm) (K:=K) fun h' o f=>HK h' (by simpa using o) f
 rw[N7 H.cap.1]at this
 exact this
theorem LB(a n:Int)(ha:a=1)(h0:0<=n)(h1:n<=100):bits .and .u64 a 4294967295=1/\bits .and .u64 n 4294967295=n/\bits .and .u64 0 4294967295=0:=by
 subst ha
 refine⟨by decide,?_,by decide⟩
 have key:∀k:Fin 101,bits .and .u64 (k.val:Int) 4294967295=(k.val:Int):=by decide
 have:=key ⟨n.toNat,by omega⟩
 simp only[show((n.toNat:Nat):Int)=n by omega]at this
 exact this
theorem tX{n:Int}(h0:0<=n)(h1:n<18446744073709551616):IntKind.u64.wrap n=n:=by
 simp only[IntKind.wrap,IntKind.bits,IntKind.signed]
 simp
 omega
theorem kO{n:Int}(h0:0<=n)(h1:n<4294967296):n.fdiv (2^(min (32:Int).toNat IntKind.u64.bits))=0:=by
 have e:(2:Int)^(min (32:Int).toNat IntKind.u64.bits)=4294967296:=by decide
 rw[e,Int.fdiv_eq_ediv_of_nonneg _ (by omega)]
 omega
theorem RN(n:Int)(h0:0<=n)(h1:n<=100)(h:Heap)(K:Value->Heap->Prop)(HK:K (.tuple #[.int .u64 0,.int .u64 n]) h):aE Tryz.prog 288 #[.int .u64 1,.int .u64 n] h K:=by
 obtain⟨m1,m2,m3⟩:=LB 1 n rfl h0 h1
 refine aiK 1 n h K (CK _ _ _ ⟨1,by rw[m1],sF _ _ _ (by omega) ⟨0,by rw[kO (by omega) (by omega)],CK _ _ _ ⟨n,by rw[m2],sF _ _ _ (by omega) ⟨0,by rw[kO (by omega) (by omega)],?_⟩⟩⟩⟩)
 have u0:IntKind.u64.wrap 0=0:=tX (by omega) (by omega)
 have un:IntKind.u64.wrap n=n:=tX h0 (by omega)
 simp only[Int.one_mul,Int.zero_mul,Int.mul_zero,Int.zero_add,Int.add_zero,u0,un]
 refine sF _ _ _ (by omega) ⟨0,by rw[kO (by omega) (by omega)],?_⟩
 simp only[Int.one_mul,Int.zero_mul,Int.mul_zero,Int.zero_add,Int.add_zero,u0,un]
 refine CK _ _ _ ⟨0,by rw[m3],sF _ _ _ (by omega) ⟨0,by rw[kO (by omega) (by omega)],?_⟩⟩
 simp only[Int.one_mul,Int.zero_mul,Int.mul_zero,Int.zero_add,Int.add_zero,u0,un]
 refine sF _ _ _ (by omega) ⟨0,by rw[kO (by omega) (by omega)],?_⟩
 simp only[Int.one_mul,Int.zero_mul,Int.mul_zero,Int.zero_add,Int.add_zero,u0,un]
 exact HK
theorem aca(n:Int)(h0:0<=n)(h1:n<=100)(h:Heap)(K:Value->Heap->Prop)(HK:K (.tuple #[.int .u64 0,.int .u64 n]) h):aE Tryz.prog 282 #[.int .u64 1,.int .u64 n] h K:=
 aiI 1 n h K (RN n h0 h1 h _ ⟨_,_,rfl,.nil,HK⟩)
theorem ya{S:Nat->Prop}{h:Heap}{x:Sl}(v:Int)(X:aP S h x [v])(n:Nat)(h1:1<=n)(h8:n<=100)(K:Value->Heap->Prop)(HK:∀t h',bM h' (Iv h.size h'.size) t (List.replicate n v)->Fr No h h'->K t.v h'):aE Tryz.prog 267 #[x.v,VI n] h K:=by
 have hx1:x.n=1:=by have:=X.len;simpa using this
 refine aix x n h K ⟨fun h'=>h'=h,⟨fun e=>by simp only[decide_eq_true_eq]at e;omega,fun _=>rfl⟩,?_⟩
 rintro _ rfl _
 refine kN (k:= .i64) (k':= .u64) (show Tryz.prog.underlying 3=some (.int .i64)from by kernel_rfl) (show Tryz.prog.underlying 166=some (.int .u64)from by kernel_rfl) _ ⟨1,by rw[hx1];rfl,kN (k:= .i64) (k':= .u64) (show Tryz.prog.underlying 3=some (.int .i64)from by kernel_rfl) (show Tryz.prog.underlying 166=some (.int .u64)from by kernel_rfl) _ ⟨n,by rw[tX (by omega) (by omega)],?_⟩⟩
 refine aca n (by omega) (by omega) _ _ ⟨_,_,rfl,.nil,⟨fun h'=>h'=_,⟨fun e=>by simp at e,fun _=>⟨fun e=>by simp only[decide_eq_true_eq]at e;omega,fun _=>rfl⟩⟩,?_⟩⟩
 rintro _ rfl _
 refine kN (k:= .u64) (k':= .i64) (show Tryz.prog.underlying 166=some (.int .u64)from by kernel_rfl) (show Tryz.prog.underlying 3=some (.int .i64)from by kernel_rfl) _ ⟨n,by rw[show IntKind.i64.wrap (n:Int)=n from aH n (by omega) (by omega)],?_⟩
 refine eB fy (fun k=>_<=k) (fun _ h=>h) .i64 .i64 n n (Nat.le_refl _) (by omega) fun t Vb n1 c1 o1 f1 m1 _=>⟨t,rfl,.nil,?_⟩
 have e1:(List.replicate n [VI 0]).flatten=(List.replicate n (0:Int)).map VI:=by simp[List.flatten_replicate_singleton]
 rw[e1]at o1
 have r1:=aP.no X f1
 have z1:=f1.size
 refine LA (P:=Tryz.prog) fy o1 r1 (fc _) 1 (by omega) fun h2 o2 f2=>⟨1,rfl,.nil,?_⟩
 have e2:([v].map VI).take 1++((List.replicate n (0:Int)).map VI).drop 1=(List.replicate 1 v++List.replicate (n-1) 0).map VI:=by simp
 rw[e2]at o2
 refine⟨fun q m h'=>∃m':Nat,m=m'/\1<=m'/\m'<=n/\q=n-m'/\bM h' (fun k=>_<=k) t (List.replicate m' v++List.replicate (n-m') 0)/\Fr t.own Vb h',⟨n-1,1,rfl,Nat.le_refl _,h1,rfl,o2,f2⟩,?_⟩
 rintro q m h3 ⟨m,rfl,q1,q2,rfl,o3,f3⟩ hL
 refine⟨fun e=> ?_,fun e=> ?_⟩
 ·simp only[decide_eq_true_eq]at e
  have Wj:t.n=n:=n1
  refine ik fy .i64 (by omega) (by omega) ⟨_,rfl,pS fy .i64 (by omega) (by omega) ⟨_,rfl,?_⟩⟩
  simp only[Int.toNat_natCast]
  have r3:aP t.own h3 t _:=o3.rd
  have rb:=aP.cut r3 (l:=0) (m:=m) (by omega) (by simp;try omega)
  rw[List.drop_zero,Nat.sub_zero,List.take_left' (by simp)]at rb
  refine Fp (P:=Tryz.prog) fy o3 rb (fc _) m (min m (n-m)) (by omega) (by simp[Sl.cut,Wj]) fun h4 o4 f4=>⟨_,rfl,.nil,?_⟩
  have e4:((List.replicate m v++List.replicate (n-m) 0).map VI).take m++((List.replicate m v).map VI).take (min m (n-m))++((List.replicate m v++List.replicate (n-m) 0).map VI).drop (m+min m (n-m))=(List.replicate (m+min m (n-m)) v++List.replicate (n-(m+min m (n-m))) 0).map VI:=by
   rw[<-List.map_take,<-List.map_take,<-List.map_drop,<-List.map_append,<-List.map_append]
   congr 1
   rw[List.take_left' (by simp),List.take_replicate,List.drop_append,List.drop_of_length_le (by simp),List.nil_append,List.length_replicate,List.drop_replicate,List.replicate_append_replicate]
   congr 2
   ·omega
   ·omega
  rw[e4]at o4
  rw[aH _ (by omega) (by omega)]
  exact⟨n-(m+min m (n-m)),by omega,m+min m (n-m),by omega,by omega,by omega,rfl,o4,f3.trans f4⟩
 ·simp only[decide_eq_false_iff_not]at e
  have Wj:t.n=n:=n1
  obtain rfl:m=n:=by omega
  rw[Nat.sub_self,List.replicate_zero,List.append_nil]at o3
  exact HK t h3 (Ow.ga o3) (f1.fresh f3 m1)
def lD(x:Int):List Int->List Int×List Int->List Int×List Int
 |[],s=>s
 |q::qs,s=>lD x qs (if s.1.getD q.toNat 0<0 then(s.1.set q.toNat (s.1.getD x.toNat 0+1),s.2++[q])else s)
def CL(g:List (List Int)):Nat->List Int->List Int->List Int
 |0,cT,_=>cT
 |_+1,cT,[]=>cT
 |f+1,cT,x::rest=>CL g f (lD x (g.getD x.toNat []) (cT,[])).1 (rest++(lD x (g.getD x.toNat []) (cT,[])).2)
def gj(g:List (List Int))(p:Int):List Int:=CL g g.length ((List.replicate g.length (-1)).set p.toNat 0) [p]
def iZ(l:List Int):Nat:=(l.filter fun x=>decide (x<0)).length
theorem yb{l:List Int}{i:Nat}{v:Int}(h:i<l.length)(h1:l[i]<0)(h2:0<=v):iZ (l.set i v)+1=iZ l:=by
 induction l generalizing i with
 |nil=>simp at h
 |cons x xs ih=>
  cases i with
  |zero=>
   simp only[List.getElem_cons_zero]at h1
   simp only[iZ,List.set_cons_zero,List.filter_cons,show¬v<0 by omega,h1,decide_true,decide_false,if_true,Bool.false_eq_true,if_false,List.length_cons]
  |succ i=>
   have:=ih (by simpa using h) (by simpa using h1)
   simp only[iZ,List.set_cons_succ,List.filter_cons]at this⊢
   split<;>(try simp only[List.length_cons])<;>simp_all<;>omega
structure UJ(n:Nat)(cT:List Int):Prop where
 len:cT.length=n
 lo:∀v,v∈cT-> -1<=v
 hi:∀v,v∈cT->v+iZ cT<=n
theorem UJ.step{n:Nat}{cT:List Int}(B:UJ n cT){x q:Int}(hx:x.toNat<n)(hq:q.toNat<n)(hn:cT.getD q.toNat 0<0):UJ n (cT.set q.toNat (cT.getD x.toNat 0+1))/\iZ (cT.set q.toNat (cT.getD x.toNat 0+1))+1=iZ cT:=by
 have hl:=B.len
 rw[aN (by omega)]at hn
 rw[aN (show x.toNat<cT.length by omega)]
 have h1:=B.lo _ (List.getElem_mem (show x.toNat<cT.length by omega))
 have h2:=B.hi _ (List.getElem_mem (show x.toNat<cT.length by omega))
 have h3:=yb (show q.toNat<cT.length by omega) hn (v:=cT[x.toNat]'(by omega)+1) (by omega)
 refine⟨⟨by simp[hl],fun v hv=> ?_,fun v hv=> ?_⟩,h3⟩
 ·rcases List.mem_or_eq_of_mem_set hv with hv|rfl
  ·exact B.lo v hv
  ·omega
 ·rcases List.mem_or_eq_of_mem_set hv with hv|rfl
  ·have:=B.hi v hv;omega
  ·omega
theorem LC{g:List (List Int)}{p:Int}(h:g.getD p.toNat []=[]):gj g p=(List.replicate g.length (-1)).set p.toNat 0:=by
 unfold gj
 cases hg:g.length with
 |zero=>rfl
 |succ n=>
  rw[CL,h]
  cases n<;>rfl
theorem Wk{n p:Nat}(hp:p<n):UJ n ((List.replicate n (-1)).set p 0)/\iZ ((List.replicate n (-1)).set p 0)+1=n:=by
 have h1:iZ (List.replicate n (-1))=n:=by
  unfold iZ
  rw[List.filter_replicate_of_pos (by decide)]
  simp
 have h2:=yb (l:=List.replicate n (-1)) (i:=p) (v:=0) (by simpa using hp) (by simp) (by omega)
 refine⟨⟨by simp,fun v hv=> ?_,fun v hv=> ?_⟩,by omega⟩
 ·rcases List.mem_or_eq_of_mem_set hv with hv|rfl
  ·simp only[List.mem_replicate]at hv;omega
  ·omega
 ·rcases List.mem_or_eq_of_mem_set hv with hv|rfl
  ·simp only[List.mem_replicate]at hv;omega
  ·omega
theorem N8{g:List (List Int)}(hg:aM g=true){x:Nat}(hx:x<g.length){i:Nat}(hi:i<(g[x]).length):0<=(g[x])[i]/\(g[x])[i]<(g.length:Int):=(aT hg (List.getElem_mem hx)).2 _ (List.getElem_mem hi)
theorem J7{S:Nat->Prop}{h:Heap}{g:Sl}{aD:List (List Int)}(G:bL S h g aD)(hg:aM aD=true){p:Int}(h0:0<=p)(h1:p<(aD.length:Int))(K:Value->Heap->Prop)(HK:∀t h',bM h' (Iv h.size h'.size) t (gj aD p)->(gj aD p).length=aD.length->Fr No h h'->K t.v h'):aE Tryz.prog 271 #[.agg #[g.v],VI p] h K:=by
 refine aiC g p h K fun b1 h2 dT f2 bW=> ?_
 generalize hR:gj aD p=R at HK
 have f2:=f2.aF
 have l1:b1<h2.size:=bW.head.lt
 have z2:=f2.size
 have RC:=aO hg
 refine eB fy (fun k=>h2.size<=k) (fun _ h=>h) .i64 .i64 g.n g.n (Nat.le_refl _) (by rw[G.len];omega) fun t h3 n3 c3 o3 f3 m3 _=>⟨t,rfl,bW.aB f3,?_⟩
 have o3:bM h3 (Iv h2.size h3.size) t (List.replicate aD.length 0):=by
  have e:(List.replicate g.n [VI 0]).flatten=(List.replicate aD.length (0:Int)).map VI:=by rw[G.len];simp[List.flatten_replicate_singleton]
  rw[e]at o3;exact Ow.ga o3
 have z3:=f3.size
 have gI:=f2.aA f3
 have Wj:t.n=aD.length:=by rw[n3,G.len]
 have cF:=bW.aB f3
 refine⟨fun n i h'=>0<=i/\i+n=(aD.length:Int)/\bM h' (Iv h2.size h3.size) t (List.replicate i.toNat (-1)++List.replicate n 0)/\Fr (Iv h2.size h3.size) h3 h',⟨aD.length,by omega,by omega,by simpa using o3,Fr.refl _ _⟩,?_⟩
 rintro n i h4 ⟨i0,i1,o4,f4⟩ dJ
 refine⟨fun e=> ?_,fun e=> ?_⟩
 ·simp only[decide_eq_true_eq]at e
  obtain⟨w1,w2,w3⟩:=o4.eX i0 (by omega) (VI (-1))
  have oW:Fr (Iv h2.size h3.size) h4 _:=w3.mono fun _ _ hk=>(o4.aG hk).1
  have gr:=dJ.iv oW ⟨.inl l1,trivial⟩
  refine⟨o4.bB i0 (by omega),w1,gr,fun h5 e5 _=> ?_⟩
  subst e5
  rw[aH _ (by omega) (by omega)]
  refine⟨n-1,by omega,by omega,by omega,?_,f4.trans oW⟩
  rw[<-List.map_set]at w2
  have e6:(List.replicate i.toNat (-1:Int)++List.replicate n 0).set i.toNat (-1)=List.replicate (i+1).toNat (-1)++List.replicate (n-1) 0:=by
   rw[List.set_append_right _ _ (by simp),List.length_replicate,Nat.sub_self,ig i0,List.replicate_succ',List.append_assoc]
   obtain⟨m,rfl⟩:∃m,n=m+1:=⟨n-1,by omega⟩
   simp[List.replicate_succ]
  rw[e6]at w2
  exact w2
 simp only[decide_eq_false_iff_not]at e
 obtain rfl:n=0:=by omega
 have ei:i.toNat=aD.length:=by omega
 rw[ei,List.replicate_zero,List.append_nil]at o4
 obtain⟨w1,w2,w3⟩:=o4.eX h0 (by omega) (VI 0)
 have oW:Fr (Iv h2.size h3.size) h4 _:=w3.mono fun _ _ hk=>(o4.aG hk).1
 have gr:=dJ.iv oW ⟨.inl l1,trivial⟩
 refine⟨o4.bB h0 (by omega),w1,gr,fun h5 e5 _=> ?_⟩
 subst e5
 rw[<-List.map_set]at w2
 have qX:Fr No h _:=(gI.aJ f4 (by omega)).aJ oW (by omega)
 have z4:=f4.size
 have z5:=oW.size
 refine aQ fy (fun k=>_<=k) (fun _ h=>h) 1 (by omega) [VI p] rfl rfl fun u h6 n6 c6 o6 f6 m6 _=>⟨u,rfl,gr.aB f6,?_⟩
 have z6:=f6.size
 have xT:=qX.aA f6
 have w6:=Ow.no w2 f6
 obtain⟨B0,N0⟩:=Wk (n:=aD.length) (p:=p.toNat) (by omega)
 refine⟨fun n x k h'=>∃(cT dn nC:List Int),0<=k/\k=dn.length/\n=nC.length+iZ cT/\dn.length+n=aD.length/\UJ aD.length cT/\(∀y,y∈nC->0<=y/\y<(aD.length:Int))/\bM h' (Iv h2.size h3.size) t cT/\bM h' (fun k=>h3.size<=k) x (dn++nC)/\Fr No h h'/\h3.size<=h'.size/\R=CL aD n cT nC,
  ⟨aD.length,(List.replicate aD.length (-1)).set p.toNat 0,[],[p],by omega,rfl,by simp only[List.length_cons,List.length_nil];omega,by simp,B0,fun y hy=>by simp at hy;omega,w6,by show Ow _ _ _ _ _ _;simpa using o6.mono (F':=fun k=>h3.size<=k) fun k _ hk=>by omega,xT,by omega,hR.symm⟩,?_⟩
 rintro n x k h7 ⟨cT,dn,nC,k0,rfl,rfl,Wl,B,hp,o7,q7,f7,z7,eq⟩ jC
 have rq:aP (fun k=>h3.size<=k) h7 x (dn++nC):=q7.eQ
 refine⟨fun e=> ?_,fun e=> ?_⟩
 ·have hk:=rq.lt e
  rw[List.length_append]at hk
  obtain⟨y,rest,rfl⟩:∃y rest,nC=y::rest:=by
   cases nC with
   |nil=>simp at hk
   |cons y rest=>exact⟨y,rest,rfl⟩
  have hy:=hp y List.mem_cons_self
  have sG:y.toNat<aD.length:=by omega
  have hdl:(dn.length:Int)<((dn++y::rest).length:Int):=by simp only[List.length_append,List.length_cons];omega
  have eg:∀hh,(dn++y::rest)[(dn.length:Int).toNat]'hh=y:=by intro hh;simp
  have c0:=rq.get k0 hdl
  rw[eg]at c0
  obtain⟨gi,c1,r1⟩:=G.get hy.1 hy.2
  have Oa:(y::rest).length+iZ cT=(rest.length+iZ cT)+1:=by simp only[List.length_cons];omega
  rw[Oa,CL,aR sG]at eq
  refine⟨rq.bB k0 hdl,_,c0,(G.no f7).bB hy.1 hy.2,gi,dL c1 f7 (fun h=>h),?_⟩
  generalize hF:lD y (aD[y.toNat]' sG) (cT,[])=Fin at eq
  refine⟨fun m x' j h'=>∃(dM new:List Int),0<=j/\j+m=((aD[y.toNat]' sG).length:Int)/\UJ aD.length dM/\new.length+iZ dM=iZ cT/\(∀y,y∈new->0<=y/\y<(aD.length:Int))/\bM h' (Iv h2.size h3.size) t dM/\bM h' (fun k=>h3.size<=k) x' (dn++y::rest++new)/\Fr No h h'/\h3.size<=h'.size/\Fin=lD y ((aD[y.toNat]' sG).drop j.toNat) (dM,new),
   ⟨(aD[y.toNat]' sG).length,cT,[],by omega,by omega,B,by simp,fun y hy=>by simp at hy,o7,by simpa using q7,f7,z7,by simpa using hF.symm⟩,?_⟩
  rintro m x' j h8 ⟨dM,new,j0,j1,B',hnw,MS,o8,q8,f8,z8,eF⟩ fA
  have LD:aP S h8 gi (aD[y.toNat]' sG):=aP.no r1 f8
  have Wm:aP (fun k=>h3.size<=k) h8 x' (dn++y::rest++new):=q8.eQ
  have LF:aP (Iv h2.size h3.size) h8 t dM:=o8.tJ
  have Mt:=B'.len
  refine⟨fun e2=> ?_,fun e2=> ?_⟩
  ·have hj:=LD.lt e2
   rw[drop_cons _ j0 hj,lD]at eF
   have hq:=N8 hg sG (show j.toNat<(aD[y.toNat]' sG).length by omega)
   refine⟨LD.bB j0 hj,_,LD.get j0 hj,LF.bB hq.1 (by omega),_,LF.get hq.1 (by omega),fun e3=> ?_,fun e3=> ?_⟩
   ·simp only[decide_eq_true_eq]at e3
    have Ob:dM.getD ((aD[y.toNat]' sG)[j.toNat]'(by omega)).toNat 0<0:=by rw[aN (by omega)];exact e3
    obtain⟨B2,N2⟩:=B'.step (x:=y) (by omega) (by omega) Ob
    simp only[Ob,if_true]at eF
    have hyv:=B'.hi _ (List.getElem_mem (show y.toNat<dM.length by omega))
    have ajc:=B'.lo _ (List.getElem_mem (show y.toNat<dM.length by omega))
    have Oc:(dn.length:Int)<((dn++y::rest++new).length:Int):=by simp only[List.length_append,List.length_cons];omega
    have eg8:∀hh,(dn++y::rest++new)[(dn.length:Int).toNat]'hh=y:=by intro hh;simp
    have c8:=Wm.get k0 Oc
    rw[eg8]at c8
    obtain⟨w1,w2,w3⟩:=o8.eX hq.1 (by have:=LF.len;omega) (VI (dM[y.toNat]'(by omega)+1))
    have oW:Fr (Iv h2.size h3.size) h8 _:=w3.mono fun _ _ hk=>(o8.aG hk).1
    have fS:=fA.iv oW ⟨.inl l1,trivial⟩
    refine⟨Wm.bB k0 Oc,_,c8,LF.bB hy.1 (by omega),_,LF.get hy.1 (by omega),LF.bB hq.1 (by omega),?_⟩
    rw[aH _ (by omega) (by omega)]
    refine⟨w1,fS,fun h9 e9 _=> ?_⟩
    subst e9
    rw[<-List.map_set]at w2
    have z9:=oW.size
    have q9:=Ow.fr q8 oW fun k hk aI=>by have h1:=(q8.aG hk).1;have:=aI.2;(try simp only at h1);omega
    refine aQ fy (fun k=>_<=k) (fun _ h=>h) 1 (by omega) [VI ((aD[y.toNat]' sG)[j.toNat]'(by omega))] rfl rfl fun v dV UI c10 mU f10 m10 _=>⟨v,rfl,fS.aB f10,?_⟩
    have Ah:=f10.size
    have r10:aP v.own dV v [(aD[y.toNat]' sG)[j.toNat]'(by omega)]:=mU.rd
    have Mv:=Wm.len
    simp only[List.length_append,List.length_cons]at Mv Wl hk
    refine bQ fy (Ow.no q9 f10) (fun k hk=>by omega) r10 (fc _) (by have:=r10.len;simp at this;omega) fun w gP n11 lU f11 d11=>⟨w,rfl,(fS.aB f10).fr f11 (fun p hp hk=>by
     simp only[List.mem_cons,List.not_mem_nil,or_false]at hp
     subst hp
     have:=(q8.aG hk).1
     simp only at this
     omega),?_⟩
    have QB:=f11.size
    rw[<-List.map_append]at lU
    rw[LD.succ j0 hj]
    refine⟨m-1,by omega,dM.set ((aD[y.toNat]' sG)[j.toNat]'(by omega)).toNat (dM.getD y.toNat 0+1),new++[(aD[y.toNat]' sG)[j.toNat]'(by omega)],by omega,by omega,B2,by simp only[List.length_append,List.length_cons,List.length_nil];omega,fun z hz=> ?_,?_,?_,?_,by omega,eF⟩
    ·rcases List.mem_append.1 hz with hz|hz
     ·exact MS z hz
     ·simp only[List.mem_cons,List.not_mem_nil,or_false]at hz
      rw[hz];exact hq
    ·rw[aN (show y.toNat<dM.length by omega)]
     exact(Ow.no w2 f10).fr f11 fun k hk aI=>by have h1:=(q8.aG aI).1;have:=(o8.aG hk).1.2;(try simp only at h1);omega
    ·rw[<-List.append_assoc]
     exact lU
    ·exact(((f8.aJ oW (by omega)).aA f10).fresh f11 fun k hk=>by have h1:=(q8.aG hk).1;(try simp only at h1);omega)
   ·simp only[decide_eq_false_iff_not]at e3
    have Ob:¬dM.getD ((aD[y.toNat]' sG)[j.toNat]'(by omega)).toNat 0<0:=by rw[aN (by omega)];exact e3
    simp only[Ob,if_false]at eF
    rw[LD.succ j0 hj]
    exact⟨m-1,by omega,dM,new,by omega,by omega,B',hnw,MS,o8,q8,f8,z8,eF⟩
  ·have hj:=LD.ge e2
   rw[List.drop_of_length_le (by omega),lD]at eF
   subst eF
   simp only[List.length_cons]at Wl
   rw[aH _ (by omega) (by omega)]
   refine⟨rest.length+iZ cT,by simp only[List.length_cons];omega,dM,dn++[y],rest++new,by omega,by simp,by simp only[List.length_append];omega,by simp only[List.length_append,List.length_cons,List.length_nil];omega,B',fun z hz=> ?_,o8,by simpa using q8,f8,z8,?_⟩
   ·rcases List.mem_append.1 hz with hz|hz
    ·exact hp z (List.mem_cons_of_mem _ hz)
    ·exact MS z hz
   ·exact eq
 ·have hk:=rq.ge e
  rw[List.length_append]at hk
  obtain rfl:nC=[]:=List.eq_nil_of_length_eq_zero (by omega)
  have e9:R=cT:=by
   rw[eq]
   simp only[List.length_nil,Nat.zero_add]
   cases iZ cT<;>rfl
  subst e9
  exact HK t h7 (Ow.Qt o7 (by omega) (by omega)) B.len f7
theorem Bo{S:Nat->Prop}{h:Heap}{g:Sl}{aD:List (List Int)}(G:bL S h g aD)(hg:aM aD=true){p:Int}(h0:0<=p)(h1:p<(aD.length:Int))(K:Value->Heap->Prop)(HK:∀t h',bM h' (Iv h.size h'.size) t (gj aD p)->(gj aD p).length=aD.length->Fr No h h'->K t.v h'):aE Tryz.prog 260 #[.agg #[g.v],VI p] h K:=by
 refine aij g p h K fun b1 Vb dT f1 bF=> ?_
 generalize hR:gj aD p=R at HK
 have f1:=f1.aF
 have l1:b1<Vb.size:=bF.head.lt
 have z1:=f1.size
 have RC:=aO hg
 refine aQ fy (fun k=>Vb.size<=k) (fun _ h=>h) 1 (by omega) [VI (-1)] rfl rfl fun m1 h2 n2 c2 o2 f2 _ _=>⟨m1,rfl,bF.aB f2,?_⟩
 have r2:aP (fun k=>Vb.size<=k) h2 m1 [-1]:=o2.eQ
 have z2:=f2.size
 have bW:=bF.aB f2
 rw[G.len]
 refine ya (-1) r2 aD.length (by omega) (by omega) _ fun t h3 o3 f3=>⟨t,rfl,bW.aB f3,?_⟩
 have z3:=f3.size
 have gI:=(f1.aA f2).aA f3
 have cF:=bW.aB f3
 have Wj:t.n=aD.length:=by have:=aP.len (Ow.eQ o3:aP _ h3 t _);simpa using this
 obtain⟨w1,w2,w3⟩:=o3.eX h0 (by omega) (VI 0)
 have oW:Fr (Iv h2.size h3.size) h3 _:=w3.mono fun _ _ hk=>(o3.aG hk).1
 have gr:=cF.iv oW ⟨.inl (by omega),trivial⟩
 refine⟨o3.bB h0 (by omega),w1,gr,fun h5 e5 _=> ?_⟩
 subst e5
 rw[<-List.map_set]at w2
 have qX:Fr No h _:=gI.aJ oW (by omega)
 have z5:=oW.size
 refine aQ fy (fun k=>_<=k) (fun _ h=>h) 1 (by omega) [VI p] rfl rfl fun u h6 n6 c6 o6 f6 m6 _=>⟨u,rfl,gr.aB f6,?_⟩
 have z6:=f6.size
 have xT:=qX.aA f6
 have w6:=Ow.no w2 f6
 obtain⟨B0,N0⟩:=Wk (n:=aD.length) (p:=p.toNat) (by omega)
 refine⟨fun n x h'=>∃(cT nC:List Int),n=nC.length+iZ cT/\n<=aD.length/\UJ aD.length cT/\(∀y,y∈nC->0<=y/\y<(aD.length:Int))/\bM h' (Iv h2.size h3.size) t cT/\bM h' (fun k=>h3.size<=k) x nC/\Fr No h h'/\h3.size<=h'.size/\R=CL aD n cT nC,
  ⟨aD.length,(List.replicate aD.length (-1)).set p.toNat 0,[p],by simp only[List.length_cons,List.length_nil];omega,Nat.le_refl _,B0,fun y hy=>by simp at hy;omega,w6,by show Ow _ _ _ _ _ _;simpa using o6.mono (F':=fun k=>h3.size<=k) fun k _ hk=>by omega,xT,by omega,hR.symm⟩,?_⟩
 rintro n x h7 ⟨cT,nC,rfl,Wl,B,hp,o7,q7,f7,z7,eq⟩ jC
 have rq:aP (fun k=>h3.size<=k) h7 x nC:=q7.eQ
 have Mv:=rq.len
 refine⟨fun e=> ?_,fun e=> ?_⟩
 ·simp only[decide_eq_true_eq]at e
  obtain⟨y,rest,rfl⟩:∃y rest,nC=y::rest:=by
   cases nC with
   |nil=>simp at Mv;omega
   |cons y rest=>exact⟨y,rest,rfl⟩
  have hy:=hp y List.mem_cons_self
  have sG:y.toNat<aD.length:=by omega
  have hdl:(0:Int)<((y::rest).length:Int):=by simp only[List.length_cons];omega
  have eg:∀hh,(y::rest)[(0:Int).toNat]'hh=y:=by intro hh;simp
  have c0:=rq.get (Int.le_refl 0) hdl
  rw[eg]at c0
  obtain⟨gi,c1,r1⟩:=G.get hy.1 hy.2
  have Oa:(y::rest).length+iZ cT=(rest.length+iZ cT)+1:=by simp only[List.length_cons];omega
  rw[Oa,CL,aR sG]at eq
  refine⟨rq.bB (Int.le_refl 0) hdl,_,c0,(G.no f7).bB hy.1 hy.2,gi,dL c1 f7 (fun h=>h),?_⟩
  generalize hF:lD y (aD[y.toNat]' sG) (cT,[])=Fin at eq
  refine⟨fun m x' j h'=>∃(dM new:List Int),0<=j/\j+m=((aD[y.toNat]' sG).length:Int)/\UJ aD.length dM/\new.length+iZ dM=iZ cT/\(∀y,y∈new->0<=y/\y<(aD.length:Int))/\bM h' (Iv h2.size h3.size) t dM/\bM h' (fun k=>h3.size<=k) x' (y::rest++new)/\Fr No h h'/\h3.size<=h'.size/\Fin=lD y ((aD[y.toNat]' sG).drop j.toNat) (dM,new),
   ⟨(aD[y.toNat]' sG).length,cT,[],by omega,by omega,B,by simp,fun y hy=>by simp at hy,o7,by simpa using q7,f7,z7,by simpa using hF.symm⟩,?_⟩
  rintro m x' j h8 ⟨dM,new,j0,j1,B',hnw,MS,o8,q8,f8,z8,eF⟩ fA
  have LD:aP S h8 gi (aD[y.toNat]' sG):=aP.no r1 f8
  have Wm:aP (fun k=>h3.size<=k) h8 x' (y::rest++new):=q8.eQ
  have LF:aP (Iv h2.size h3.size) h8 t dM:=o8.tJ
  have Mt:=B'.len
  have aje:=Wm.len
  simp only[List.length_append,List.length_cons]at aje Wl
  refine⟨fun e2=> ?_,fun e2=> ?_⟩
  ·have hj:=LD.lt e2
   rw[drop_cons _ j0 hj,lD]at eF
   have hq:=N8 hg sG (show j.toNat<(aD[y.toNat]' sG).length by omega)
   refine⟨LD.bB j0 hj,_,LD.get j0 hj,LF.bB hq.1 (by omega),_,LF.get hq.1 (by omega),fun e3=> ?_,fun e3=> ?_⟩
   ·simp only[decide_eq_true_eq]at e3
    have Ob:dM.getD ((aD[y.toNat]' sG)[j.toNat]'(by omega)).toNat 0<0:=by rw[aN (by omega)];exact e3
    obtain⟨B2,N2⟩:=B'.step (x:=y) (by omega) (by omega) Ob
    simp only[Ob,if_true]at eF
    have hyv:=B'.hi _ (List.getElem_mem (show y.toNat<dM.length by omega))
    have ajc:=B'.lo _ (List.getElem_mem (show y.toNat<dM.length by omega))
    have Oc:(0:Int)<((y::rest++new).length:Int):=by simp only[List.length_append,List.length_cons];omega
    have eg8:∀hh,(y::rest++new)[(0:Int).toNat]'hh=y:=by intro hh;simp
    have c8:=Wm.get (Int.le_refl 0) Oc
    rw[eg8]at c8
    obtain⟨w1,w2,w3⟩:=o8.eX hq.1 (by have:=LF.len;omega) (VI (dM[y.toNat]'(by omega)+1))
    have oW:Fr (Iv h2.size h3.size) h8 _:=w3.mono fun _ _ hk=>(o8.aG hk).1
    have fS:=fA.iv oW ⟨.inl (by omega),trivial⟩
    refine⟨Wm.bB (Int.le_refl 0) Oc,_,c8,LF.bB hy.1 (by omega),_,LF.get hy.1 (by omega),LF.bB hq.1 (by omega),?_⟩
    rw[aH _ (by omega) (by omega)]
    refine⟨w1,fS,fun h9 e9 _=> ?_⟩
    subst e9
    rw[<-List.map_set]at w2
    have z9:=oW.size
    have q9:=Ow.fr q8 oW fun k hk aI=>by have h1:=(q8.aG hk).1;have:=aI.2;(try simp only at h1);omega
    refine aQ fy (fun k=>_<=k) (fun _ h=>h) 1 (by omega) [VI ((aD[y.toNat]' sG)[j.toNat]'(by omega))] rfl rfl fun v dV UI c10 mU f10 m10 _=>⟨v,rfl,fS.aB f10,?_⟩
    have Ah:=f10.size
    have r10:aP v.own dV v [(aD[y.toNat]' sG)[j.toNat]'(by omega)]:=mU.rd
    refine bQ fy (Ow.no q9 f10) (fun k hk=>by omega) r10 (fc _) (by have:=r10.len;simp at this;omega) fun w gP n11 lU f11 d11=>⟨w,rfl,(fS.aB f10).fr f11 (fun p hp hk=>by
     simp only[List.mem_cons,List.not_mem_nil,or_false]at hp
     subst hp
     have:=(q8.aG hk).1
     simp only at this
     omega),?_⟩
    have QB:=f11.size
    rw[<-List.map_append]at lU
    rw[LD.succ j0 hj]
    refine⟨m-1,by omega,dM.set ((aD[y.toNat]' sG)[j.toNat]'(by omega)).toNat (dM.getD y.toNat 0+1),new++[(aD[y.toNat]' sG)[j.toNat]'(by omega)],by omega,by omega,B2,by simp only[List.length_append,List.length_cons,List.length_nil];omega,fun z hz=> ?_,?_,?_,?_,by omega,eF⟩
    ·rcases List.mem_append.1 hz with hz|hz
     ·exact MS z hz
     ·simp only[List.mem_cons,List.not_mem_nil,or_false]at hz
      rw[hz];exact hq
    ·rw[aN (show y.toNat<dM.length by omega)]
     exact(Ow.no w2 f10).fr f11 fun k hk aI=>by have h1:=(q8.aG aI).1;have:=(o8.aG hk).1.2;(try simp only at h1);omega
    ·rw[<-List.append_assoc]
     exact lU
    ·exact(((f8.aJ oW (by omega)).aA f10).fresh f11 fun k hk=>by have h1:=(q8.aG hk).1;(try simp only at h1);omega)
   ·simp only[decide_eq_false_iff_not]at e3
    have Ob:¬dM.getD ((aD[y.toNat]' sG)[j.toNat]'(by omega)).toNat 0<0:=by rw[aN (by omega)];exact e3
    simp only[Ob,if_false]at eF
    rw[LD.succ j0 hj]
    exact⟨m-1,by omega,dM,new,by omega,by omega,B',hnw,MS,o8,q8,f8,z8,eF⟩
  ·have hj:=LD.ge e2
   rw[List.drop_of_length_le (by omega),lD]at eF
   subst eF
   refine ik fy .i64 (by omega) (by omega) ⟨_,rfl,?_⟩
   have qc:=q8.cut (l:=1) (m:=x'.n) (by omega) (Nat.le_refl _)
   have ec:(((y::rest++new).map VI).drop (1*1)).take ((x'.n-1)*1)=(rest++new).map VI:=by
    rw[List.take_of_length_le (by simp;omega)]
    rfl
   rw[ec]at qc
   refine⟨rest.length+iZ cT,by simp only[List.length_cons];omega,dM,rest++new,by simp only[List.length_append];omega,by omega,B',fun z hz=> ?_,o8,qc,f8,z8,?_⟩
   ·rcases List.mem_append.1 hz with hz|hz
    ·exact hp z (List.mem_cons_of_mem _ hz)
    ·exact MS z hz
   ·exact eq
 ·simp only[decide_eq_false_iff_not]at e
  obtain rfl:nC=[]:=List.eq_nil_of_length_eq_zero (by omega)
  have e9:R=cT:=by
   rw[eq]
   simp only[List.length_nil,Nat.zero_add]
   cases iZ cT<;>rfl
  subst e9
  exact HK t h7 (Ow.Qt o7 (by omega) (by omega)) B.len f7
def nV(g:List (List Int))(p:Int):Bool:=(List.range g.length).all fun q=> !decide ((gj g q).getD p.toNat 0<0)
theorem H9{g:List (List Int)}{sink:Int}(h0:0<=sink)(h:nV g sink=true){p:Nat}(hp:p<g.length)(hs:(p:Int)≠sink)(h1:sink<(g.length:Int)):(g[p]).length≠0:=by
 intro hz
 have:=List.all_eq_true.1 h p (by simpa using hp)
 rw[LC (by rw[show((p:Int)).toNat=p from rfl,aR hp];exact List.eq_nil_of_length_eq_zero hz)]at this
 simp only[Bool.not_eq_true',decide_eq_false_iff_not]at this
 rw[aN (by simp;omega),List.getElem_set]at this
 rw[if_neg (by omega)]at this
 simp at this
def oZ(g:List (List Int))(sink:Int):Bool:=aM g&&iB 0 ((g.length:Int)-1) sink&&nV g sink
theorem Bp{n:Nat}{f:Nat->Bool}:(List.range n).all f=true↔∀i,i<n->f i=true:=by simp[List.all_eq_true]
theorem LG{S:Nat->Prop}{h:Heap}{g:Sl}{aD:List (List Int)}(G:bL S h g aD)(hg:aM aD=true){p:Int}(h0:0<=p)(h1:p<(aD.length:Int)):qR Tryz.prog 237 #[.agg #[g.v],VI p] h (VB (nV aD p)):=by
 intro K HK
 refine ahY g p h K fun b1 h2 dT f2 bW=> ?_
 have f2:=f2.aF
 refine⟨fun n i h'=>0<=i/\i+n=(aD.length:Int)/\(∀q:Nat,(q:Int)<i->¬(gj aD q).getD p.toNat 0<0)/\Fr No h h',⟨aD.length,by omega,by omega,fun q hq=>by omega,f2⟩,?_⟩
 rintro n i h3 ⟨i0,i1,i2,f3⟩ cF
 have G3:=G.no f3
 refine⟨fun e=> ?_,fun e=> ?_⟩
 ·have hi:=G3.lt e
  have ei:((i.toNat:Nat):Int)=i:=by omega
  refine J7 G3 hg i0 hi _ fun t h4 o4 hl f4=>⟨t,rfl,cF.aB f4,?_⟩
  have r4:aP _ h4 t _:=Ow.eQ o4
  refine⟨r4.bB h0 (by omega),_,r4.get h0 (by omega),fun e2=> ?_,fun e2=> ?_⟩
  ·simp only[decide_eq_true_eq]at e2
   have:nV aD p=false:=by
    unfold nV
    rw[List.all_eq_false]
    refine⟨i.toNat,by simp;omega,?_⟩
    rw[ei,aN (by omega),decide_eq_true e2]
    simp
   rw[this]at HK
   exact HK h4 (f3.aA f4)
  ·simp only[decide_eq_false_iff_not]at e2
   rw[G3.succ i0 hi]
   refine⟨n-1,by omega,by omega,by omega,fun q hq=> ?_,f3.aA f4⟩
   by_cases gO:(q:Int)<i
   ·exact i2 q gO
   ·have:(q:Int)=i:=by omega
    rw[this,aN (by omega)]
    exact e2
 ·have hi:=G3.ge e
  have:nV aD p=true:=by
   unfold nV
   rw[Bp]
   intro q hq
   rw[decide_eq_false (i2 q (by omega))]
   rfl
  rw[this]at HK
  exact HK h3 f3
theorem LH{S:Nat->Prop}{h:Heap}{g:Sl}{aD:List (List Int)}(G:bL S h g aD)(hg:aM aD=true){p:Int}(h0:0<=p)(h1:p<(aD.length:Int)):qR Tryz.prog 259 #[.agg #[g.v],VI p] h (VB (nV aD p)):=by
 intro K HK
 refine aih g p h K fun b1 h2 dT f2 bW=> ?_
 have f2:=f2.aF
 refine⟨fun n i h'=>0<=i/\i+n=(aD.length:Int)/\(∀q:Nat,(q:Int)<i->¬(gj aD q).getD p.toNat 0<0)/\Fr No h h',⟨aD.length,by omega,by omega,fun q hq=>by omega,f2⟩,?_⟩
 rintro n i h3 ⟨i0,i1,i2,f3⟩ cF
 have G3:=G.no f3
 refine⟨fun e=> ?_,fun e=> ?_⟩
 ·have hi:=G3.lt e
  have ei:((i.toNat:Nat):Int)=i:=by omega
  refine Bo G3 hg i0 hi _ fun t h4 o4 hl f4=>⟨t,rfl,cF.aB f4,?_⟩
  have r4:aP _ h4 t _:=Ow.eQ o4
  refine⟨r4.bB h0 (by omega),_,r4.get h0 (by omega),fun e2=> ?_,fun e2=> ?_⟩
  ·simp only[decide_eq_true_eq]at e2
   have:nV aD p=false:=by
    unfold nV
    rw[List.all_eq_false]
    refine⟨i.toNat,by simp;omega,?_⟩
    rw[ei,aN (by omega),decide_eq_true e2]
    simp
   rw[this]at HK
   exact HK h4 (f3.aA f4)
  ·simp only[decide_eq_false_iff_not]at e2
   rw[G3.succ i0 hi]
   refine⟨n-1,by omega,by omega,by omega,fun q hq=> ?_,f3.aA f4⟩
   by_cases gO:(q:Int)<i
   ·exact i2 q gO
   ·have:(q:Int)=i:=by omega
    rw[this,aN (by omega)]
    exact e2
 ·have hi:=G3.ge e
  have:nV aD p=true:=by
   unfold nV
   rw[Bp]
   intro q hq
   rw[decide_eq_false (i2 q (by omega))]
   rfl
  rw[this]at HK
  exact HK h3 f3
theorem Od{S:Nat->Prop}{h:Heap}{g:Sl}{aD:List (List Int)}(G:bL S h g aD)(sink:Int):qR Tryz.prog 187 #[.agg #[g.v],VI sink] h (VB (oZ aD sink)):=by
 intro K HK
 unfold oZ at HK
 refine agV g sink h K fun b1 h2 dT f2 bW=> ?_
 have f2:=f2.aF
 refine cQ (G.no f2) sink _ fun h3 f3=>⟨_,rfl,bW.aB f3,fun e=> ?_,fun e=> ?_⟩
 ·rw[e,Bool.true_and]at HK
  rw[Bool.and_eq_true,aZ]at e
  exact LG (G.no (f2.aA f3)) e.1 e.2.1 (by omega) _ fun h4 f4=>⟨_,rfl,(bW.aB f3).aB f4,HK h4 ((f2.aA f3).aA f4)⟩
 ·rw[e,Bool.false_and]at HK
  exact HK h3 (f2.aA f3)
theorem LI{S:Nat->Prop}{h:Heap}{g:Sl}{aD:List (List Int)}(G:bL S h g aD)(sink:Int):qR Tryz.prog 214 #[.agg #[g.v],VI sink] h (VB (oZ aD sink)):=by
 intro K HK
 unfold oZ at HK
 refine aht g sink h K fun b1 h2 dT f2 bW=> ?_
 have f2:=f2.aF
 refine aQ fy (fun k=>h2.size<=k) (fun _ h=>h) 1 (by omega) [VI sink] rfl rfl fun t Rf n2 c2 o2 f2' m2 _=>⟨t,rfl,bW.aB f2',?_⟩
 have o2:aP (fun k=>h2.size<=k) Rf t [sink]:=o2.eQ
 have ace:=bW.aB f2'
 have Fq:=f2.aA f2'
 refine sA (G.no Fq) o2 _ fun h3 f3=>⟨_,rfl,ace.aB f3,fun e=> ?_,fun e=> ?_⟩
 all_goals simp only[List.all_cons,List.all_nil,Bool.and_true]at e
 ·rw[e,Bool.true_and]at HK
  rw[Bool.and_eq_true,aZ]at e
  exact LH (G.no (Fq.aA f3)) e.1 e.2.1 (by omega) _ fun h4 f4=>⟨_,rfl,(ace.aB f3).aB f4,HK h4 ((Fq.aA f3).aA f4)⟩
 ·rw[e,Bool.false_and]at HK
  exact HK h3 (Fq.aA f3)
structure CM(a n:Nat)(h:Heap)(c:Sl)(i:Int):Prop where
 code:∃vs,cW (fun k=>k<a) h 1 c vs/\∀v,v∈vs->∃m:Int,v=Value.int .u8 m/\0<=m/\m<=255
 lo:0<=i
 hi:i<=(n:Int)
theorem CM.fr{a n:Nat}{h h':Heap}{c:Sl}{i:Int}{T:Nat->Prop}(D:CM a n h c i)(f:Fr T h h')(hT:∀k,k<a->¬T k):CM a n h' c i:=by
 obtain⟨vs,h1,h2⟩:=D.code
 exact⟨⟨vs,h1.fr f hT,h2⟩,D.lo,D.hi⟩
theorem CM.no{a n:Nat}{h h':Heap}{c:Sl}{i:Int}(D:CM a n h c i)(f:Fr No h h'):CM a n h' c i:=D.fr f fun _ _ h=>h
theorem CM.up{a n m:Nat}{h:Heap}{c:Sl}{i:Int}(D:CM a n h c i)(hm:n<=m):CM a m h c i:=⟨D.code,D.lo,by have:=D.hi;omega⟩
theorem sH{L:List (Nat×List Value)}{lo:Nat}{h:Heap}{o:Sl}{xs:List Int}{x:Int}(O:bM h (fun k=>lo<=k) o xs)(wv:lo<=h.size)(hL:Vars h L)(tW:∀p,p∈L->p.1<lo)(hb:xs.length<=1000000)(R:Sl->Heap->Prop)(HR:∀t h',bM h' (fun k=>lo<=k) t (xs++[x])->Fr (fun k=>lo<=k) h h'->Vars h' L->R t h'):jU Tryz.prog (Instr.buildSlice qD 1 #[(0,VI x)]) h fun rv h1=>∃t:Sl,rv=t.v/\Vars h1 L/\jU Tryz.prog (bP qD qD qD o.v t.v) h1 fun H6 h2=>∃t2:Sl,H6=t2.v/\Vars h2 L/\R t2 h2:=by
 refine aQ fy (fun k=>h.size<=k) (fun _ h=>h) 1 (by omega) [VI x] rfl rfl fun t h1 n1 c1 o1 f1 m1 _=>⟨t,rfl,hL.aB f1,?_⟩
 have z1:=f1.size
 have O1:bM h1 (fun k=>lo<=k) o xs:=Ow.no O f1
 have on:=O1.rd.len
 have tn:=o1.rd.len
 simp only[List.length_map,Nat.mul_one,List.length_cons,List.length_nil]at on tn
 refine bQ fy O1 (fun k hk=>by omega) o1.rd (fc [x]) (by omega) fun s' h2 n2 o2 f2 d2=> ?_
 have g2:Fr (fun k=>lo<=k) h1 h2:=f2.mono fun k _ hk=>(O1.aG hk).1
 have V2:Vars h2 L:=(hL.aB f1).fr g2 fun p hp hk=>by have:=tW p hp;omega
 exact⟨s',rfl,V2,HR s' h2 (by rw[bM,List.map_append];exact o2) (f1.aB.trans g2) V2⟩
theorem jM{L:List (Nat×List Value)}{lo m:Nat}{h:Heap}{s x:Sl}{aD:List (List Int)}{ys:List Int}(O:fQ h (Iv lo m) s aD)(X:bM h (fun k=>m<=k) x ys)(wv:lo<=m)(hm:m<=h.size)(hL:Vars h L)(tW:∀p,p∈L->p.1<lo)(hb:aD.length<=1000000)(R:Sl->Heap->Prop)(HR:∀t h',fQ h' (fun k=>lo<=k) t (aD++[ys])->Fr (fun k=>lo<=k) h h'->Vars h' L->R t h'):jU Tryz.prog (Instr.buildSlice nu 1 #[(0,x.v)]) h fun rv h1=>∃t:Sl,rv=t.v/\Vars h1 L/\jU Tryz.prog (bP nu nu nu s.v t.v) h1 fun H6 h2=>∃t2:Sl,H6=t2.v/\Vars h2 L/\R t2 h2:=by
 refine aQ qg (fun k=>h.size<=k) (fun _ h=>h) 1 (by omega) [x.v] rfl rfl fun t h1 n1 c1 o1 f1 m1 _=>⟨t,rfl,hL.aB f1,?_⟩
 have z1:=f1.size
 refine dI.snoc qg (dI.no O f1) (F':=fun k=>lo<=k) (fun k _ hk=>hk.1) (fun k hk=>by omega) ((Ow.no X f1).mono fun k _ hk=>Nat.le_trans wv hk) (fun k hk aI=>by have:=(X.aG hk).1;have:=aI.2;omega) o1.rd (by omega) fun y h2 o2 f2=> ?_
 have g2:Fr (fun k=>lo<=k) h1 h2:=f2.mono fun k _ hk=>hk.1
 have V2:Vars h2 L:=(hL.aB f1).fr g2 fun p hp hk=>by have:=tW p hp;omega
 exact⟨y,rfl,V2,HR y h2 o2 (f1.aB.trans g2) V2⟩
def GR(N:Int)(q:Nat)(aD:List (List Int)):Prop:=∀l,l∈aD->l.length<=q/\∀x,x∈l->0<=x/\x<N
theorem GR.nil(N:Int)(q:Nat):GR N q []:=fun l hl=>by cases hl
theorem GR.snoc{N:Int}{q:Nat}{aD:List (List Int)}{l:List Int}(H:GR N q aD)(h1:l.length<=q)(h2:∀x,x∈l->0<=x/\x<N):GR N q (aD++[l]):=fun y hy=>by
 rcases List.mem_append.1 hy with a|a
 ·exact H y a
 ·simp only[List.mem_cons,List.not_mem_nil,or_false]at a;rw[a];exact⟨h1,h2⟩
theorem GR.set{N:Int}{q:Nat}{aD:List (List Int)}{l:List Int}(H:GR N q aD)(i:Nat)(h1:l.length<=q)(h2:∀x,x∈l->0<=x/\x<N):GR N q (aD.set i l):=fun y hy=>by
 rcases List.mem_or_eq_of_mem_set hy with a|a
 ·exact H y a
 ·rw[a];exact⟨h1,h2⟩
theorem GR.up{N:Int}{q r:Nat}{aD:List (List Int)}(H:GR N q aD)(h:q<=r):GR N r aD:=fun l hl=>⟨Nat.le_trans (H l hl).1 h,(H l hl).2⟩
theorem GR.bE{q:Nat}{aD:List (List Int)}(H:GR aD.length q aD)(hq:q<=5)(h1:1<=aD.length)(h2:aD.length<=8):aM aD=true:=by
 rw[Bb (aZ.2 ⟨by omega,by omega⟩),List.all_eq_true]
 intro l hl
 have:=H l hl
 rw[Bool.and_eq_true,Bool.not_eq_true',decide_eq_false_iff_not,List.all_eq_true]
 exact⟨by omega,fun x hx=>aZ.2 (by have:=this.2 x hx;omega)⟩
theorem gf{L:List (Nat×List Value)}{F:Nat->Prop}{h:Heap}{s:Sl}{xs:List Int}{i:Int}{v:Int}(O:bM h F s xs)(h0:0<=i)(h1:i<(xs.length:Int))(hL:Vars h L)(tW:∀p,p∈L->¬F p.1)(R:Heap->Prop)(HR:∀h',bM h' F s (xs.set i.toNat v)->Fr F h h'->Vars h' L->R h'):dS s i/\dU h (s.at i 1)/\Vars (cL h (s.at i 1) (VI v)) L/\∀h3,h3=cL h (s.at i 1) (VI v)->Vars h3 L->R h3:=by
 have on:=O.rd.len
 simp only[List.length_map,Nat.mul_one]at on
 obtain⟨w1,w2,w3⟩:=O.eX h0 (by omega) (VI v)
 have g:Fr F h _:=w3.mono fun k _ hk=>(O.aG hk).1
 have V:=hL.fr g tW
 exact⟨O.rd.bB h0 (by simp;omega),w1,V,fun h3 e3 V3=>HR h3 (by rw[e3,bM,List.map_set];exact w2) (by rw[e3];exact g) V3⟩
theorem sI{L:List (Nat×List Value)}{F:Nat->Prop}{m:Nat}{h:Heap}{s x:Sl}{aD:List (List Int)}{ys:List Int}(O:fQ h (fun k=>F k/\k<m) s aD)(X:bM h (fun k=>m<=k) x ys)(hF:∀k,m<=k->F k)(hm:m<=h.size)(hL:Vars h L)(tW:∀p,p∈L->¬F p.1)(hb:aD.length<=1000000)(R:Sl->Heap->Prop)(HR:∀t h',fQ h' F t (aD++[ys])->Fr F h h'->Vars h' L->R t h'):jU Tryz.prog (Instr.buildSlice nu 1 #[(0,x.v)]) h fun rv h1=>∃t:Sl,rv=t.v/\Vars h1 L/\jU Tryz.prog (bP nu nu nu s.v t.v) h1 fun H6 h2=>∃t2:Sl,H6=t2.v/\Vars h2 L/\R t2 h2:=by
 refine aQ qg (fun k=>h.size<=k) (fun _ h=>h) 1 (by omega) [x.v] rfl rfl fun t h1 n1 c1 o1 f1 m1 _=>⟨t,rfl,hL.aB f1,?_⟩
 have z1:=f1.size
 refine dI.snoc qg (dI.no O f1) (F':=F) (fun k _ hk=>hk.1) (fun k hk=>hF k (by omega)) ((Ow.no X f1).mono fun k _ hk=>hF k hk) (fun k hk aI=>by have:=(X.aG hk).1;have:=aI.2;omega) o1.rd (by omega) fun y h2 o2 f2=> ?_
 have g2:Fr F h1 h2:=f2.mono fun k _ hk=>hk.1
 have V2:Vars h2 L:=(hL.aB f1).fr g2 tW
 exact⟨y,rfl,V2,HR y h2 o2 (f1.aB.trans g2) V2⟩
def inA(m:Nat)(xs:List Int):Prop:=∀y,y∈xs->0<=y/\y<(m:Int)
theorem inA.set{m:Nat}{xs:List Int}(H:inA m xs)(i:Nat){v:Int}(h0:0<=v)(h1:v<(m:Int)):inA m (xs.set i v):=fun y hy=>by
 rcases List.mem_or_eq_of_mem_set hy with h|h
 ·exact H y h
 ·subst h;exact⟨h0,h1⟩
theorem inA.get{m:Nat}{xs:List Int}(H:inA m xs){i:Nat}(hi:i<xs.length):0<=xs[i]/\xs[i]<(m:Int):=H _ (List.getElem_mem hi)
end Go.Proofs.YtcnfcnoooecchaaGreatDoor
