import Derived.Test.YtcnfcnoooecchaaGreatDoorRunScriptU1
import Derived.Test.YtcnfcnoooecchaaGreatDoorM4
import Derived.Laws.BytesArg
import Derived.Lib.AtoiAll
import Derived.Lib.CountLaws
import Derived.Lib.Split
import Derived.Lib.IndexBytes
import Derived.Lib.ItoaMem
import Derived.WideMake
import Derived.MapKept
import Derived.Laws.IdiomCopy
import Derived.Deep.Draws
import Derived.Lib.AtoiTie
import Derived.Lib.ItoaLen
import Derived.Test.YtcnfcnoooecchaaGreatDoorRunScriptH
set_option linter.unusedVariables false
set_option linter.unusedSimpArgs false
namespace Go.Proofs.YtcnfcnoooecchaaGreatDoor
open Go Go.Mx
@[reducible] def tI:TypeId:=3
@[reducible] def qQ:TypeId:=27
@[reducible] def ng:TypeId:=24
theorem fx:mX Tryz.prog qQ=some (tI,1,8,[VI 0]):=by kernel_rfl
theorem qb:mX Tryz.prog ng=some (qQ,1,24,[aC.v]):=by kernel_rfl
@[reducible] def bR(h:Heap)(F:Nat->Prop)(s:Sl)(xs:List Int):Prop:=Ow h F tI 1 s (xs.map VI)
@[reducible] def gO(h:Heap)(F:Nat->Prop)(s:Sl)(aD:List (List Int)):Prop:=dR h F qQ tI s aD
theorem fc(xs:List Int):(xs.map VI).all fp=true:=by simp[List.all_eq_true,fp]
theorem eJ(n lo hi:Int)(h:Heap)(K:Value->Heap->Prop)(H:K (VB (decide (lo<=n)&&decide (n<=hi))) h):aE Tryz.prog 52 #[VI n,VI lo,VI hi] h K:=by
 refine v52 n lo hi h K ⟨fun e=> ?_,fun e=> ?_⟩
 ·rw[e,Bool.true_and]at H;exact H
 ·rw[e,Bool.false_and]at H;exact H
theorem cY(n lo hi:Int)(h:Heap)(K:Value->Heap->Prop)(H:K (VB (decide (lo<=n)&&decide (n<=hi))) h):aE Tryz.prog 119 #[VI n,VI lo,VI hi] h K:=by
 refine aeU n lo hi h K ⟨fun e=> ?_,fun e=> ?_⟩
 ·rw[e,Bool.true_and]at H;exact H
 ·rw[e,Bool.false_and]at H;exact H
def iq(lo hi x:Int):Bool:=decide (lo<=x)&&decide (x<=hi)
def aM(g:List (List Int)):Bool:=iq 1 8 g.length&&g.all fun l=> !decide (5<(l.length:Int))&&l.all (iq 0 ((g.length:Int)-1))
theorem bD{b:Bool}(h:(!b)=true):b=false:=by simpa using h
theorem aZ{b:Bool}(h:(!b)=false):b=true:=by simpa using h
theorem Co{S:Nat->Prop}{h:Heap}{l:Sl}{xs:List Int}(H:aQ S h l xs)(lo Ho:Int)(K:Value->Heap->Prop)(HK:K (VB (xs.all (iq lo Ho))) h):aE Tryz.prog 120 #[l.v,VI lo,VI Ho] h K:=by
 refine aeW l lo Ho h K ?_
 refine⟨fun n i h'=>h'=h/\0<=i/\i+n=(xs.length:Int)/\xs.all (iq lo Ho)=(xs.drop i.toNat).all (iq lo Ho),⟨xs.length,rfl,by omega,by omega,by simp⟩,?_⟩
 rintro n i _ ⟨rfl,h0,h1,h2⟩ hL
 refine⟨fun e=> ?_,fun e=> ?_⟩
 ·have hi:=H.lt e
  refine⟨H.bB h0 hi,_,H.get h0 hi,?_⟩
  rw[drop_cons xs h0 hi,List.all_cons]at h2
  refine cY _ _ _ _ _ ⟨_,rfl,hL,fun e2=> ?_,fun e2=> ?_⟩
  ·have e3:iq lo Ho (xs[i.toNat]'(by omega))=false:=bD e2
   rw[h2,e3]at HK
   exact HK
  ·have e3:iq lo Ho (xs[i.toNat]'(by omega))=true:=aZ e2
   rw[e3,Bool.true_and]at h2
   rw[H.succ h0 hi]
   exact⟨n-1,by omega,rfl,by omega,by omega,h2⟩
 ·have hi:=H.ge e
  rw[List.drop_of_length_le (by omega)]at h2
  rw[h2]at HK
  exact HK
theorem lK{S:Nat->Prop}{h:Heap}{g:Sl}{aD:List (List Int)}(H:bU S h g aD):vf Tryz.prog 82 #[.agg #[g.v]] h (VB (aM aD)):=by
 intro K HK
 refine v82 g h K ?_
 intro b1 h1 eD hf1 bY
 have f1:=hf1.aF
 have hlen:=H.len
 refine cY _ _ _ _ _ ⟨_,rfl,bY,fun e=> ?_,fun e=> ?_⟩
 ·have e3:iq 1 8 aD.length=false:=by have:=bD e;rw[hlen]at this;exact this
  have:aM aD=false:=by unfold aM;rw[e3];rfl
  rw[<-this];exact HK _ f1
 ·have e3:iq 1 8 aD.length=true:=by have:=aZ e;rw[hlen]at this;exact this
  have hw:aL ((g.n:Int)-1)=(aD.length:Int)-1:=by rw[hlen];exact aG _ (by omega) (by have:=l8 H.Jk;omega)
  have hg:aM aD=aD.all fun l=> !decide (5<(l.length:Int))&&l.all (iq 0 ((aD.length:Int)-1)):=by unfold aM;rw[e3];rfl
  rw[hw]
  refine⟨fun n i h'=>Fr No h1 h'/\0<=i/\i+n=(aD.length:Int)/\aM aD=(aD.drop i.toNat).all (fun l=> !decide (5<(l.length:Int))&&l.all (iq 0 ((aD.length:Int)-1))),⟨aD.length,Fr.refl _ _,by omega,by omega,by simp[hg]⟩,?_⟩
  rintro n i h3 ⟨f3,h0,h2,h4⟩ hL
  have H3:=(H.no f1).no f3
  refine⟨fun e=> ?_,fun e=> ?_⟩
  ·have hi:=H.lt e
   obtain⟨si,hc,Hi⟩:=H3.get h0 hi
   refine⟨H3.bB h0 hi,si,hc,fun e5=> ?_,fun e5=> ?_⟩
   ·rw[drop_cons aD h0 hi,List.all_cons]at h4
    rw[Hi.len]at e5
    rw[e5]at h4
    have h5:aM aD=false:=by rw[h4];rfl
    rw[<-h5];exact HK _ (f1.trans f3)
   ·rw[drop_cons aD h0 hi,List.all_cons]at h4
    rw[Hi.len]at e5
    rw[e5]at h4
    refine Co Hi _ _ _ ⟨_,rfl,hL,fun e6=> ?_,fun e6=> ?_⟩
    ·rw[bD e6]at h4
     have h5:aM aD=false:=by rw[h4];rfl
     rw[<-h5];exact HK _ (f1.trans f3)
    ·rw[aZ e6]at h4
     rw[H.succ h0 hi]
     exact⟨n-1,by omega,f3,by omega,by omega,by rw[h4];rfl⟩
  ·have hi:=H.ge e
   rw[List.drop_of_length_le (by omega)]at h4
   have h5:aM aD=true:=by rw[h4];rfl
   rw[<-h5];exact HK _ (f1.trans f3)
theorem ET{S:Nat->Prop}{h:Heap}{s:Sl}{xs:List Int}(H:aQ S h s xs)(f:Value)(p:Int->Bool)(hf:∀(x:Int)(K:Value->Heap->Prop),K (VB (p x)) h->fA Tryz.prog f [VI x] h K)(K:Value->Heap->Prop)(HK:∀r:Int,decide (0<=r)=xs.any p->K (VI r) h):aE Tryz.prog 91 #[s.v,f] h K:=by
 refine v91 s f h K ⟨fun n i h'=>h'=h/\0<=i/\i+n=(xs.length:Int)/\xs.any p=(xs.drop i.toNat).any p,⟨xs.length,rfl,by omega,by omega,by simp⟩,?_⟩
 rintro n i _ ⟨rfl,i0,i1,i2⟩ hL
 refine⟨fun e=> ?_,fun e=> ?_⟩
 ·have hi:=H.lt e
  rw[drop_cons xs i0 hi,List.any_cons]at i2
  refine⟨H.bB i0 hi,_,H.get i0 hi,hf _ _ ⟨_,rfl,.nil,fun e=> ?_,fun e=> ?_⟩⟩
  ·rw[e,Bool.true_or]at i2
   exact HK _ (by rw[i2];simpa using i0)
  ·rw[e,Bool.false_or]at i2
   rw[H.succ i0 hi]
   exact⟨n-1,by omega,rfl,by omega,by omega,i2⟩
 ·have hi:=H.ge e
  rw[List.drop_of_length_le (by omega)]at i2
  exact HK _ (by rw[i2];rfl)
theorem oJ{S:Nat->Prop}{h:Heap}{s:Sl}{xs:List Int}(H:aQ S h s xs)(f:Value)(p:Int->Bool)(hf:∀(x:Int)(K:Value->Heap->Prop),K (VB (p x)) h->fA Tryz.prog f [VI x] h K)(K:Value->Heap->Prop)(HK:K (VB (xs.any p)) h):aE Tryz.prog 53 #[s.v,f] h K:=by
 refine v53 s f h K (ET H f p hf _ fun r hr=>⟨r,rfl,.nil,?_⟩)
 rw[hr];exact HK
theorem Hq{h:Heap}{b:Nat}{n:Int}(x:Int){L:List (Nat×List Value)}(hL:Vars h ((b,[VI n])::L))(K:Value->Heap->Prop)(HK:K (VB (! iq 0 (aL (n-1)) x)) h):fA Tryz.prog (.func (.func 88) #[] #[VP b 0]) [VI x] h K:=by
 refine v88 x b n h K (.cons hL.head (by simp) .nil) ?_
 refine eJ _ _ _ _ _ ⟨_,rfl,.cons hL.head (by simp) .nil,?_⟩
 exact HK
theorem Vl{h:Heap}{b:Nat}{g:Sl}(x:Int){L:List (Nat×List Value)}(hL:Vars h ((b,[g.v])::L))(K:Value->Heap->Prop)(HK:K (VB (! iq 0 (aL (g.n-1)) x)) h):fA Tryz.prog (.func (.func 147) #[] #[VP b 0]) [VI x] h K:=by
 refine afy x b g h K (.cons hL.head (by simp) .nil) ?_
 refine eJ _ _ _ _ _ ⟨_,rfl,.cons hL.head (by simp) .nil,?_⟩
 exact HK
theorem AX{aD:List (List Int)}(e3:iq 1 8 aD.length=true):aM aD=aD.all fun l=> !decide (5<(l.length:Int))&&l.all (iq 0 ((aD.length:Int)-1)):=by unfold aM;rw[e3];rfl
theorem KZ{aD:List (List Int)}(e3:iq 1 8 aD.length=false):aM aD=false:=by unfold aM;rw[e3];rfl
theorem Cq{xs:List Int}{p:Int->Bool}:xs.any (fun x=> !p x)= !xs.all p:=by
 induction xs with
 |nil=>rfl
 |cons x xs ih=>simp only[List.any_cons,List.all_cons,ih,Bool.not_and]
theorem wh{S:Nat->Prop}{h:Heap}{g:Sl}{aD:List (List Int)}(H:bU S h g aD):aL ((g.n:Int)-1)=(aD.length:Int)-1:=by
 rw[H.len]
 have h1:=l8 H.Jk
 have h2:=H.len
 exact aG _ (by omega) (by omega)
theorem AY{S:Nat->Prop}{h:Heap}{g:Sl}{aD:List (List Int)}(H:bU S h g aD):vf Tryz.prog 50 #[.agg #[g.v]] h (VB (aM aD)):=by
 intro K HK
 refine v50 g h K fun b1 b2 h1 eD dK hf1 bY=> ?_
 have f1:=hf1.aF
 have hlen:=H.len
 refine eJ _ _ _ _ _ ⟨_,rfl,bY,fun e=> ?_,fun e=> ?_⟩
 ·have e3:iq 1 8 aD.length=false:=by have:=bD e;rw[hlen]at this;exact this
  rw[<-KZ e3];exact HK _ f1
 ·have e3:iq 1 8 aD.length=true:=by have:=aZ e;rw[hlen]at this;exact this
  have hg:=AX e3
  refine⟨fun n i x h'=>h'=h1/\x=(g.n:Int)/\0<=i/\i+n=(aD.length:Int)/\aM aD=(aD.drop i.toNat).all (fun l=> !decide (5<(l.length:Int))&&l.all (iq 0 ((aD.length:Int)-1))),⟨aD.length,rfl,rfl,by omega,by omega,by simp[hg]⟩,?_⟩
  rintro n i x _ ⟨rfl,rfl,h0,h2,h4⟩ hL
  have H3:=H.no f1
  refine⟨fun e=> ?_,fun e=> ?_⟩
  ·have hi:=H.lt e
   obtain⟨si,hc,Hi⟩:=H3.get h0 hi
   rw[drop_cons aD h0 hi,List.all_cons]at h4
   refine⟨H3.bB h0 hi,si,hc,fun e5=> ?_,fun e5=> ?_⟩
   ·rw[Hi.len]at e5
    rw[e5]at h4
    have h5:aM aD=false:=by rw[h4];rfl
    rw[<-h5];exact HK _ f1
   ·rw[Hi.len]at e5
    rw[e5]at h4
    refine oJ Hi _ _ (fun x K HK=>Hq x hL K HK) _ ?_
    refine⟨_,_,rfl,hL,fun e6=> ?_,fun e6=> ?_⟩
    ·rw[Cq,wh H]at e6
     rw[bD e6]at h4
     have h5:aM aD=false:=by rw[h4];rfl
     rw[<-h5];exact HK _ f1
    ·rw[Cq,wh H]at e6
     rw[aZ e6]at h4
     rw[H.succ h0 hi]
     exact⟨n-1,by omega,rfl,rfl,by omega,by omega,by rw[h4];rfl⟩
  ·have hi:=H.ge e
   rw[List.drop_of_length_le (by omega)]at h4
   have h5:aM aD=true:=by rw[h4];rfl
   rw[<-h5];exact HK _ f1
theorem rZ{S S':Nat->Prop}{h:Heap}{g s:Sl}{aD:List (List Int)}{ps:List Int}(H:bU S h g aD)(Hp:aQ S' h s ps):vf Tryz.prog 107 #[.agg #[g.v],s.v] h (VB (aM aD&&ps.all (iq 0 ((aD.length:Int)-1)))):=by
 intro K HK
 refine v107 g s h K fun b1 h1 eD f1 bY=> ?_
 have f1:=f1.aF
 refine AY (H.no f1) _ fun h2 f2=>⟨_,rfl,bY.aB f2,fun e=> ?_,fun e=> ?_⟩
 ·rw[e,Bool.true_and]at HK
  have bW:=bY.aB f2
  refine oJ ((Hp.no f1).no f2) _ _ (fun x K HK=>Vl x bW K HK) _ ?_
  refine⟨_,_,rfl,bW,?_⟩
  rw[Cq,wh H,Bool.not_not]
  exact HK _ (f1.trans f2)
 ·rw[e,Bool.false_and]at HK
  exact HK _ (f1.trans f2)
theorem cQ{S:Nat->Prop}{h:Heap}{g:Sl}{aD:List (List Int)}(H:bU S h g aD)(p:Int):vf Tryz.prog 121 #[.agg #[g.v],VI p] h (VB (aM aD&&iq 0 ((aD.length:Int)-1) p)):=by
 intro K HK
 refine aeY g p h K fun b1 h1 eD f1 bY=> ?_
 have f1:=f1.aF
 refine lK (H.no f1) _ fun h2 f2=>⟨_,rfl,bY.aB f2,fun e=> ?_,fun e=> ?_⟩
 ·rw[e,Bool.true_and]at HK
  refine cY _ _ _ _ _ ⟨_,rfl,bY.aB f2,?_⟩
  rw[wh H]
  exact HK _ (f1.trans f2)
 ·rw[e,Bool.false_and]at HK
  exact HK _ (f1.trans f2)
theorem zT(a b:Int)(h:Heap)(K:Value->Heap->Prop)(HK:K (VI (max a b)) h):aE Tryz.prog 122 #[VI a,VI b] h K:=by
 refine abj a b h K ⟨fun e=> ?_,fun e=> ?_⟩
 ·simp only[decide_eq_true_eq]at e
  rw[Int.max_eq_left (by omega)]at HK
  exact HK
 ·simp only[decide_eq_false_iff_not]at e
  rw[Int.max_eq_right (by omega)]at HK
  exact HK
def zU(l:List Int)(r:Int):Bool:=iq 0 (max ((l.length:Int)-1) 0) r
def eW(g:List (List Int))(rs:List Int)(p:Int):Bool:=aM g&&iq 0 ((g.length:Int)-1) p&&decide (rs.length=g.length)&&(g.zip rs).all fun q=>zU q.1 q.2
theorem AZ{g:List (List Int)}{rs:List Int}{p:Int}(e:(aM g&&iq 0 ((g.length:Int)-1) p)=false):eW g rs p=false:=by unfold eW;rw[e];rfl
theorem A4{g:List (List Int)}{rs:List Int}{p:Int}(e:¬rs.length=g.length):eW g rs p=false:=by unfold eW;rw[decide_eq_false e];simp
theorem EU{g:List (List Int)}{rs:List Int}{p:Int}(e:(aM g&&iq 0 ((g.length:Int)-1) p)=true)(e2:rs.length=g.length):eW g rs p=(g.zip rs).all fun q=>zU q.1 q.2:=by unfold eW;rw[e,decide_eq_true e2];rfl
theorem EV(g:List (List Int))(rs:List Int){i:Int}(h0:0<=i)(h1:i<(g.length:Int))(h2:i<(rs.length:Int)):(g.zip rs).drop i.toNat=(g[i.toNat]'(by omega),rs[i.toNat]'(by omega))::(g.zip rs).drop (i+1).toNat:=by
 have:=drop_cons (g.zip rs) h0 (by simp;omega)
 simpa using this
theorem EW{S:Nat->Prop}{h:Heap}{g:Sl}{xs:List Int}(H:aQ S h g xs):aL ((g.n:Int)-1)=(xs.length:Int)-1:=by
 rw[H.len]
 have h1:=l8 (cM.Jk H)
 have h2:=H.len
 exact aG _ (by omega) (by omega)
theorem r8{S S':Nat->Prop}{h:Heap}{g s:Sl}{aD:List (List Int)}{rs:List Int}(G:bU S h g aD)(H:aQ S' h s rs)(p:Int):vf Tryz.prog 77 #[.agg #[g.v],.agg #[s.v,VI p]] h (VB (eW aD rs p)):=by
 intro K HK
 refine v77 g s p h K fun b1 b2 h1 eD dK f1 bY=> ?_
 have f1:=f1.aF
 refine aP fx (fun k=>h1.size<=k) (fun _ h=>h) 1 (by omega) [VI p] rfl rfl fun t h2 n2 c2 o2 f2 l2 _=>⟨t,rfl,bY.aB f2,?_⟩
 have o2:aQ (fun k=>h1.size<=k) h2 t [p]:=o2.eQ
 refine rZ ((G.no f1).no f2) o2 _ fun h3 f3=>⟨_,rfl,(bY.aB f2).aB f3,fun e=> ?_,fun e=> ?_⟩
 all_goals simp only[List.all_cons,List.all_nil,Bool.and_true]at e
 ·rw[<-AZ (rs:=rs) (bD e)];exact HK _ ((f1.aA f2).aA f3)
 ·have f13:=(f1.aA f2).aA f3
  rw[G.len,H.len]
  refine⟨fun e2=> ?_,fun e2=> ?_⟩
  ·have e3:=bD e2
   simp only[decide_eq_false_iff_not]at e3
   rw[<-A4 (g:=aD) (rs:=rs) (p:=p) (by omega)];exact HK _ f13
  ·have e3:=aZ e2
   simp only[decide_eq_true_eq]at e3
   have e4:=EU (aZ e) (rs:=rs) (by omega)
   have G3:=G.no f13
   have H3:=H.no f13
   refine⟨fun n i h'=>h'=h3/\0<=i/\i+n=(aD.length:Int)/\eW aD rs p=((aD.zip rs).drop i.toNat).all fun q=>zU q.1 q.2,⟨aD.length,rfl,by omega,by omega,by simpa using e4⟩,?_⟩
   rintro n i _ ⟨rfl,i0,i1,i2⟩ hL
   refine⟨fun e5=> ?_,fun e5=> ?_⟩
   ·have hi:i<(rs.length:Int):=by simpa using e5
    have iG:i<(aD.length:Int):=by omega
    obtain⟨si,c1,c2⟩:=G3.get i0 iG
    rw[EV aD rs i0 iG hi,List.all_cons]at i2
    refine⟨H3.bB i0 hi,_,H3.get i0 hi,G3.bB i0 iG,si,c1,?_⟩
    rw[EW c2]
    refine B4 _ _ _ _ ⟨_,rfl,eJ _ _ _ _ _ ⟨_,rfl,hL,fun e6=> ?_,fun e6=> ?_⟩⟩
    ·have e7:zU (aD[i.toNat]'(by omega)) (rs[i.toNat]'(by omega))=false:=bD e6
     simp only at i2
     rw[e7]at i2
     have e8:eW aD rs p=false:=by rw[i2];rfl
     rw[<-e8];exact HK _ f13
    ·have e7:zU (aD[i.toNat]'(by omega)) (rs[i.toNat]'(by omega))=true:=aZ e6
     simp only at i2
     rw[e7,Bool.true_and]at i2
     rw[H.succ i0 hi]
     exact⟨n-1,by omega,rfl,by omega,by omega,i2⟩
   ·have hi:¬i<(rs.length:Int):=by simpa using e5
    rw[List.drop_of_length_le (by simp;omega)]at i2
    have e8:eW aD rs p=true:=by rw[i2];rfl
    rw[<-e8];exact HK _ f13
theorem fh{S S':Nat->Prop}{h:Heap}{g s:Sl}{aD:List (List Int)}{rs:List Int}(G:bU S h g aD)(H:aQ S' h s rs)(p:Int):vf Tryz.prog 83 #[.agg #[g.v],.agg #[s.v,VI p]] h (VB (eW aD rs p)):=by
 intro K HK
 refine v83 g s p h K fun b1 b2 h1 eD dK f1 bY=> ?_
 have f1:=f1.aF
 refine cQ (G.no f1) p _ fun h3 f3=>⟨_,rfl,bY.aB f3,fun e=> ?_,fun e=> ?_⟩
 ·rw[<-AZ (rs:=rs) (bD e)];exact HK _ (f1.aA f3)
 ·have f13:=f1.aA f3
  rw[G.len,H.len]
  refine⟨fun e2=> ?_,fun e2=> ?_⟩
  ·have e3:=bD e2
   simp only[decide_eq_false_iff_not]at e3
   rw[<-A4 (g:=aD) (rs:=rs) (p:=p) (by omega)];exact HK _ f13
  ·have e3:=aZ e2
   simp only[decide_eq_true_eq]at e3
   have e4:=EU (aZ e) (rs:=rs) (by omega)
   have G3:=G.no f13
   have H3:=H.no f13
   refine⟨fun n i h'=>h'=h3/\0<=i/\i+n=(aD.length:Int)/\eW aD rs p=((aD.zip rs).drop i.toNat).all fun q=>zU q.1 q.2,⟨aD.length,rfl,by omega,by omega,by simpa using e4⟩,?_⟩
   rintro n i _ ⟨rfl,i0,i1,i2⟩ hL
   refine⟨fun e5=> ?_,fun e5=> ?_⟩
   ·have iG:i<(aD.length:Int):=by simpa using e5
    have hi:i<(rs.length:Int):=by omega
    obtain⟨si,c1,c2⟩:=G3.get i0 iG
    rw[EV aD rs i0 iG hi,List.all_cons]at i2
    refine⟨G3.bB i0 iG,si,c1,H3.bB i0 hi,_,H3.get i0 hi,?_⟩
    rw[EW c2]
    refine zT _ _ _ _ ⟨_,rfl,hL,H3.get i0 hi,?_⟩
    rw[Int.max_comm]
    refine cY _ _ _ _ _ ⟨_,rfl,hL,fun e6=> ?_,fun e6=> ?_⟩
    ·have e7:zU (aD[i.toNat]'(by omega)) (rs[i.toNat]'(by omega))=false:=bD e6
     simp only at i2
     rw[e7]at i2
     have e8:eW aD rs p=false:=by rw[i2];rfl
     rw[<-e8];exact HK _ f13
    ·have e7:zU (aD[i.toNat]'(by omega)) (rs[i.toNat]'(by omega))=true:=aZ e6
     simp only at i2
     rw[e7,Bool.true_and]at i2
     rw[G.succ i0 iG]
     exact⟨n-1,by omega,rfl,by omega,by omega,i2⟩
   ·have hi:¬i<(aD.length:Int):=by simpa using e5
    rw[List.drop_of_length_le (by simp;omega)]at i2
    have e8:eW aD rs p=true:=by rw[i2];rfl
    rw[<-e8];exact HK _ f13
def tH(aD:List (List Int)):Nat:=(aD.map List.length).sum
def nh:List (List Int):=[[1,2],[0,2],[0]]
def Nk(h h':Heap)(v:Value):Prop:=∃(g w:Sl)(m:Nat),v= .agg #[g.v,w.v,VI 0]/\gO h' (fun k=>h.size<=k/\k<m) g nh/\bR h' (fun k=>h.size<=k/\m<=k) w [0,0,0]/\Fr No h h'
theorem Hr{h:Heap}{F:Nat->Prop}{e:TypeId}{sz:Nat}{s:Sl}{vs:List Value}(H:Ow h F e sz s vs){n:Nat}(hn:h.size<=n):∀k,s.own k->k<n:=fun k hk=>Nat.lt_of_lt_of_le (H.aH hk).2 hn
theorem A5{h1:Heap}{K:Value->Heap->Prop}(HK:∀(g:Sl)(h':Heap),gO h' (fun k=>h1.size<=k) g nh->Fr No h1 h'->K g.v h'):
 jQ Tryz.prog (Instr.buildSlice qQ 2 #[(0,VI 1),(1,VI 2)]) h1 fun Vm h_2=>∃abn:Sl,Vm=abn.v/\Fr No h1 h_2/\
 jQ Tryz.prog (Instr.buildSlice qQ 2 #[(0,VI 0),(1,VI 2)]) h_2 fun Vn P6=>∃abo:Sl,Vn=abo.v/\Fr No h_2 P6/\
 jQ Tryz.prog (Instr.buildSlice qQ 1 #[(0,VI 0)]) P6 fun Vo nS=>∃abp:Sl,Vo=abp.v/\Fr No P6 nS/\
 jQ Tryz.prog (Instr.buildSlice ng 3 #[(0,abn.v),(1,abo.v),(2,abp.v)]) nS K:=by
 refine aP fx (fun k=>h1.size<=k) (fun _ h=>h) 2 (by omega) [VI 1,VI 2] rfl rfl fun t1 h2 n1 c1 o1 f1 l1 _=>⟨t1,rfl,f1,?_⟩
 refine aP fx (fun k=>h1.size<=k) (fun _ h=>Nat.le_trans f1.size h) 2 (by omega) [VI 0,VI 2] rfl rfl fun t2 h3 n2 c2 o2 f2 l2 _=>⟨t2,rfl,f2,?_⟩
 have f13:=f1.aA f2
 refine aP fx (fun k=>h1.size<=k) (fun _ h=>Nat.le_trans f13.size h) 1 (by omega) [VI 0] rfl rfl fun t3 h4 n3 c3 o3 f3 l3 _=>⟨t3,rfl,f3,?_⟩
 have f14:=f13.aA f3
 refine aP qb (fun k=>h1.size<=k) (fun _ h=>Nat.le_trans f14.size h) 3 (by omega) [t1.v,t2.v,t3.v] rfl rfl fun t4 h5 n4 c4 o4 f4 l4 _=> ?_
 have g1:=Hr o1 (Nat.le_refl _)
 have g2:=Hr o2 (Nat.le_refl _)
 have g3:=Hr o3 (Nat.le_refl _)
 have s3:=f2.size
 have s4:=f3.size
 refine HK t4 h5 (dR.of [t1,t2,t3] rfl o4 ?_ ?_ ?_) (f14.trans f4)
 ·intro p hp
  simp only[nh,List.zip_cons_cons,List.zip_nil_right,List.mem_cons,List.not_mem_nil,or_false]at hp
  rcases hp with rfl|rfl|rfl
  ·exact((o1.no f2).no f3).no f4
  ·exact(o2.no f3).no f4
  ·exact o3.no f4
 ·simp only[List.pairwise_cons,List.mem_cons,List.not_mem_nil,or_false,forall_eq_or_imp,forall_eq,List.Pairwise.nil,and_true]
  refine⟨⟨fun k a b=> ?_,fun k a b=> ?_⟩,fun k a b=> ?_,by simp⟩
  ·have:=g1 k a;have:=l2 k b;omega
  ·have:=g1 k a;have:=l3 k b;omega
  ·have:=g2 k a;have:=l3 k b;omega
 ·intro a ha k hk aI
  have:=l4 k hk
  simp only[List.mem_cons,List.not_mem_nil,or_false]at ha
  rcases ha with rfl|rfl|rfl
  ·have:=g1 k aI;omega
  ·have:=g2 k aI;omega
  ·have:=g3 k aI;omega
theorem vH(h:Heap)(K:Value->Heap->Prop)(HK:∀v h',Nk h h' v->K v h'):aE Tryz.prog 102 #[] h K:=by
 refine aeB h K fun b1 h1 eD f1 bY=> ?_
 have f1:=f1.aF
 refine(A5 (K:=fun v h'=>∃g:Sl,v=g.v/\gO h' (fun k=>h1.size<=k) g nh/\Fr No h1 h') fun g h' a b=>⟨g,rfl,a,b⟩).mono ?_
 rintro _ h2 ⟨t1,rfl,f2,H⟩
 refine⟨t1,rfl,bY.aB f2,H.mono ?_⟩
 rintro _ h3 ⟨t2,rfl,f3,H⟩
 refine⟨t2,rfl,(bY.aB f2).aB f3,H.mono ?_⟩
 rintro _ h4 ⟨t3,rfl,f4,H⟩
 refine⟨t3,rfl,((bY.aB f2).aB f3).aB f4,H.mono ?_⟩
 rintro _ h5 ⟨t4,rfl,o5,f5⟩
 have gh:=bY.aB f5
 refine⟨t4,rfl,gh,?_⟩
 refine aP fx (fun k=>h5.size<=k) (fun _ h=>h) 3 (by omega) [VI 0,VI 0,VI 0] rfl rfl fun t6 h6 n6 c6 o6 f6 l6 _=>⟨t6,rfl,gh.aB f6,fun h7 f7 jv=> ?_⟩
 have hb:b1<h1.size:=bY.head.lt
 have s5:=f5.size
 have s1:=f1.size
 have f67:Fr (In [b1]) h5 h7:=f6.aB.trans f7
 refine HK _ _ ⟨t4,t6,h5.size,rfl,?_,?_,?_⟩
 ·refine(dR.mono (F':=fun k=>h1.size<=k/\k<h5.size) o5 fun k hk hF=>⟨hF,hk⟩:gO h5 _ t4 nh).fr f67 (fun k _ hk aI=> ?_)|>.mono fun k _ hk=>⟨by omega,hk.2⟩
  simp[In]at aI
  omega
 ·refine(Ow.fr o6 f7 fun k hk aI=> ?_).mono fun k _ hk=>⟨by omega,hk⟩
  have:=l6 k hk
  simp[In]at aI
  omega
 ·have f17:Fr (In [b1]) h1 h7:=f5.aB.trans f67
  refine⟨Nat.le_trans s1 f17.size,fun k hk _=>(f17.same k (by omega) fun aI=> ?_).trans (f1.same k hk fun h=>h)⟩
  simp[In]at aI
  omega
theorem EX{F:Nat->Prop}{h:Heap}{g:Sl}{aD:List (List Int)}(H:gO h F g aD)(hn:aD.length<=1000000000000)(K:Value->Heap->Prop)(HK:∀w h',gO h' (fun k=>F k/\k<h.size) g aD->bR h' (fun k=>h.size<=k) w (List.replicate aD.length 0)->Fr No h h'->K (.agg #[g.v,w.v,VI 0]) h'):aE Tryz.prog 69 #[.agg #[g.v]] h K:=by
 refine v69 g h K fun b1 b2 h1 eD dK f1 bY=> ?_
 have f1:=f1.aF
 have s1:=f1.size
 refine eA fx (fun k=>h1.size<=k) (fun _ h=>h) .i64 .i64 g.n g.n (Nat.le_refl _) (by rw[H.len];exact hn) fun t7 h3 n3 c3 o3 f3 l3 _=>⟨t7,rfl,bY.aB f3,fun h4 f4 dS=> ?_⟩
 have hb:b2<h1.size:=bY.head.lt
 have f13:=f1.aA f3
 refine HK _ _ ((((H.mono fun k hk hF=>⟨hF,hk⟩:gO h (fun k=>F k/\k<h.size) g aD).no f13).fr f4 fun k _ hk aI=> ?_)) ?_ ?_
 ·simp[In]at aI
  omega
 ·have e:(List.replicate g.n [VI 0]).flatten=(List.replicate aD.length (0:Int)).map VI:=by rw[H.len];simp[List.flatten_replicate_singleton]
  rw[e]at o3
  refine(Ow.fr o3 f4 fun k hk aI=> ?_).mono fun k _ hk=>by omega
  have:=l3 k hk
  simp[In]at aI
  omega
 ·have f14:Fr (In [b2]) h h4:=f13.aB.trans f4
  refine⟨f14.size,fun k hk _=>f14.same k hk fun aI=> ?_⟩
  simp[In]at aI
  omega
theorem vI(h:Heap)(K:Value->Heap->Prop)(HK:∀v h',Nk h h' v->K v h'):aE Tryz.prog 30 #[] h K:=by
 refine v30 h K fun b1 h1 eD f1 bY=> ?_
 have f1:=f1.aF
 refine(A5 (K:=fun v h'=>∃g:Sl,v=g.v/\gO h' (fun k=>h1.size<=k) g nh/\Fr No h1 h') fun g h' a b=>⟨g,rfl,a,b⟩).mono ?_
 rintro _ h2 ⟨t1,rfl,f2,H⟩
 refine⟨t1,rfl,bY.aB f2,H.mono ?_⟩
 rintro _ h3 ⟨t2,rfl,f3,H⟩
 refine⟨t2,rfl,(bY.aB f2).aB f3,H.mono ?_⟩
 rintro _ h4 ⟨t3,rfl,f4,H⟩
 refine⟨t3,rfl,((bY.aB f2).aB f3).aB f4,H.mono ?_⟩
 rintro _ h5 ⟨t4,rfl,o5,f5⟩
 have gh:=bY.aB f5
 refine⟨t4,rfl,gh,?_⟩
 refine EX o5 (by simp[nh]) _ fun t6 h6 o6 p6 f6=>⟨t4,t6,0,rfl,gh.aB f6,fun h7 f7 jv=> ?_⟩
 have hb:b1<h1.size:=bY.head.lt
 have s5:=f5.size
 have s1:=f1.size
 have f67:Fr (In [b1]) h5 h7:=f6.aB.trans f7
 refine HK _ _ ⟨t4,t6,h5.size,rfl,?_,?_,?_⟩
 ·refine(dR.fr o6 f7 (fun k _ hk aI=> ?_)).mono fun k _ hk=>⟨by omega,hk.2⟩
  simp[In]at aI
  omega
 ·refine(Ow.fr p6 f7 fun k hk aI=> ?_).mono fun k _ hk=>⟨by omega,hk⟩
  have:=(p6.aH hk).1
  simp[In]at aI
  omega
 ·have f17:Fr (In [b1]) h1 h7:=f5.aB.trans f67
  refine⟨Nat.le_trans s1 f17.size,fun k hk _=>(f17.same k (by omega) fun aI=> ?_).trans (f1.same k hk fun h=>h)⟩
  simp[In]at aI
  omega
theorem EY{S:Nat->Prop}{h:Heap}{s:Sl}{xs:List Int}(H:aQ S h s xs)(hn:s.a=none):xs=[]:=by
 cases xs with
 |nil=>rfl
 |cons x xs=>
  obtain⟨a,ha,_⟩:=cM.cell H 0 (by simp)
  rw[hn]at ha
  cases ha
theorem wi{S:Nat->Prop}{h:Heap}{s:Sl}{xs:List Int}(H:aQ S h s xs)(hn:xs.length<=1000000000)(K:Value->Heap->Prop)(HK:∀t h',bR h' (Iv h.size h'.size) t xs->Fr No h h'->K t.v h'):aE Tryz.prog 152 #[s.v] h K:=by
 refine v152 s h K (KU fx _ _ ⟨_,rfl,fun e=> ?_,fun e=> ?_⟩)
 ·have:xs=[]:=EY H (by simpa using e)
  subst this
  exact HK aC h (Ow.nil _ _ _ _) (Fr.refl _ _)
 ·refine aP fx (fun k=>h.size<=k) (fun _ h=>h) 0 (by omega) [] rfl rfl fun t h1 n1 c1 o1 f1 l1 _=>⟨t,rfl,.nil,?_⟩
  refine bL fx o1 (fun k hk=>Nat.le_trans f1.size hk) (H.no f1) (fc _) (by have:=H.len;omega) fun t' h2 n2 o2 f2 l2=>⟨t',rfl,.nil,?_⟩
  exact HK t' h2 (Ow.fV (by simpa using o2)) (f1.fresh f2 l1)
theorem pP{S:Nat->Prop}{h:Heap}{s:Sl}{xs:List Int}(H:aQ S h s xs)(hn:xs.length<=1000000000)(K:Value->Heap->Prop)(HK:∀t h',bR h' (Iv h.size h'.size) t xs->Fr No h h'->K t.v h'):aE Tryz.prog 87 #[s.v] h K:=by
 refine v87 s h K ?_
 refine aP fx (fun k=>h.size<=k) (fun _ h=>h) 0 (by omega) [] rfl rfl fun t h1 n1 c1 o1 f1 l1 _=>⟨t,rfl,.nil,?_⟩
 refine bL fx o1 (fun k hk=>Nat.le_trans f1.size hk) (H.no f1) (fc _) (by have:=H.len;omega) fun t' h2 n2 o2 f2 l2=>⟨t',rfl,.nil,?_⟩
 exact HK t' h2 (Ow.fV (by simpa using o2)) (f1.fresh f2 l1)
theorem A6{n:Nat}:∀{aD:List (List Int)}{m:Nat},aD.length<=m->(∀l,l∈aD->l.length<=n)->tH aD<=m*n
 |[],m,_,_=>by simp[tH]
 |x::xs,0,h,_=>by simp at h
 |x::xs,m+1,h,h2=>by
  have h3:=A6 (n:=n) (aD:=xs) (m:=m) (by simpa using h) fun l hl=>h2 l (List.mem_cons_of_mem _ hl)
  have h4:=h2 x (by simp)
  have h5:tH (x::xs)=x.length+tH xs:=by simp[tH]
  rw[h5,Nat.add_mul]
  omega
theorem sa{aD:List (List Int)}:∀l,l∈aD->l.length<=tH aD:=by
 induction aD with
 |nil=>intro l h;simp at h
 |cons x xs ih=>
  intro l hl
  have h5:tH (x::xs)=x.length+tH xs:=by simp[tH]
  rcases List.mem_cons.1 hl with rfl|hl
  ·omega
  ·have:=ih l hl;omega
theorem EZ{S:Nat->Prop}{h:Heap}{g:Sl}{aD:List (List Int)}(H:bU S h g aD)(hn:aD.length+tH aD<=1000000000)(K:Value->Heap->Prop)(HK:∀t h',gO h' (Iv h.size h'.size) t aD->Fr No h h'->K (.agg #[t.v]) h'):aE Tryz.prog 109 #[.agg #[g.v]] h K:=by
 refine v109 g h K fun b1 b2 b3 h4 eD dK iR f4 dS=> ?_
 have f4:=f4.aF
 have l3:b3<h4.size:=dS.head.lt
 have l2:b2<h4.size:=dS.tail.head.lt
 have l1:b1<h4.size:=dS.tail.tail.head.lt
 have s4:=f4.size
 refine⟨fun n i x h'=>0<=i/\i+n=(aD.length:Int)/\gO h' (fun k=>h4.size<=k) x (aD.take i.toNat)/\Fr No h h'/\h4.size<=h'.size,⟨aD.length,by omega,by omega,by simpa using dR.nil _ _ _ _,f4,Nat.le_refl _⟩,?_⟩
 rintro n i x h5 ⟨i0,i1,o5,f5,z5⟩ gh
 have H5:=H.no f5
 refine⟨fun e=> ?_,fun e=> ?_⟩
 ·have hi:=H.lt e
  obtain⟨si,c1,c2⟩:=H5.get i0 hi
  have hsi:=sa (aD[i.toNat]'(by omega)) (List.getElem_mem (by omega))
  refine⟨H5.bB i0 hi,si,c1,wi c2 (by omega) _ fun t h6 o6 f6=>⟨t,rfl,gh.aB f6,?_⟩⟩
  refine aP qb (fun k=>h6.size<=k) (fun _ h=>h) 1 (by omega) [t.v] rfl rfl fun u h7 n7 c7 o7 f7 l7 _=>⟨u,rfl,(gh.aB f6).aB f7,?_⟩
  have s6:=f6.size
  have s7:=f7.size
  refine dR.snoc qb ((o5.fV.no f6).no f7) (F':=fun k=>h4.size<=k) (fun k _ hk=>hk.1) (fun k hk=>by omega) ((Ow.no o6 f7).mono fun k _ hk=>Nat.le_trans z5 hk.1) (fun k hk aI=>by have:=(o6.aH hk).1.1;have:=aI.2;omega) o7.rd (by simp;omega) fun y h8 o8 f8=>⟨y,rfl,((gh.aB f6).aB f7).iv f8 ⟨.inl l3,.inl l2,.inl l1,trivial⟩,fun h9 f9 fP=> ?_⟩
  have s8:=f8.size
  have f9:=f9.cB (lo:=h.size) (hi:=h4.size) ⟨⟨iR,l3⟩,trivial⟩
  have s9:=f9.size
  rw[H.succ i0 hi]
  refine⟨n-1,by omega,by omega,by omega,?_,?_,by omega⟩
  ·rw[dX aD i0 hi]
   exact(o8.fV.iv f9 (.inr (Nat.le_refl _))).mono fun k _ hk=>hk.1
  ·exact((((f5.aA f6).aA f7).aJ f8 (by omega))).aJ f9 (Nat.le_refl _)
 ·have hi:=H.ge e
  rw[List.take_of_length_le (by omega)]at o5
  intro dV f10 dL
  have f10:=f10.cB (lo:=h.size) (hi:=h4.size) ⟨⟨dK,l2⟩,trivial⟩
  exact HK x dV ((o5.fV.iv f10 (.inr (Nat.le_refl _))).mono fun k aI hk=>⟨Nat.le_trans s4 hk.1,aI⟩) (f5.aJ f10 (Nat.le_refl _))
theorem Nl{S:Nat->Prop}{h:Heap}{g:Sl}{aD:List (List Int)}(H:bU S h g aD)(hn:aD.length+tH aD<=1000000000)(K:Value->Heap->Prop)(HK:∀t h',gO h' (Iv h.size h'.size) t aD->Fr No h h'->K (.agg #[t.v]) h'):aE Tryz.prog 175 #[.agg #[g.v]] h K:=by
 refine v175 g h K fun b1 b2 b3 h4 eD dK iR f4 dS=> ?_
 have f4:=f4.aF
 have l3:b3<h4.size:=dS.head.lt
 have l2:b2<h4.size:=dS.tail.head.lt
 have l1:b1<h4.size:=dS.tail.tail.head.lt
 have s4:=f4.size
 refine⟨fun n i x h'=>0<=i/\i+n=(aD.length:Int)/\gO h' (fun k=>h4.size<=k) x (aD.take i.toNat)/\Fr No h h'/\h4.size<=h'.size,⟨aD.length,by omega,by omega,by simpa using dR.nil _ _ _ _,f4,Nat.le_refl _⟩,?_⟩
 rintro n i x h5 ⟨i0,i1,o5,f5,z5⟩ gh
 have H5:=H.no f5
 refine⟨fun e=> ?_,fun e=> ?_⟩
 ·have hi:=H.lt e
  obtain⟨si,c1,c2⟩:=H5.get i0 hi
  have hsi:=sa (aD[i.toNat]'(by omega)) (List.getElem_mem (by omega))
  refine⟨H5.bB i0 hi,si,c1,pP c2 (by omega) _ fun t h6 o6 f6=>⟨t,rfl,gh.aB f6,?_⟩⟩
  refine aP qb (fun k=>h6.size<=k) (fun _ h=>h) 1 (by omega) [t.v] rfl rfl fun u h7 n7 c7 o7 f7 l7 _=>⟨u,rfl,(gh.aB f6).aB f7,?_⟩
  have s6:=f6.size
  have s7:=f7.size
  refine dR.snoc qb ((o5.fV.no f6).no f7) (F':=fun k=>h4.size<=k) (fun k _ hk=>hk.1) (fun k hk=>by omega) ((Ow.no o6 f7).mono fun k _ hk=>Nat.le_trans z5 hk.1) (fun k hk aI=>by have:=(o6.aH hk).1.1;have:=aI.2;omega) o7.rd (by simp;omega) fun y h8 o8 f8=>⟨y,rfl,((gh.aB f6).aB f7).iv f8 ⟨.inl l3,.inl l2,.inl l1,trivial⟩,fun h9 f9 fP=> ?_⟩
  have s8:=f8.size
  have f9:=f9.cB (lo:=h.size) (hi:=h4.size) ⟨⟨iR,l3⟩,trivial⟩
  have s9:=f9.size
  rw[H.succ i0 hi]
  refine⟨n-1,by omega,by omega,by omega,?_,?_,by omega⟩
  ·rw[dX aD i0 hi]
   exact(o8.fV.iv f9 (.inr (Nat.le_refl _))).mono fun k _ hk=>hk.1
  ·exact((((f5.aA f6).aA f7).aJ f8 (by omega))).aJ f9 (Nat.le_refl _)
 ·have hi:=H.ge e
  rw[List.take_of_length_le (by omega)]at o5
  intro dV f10 dL
  have f10:=f10.cB (lo:=h.size) (hi:=h4.size) ⟨⟨dK,l2⟩,trivial⟩
  exact HK x dV ((o5.fV.iv f10 (.inr (Nat.le_refl _))).mono fun k aI hk=>⟨Nat.le_trans s4 hk.1,aI⟩) (f5.aJ f10 (Nat.le_refl _))
def j5(aD:List (List Int)):List (List Int):=if aM aD then aD else[]
def gP(g:List (List Int))(p q:Int):List (List Int)×Bool:=
 if aM g&&iq 0 ((g.length:Int)-1) p&&iq 0 ((g.length:Int)-1) q then(j5 (g.set p.toNat (g.getD p.toNat []++[q])),aM (g.set p.toNat (g.getD p.toNat []++[q])))else([],false)
theorem aX{lo hi x:Int}:iq lo hi x=true↔lo<=x/\x<=hi:=by simp[iq]
theorem aO{g:List (List Int)}(h:aM g=true):1<=g.length/\g.length<=8:=by
 unfold aM at h
 rw[Bool.and_eq_true,aX]at h
 omega
theorem aT{g:List (List Int)}(h:aM g=true){l:List Int}(hl:l∈g):l.length<=5/\∀x,x∈l->0<=x/\x<(g.length:Int):=by
 unfold aM at h
 rw[Bool.and_eq_true]at h
 have:=List.all_eq_true.1 h.2 l hl
 rw[Bool.and_eq_true]at this
 obtain⟨h1,h2⟩:=this
 simp only[Bool.not_eq_true',decide_eq_false_iff_not]at h1
 refine⟨by omega,fun x hx=> ?_⟩
 have:=List.all_eq_true.1 h2 x hx
 rw[aX]at this
 omega
theorem pQ{g:List (List Int)}(h:aM g=true):tH g<=40:=by
 have:=A6 (n:=5) (aD:=g) (m:=8) (aO h).2 fun l hl=>(aT h hl).1
 omega
theorem aS{g:List (List Int)}{i:Nat}(h:i<g.length):g.getD i []=g[i]:=by simp[List.getD,List.getElem?_eq_getElem h]
theorem Nn{x y:Nat}{h:Heap}{g:Sl}{aD:List (List Int)}(H:gO h (Iv x y) g aD)(hy:y<=h.size)(K:Value->Heap->Prop)(HK:∀t h',gO h' (Iv x y) t (j5 aD)->Fr No h h'->K (.tuple #[.agg #[t.v],VB (aM aD)]) h'):aE Tryz.prog 200 #[.agg #[g.v]] h K:=by
 refine agG g h K fun b1 b2 h2 eD dK f2 bW=> ?_
 have f2:=f2.aF
 have l2:b2<h2.size:=bW.head.lt
 refine AY (H.rd.no f2) _ fun h3 f3=>⟨_,rfl,bW.aB f3,fun e h4 f4 dS=> ?_,fun e h4 f4 dS=> ?_⟩
 ·have f4:=f4.cB (lo:=h.size) (hi:=h2.size) ⟨⟨dK,l2⟩,trivial⟩
  have e:=bD e
  have:=HK aC h4 (by unfold j5;rw[e];exact dR.nil _ _ _ _) ((f2.aA f3).aJ f4 (Nat.le_refl _))
  rw[e]at this
  exact this
 ·have f4:=f4.cB (lo:=h.size) (hi:=h2.size) ⟨⟨dK,l2⟩,trivial⟩
  have e:=aZ e
  have:=HK g h4 (by unfold j5;rw[e];exact((H.no f2).no f3).iv f4 (.inl hy)) ((f2.aA f3).aJ f4 (Nat.le_refl _))
  rw[e]at this
  exact this
theorem Vp{x y:Nat}{h:Heap}{g:Sl}{aD:List (List Int)}(H:gO h (Iv x y) g aD)(hy:y<=h.size)(K:Value->Heap->Prop)(HK:∀t h',gO h' (Iv x y) t (j5 aD)->Fr No h h'->K (.tuple #[.agg #[t.v],VB (aM aD)]) h'):aE Tryz.prog 176 #[.agg #[g.v]] h K:=by
 refine af6 g h K fun b1 b2 h2 eD dK f2 bW=> ?_
 have f2:=f2.aF
 have l2:b2<h2.size:=bW.head.lt
 refine lK (H.rd.no f2) _ fun h3 f3=>⟨_,rfl,bW.aB f3,fun e h4 f4 dS=> ?_,fun e h4 f4 dS=> ?_⟩
 ·have f4:=f4.cB (lo:=h.size) (hi:=h2.size) ⟨⟨dK,l2⟩,trivial⟩
  have e:=bD e
  have:=HK aC h4 (by unfold j5;rw[e];exact dR.nil _ _ _ _) ((f2.aA f3).aJ f4 (Nat.le_refl _))
  rw[e]at this
  exact this
 ·have f4:=f4.cB (lo:=h.size) (hi:=h2.size) ⟨⟨dK,l2⟩,trivial⟩
  have e:=aZ e
  have:=HK g h4 (by unfold j5;rw[e];exact((H.no f2).no f3).iv f4 (.inl hy)) ((f2.aA f3).aJ f4 (Nat.le_refl _))
  rw[e]at this
  exact this
theorem K0{S:Nat->Prop}{h:Heap}{g:Sl}{aD:List (List Int)}(H:bU S h g aD)(p q:Int)(K:Value->Heap->Prop)(HK:∀t h',gO h' (Iv h.size h'.size) t (gP aD p q).1->Fr No h h'->K (.tuple #[.agg #[t.v],VB (gP aD p q).2]) h'):aE Tryz.prog 216 #[.agg #[g.v],VI p,VI q] h K:=by
 refine ag3 g p q h K fun b1 b2 h2 eD dK f2 bW=> ?_
 have f2:=f2.aF
 have l2:b2<h2.size:=bW.head.lt
 have l1:b1<h2.size:=bW.tail.head.lt
 have s2:=f2.size
 refine aP fx (fun k=>h2.size<=k) (fun _ h=>h) 2 (by omega) [VI p,VI q] rfl rfl fun t h3 n3 c3 o3 f3 m3 _=>⟨t,rfl,bW.aB f3,?_⟩
 have o3:aQ (fun k=>h2.size<=k) h3 t [p,q]:=o3.eQ
 have cF:=bW.aB f3
 have s3:=f3.size
 refine rZ ((H.no f2).no f3) o3 _ fun h4 f4=>⟨_,rfl,cF.aB f4,fun e h5 f5 gh=> ?_,fun e=> ?_⟩
 all_goals simp only[List.all_cons,List.all_nil,Bool.and_true]at e
 ·have f5:=f5.cB (lo:=h.size) (hi:=h2.size) ⟨⟨dK,l2⟩,trivial⟩
  have e2:gP aD p q=([],false):=by unfold gP;rw[Bool.and_assoc,bD e];rfl
  have:=HK aC h5 (by rw[e2];exact dR.nil _ _ _ _) (((f2.aA f3).aA f4).aJ f5 (Nat.le_refl _))
  rw[e2]at this
  exact this
 ·have e:=aZ e
  have e2:gP aD p q=(j5 (aD.set p.toNat (aD.getD p.toNat []++[q])),aM (aD.set p.toNat (aD.getD p.toNat []++[q]))):=by unfold gP;rw[Bool.and_assoc,e];rfl
  rw[Bool.and_eq_true,Bool.and_eq_true,aX,aX]at e
  obtain⟨hg,⟨Np,hp1⟩,hq⟩:=e
  have hlen:=aO hg
  have aik:=pQ hg
  rw[e2]at HK
  have f24:=(f2.aA f3).aA f4
  have s4:=f4.size
  refine EZ (H.no f24) (by omega) _ fun u h6 o6 f6=>⟨u,rfl,(cF.aB f4).aB f6,o6.rd.bB Np (by omega),fun b3 h8 iR f8 fO=> ?_⟩
  have f8:=f8.aF
  have s6:=f6.size
  have s8:=f8.size
  have l3:b3<h8.size:=fO.head.lt
  have o8:=o6.no f8
  obtain⟨si,c1,c2,_⟩:=o8.inner Np (by omega)
  refine⟨si,c1,?_⟩
  refine aP fx (fun k=>h8.size<=k) (fun _ h=>h) 1 (by omega) [VI q] rfl rfl fun v h9 n9 c9 o9 f9 m9 _=>⟨v,rfl,fO.aB f9,dD c1 f9 (fun h=>h),?_⟩
  have s9:=f9.size
  have o9:aQ (fun k=>h8.size<=k) h9 v [q]:=o9.eQ
  have hsi:=(aT hg (List.getElem_mem (show p.toNat<aD.length by omega))).1
  have fP:=fO.aB f9
  have Vq:=o8.no f9
  have Nq:bR h9 (fun k=>h4.size<=k) si (aD[p.toNat]'(by omega)):=(Ow.no c2 f9).mono fun k _ hk=>hk.1
  refine bL fx Nq (fun k hk=>by omega) o9 (fc _) (by have h1:=aQ.len Nq.eQ;have h2:=o9.len;simp at h2;omega) fun w dV Ul mM f10 d10=>⟨w,rfl,?_⟩
  have Nr:Fr (Iv h4.size h6.size) h9 dV:=f10.mono fun k _ hk=>(c2.aH hk).1
  have dL:=fP.iv Nr ⟨.inr iR,.inl (by omega),.inl (by omega),trivial⟩
  have s10:=f10.size
  rw[<-List.map_append]at mM
  obtain⟨i11,w11,lL,f11⟩:=Vq.MF Np (by omega) (dD c1 f9 fun h=>h) f10 (F':=fun k=>h4.size<=k) mM (fun k _ hk=>hk.1) fun k hk=>(d10 k hk).imp id fun aI Hs=>by have:=Hs.2;omega
  have Ns:Fr (Iv h4.size h6.size) dV _:=Vq.QP f11
  have iu:=dL.iv Ns ⟨.inr iR,.inl (by omega),.inl (by omega),trivial⟩
  refine⟨dL,i11,w11,iu,fun hH Vr _=> ?_⟩
  subst Vr
  have s11:=f11.size
  refine Nn lL.fV (Nat.le_refl _) _ fun z gK Nt f12=>⟨z,_,rfl,iu.aB f12,fun qR f13 K1=> ?_⟩
  have f13:=f13.cB (lo:=h.size) (hi:=h2.size) ⟨⟨dK,l2⟩,trivial⟩
  have s12:=f12.size
  have s13:=f13.size
  rw[aS (show p.toNat<aD.length by omega)]at HK
  refine HK z qR ((Nt.iv f13 (.inr (by omega))).mono fun k hk hF=>⟨by have:=hF.1;omega,hk⟩) ?_
  exact((((((f24.aA f6).aA f8).aA f9).aJ Nr (by omega)).aJ Ns (by omega)).aA f12).aJ f13 (Nat.le_refl _)
theorem oK{S:Nat->Prop}{h:Heap}{g:Sl}{aD:List (List Int)}(H:bU S h g aD)(p q:Int)(K:Value->Heap->Prop)(HK:∀t h',gO h' (Iv h.size h'.size) t (gP aD p q).1->Fr No h h'->K (.tuple #[.agg #[t.v],VB (gP aD p q).2]) h'):aE Tryz.prog 126 #[.agg #[g.v],VI p,VI q] h K:=by
 refine ae6 g p q h K fun b1 b2 h2 eD dK f2 bW=> ?_
 have f2:=f2.aF
 have l2:b2<h2.size:=bW.head.lt
 have l1:b1<h2.size:=bW.tail.head.lt
 have s2:=f2.size
 refine cQ (H.no f2) p _ fun h3 f3=>⟨_,rfl,bW.aB f3,fun e h5 f5 gh=> ?_,fun e=> ?_⟩
 ·have f5:=f5.cB (lo:=h.size) (hi:=h2.size) ⟨⟨dK,l2⟩,trivial⟩
  have e2:gP aD p q=([],false):=by unfold gP;rw[bD e];rfl
  have:=HK aC h5 (by rw[e2];exact dR.nil _ _ _ _) ((f2.aA f3).aJ f5 (Nat.le_refl _))
  rw[e2]at this
  exact this
 have cF:=bW.aB f3
 have s3:=f3.size
 have e1:=aZ e
 refine cQ ((H.no f2).no f3) q _ fun h4 f4=>⟨_,rfl,cF.aB f4,fun e h5 f5 gh=> ?_,fun e=> ?_⟩
 ·have f5:=f5.cB (lo:=h.size) (hi:=h2.size) ⟨⟨dK,l2⟩,trivial⟩
  have e:=bD e
  have e2:gP aD p q=([],false):=by
   unfold gP
   rw[Bool.and_eq_true]at e1
   rw[e1.1,Bool.true_and]at e
   rw[e1.1,e1.2,e];rfl
  have:=HK aC h5 (by rw[e2];exact dR.nil _ _ _ _) (((f2.aA f3).aA f4).aJ f5 (Nat.le_refl _))
  rw[e2]at this
  exact this
 ·have e:=aZ e
  have e2:gP aD p q=(j5 (aD.set p.toNat (aD.getD p.toNat []++[q])),aM (aD.set p.toNat (aD.getD p.toNat []++[q]))):=by
   unfold gP
   rw[Bool.and_eq_true]at e
   rw[e1,e.2];rfl
  rw[Bool.and_eq_true,aX]at e e1
  obtain⟨hg,Np,hp1⟩:=e1
  have hlen:=aO hg
  have aik:=pQ hg
  rw[e2]at HK
  have f24:=(f2.aA f3).aA f4
  have s4:=f4.size
  refine Nl (H.no f24) (by omega) _ fun u h6 o6 f6=>⟨u,rfl,(cF.aB f4).aB f6,o6.rd.bB Np (by omega),fun b3 h8 iR f8 fO=> ?_⟩
  have f8:=f8.aF
  have s6:=f6.size
  have s8:=f8.size
  have l3:b3<h8.size:=fO.head.lt
  have o8:=o6.no f8
  obtain⟨si,c1,c2,_⟩:=o8.inner Np (by omega)
  refine⟨si,c1,?_⟩
  refine aP fx (fun k=>h8.size<=k) (fun _ h=>h) 1 (by omega) [VI q] rfl rfl fun v h9 n9 c9 o9 f9 m9 _=>⟨v,rfl,fO.aB f9,dD c1 f9 (fun h=>h),?_⟩
  have s9:=f9.size
  have o9:aQ (fun k=>h8.size<=k) h9 v [q]:=o9.eQ
  have hsi:=(aT hg (List.getElem_mem (show p.toNat<aD.length by omega))).1
  have fP:=fO.aB f9
  have Vq:=o8.no f9
  have Nq:bR h9 (fun k=>h4.size<=k) si (aD[p.toNat]'(by omega)):=(Ow.no c2 f9).mono fun k _ hk=>hk.1
  refine bL fx Nq (fun k hk=>by omega) o9 (fc _) (by have h1:=aQ.len Nq.eQ;have h2:=o9.len;simp at h2;omega) fun w dV Ul mM f10 d10=>⟨w,rfl,?_⟩
  have Nr:Fr (Iv h4.size h6.size) h9 dV:=f10.mono fun k _ hk=>(c2.aH hk).1
  have dL:=fP.iv Nr ⟨.inr iR,.inl (by omega),.inl (by omega),trivial⟩
  have s10:=f10.size
  rw[<-List.map_append]at mM
  obtain⟨i11,w11,lL,f11⟩:=Vq.MF Np (by omega) (dD c1 f9 fun h=>h) f10 (F':=fun k=>h4.size<=k) mM (fun k _ hk=>hk.1) fun k hk=>(d10 k hk).imp id fun aI Hs=>by have:=Hs.2;omega
  have Ns:Fr (Iv h4.size h6.size) dV _:=Vq.QP f11
  have iu:=dL.iv Ns ⟨.inr iR,.inl (by omega),.inl (by omega),trivial⟩
  refine⟨dL,i11,w11,iu,fun hH Vr _=> ?_⟩
  subst Vr
  have s11:=f11.size
  refine Vp lL.fV (Nat.le_refl _) _ fun z gK Nt f12=>⟨z,_,rfl,iu.aB f12,fun qR f13 K1=> ?_⟩
  have f13:=f13.cB (lo:=h.size) (hi:=h2.size) ⟨⟨dK,l2⟩,trivial⟩
  have s12:=f12.size
  have s13:=f13.size
  rw[aS (show p.toNat<aD.length by omega)]at HK
  refine HK z qR ((Nt.iv f13 (.inr (by omega))).mono fun k hk hF=>⟨by have:=hF.1;omega,hk⟩) ?_
  exact((((((f24.aA f6).aA f8).aA f9).aJ Nr (by omega)).aJ Ns (by omega)).aA f12).aJ f13 (Nat.le_refl _)
theorem E0{k n:Int}(h0:0<=k)(hn:0<=n):Int.tmod k n=((k.toNat%n.toNat:Nat):Int):=by
 obtain⟨a,rfl⟩:=Int.eq_ofNat_of_zero_le h0
 obtain⟨b,rfl⟩:=Int.eq_ofNat_of_zero_le hn
 rfl
@[reducible] def tB:TypeId:=4
@[reducible] def tBs:TypeId:=195
theorem rBs:mX Tryz.prog tBs=some (tB,1,1,[VB false]):=by kernel_rfl
theorem aim{S:Nat->Prop}{h:Heap}{s:Sl}{bs:List Bool}(H:cM S h 1 s (bs.map VB)){i:Int}(h0:0<=i)(h1:i<(bs.length:Int)):aR h (s.at i 1)=some (VB (bs[i.toNat]'(by omega))):=by
 have:=cM.get H h0 (by simpa using h1)
 simpa using this
theorem ain{S:Nat->Prop}{h:Heap}{s:Sl}{bs:List Bool}(H:cM S h 1 s (bs.map VB)):s.n=bs.length:=by have:=cM.len H;simp at this;exact this.symm
abbrev St:=List Int×Int
def cA(g:List (List Int))(w:St):Option St:=
 if(g.getD w.2.toNat []).length=0 then none
 else some (w.1.set w.2.toNat ((((w.1.getD w.2.toNat 0).toNat+1)%(g.getD w.2.toNat []).length:Nat):Int),(g.getD w.2.toNat []).getD (((w.1.getD w.2.toNat 0).toNat+1)%(g.getD w.2.toNat []).length) 0)
structure gj(g:List (List Int))(w:St):Prop where
 bE:aM g=true
 len:w.1.length=g.length
 lo:0<=w.2
 hi:w.2<(g.length:Int)
 P7:∀i(h:i<w.1.length)(h':i<g.length),0<=w.1[i]/\w.1[i]<=max ((g[i].length:Int)-1) 0
theorem cV{g:List (List Int)}{rs:List Int}{p:Int}(h:eW g rs p=true):gj g (rs,p):=by
 unfold eW at h
 simp only[Bool.and_eq_true,decide_eq_true_eq]at h
 obtain⟨⟨⟨h1,h2⟩,h3⟩,h4⟩:=h
 rw[aX]at h2
 refine⟨h1,h3,h2.1,by simp only;omega,fun i a b=> ?_⟩
 have:=List.all_eq_true.1 h4 (g[i],rs[i]) (by
  rw[show(g[i],rs[i])=(g.zip rs)[i]'(by simp only[List.length_zip];simp only at a;omega) by simp]
  exact List.getElem_mem _)
 unfold zU at this
 rw[aX]at this
 exact this
theorem ni{g:List (List Int)}{w:St}(W:gj g w)(hp:w.2.toNat<g.length):(g[w.2.toNat]).length=0->cA g w=none:=fun h=>by
 unfold cA
 rw[aS hp,if_pos h]
theorem aN{xs:List Int}{i:Nat}(h:i<xs.length):xs.getD i 0=xs[i]:=by simp[List.getD,List.getElem?_eq_getElem h]
theorem qS{g:List (List Int)}{w:St}(W:gj g w)(hp:w.2.toNat<g.length)(hr:w.2.toNat<w.1.length)(h:(g[w.2.toNat]).length≠0):
 cA g w=some (w.1.set w.2.toNat ((((w.1[w.2.toNat]).toNat+1)%(g[w.2.toNat]).length:Nat):Int),(g[w.2.toNat])[((w.1[w.2.toNat]).toNat+1)%(g[w.2.toNat]).length]'(Nat.mod_lt _ (by omega))):=by
 unfold cA
 rw[aS hp,if_neg h,aN hr,aN (Nat.mod_lt _ (by omega))]
theorem gj.step{g:List (List Int)}{w w':St}(W:gj g w)(h:cA g w=some w'):gj g w':=by
 have hp:w.2.toNat<g.length:=by have:=W.hi;have:=W.lo;omega
 have hr:w.2.toNat<w.1.length:=by rw[W.len];exact hp
 by_cases h0:(g[w.2.toNat]).length=0
 ·rw[ni W hp h0]at h;cases h
 ·rw[qS W hp hr h0]at h
  have hm:=Nat.mod_lt ((w.1[w.2.toNat]).toNat+1) (show 0<(g[w.2.toNat]).length by omega)
  simp only[Option.some.injEq]at h
  subst h
  have abq:=(aT W.bE (List.getElem_mem hp)).2 _ (List.getElem_mem hm)
  refine⟨W.bE,by simpa using W.len,abq.1,abq.2,fun i a b=> ?_⟩
  simp only[List.length_set]at a
  simp only[List.getElem_set]
  split
  ·rename_i e
   subst e
   omega
  ·exact W.P7 i a b
theorem ic{S:Nat->Prop}{h:Heap}{s:Sl}{xs:List Int}(H:aQ S h s xs)(p:Int)(hn:xs.length<=1000000000)(K:Value->Heap->Prop)(HK:∀t h',bR h' (Iv h.size h'.size) t xs->Fr No h h'->K (.agg #[t.v,VI p]) h'):aE Tryz.prog 110 #[.agg #[s.v,VI p]] h K:=by
 refine aeF s p h K fun b1 b2 h2 eD dK f2 bW=> ?_
 have f2:=f2.aF
 have l2:b2<h2.size:=bW.head.lt
 have s2:=f2.size
 refine wi (H.no f2) hn _ fun t h3 o3 f3=>⟨t,rfl,bW.aB f3,fun h4 f4 dS=> ?_⟩
 have f4:=f4.cB (lo:=h.size) (hi:=h2.size) ⟨⟨dK,l2⟩,trivial⟩
 exact HK t h4 ((Ow.iv o3 f4 (.inr (Nat.le_refl _))).mono fun k hk hF=>⟨Nat.le_trans s2 hF.1,Nat.lt_of_lt_of_le hF.2 f4.size⟩) ((f2.aA f3).aJ f4 (Nat.le_refl _))
theorem Cr{F S:Nat->Prop}{b:Nat}{h:Heap}{g w:Sl}{aD:List (List Int)}{s:St}(G:bU S h g aD)(V:dC h b [w.v,VI s.2])(H:bR h F w s.1)(hS:∀k,S k->¬F k)(hFb:F b)(GN:¬w.own b)(W:gj aD s)(K:Value->Heap->Prop)
 (HN:cA aD s=none->∀h',Fr No h h'->K (VB false) h') (HS:∀s',cA aD s=some s'->∀h',bR h' F w s'.1->dC h' b [w.v,VI s'.2]->Fr F h h'->K (VB true) h'):
 aE Tryz.prog 254 #[.agg #[g.v],VP b 0] h K:=by
 have hp:s.2.toNat<aD.length:=by have:=W.hi;have:=W.lo;omega
 have hr:s.2.toNat<s.1.length:=by rw[W.len];exact hp
 have wj:=W.lo
 refine ahE g b w s.2 h K (.cons V (by simp) .nil) ⟨G.bB W.lo W.hi,fun b2 h1 dK f1 bY=> ?_⟩
 have f1:=f1.aF
 obtain⟨si,c1,c2⟩:=(G.no f1).get W.lo W.hi
 have H1:=Ow.no H f1
 have hn1:w.n=s.1.length:=aQ.len H.eQ
 refine⟨si,c1,fun e=> ?_,fun e=> ?_⟩
 ·simp only[decide_eq_true_eq]at e
  exact HN (ni W hp (by have:=c2.len;omega)) h1 f1
 ·simp only[decide_eq_false_iff_not]at e
  have h0:(aD[s.2.toNat]'hp).length≠0:=by have:=c2.len;omega
  have MD:=qS W hp hr h0
  have hm:=Nat.mod_lt ((s.1[s.2.toNat]'hr).toNat+1) (show 0<(aD[s.2.toNat]'hp).length by omega)
  have Vs:=W.P7 _ hr hp
  have aio:=(aT W.bE (List.getElem_mem hp)).1
  have hw:aL (s.1[s.2.toNat]'hr+1)=s.1[s.2.toNat]'hr+1:=aG _ (by omega) (by omega)
  have JC:Int.tmod (s.1[s.2.toNat]'hr+1) (si.n:Int)=((((s.1[s.2.toNat]'hr).toNat+1)%(aD[s.2.toNat]'hp).length:Nat):Int):=by
   rw[E0 (by omega) (by omega),c2.len]
   congr 2
   omega
  have R1:aQ F h1 w s.1:=H1.eQ
  refine⟨R1.bB wj (by omega),_,R1.get wj (by omega),by omega,R1.bB wj (by omega),?_⟩
  rw[hw,JC]
  obtain⟨w1,w2,w3⟩:=H1.eX wj (by omega) (VI ((((s.1[s.2.toNat]'hr).toNat+1)%(aD[s.2.toNat]'hp).length:Nat):Int))
  have oL:Fr F h1 _:=w3.mono fun k _ hk=>(H1.aH hk).1
  have hbl:=V.lt
  have bW:=bY.fr w3 fun p hp=>by
   simp only[List.mem_cons,List.not_mem_nil,or_false]at hp
   rcases hp with rfl|rfl
   ·exact fun hk=>by have:=(H.aH hk).2;simp only at this;omega
   ·exact GN
  refine⟨w1,bW,fun h2 e2 _=> ?_⟩
  subst e2
  rw[<-List.map_set]at w2
  have R2:aQ F _ w _:=w2.eQ
  have Nq:=aQ.fr c2 oL hS
  have hv:aR (cK h1 (w.at s.2 1) (VI ((((s.1[s.2.toNat]'hr).toNat+1)%(aD[s.2.toNat]'hp).length:Nat):Int))) (w.at s.2 1)=some (VI ((((s.1[s.2.toNat]'hr).toNat+1)%(aD[s.2.toNat]'hp).length:Nat):Int)):=by
   have:=R2.get (i:=s.2) wj (by simp;omega)
   simpa using this
  have hq:=Nq.get (i:=((((s.1[s.2.toNat]'hr).toNat+1)%(aD[s.2.toNat]'hp).length:Nat):Int)) (by omega) (by omega)
  simp only[Int.toNat_natCast]at hq
  refine⟨R2.bB wj (by simp;omega),_,hv,Nq.bB (by omega) (by omega),_,hq,fun h3 f3 cF=> ?_⟩
  have Vt:Fr F _ h3:=f3.mono fun k _ hk=>by simp only[In,List.mem_cons,List.not_mem_nil,or_false]at hk;subst hk;exact hFb
  refine HS _ MD h3 ?_ ?_ ((f1.aB.trans oL).trans Vt)
  ·exact Ow.fr w2 f3 fun k hk aI=>by
    simp only[In,List.mem_cons,List.not_mem_nil,or_false]at aI
    subst aI
    exact GN hk
  ·exact cF.tail.head
theorem Vu{a c b:Nat}{h:Heap}{g w:Sl}{aD:List (List Int)}{s:St}(G:bU (Iv 0 a) h g aD)(V:dC h b [w.v,VI s.2])(H:bR h (Iv a c) w s.1)(hb0:a<=b)(eD:b<c)(GN:¬w.own b)(W:gj aD s)(K:Value->Heap->Prop)
 (HN:cA aD s=none->∀h',Fr No h h'->K (VB false) h') (HS:∀s',cA aD s=some s'->∀h',bR h' (Iv a c) w s'.1->dC h' b [w.v,VI s'.2]->Fr (Iv a c) h h'->K (VB true) h'):
 aE Tryz.prog 254 #[.agg #[g.v],VP b 0] h K:=
 Cr G V H (fun k hk aI=>by have:=hk.2;have:=aI.1;omega) ⟨hb0,eD⟩ GN W K HN HS
theorem oM{S S':Nat->Prop}{h:Heap}{g w:Sl}{aD:List (List Int)}{s:St}(G:bU S h g aD)(H:aQ S' h w s.1)(W:gj aD s)(K:Value->Heap->Prop)
 (HN:cA aD s=none->∀h',Fr No h h'->K (.tuple #[.agg #[w.v,VI s.2],VB false]) h') (HS:∀s',cA aD s=some s'->∀t h',bR h' (Iv h.size h'.size) t s'.1->Fr No h h'->K (.tuple #[.agg #[t.v,VI s'.2],VB true]) h'):
 aE Tryz.prog 177 #[.agg #[g.v],.agg #[w.v,VI s.2]] h K:=by
 have hp:s.2.toNat<aD.length:=by have:=W.hi;have:=W.lo;omega
 have hr:s.2.toNat<s.1.length:=by rw[W.len];exact hp
 have wj:=W.lo
 refine af8 g w s.2 h K ⟨G.bB W.lo W.hi,fun b1 b2 b3 h3 eD dK iR f3 cF=> ?_⟩
 have f3:=f3.aF
 have l3:b3<h3.size:=cF.head.lt
 have l2:b2<h3.size:=cF.tail.head.lt
 have l1:b1<h3.size:=cF.tail.tail.head.lt
 have s3:=f3.size
 have G3:=G.low.no f3
 obtain⟨si,c1,c2⟩:=G3.get W.lo W.hi
 refine⟨si,c1,fun e h4 f4 dS=> ?_,fun e=> ?_⟩
 ·simp only[decide_eq_true_eq]at e
  have f4:=f4.cB (lo:=h.size) (hi:=h3.size) ⟨⟨iR,l3⟩,trivial⟩
  exact HN (ni W hp (by have:=c2.len;omega)) h4 (f3.aJ f4 (Nat.le_refl _))
 ·simp only[decide_eq_false_iff_not]at e
  have h0:(aD[s.2.toNat]'hp).length≠0:=by have:=c2.len;omega
  have MD:=qS W hp hr h0
  have hm:=Nat.mod_lt ((s.1[s.2.toNat]'hr).toNat+1) (show 0<(aD[s.2.toNat]'hp).length by omega)
  have Vs:=W.P7 _ hr hp
  have aio:=(aT W.bE (List.getElem_mem hp)).1
  have abt:=aO W.bE
  have hw:aL (s.1[s.2.toNat]'hr+1)=s.1[s.2.toNat]'hr+1:=aG _ (by omega) (by omega)
  have JC:Int.tmod (s.1[s.2.toNat]'hr+1) (si.n:Int)=((((s.1[s.2.toNat]'hr).toNat+1)%(aD[s.2.toNat]'hp).length:Nat):Int):=by
   rw[E0 (by omega) (by omega),c2.len]
   congr 2
   omega
  refine pP (H.no f3) (by have:=W.len;omega) _ fun t h5 o5 f5=>⟨t,rfl,cF.aB f5,(H.bB wj (by omega)),fun b4 h7 GF f7 jv=> ?_⟩
  have f7:=f7.aF
  have s5:=f5.size
  have s7:=f7.size
  have l4:b4<h7.size:=jv.head.lt
  have L8:=(f3.aA f5).aA f7
  have H7:=H.no L8
  have o7:=Ow.no o5 f7
  have hn7:t.n=s.1.length:=aQ.len o7.eQ
  refine⟨_,H7.get wj (by omega),by omega,o7.bB wj (by omega),?_⟩
  rw[hw,JC]
  obtain⟨w1,w2,w3⟩:=o7.eX wj (by omega) (VI ((((s.1[s.2.toNat]'hr).toNat+1)%(aD[s.2.toNat]'hp).length:Nat):Int))
  have oL:Fr (Iv h3.size h5.size) h7 _:=w3.mono fun k _ hk=>(o7.aH hk).1
  have fO:=jv.iv oL ⟨.inr GF,.inl l3,.inl l2,.inl l1,trivial⟩
  refine⟨w1,fO,fun h8 e8 _=> ?_⟩
  subst e8
  rw[<-List.map_set]at w2
  have Nq:=((c2.no f5).no f7).fr oL fun k hk aI=>by have:=aI.1;omega
  have hq:=Nq.get (i:=((((s.1[s.2.toNat]'hr).toNat+1)%(aD[s.2.toNat]'hp).length:Nat):Int)) (by omega) (by omega)
  simp only[Int.toNat_natCast]at hq
  refine⟨Nq.bB (by omega) (by omega),_,hq,fun dV f10 dL=> ?_⟩
  have s8:=oL.size
  have e1:Fr No h dV:=by
   refine(L8.aJ oL (by omega)).fresh f10 fun k hk=> ?_
   simp only[In,List.mem_cons,List.not_mem_nil,or_false]at hk
   rcases hk with rfl|rfl<;>omega
  refine HS _ MD t dV ?_ e1
  have s10:=f10.size
  refine(Ow.fr w2 f10 fun k hk aI=> ?_).mono fun k _ hk=>⟨by have:=hk.1;omega,by have:=hk.2;omega⟩
  have:=(o7.aH hk).1
  have h1:=this.1
  have h2:=this.2
  simp only[In,List.mem_cons,List.not_mem_nil,or_false]at aI
  rcases aI with rfl|rfl<;>omega
def bF{τ:Type}(g:List (List Int))(test:τ->St->Bool×τ)(A7:Int):Nat->Int->τ->St->Int×Bool
 |0,_,_,_=>(0,false)
 |f+1,n,t,s=>
  if A7<=n then
   if(test t s).1 then(n,true)
   else match cA g s with
    |none=>(0,false)
    |some s'=>bF g test A7 f (n+1) (test t s).2 s'
  else match cA g s with
   |none=>(0,false)
   |some s'=>bF g test A7 f (n+1) t s'
theorem E2{τ:Type}(test:τ->St->Bool×τ)(C:τ->Heap->Prop){S S' T:Nat->Prop}{h:Heap}{g w:Sl}{aD:List (List Int)}{s:St}(G:bU S h g aD)(H:aQ S' h w s.1)(W:gj aD s)(A7:Int)(so:Value)(t0:τ)(hC0:C t0 h)
 (hT:∀k,T k->k<h.size) (hST:∀k,S k->¬T k) (hC:∀t h1 h2,C t h1->Fr (fun k=>h.size<=k) h1 h2->C t h2)
 (hso:∀t x(s':St) h1(K:Value->Heap->Prop),h.size<=h1.size->C t h1->aQ (fun k=>h.size<=k) h1 x s'.1->gj aD s'->(∀h2,C (test t s').2 h2->Fr T h1 h2->K (VB (test t s').1) h2)->fA Tryz.prog so [.agg #[x.v,VI s'.2]] h1 K)
 (K:Value->Heap->Prop) (HK:∀h',Fr T h h'->K (.tuple #[VI (bF aD test A7 2001 0 t0 s).1,VB (bF aD test A7 2001 0 t0 s).2]) h'):
 aE Tryz.prog 210 #[.agg #[g.v],.agg #[w.v,VI s.2],VI A7,so] h K:=by
 refine v210 g w s.2 A7 so h K fun b1 b2 h2 eD dK f2 bW=> ?_
 generalize hR:bF aD test A7 2001 0 t0 s=R at HK
 have f2:=f2.aF
 have l2:b2<h2.size:=bW.head.lt
 have l1:b1<h2.size:=bW.tail.head.lt
 have z2:=f2.size
 have abt:=aO W.bE
 refine ic (H.no f2) s.2 (by have:=W.len;omega) _ fun u h3 o3 f3=>⟨u,s.2,rfl,bW.aB f3,fun b3 h5 iR f5 gh=> ?_⟩
 have f5:=f5.aF
 have l3:b3<h5.size:=gh.head.lt
 have s3:=f3.size
 have s5:=f5.size
 have pR:=(f2.aA f3).aA f5
 have hub:¬u.own b3:=fun hk=>by have:=(o3.aH hk).2;omega
 have o5:=Ow.no o3 f5
 have hfr:∀{h1 QO:Heap},Fr No h1 QO->Fr (fun k=>h.size<=k) h1 QO:=fun f=>f.aB
 refine⟨fun n i x p h'=>∃(t:τ)(s':St),x=u/\p=s'.2/\0<=i/\i+n=2001/\C t h'/\bR h' (Iv h2.size h5.size) u s'.1/\gj aD s'/\Fr T h h'/\h5.size<=h'.size/\R=bF aD test A7 n i t s',⟨2001,t0,s,rfl,rfl,by omega,by omega,hC _ _ _ hC0 (hfr pR),o5.mono fun k _ hk=>⟨hk.1,Nat.lt_of_lt_of_le hk.2 s5⟩,W,pR.aB,Nat.le_refl _,hR.symm⟩,?_⟩
 rintro n i x p h6 ⟨t,s',rfl,rfl,i0,i1,c6,o6,W6,f6,z6,eq⟩ jG
 --a step,from abu
 have stp:∀(t':τ)(h7:Heap)(m:Nat),n=m+1->C t' h7->bR h7 (Iv h2.size h5.size) x s'.1->Vars h7 [(b3,[x.v,VI s'.2]),(b2,[w.v,VI s.2]),(b1,[g.v])]->Fr T h h7->h5.size<=h7.size->
  (R=match cA aD s' with
   |none=>(0,false)
   |some s2=>bF aD test A7 m (i+1) t' s2)->
  ∀K2:Value->Heap->Prop,(∀h',Fr T h h'->Vars h' [(b3,[x.v,VI s'.2]),(b2,[w.v,VI s.2]),(b1,[g.v])]->R=(0,false)->K2 (VB false) h')->(∀s2 h',C t' h'->bR h' (Iv h2.size h5.size) x s2.1->gj aD s2->Vars h' [(b3,[x.v,VI s2.2]),(b2,[w.v,VI s.2]),(b1,[g.v])]->Fr T h h'->h5.size<=h'.size->R=bF aD test A7 m (i+1) t' s2->K2 (VB true) h')->
  aE Tryz.prog 254 #[.agg #[g.v],VP b3 0] h7 K2:=by
  intro t' h7 m hn c7 o7 jv f7 z7 e7 K2 k1 k2
  have G7:bU (Iv 0 h2.size) h7 g aD:=(G.xd.fr f7 fun k hk aI=>hST k hk.1 aI).mono fun k hk=>⟨Nat.zero_le _,by have:=hk.2;omega⟩
  refine Vu G7 jv.head o7 (by omega) l3 hub W6 K2 (fun hs h8 f8=> ?_) fun s2 hs h8 o8 v8 f8=> ?_
  ·rw[hs]at e7
   exact k1 h8 (f7.trans f8.aB) (jv.aB f8) e7
  ·rw[hs]at e7
   refine k2 s2 h8 (hC _ _ _ c7 (f8.mono fun k _ hk=>Nat.le_trans z2 hk.1)) o8 (W6.step hs) (.cons v8 ?_ (jv.tail.iv f8 ⟨.inl l2,.inl l1,trivial⟩)) (f7.BV f8 fun k hk=>Nat.le_trans z2 hk.1) (Nat.le_trans z7 f8.size) e7
   intro p hp
   simp only[List.mem_cons,List.not_mem_nil,or_false]at hp
   rcases hp with rfl|rfl<;>(simp only;omega)
 refine⟨fun e=>⟨fun e2=> ?_,fun e2=> ?_⟩,fun e=> ?_⟩
 ·simp only[decide_eq_true_eq]at e e2
  obtain⟨m,rfl⟩:∃m,n=m+1:=⟨n-1,by omega⟩
  rw[bF,if_pos e2]at eq
  refine hso t x s' h6 _ (by omega) c6 (o6.tm.mono fun k hk=>Nat.le_trans z2 hk.1) W6 fun h7 c7 f7=> ?_
  have jv:=jG.fr f7 fun p hp=>by
   simp only[List.mem_cons,List.not_mem_nil,or_false]at hp
   rcases hp with rfl|rfl|rfl<;>exact fun hk=>by have:=hT _ hk;simp only at this;omega
  refine⟨_,rfl,jv,fun e3=> ?_,fun e3=> ?_⟩
  ·rw[if_pos e3]at eq
   rw[eq]at HK
   exact HK h7 (f6.trans f7)
  ·rw[if_neg (by simp[e3])]at eq
   refine stp _ h7 m rfl c7 (Ow.fr o6 f7 fun k hk aI=>by have:=hT _ aI;have:=(o6.aH hk).1.1;omega) jv (f6.trans f7) (Nat.le_trans z6 f7.size) eq _ (fun h8 f8 fO e8=> ?_) fun s2 h8 c8 o8 W8 fO f8 z8 e8=> ?_
   ·refine⟨x,s'.2,_,rfl,fO,fun _=> ?_,fun e=>by simp at e⟩
    rw[e8]at HK
    exact HK h8 f8
   ·refine⟨x,s2.2,_,rfl,fO,fun e=>by simp at e,fun _=> ?_⟩
    rw[aG (i+1) (by omega) (by omega)]
    exact⟨m,by omega,_,s2,rfl,rfl,by omega,by omega,c8,o8,W8,f8,z8,e8⟩
 ·simp only[decide_eq_true_eq]at e
  simp only[decide_eq_false_iff_not]at e2
  obtain⟨m,rfl⟩:∃m,n=m+1:=⟨n-1,by omega⟩
  rw[bF,if_neg e2]at eq
  refine stp _ h6 m rfl c6 o6 jG f6 z6 eq _ (fun h8 f8 fO e8=> ?_) fun s2 h8 c8 o8 W8 fO f8 z8 e8=> ?_
  ·refine⟨x,s'.2,_,rfl,fO,fun _=> ?_,fun e=>by simp at e⟩
   rw[e8]at HK
   exact HK h8 f8
  ·refine⟨x,s2.2,_,rfl,fO,fun e=>by simp at e,fun _=> ?_⟩
   rw[aG (i+1) (by omega) (by omega)]
   exact⟨m,by omega,_,s2,rfl,rfl,by omega,by omega,c8,o8,W8,f8,z8,e8⟩
 ·simp only[decide_eq_false_iff_not]at e
  obtain rfl:n=0:=by omega
  rw[eq]at HK
  exact HK h6 f6
def nj(g:List (List Int))(rs:List Int)(p q:Int):Int×Bool:=
 if eW g rs p&&(aM g&&iq 0 ((g.length:Int)-1) q)then bF g (fun(_:Unit) s=>(decide (s.2=q),())) 0 2001 0 () (rs,p)else(0,false)
theorem JG{S:Nat->Prop}{h:Heap}{s:Sl}{xs:List Int}(H:aQ S h s xs){b:Nat}(hb:h.size<=b):aQ (fun k=>k≠b) h s xs:=H.low.mono fun k hk=>by omega
theorem Vv{h:Heap}{b:Nat}{q:Int}(V:dC h b [VI q])(x:Sl)(p:Int)(K:Value->Heap->Prop)(HK:∀h',dC h' b [VI q]->Fr No h h'->K (VB (decide (p=q))) h'):fA Tryz.prog (.func (.func 211) #[] #[VP b 0]) [.agg #[x.v,VI p]] h K:=by
 refine agU x p b q h K (.cons V (by simp) .nil) fun b2 h2 dK f2 bW=> ?_
 exact HK h2 bW.tail.head f2.aF
theorem K3{S S':Nat->Prop}{h:Heap}{g w:Sl}{aD:List (List Int)}{rs:List Int}(G:bU S h g aD)(H:aQ S' h w rs)(p q:Int)(K:Value->Heap->Prop)(HK:∀h',Fr No h h'->K (.tuple #[VI (nj aD rs p q).1,VB (nj aD rs p q).2]) h'):aE Tryz.prog 164 #[.agg #[g.v],.agg #[w.v,VI p],VI q] h K:=by
 refine v164 g w p q h K fun b1 b2 b3 h3 eD dK iR f3 cF=> ?_
 have f3:=f3.aF
 refine r8 (G.no f3) (H.no f3) p _ fun h4 f4=>⟨_,rfl,cF.aB f4,fun e=> ?_,fun e=> ?_⟩
 ·have e2:nj aD rs p q=(0,false):=by unfold nj;rw[if_neg (by rw[bD e];simp)]
  rw[e2]at HK
  exact HK h4 (f3.aA f4)
 have e:=aZ e
 have dS:=cF.aB f4
 have jx:=f3.aA f4
 refine aP fx (fun k=>h4.size<=k) (fun _ h=>h) 1 (by omega) [VI q] rfl rfl fun t h5 n5 c5 o5 f5 m5 _=>⟨t,rfl,dS.aB f5,?_⟩
 have o5:aQ (fun k=>h4.size<=k) h5 t [q]:=o5.eQ
 have gh:=dS.aB f5
 have pR:=jx.aA f5
 refine rZ (G.no pR) o5 _ fun h6 f6=>⟨_,rfl,gh.aB f6,fun e1=> ?_,fun e1=> ?_⟩
 all_goals simp only[List.all_cons,List.all_nil,Bool.and_true]at e1
 ·have e2:nj aD rs p q=(0,false):=by unfold nj;rw[if_neg (by rw[e,bD e1];simp)]
  rw[e2]at HK
  exact HK h6 (pR.aA f6)
 have e1:=aZ e1
 have e2:nj aD rs p q=bF aD (fun(_:Unit) s=>(decide (s.2=q),())) 0 2001 0 () (rs,p):=by unfold nj;rw[if_pos (by rw[e,e1];rfl)]
 rw[e2]at HK
 have jG:=gh.aB f6
 have xF:=pR.aA f6
 have Vw:=jG.head.lt
 refine E2 (S:=S) (T:=No) (s:=(rs,p)) (fun(_:Unit)(s:St)=>(decide (s.2=q),())) (fun _ h'=>dC h' b3 [VI q]/\Fr No h6 h') (G.no xF) (H.no xF) (cV e) 0 _ () ⟨jG.head,Fr.refl _ _⟩ (fun _ h=>h.elim) (fun _ _ h=>h) (fun _ h1 h2 c f=>⟨c.1.fr f (by omega),c.2.fresh f fun k hk=>hk⟩) (fun t x s' h1 K z1 c1 r1 W1 HK=>Vv c1.1 x s'.2 K fun h2 v2 f2=>HK h2 ⟨v2,c1.2.trans f2⟩ f2) _ fun h7 f7=>⟨_,_,_,rfl,jG.aB f7,HK h7 (xF.aA f7)⟩
theorem xG{S S':Nat->Prop}{h:Heap}{g w:Sl}{aD:List (List Int)}{rs:List Int}(G:bU S h g aD)(H:aQ S' h w rs)(p q:Int)(K:Value->Heap->Prop)(HK:∀h',Fr No h h'->K (.tuple #[VI (nj aD rs p q).1,VB (nj aD rs p q).2]) h'):aE Tryz.prog 135 #[.agg #[g.v],.agg #[w.v,VI p],VI q] h K:=by
 refine afl g w p q h K fun b1 b2 h2 eD dK f2 bW=> ?_
 have f2:=f2.aF
 have l2:b2<h2.size:=bW.head.lt
 refine fh (G.no f2) (H.no f2) p _ fun h3 f3=>⟨_,rfl,bW.aB f3,fun e=> ?_,fun e=> ?_⟩
 ·have e2:nj aD rs p q=(0,false):=by unfold nj;rw[if_neg (by rw[bD e];simp)]
  rw[e2]at HK
  exact HK h3 (f2.aA f3)
 have e:=aZ e
 have cF:=bW.aB f3
 have gq:=f2.aA f3
 refine cQ (G.no gq) q _ fun h4 f4=>⟨_,rfl,cF.aB f4,fun e1=> ?_,fun e1=> ?_⟩
 ·have e2:nj aD rs p q=(0,false):=by unfold nj;rw[if_neg (by rw[e,bD e1];simp)]
  rw[e2]at HK
  exact HK h4 (gq.aA f4)
 have e1:=aZ e1
 have e2:nj aD rs p q=bF aD (fun(_:Unit) s=>(decide (s.2=q),())) 0 2001 0 () (rs,p):=by unfold nj;rw[if_pos (by rw[e,e1];rfl)]
 rw[e2]at HK
 generalize hR:bF aD (fun(_:Unit)(s:St)=>(decide (s.2=q),())) 0 2001 0 () (rs,p)=R at HK
 have jx:=gq.aA f4
 have z4:=jx.size
 refine⟨fun n i x y h'=>∃s':St,y=s'.2/\0<=i/\i+n=2001/\aQ (fun k=>k≠b2) h' x s'.1/\gj aD s'/\Fr No h h'/\h2.size<=h'.size/\R=bF aD (fun(_:Unit)(s:St)=>(decide (s.2=q),())) 0 n i () s',⟨2001,(rs,p),rfl,by omega,by omega,(JG H dK).no jx,cV e,jx,by have:=f3.size;have:=f4.size;omega,hR.symm⟩,?_⟩
 rintro n i x y h5 ⟨s',rfl,i0,i1,r5,W5,f5,z5,eq⟩ gh
 refine⟨fun e3=>⟨fun e4=> ?_,fun e4=> ?_⟩,fun e3=> ?_⟩
 ·simp only[decide_eq_true_eq]at e3
  obtain⟨m,rfl⟩:∃m,n=m+1:=⟨n-1,by omega⟩
  rw[bF,if_pos i0]at eq
  simp only[e4,if_true]at eq
  rw[eq]at HK
  exact HK h5 f5
 ·simp only[decide_eq_true_eq]at e3
  obtain⟨m,rfl⟩:∃m,n=m+1:=⟨n-1,by omega⟩
  rw[bF,if_pos i0]at eq
  simp only[e4]at eq
  refine oM (G.no f5) r5 W5 _ (fun hs h6 f6=>⟨x,s'.2,false,rfl,gh.aB f6,fun _ b3 h8 iR f8 fO=> ?_,fun e=>by simp at e⟩) fun s2 hs t h6 o6 f6=>⟨t,s2.2,true,rfl,gh.aB f6,fun e=>by simp at e,fun _ b3 h9 iR f9 fP=> ?_⟩
  ·rw[hs]at eq
   simp only[Bool.false_eq_true,if_false]at eq
   rw[eq]at HK
   exact HK h8 ((f5.aA f6).aA f8.aF)
  ·rw[hs]at eq
   simp only[Bool.false_eq_true,if_false]at eq
   rw[aG (i+1) (by omega) (by omega)]
   refine⟨m,by omega,s2,rfl,by omega,by omega,?_,W5.step hs,(f5.aA f6).fresh f9 (fun k hk=> ?_),by have:=f6.size;have:=f9.size;omega,eq⟩
   ·refine(aQ.fr (o6.tm) f9 fun k hk aI=> ?_).mono fun k hk=> ?_
    ·simp only[In,List.mem_cons,List.not_mem_nil,or_false]at aI
     have:=hk.1
     omega
    ·have:=hk.1
     omega
   ·simp only[In,List.mem_cons,List.not_mem_nil,or_false]at hk
    omega
 ·simp only[decide_eq_false_iff_not]at e3
  obtain rfl:n=0:=by omega
  rw[eq]at HK
  exact HK h5 f5
theorem xH{S S':Nat->Prop}{h:Heap}{a b:Sl}{xs ys:List Int}(H:aQ S h a xs)(H':aQ S' h b ys)(p q:Int):vf Tryz.prog 226 #[.agg #[a.v,VI p],.agg #[b.v,VI q]] h (VB (decide (p=q/\xs=ys))):=by
 intro K HK
 refine v226 a p b q h K ⟨fun e b1 b2 h2 eD dK f2 bW=> ?_,fun e=>⟨fun e1 b1 b2 h2 eD dK f2 bW=> ?_,fun e1 b1 b2 h2 eD dK f2 bW=> ?_⟩⟩
 ·have e:=bD e
  simp only[decide_eq_false_iff_not]at e
  rw[decide_eq_false (fun e2=>e e2.1)]at HK
  exact HK _ f2.aF
 ·have e1:=bD e1
  rw[H.len,H'.len]at e1
  simp only[decide_eq_false_iff_not]at e1
  rw[decide_eq_false (fun e2=>e1 (by rw[e2.2]))]at HK
  exact HK _ f2.aF
 ·have e:=aZ e
  simp only[decide_eq_true_eq]at e
  have e1:=aZ e1
  rw[H.len,H'.len]at e1
  have hl:xs.length=ys.length:=by simp at e1;omega
  have f2:=f2.aF
  have H2:=H.no f2
  have H2':=H'.no f2
  have HK2:=HK _ f2
  have e2:decide (p=q/\xs=ys)=decide (xs=ys):=by simp[e]
  rw[e2]at HK2
  refine⟨fun n i h'=>h'=h2/\0<=i/\i+n=(xs.length:Int)/\decide (xs=ys)=decide (xs.drop i.toNat=ys.drop i.toNat),⟨xs.length,rfl,by omega,by omega,by simp⟩,?_⟩
  rintro n i hh ⟨rfl,h0,h1,h3⟩ hL
  refine⟨fun e=> ?_,fun e=> ?_⟩
  ·have hi:=H2.lt e
   have iG:i<(ys.length:Int):=by omega
   refine⟨H2.bB h0 hi,_,H2.get h0 hi,H2'.bB h0 iG,_,H2'.get h0 iG,fun e=> ?_,fun e=> ?_⟩
   ·rw[drop_cons xs h0 hi,drop_cons ys h0 iG]at h3
    have e3:=bD e
    simp only[decide_eq_false_iff_not]at e3
    rw[h3,decide_eq_false (fun e4=>e3 (List.cons.inj e4).1)]at HK2
    exact HK2
   ·rw[drop_cons xs h0 hi,drop_cons ys h0 iG]at h3
    have e3:=aZ e
    simp only[decide_eq_true_eq]at e3
    rw[H2.succ h0 hi]
    refine⟨n-1,by omega,rfl,by omega,by omega,h3.trans ?_⟩
    rw[e3]
    simp
  ·have hi:=H2.ge e
   rw[List.drop_of_length_le (by omega),List.drop_of_length_le (by omega)]at h3
   rw[h3]at HK2
   exact HK2
def jH(rs:List Int)(p:Int)(_:Unit)(s:St):Bool×Unit:=(decide (p=s.2/\rs=s.1),())
theorem K4{S S':Nat->Prop}{h:Heap}{g w:Sl}{aD:List (List Int)}{rs:List Int}(G:bU S h g aD)(H:aQ S' h w rs)(p:Int)(W:gj aD (rs,p))(K:Value->Heap->Prop)(HK:∀h',Fr No h h'->K (VI (bF aD (jH rs p) 1 2001 0 () (rs,p)).1) h'):aE Tryz.prog 227 #[.agg #[g.v],.agg #[w.v,VI p],VI 2000] h K:=by
 refine v227 g w p 2000 h K fun b1 b2 b3 h4 eD dK iR f4 dS=> ?_
 have f4:=f4.aF
 have l3:b3<h4.size:=dS.head.lt
 have z4:=f4.size
 have hR0:bF aD (jH rs p) 1 2001 0 () (rs,p)=match cA aD (rs,p)with
  |none=>(0,false)
  |some s'=>bF aD (jH rs p) 1 2000 1 () s':=by rw[bF,if_neg (by omega)];rfl
 generalize hR:bF aD (jH rs p) 1 2001 0 () (rs,p)=R at HK
 rw[hR]at hR0
 refine⟨fun n i x y h'=>∃s':St,y=s'.2/\1<=i/\i+n=2001/\aQ (fun k=>k≠b3) h' x s'.1/\gj aD s'/\Fr No h h'/\h4.size<=h'.size/\R=(match cA aD s' with
  |none=>(0,false)
  |some s2=>bF aD (jH rs p) 1 n i () s2),⟨2000,(rs,p),rfl,by omega,by omega,(JG H iR).no f4,W,f4,Nat.le_refl _,hR0⟩,?_⟩
 rintro n i x y h5 ⟨s',rfl,i0,i1,r5,W5,f5,z5,eq⟩ gh
 refine⟨fun e3=> ?_,fun e3=> ?_⟩
 ·simp only[decide_eq_true_eq]at e3
  obtain⟨m,rfl⟩:∃m,n=m+1:=⟨n-1,by omega⟩
  refine oM (G.no f5) r5 W5 _ (fun hs h6 f6=>⟨x,s'.2,false,rfl,gh.aB f6,fun _ b4 h8 GF f8 fO=> ?_,fun e=>by simp at e⟩) fun s2 hs t h6 o6 f6=>⟨t,s2.2,true,rfl,gh.aB f6,fun e=>by simp at e,fun _ b4 h9 GF f9 fP=> ?_⟩
  ·rw[hs]at eq
   simp only at eq
   rw[eq]at HK
   exact HK h8 ((f5.aA f6).aA f8.aF)
  ·rw[hs]at eq
   simp only at eq
   rw[bF,if_pos i0]at eq
   have z6:=f6.size
   have z9:=f9.size
   have aiq:∀k,In [b3] k->h.size<=k:=fun k hk=>by simp only[In,List.mem_cons,List.not_mem_nil,or_false]at hk;omega
   have P8:=(f5.aA f6).fresh f9 aiq
   have r9:aQ (fun k=>k≠b3) h9 t s2.1:=(aQ.fr (o6.tm) f9 fun k hk aI=>by
    simp only[In,List.mem_cons,List.not_mem_nil,or_false]at aI
    have:=hk.1
    omega).mono fun k hk=>by have:=hk.1;omega
   refine xH r9 (H.no P8) s2.2 p _ fun dV f10=>⟨_,rfl,fP.aB f10,fun e=> ?_,fun e=> ?_⟩
   ·have e1:(jH rs p () s2).1=true:=by
     simp only[decide_eq_true_eq]at e
     simp[jH,e.1,e.2]
    rw[if_pos e1]at eq
    rw[eq]at HK
    exact HK dV (P8.aA f10)
   ·have e1:¬(jH rs p () s2).1=true:=by
     simp only[decide_eq_false_iff_not]at e
     simp only[jH,decide_eq_true_eq]
     exact fun h=>e ⟨h.1.symm,h.2.symm⟩
    rw[if_neg e1]at eq
    rw[aG (i+1) (by omega) (by omega)]
    exact⟨m,by omega,s2,rfl,by omega,by omega,r9.no f10,W5.step hs,P8.aA f10,by have:=f10.size;omega,eq⟩
 ·simp only[decide_eq_false_iff_not]at e3
  obtain rfl:n=0:=by omega
  have:R=(0,false):=by
   rw[eq]
   split
   ·rfl
   ·rw[bF]
  rw[this]at HK
  exact HK h5 f5
def runT{τ:Type}(g:List (List Int))(wk:τ->St->St->τ):Nat->τ->St->Option (τ×St)
 |0,t,s=>some (t,s)
 |n+1,t,s=>match cA g s with
  |none=>none
  |some s'=>runT g wk n (wk t s s') s'
theorem A8{τ:Type}{g:List (List Int)}{wk:τ->St->St->τ}{s'':St}:∀(n:Nat)(t:τ)(s:St)(t':τ)(s':St),runT g wk n t s=some (t',s')->cA g s'=some s''->runT g wk (n+1) t s=some (wk t' s' s'',s'')
 |0,t,s,t',s',h,hs=>by
  simp only[runT,Option.some.injEq,Prod.mk.injEq]at h
  obtain⟨rfl,rfl⟩:=h
  rw[runT,hs]
  rfl
 |n+1,t,s,t',s',h,hs=>by
  rw[runT]at h
  rw[runT]
  split at h
  ·cases h
  ·rename_i s2 h2
   exact A8 n _ _ _ _ h hs
theorem Nu{τ:Type}(wk:τ->St->St->τ)(C:Nat->τ->Heap->Prop)(T0:Nat->Prop){F S:Nat->Prop}{b:Nat}{h:Heap}{g w:Sl}{aD:List (List Int)}{s0:St}(G:bU S h g aD)(V:dC h b [w.v,VI s0.2])(H:bR h F w s0.1)(hS:∀k,S k->¬F k/\¬T0 k)(hFb:F b)(GN:¬w.own b)(W:gj aD s0)(n:Int)(hn0:0<=n)(hn1:n<=1000000)(wt:Value)(t0:τ)
 (hF:∀k,F k->k<h.size) (hT0:∀k,T0 k->¬F k/\k<h.size) (hC0:∀N,h.size<=N->C N t0 h) (hC:∀N t h1 h2(U:Nat->Prop),C N t h1->Fr U h1 h2->(∀k,U k->¬T0 k/\k<N)->C N t h2)
 (hw:∀N t s s' h1(K:Value->Heap->Prop),h.size<=N->N<=h1.size->C N t h1->dC h1 b [w.v,VI s'.2]->bR h1 F w s'.1->gj aD s->cA aD s=some s'->(∃m:Nat,(m:Int)<n/\runT aD wk m t0 s0=some (t,s))->(∀h2 v,C N (wk t s s') h2->Fr (fun k=>T0 k\/N<=k) h1 h2->K v h2)->fA Tryz.prog wt [VI s.2] h1 K)
 (K:Value->Heap->Prop)
 (HN:runT aD wk n.toNat t0 s0=none->∀N t' h' p,h.size<=N->C N t' h'->dC h' b [w.v,VI p]->Fr (fun k=>F k\/T0 k) h h'->K (VB false) h')
 (HS:∀t' s',runT aD wk n.toNat t0 s0=some (t',s')->∀N h',h.size<=N->C N t' h'->bR h' F w s'.1->gj aD s'->dC h' b [w.v,VI s'.2]->Fr (fun k=>F k\/T0 k) h h'->K (VB true) h'):
 aE Tryz.prog 206 #[.agg #[g.v],VP b 0,VI n,wt] h K:=by
 have hbl:=V.lt
 refine v206 g b w s0.2 n wt h K (.cons V (by simp) .nil) fun b2 h1 dK f1 bY=> ?_
 have f1:=f1.aF
 have l2:b2<h1.size:=bY.head.lt
 have z1:=f1.size
 have JH:∀k,F k->¬T0 k:=fun k hk aI=>(hT0 k aI).1 hk
 refine⟨fun m i x p h'=>∃(t:τ)(s':St),x=w/\p=s'.2/\0<=i/\i+m=n/\C h1.size t h'/\bR h' F w s'.1/\gj aD s'/\Fr (fun k=>F k\/T0 k) h h'/\h1.size<=h'.size/\runT aD wk i.toNat t0 s0=some (t,s')/\runT aD wk n.toNat t0 s0=runT aD wk m t s',⟨n.toNat,t0,s0,rfl,rfl,by omega,by omega,hC _ _ _ _ _ (hC0 _ z1) f1 (fun k hk=>hk.elim),Ow.no H f1,W,f1.aB,Nat.le_refl _,rfl,rfl⟩,?_⟩
 rintro m i x p h2 ⟨t,s',rfl,rfl,i0,i1,c2,o2,W2,f2,z2,hm,eq⟩ bW
 refine⟨fun e=> ?_,fun e=> ?_⟩
 ·simp only[decide_eq_true_eq]at e
  obtain⟨m,rfl⟩:∃q,m=q+1:=⟨m-1,by omega⟩
  rw[runT]at eq
  have G2:bU S h2 g aD:=G.fr f2 fun k hk aI=>by
   rcases aI with aI|aI
   ·exact(hS k hk).1 aI
   ·exact(hS k hk).2 aI
  refine Cr G2 bW.tail.head o2 (fun k hk=>(hS k hk).1) hFb GN W2 _ (fun hs h3 f3=> ?_) fun s3 hs h3 o3 v3 f3=> ?_
  ·rw[hs]at eq
   have cF:=bW.aB f3
   exact⟨x,s'.2,_,rfl,cF,fun _=>HN eq _ _ h3 _ z1 (hC _ _ _ _ _ c2 f3 fun k hk=>hk.elim) cF.tail.head (f2.trans f3.aB),fun e=>by simp at e⟩
  ·rw[hs]at eq
   have cF:Vars h3 [(b2,[g.v]),(b,[x.v,VI s3.2])]:= .cons (bW.head.fr f3 fun hk=>by have:=hF _ hk;omega) (fun p hp=>by simp only[List.mem_cons,List.not_mem_nil,or_false]at hp;subst hp;simp only;omega) (.cons v3 (by simp) .nil)
   have c3:=hC _ _ _ _ _ c2 f3 fun k hk=>⟨JH k hk,by have:=hF k hk;omega⟩
   have z3:=f3.size
   refine⟨x,s3.2,_,rfl,cF,fun e=>by simp at e,fun _=> ?_⟩
   refine hw h1.size t s' s3 h3 _ z1 (by omega) c3 v3 o3 W2 hs ⟨i.toNat,by omega,hm⟩ fun h4 v c4 f4=> ?_
   have dS:Vars h4 [(b2,[g.v]),(b,[x.v,VI s3.2])]:=cF.fr f4 fun p hp hk=>by
    simp only[List.mem_cons,List.not_mem_nil,or_false]at hp
    rcases hp with rfl|rfl<;>simp only at hk
    ·rcases hk with hk|hk
     ·have:=(hT0 _ hk).2;omega
     ·omega
    ·rcases hk with hk|hk
     ·exact(hT0 _ hk).1 hFb
     ·have:=hF _ hFb;omega
   rw[aG (i+1) (by omega) (by omega)]
   refine⟨dS,m,by omega,_,s3,rfl,rfl,by omega,by omega,c4,Ow.fr o3 f4 fun k hk aI=> ?_,W2.step hs,?_,by have:=f4.size;omega,by rw[qL i0];exact A8 _ _ _ _ _ hm hs,eq⟩
   ·have h5:=(o3.aH hk).1
    rcases aI with aI|aI
    ·exact(hT0 _ aI).1 h5
    ·have:=hF _ h5;omega
   ·refine⟨by have:=f2.size;have:=f4.size;omega,fun k hk ht=> ?_⟩
    rw[f4.same k (by have:=f2.size;omega) fun h=>by
     rcases h with h|h
     ·exact ht (.inr h)
     ·omega]
    rw[f3.same k (by have:=f2.size;omega) fun h=>ht (.inl h)]
    exact f2.same k hk ht
 ·simp only[decide_eq_false_iff_not]at e
  obtain rfl:m=0:=by omega
  rw[runT]at eq
  exact HS t s' eq h1.size h2 z1 c2 o2 W2 bW.tail.head f2
theorem Cs{S S':Nat->Prop}{h:Heap}{g s:Sl}{aD:List (List Int)}{rs:List Int}(G:bU S h g aD)(H:aQ S' h s rs)(p n most:Int):vf Tryz.prog 205 #[.agg #[g.v],.agg #[s.v,VI p],VI n,VI most] h (VB (eW aD rs p&&iq 0 most n)):=by
 intro K HK
 refine agL g s p n most h K fun b1 b2 h2 eD dK f2 bW=> ?_
 have f2:=f2.aF
 refine r8 (G.no f2) (H.no f2) p _ fun h3 f3=>⟨_,rfl,bW.aB f3,fun e=> ?_,fun e=> ?_⟩
 ·rw[e,Bool.true_and]at HK
  exact eJ _ _ _ _ _ ⟨_,rfl,bW.aB f3,HK _ (f2.aA f3)⟩
 ·rw[e,Bool.false_and]at HK
  exact HK _ (f2.aA f3)
theorem A9{S S':Nat->Prop}{h:Heap}{g s:Sl}{aD:List (List Int)}{rs:List Int}(G:bU S h g aD)(H:aQ S' h s rs)(p n:Int):vf Tryz.prog 178 #[.agg #[g.v],.agg #[s.v,VI p],VI n] h (VB (eW aD rs p&&iq 0 2000 n)):=by
 intro K HK
 refine aga g s p n h K fun b1 b2 h2 eD dK f2 bW=> ?_
 have f2:=f2.aF
 refine fh (G.no f2) (H.no f2) p _ fun h3 f3=>⟨_,rfl,bW.aB f3,fun e=> ?_,fun e=> ?_⟩
 ·rw[e,Bool.true_and]at HK
  exact cY _ _ _ _ _ ⟨_,rfl,bW.aB f3,HK _ (f2.aA f3)⟩
 ·rw[e,Bool.false_and]at HK
  exact HK _ (f2.aA f3)
def dH(g:List (List Int))(rs:List Int)(p n:Int):St×Bool:=
 if eW g rs p&&iq 0 2000 n then match runT g (fun(_:Unit) _ _=>()) n.toNat () (rs,p)with
  |none=>(([],0),false)
  |some (_,s)=>(s,true)
 else(([],0),false)
theorem JI{τ:Type}{g:List (List Int)}{wk:τ->St->St->τ}:∀(n:Nat)(t:τ)(s:St),gj g s->∀t' s',runT g wk n t s=some (t',s')->gj g s'
 |0,t,s,W,t',s',h=>by
  simp only[runT,Option.some.injEq,Prod.mk.injEq]at h
  rw[<-h.2];exact W
 |n+1,t,s,W,t',s',h=>by
  rw[runT]at h
  split at h
  ·cases h
  ·rename_i s2 hs
   exact JI n _ s2 (W.step hs) t' s' h
theorem JJ{S S':Nat->Prop}{h:Heap}{g w:Sl}{aD:List (List Int)}{rs:List Int}(G:bU S h g aD)(H:aQ S' h w rs)(p n:Int)(K:Value->Heap->Prop)(HK:∀t h',bR h' (Iv h.size h'.size) t (dH aD rs p n).1.1->Fr No h h'->K (.tuple #[.agg #[t.v,VI (dH aD rs p n).1.2],VB (dH aD rs p n).2]) h'):aE Tryz.prog 161 #[.agg #[g.v],.agg #[w.v,VI p],VI n] h K:=by
 refine afM g w p n h K fun b1 b2 b3 h3 eD dK iR f3 cF=> ?_
 have f3:=f3.aF
 have l3:b3<h3.size:=cF.head.lt
 have l2:b2<h3.size:=cF.tail.head.lt
 have l1:b1<h3.size:=cF.tail.tail.head.lt
 have z3:=f3.size
 refine Cs (G.no f3) (H.no f3) p n 2000 _ fun h4 f4=>⟨_,rfl,cF.aB f4,fun e h5 f5 gh=> ?_,fun e=> ?_⟩
 ·have e2:dH aD rs p n=(([],0),false):=by unfold dH;rw[if_neg (by rw[bD e];simp)]
  have f5:=f5.cB (lo:=h.size) (hi:=h3.size) ⟨⟨iR,l3⟩,trivial⟩
  have:=HK aC h5 (by rw[e2];exact Ow.nil _ _ _ _) ((f3.aA f4).aJ f5 (Nat.le_refl _))
  rw[e2]at this
  exact this
 have e:=aZ e
 have e2:dH aD rs p n=match runT aD (fun(_:Unit) _ _=>()) n.toNat () (rs,p)with
  |none=>(([],0),false)
  |some (_,s)=>(s,true):=by unfold dH;rw[if_pos e]
 rw[Bool.and_eq_true,aX]at e
 have W:=cV e.1
 have Rb:=aO W.bE
 have dS:=cF.aB f4
 have z4:=f4.size
 have jx:=f3.aA f4
 refine ic (H.no jx) p (by have:=W.len;simp only at this;omega) _ fun u h6 o6 f6=>⟨u,p,rfl,dS.aB f6,fun b4 h8 GF f8 fO=> ?_⟩
 have f8:=f8.aF
 have z6:=f6.size
 have z8:=f8.size
 have l4:b4<h8.size:=fO.head.lt
 have f48:=f6.aA f8
 have G8:bU (Iv 0 h4.size) h8 g aD:=(G.no jx).fV.no f48
 have o8:bR h8 (Iv h4.size h8.size) u rs:=(Ow.no o6 f8).mono fun k _ hk=>⟨hk.1,by have:=hk.2;omega⟩
 have hub:¬u.own b4:=fun hk=>by have:=(o6.aH hk).2;omega
 have fT:∀{x y:Heap},Fr (fun k=>Iv h4.size h8.size k\/False) x y->Fr (Iv h4.size h8.size) x y:=fun f=>f.mono fun k _ hk=>by rcases hk with hk|hk;exact hk;exact hk.elim
 refine Nu (s0:=(rs,p)) (fun(_:Unit) _ _=>()) (fun _ _ _=>True) (fun _=>False) G8 fO.head o8 (fun k hk=>⟨fun aI=>by have:=hk.2;have:=aI.1;omega,fun h=>h⟩) ⟨by omega,l4⟩ hub W n (by omega) (by omega) _ () (fun k hk=>hk.2) (fun k hk=>hk.elim) (fun _ _=>trivial) (fun _ _ _ _ _ _ _ _=>trivial) (fun N t s s' h1 K hN hN2 _ V O W hs _ HK=> ?_) _ (fun hr N t h9 q hN _ v9 f9=> ?_) fun t' s' hr N h9 hN _ o9 W9 v9 f9=> ?_
 ·refine agO s.2 h1 K ?_
  exact HK h1 _ trivial (Fr.refl _ _)
 ·have f9:=fT f9
  have fP:Vars h9 [(b4,[u.v,VI q]),(b3,[aC.v,VI 0]),(b2,[w.v,VI p]),(b1,[g.v])]:= .cons v9 fO.ne (fO.tail.iv f9 ⟨.inl (by omega),.inl (by omega),.inl (by omega),trivial⟩)
  refine⟨u,q,_,rfl,fP,fun _ dV f10 dL=> ?_,fun e=>by simp at e⟩
  have f10:=f10.cB (lo:=h.size) (hi:=h3.size) ⟨⟨iR,l3⟩,trivial⟩
  rw[hr]at e2
  have:=HK aC dV (by rw[e2];exact Ow.nil _ _ _ _) (((jx.aA f48).aJ f9 (by omega)).aJ f10 (Nat.le_refl _))
  rw[e2]at this
  exact this
 ·have f9:=fT f9
  have fP:Vars h9 [(b4,[u.v,VI s'.2]),(b3,[aC.v,VI 0]),(b2,[w.v,VI p]),(b1,[g.v])]:= .cons v9 fO.ne (fO.tail.iv f9 ⟨.inl (by omega),.inl (by omega),.inl (by omega),trivial⟩)
  refine⟨u,s'.2,_,rfl,fP,fun e=>by simp at e,fun _ dV f10 dL=> ?_⟩
  have f10:=f10.cB (lo:=h.size) (hi:=h3.size) ⟨⟨iR,l3⟩,trivial⟩
  rw[hr]at e2
  have z9:=f9.size
  have zV:=f10.size
  have:=HK u dV (by rw[e2];exact(Ow.iv o9 f10 (.inr (by omega))).mono fun k _ hk=>⟨by have:=hk.1;omega,by have:=hk.2;omega⟩) (((jx.aA f48).aJ f9 (by omega)).aJ f10 (Nat.le_refl _))
  rw[e2]at this
  exact this
theorem Nv{S S':Nat->Prop}{h:Heap}{g w:Sl}{aD:List (List Int)}{rs:List Int}(G:bU S h g aD)(H:aQ S' h w rs)(p:Int)(K:Value->Heap->Prop)(HK:∀t h',bR h' (Iv h.size h'.size) t (dH aD rs p 1).1.1->Fr No h h'->K (.tuple #[.agg #[t.v,VI (dH aD rs p 1).1.2],VB (dH aD rs p 1).2]) h'):aE Tryz.prog 156 #[.agg #[g.v],.agg #[w.v,VI p]] h K:=by
 refine afF g w p h K fun b1 b2 b3 h3 eD dK iR f3 cF=> ?_
 have f3:=f3.aF
 have l3:b3<h3.size:=cF.head.lt
 have z3:=f3.size
 refine JJ (G.no f3) (H.no f3) p 1 _ fun t h4 o4 f4=>⟨t,_,_,rfl,cF.aB f4,fun h5 f5 gh=> ?_⟩
 have f5:=f5.cB (lo:=h.size) (hi:=h3.size) ⟨⟨iR,l3⟩,trivial⟩
 have z5:=f5.size
 exact HK t h5 ((Ow.iv o4 f5 (.inr (Nat.le_refl _))).mono fun k _ hk=>⟨by have:=hk.1;omega,by have:=hk.2;omega⟩) ((f3.aA f4).aJ f5 (Nat.le_refl _))
theorem zW{S S':Nat->Prop}{h:Heap}{g w:Sl}{aD:List (List Int)}{rs:List Int}(G:bU S h g aD)(H:aQ S' h w rs)(p:Int)(K:Value->Heap->Prop)(HK:∀t h',bR h' (Iv h.size h'.size) t (dH aD rs p 1).1.1->Fr No h h'->K (.tuple #[.agg #[t.v,VI (dH aD rs p 1).1.2],VB (dH aD rs p 1).2]) h'):aE Tryz.prog 128 #[.agg #[g.v],.agg #[w.v,VI p]] h K:=by
 refine ae9 g w p h K fun b1 b2 b3 h3 eD dK iR f3 cF=> ?_
 have f3:=f3.aF
 have l3:b3<h3.size:=cF.head.lt
 have z3:=f3.size
 refine fh (G.no f3) (H.no f3) p _ fun h4 f4=>⟨_,rfl,cF.aB f4,fun e h5 f5 gh=> ?_,fun e=> ?_⟩
 ·have e2:dH aD rs p 1=(([],0),false):=by unfold dH;rw[if_neg (by rw[bD e];simp)]
  have f5:=f5.cB (lo:=h.size) (hi:=h3.size) ⟨⟨iR,l3⟩,trivial⟩
  have:=HK aC h5 (by rw[e2];exact Ow.nil _ _ _ _) ((f3.aA f4).aJ f5 (Nat.le_refl _))
  rw[e2]at this
  exact this
 have e:=aZ e
 have jx:=f3.aA f4
 have e2:dH aD rs p 1=match cA aD (rs,p)with
  |none=>(([],0),false)
  |some s=>(s,true):=by
  unfold dH
  rw[if_pos (by rw[e];rfl)]
  show(match runT aD (fun(_:Unit) _ _=>()) 1 () (rs,p)with
   |none=>(([],0),false)
   |some (_,s)=>(s,true))=_
  rw[runT]
  cases cA aD (rs,p)with
  |none=>rfl
  |some s=>rfl
 refine oM (s:=(rs,p)) (G.no jx) (H.no jx) (cV e) _ (fun hs h6 f6=>⟨w,p,false,rfl,(cF.aB f4).aB f6,fun _ b4 h9 GF f9 fP=> ?_,fun e=>by simp at e⟩) fun s' hs t h6 o6 f6=>⟨t,s'.2,true,rfl,(cF.aB f4).aB f6,fun e=>by simp at e,fun _ b4 h9 GF f9 fP=> ?_⟩
 ·have f9:=f9.cB (lo:=h.size) (hi:=h3.size) ⟨⟨iR,l3⟩,trivial⟩
  rw[hs]at e2
  have:=HK aC h9 (by rw[e2];exact Ow.nil _ _ _ _) ((jx.aA f6).aJ f9 (Nat.le_refl _))
  rw[e2]at this
  exact this
 ·have f9:=f9.cB (lo:=h.size) (hi:=h3.size) ⟨⟨iR,l3⟩,trivial⟩
  rw[hs]at e2
  have z4:=f4.size
  have z9:=f9.size
  have:=HK t h9 (by rw[e2];exact(Ow.iv o6 f9 (.inr (by omega))).mono fun k _ hk=>⟨by have:=hk.1;omega,by have:=hk.2;omega⟩) ((jx.aA f6).aJ f9 (Nat.le_refl _))
  rw[e2]at this
  exact this
structure Rn where
 s:St
 ps:List Int
 vs:List Int
 us:List (List Int)
def bump(l:List Int)(i:Nat):List Int:=l.set i (l.getD i 0+1)
def Nw(g:List (List Int)):Nat->Rn->Option Rn
 |0,r=>some r
 |n+1,r=>match cA g r.s with
  |none=>none
  |some s'=>Nw g n ⟨s',r.ps++[s'.2],bump r.vs s'.2.toNat,r.us.set r.s.2.toNat (bump (r.us.getD r.s.2.toNat []) (s'.1.getD r.s.2.toNat 0).toNat)⟩
def lM(g:List (List Int)):List (List Int):=g.map fun l=>List.replicate l.length 0
def K5(g:List (List Int))(s:St):Rn:=⟨s,[s.2],List.replicate g.length 0,lM g⟩
structure K6(g:List (List Int))(m:Nat)(r:Rn):Prop where
 w:gj g r.s
 ps:r.ps.length=m+1
 vs:r.vs.length=g.length
 us:r.us.length=g.length
 row:∀i(h:i<r.us.length)(h':i<g.length),r.us[i].length=g[i].length
 vb:∀x,x∈r.vs->0<=x/\x<=m
 ub:∀l,l∈r.us->∀x,x∈l->0<=x/\x<=m
theorem oN(l:List Int)(i:Nat):(bump l i).length=l.length:=by simp[bump]
theorem xI{l:List Int}{i m:Nat}(h:∀x,x∈l->0<=x/\x<=(m:Int)):∀x,x∈bump l i->0<=x/\x<=((m+1:Nat):Int):=by
 intro x hx
 unfold bump at hx
 rcases List.mem_or_eq_of_mem_set hx with hx|rfl
 ·have:=h x hx;omega
 ·by_cases hi:i<l.length
  ·rw[aN hi]
   have:=h _ (List.getElem_mem hi)
   omega
  ·rw[show l.getD i 0=0 by simp[List.getD,List.getElem?_eq_none (by omega:l.length<=i)]]
   omega
theorem K6.step{g:List (List Int)}{m:Nat}{r:Rn}(R:K6 g m r){s':St}(hs:cA g r.s=some s'):K6 g (m+1) ⟨s',r.ps++[s'.2],bump r.vs s'.2.toNat,r.us.set r.s.2.toNat (bump (r.us.getD r.s.2.toNat []) (s'.1.getD r.s.2.toNat 0).toNat)⟩:=by
 have hp:r.s.2.toNat<r.us.length:=by rw[R.us];have:=R.w.hi;have:=R.w.lo;omega
 refine⟨R.w.step hs,by simp[R.ps],by simp[oN,R.vs],by simp[R.us],fun i a b=> ?_,xI R.vb,fun l hl=> ?_⟩
 ·simp only[List.length_set]at a
  simp only[List.getElem_set]
  split
  ·rename_i e
   subst e
   rw[oN,aS hp]
   exact R.row _ a b
  ·exact R.row i a b
 ·rcases List.mem_or_eq_of_mem_set hl with hl|rfl
  ·exact fun x hx=>by have:=R.ub l hl x hx;omega
  ·rw[aS hp]
   exact xI (R.ub _ (List.getElem_mem hp))
theorem Vx{g:List (List Int)}{s:St}(W:gj g s):K6 g 0 (K5 g s):=by
 refine⟨W,rfl,by simp[K5],by simp[K5,lM],fun i a b=>by simp[K5,lM],fun x hx=> ?_,fun l hl x hx=> ?_⟩
 ·simp only[K5,List.mem_replicate]at hx
  omega
 ·simp only[K5,lM,List.mem_map]at hl
  obtain⟨l',_,rfl⟩:=hl
  simp only[List.mem_replicate]at hx
  omega
theorem Hv{S S':Nat->Prop}{h:Heap}{g w:Sl}{aD:List (List Int)}{rs:List Int}(G:bU S h g aD)(H:aQ S' h w rs)(p n:Int)(W:gj aD (rs,p))(hn0:0<=n)(hn1:n<=2000)(K:Value->Heap->Prop)
 (HN:Nw aD n.toNat (K5 aD (rs,p))=none->∀h',Fr No h h'->K (.tuple #[.agg #[aC.v,VI 0,aC.v,aC.v,aC.v],VB false]) h')
 (HS:∀r,Nw aD n.toNat (K5 aD (rs,p))=some r->K6 aD n.toNat r->∀e ps vs us h',aQ (fun _=>True) h' e r.s.1->aQ (fun k=>h.size<=k) h' ps r.ps->aQ (fun k=>h.size<=k) h' vs r.vs->bU (fun k=>h.size<=k) h' us r.us->Fr No h h'->K (.tuple #[.agg #[e.v,VI r.s.2,ps.v,vs.v,us.v],VB true]) h'):
 aE Tryz.prog 179 #[.agg #[g.v],.agg #[w.v,VI p],VI n] h K:=by
 refine agc g w p n h K fun b1 b2 b3 h3 eD dK iR f3 cF=> ?_
 have f3:=f3.aF
 have l3:b3<h3.size:=cF.head.lt
 have l2:b2<h3.size:=cF.tail.head.lt
 have l1:b1<h3.size:=cF.tail.tail.head.lt
 have z3:=f3.size
 have Rb:=aO W.bE
 have hgt:=pQ W.bE
 have lit:∀{h1:Heap}{K:Value->Heap->Prop},(∀t h2,bR h2 (Iv h1.size h2.size) t [p]->Fr No h1 h2->K t.v h2)->jQ Tryz.prog (Instr.buildSlice qQ 1 #[(0,VI p)]) h1 K:=fun HK=>aP fx (fun k=>_<=k) (fun _ h=>h) 1 (by omega) [VI p] rfl rfl fun t h2 n2 c2 o2 f2 m2 _=>HK t h2 (Ow.fV o2) f2
 have mk:∀{h1:Heap}{K:Value->Heap->Prop},(∀t h2,bR h2 (Iv h1.size h2.size) t (List.replicate aD.length 0)->Fr No h1 h2->K t.v h2)->jQ Tryz.prog (Instr.makeSlice qQ (VI (g.n:Int)) (VI (g.n:Int))) h1 K:=fun HK=>eA fx (fun k=>_<=k) (fun _ h=>h) .i64 .i64 g.n g.n (Nat.le_refl _) (by rw[G.len];omega) fun t h2 n2 c2 o2 f2 m2 _=>HK t h2 (Ow.fV (by
  have e:(List.replicate g.n [VI 0]).flatten=(List.replicate aD.length (0:Int)).map VI:=by rw[G.len];simp[List.flatten_replicate_singleton]
  rw[e]at o2;exact o2)) f2
 refine⟨fun b x1 x2 x3 x4 x5 h'=>x1=w/\x2=p/\x5=aC/\∃i1 j1 i2 j2,bR h' (Iv i1 j1) x3 [p]/\bR h' (Iv i2 j2) x4 (List.replicate aD.length 0)/\(j1<=i2\/j2<=i1)/\(b<i1\/j1<=b)/\(b<i2\/j2<=b)/\h3.size<=i1/\h3.size<=i2/\h3.size<=b/\j1<=h'.size/\j2<=h'.size/\Fr No h3 h',⟨?_,?_,?_⟩,?_⟩
 ·refine lit fun t h4 o4 f4=>⟨t,rfl,cF.aB f4,?_⟩
  have z4:=f4.size
  have dS:=cF.aB f4
  refine⟨mk fun u h5 o5 f5=>⟨u,rfl,dS.aB f5,fun b5 h6 P9 f6 jG h7 f7 jv=> ?_⟩,fun b6 h8 Vy f8 fO=>mk fun u h9 o9 f9=>⟨u,rfl,fO.aB f9,fun dV f10 dL=> ?_⟩⟩
  ·have f6:=f6.aF
   have z5:=f5.size
   have z6:=f6.size
   have lb:=jG.head.lt
   have f7:=f7.cB (lo:=h5.size) (hi:=h6.size) ⟨⟨P9,lb⟩,trivial⟩
   have z7:=f7.size
   exact⟨rfl,rfl,rfl,h3.size,h4.size,h4.size,h5.size,((Ow.no o4 f5).no f6).iv f7 (by omega),(Ow.no o5 f6).iv f7 (by omega),by omega,by omega,by omega,by omega,by omega,by omega,by omega,by omega,((f4.aA f5).aA f6).aJ f7 (by omega)⟩
  ·have f8:=f8.aF
   have z8:=f8.size
   have z9:=f9.size
   have lb:=fO.head.lt
   have f10:=f10.cB (lo:=h4.size) (hi:=h8.size) ⟨⟨Vy,lb⟩,trivial⟩
   have zV:=f10.size
   exact⟨rfl,rfl,rfl,h3.size,h4.size,h8.size,h9.size,((Ow.no o4 f8).no f9).iv f10 (by omega),Ow.iv o9 f10 (by omega),by omega,by omega,by omega,by omega,by omega,by omega,by omega,by omega,((f4.aA f8).aA f9).aJ f10 (by omega)⟩
 ·refine mk fun u h4 o4 f4=>⟨u,rfl,cF.aB f4,?_⟩
  have z4:=f4.size
  have dS:=cF.aB f4
  refine⟨lit fun t h5 o5 f5=>⟨t,rfl,dS.aB f5,fun b5 h6 P9 f6 jG h7 f7 jv=> ?_⟩,fun b6 h8 Vy f8 fO=>lit fun t h9 o9 f9=>⟨t,rfl,fO.aB f9,fun dV f10 dL=> ?_⟩⟩
  ·have f6:=f6.aF
   have z5:=f5.size
   have z6:=f6.size
   have lb:=jG.head.lt
   have f7:=f7.cB (lo:=h5.size) (hi:=h6.size) ⟨⟨P9,lb⟩,trivial⟩
   have z7:=f7.size
   exact⟨rfl,rfl,rfl,h4.size,h5.size,h3.size,h4.size,(Ow.no o5 f6).iv f7 (by omega),((Ow.no o4 f5).no f6).iv f7 (by omega),by omega,by omega,by omega,by omega,by omega,by omega,by omega,by omega,((f4.aA f5).aA f6).aJ f7 (by omega)⟩
  ·have f8:=f8.aF
   have z8:=f8.size
   have z9:=f9.size
   have lb:=fO.head.lt
   have f10:=f10.cB (lo:=h4.size) (hi:=h8.size) ⟨⟨Vy,lb⟩,trivial⟩
   have zV:=f10.size
   exact⟨rfl,rfl,rfl,h8.size,h9.size,h3.size,h4.size,Ow.iv o9 f10 (by omega),((Ow.no o4 f8).no f9).iv f10 (by omega),by omega,by omega,by omega,by omega,by omega,by omega,by omega,by omega,((f4.aA f8).aA f9).aJ f10 (by omega)⟩
 ·intro b9 h4 hb9 f4 dS
  have f4:=f4.aF
  have z4:=f4.size
  have lb:=dS.head.lt
  refine⟨lit fun t h5 o5 f5=>⟨t,rfl,dS.aB f5,mk fun u h6 o6 f6=>⟨u,rfl,(dS.aB f5).aB f6,fun h7 f7 jv=> ?_⟩⟩,mk fun u h5 o5 f5=>⟨u,rfl,dS.aB f5,lit fun t h6 o6 f6=>⟨t,rfl,(dS.aB f5).aB f6,fun h7 f7 jv=> ?_⟩⟩⟩
  ·have z5:=f5.size
   have z6:=f6.size
   have f7:=f7.cB (lo:=h3.size) (hi:=h4.size) ⟨⟨hb9,lb⟩,trivial⟩
   have z7:=f7.size
   exact⟨rfl,rfl,rfl,h4.size,h5.size,h5.size,h6.size,(Ow.no o5 f6).iv f7 (by omega),Ow.iv o6 f7 (by omega),by omega,by omega,by omega,by omega,by omega,by omega,by omega,by omega,((f4.aA f5).aA f6).aJ f7 (by omega)⟩
  ·have z5:=f5.size
   have z6:=f6.size
   have f7:=f7.cB (lo:=h3.size) (hi:=h4.size) ⟨⟨hb9,lb⟩,trivial⟩
   have z7:=f7.size
   exact⟨rfl,rfl,rfl,h5.size,h6.size,h4.size,h5.size,Ow.iv o6 f7 (by omega),(Ow.no o5 f6).iv f7 (by omega),by omega,by omega,by omega,by omega,by omega,by omega,by omega,by omega,((f4.aA f5).aA f6).aJ f7 (by omega)⟩
 rintro b4 x1 x2 ps0 vs0 x5 K7 ⟨rfl,rfl,rfl,i1,j1,i2,j2,o1,o2,d12,d1,d2,e1,e2,e3,e4,e5,f25⟩ Rc
 have ais:=f3.aA f25
 have z25:=f25.size
 have lb4:b4<K7.size:=Rc.head.lt
 refine⟨fun m i x6 x7 x8 x9 Ny h'=>x6=x1/\x7=x2/\x8=ps0/\x9=vs0/\0<=i/\i+m=(aD.length:Int)/\gO h' (fun k=>K7.size<=k) Ny (lM (aD.take i.toNat))/\Fr (Iv b4 (b4+1)) K7 h'/\K7.size<=h'.size,⟨aD.length,rfl,rfl,rfl,rfl,by omega,by omega,by simpa[lM]using dR.nil _ _ _ _,Fr.refl _ _,Nat.le_refl _⟩,?_⟩
 rintro m i x6 x7 x8 x9 Ny vm ⟨rfl,rfl,rfl,rfl,i0,im,mM,f26,z26⟩ tJ
 have Hw:Fr No h vm:=ais.aJ f26 (by omega)
 refine⟨fun e=> ?_,fun e=> ?_⟩
 ·have hi:=G.lt e
  obtain⟨si,c1,c2⟩:=(G.no Hw).get i0 hi
  have hsi:=(aT W.bE (List.getElem_mem (show i.toNat<aD.length by omega))).1
  refine⟨(G.no Hw).bB i0 hi,si,c1,?_⟩
  refine eA fx (fun k=>vm.size<=k) (fun _ h=>h) .i64 .i64 si.n si.n (Nat.le_refl _) (by have:=c2.len;omega) fun t Re n27 c27 Nz f27 m27 _=>⟨t,rfl,tJ.aB f27,?_⟩
  have Nz:bR Re (fun k=>vm.size<=k) t (List.replicate (aD[i.toNat]'(by omega)).length 0):=by
   have e:(List.replicate si.n [VI 0]).flatten=(List.replicate (aD[i.toNat]'(by omega)).length (0:Int)).map VI:=by rw[c2.len];simp[List.flatten_replicate_singleton]
   rw[e]at Nz;exact Nz
  refine aP qb (fun k=>Re.size<=k) (fun _ h=>h) 1 (by omega) [t.v] rfl rfl fun u h28 n28 c28 o28 f28 m28 _=>⟨u,rfl,(tJ.aB f27).aB f28,?_⟩
  have z27:=f27.size
  have z28:=f28.size
  refine dR.snoc qb ((mM.fV.no f27).no f28) (F':=fun k=>K7.size<=k) (fun k _ hk=>hk.1) (fun k hk=>by omega) ((Ow.no Nz f28).mono fun k _ hk=>Nat.le_trans z26 hk) (fun k hk aI=>by have:=(Nz.aH hk).1;have:=aI.2;omega) o28.rd (by simp[lM];omega) fun y h29 o29 f29=>⟨y,rfl,((tJ.aB f27).aB f28).iv f29 ⟨.inl lb4,.inl (by omega),.inl (by omega),.inl (by omega),trivial⟩,fun h30 f30 aiw=> ?_⟩
  have z29:=f29.size
  have f30:=f30.cB (lo:=b4) (hi:=b4+1) ⟨⟨Nat.le_refl _,Nat.lt_succ_self _⟩,trivial⟩
  have z30:=f30.size
  rw[G.succ i0 hi]
  refine⟨m-1,by omega,rfl,rfl,rfl,rfl,by omega,by omega,?_,?_,by omega⟩
  ·rw[dX aD i0 hi]
   have:lM (aD.take i.toNat++[aD[i.toNat]'(by omega)])=lM (aD.take i.toNat)++[List.replicate (aD[i.toNat]'(by omega)).length 0]:=by simp only[lM,List.map_append,List.map_cons,List.map_nil]
   rw[this]
   exact(o29.fV.iv f30 (.inr (by omega))).mono fun k _ hk=>hk.1
  ·exact(f26.BV (f27.aA f28).aB (fun k(hk:Iv K7.size vm.size k)=>hk.1)).BV f29 (fun k hk=>hk.1)|>.trans f30
 have hi:=G.ge e
 rw[List.take_of_length_le (by omega)]at mM
 --the rounds
 generalize hR:Nw aD n.toNat (K5 aD (rs,x7))=R at HN HS
 have Rf:=Ow.iv o1 f26 (by omega)
 have Vz:=Ow.iv o2 f26 (by omega)
 refine⟨fun q n2 NA Qa JK x14 x15 h'=>∃(r:Rn)(m:Nat)(E:Nat->Prop),K6 aD m r/\n2=q/\m+q=n.toNat/\Qa=r.s.2/\x14=x9/\x15=Ny/\aQ E h' NA r.s.1/\(∀k,E k->(k<h.size\/vm.size<=k)/\k<h'.size/\¬JK.own k)/\bR h' (fun k=>h3.size<=k) JK r.ps/\(∀k,JK.own k->Iv i1 j1 k\/vm.size<=k)/\bR h' (Iv i2 j2) x9 r.vs/\gO h' (Iv K7.size vm.size) Ny r.us/\Fr No h h'/\vm.size<=h'.size/\R=Nw aD q r,
  ⟨n.toNat,K5 aD (rs,x7),0,fun k=>k<h.size,Vx W,by omega,by omega,rfl,rfl,rfl,H.low.no Hw,fun k hk=>⟨.inl hk,by have:=Hw.size;omega,fun aI=>by have:=(Rf.aH aI).1.1;omega⟩,Rf.mono fun k _ hk=>by have:=hk.1;omega,fun k hk=> .inl (Rf.aH hk).1,Vz,mM.fV,Hw,Nat.le_refl _,hR.symm⟩,?_⟩
 rintro q n2 NA Qa JK x14 x15 h31 ⟨r,m',E,ok,rfl,hm,rfl,rfl,rfl,rE,hE,oP,hP,oV,oU,f31,z31,eq⟩ Rg
 refine⟨fun e=> ?_,fun e=> ?_⟩
 ·simp only[decide_eq_true_eq]at e
  obtain⟨q,rfl⟩:∃q',q=q'+1:=⟨q-1,by omega⟩
  rw[Nw]at eq
  refine oM (G.no f31) rE ok.w _ (fun hs VA f32=>⟨NA,r.s.2,false,rfl,Rg.aB f32,fun _ b10 h35 abB f35 abC=> ?_,fun e=>by simp at e⟩) fun s' hs t VA o32 f32=>⟨t,s'.2,true,rfl,Rg.aB f32,fun e=>by simp at e,fun _=> ?_⟩
  ·rw[hs]at eq
   have f35:=f35.cB (lo:=h.size) (hi:=h3.size) ⟨⟨iR,l3⟩,trivial⟩
   exact HN eq h35 ((f31.aA f32).aJ f35 (Nat.le_refl _))
  ·rw[hs]at eq
   simp only at eq
   have z32:=f32.size
   have hp:r.s.2.toNat<r.us.length:=by rw[ok.us];have:=ok.w.hi;have:=ok.w.lo;omega
   have wj:=ok.w.lo
   have W':=ok.w.step hs
   have Rh:=W'.lo
   have anG:=W'.hi
   have anH:=ok.us
   have oP2:=Ow.no oP f32
   have oV2:=Ow.no oV f32
   have oU2:=oU.no f32
   have aiz:=f31.aA f32
   refine⟨oU2.rd.bB wj (by omega),fun b10 h34 abB f34 VC=> ?_⟩
   have f34:=f34.aF
   have z34:=f34.size
   have oP4:=Ow.no oP2 f34
   have oV4:=Ow.no oV2 f34
   have oU4:=oU2.no f34
   have oT4:=Ow.no o32 f34
   obtain⟨si,d1',d2',d3'⟩:=oU4.inner wj (by omega)
   have abD:(r.us[r.s.2.toNat]'hp).length=(aD[r.s.2.toNat]'(by omega)).length:=ok.row _ hp (by omega)
   have hsl:si.n=(r.us[r.s.2.toNat]'hp).length:=aQ.len d2'.eQ
   have Qb:r.s.2.toNat<s'.1.length:=by rw[W'.len];omega
   have Vs:=W'.P7 _ Qb (by omega)
   have dZ:(aD[r.s.2.toNat]'(by omega)).length≠0:=fun h0=>by rw[ni ok.w (by omega) h0]at hs;cases hs
   have Ct:0<=s'.1[r.s.2.toNat]' Qb:=Vs.1
   have UU:s'.1[r.s.2.toNat]' Qb<((r.us[r.s.2.toNat]'hp).length:Int):=by omega
   have RT:aQ (Iv h31.size VA.size) h34 t s'.1:=oT4.tm
   have RU:aQ (Iv K7.size vm.size) h34 si (r.us[r.s.2.toNat]'hp):=d2'.tm
   have hub:=ok.ub _ (List.getElem_mem hp) _ (List.getElem_mem (show(s'.1[r.s.2.toNat]' Qb).toNat<(r.us[r.s.2.toNat]'hp).length by omega))
   have hwu:aL ((r.us[r.s.2.toNat]'hp)[(s'.1[r.s.2.toNat]' Qb).toNat]'(by omega)+1)=(r.us[r.s.2.toNat]'hp)[(s'.1[r.s.2.toNat]' Qb).toNat]'(by omega)+1:=aG _ (by omega) (by omega)
   refine⟨si,d1',RT.bB wj (by omega),_,RT.get wj (by omega),RU.bB Ct UU,_,RU.get Ct UU,RU.bB Ct UU,?_⟩
   rw[hwu]
   obtain⟨w1,w2,w3⟩:=d2'.eX Ct (by omega) (VI ((r.us[r.s.2.toNat]'hp)[(s'.1[r.s.2.toNat]' Qb).toNat]'(by omega)+1))
   have oL:Fr (Iv K7.size vm.size) h34 _:=w3.mono fun k _ hk=>(d2'.aH hk).1
   have Ri:=VC.iv oL ⟨.inr (by omega),.inl lb4,.inl (by omega),.inl (by omega),.inl (by omega),trivial⟩
   refine⟨w1,Ri,fun h36 e36 _=> ?_⟩
   subst e36
   rw[<-List.map_set]at w2
   have oU6:=d3' _ _ w3 w2
   have oV6:=Ow.iv oV4 oL (by omega)
   have Qc:=ok.vs
   have hV:s'.2.toNat<r.vs.length:=by omega
   have RV:aQ (Iv i2 j2) _ x14 r.vs:=oV6.tm
   have hvb:=ok.vb _ (List.getElem_mem hV)
   have hwv:aL ((r.vs[s'.2.toNat]'hV)+1)=(r.vs[s'.2.toNat]'hV)+1:=aG _ (by omega) (by omega)
   refine⟨RV.bB Rh (by omega),_,RV.get Rh (by omega),RV.bB Rh (by omega),?_⟩
   rw[hwv]
   have hvn:x14.n=r.vs.length:=aQ.len RV
   obtain⟨y1,y2,y3⟩:=oV6.eX Rh (by omega) (VI ((r.vs[s'.2.toNat]'hV)+1))
   have y3':Fr (Iv i2 j2) _ _:=y3.mono fun k _ hk=>(oV6.aH hk).1
   have NB:=Ri.iv y3' ⟨.inr (by omega),(by have h1:=d2;exact h1.elim .inl .inr),.inl (by omega),.inl (by omega),.inl (by omega),trivial⟩
   refine⟨y1,NB,fun h37 e37 _=> ?_⟩
   subst e37
   rw[<-List.map_set]at y2
   have z36:=oL.size
   have z37:=y3'.size
   have abE:∀k,JK.own k->¬Iv K7.size vm.size k:=fun k hk aI=>by
    have h1:=aI.1
    have h2:=aI.2
    rcases hP k hk with h3|h3
    ·have:=h3.2;omega
    ·omega
   have qd:∀k,JK.own k->¬Iv i2 j2 k:=fun k hk aI=>by
    have h1:=aI.1
    have h2:=aI.2
    rcases hP k hk with h3|h3
    ·have:=h3.1;have:=h3.2;omega
    ·omega
   have oP7:=(Ow.fr oP4 oL abE).fr y3' qd
   refine aP fx (fun k=>_<=k) (fun _ h=>h) 1 (by omega) [VI s'.2] rfl rfl fun v h38 n38 c38 o38 f38 m38 _=>⟨v,rfl,NB.aB f38,?_⟩
   have z38:=f38.size
   have o38:aQ v.own h38 v [s'.2]:=o38.rd
   have NC:JK.n=r.ps.length:=aQ.len oP7.eQ
   have anV:v.n=1:=o38.len
   refine bL fx (oP7.no f38) (fun k hk=>by omega) o38 (fc _) (by have:=ok.ps;omega) fun y K8 n39 o39 f39 d39=> ?_
   have z39:=f39.size
   have ND:=(NB.aB f38).fr f39 fun p hp hk=>by
    have h1:=(oP.aH hk).2
    have h2:=(oP.aH hk).1
    simp only[List.mem_cons,List.not_mem_nil,or_false]at hp
    rcases hp with rfl|rfl|rfl|rfl|rfl<;>simp only at h1 h2 hk
    ·omega
    ·rcases hP _ hk with h3|h3
     ·have:=h3.1;have:=h3.2;omega
     ·omega
    ·omega
    ·omega
    ·omega
   refine⟨y,rfl,ND,fun h41 f41 anY=> ?_⟩
   have f41:=f41.cB (lo:=b4) (hi:=b4+1) ⟨⟨Nat.le_refl _,Nat.lt_succ_self _⟩,⟨Nat.le_refl _,Nat.lt_succ_self _⟩,trivial⟩
   have z41:=f41.size
   have GF:∀k,JK.own k->¬k=b4:=fun k hk e=>by
    subst e
    rcases hP _ hk with h3|h3
    ·have:=h3.1;have:=h3.2;omega
    ·omega
   rw[aG _ (by omega) (by omega)]
   rw[<-List.map_append]at o39
   have eV:r.vs.set s'.2.toNat ((r.vs[s'.2.toNat]'hV)+1)=bump r.vs s'.2.toNat:=by unfold bump;rw[aN hV]
   have eU:(r.us[r.s.2.toNat]'hp).set (s'.1[r.s.2.toNat]' Qb).toNat ((r.us[r.s.2.toNat]'hp)[(s'.1[r.s.2.toNat]' Qb).toNat]'(by omega)+1)=bump (r.us.getD r.s.2.toNat []) (s'.1.getD r.s.2.toNat 0).toNat:=by unfold bump;rw[aS hp,aN Qb,aN (by omega)]
   rw[eV]at y2
   rw[eU]at oU6
   have abF:∀k,JK.own k->¬Iv h31.size VA.size k:=fun k hk aI=>by have:=(oP.aH hk).2;have:=aI.1;omega
   refine⟨q,by omega,_,m'+1,Iv h31.size VA.size,ok.step hs,by omega,by omega,rfl,rfl,rfl,?_,fun k hk=>⟨.inr (by have:=hk.1;omega),by have:=hk.2;omega,fun aI=> ?_⟩,?_,fun k hk=> ?_,?_,?_,?_,by omega,eq⟩
   ·exact(((((oT4.iv oL (by omega)).iv y3' (by omega)).no f38).fr f39 fun k hk aI=>abF k aI (oT4.aH hk).1).iv f41 (by omega)).tm
   ·rcases d39 k aI with h1|h1
    ·exact abF k h1 hk
    ·have:=hk.2;omega
   ·exact Ow.fr o39 f41 fun k hk aI=>by
     have h1:=aI.1
     have h2:=aI.2
     rcases d39 k hk with h3|h3
     ·exact GF k h3 (by omega)
     ·omega
   ·rcases d39 k hk with h1|h1
    ·exact hP k h1
    ·exact .inr (by omega)
   ·exact((Ow.no y2 f38).fr f39 fun k hk aI=>qd k aI (y2.aH hk).1).iv f41 (by omega)
   ·exact(((oU6.iv y3' (by omega)).no f38).fr f39 fun k _ hk aI=>abE k aI hk).iv f41 (by omega)
   ·exact((((((aiz.aA f34).aJ oL (by omega)).aJ y3' (by omega)).aA f38).fresh f39 fun k hk=>by have:=(oP.aH hk).1;omega).aJ f41 (by omega))
 ·simp only[decide_eq_false_iff_not]at e
  obtain rfl:q=0:=by omega
  rw[Nw]at eq
  intro h42 f42 aiD
  have f42:=f42.cB (lo:=h.size) (hi:=h3.size) ⟨⟨iR,l3⟩,trivial⟩
  have em:m'=n.toNat:=by omega
  subst em
  refine HS r eq ok NA JK x14 x15 h42 ?_ ?_ ?_ ?_ (f31.aJ f42 (Nat.le_refl _))
  ·exact(aQ.fr rE f42 fun k hk aI=>by have:=(hE k hk).1;have:=aI.1;have:=aI.2;omega).mono fun _ _=>trivial
  ·exact(aQ.fr oP.rd f42 fun k hk aI=>by
    have h1:=aI.1
    have h2:=aI.2
    rcases hP k hk with h3|h3
    ·have:=h3.1;omega
    ·omega).mono fun k hk=>by have:=(oP.aH hk).1;omega
  ·exact(aQ.iv oV.tm f42 (by omega)).mono fun k hk=>by have:=hk.1;omega
  ·exact(bU.iv oU.tm f42 (by omega)).mono fun k hk=>by have:=hk.1;omega
def NE(r:Rn)(s':St):Rn:=⟨s',r.ps++[s'.2],bump r.vs s'.2.toNat,r.us.set r.s.2.toNat (bump (r.us.getD r.s.2.toNat []) (s'.1.getD r.s.2.toNat 0).toNat)⟩
theorem Cu{τ:Type}(g:List (List Int))(f:Rn->τ)(wk:τ->St->St->τ)(hf:∀r s',f (NE r s')=wk (f r) r.s s'):∀(n:Nat)(r:Rn),runT g wk n (f r) r.s=(Nw g n r).map fun r=>(f r,r.s)
 |0,r=>by simp[runT,Nw]
 |n+1,r=>by
  rw[runT,Nw]
  cases cA g r.s with
  |none=>rfl
  |some s'=>
   show runT g wk n (wk (f r) r.s s') s'=(Nw g n (NE r s')).map _
   rw[<-Cu g f wk hf n (NE r s'),hf]
   rfl
theorem Cv{S S':Nat->Prop}{h:Heap}{g w:Sl}{aD:List (List Int)}{rs:List Int}(G:bU S h g aD)(H:aQ S' h w rs)(p n:Int)(K:Value->Heap->Prop)(HK:∀t h',bR h' (Iv h.size h'.size) t (dH aD rs p n).1.1->Fr No h h'->K (.tuple #[.agg #[t.v,VI (dH aD rs p n).1.2],VB (dH aD rs p n).2]) h'):aE Tryz.prog 129 #[.agg #[g.v],.agg #[w.v,VI p],VI n] h K:=by
 refine afb g w p n h K fun b1 b2 b3 h3 eD dK iR f3 cF=> ?_
 have f3:=f3.aF
 have l3:b3<h3.size:=cF.head.lt
 have z3:=f3.size
 refine A9 (G.no f3) (H.no f3) p n _ fun h4 f4=>⟨_,rfl,cF.aB f4,fun e h5 f5 gh=> ?_,fun e=> ?_⟩
 ·have e2:dH aD rs p n=(([],0),false):=by unfold dH;rw[if_neg (by rw[bD e];simp)]
  have f5:=f5.cB (lo:=h.size) (hi:=h3.size) ⟨⟨iR,l3⟩,trivial⟩
  have:=HK aC h5 (by rw[e2];exact Ow.nil _ _ _ _) ((f3.aA f4).aJ f5 (Nat.le_refl _))
  rw[e2]at this
  exact this
 have e:=aZ e
 have e2:dH aD rs p n=match runT aD (fun(_:Unit) _ _=>()) n.toNat () (rs,p)with
  |none=>(([],0),false)
  |some (_,s)=>(s,true):=by unfold dH;exact if_pos e
 rw[show runT aD (fun(_:Unit) _ _=>()) n.toNat () (rs,p)=_ from Cu aD (fun _=>()) (fun(_:Unit) _ _=>()) (fun _ _=>rfl) n.toNat (K5 aD (rs,p))]at e2
 rw[Bool.and_eq_true,aX]at e
 have W:=cV e.1
 have Rb:=aO W.bE
 have jx:=f3.aA f4
 have dS:=cF.aB f4
 refine Hv (G.no jx) (H.no jx) p n W e.2.1 e.2.2 _ (fun hr h6 f6=>⟨aC,0,aC,aC,aC,false,rfl,dS.aB f6,fun _ b4 h9 GF f9 fP=> ?_,fun e=>by simp at e⟩) fun r hr ok e' ps vs us h6 r1 r2 r3 r4 f6=>⟨e',r.s.2,ps,vs,us,true,rfl,dS.aB f6,fun e=>by simp at e,fun _ b4 h8 GF f8 fO=> ?_⟩
 ·have f9:=f9.cB (lo:=h.size) (hi:=h3.size) ⟨⟨iR,l3⟩,trivial⟩
  rw[hr]at e2
  have:=HK aC h9 (by rw[e2];exact Ow.nil _ _ _ _) ((jx.aA f6).aJ f9 (Nat.le_refl _))
  rw[e2]at this
  exact this
 ·have f8:=f8.aF
  rw[hr]at e2
  have E3:=(jx.aA f6).aA f8
  refine pP (r1.no f8) (by have:=ok.w.len;omega) _ fun t dV mM f10=>⟨t,rfl,fO.aB f10,fun hH f11 iu=> ?_⟩
  have f11:=f11.cB (lo:=h.size) (hi:=h3.size) ⟨⟨iR,l3⟩,trivial⟩
  have z4:=f4.size
  have z6:=f6.size
  have z8:=f8.size
  have zV:=f10.size
  have Rj:=f11.size
  have:=HK t hH (by rw[e2];exact(Ow.iv mM f11 (.inr (by omega))).P4 (by omega) (by omega)) ((E3.aA f10).aJ f11 (Nat.le_refl _))
  rw[e2]at this
  exact this
def nL(t:List Int)(_ s':St):List Int:=t++[s'.2]
def iH(g:List (List Int))(rs:List Int)(p n:Int):List Int×Bool:=
 if eW g rs p&&iq 0 200 n then match runT g nL n.toNat [p] (rs,p)with
  |none=>([],false)
  |some (t,_)=>(t,true)
 else([],false)
def Hx(t:List Int)(_ s':St):List Int:=bump t s'.2.toNat
def nT(g:List (List Int))(rs:List Int)(p n:Int):List Int×Bool:=
 if eW g rs p&&iq 0 2000 n then match runT g Hx n.toNat (List.replicate g.length 0) (rs,p)with
  |none=>([],false)
  |some (t,_)=>(t,true)
 else([],false)
theorem qe{S S':Nat->Prop}{h:Heap}{g w:Sl}{aD:List (List Int)}{rs:List Int}(G:bU S h g aD)(H:aQ S' h w rs)(p n:Int)(K:Value->Heap->Prop)(HK:∀t h',aQ (Iv h.size h'.size) h' t (iH aD rs p n).1->Fr No h h'->K (.tuple #[t.v,VB (iH aD rs p n).2]) h'):aE Tryz.prog 132 #[.agg #[g.v],.agg #[w.v,VI p],VI n] h K:=by
 refine aff g w p n h K fun b1 b2 h2 eD dK f2 bW=> ?_
 have f2:=f2.aF
 have no:iH aD rs p n=([],false)->∀h',Fr No h h'->K (.tuple #[aC.v,VB false]) h':=fun e h' f=>by
  have:=HK aC h' (by rw[e];exact cM.nil _ _ _) f
  rw[e]at this
  exact this
 refine fh (G.no f2) (H.no f2) p _ fun h3 f3=>⟨_,rfl,bW.aB f3,fun e=> ?_,fun e=> ?_⟩
 ·exact no (by unfold iH;rw[if_neg (by rw[bD e];simp)]) _ (f2.aA f3)
 have e:=aZ e
 have gq:=f2.aA f3
 have cF:=bW.aB f3
 refine cY _ _ _ _ _ ⟨_,rfl,cF,fun e1=> ?_,fun e1=> ?_⟩
 ·have e1:iq 0 200 n=false:=bD e1
  exact no (by unfold iH;rw[if_neg (by rw[e,e1];simp)]) _ gq
 have e1:iq 0 200 n=true:=aZ e1
 have e2:iH aD rs p n=match runT aD nL n.toNat [p] (rs,p)with
  |none=>([],false)
  |some (t,_)=>(t,true):=by unfold iH;exact if_pos (by rw[e,e1];rfl)
 rw[show runT aD nL n.toNat [p] (rs,p)=_ from Cu aD Rn.ps nL (fun _ _=>rfl) n.toNat (K5 aD (rs,p))]at e2
 rw[aX]at e1
 have z03:=gq.size
 refine Hv (G.no gq) (H.no gq) p n (cV e) e1.1 (by omega) _ (fun hr h6 f6=>⟨aC,0,aC,aC,aC,false,rfl,cF.aB f6,fun b3 h7 iR f7 jv=> ?_⟩) fun r hr ok e' ps vs us h6 r1 r2 r3 r4 f6=>⟨e',r.s.2,ps,vs,us,true,rfl,cF.aB f6,fun b3 h7 iR f7 jv=> ?_⟩
 ·rw[hr]at e2
  exact no e2 _ ((gq.aA f6).aA f7.aF)
 ·rw[hr]at e2
  have z7:=f7.aF.size
  have:=HK ps h7 (by rw[e2];exact((cM.lt r2).mono fun k hk=>⟨by have:=hk.1;omega,by have:=hk.2;omega⟩:aQ _ h6 ps _).no f7.aF) ((gq.aA f6).aA f7.aF)
  rw[e2]at this
  exact this
theorem vJ{S S':Nat->Prop}{h:Heap}{g w:Sl}{aD:List (List Int)}{rs:List Int}(G:bU S h g aD)(H:aQ S' h w rs)(p n:Int)(K:Value->Heap->Prop)(HK:∀t h',aQ (Iv h.size h'.size) h' t (nT aD rs p n).1->Fr No h h'->K (.tuple #[t.v,VB (nT aD rs p n).2]) h'):aE Tryz.prog 133 #[.agg #[g.v],.agg #[w.v,VI p],VI n] h K:=by
 refine afh g w p n h K fun b1 b2 h2 eD dK f2 bW=> ?_
 have f2:=f2.aF
 have no:nT aD rs p n=([],false)->∀h',Fr No h h'->K (.tuple #[aC.v,VB false]) h':=fun e h' f=>by
  have:=HK aC h' (by rw[e];exact cM.nil _ _ _) f
  rw[e]at this
  exact this
 refine A9 (G.no f2) (H.no f2) p n _ fun h3 f3=>⟨_,rfl,bW.aB f3,fun e=> ?_,fun e=> ?_⟩
 ·exact no (by unfold nT;rw[if_neg (by rw[bD e];simp)]) _ (f2.aA f3)
 have e:=aZ e
 have gq:=f2.aA f3
 have cF:=bW.aB f3
 have e2:nT aD rs p n=match runT aD Hx n.toNat (List.replicate aD.length 0) (rs,p)with
  |none=>([],false)
  |some (t,_)=>(t,true):=by unfold nT;exact if_pos e
 rw[show runT aD Hx n.toNat (List.replicate aD.length 0) (rs,p)=_ from Cu aD Rn.vs Hx (fun _ _=>rfl) n.toNat (K5 aD (rs,p))]at e2
 rw[Bool.and_eq_true,aX]at e
 have z03:=gq.size
 refine Hv (G.no gq) (H.no gq) p n (cV e.1) e.2.1 e.2.2 _ (fun hr h6 f6=>⟨aC,0,aC,aC,aC,false,rfl,cF.aB f6,fun b3 h7 iR f7 jv=> ?_⟩) fun r hr ok e' ps vs us h6 r1 r2 r3 r4 f6=>⟨e',r.s.2,ps,vs,us,true,rfl,cF.aB f6,fun b3 h7 iR f7 jv=> ?_⟩
 ·rw[hr]at e2
  exact no e2 _ ((gq.aA f6).aA f7.aF)
 ·rw[hr]at e2
  have z7:=f7.aF.size
  have:=HK vs h7 (by rw[e2];exact((cM.lt r3).mono fun k hk=>⟨by have:=hk.1;omega,by have:=hk.2;omega⟩:aQ _ h6 vs _).no f7.aF) ((gq.aA f6).aA f7.aF)
  rw[e2]at this
  exact this
theorem K9(g:List (List Int))(rs:List Int)(p n:Int):(iH g rs p n).1.length<=201:=by
 unfold iH
 split
 ·rename_i h
  rw[Bool.and_eq_true,aX]at h
  have key:∀(m:Nat)(t:List Int)(s:St)(t':List Int)(s':St),runT g nL m t s=some (t',s')->t'.length=t.length+m:=by
   intro m
   induction m with
   |zero=>
    intro t s t' s' h
    simp only[runT,Option.some.injEq,Prod.mk.injEq]at h
    rw[h.1]
    rfl
   |succ m ih=>
    intro t s t' s' h
    rw[runT]at h
    split at h
    ·cases h
    ·have:=ih _ _ _ _ h
     simp[nL]at this
     omega
  split
  ·simp
  ·rename_i t s hs
   have:=key _ _ _ _ _ hs
   simp at this
   simp only
   omega
 ·simp
theorem mb{L:List (Nat×List Value)}{F:Nat->Prop}{h:Heap}{o:Sl}{xs:List Int}{x:Int}(O:bR h F o xs)(hF:∀k,h.size<=k->F k)(hL:Vars h L)(tK:∀p,p∈L->¬F p.1)(hb:xs.length<=1000000)(R:Sl->Heap->Prop)(HR:∀t h',bR h' F t (xs++[x])->Fr F h h'->Vars h' L->R t h'):jQ Tryz.prog (Instr.buildSlice qQ 1 #[(0,VI x)]) h fun rv h1=>∃t:Sl,rv=t.v/\Vars h1 L/\jQ Tryz.prog (bK qQ qQ qQ o.v t.v) h1 fun Hy h2=>∃t2:Sl,Hy=t2.v/\Vars h2 L/\R t2 h2:=by
 refine aP fx (fun k=>h.size<=k) (fun _ h=>h) 1 (by omega) [VI x] rfl rfl fun t h1 n1 c1 o1 f1 m1 _=>⟨t,rfl,hL.aB f1,?_⟩
 have z1:=f1.size
 have O1:bR h1 F o xs:=Ow.no O f1
 have on:=O1.rd.len
 have tn:=o1.rd.len
 simp only[List.length_map,Nat.mul_one,List.length_cons,List.length_nil]at on tn
 refine bL fx O1 (fun k hk=>hF k (by omega)) o1.rd (fc [x]) (by omega) fun s' h2 n2 o2 f2 d2=> ?_
 have g2:Fr F h1 h2:=f2.mono fun k _ hk=>(O1.aH hk).1
 have V2:Vars h2 L:=(hL.aB f1).fr g2 tK
 exact⟨s',rfl,V2,HR s' h2 (by rw[bR,List.map_append];exact o2) (f1.aB.trans g2) V2⟩
theorem Rk{S:Nat->Prop}{h:Heap}{s:Sl}{xs:List Int}(H:aQ S h s xs)(v:Int)(K:Value->Heap->Prop)(HK:K (VB (decide (v∈xs))) h):aE Tryz.prog 229 #[s.v,VI v] h K:=by
 refine v229 s v h K ⟨fun n i h'=>h'=h/\0<=i/\i+n=(xs.length:Int)/\decide (v∈xs)=decide (v∈xs.drop i.toNat),⟨xs.length,rfl,by omega,by omega,by simp⟩,?_⟩
 rintro n i _ ⟨rfl,i0,i1,i2⟩ hL
 refine⟨fun e=> ?_,fun e=> ?_⟩
 ·have hi:=H.lt e
  rw[drop_cons xs i0 hi]at i2
  refine⟨H.bB i0 hi,_,H.get i0 hi,fun e=> ?_,fun e=> ?_⟩
  ·simp only[decide_eq_true_eq]at e
   rw[i2,decide_eq_true (by rw[e];exact List.mem_cons_self)]at HK
   exact HK
  ·simp only[decide_eq_false_iff_not]at e
   rw[H.succ i0 hi]
   refine⟨n-1,by omega,rfl,by omega,by omega,?_⟩
   rw[i2,decide_eq_decide,List.mem_cons]
   exact⟨fun h=>h.resolve_left fun h=>e h.symm,.inr⟩
 ·have hi:=H.ge e
  rw[List.drop_of_length_le (by omega)]at i2
  rw[i2]at HK
  simpa using HK
theorem xJ{S:Nat->Prop}{h:Heap}{s:Sl}{xs:List Int}(H:aQ S h s xs)(v:Int)(K:Value->Heap->Prop)(HN:v∉xs->K (VI (-1)) h)(HS:∀i:Nat,i<xs.length->xs.getD i 0=v->(∀j,j<i->xs.getD j 0≠v)->K (VI i) h):aE Tryz.prog 257 #[s.v,VI v] h K:=by
 refine ahK s v h K ⟨fun n i h'=>h'=h/\0<=i/\i+n=(xs.length:Int)/\∀j:Nat,(j:Int)<i->xs.getD j 0≠v,⟨xs.length,rfl,by omega,by omega,fun j hj=>by omega⟩,?_⟩
 rintro n i _ ⟨rfl,i0,i1,i2⟩ hL
 refine⟨fun e=> ?_,fun e=> ?_⟩
 ·have hi:=H.lt e
  refine⟨H.bB i0 hi,_,H.get i0 hi,fun e=> ?_,fun e=> ?_⟩
  ·simp only[decide_eq_true_eq]at e
   have:=HS i.toNat (by omega) (by rw[aN (by omega)];exact e.symm) fun j hj=>i2 j (by omega)
   rwa [show((i.toNat:Nat):Int)=i by omega]at this
  ·simp only[decide_eq_false_iff_not]at e
   rw[H.succ i0 hi]
   refine⟨n-1,by omega,rfl,by omega,by omega,fun j hj=> ?_⟩
   by_cases Hz:(j:Int)<i
   ·exact i2 j Hz
   ·have:j=i.toNat:=by omega
    subst this
    rw[aN (by omega)]
    exact fun h=>e h.symm
 ·have hi:=H.ge e
  refine HN fun hm=> ?_
  obtain⟨j,hj,e2⟩:=List.getElem_of_mem hm
  exact i2 j (by omega) (by rw[aN hj];exact e2)
theorem E4{S:Nat->Prop}{h:Heap}{s:Sl}{xs:List Int}(H:aQ S h s xs)(v:Int)(K:Value->Heap->Prop)(HK:K (VB (decide (v∈xs))) h):aE Tryz.prog 255 #[s.v,VI v] h K:=by
 refine ahG s v h K (xJ H v _ (fun hn=>⟨_,rfl,.nil,?_⟩) fun i hi e _=>⟨_,rfl,.nil,?_⟩)
 ·rw[decide_eq_false hn]at HK
  exact HK
 ·rw[decide_eq_true (by rw[<-e,aN hi];exact List.getElem_mem _)]at HK
  rw[decide_eq_true (by omega)]
  exact HK
theorem php:∀(N:Nat)(f:Nat->Nat),(∀i,i<=N->f i<N)->∃i j,i<j/\j<=N/\f i=f j
 |0,f,h=>by have:=h 0 (Nat.le_refl _);omega
 |N+1,f,h=>by
  by_cases hx:∃i,i<=N/\f i=f (N+1)
  ·obtain⟨i,h1,h2⟩:=hx
   exact⟨i,N+1,by omega,Nat.le_refl _,h2⟩
  ·have hx:∀i,i<=N->f i≠f (N+1):=fun i h1 h2=>hx ⟨i,h1,h2⟩
   obtain⟨i,j,h1,h2,h3⟩:=php N (fun i=>if f i=N then f (N+1)else f i) fun i hi=>by
    have a:=h i (by omega)
    have b:=h (N+1) (by omega)
    have c:=hx i hi
    (try simp only)
    split<;>omega
   refine⟨i,j,h1,by omega,?_⟩
   have a:=hx i (by omega)
   have b:=hx j h2
   (try simp only at h3)
   split at h3<;>split at h3<;>omega
def nx(g:List (List Int))(rs:List Int)(p:Int):Int:=if p<0 then-1 else if(g.getD p.toNat []).length=0 then-1 else(g.getD p.toNat []).getD (rs.getD p.toNat 0).toNat 0
def cR(g:List (List Int))(rs:List Int)(p:Int):Nat->Int
 |0=>p
 |k+1=>nx g rs (cR g rs p k)
section
variable {g:List (List Int)} {rs:List Int} {a:Int}
theorem wm(W:gj g (rs,a)){p:Int}(h0:0<=p)(h1:p<(g.length:Int))(dZ:(g[p.toNat]'(by omega)).length≠0):∃(hr:p.toNat<rs.length)(hm:(rs[p.toNat]).toNat<(g[p.toNat]'(by omega)).length),0<=rs[p.toNat]/\nx g rs p=(g[p.toNat]'(by omega))[(rs[p.toNat]).toNat]:=by
 have hl:rs.length=g.length:=W.len
 have hr:p.toNat<rs.length:=by omega
 have h:=W.P7 p.toNat hr (by omega)
 have h2:0<=rs[p.toNat]:=h.1
 have h3:rs[p.toNat]<=max (((g[p.toNat]'(by omega)).length:Int)-1) 0:=h.2
 refine⟨hr,by omega,h2,?_⟩
 unfold nx
 rw[if_neg (by omega),aS (by omega),if_neg dZ,aN hr,aN (by omega)]
theorem Cw{p:Int}(h0:0<=p)(h1:p<(g.length:Int))(dZ:(g[p.toNat]'(by omega)).length=0):nx g rs p= -1:=by
 unfold nx
 rw[if_neg (by omega),aS (by omega),if_pos dZ]
theorem NF{p:Int}(h:p<0):nx g rs p= -1:=by unfold nx;rw[if_pos h]
theorem abG(W:gj g (rs,a)){p:Int}(h1:p<(g.length:Int)): -1<=nx g rs p/\nx g rs p<(g.length:Int):=by
 by_cases h0:p<0
 ·rw[NF h0];omega
 by_cases dZ:(g[p.toNat]'(by omega)).length=0
 ·rw[Cw (by omega) h1 dZ];omega
 ·obtain⟨hr,hm,h2,e⟩:=wm W (by omega) h1 dZ
  rw[e]
  have:=(aT W.bE (List.getElem_mem (show p.toNat<g.length by omega))).2 _ (List.getElem_mem hm)
  omega
theorem kI(W:gj g (rs,a)){p:Int}(h0:0<=p)(h1:p<(g.length:Int)):∀k,-1<=cR g rs p k/\cR g rs p k<(g.length:Int)
 |0=>by simp only[cR];omega
 |k+1=>by simp only[cR];exact abG W (kI W h0 h1 k).2
theorem E5{p:Int}{k:Nat}(h:cR g rs p k<0):∀m,cR g rs p (k+m)<0
 |0=>h
 |m+1=>by
  rw[<-Nat.add_assoc,cR,NF (E5 h m)]
  omega
theorem fI{p:Int}{k m:Nat}(h:cR g rs p k<0)(hm:k<=m):cR g rs p m<0:=by
 have:=E5 h (m-k)
 rwa [show k+(m-k)=m by omega]at this
theorem mc{p:Int}{i j:Nat}(h:cR g rs p i=cR g rs p j):∀m,cR g rs p (i+m)=cR g rs p (j+m)
 |0=>h
 |m+1=>by rw[<-Nat.add_assoc,<-Nat.add_assoc,cR,cR,mc h m]
theorem sd{p:Int}{i d:Nat}(h:cR g rs p i=cR g rs p (i+d))(r:Nat):∀c,cR g rs p (i+r+d*c)=cR g rs p (i+r)
 |0=>rfl
 |c+1=>by
  have:=mc h (r+d*c)
  rw[show i+r+d*(c+1)=i+d+(r+d*c) by rw[Nat.mul_succ];omega,<-this,<-Nat.add_assoc]
  exact sd h r c
theorem wo{p:Int}{i d:Nat}(h:cR g rs p i=cR g rs p (i+d))(r:Nat):cR g rs p (i+r)=cR g rs p (i+r%d):=by
 have:=sd h (r%d) (r/d)
 rw[Nat.add_assoc,Nat.mod_add_div]at this
 exact this
theorem sf(W:gj g (rs,a)){p:Int}(h0:0<=p)(h1:p<(g.length:Int))(h:0<=cR g rs p g.length):∃i d,1<=d/\i+d<=g.length/\cR g rs p i=cR g rs p (i+d):=by
 have hn:∀k,k<=g.length->0<=cR g rs p k:=fun k hk=>by
  by_cases hx:cR g rs p k<0
  ·have:=fI hx hk;omega
  ·omega
 obtain⟨i,j,e1,e2,e3⟩:=php g.length (fun k=>(cR g rs p k).toNat) fun k hk=>by
  have:=hn k hk
  have:=(kI W h0 h1 k).2
  (try simp only)
  omega
 refine⟨i,j-i,by omega,by omega,?_⟩
 rw[show i+(j-i)=j by omega]
 have:=hn i (by omega)
 have:=hn j e2
 (try simp only at e3)
 omega
theorem xK(W:gj g (rs,a)){p:Int}(h0:0<=p)(h1:p<(g.length:Int))(h:0<=cR g rs p g.length)(k:Nat):0<=cR g rs p k:=by
 have hn:∀k,k<=g.length->0<=cR g rs p k:=fun k hk=>by
  by_cases hx:cR g rs p k<0
  ·have:=fI hx hk;omega
  ·omega
 obtain⟨i,d,e1,e2,e3⟩:=sf W h0 h1 h
 by_cases hk:k<=g.length
 ·exact hn k hk
 ·have:=wo e3 (k-i)
  rw[show i+(k-i)=k by omega]at this
  rw[this]
  have:=Nat.mod_lt (k-i) (show 0<d by omega)
  exact hn _ (by omega)
theorem Rl{p:Int}{i d n:Nat}(h:cR g rs p i=cR g rs p (i+d))(hd:1<=d)(hi:i<=n)(x:Int):x∈(List.range d).map (fun r=>cR g rs p (i+r))↔∃k,n<=k/\cR g rs p k=x:=by
 simp only[List.mem_map,List.mem_range]
 constructor
 ·rintro⟨r,hr,rfl⟩
  refine⟨i+r+d*n,?_,sd h r n⟩
  have:1*n<=d*n:=Nat.mul_le_mul_right _ hd
  omega
 ·rintro⟨k,hk,rfl⟩
  refine⟨(k-i)%d,Nat.mod_lt _ hd,?_⟩
  rw[<-wo h]
  congr 1
  omega
end
structure vn(g:List (List Int))(rs:List Int)(p:Int)(i d:Nat):Prop where
 d1:1<=d
 eq:cR g rs p i=cR g rs p (i+d)
 inj:∀a b,a<b->b<i+d->cR g rs p a≠cR g rs p b
theorem me{S S':Nat->Prop}{h:Heap}{g w:Sl}{aD:List (List Int)}{rs:List Int}{a:Int}(G:bU S h g aD)(H:aQ S' h w rs)(W:gj aD (rs,a)){p:Int}(h0:0<=p)(h1:p<(aD.length:Int)):vf Tryz.prog 230 #[.agg #[g.v],w.v,VI p] h (VI (nx aD rs p)):=by
 intro K HK
 refine ahk g w p h K ⟨G.bB h0 h1,fun b1 h2 eD f2 bW=> ?_⟩
 have f2:=f2.aF
 have G2:=G.no f2
 have H2:=H.no f2
 obtain⟨si,c1,r1⟩:=G2.get h0 h1
 refine⟨si,c1,fun e=> ?_,fun e=> ?_⟩
 ·simp only[decide_eq_true_eq]at e
  rw[Cw h0 h1 (by have:=r1.len;omega)]at HK
  exact HK h2 f2
 ·simp only[decide_eq_false_iff_not]at e
  obtain⟨hr,hm,e2,e3⟩:=wm W h0 h1 (by have:=r1.len;omega)
  rw[e3]at HK
  exact⟨G2.bB h0 h1,si,c1,H2.bB h0 (by omega),_,H2.get h0 (by omega),r1.bB e2 (by omega),_,r1.get e2 (by omega),HK h2 f2⟩
theorem VD{S S':Nat->Prop}{h:Heap}{g w:Sl}{aD:List (List Int)}{rs:List Int}{a:Int}(G:bU S h g aD)(H:aQ S' h w rs)(W:gj aD (rs,a)){p:Int}(h0:0<=p)(h1:p<(aD.length:Int)):vf Tryz.prog 256 #[.agg #[g.v],w.v,VI p] h (VI (nx aD rs p)):=by
 intro K HK
 refine ahI g w p h K ⟨G.bB h0 h1,fun b1 h2 eD f2 bW=> ?_⟩
 have f2:=f2.aF
 have G2:=G.no f2
 have H2:=H.no f2
 obtain⟨si,c1,r1⟩:=G2.get h0 h1
 refine⟨si,c1,fun e=> ?_,fun e=> ?_⟩
 ·simp only[decide_eq_true_eq]at e
  rw[Cw h0 h1 (by have:=r1.len;omega)]at HK
  exact HK h2 f2
 ·simp only[decide_eq_false_iff_not]at e
  obtain⟨hr,hm,e2,e3⟩:=wm W h0 h1 (by have:=r1.len;omega)
  rw[e3]at HK
  exact⟨G2.bB h0 h1,si,c1,H2.bB h0 (by omega),_,H2.get h0 (by omega),r1.bB e2 (by omega),_,r1.get e2 (by omega),HK h2 f2⟩
theorem La{S S':Nat->Prop}{h:Heap}{g w:Sl}{aD:List (List Int)}{rs:List Int}{a:Int}(G:bU S h g aD)(H:aQ S' h w rs)(W:gj aD (rs,a)){p:Int}(h0:0<=p)(h1:p<(aD.length:Int))(K:Value->Heap->Prop)
 (HN:cR aD rs p aD.length<0->∀h',Fr No h h'->K (.tuple #[aC.v,VB false]) h')
 (HS:0<=cR aD rs p aD.length->∀t xs h',(∀x,x∈xs↔∃k,aD.length<=k/\cR aD rs p k=x)->aQ (fun _=>True) h' t xs->Fr No h h'->K (.tuple #[t.v,VB true]) h'):aE Tryz.prog 228 #[.agg #[g.v],w.v,VI p] h K:=by
 refine v228 g w p h K fun b1 h2 eD f2 bW=> ?_
 have f2:=f2.aF
 have l1:b1<h2.size:=bW.head.lt
 have z2:=f2.size
 have Rb:=aO W.bE
 refine⟨fun n p' i h'=>0<=i/\i+n=(aD.length:Int)/\p'=cR aD rs p i.toNat/\0<=p'/\Fr No h h'/\h2.size<=h'.size,⟨aD.length,by omega,by omega,rfl,h0,f2,Nat.le_refl _⟩,?_⟩
 rintro n p' i h3 ⟨i0,i1,rfl,p0,f3,z3⟩ cF
 have G3:=G.no f3
 have H3:=H.no f3
 refine⟨fun e=> ?_,fun e=> ?_⟩
 ·have hi:=G3.lt e
  refine me G3 H3 W p0 (kI W h0 h1 _).2 _ fun h4 f4=>⟨_,rfl,cF.aB f4,fun e2=> ?_,fun e2=> ?_⟩
  ·simp only[decide_eq_true_eq]at e2
   refine HN ?_ h4 (f3.aA f4)
   exact fI (k:=i.toNat+1) (by rw[cR];exact e2) (by omega)
  ·simp only[decide_eq_false_iff_not]at e2
   rw[G3.succ i0 hi]
   exact⟨n-1,by omega,by omega,by omega,by rw[qL i0,cR],by omega,f3.aA f4,by have:=f4.size;omega⟩
 have hi:=G3.ge e
 have ei:i.toNat=aD.length:=by omega
 rw[ei]at p0
 rw[ei]
 obtain⟨i9,d,d1,d2,d3⟩:=sf W h0 h1 p0
 have hd:cR aD rs p aD.length=cR aD rs p (aD.length+d):=by
  have:=mc d3 (aD.length-i9)
  rw[show i9+(aD.length-i9)=aD.length by omega,show i9+d+(aD.length-i9)=aD.length+d by omega]at this
  exact this
 refine aP fx (fun k=>h3.size<=k) (fun _ h=>h) 1 (by omega) [VI (cR aD rs p aD.length)] rfl rfl fun t h4 n4 c4 o4 f4 m4 _=>⟨t,rfl,cF.aB f4,?_⟩
 have z4:=f4.size
 have jx:=f3.aA f4
 refine me (G.no jx) (H.no jx) W p0 (kI W h0 h1 _).2 _ fun h5 f5=>⟨_,rfl,(cF.aB f4).aB f5,?_⟩
 have z5:=f5.size
 have pR:=jx.aA f5
 refine⟨fun n x q h'=>∃m,1<=m/\m<=d/\n=d-m/\q=cR aD rs p (aD.length+m)/\bR h' (fun k=>h3.size<=k) x ((List.range m).map fun r=>cR aD rs p (aD.length+r))/\Fr No h h'/\h3.size<=h'.size,⟨d-1,1,Nat.le_refl _,d1,rfl,rfl,by show Ow _ _ _ _ _ _;simpa using Ow.no o4 f5,pR,by omega⟩,?_⟩
 rintro n x q h6 ⟨m,m1,m2,rfl,rfl,o6,f6,z6⟩ jG
 refine⟨fun e=> ?_,fun e=> ?_⟩
 ·have e:=bD e
  simp only[decide_eq_false_iff_not]at e
  have jF:m≠d:=fun h=>e (by rw[h];exact hd.symm)
  refine aP fx (fun k=>h6.size<=k) (fun _ h=>h) 1 (by omega) [VI (cR aD rs p (aD.length+m))] rfl rfl fun u h7 n7 c7 o7 f7 m7 _=>⟨u,rfl,jG.aB f7,?_⟩
  have z7:=f7.size
  have r7:aQ u.own h7 u [cR aD rs p (aD.length+m)]:=o7.rd
  have hxn:x.n=m:=by have:=aQ.len (Ow.eQ o6:aQ _ h6 x _);simpa using this
  refine bL fx (Ow.no o6 f7) (fun k hk=>by omega) r7 (fc _) (by have:=r7.len;simp at this;omega) fun y h8 n8 o8 f8 d8=>⟨y,rfl,(jG.aB f7).fr f8 (fun p hp hk=>by
   simp only[List.mem_cons,List.not_mem_nil,or_false]at hp
   subst hp
   have:=(o6.aH hk).1
   simp only at this
   omega),?_⟩
  have z8:=f8.size
  have E3:Fr No h h8:=(f6.aA f7).fresh f8 fun k hk=>by have:=(o6.aH hk).1;omega
  refine me (G.no E3) (H.no E3) W (xK W h0 h1 p0 _) (kI W h0 h1 _).2 _ fun h9 f9=>⟨_,rfl,((jG.aB f7).fr f8 (fun p hp hk=>by
   simp only[List.mem_cons,List.not_mem_nil,or_false]at hp
   subst hp
   have:=(o6.aH hk).1
   simp only at this
   omega)).aB f9,?_⟩
  have z9:=f9.size
  rw[<-List.map_append]at o8
  refine⟨d-(m+1),by omega,m+1,by omega,by omega,rfl,by rw[<-Nat.add_assoc,cR],?_,E3.aA f9,by omega⟩
  rw[List.range_succ,List.map_append,List.map_cons,List.map_nil]
  exact Ow.no o8 f9
 ·have e:=aZ e
  simp only[decide_eq_true_eq]at e
  exact HS p0 x _ h6 (Rl e.symm m1 (Nat.le_refl _)) ((Ow.eQ o6:aQ _ h6 x _).mono fun _ _=>trivial) f6
theorem Cx{S S':Nat->Prop}{h:Heap}{g w:Sl}{aD:List (List Int)}{rs:List Int}{a:Int}(G:bU S h g aD)(H:aQ S' h w rs)(W:gj aD (rs,a)){p:Int}(h0:0<=p)(h1:p<(aD.length:Int))(K:Value->Heap->Prop)
 (HN:cR aD rs p aD.length<0->∀h',Fr No h h'->K (.tuple #[aC.v,VB false]) h')
 (HS:0<=cR aD rs p aD.length->∀i d t h',vn aD rs p i d->i+d<=aD.length->aQ (fun _=>True) h' t ((List.range d).map fun r=>cR aD rs p (i+r))->Fr No h h'->K (.tuple #[t.v,VB true]) h'):aE Tryz.prog 204 #[.agg #[g.v],w.v,VI p] h K:=by
 refine agJ g w p h K fun b1 h2 eD f2 bW=> ?_
 have f2:=f2.aF
 have l1:b1<h2.size:=bW.head.lt
 have z2:=f2.size
 have Rb:=aO W.bE
 refine aP fx (fun k=>h2.size<=k) (fun _ h=>h) 0 (by omega) [] rfl rfl fun t0 h3 n3 c3 o3 f3 m3 _=>⟨t0,rfl,bW.aB f3,?_⟩
 have z3:=f3.size
 refine⟨fun n p' x h'=>∃m,m<=aD.length/\n=aD.length-m/\p'=cR aD rs p m/\(∀k,k<=m->0<=cR aD rs p k)/\bR h' (fun k=>h2.size<=k) x ((List.range m).map fun r=>cR aD rs p r)/\(∀i j,i<j->j<m->cR aD rs p i≠cR aD rs p j)/\Fr No h h'/\h2.size<=h'.size,⟨aD.length,0,by omega,rfl,rfl,fun k hk=>by obtain rfl:k=0:=(by omega);exact h0,by show Ow _ _ _ _ _ _;simpa using o3,fun i j _ h=>by omega,f2.aA f3,z3⟩,?_⟩
 rintro n p' x h4 ⟨m,hm,rfl,rfl,VE,o4,hd,f4,z4⟩ dS
 have r4:aQ (fun k=>h2.size<=k) h4 x _:=o4.eQ
 refine E4 r4 _ _ ⟨_,rfl,dS,fun e=> ?_,fun e=> ?_⟩
 ·have e:=bD e
  simp only[decide_eq_false_iff_not,List.mem_map,List.mem_range]at e
  have hd2:∀i j,i<j->j<m+1->cR aD rs p i≠cR aD rs p j:=fun i j a b h=>by
   by_cases hj:j<m
   ·exact hd i j a hj h
   ·obtain rfl:j=m:=by omega
    exact e ⟨i,a,h⟩
  have JC:m+1<=aD.length:=by
   by_cases hx:m+1<=aD.length
   ·exact hx
   ·exfalso
    obtain⟨i,j,e1,e2,e3⟩:=php aD.length (fun k=>(cR aD rs p k).toNat) fun k hk=>by
     have:=VE k (by omega)
     have:=(kI W h0 h1 k).2
     (try simp only)
     omega
    have a1:=VE i (by omega)
    have a2:=VE j (by omega)
    (try simp only at e3)
    exact hd2 i j e1 (by omega) (by omega)
  refine aP fx (fun k=>h4.size<=k) (fun _ h=>h) 1 (by omega) [VI (cR aD rs p m)] rfl rfl fun u h5 n5 c5 o5 f5 m5 _=>⟨u,rfl,dS.aB f5,?_⟩
  have z5:=f5.size
  have r5:aQ u.own h5 u [cR aD rs p m]:=o5.rd
  have hxn:x.n=m:=by have:=r4.len;simpa using this
  refine bL fx (Ow.no o4 f5) (fun k hk=>by omega) r5 (fc _) (by have:=r5.len;simp at this;omega) fun y h6 n6 o6 f6 d6=> ?_
  have jG:=(dS.aB f5).fr f6 (fun p hp hk=>by
   simp only[List.mem_cons,List.not_mem_nil,or_false]at hp
   subst hp
   have:=(o4.aH hk).1
   simp only at this
   omega)
  have z6:=f6.size
  have xF:Fr No h h6:=(f4.aA f5).fresh f6 fun k hk=>by have:=(o4.aH hk).1;omega
  refine⟨y,rfl,jG,VD (G.no xF) (H.no xF) W (VE m (Nat.le_refl _)) (kI W h0 h1 _).2 _ fun h7 f7=>⟨_,rfl,jG.aB f7,fun e2=> ?_,fun e2=> ?_⟩⟩
  ·simp only[decide_eq_true_eq]at e2
   exact HN (fI (k:=m+1) (by rw[cR];exact e2) JC) h7 (xF.aA f7)
  ·simp only[decide_eq_false_iff_not]at e2
   have z7:=f7.size
   rw[<-List.map_append]at o6
   refine⟨aD.length-(m+1),by omega,m+1,JC,rfl,by rw[cR],fun k hk=> ?_,?_,hd2,xF.aA f7,by omega⟩
   ·by_cases aI:k<=m
    ·exact VE k aI
    ·obtain rfl:k=m+1:=by omega
     rw[cR];omega
   ·rw[List.range_succ,List.map_append,List.map_cons,List.map_nil]
    exact Ow.no o6 f7
 ·have e:=aZ e
  simp only[decide_eq_true_eq]at e
  refine xJ r4 _ _ (fun hn=>absurd e hn) fun i hi ei hj=>⟨_,rfl,dS,ia fx .i64 (by omega) (by have:=r4.len;omega) ⟨_,rfl,?_⟩⟩
  have wq:i<m:=by simpa using hi
  rw[aN hi]at ei
  simp only[List.getElem_map,List.getElem_range]at ei
  have xL:cR aD rs p i=cR aD rs p (i+(m-i)):=by rw[show i+(m-i)=m by omega];exact ei
  have VF:∀k,0<=cR aD rs p k:=fun k=>by
   by_cases hk:k<=m
   ·exact VE k hk
   ·have:=wo xL (k-i)
    rw[show i+(k-i)=k by omega]at this
    rw[this]
    have:=Nat.mod_lt (k-i) (show 0<m-i by omega)
    exact VE _ (by omega)
  have hx:((((List.range m).map fun r=>cR aD rs p r).drop i).take (x.n-i))=(List.range (m-i)).map fun r=>cR aD rs p (i+r):=by
   have hxn:x.n=m:=by have:=r4.len;simpa using this
   apply List.ext_getElem
   ·simp;omega
   ·intro j a b
    simp
  have hc:=aQ.cut r4 (l:=i) (m:=x.n) (by have:=r4.len;omega) (by have:=r4.len;omega)
  rw[hx]at hc
  exact HS (VF _) i (m-i) _ h4 ⟨by omega,xL,fun a b e1 e2=>hd a b e1 (by omega)⟩ (by omega) (hc.mono fun _ _=>trivial) f4
theorem Cy{P:Program}{t:TypeId}{K:Value->Prop}(k:IntKind)(a b:Int)(H:K (.int k (bits .and k a b))):pop P (gL .and t (.int k a) (.int k b)) K:=
 .mk' (fun w=>by simp[gL,eqGuard,binOp,intBits_and,bind,Sem.bind,pure,Sem.run]) H
theorem sr{P:Program}{t:TypeId}{K:Value->Prop}(k:IntKind)(a b:Int)(hb:0<=b)(H:K (.int k (a.fdiv (2^(min b.toNat k.bits))))):pop P (gL .shr t (.int k a) (.int k b)) K:=
 .mk' (fun w=>by simp[gL,eqGuard,binOp,Op.shift,show¬b<0 by omega,bind,Sem.bind,pure,Sem.run]) H
theorem jI{P:Program}{src dst:TypeId}{k k':IntKind}(hs:P.underlying src=some (.int k))(hd:P.underlying dst=some (.int k')){h:Heap}{K:Value->Prop}(n:Int)(H:K (.int k' (k'.wrap n))):zN P (convert src dst (.int k n)) h K:=by
 have hk:P.intKind dst=k':=by simp[Program.intKind,hd]
 refine⟨_,fun w hw=>run_convert_int w src dst k n (by simp[hs]) (by rw[hk];exact hd),?_⟩
 rw[hk]
 exact H
theorem NG{s:Sl}(h:s.n<=s.c):s.cut 1 0 s.n s.c=s:=by
 obtain⟨a,n,c⟩:=s
 unfold Sl.cut
 cases a with
 |none=>simp
 |some a=>simp[BZ]
theorem E6{P:Program}{t t2 e ty:TypeId}{bs:Nat}{z:List Value}(T:mX P t=some (e,1,bs,z)){h:Heap}{F S:Nat->Prop}{s x:Sl}{vs us:List Value}(H:Ow h F e 1 s vs)(X:cM S h 1 x us)(hp:us.all fp=true)(l m:Nat)(hl:l<=s.n)(hm:m=min x.n (s.n-l))
 {K:Value->Heap->Prop} (HK:∀h',Ow h' F e 1 s (vs.take l++us.take m++vs.drop (l+m))->Fr s.own h h'->K (VI m) h'):jQ P (Builtin.copy_ #[t,t2] ty #[(s.cut 1 l s.n s.c).v,x.v]) h K:=by
 obtain⟨hu,i,zv,hi,qv,rfl,hz,hzc,TZ,_,hbs,MB,QM⟩:=ja T
 refine⟨fun w hw=> ?_⟩
 subst hw
 have VG:(P.info? e).map (·.size)=some 1:=by rw[hi];simp[qv]
 have Qc:=H.len
 have hul:=X.len
 by_cases h0:m=0
 ·subst h0
  have hr:=run_copy_none (P:=P) w t t2 ty e (s.cut 1 l s.n s.c).a x.a (s.cut 1 l s.n s.c).n (s.cut 1 l s.n s.c).c x.n x.c hu VG (by simp only[Sl.cut];exact hm.symm)
  refine⟨_,w,hr,cN.refl w,HK w.heap ?_ (Fr.refl _ _)⟩
  simpa using H
 ·rcases H.out with⟨rfl,rfl⟩|⟨g,o,j3,ha,hF,hg,h1,h2,h3,h4⟩
  ·simp[aC]at hm;omega
  ·obtain⟨a,hxa,_,_⟩:=X.cell 0 (by omega)
   have hcl:s.c≠l:=by omega
   have hda:(s.cut 1 l s.n s.c).a=some ⟨g,o+l,none⟩:=by simp[Sl.cut,hcl,ha,qM]
   have hr:=run_copy_row (P:=P) w t t2 ty e g (o+l) (s.n-l) (s.c-l) a x.n x.c j3 e (us.take m) hu VG hg (by rw[List.length_take,hm];simp only[Nat.min_def];split<;>split<;>omega) (fun j v hj=>by
    obtain⟨VH,rfl⟩:=List.getElem?_eq_some_iff.1 hj
    have aiG:j<us.length:=by simp at VH;omega
    obtain⟨a',GB,_,hc⟩:=X.cell j aiG
    rw[hxa]at GB
    obtain rfl:a=a':=by simpa using GB
    simp only[List.getElem_take]
    exact hc) (by simp;omega) (fun u hu=>by
    have:=List.all_eq_true.1 hp u (List.mem_of_mem_take hu)
    cases u<;>simp[fp]at this<;>rfl)
   have hml:(us.take m).length=m:=by simp;omega
   rw[hml]at hr
   have hv:(s.cut 1 l s.n s.c).v= .slice (some ⟨g,o+l,none⟩) (s.n-l) (s.c-l):=by simp only[Sl.v,hda];rfl
   have hxv:x.v= .slice (some a) x.n x.c:=by simp only[Sl.v,hxa]
   rw[<-hv,<-hxv]at hr
   refine⟨_,_,hr,⟨rfl,rfl,rfl⟩,HK _ ⟨?_,.inr ⟨g,o,_,ha,hF,setRow_heap w g j3 _ e _ hg,h1,h2,?_,?_⟩⟩ ⟨by simp[World.setRow],fun k _ hk=>setRow_other w g k _ (fun e=>hk (by simp[Sl.own,ha,e]))⟩⟩
   ·simp;omega
   ·simp;omega
   ·have hol:(j3.toList.take (o+l)).length=o+l:=by simp;omega
    simp only[Nat.mul_one]at h4 Qc⊢
    have e1:(j3.toList.take (o+l)++us.take m++j3.toList.drop (o+l+m)).drop o=vs.take l++us.take m++j3.toList.drop (o+l+m):=by
     rw[List.append_assoc,List.drop_append_of_le_length (by omega),List.drop_take,show o+l-o=l by omega,<-h4,List.take_take,Nat.min_eq_left hl,List.append_assoc]
    (try simp only[List.toList_toArray])
    rw[e1,List.take_append,List.take_of_length_le (by simp;omega)]
    congr 1
    have e2:(vs.take l++us.take m).length=l+m:=by simp;omega
    rw[e2,<-h4,List.drop_take,List.drop_drop,Nat.add_assoc]
theorem Lb{P:Program}{t t2 e ty:TypeId}{bs:Nat}{z:List Value}(T:mX P t=some (e,1,bs,z)){h:Heap}{F S:Nat->Prop}{s x:Sl}{vs us:List Value}(H:Ow h F e 1 s vs)(X:cM S h 1 x us)(hp:us.all fp=true)(m:Nat)(hm:m=min x.n s.n)
 {K:Value->Heap->Prop} (HK:∀h',Ow h' F e 1 s (us.take m++vs.drop m)->Fr s.own h h'->K (VI m) h'):jQ P (Builtin.copy_ #[t,t2] ty #[s.v,x.v]) h K:=by
 have:=E6 (t2:=t2) (ty:=ty) T H X hp 0 m (by omega) (by simpa using hm) (K:=K) fun h' o f=>HK h' (by simpa using o) f
 rw[NG H.cap.1]at this
 exact this
theorem Lc(a n:Int)(ha:a=1)(h0:0<=n)(h1:n<=100):bits .and .u64 a 4294967295=1/\bits .and .u64 n 4294967295=n/\bits .and .u64 0 4294967295=0:=by
 subst ha
 refine⟨by decide,?_,by decide⟩
 have key:∀k:Fin 101,bits .and .u64 (k.val:Int) 4294967295=(k.val:Int):=by decide
 have:=key ⟨n.toNat,by omega⟩
 simp only[show((n.toNat:Nat):Int)=n by omega]at this
 exact this
theorem tL{n:Int}(h0:0<=n)(h1:n<18446744073709551616):IntKind.u64.wrap n=n:=by
 simp only[IntKind.wrap,IntKind.bits,IntKind.signed]
 simp
 omega
theorem kJ{n:Int}(h0:0<=n)(h1:n<4294967296):n.fdiv (2^(min (32:Int).toNat IntKind.u64.bits))=0:=by
 have e:(2:Int)^(min (32:Int).toNat IntKind.u64.bits)=4294967296:=by decide
 rw[e,Int.fdiv_eq_ediv_of_nonneg _ (by omega)]
 omega
theorem Rm(n:Int)(h0:0<=n)(h1:n<=100)(h:Heap)(K:Value->Heap->Prop)(HK:K (.tuple #[.int .u64 0,.int .u64 n]) h):aE Tryz.prog 288 #[.int .u64 1,.int .u64 n] h K:=by
 obtain⟨m1,m2,m3⟩:=Lc 1 n rfl h0 h1
 refine aif 1 n h K (Cy _ _ _ ⟨1,by rw[m1],sr _ _ _ (by omega) ⟨0,by rw[kJ (by omega) (by omega)],Cy _ _ _ ⟨n,by rw[m2],sr _ _ _ (by omega) ⟨0,by rw[kJ (by omega) (by omega)],?_⟩⟩⟩⟩)
 have u0:IntKind.u64.wrap 0=0:=tL (by omega) (by omega)
 have un:IntKind.u64.wrap n=n:=tL h0 (by omega)
 simp only[Int.one_mul,Int.zero_mul,Int.mul_zero,Int.zero_add,Int.add_zero,u0,un]
 refine sr _ _ _ (by omega) ⟨0,by rw[kJ (by omega) (by omega)],?_⟩
 simp only[Int.one_mul,Int.zero_mul,Int.mul_zero,Int.zero_add,Int.add_zero,u0,un]
 refine Cy _ _ _ ⟨0,by rw[m3],sr _ _ _ (by omega) ⟨0,by rw[kJ (by omega) (by omega)],?_⟩⟩
 simp only[Int.one_mul,Int.zero_mul,Int.mul_zero,Int.zero_add,Int.add_zero,u0,un]
 refine sr _ _ _ (by omega) ⟨0,by rw[kJ (by omega) (by omega)],?_⟩
 simp only[Int.one_mul,Int.zero_mul,Int.mul_zero,Int.zero_add,Int.add_zero,u0,un]
 exact HK
theorem abI(n:Int)(h0:0<=n)(h1:n<=100)(h:Heap)(K:Value->Heap->Prop)(HK:K (.tuple #[.int .u64 0,.int .u64 n]) h):aE Tryz.prog 282 #[.int .u64 1,.int .u64 n] h K:=
 aid 1 n h K (Rm n h0 h1 h _ ⟨_,_,rfl,.nil,HK⟩)
theorem xM{S:Nat->Prop}{h:Heap}{x:Sl}(v:Int)(X:aQ S h x [v])(n:Nat)(h1:1<=n)(h8:n<=100)(K:Value->Heap->Prop)(HK:∀t h',bR h' (Iv h.size h'.size) t (List.replicate n v)->Fr No h h'->K t.v h'):aE Tryz.prog 267 #[x.v,VI n] h K:=by
 have hx1:x.n=1:=by have:=X.len;simpa using this
 refine ah2 x n h K ⟨fun h'=>h'=h,⟨fun e=>by simp only[decide_eq_true_eq]at e;omega,fun _=>rfl⟩,?_⟩
 rintro _ rfl _
 refine jI (k:= .i64) (k':= .u64) (show Tryz.prog.underlying 3=some (.int .i64)from by kernel_rfl) (show Tryz.prog.underlying 166=some (.int .u64)from by kernel_rfl) _ ⟨1,by rw[hx1];rfl,jI (k:= .i64) (k':= .u64) (show Tryz.prog.underlying 3=some (.int .i64)from by kernel_rfl) (show Tryz.prog.underlying 166=some (.int .u64)from by kernel_rfl) _ ⟨n,by rw[tL (by omega) (by omega)],?_⟩⟩
 refine abI n (by omega) (by omega) _ _ ⟨_,_,rfl,.nil,⟨fun h'=>h'=_,⟨fun e=>by simp at e,fun _=>⟨fun e=>by simp only[decide_eq_true_eq]at e;omega,fun _=>rfl⟩⟩,?_⟩⟩
 rintro _ rfl _
 refine jI (k:= .u64) (k':= .i64) (show Tryz.prog.underlying 166=some (.int .u64)from by kernel_rfl) (show Tryz.prog.underlying 3=some (.int .i64)from by kernel_rfl) _ ⟨n,by rw[show IntKind.i64.wrap (n:Int)=n from aG n (by omega) (by omega)],?_⟩
 refine eA fx (fun k=>_<=k) (fun _ h=>h) .i64 .i64 n n (Nat.le_refl _) (by omega) fun t UN n1 c1 o1 f1 m1 _=>⟨t,rfl,.nil,?_⟩
 have e1:(List.replicate n [VI 0]).flatten=(List.replicate n (0:Int)).map VI:=by simp[List.flatten_replicate_singleton]
 rw[e1]at o1
 have r1:=aQ.no X f1
 have z1:=f1.size
 refine Lb (P:=Tryz.prog) fx o1 r1 (fc _) 1 (by omega) fun h2 o2 f2=>⟨1,rfl,.nil,?_⟩
 have e2:([v].map VI).take 1++((List.replicate n (0:Int)).map VI).drop 1=(List.replicate 1 v++List.replicate (n-1) 0).map VI:=by simp
 rw[e2]at o2
 refine⟨fun q m h'=>∃m':Nat,m=m'/\1<=m'/\m'<=n/\q=n-m'/\bR h' (fun k=>_<=k) t (List.replicate m' v++List.replicate (n-m') 0)/\Fr t.own UN h',⟨n-1,1,rfl,Nat.le_refl _,h1,rfl,o2,f2⟩,?_⟩
 rintro q m h3 ⟨m,rfl,q1,q2,rfl,o3,f3⟩ hL
 refine⟨fun e=> ?_,fun e=> ?_⟩
 ·simp only[decide_eq_true_eq]at e
  have VJ:t.n=n:=n1
  refine ia fx .i64 (by omega) (by omega) ⟨_,rfl,pK fx .i64 (by omega) (by omega) ⟨_,rfl,?_⟩⟩
  simp only[Int.toNat_natCast]
  have r3:aQ t.own h3 t _:=o3.rd
  have rb:=aQ.cut r3 (l:=0) (m:=m) (by omega) (by simp;try omega)
  rw[List.drop_zero,Nat.sub_zero,List.take_left' (by simp)]at rb
  refine E6 (P:=Tryz.prog) fx o3 rb (fc _) m (min m (n-m)) (by omega) (by simp[Sl.cut,VJ]) fun h4 o4 f4=>⟨_,rfl,.nil,?_⟩
  have e4:((List.replicate m v++List.replicate (n-m) 0).map VI).take m++((List.replicate m v).map VI).take (min m (n-m))++((List.replicate m v++List.replicate (n-m) 0).map VI).drop (m+min m (n-m))=(List.replicate (m+min m (n-m)) v++List.replicate (n-(m+min m (n-m))) 0).map VI:=by
   rw[<-List.map_take,<-List.map_take,<-List.map_drop,<-List.map_append,<-List.map_append]
   congr 1
   rw[List.take_left' (by simp),List.take_replicate,List.drop_append,List.drop_of_length_le (by simp),List.nil_append,List.length_replicate,List.drop_replicate,List.replicate_append_replicate]
   congr 2
   ·omega
   ·omega
  rw[e4]at o4
  rw[aG _ (by omega) (by omega)]
  exact⟨n-(m+min m (n-m)),by omega,m+min m (n-m),by omega,by omega,by omega,rfl,o4,f3.trans f4⟩
 ·simp only[decide_eq_false_iff_not]at e
  have VJ:t.n=n:=n1
  obtain rfl:m=n:=by omega
  rw[Nat.sub_self,List.replicate_zero,List.append_nil]at o3
  exact HK t h3 (Ow.fV o3) (f1.fresh f3 m1)
def lu(x:Int):List Int->List Int×List Int->List Int×List Int
 |[],s=>s
 |q::qs,s=>lu x qs (if s.1.getD q.toNat 0<0 then(s.1.set q.toNat (s.1.getD x.toNat 0+1),s.2++[q])else s)
def Cz(g:List (List Int)):Nat->List Int->List Int->List Int
 |0,cT,_=>cT
 |_+1,cT,[]=>cT
 |f+1,cT,x::rest=>Cz g f (lu x (g.getD x.toNat []) (cT,[])).1 (rest++(lu x (g.getD x.toNat []) (cT,[])).2)
def ga(g:List (List Int))(p:Int):List Int:=Cz g g.length ((List.replicate g.length (-1)).set p.toNat 0) [p]
def iT(l:List Int):Nat:=(l.filter fun x=>decide (x<0)).length
theorem xP{l:List Int}{i:Nat}{v:Int}(h:i<l.length)(h1:l[i]<0)(h2:0<=v):iT (l.set i v)+1=iT l:=by
 induction l generalizing i with
 |nil=>simp at h
 |cons x xs ih=>
  cases i with
  |zero=>
   simp only[List.getElem_cons_zero]at h1
   simp only[iT,List.set_cons_zero,List.filter_cons,show¬v<0 by omega,h1,decide_true,decide_false,if_true,Bool.false_eq_true,if_false,List.length_cons]
  |succ i=>
   have:=ih (by simpa using h) (by simpa using h1)
   simp only[iT,List.set_cons_succ,List.filter_cons]at this⊢
   split<;>(try simp only[List.length_cons])<;>simp_all<;>omega
structure Um(n:Nat)(cT:List Int):Prop where
 len:cT.length=n
 lo:∀v,v∈cT-> -1<=v
 hi:∀v,v∈cT->v+iT cT<=n
theorem Um.step{n:Nat}{cT:List Int}(B:Um n cT){x q:Int}(hx:x.toNat<n)(hq:q.toNat<n)(hn:cT.getD q.toNat 0<0):Um n (cT.set q.toNat (cT.getD x.toNat 0+1))/\iT (cT.set q.toNat (cT.getD x.toNat 0+1))+1=iT cT:=by
 have hl:=B.len
 rw[aN (by omega)]at hn
 rw[aN (show x.toNat<cT.length by omega)]
 have h1:=B.lo _ (List.getElem_mem (show x.toNat<cT.length by omega))
 have h2:=B.hi _ (List.getElem_mem (show x.toNat<cT.length by omega))
 have h3:=xP (show q.toNat<cT.length by omega) hn (v:=cT[x.toNat]'(by omega)+1) (by omega)
 refine⟨⟨by simp[hl],fun v hv=> ?_,fun v hv=> ?_⟩,h3⟩
 ·rcases List.mem_or_eq_of_mem_set hv with hv|rfl
  ·exact B.lo v hv
  ·omega
 ·rcases List.mem_or_eq_of_mem_set hv with hv|rfl
  ·have:=B.hi v hv;omega
  ·omega
theorem Ld{g:List (List Int)}{p:Int}(h:g.getD p.toNat []=[]):ga g p=(List.replicate g.length (-1)).set p.toNat 0:=by
 unfold ga
 cases hg:g.length with
 |zero=>rfl
 |succ n=>
  rw[Cz,h]
  cases n<;>rfl
theorem VK{n p:Nat}(hp:p<n):Um n ((List.replicate n (-1)).set p 0)/\iT ((List.replicate n (-1)).set p 0)+1=n:=by
 have h1:iT (List.replicate n (-1))=n:=by
  unfold iT
  rw[List.filter_replicate_of_pos (by decide)]
  simp
 have h2:=xP (l:=List.replicate n (-1)) (i:=p) (v:=0) (by simpa using hp) (by simp) (by omega)
 refine⟨⟨by simp,fun v hv=> ?_,fun v hv=> ?_⟩,by omega⟩
 ·rcases List.mem_or_eq_of_mem_set hv with hv|rfl
  ·simp only[List.mem_replicate]at hv;omega
  ·omega
 ·rcases List.mem_or_eq_of_mem_set hv with hv|rfl
  ·simp only[List.mem_replicate]at hv;omega
  ·omega
theorem NH{g:List (List Int)}(hg:aM g=true){x:Nat}(hx:x<g.length){i:Nat}(hi:i<(g[x]).length):0<=(g[x])[i]/\(g[x])[i]<(g.length:Int):=(aT hg (List.getElem_mem hx)).2 _ (List.getElem_mem hi)
theorem JL{S:Nat->Prop}{h:Heap}{g:Sl}{aD:List (List Int)}(G:bU S h g aD)(hg:aM aD=true){p:Int}(h0:0<=p)(h1:p<(aD.length:Int))(K:Value->Heap->Prop)(HK:∀t h',bR h' (Iv h.size h'.size) t (ga aD p)->(ga aD p).length=aD.length->Fr No h h'->K t.v h'):aE Tryz.prog 271 #[.agg #[g.v],VI p] h K:=by
 refine ah7 g p h K fun b1 h2 eD f2 bW=> ?_
 generalize hR:ga aD p=R at HK
 have f2:=f2.aF
 have l1:b1<h2.size:=bW.head.lt
 have z2:=f2.size
 have Rb:=aO hg
 refine eA fx (fun k=>h2.size<=k) (fun _ h=>h) .i64 .i64 g.n g.n (Nat.le_refl _) (by rw[G.len];omega) fun t h3 n3 c3 o3 f3 m3 _=>⟨t,rfl,bW.aB f3,?_⟩
 have o3:bR h3 (Iv h2.size h3.size) t (List.replicate aD.length 0):=by
  have e:(List.replicate g.n [VI 0]).flatten=(List.replicate aD.length (0:Int)).map VI:=by rw[G.len];simp[List.flatten_replicate_singleton]
  rw[e]at o3;exact Ow.fV o3
 have z3:=f3.size
 have gq:=f2.aA f3
 have VJ:t.n=aD.length:=by rw[n3,G.len]
 have cF:=bW.aB f3
 refine⟨fun n i h'=>0<=i/\i+n=(aD.length:Int)/\bR h' (Iv h2.size h3.size) t (List.replicate i.toNat (-1)++List.replicate n 0)/\Fr (Iv h2.size h3.size) h3 h',⟨aD.length,by omega,by omega,by simpa using o3,Fr.refl _ _⟩,?_⟩
 rintro n i h4 ⟨i0,i1,o4,f4⟩ dS
 refine⟨fun e=> ?_,fun e=> ?_⟩
 ·simp only[decide_eq_true_eq]at e
  obtain⟨w1,w2,w3⟩:=o4.eX i0 (by omega) (VI (-1))
  have oL:Fr (Iv h2.size h3.size) h4 _:=w3.mono fun _ _ hk=>(o4.aH hk).1
  have gh:=dS.iv oL ⟨.inl l1,trivial⟩
  refine⟨o4.bB i0 (by omega),w1,gh,fun h5 e5 _=> ?_⟩
  subst e5
  rw[aG _ (by omega) (by omega)]
  refine⟨n-1,by omega,by omega,by omega,?_,f4.trans oL⟩
  rw[<-List.map_set]at w2
  have e6:(List.replicate i.toNat (-1:Int)++List.replicate n 0).set i.toNat (-1)=List.replicate (i+1).toNat (-1)++List.replicate (n-1) 0:=by
   rw[List.set_append_right _ _ (by simp),List.length_replicate,Nat.sub_self,qL i0,List.replicate_succ',List.append_assoc]
   obtain⟨m,rfl⟩:∃m,n=m+1:=⟨n-1,by omega⟩
   simp[List.replicate_succ]
  rw[e6]at w2
  exact w2
 simp only[decide_eq_false_iff_not]at e
 obtain rfl:n=0:=by omega
 have ei:i.toNat=aD.length:=by omega
 rw[ei,List.replicate_zero,List.append_nil]at o4
 obtain⟨w1,w2,w3⟩:=o4.eX h0 (by omega) (VI 0)
 have oL:Fr (Iv h2.size h3.size) h4 _:=w3.mono fun _ _ hk=>(o4.aH hk).1
 have gh:=dS.iv oL ⟨.inl l1,trivial⟩
 refine⟨o4.bB h0 (by omega),w1,gh,fun h5 e5 _=> ?_⟩
 subst e5
 rw[<-List.map_set]at w2
 have pR:Fr No h _:=(gq.aJ f4 (by omega)).aJ oL (by omega)
 have z4:=f4.size
 have z5:=oL.size
 refine aP fx (fun k=>_<=k) (fun _ h=>h) 1 (by omega) [VI p] rfl rfl fun u h6 n6 c6 o6 f6 m6 _=>⟨u,rfl,gh.aB f6,?_⟩
 have z6:=f6.size
 have xF:=pR.aA f6
 have w6:=Ow.no w2 f6
 obtain⟨B0,N0⟩:=VK (n:=aD.length) (p:=p.toNat) (by omega)
 refine⟨fun n x k h'=>∃(cT dn nk:List Int),0<=k/\k=dn.length/\n=nk.length+iT cT/\dn.length+n=aD.length/\Um aD.length cT/\(∀y,y∈nk->0<=y/\y<(aD.length:Int))/\bR h' (Iv h2.size h3.size) t cT/\bR h' (fun k=>h3.size<=k) x (dn++nk)/\Fr No h h'/\h3.size<=h'.size/\R=Cz aD n cT nk,
  ⟨aD.length,(List.replicate aD.length (-1)).set p.toNat 0,[],[p],by omega,rfl,by simp only[List.length_cons,List.length_nil];omega,by simp,B0,fun y hy=>by simp at hy;omega,w6,by show Ow _ _ _ _ _ _;simpa using o6.mono (F':=fun k=>h3.size<=k) fun k _ hk=>by omega,xF,by omega,hR.symm⟩,?_⟩
 rintro n x k h7 ⟨cT,dn,nk,k0,rfl,rfl,VM,B,hp,o7,q7,f7,z7,eq⟩ jv
 have rq:aQ (fun k=>h3.size<=k) h7 x (dn++nk):=q7.eQ
 refine⟨fun e=> ?_,fun e=> ?_⟩
 ·have hk:=rq.lt e
  rw[List.length_append]at hk
  obtain⟨y,rest,rfl⟩:∃y rest,nk=y::rest:=by
   cases nk with
   |nil=>simp at hk
   |cons y rest=>exact⟨y,rest,rfl⟩
  have hy:=hp y List.mem_cons_self
  have su:y.toNat<aD.length:=by omega
  have hdl:(dn.length:Int)<((dn++y::rest).length:Int):=by simp only[List.length_append,List.length_cons];omega
  have eg:∀hh,(dn++y::rest)[(dn.length:Int).toNat]'hh=y:=by intro hh;simp
  have c0:=rq.get k0 hdl
  rw[eg]at c0
  obtain⟨gi,c1,r1⟩:=G.get hy.1 hy.2
  have NI:(y::rest).length+iT cT=(rest.length+iT cT)+1:=by simp only[List.length_cons];omega
  rw[NI,Cz,aS su]at eq
  refine⟨rq.bB k0 hdl,_,c0,(G.no f7).bB hy.1 hy.2,gi,dD c1 f7 (fun h=>h),?_⟩
  generalize hF:lu y (aD[y.toNat]' su) (cT,[])=Fin at eq
  refine⟨fun m x' j h'=>∃(dJ new:List Int),0<=j/\j+m=((aD[y.toNat]' su).length:Int)/\Um aD.length dJ/\new.length+iT dJ=iT cT/\(∀y,y∈new->0<=y/\y<(aD.length:Int))/\bR h' (Iv h2.size h3.size) t dJ/\bR h' (fun k=>h3.size<=k) x' (dn++y::rest++new)/\Fr No h h'/\h3.size<=h'.size/\Fin=lu y ((aD[y.toNat]' su).drop j.toNat) (dJ,new),
   ⟨(aD[y.toNat]' su).length,cT,[],by omega,by omega,B,by simp,fun y hy=>by simp at hy,o7,by simpa using q7,f7,z7,by simpa using hF.symm⟩,?_⟩
  rintro m x' j h8 ⟨dJ,new,j0,j1,B',hnw,Mu,o8,q8,f8,z8,eF⟩ fO
  have Le:aQ S h8 gi (aD[y.toNat]' su):=aQ.no r1 f8
  have VN:aQ (fun k=>h3.size<=k) h8 x' (dn++y::rest++new):=q8.eQ
  have Lg:aQ (Iv h2.size h3.size) h8 t dJ:=o8.tm
  have L7:=B'.len
  refine⟨fun e2=> ?_,fun e2=> ?_⟩
  ·have hj:=Le.lt e2
   rw[drop_cons _ j0 hj,lu]at eF
   have hq:=NH hg su (show j.toNat<(aD[y.toNat]' su).length by omega)
   refine⟨Le.bB j0 hj,_,Le.get j0 hj,Lg.bB hq.1 (by omega),_,Lg.get hq.1 (by omega),fun e3=> ?_,fun e3=> ?_⟩
   ·simp only[decide_eq_true_eq]at e3
    have NJ:dJ.getD ((aD[y.toNat]' su)[j.toNat]'(by omega)).toNat 0<0:=by rw[aN (by omega)];exact e3
    obtain⟨B2,N2⟩:=B'.step (x:=y) (by omega) (by omega) NJ
    simp only[NJ,if_true]at eF
    have hyv:=B'.hi _ (List.getElem_mem (show y.toNat<dJ.length by omega))
    have aiI:=B'.lo _ (List.getElem_mem (show y.toNat<dJ.length by omega))
    have NK:(dn.length:Int)<((dn++y::rest++new).length:Int):=by simp only[List.length_append,List.length_cons];omega
    have eg8:∀hh,(dn++y::rest++new)[(dn.length:Int).toNat]'hh=y:=by intro hh;simp
    have c8:=VN.get k0 NK
    rw[eg8]at c8
    obtain⟨w1,w2,w3⟩:=o8.eX hq.1 (by have:=Lg.len;omega) (VI (dJ[y.toNat]'(by omega)+1))
    have oL:Fr (Iv h2.size h3.size) h8 _:=w3.mono fun _ _ hk=>(o8.aH hk).1
    have fP:=fO.iv oL ⟨.inl l1,trivial⟩
    refine⟨VN.bB k0 NK,_,c8,Lg.bB hy.1 (by omega),_,Lg.get hy.1 (by omega),Lg.bB hq.1 (by omega),?_⟩
    rw[aG _ (by omega) (by omega)]
    refine⟨w1,fP,fun h9 e9 _=> ?_⟩
    subst e9
    rw[<-List.map_set]at w2
    have z9:=oL.size
    have q9:=Ow.fr q8 oL fun k hk aI=>by have h1:=(q8.aH hk).1;have:=aI.2;(try simp only at h1);omega
    refine aP fx (fun k=>_<=k) (fun _ h=>h) 1 (by omega) [VI ((aD[y.toNat]' su)[j.toNat]'(by omega))] rfl rfl fun v dV Ul c10 mM f10 m10 _=>⟨v,rfl,fP.aB f10,?_⟩
    have zV:=f10.size
    have r10:aQ v.own dV v [(aD[y.toNat]' su)[j.toNat]'(by omega)]:=mM.rd
    have L9:=VN.len
    simp only[List.length_append,List.length_cons]at L9 VM hk
    refine bL fx (Ow.no q9 f10) (fun k hk=>by omega) r10 (fc _) (by have:=r10.len;simp at this;omega) fun w hH n11 lL f11 d11=>⟨w,rfl,(fP.aB f10).fr f11 (fun p hp hk=>by
     simp only[List.mem_cons,List.not_mem_nil,or_false]at hp
     subst hp
     have:=(q8.aH hk).1
     simp only at this
     omega),?_⟩
    have Rj:=f11.size
    rw[<-List.map_append]at lL
    rw[Le.succ j0 hj]
    refine⟨m-1,by omega,dJ.set ((aD[y.toNat]' su)[j.toNat]'(by omega)).toNat (dJ.getD y.toNat 0+1),new++[(aD[y.toNat]' su)[j.toNat]'(by omega)],by omega,by omega,B2,by simp only[List.length_append,List.length_cons,List.length_nil];omega,fun z hz=> ?_,?_,?_,?_,by omega,eF⟩
    ·rcases List.mem_append.1 hz with hz|hz
     ·exact Mu z hz
     ·simp only[List.mem_cons,List.not_mem_nil,or_false]at hz
      rw[hz];exact hq
    ·rw[aN (show y.toNat<dJ.length by omega)]
     exact(Ow.no w2 f10).fr f11 fun k hk aI=>by have h1:=(q8.aH aI).1;have:=(o8.aH hk).1.2;(try simp only at h1);omega
    ·rw[<-List.append_assoc]
     exact lL
    ·exact(((f8.aJ oL (by omega)).aA f10).fresh f11 fun k hk=>by have h1:=(q8.aH hk).1;(try simp only at h1);omega)
   ·simp only[decide_eq_false_iff_not]at e3
    have NJ:¬dJ.getD ((aD[y.toNat]' su)[j.toNat]'(by omega)).toNat 0<0:=by rw[aN (by omega)];exact e3
    simp only[NJ,if_false]at eF
    rw[Le.succ j0 hj]
    exact⟨m-1,by omega,dJ,new,by omega,by omega,B',hnw,Mu,o8,q8,f8,z8,eF⟩
  ·have hj:=Le.ge e2
   rw[List.drop_of_length_le (by omega),lu]at eF
   subst eF
   simp only[List.length_cons]at VM
   rw[aG _ (by omega) (by omega)]
   refine⟨rest.length+iT cT,by simp only[List.length_cons];omega,dJ,dn++[y],rest++new,by omega,by simp,by simp only[List.length_append];omega,by simp only[List.length_append,List.length_cons,List.length_nil];omega,B',fun z hz=> ?_,o8,by simpa using q8,f8,z8,?_⟩
   ·rcases List.mem_append.1 hz with hz|hz
    ·exact hp z (List.mem_cons_of_mem _ hz)
    ·exact Mu z hz
   ·exact eq
 ·have hk:=rq.ge e
  rw[List.length_append]at hk
  obtain rfl:nk=[]:=List.eq_nil_of_length_eq_zero (by omega)
  have e9:R=cT:=by
   rw[eq]
   simp only[List.length_nil,Nat.zero_add]
   cases iT cT<;>rfl
  subst e9
  exact HK t h7 (Ow.P4 o7 (by omega) (by omega)) B.len f7
theorem Ba{S:Nat->Prop}{h:Heap}{g:Sl}{aD:List (List Int)}(G:bU S h g aD)(hg:aM aD=true){p:Int}(h0:0<=p)(h1:p<(aD.length:Int))(K:Value->Heap->Prop)(HK:∀t h',bR h' (Iv h.size h'.size) t (ga aD p)->(ga aD p).length=aD.length->Fr No h h'->K t.v h'):aE Tryz.prog 260 #[.agg #[g.v],VI p] h K:=by
 refine ahO g p h K fun b1 UN eD f1 bY=> ?_
 generalize hR:ga aD p=R at HK
 have f1:=f1.aF
 have l1:b1<UN.size:=bY.head.lt
 have z1:=f1.size
 have Rb:=aO hg
 refine aP fx (fun k=>UN.size<=k) (fun _ h=>h) 1 (by omega) [VI (-1)] rfl rfl fun m1 h2 n2 c2 o2 f2 _ _=>⟨m1,rfl,bY.aB f2,?_⟩
 have r2:aQ (fun k=>UN.size<=k) h2 m1 [-1]:=o2.eQ
 have z2:=f2.size
 have bW:=bY.aB f2
 rw[G.len]
 refine xM (-1) r2 aD.length (by omega) (by omega) _ fun t h3 o3 f3=>⟨t,rfl,bW.aB f3,?_⟩
 have z3:=f3.size
 have gq:=(f1.aA f2).aA f3
 have cF:=bW.aB f3
 have VJ:t.n=aD.length:=by have:=aQ.len (Ow.eQ o3:aQ _ h3 t _);simpa using this
 obtain⟨w1,w2,w3⟩:=o3.eX h0 (by omega) (VI 0)
 have oL:Fr (Iv h2.size h3.size) h3 _:=w3.mono fun _ _ hk=>(o3.aH hk).1
 have gh:=cF.iv oL ⟨.inl (by omega),trivial⟩
 refine⟨o3.bB h0 (by omega),w1,gh,fun h5 e5 _=> ?_⟩
 subst e5
 rw[<-List.map_set]at w2
 have pR:Fr No h _:=gq.aJ oL (by omega)
 have z5:=oL.size
 refine aP fx (fun k=>_<=k) (fun _ h=>h) 1 (by omega) [VI p] rfl rfl fun u h6 n6 c6 o6 f6 m6 _=>⟨u,rfl,gh.aB f6,?_⟩
 have z6:=f6.size
 have xF:=pR.aA f6
 have w6:=Ow.no w2 f6
 obtain⟨B0,N0⟩:=VK (n:=aD.length) (p:=p.toNat) (by omega)
 refine⟨fun n x h'=>∃(cT nk:List Int),n=nk.length+iT cT/\n<=aD.length/\Um aD.length cT/\(∀y,y∈nk->0<=y/\y<(aD.length:Int))/\bR h' (Iv h2.size h3.size) t cT/\bR h' (fun k=>h3.size<=k) x nk/\Fr No h h'/\h3.size<=h'.size/\R=Cz aD n cT nk,
  ⟨aD.length,(List.replicate aD.length (-1)).set p.toNat 0,[p],by simp only[List.length_cons,List.length_nil];omega,Nat.le_refl _,B0,fun y hy=>by simp at hy;omega,w6,by show Ow _ _ _ _ _ _;simpa using o6.mono (F':=fun k=>h3.size<=k) fun k _ hk=>by omega,xF,by omega,hR.symm⟩,?_⟩
 rintro n x h7 ⟨cT,nk,rfl,VM,B,hp,o7,q7,f7,z7,eq⟩ jv
 have rq:aQ (fun k=>h3.size<=k) h7 x nk:=q7.eQ
 have L9:=rq.len
 refine⟨fun e=> ?_,fun e=> ?_⟩
 ·simp only[decide_eq_true_eq]at e
  obtain⟨y,rest,rfl⟩:∃y rest,nk=y::rest:=by
   cases nk with
   |nil=>simp at L9;omega
   |cons y rest=>exact⟨y,rest,rfl⟩
  have hy:=hp y List.mem_cons_self
  have su:y.toNat<aD.length:=by omega
  have hdl:(0:Int)<((y::rest).length:Int):=by simp only[List.length_cons];omega
  have eg:∀hh,(y::rest)[(0:Int).toNat]'hh=y:=by intro hh;simp
  have c0:=rq.get (Int.le_refl 0) hdl
  rw[eg]at c0
  obtain⟨gi,c1,r1⟩:=G.get hy.1 hy.2
  have NI:(y::rest).length+iT cT=(rest.length+iT cT)+1:=by simp only[List.length_cons];omega
  rw[NI,Cz,aS su]at eq
  refine⟨rq.bB (Int.le_refl 0) hdl,_,c0,(G.no f7).bB hy.1 hy.2,gi,dD c1 f7 (fun h=>h),?_⟩
  generalize hF:lu y (aD[y.toNat]' su) (cT,[])=Fin at eq
  refine⟨fun m x' j h'=>∃(dJ new:List Int),0<=j/\j+m=((aD[y.toNat]' su).length:Int)/\Um aD.length dJ/\new.length+iT dJ=iT cT/\(∀y,y∈new->0<=y/\y<(aD.length:Int))/\bR h' (Iv h2.size h3.size) t dJ/\bR h' (fun k=>h3.size<=k) x' (y::rest++new)/\Fr No h h'/\h3.size<=h'.size/\Fin=lu y ((aD[y.toNat]' su).drop j.toNat) (dJ,new),
   ⟨(aD[y.toNat]' su).length,cT,[],by omega,by omega,B,by simp,fun y hy=>by simp at hy,o7,by simpa using q7,f7,z7,by simpa using hF.symm⟩,?_⟩
  rintro m x' j h8 ⟨dJ,new,j0,j1,B',hnw,Mu,o8,q8,f8,z8,eF⟩ fO
  have Le:aQ S h8 gi (aD[y.toNat]' su):=aQ.no r1 f8
  have VN:aQ (fun k=>h3.size<=k) h8 x' (y::rest++new):=q8.eQ
  have Lg:aQ (Iv h2.size h3.size) h8 t dJ:=o8.tm
  have L7:=B'.len
  have aiK:=VN.len
  simp only[List.length_append,List.length_cons]at aiK VM
  refine⟨fun e2=> ?_,fun e2=> ?_⟩
  ·have hj:=Le.lt e2
   rw[drop_cons _ j0 hj,lu]at eF
   have hq:=NH hg su (show j.toNat<(aD[y.toNat]' su).length by omega)
   refine⟨Le.bB j0 hj,_,Le.get j0 hj,Lg.bB hq.1 (by omega),_,Lg.get hq.1 (by omega),fun e3=> ?_,fun e3=> ?_⟩
   ·simp only[decide_eq_true_eq]at e3
    have NJ:dJ.getD ((aD[y.toNat]' su)[j.toNat]'(by omega)).toNat 0<0:=by rw[aN (by omega)];exact e3
    obtain⟨B2,N2⟩:=B'.step (x:=y) (by omega) (by omega) NJ
    simp only[NJ,if_true]at eF
    have hyv:=B'.hi _ (List.getElem_mem (show y.toNat<dJ.length by omega))
    have aiI:=B'.lo _ (List.getElem_mem (show y.toNat<dJ.length by omega))
    have NK:(0:Int)<((y::rest++new).length:Int):=by simp only[List.length_append,List.length_cons];omega
    have eg8:∀hh,(y::rest++new)[(0:Int).toNat]'hh=y:=by intro hh;simp
    have c8:=VN.get (Int.le_refl 0) NK
    rw[eg8]at c8
    obtain⟨w1,w2,w3⟩:=o8.eX hq.1 (by have:=Lg.len;omega) (VI (dJ[y.toNat]'(by omega)+1))
    have oL:Fr (Iv h2.size h3.size) h8 _:=w3.mono fun _ _ hk=>(o8.aH hk).1
    have fP:=fO.iv oL ⟨.inl (by omega),trivial⟩
    refine⟨VN.bB (Int.le_refl 0) NK,_,c8,Lg.bB hy.1 (by omega),_,Lg.get hy.1 (by omega),Lg.bB hq.1 (by omega),?_⟩
    rw[aG _ (by omega) (by omega)]
    refine⟨w1,fP,fun h9 e9 _=> ?_⟩
    subst e9
    rw[<-List.map_set]at w2
    have z9:=oL.size
    have q9:=Ow.fr q8 oL fun k hk aI=>by have h1:=(q8.aH hk).1;have:=aI.2;(try simp only at h1);omega
    refine aP fx (fun k=>_<=k) (fun _ h=>h) 1 (by omega) [VI ((aD[y.toNat]' su)[j.toNat]'(by omega))] rfl rfl fun v dV Ul c10 mM f10 m10 _=>⟨v,rfl,fP.aB f10,?_⟩
    have zV:=f10.size
    have r10:aQ v.own dV v [(aD[y.toNat]' su)[j.toNat]'(by omega)]:=mM.rd
    refine bL fx (Ow.no q9 f10) (fun k hk=>by omega) r10 (fc _) (by have:=r10.len;simp at this;omega) fun w hH n11 lL f11 d11=>⟨w,rfl,(fP.aB f10).fr f11 (fun p hp hk=>by
     simp only[List.mem_cons,List.not_mem_nil,or_false]at hp
     subst hp
     have:=(q8.aH hk).1
     simp only at this
     omega),?_⟩
    have Rj:=f11.size
    rw[<-List.map_append]at lL
    rw[Le.succ j0 hj]
    refine⟨m-1,by omega,dJ.set ((aD[y.toNat]' su)[j.toNat]'(by omega)).toNat (dJ.getD y.toNat 0+1),new++[(aD[y.toNat]' su)[j.toNat]'(by omega)],by omega,by omega,B2,by simp only[List.length_append,List.length_cons,List.length_nil];omega,fun z hz=> ?_,?_,?_,?_,by omega,eF⟩
    ·rcases List.mem_append.1 hz with hz|hz
     ·exact Mu z hz
     ·simp only[List.mem_cons,List.not_mem_nil,or_false]at hz
      rw[hz];exact hq
    ·rw[aN (show y.toNat<dJ.length by omega)]
     exact(Ow.no w2 f10).fr f11 fun k hk aI=>by have h1:=(q8.aH aI).1;have:=(o8.aH hk).1.2;(try simp only at h1);omega
    ·rw[<-List.append_assoc]
     exact lL
    ·exact(((f8.aJ oL (by omega)).aA f10).fresh f11 fun k hk=>by have h1:=(q8.aH hk).1;(try simp only at h1);omega)
   ·simp only[decide_eq_false_iff_not]at e3
    have NJ:¬dJ.getD ((aD[y.toNat]' su)[j.toNat]'(by omega)).toNat 0<0:=by rw[aN (by omega)];exact e3
    simp only[NJ,if_false]at eF
    rw[Le.succ j0 hj]
    exact⟨m-1,by omega,dJ,new,by omega,by omega,B',hnw,Mu,o8,q8,f8,z8,eF⟩
  ·have hj:=Le.ge e2
   rw[List.drop_of_length_le (by omega),lu]at eF
   subst eF
   refine ia fx .i64 (by omega) (by omega) ⟨_,rfl,?_⟩
   have qc:=q8.cut (l:=1) (m:=x'.n) (by omega) (Nat.le_refl _)
   have ec:(((y::rest++new).map VI).drop (1*1)).take ((x'.n-1)*1)=(rest++new).map VI:=by
    rw[List.take_of_length_le (by simp;omega)]
    rfl
   rw[ec]at qc
   refine⟨rest.length+iT cT,by simp only[List.length_cons];omega,dJ,rest++new,by simp only[List.length_append];omega,by omega,B',fun z hz=> ?_,o8,qc,f8,z8,?_⟩
   ·rcases List.mem_append.1 hz with hz|hz
    ·exact hp z (List.mem_cons_of_mem _ hz)
    ·exact Mu z hz
   ·exact eq
 ·simp only[decide_eq_false_iff_not]at e
  obtain rfl:nk=[]:=List.eq_nil_of_length_eq_zero (by omega)
  have e9:R=cT:=by
   rw[eq]
   simp only[List.length_nil,Nat.zero_add]
   cases iT cT<;>rfl
  subst e9
  exact HK t h7 (Ow.P4 o7 (by omega) (by omega)) B.len f7
def nM(g:List (List Int))(p:Int):Bool:=(List.range g.length).all fun q=> !decide ((ga g q).getD p.toNat 0<0)
theorem HA{g:List (List Int)}{sink:Int}(h0:0<=sink)(h:nM g sink=true){p:Nat}(hp:p<g.length)(hs:(p:Int)≠sink)(h1:sink<(g.length:Int)):(g[p]).length≠0:=by
 intro hz
 have:=List.all_eq_true.1 h p (by simpa using hp)
 rw[Ld (by rw[show((p:Int)).toNat=p from rfl,aS hp];exact List.eq_nil_of_length_eq_zero hz)]at this
 simp only[Bool.not_eq_true',decide_eq_false_iff_not]at this
 rw[aN (by simp;omega),List.getElem_set]at this
 rw[if_neg (by omega)]at this
 simp at this
def oO(g:List (List Int))(sink:Int):Bool:=aM g&&iq 0 ((g.length:Int)-1) sink&&nM g sink
theorem Bb{n:Nat}{f:Nat->Bool}:(List.range n).all f=true↔∀i,i<n->f i=true:=by simp[List.all_eq_true]
theorem Lh{S:Nat->Prop}{h:Heap}{g:Sl}{aD:List (List Int)}(G:bU S h g aD)(hg:aM aD=true){p:Int}(h0:0<=p)(h1:p<(aD.length:Int)):vf Tryz.prog 237 #[.agg #[g.v],VI p] h (VB (nM aD p)):=by
 intro K HK
 refine ahu g p h K fun b1 h2 eD f2 bW=> ?_
 have f2:=f2.aF
 refine⟨fun n i h'=>0<=i/\i+n=(aD.length:Int)/\(∀q:Nat,(q:Int)<i->¬(ga aD q).getD p.toNat 0<0)/\Fr No h h',⟨aD.length,by omega,by omega,fun q hq=>by omega,f2⟩,?_⟩
 rintro n i h3 ⟨i0,i1,i2,f3⟩ cF
 have G3:=G.no f3
 refine⟨fun e=> ?_,fun e=> ?_⟩
 ·have hi:=G3.lt e
  have ei:((i.toNat:Nat):Int)=i:=by omega
  refine JL G3 hg i0 hi _ fun t h4 o4 hl f4=>⟨t,rfl,cF.aB f4,?_⟩
  have r4:aQ _ h4 t _:=Ow.eQ o4
  refine⟨r4.bB h0 (by omega),_,r4.get h0 (by omega),fun e2=> ?_,fun e2=> ?_⟩
  ·simp only[decide_eq_true_eq]at e2
   have:nM aD p=false:=by
    unfold nM
    rw[List.all_eq_false]
    refine⟨i.toNat,by simp;omega,?_⟩
    rw[ei,aN (by omega),decide_eq_true e2]
    simp
   rw[this]at HK
   exact HK h4 (f3.aA f4)
  ·simp only[decide_eq_false_iff_not]at e2
   rw[G3.succ i0 hi]
   refine⟨n-1,by omega,by omega,by omega,fun q hq=> ?_,f3.aA f4⟩
   by_cases gI:(q:Int)<i
   ·exact i2 q gI
   ·have:(q:Int)=i:=by omega
    rw[this,aN (by omega)]
    exact e2
 ·have hi:=G3.ge e
  have:nM aD p=true:=by
   unfold nM
   rw[Bb]
   intro q hq
   rw[decide_eq_false (i2 q (by omega))]
   rfl
  rw[this]at HK
  exact HK h3 f3
theorem Li{S:Nat->Prop}{h:Heap}{g:Sl}{aD:List (List Int)}(G:bU S h g aD)(hg:aM aD=true){p:Int}(h0:0<=p)(h1:p<(aD.length:Int)):vf Tryz.prog 259 #[.agg #[g.v],VI p] h (VB (nM aD p)):=by
 intro K HK
 refine ahM g p h K fun b1 h2 eD f2 bW=> ?_
 have f2:=f2.aF
 refine⟨fun n i h'=>0<=i/\i+n=(aD.length:Int)/\(∀q:Nat,(q:Int)<i->¬(ga aD q).getD p.toNat 0<0)/\Fr No h h',⟨aD.length,by omega,by omega,fun q hq=>by omega,f2⟩,?_⟩
 rintro n i h3 ⟨i0,i1,i2,f3⟩ cF
 have G3:=G.no f3
 refine⟨fun e=> ?_,fun e=> ?_⟩
 ·have hi:=G3.lt e
  have ei:((i.toNat:Nat):Int)=i:=by omega
  refine Ba G3 hg i0 hi _ fun t h4 o4 hl f4=>⟨t,rfl,cF.aB f4,?_⟩
  have r4:aQ _ h4 t _:=Ow.eQ o4
  refine⟨r4.bB h0 (by omega),_,r4.get h0 (by omega),fun e2=> ?_,fun e2=> ?_⟩
  ·simp only[decide_eq_true_eq]at e2
   have:nM aD p=false:=by
    unfold nM
    rw[List.all_eq_false]
    refine⟨i.toNat,by simp;omega,?_⟩
    rw[ei,aN (by omega),decide_eq_true e2]
    simp
   rw[this]at HK
   exact HK h4 (f3.aA f4)
  ·simp only[decide_eq_false_iff_not]at e2
   rw[G3.succ i0 hi]
   refine⟨n-1,by omega,by omega,by omega,fun q hq=> ?_,f3.aA f4⟩
   by_cases gI:(q:Int)<i
   ·exact i2 q gI
   ·have:(q:Int)=i:=by omega
    rw[this,aN (by omega)]
    exact e2
 ·have hi:=G3.ge e
  have:nM aD p=true:=by
   unfold nM
   rw[Bb]
   intro q hq
   rw[decide_eq_false (i2 q (by omega))]
   rfl
  rw[this]at HK
  exact HK h3 f3
theorem NL{S:Nat->Prop}{h:Heap}{g:Sl}{aD:List (List Int)}(G:bU S h g aD)(sink:Int):vf Tryz.prog 187 #[.agg #[g.v],VI sink] h (VB (oO aD sink)):=by
 intro K HK
 unfold oO at HK
 refine agr g sink h K fun b1 h2 eD f2 bW=> ?_
 have f2:=f2.aF
 refine cQ (G.no f2) sink _ fun h3 f3=>⟨_,rfl,bW.aB f3,fun e=> ?_,fun e=> ?_⟩
 ·rw[e,Bool.true_and]at HK
  rw[Bool.and_eq_true,aX]at e
  exact Lh (G.no (f2.aA f3)) e.1 e.2.1 (by omega) _ fun h4 f4=>⟨_,rfl,(bW.aB f3).aB f4,HK h4 ((f2.aA f3).aA f4)⟩
 ·rw[e,Bool.false_and]at HK
  exact HK h3 (f2.aA f3)
theorem Lj{S:Nat->Prop}{h:Heap}{g:Sl}{aD:List (List Int)}(G:bU S h g aD)(sink:Int):vf Tryz.prog 214 #[.agg #[g.v],VI sink] h (VB (oO aD sink)):=by
 intro K HK
 unfold oO at HK
 refine agZ g sink h K fun b1 h2 eD f2 bW=> ?_
 have f2:=f2.aF
 refine aP fx (fun k=>h2.size<=k) (fun _ h=>h) 1 (by omega) [VI sink] rfl rfl fun t QO n2 c2 o2 f2' m2 _=>⟨t,rfl,bW.aB f2',?_⟩
 have o2:aQ (fun k=>h2.size<=k) QO t [sink]:=o2.eQ
 have abL:=bW.aB f2'
 have E7:=f2.aA f2'
 refine rZ (G.no E7) o2 _ fun h3 f3=>⟨_,rfl,abL.aB f3,fun e=> ?_,fun e=> ?_⟩
 all_goals simp only[List.all_cons,List.all_nil,Bool.and_true]at e
 ·rw[e,Bool.true_and]at HK
  rw[Bool.and_eq_true,aX]at e
  exact Li (G.no (E7.aA f3)) e.1 e.2.1 (by omega) _ fun h4 f4=>⟨_,rfl,(abL.aB f3).aB f4,HK h4 ((E7.aA f3).aA f4)⟩
 ·rw[e,Bool.false_and]at HK
  exact HK h3 (E7.aA f3)
structure CA(a n:Nat)(h:Heap)(c:Sl)(i:Int):Prop where
 code:∃vs,cM (fun k=>k<a) h 1 c vs/\∀v,v∈vs->∃m:Int,v=Value.int .u8 m/\0<=m/\m<=255
 lo:0<=i
 hi:i<=(n:Int)
theorem CA.fr{a n:Nat}{h h':Heap}{c:Sl}{i:Int}{T:Nat->Prop}(D:CA a n h c i)(f:Fr T h h')(hT:∀k,k<a->¬T k):CA a n h' c i:=by
 obtain⟨vs,h1,h2⟩:=D.code
 exact⟨⟨vs,h1.fr f hT,h2⟩,D.lo,D.hi⟩
theorem CA.no{a n:Nat}{h h':Heap}{c:Sl}{i:Int}(D:CA a n h c i)(f:Fr No h h'):CA a n h' c i:=D.fr f fun _ _ h=>h
theorem CA.up{a n m:Nat}{h:Heap}{c:Sl}{i:Int}(D:CA a n h c i)(hm:n<=m):CA a m h c i:=⟨D.code,D.lo,by have:=D.hi;omega⟩
theorem sv{L:List (Nat×List Value)}{lo:Nat}{h:Heap}{o:Sl}{xs:List Int}{x:Int}(O:bR h (fun k=>lo<=k) o xs)(wj:lo<=h.size)(hL:Vars h L)(tK:∀p,p∈L->p.1<lo)(hb:xs.length<=1000000)(R:Sl->Heap->Prop)(HR:∀t h',bR h' (fun k=>lo<=k) t (xs++[x])->Fr (fun k=>lo<=k) h h'->Vars h' L->R t h'):jQ Tryz.prog (Instr.buildSlice qQ 1 #[(0,VI x)]) h fun rv h1=>∃t:Sl,rv=t.v/\Vars h1 L/\jQ Tryz.prog (bK qQ qQ qQ o.v t.v) h1 fun Hy h2=>∃t2:Sl,Hy=t2.v/\Vars h2 L/\R t2 h2:=by
 refine aP fx (fun k=>h.size<=k) (fun _ h=>h) 1 (by omega) [VI x] rfl rfl fun t h1 n1 c1 o1 f1 m1 _=>⟨t,rfl,hL.aB f1,?_⟩
 have z1:=f1.size
 have O1:bR h1 (fun k=>lo<=k) o xs:=Ow.no O f1
 have on:=O1.rd.len
 have tn:=o1.rd.len
 simp only[List.length_map,Nat.mul_one,List.length_cons,List.length_nil]at on tn
 refine bL fx O1 (fun k hk=>by omega) o1.rd (fc [x]) (by omega) fun s' h2 n2 o2 f2 d2=> ?_
 have g2:Fr (fun k=>lo<=k) h1 h2:=f2.mono fun k _ hk=>(O1.aH hk).1
 have V2:Vars h2 L:=(hL.aB f1).fr g2 fun p hp hk=>by have:=tK p hp;omega
 exact⟨s',rfl,V2,HR s' h2 (by rw[bR,List.map_append];exact o2) (f1.aB.trans g2) V2⟩
theorem jJ{L:List (Nat×List Value)}{lo m:Nat}{h:Heap}{s x:Sl}{aD:List (List Int)}{ys:List Int}(O:gO h (Iv lo m) s aD)(X:bR h (fun k=>m<=k) x ys)(wj:lo<=m)(hm:m<=h.size)(hL:Vars h L)(tK:∀p,p∈L->p.1<lo)(hb:aD.length<=1000000)(R:Sl->Heap->Prop)(HR:∀t h',gO h' (fun k=>lo<=k) t (aD++[ys])->Fr (fun k=>lo<=k) h h'->Vars h' L->R t h'):jQ Tryz.prog (Instr.buildSlice ng 1 #[(0,x.v)]) h fun rv h1=>∃t:Sl,rv=t.v/\Vars h1 L/\jQ Tryz.prog (bK ng ng ng s.v t.v) h1 fun Hy h2=>∃t2:Sl,Hy=t2.v/\Vars h2 L/\R t2 h2:=by
 refine aP qb (fun k=>h.size<=k) (fun _ h=>h) 1 (by omega) [x.v] rfl rfl fun t h1 n1 c1 o1 f1 m1 _=>⟨t,rfl,hL.aB f1,?_⟩
 have z1:=f1.size
 refine dR.snoc qb (dR.no O f1) (F':=fun k=>lo<=k) (fun k _ hk=>hk.1) (fun k hk=>by omega) ((Ow.no X f1).mono fun k _ hk=>Nat.le_trans wj hk) (fun k hk aI=>by have:=(X.aH hk).1;have:=aI.2;omega) o1.rd (by omega) fun y h2 o2 f2=> ?_
 have g2:Fr (fun k=>lo<=k) h1 h2:=f2.mono fun k _ hk=>hk.1
 have V2:Vars h2 L:=(hL.aB f1).fr g2 fun p hp hk=>by have:=tK p hp;omega
 exact⟨y,rfl,V2,HR y h2 o2 (f1.aB.trans g2) V2⟩
def GR(N:Int)(q:Nat)(aD:List (List Int)):Prop:=∀l,l∈aD->l.length<=q/\∀x,x∈l->0<=x/\x<N
theorem GR.nil(N:Int)(q:Nat):GR N q []:=fun l hl=>by cases hl
theorem GR.snoc{N:Int}{q:Nat}{aD:List (List Int)}{l:List Int}(H:GR N q aD)(h1:l.length<=q)(h2:∀x,x∈l->0<=x/\x<N):GR N q (aD++[l]):=fun y hy=>by
 rcases List.mem_append.1 hy with a|a
 ·exact H y a
 ·simp only[List.mem_cons,List.not_mem_nil,or_false]at a;rw[a];exact⟨h1,h2⟩
theorem GR.set{N:Int}{q:Nat}{aD:List (List Int)}{l:List Int}(H:GR N q aD)(i:Nat)(h1:l.length<=q)(h2:∀x,x∈l->0<=x/\x<N):GR N q (aD.set i l):=fun y hy=>by
 rcases List.mem_or_eq_of_mem_set hy with a|a
 ·exact H y a
 ·rw[a];exact⟨h1,h2⟩
theorem GR.up{N:Int}{q r:Nat}{aD:List (List Int)}(H:GR N q aD)(h:q<=r):GR N r aD:=fun l hl=>⟨Nat.le_trans (H l hl).1 h,(H l hl).2⟩
theorem GR.bE{q:Nat}{aD:List (List Int)}(H:GR aD.length q aD)(hq:q<=5)(h1:1<=aD.length)(h2:aD.length<=8):aM aD=true:=by
 rw[AX (aX.2 ⟨by omega,by omega⟩),List.all_eq_true]
 intro l hl
 have:=H l hl
 rw[Bool.and_eq_true,Bool.not_eq_true',decide_eq_false_iff_not,List.all_eq_true]
 exact⟨by omega,fun x hx=>aX.2 (by have:=this.2 x hx;omega)⟩
theorem fW{L:List (Nat×List Value)}{F:Nat->Prop}{h:Heap}{s:Sl}{xs:List Int}{i:Int}{v:Int}(O:bR h F s xs)(h0:0<=i)(h1:i<(xs.length:Int))(hL:Vars h L)(tK:∀p,p∈L->¬F p.1)(R:Heap->Prop)(HR:∀h',bR h' F s (xs.set i.toNat v)->Fr F h h'->Vars h' L->R h'):dQ s i/\dT h (s.at i 1)/\Vars (cK h (s.at i 1) (VI v)) L/\∀h3,h3=cK h (s.at i 1) (VI v)->Vars h3 L->R h3:=by
 have on:=O.rd.len
 simp only[List.length_map,Nat.mul_one]at on
 obtain⟨w1,w2,w3⟩:=O.eX h0 (by omega) (VI v)
 have g:Fr F h _:=w3.mono fun k _ hk=>(O.aH hk).1
 have V:=hL.fr g tK
 exact⟨O.rd.bB h0 (by simp;omega),w1,V,fun h3 e3 V3=>HR h3 (by rw[e3,bR,List.map_set];exact w2) (by rw[e3];exact g) V3⟩
theorem xQ{L:List (Nat×List Value)}{F:Nat->Prop}{m:Nat}{h:Heap}{s x:Sl}{aD:List (List Int)}{ys:List Int}(O:gO h (fun k=>F k/\k<m) s aD)(X:bR h (fun k=>m<=k) x ys)(hF:∀k,m<=k->F k)(hm:m<=h.size)(hL:Vars h L)(tK:∀p,p∈L->¬F p.1)(hb:aD.length<=1000000)(R:Sl->Heap->Prop)(HR:∀t h',gO h' F t (aD++[ys])->Fr F h h'->Vars h' L->R t h'):jQ Tryz.prog (Instr.buildSlice ng 1 #[(0,x.v)]) h fun rv h1=>∃t:Sl,rv=t.v/\Vars h1 L/\jQ Tryz.prog (bK ng ng ng s.v t.v) h1 fun Hy h2=>∃t2:Sl,Hy=t2.v/\Vars h2 L/\R t2 h2:=by
 refine aP qb (fun k=>h.size<=k) (fun _ h=>h) 1 (by omega) [x.v] rfl rfl fun t h1 n1 c1 o1 f1 m1 _=>⟨t,rfl,hL.aB f1,?_⟩
 have z1:=f1.size
 refine dR.snoc qb (dR.no O f1) (F':=F) (fun k _ hk=>hk.1) (fun k hk=>hF k (by omega)) ((Ow.no X f1).mono fun k _ hk=>hF k hk) (fun k hk aI=>by have:=(X.aH hk).1;have:=aI.2;omega) o1.rd (by omega) fun y h2 o2 f2=> ?_
 have g2:Fr F h1 h2:=f2.mono fun k _ hk=>hk.1
 have V2:Vars h2 L:=(hL.aB f1).fr g2 tK
 exact⟨y,rfl,V2,HR y h2 o2 (f1.aB.trans g2) V2⟩
def inA(m:Nat)(xs:List Int):Prop:=∀y,y∈xs->0<=y/\y<(m:Int)
theorem inA.set{m:Nat}{xs:List Int}(H:inA m xs)(i:Nat){v:Int}(h0:0<=v)(h1:v<(m:Int)):inA m (xs.set i v):=fun y hy=>by
 rcases List.mem_or_eq_of_mem_set hy with h|h
 ·exact H y h
 ·subst h;exact⟨h0,h1⟩
theorem inA.get{m:Nat}{xs:List Int}(H:inA m xs){i:Nat}(hi:i<xs.length):0<=xs[i]/\xs[i]<(m:Int):=H _ (List.getElem_mem hi)
def fm(k j:Nat):Nat:=if j<k then j else j+1
def jS(k:Nat):Int:=if k%2=0 then 1 else-1
def bG(f:Nat->Int):Nat->Int
 |0=>0
 |n+1=>bG f n+f n
abbrev jO:=Nat->Nat->Int
def cH:Nat->jO->Int
 |0,_=>1
 |n+1,A=>bG (fun k=>jS k*A 0 k*cH n (fun i j=>A (i+1) (fm k j))) (n+1)
theorem kK(k:Nat):jS (k+1)= -jS k:=by
 unfold jS
 by_cases h:k%2=0
 ·rw[if_pos h,if_neg (by omega)]
 ·rw[if_neg h,if_pos (by omega)];rfl
theorem cC{f f':Nat->Int}:∀{n:Nat},(∀i,i<n->f i=f' i)->bG f n=bG f' n
 |0,_=>rfl
 |n+1,h=>by rw[bG,bG,cC fun i hi=>h i (by omega),h n (by omega)]
theorem mf(f f':Nat->Int):∀n,bG (fun i=>f i+f' i) n=bG f n+bG f' n
 |0=>rfl
 |n+1=>by rw[bG,bG,bG,mf f f' n];omega
theorem mg(c:Int)(f:Nat->Int):∀n,bG (fun i=>c*f i) n=c*bG f n
 |0=>by simp[bG]
 |n+1=>by rw[bG,bG,mg c f n,Int.mul_add]
theorem je{f:Nat->Int}:∀{n:Nat},(∀i,i<n->f i=0)->bG f n=0
 |0,_=>rfl
 |n+1,h=>by rw[bG,je fun i hi=>h i (by omega),h n (by omega)];rfl
theorem Bc(f:Nat->Nat->Int)(m:Nat):∀n,bG (fun i=>bG (fun j=>f i j) m) n=bG (fun j=>bG (fun i=>f i j) n) m
 |0=>by rw[bG];exact(je fun i _=>rfl).symm
 |n+1=>by
  rw[bG,Bc f m n,<-mf]
  exact cC fun j _=>rfl
theorem mh(f:Nat->Int)(n:Nat):bG (fun i=> -f i) n= -bG f n:=by
 have:=mg (-1) f n
 rw[show(fun i=> -f i)=fun i=> -1*f i from funext fun i=>by omega,this];omega
theorem E8(f:Nat->Int):∀{n k:Nat},k<=n->bG (fun l=>f (fm k l)) n+f k=bG f (n+1)
 |0,k,h=>by rw[show k=0 by omega];simp[bG]
 |n+1,k,h=>by
  by_cases e:k=n+1
  ·subst e
   show bG (fun l=>f (fm (n+1) l)) (n+1)+f (n+1)=bG f (n+1)+f (n+1)
   exact congrArg (·+f (n+1)) (show bG (fun l=>f (fm (n+1) l)) (n+1)=bG f (n+1)from cC fun i hi=>by(try simp only);unfold fm;rw[if_pos hi])
  ·have ih:=E8 f (n:=n) (k:=k) (by omega)
   rw[bG,bG,<-ih]
   have:fm k n=n+1:=by unfold fm;rw[if_neg (by omega)]
   rw[this]
   omega
theorem dG:∀{n:Nat}{A B:jO},(∀i j,i<n->j<n->A i j=B i j)->cH n A=cH n B
 |0,_,_,_=>rfl
 |n+1,A,B,h=>by
  rw[cH,cH]
  refine cC fun k hk=> ?_
  (try simp only)
  rw[h 0 k (by omega) hk,dG fun i j hi hj=>h (i+1) (fm k j) (by omega) (by unfold fm;split<;>omega)]
def dE(A:jO)(i:Nat)(X:Nat->Int):jO:=fun r=>if r=i then X else A r
theorem Bd(A:jO)(i:Nat):dE A i (A i)=A:=by
 funext r
 unfold dE
 split
 ·rename_i h;rw[h]
 ·rfl
theorem sx:∀{n i:Nat}(A:jO)(c:Int)(X Y:Nat->Int),i<n->cH n (dE A i fun j=>c*X j+Y j)=c*cH n (dE A i X)+cH n (dE A i Y)
 |n+1,0,A,c,X,Y,_=>by
  rw[cH,cH,cH,<-mg,<-mf]
  refine cC fun k hk=> ?_
  have e:∀Z:Nat->Int,(fun i j=>dE A 0 Z (i+1) (fm k j))=fun i j=>A (i+1) (fm k j):=fun Z=>by
   funext i j;unfold dE;rw[if_neg (by omega)]
  (try simp only)
  rw[e,e,e]
  unfold dE
  rw[if_pos rfl,if_pos rfl,if_pos rfl]
  generalize cH n (fun i j=>A (i+1) (fm k j))=d
  rw[Int.mul_add,Int.add_mul]
  congr 1
  rw[Int.mul_assoc,Int.mul_assoc,Int.mul_left_comm (jS k) c,Int.mul_assoc]
 |n+1,i+1,A,c,X,Y,h=>by
  rw[cH,cH,cH,<-mg,<-mf]
  refine cC fun k hk=> ?_
  have e:∀Z:Nat->Int,(fun r j=>dE A (i+1) Z (r+1) (fm k j))=dE (fun r j=>A (r+1) (fm k j)) i fun j=>Z (fm k j):=fun Z=>by
   funext r j
   unfold dE
   by_cases h:r=i
   ·rw[if_pos (by omega),if_pos h]
   ·rw[if_neg (by omega),if_neg h]
  have z:∀Z:Nat->Int,dE A (i+1) Z 0 k=A 0 k:=fun Z=>by unfold dE;rw[if_neg (by omega)]
  (try simp only)
  rw[e,e,e,z,z,z,sx (fun r j=>A (r+1) (fm k j)) c (fun j=>X (fm k j)) (fun j=>Y (fm k j)) (by omega),Int.mul_add,Int.mul_left_comm]
theorem nn{n i:Nat}(A:jO)(h:i<n):cH n (dE A i fun _=>0)=0:=by
 have:=sx A (-1) (fun _=>0) (fun _=>0) h
 have e:(fun j:Nat=>(-1:Int)*(fun _=>(0:Int)) j+(fun _=>(0:Int)) j)=fun _=>0:=by funext j;simp
 rw[e]at this
 omega
theorem Be{n i:Nat}(A:jO)(c:Int)(X:Nat->Int)(h:i<n):cH n (dE A i fun j=>c*X j)=c*cH n (dE A i X):=by
 have:=sx A c X (fun _=>0) h
 rw[nn A h]at this
 have e:(fun j:Nat=>c*X j+(fun _=>(0:Int)) j)=fun j=>c*X j:=by funext j;simp
 rw[e]at this
 omega
def fy(i j r:Nat):Nat:=if r=i then j else if r=j then i else r
def CB(k m:Nat):Nat:=if m<k then m else m-1
def zY(n:Nat)(A:jO)(k m:Nat):Int:=cH n fun i j=>A (i+2) (fm k (fm (CB k m) j))
def HB(n:Nat)(A:jO)(k m:Nat):Int:=if k=m then 0 else jS k*jS (CB k m)*A 0 k*A 1 m*zY n A k m
theorem Ro{k m:Nat}(h:k<m)(j:Nat):fm k (fm (m-1) j)=fm m (fm k j):=by
 unfold fm
 by_cases a:j<k
 ·rw[if_pos (show j<m-1 by omega),if_pos a,if_pos (show j<m by omega)]
 ·by_cases b:j<m-1
  ·rw[if_pos b,if_neg a,if_pos (show j+1<m by omega)]
  ·rw[if_neg b,if_neg a,if_neg (show¬j+1<k by omega),if_neg (show¬j+1<m by omega)]
theorem Bf{n:Nat}{A:jO}{k m:Nat}(h:k<m):zY n A k m=zY n A m k:=by
 unfold zY CB
 rw[if_neg (by omega),if_pos h]
 congr 1
 funext i j
 rw[Ro h]
theorem JM(n:Nat)(A:jO):cH (n+2) A=bG (fun k=>bG (fun m=>HB n A k m) (n+2)) (n+2):=by
 rw[cH]
 refine cC fun k hk=> ?_
 (try simp only)
 rw[cH,<-E8 (fun m=>HB n A k m) (show k<=n+1 by omega)]
 have e0:HB n A k k=0:=by unfold HB;rw[if_pos rfl]
 rw[e0,Int.add_zero,<-mg]
 refine cC fun l hl=> ?_
 (try simp only)
 have dZ:k≠fm k l:=by unfold fm;split<;>omega
 have aiM:CB k (fm k l)=l:=by
  unfold CB fm
  by_cases a:l<k
  ·simp only[if_pos a]
  ·simp only[if_neg a]
   rw[if_neg (by omega)]
   omega
 unfold HB zY
 rw[if_neg dZ,aiM,Nat.zero_add]
 generalize cH n _=d
 rw[Int.mul_assoc (jS k),Int.mul_assoc (jS l),Int.mul_assoc,Int.mul_assoc,Int.mul_assoc]
 rw[Int.mul_left_comm (A 0 k)]
theorem HD(n:Nat)(A:jO):cH (n+2) (fun i=>A (fy 0 1 i))= -cH (n+2) A:=by
 rw[JM,JM,Bc (fun k m=>HB n A k m),<-mh]
 refine cC fun k hk=> ?_
 (try simp only)
 rw[<-mh]
 refine cC fun m hm=> ?_
 (try simp only)
 have hN:zY n (fun i=>A (fy 0 1 i)) k m=zY n A k m:=by
  unfold zY
  congr 1
 unfold HB
 by_cases e:k=m
 ·rw[if_pos e,if_pos e.symm];rfl
 ·rw[if_neg e,if_neg fun h=>e h.symm,hN]
  have r0:A (fy 0 1 0) k=A 1 k:=rfl
  have r1:A (fy 0 1 1) m=A 0 m:=rfl
  (try simp only)
  rw[r0,r1]
  have hs:jS k*jS (CB k m)= -(jS m*jS (CB m k)):=by
   unfold CB
   by_cases h:k<m
   ·rw[if_neg (by omega),if_pos h]
    have:=kK (m-1)
    rw[show m-1+1=m by omega]at this
    rw[this,Int.neg_mul,Int.neg_neg,Int.mul_comm]
   ·rw[if_pos (by omega),if_neg (by omega)]
    have:=kK (k-1)
    rw[show k-1+1=k by omega]at this
    rw[this,Int.neg_mul,Int.mul_comm]
  have hd:zY n A k m=zY n A m k:=by
   by_cases h:k<m
   ·exact Bf h
   ·exact(Bf (by omega)).symm
  rw[hs,hd]
  generalize jS m*jS (CB m k)=a
  rw[Int.neg_mul,Int.neg_mul,Int.neg_mul,Int.mul_assoc a,Int.mul_comm (A 1 k),<-Int.mul_assoc a]
theorem np:∀{n i:Nat}(A:jO),i+1<n->cH n (fun r=>A (fy i (i+1) r))= -cH n A
 |n+2,0,A,_=>HD n A
 |n+1,i+1,A,h=>by
  rw[cH,cH,<-mh]
  refine cC fun k hk=> ?_
  (try simp only)
  have e:(fun r j=>A (fy (i+1) (i+1+1) (r+1)) (fm k j))=fun r=>(fun r j=>A (r+1) (fm k j)) (fy i (i+1) r):=by
   funext r j
   congr 1
   unfold fy
   by_cases a:r=i
   ·rw[if_pos (by omega),if_pos a]
   ·by_cases b:r=i+1
    ·rw[if_neg (by omega),if_pos (by omega),if_neg a,if_pos b]
    ·rw[if_neg (by omega),if_neg (by omega),if_neg a,if_neg b]
  have z:fy (i+1) (i+1+1) 0=0:=by unfold fy;rw[if_neg (by omega),if_neg (by omega)]
  rw[e,z,np (fun r j=>A (r+1) (fm k j)) (by omega),Int.mul_neg]
theorem oQ:∀(d:Nat){n i:Nat}(A:jO),i+d+1<n->A i=A (i+d+1)->cH n A=0
 |0,n,i,A,h,e=>by
  have:=np A h
  have e2:(fun r=>A (fy i (i+1) r))=A:=by
   funext r
   unfold fy
   by_cases a:r=i
   ·rw[if_pos a,a];exact e.symm
   ·by_cases b:r=i+1
    ·rw[if_neg a,if_pos b,b];exact e
    ·rw[if_neg a,if_neg b]
  rw[e2]at this
  omega
 |d+1,n,i,A,h,e=>by
  have h1:=np (i:=i+d+1) A (by omega)
  have h2:=oQ d (n:=n) (i:=i) (fun r=>A (fy (i+d+1) (i+d+1+1) r)) (by omega) (by
   (try simp only)
   have a:fy (i+d+1) (i+d+1+1) i=i:=by unfold fy;rw[if_neg (by omega),if_neg (by omega)]
   have b:fy (i+d+1) (i+d+1+1) (i+d+1)=i+d+1+1:=by unfold fy;rw[if_pos rfl]
   rw[a,b]
   exact e)
  omega
theorem E9{n i j:Nat}(A:jO)(hi:i<n)(hj:j<n)(h:i≠j)(e:A i=A j):cH n A=0:=by
 by_cases a:i<j
 ·exact oQ (j-i-1) (i:=i) A (by omega) (by rw[show i+(j-i-1)+1=j by omega];exact e)
 ·exact oQ (i-j-1) (i:=j) A (by omega) (by rw[show j+(i-j-1)+1=i by omega];exact e.symm)
theorem wu{n i j:Nat}(A:jO)(hi:i<n)(hj:j<n)(h:i≠j)(c:Int):cH n (dE A i fun k=>c*A j k+A i k)=cH n A:=by
 rw[sx A c (A j) (A i) hi,Bd,E9 (dE A i (A j)) hi hj h (by unfold dE;rw[if_pos rfl,if_neg fun e=>h e.symm])]
 omega
theorem NM{n i j:Nat}(A:jO)(hi:i<n)(hj:j<n)(h:i≠j):cH n (fun r=>A (fy i j r))= -cH n A:=by
 --row i+row j,then row j-row i,then row i+row j,and a sign
 have e1:=wu A hi hj h 1
 have e2:=wu (dE A i fun k=>1*A j k+A i k) hj hi (fun e=>h e.symm) (-1)
 have e3:=wu (dE (dE A i fun k=>1*A j k+A i k) j fun k=> -1*(dE A i fun k=>1*A j k+A i k) i k+(dE A i fun k=>1*A j k+A i k) j k) hi hj h 1
 have e4:=Be (fun r=>A (fy i j r)) (-1) (A i) hj
 have f1:dE (fun r=>A (fy i j r)) j (A i)=fun r=>A (fy i j r):=by
  funext r
  unfold dE
  by_cases a:r=j
  ·rw[if_pos a,a];unfold fy;rw[if_neg fun e=>h e.symm,if_pos rfl]
  ·rw[if_neg a]
 rw[f1]at e4
 have f2:dE (dE (dE A i fun k=>1*A j k+A i k) j fun k=> -1*(dE A i fun k=>1*A j k+A i k) i k+(dE A i fun k=>1*A j k+A i k) j k) i (fun k=>1*(dE (dE A i fun k=>1*A j k+A i k) j fun k=> -1*(dE A i fun k=>1*A j k+A i k) i k+(dE A i fun k=>1*A j k+A i k) j k) j k+(dE (dE A i fun k=>1*A j k+A i k) j fun k=> -1*(dE A i fun k=>1*A j k+A i k) i k+(dE A i fun k=>1*A j k+A i k) j k) i k)=dE (fun r=>A (fy i j r)) j fun k=> -1*A i k:=by
  funext r k
  unfold dE fy
  by_cases a:r=i
  ·subst a
   simp only[if_pos,if_neg h,if_neg fun e:j=r=>h e.symm]
   omega
  ·by_cases b:r=j
   ·subst b
    simp only[if_pos,if_neg a]
    omega
   ·simp only[if_neg a,if_neg b]
 rw[f2,e4]at e3
 omega
theorem xR:∀{n:Nat}(A:jO),(∀i,i<n+1->A i 0=0)->cH (n+1) A=0
 |0,A,h=>by rw[cH];simp[bG,cH,h 0 (by omega)]
 |n+1,A,h=>by
  rw[cH]
  refine je fun k hk=> ?_
  (try simp only)
  by_cases e:k=0
  ·subst e;rw[h 0 (by omega)];simp
  ·rw[xR (fun i j=>A (i+1) (fm k j)) fun i hi=>by
    (try simp only)
    rw[show fm k 0=0 by unfold fm;rw[if_pos (by omega)]]
    exact h (i+1) (by omega)]
   simp
theorem xS{n:Nat}(A:jO)(h:∀i,1<=i->i<n+1->A i 0=0):cH (n+1) A=A 0 0*cH n (fun i j=>A (i+1) (j+1)):=by
 have key:∀m,m<=n->bG (fun k=>jS k*A 0 k*cH n (fun i j=>A (i+1) (fm k j))) (m+1)=A 0 0*cH n (fun i j=>A (i+1) (j+1)):=by
  intro m
  induction m with
  |zero=>
   intro _
   rw[bG,bG]
   have:(fun i j=>A (i+1) (fm 0 j))=fun i j=>A (i+1) (j+1):=by
    funext i j;unfold fm;rw[if_neg (by omega)]
   rw[this]
   simp[jS]
  |succ m ih=>
   intro hm
   rw[bG,ih (by omega)]
   cases n with
   |zero=>omega
   |succ n=>
    rw[xR (fun i j=>A (i+1) (fm (m+1) j)) fun i hi=>by
     (try simp only)
     rw[show fm (m+1) 0=0 by unfold fm;rw[if_pos (by omega)]]
     exact h (i+1) (by omega) (by omega)]
    simp
 rw[cH]
 exact key n (Nat.le_refl _)
def CC(B:jO):jO:=fun i j=>B 0 0*B (i+1) (j+1)-B (i+1) 0*B 0 (j+1)
theorem oR{n:Nat}(b:Int)(B:jO):∀m,m<=n->cH (n+1) (fun r j=>if 1<=r/\r<=m then b*B r j else B r j)=b^m*cH (n+1) B
 |0,_=>by
  rw[Int.pow_zero,Int.one_mul]
  exact dG fun i j _ _=>by rw[if_neg (by omega)]
 |m+1,h=>by
  have ih:=oR (n:=n) b B m (by omega)
  have e:=Be (n:=n+1) (i:=m+1) (fun r j=>if 1<=r/\r<=m then b*B r j else B r j) b (B (m+1)) (by omega)
  have e1:cH (n+1) (dE (fun r j=>if 1<=r/\r<=m then b*B r j else B r j) (m+1) fun j=>b*B (m+1) j)=cH (n+1) (fun r j=>if 1<=r/\r<=m+1 then b*B r j else B r j):=by
   refine dG fun i j _ _=> ?_
   unfold dE
   (try simp only)
   by_cases a:i=m+1
   ·subst a;rw[if_pos rfl,if_pos (by omega)]
   ·rw[if_neg a]
    (try simp only)
    by_cases c:1<=i/\i<=m
    ·rw[if_pos c,if_pos (show 1<=i/\i<=m+1 by omega)]
    ·rw[if_neg c,if_neg (show¬(1<=i/\i<=m+1) by omega)]
  have e2:dE (fun r j=>if 1<=r/\r<=m then b*B r j else B r j) (m+1) (B (m+1))=fun r j=>if 1<=r/\r<=m then b*B r j else B r j:=by
   funext r j
   unfold dE
   by_cases a:r=m+1
   ·subst a;rw[if_pos rfl,if_neg (by omega)]
   ·rw[if_neg a]
  rw[e1,e2,ih]at e
  rw[e,Int.pow_succ,<-Int.mul_assoc,Int.mul_comm b]
theorem nq{n:Nat}(C:jO)(c:Nat->Int):∀m,m<=n->cH (n+1) (fun r j=>if 1<=r/\r<=m then c r*C 0 j+C r j else C r j)=cH (n+1) C
 |0,_=>dG fun i j _ _=>by rw[if_neg (by omega)]
 |m+1,h=>by
  rw[<-nq C c m (by omega),<-wu (n:=n+1) (i:=m+1) (j:=0) (fun r j=>if 1<=r/\r<=m then c r*C 0 j+C r j else C r j) (by omega) (by omega) (by omega) (c (m+1))]
  refine dG fun i j _ _=> ?_
  unfold dE
  by_cases a:i=m+1
  ·subst a;rw[if_pos rfl,if_pos (by omega),if_neg (by omega),if_neg (by omega)]
  ·rw[if_neg a]
   (try simp only)
   by_cases d:1<=i/\i<=m
   ·rw[if_pos d,if_pos (show 1<=i/\i<=m+1 by omega)]
   ·rw[if_neg d,if_neg (show¬(1<=i/\i<=m+1) by omega)]
theorem NN{n:Nat}{B:jO}(hb:B 0 0≠0):B 0 0^n*cH (n+2) B=cH (n+1) (CC B):=by
 have e1:=oR (n:=n+1) (B 0 0) B (n+1) (Nat.le_refl _)
 have e2:=nq (n:=n+1) (fun r j=>if 1<=r/\r<=n+1 then B 0 0*B r j else B r j) (fun r=> -B r 0) (n+1) (Nat.le_refl _)
 rw[e1]at e2
 have e3:=xS (n:=n+1) (fun r j=>if 1<=r/\r<=n+1 then-B r 0*(if 1<=0/\0<=n+1 then B 0 0*B 0 j else B 0 j)+(if 1<=r/\r<=n+1 then B 0 0*B r j else B r j)else(if 1<=r/\r<=n+1 then B 0 0*B r j else B r j)) fun i h1 h2=>by
  (try simp only)
  rw[if_pos (by omega),if_neg (by omega),if_pos (by omega),Int.neg_mul,Int.mul_comm (B i 0)]
  omega
 rw[e3]at e2
 have e4:cH (n+1) (fun i j=>if 1<=i+1/\i+1<=n+1 then-B (i+1) 0*(if 1<=0/\0<=n+1 then B 0 0*B 0 (j+1)else B 0 (j+1))+(if 1<=i+1/\i+1<=n+1 then B 0 0*B (i+1) (j+1)else B (i+1) (j+1))else(if 1<=i+1/\i+1<=n+1 then B 0 0*B (i+1) (j+1)else B (i+1) (j+1)))=cH (n+1) (CC B):=by
  refine dG fun i j hi hj=> ?_
  unfold CC
  rw[if_pos (by omega),if_neg (by omega),if_pos (by omega),Int.neg_mul]
  omega
 have e5:(if 1<=0/\0<=n+1 then-B 0 0*(if 1<=0/\0<=n+1 then B 0 0*B 0 0 else B 0 0)+(if 1<=0/\0<=n+1 then B 0 0*B 0 0 else B 0 0)else(if 1<=0/\0<=n+1 then B 0 0*B 0 0 else B 0 0))=B 0 0:=by
  rw[if_neg (by omega),if_neg (by omega)]
 (try simp only at e2)
 (try simp only at e4)
 (try simp only at e5)
 first
 |(rw[e4,e5]at e2
   rw[Int.pow_succ,Int.mul_comm (B 0 0^n),Int.mul_assoc]at e2
   exact(Int.mul_eq_mul_left_iff hb).1 e2.symm)
 |(rw[e4]at e2
   rw[Int.pow_succ,Int.mul_comm (B 0 0^n),Int.mul_assoc]at e2
   exact(Int.mul_eq_mul_left_iff hb).1 e2.symm)
end Go.Proofs.YtcnfcnoooecchaaGreatDoor
