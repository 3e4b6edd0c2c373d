import Derived.Test.YtcnfcnoooecchaaGreatDoorDeskLinesU1
import Derived.Test.YtcnfcnoooecchaaGreatDoorM4
import Derived.Laws.BytesArg
import Derived.Lib.AtoiAll
import Derived.Lib.CountLaws
import Derived.Lib.Split
import Derived.Lib.IndexBytes
import Derived.Lib.ItoaMem
import Derived.WideMake
import Derived.MapKept
import Derived.Laws.IdiomCopy
import Derived.Deep.Draws
import Derived.Lib.AtoiTie
import Derived.Lib.ItoaLen
import Derived.Test.YtcnfcnoooecchaaGreatDoorDeskLinesH
set_option linter.unusedVariables false
set_option linter.unusedSimpArgs false
namespace Go.Proofs.YtcnfcnoooecchaaGreatDoor
open Go Go.Mx
@[reducible] def tI:TypeId:=3
@[reducible] def qx:TypeId:=27
@[reducible] def qy:TypeId:=24
theorem gD:qw aC qx=some (tI,1,8,[VI 0]):=by kernel_rfl
theorem ug:qw aC qy=some (qx,1,24,[aD.v]):=by kernel_rfl
@[reducible] def cH(h:Heap)(F:aK)(s:Sl)(xs:aH):Prop:=Ow h F tI 1 s (xs.map VI)
@[reducible] def gy(h:Heap)(F:aK)(s:Sl)(aI:aE):Prop:=dJ h F qx tI s aI
theorem fU(xs:aH):(xs.map VI).all gW=true:=by simp[js,gW]
theorem fa(n lo hi:Int)(h:Heap)(K:aL)(H:K (VB (decide (lo<=n)&&decide (n<=hi))) h):aG aC 52 #[VI n,VI lo,VI hi] h K:=by
 refine v52 n lo hi h K ⟨fun e=> ?_,fun e=> ?_⟩
 ·rw[e,fk]at H;exact H
 ·rw[e,gJ]at H;exact H
theorem eK(n lo hi:Int)(h:Heap)(K:aL)(H:K (VB (decide (lo<=n)&&decide (n<=hi))) h):aG aC 119 #[VI n,VI lo,VI hi] h K:=by
 refine aiE n lo hi h K ⟨fun e=> ?_,fun e=> ?_⟩
 ·rw[e,fk]at H;exact H
 ·rw[e,gJ]at H;exact H
def jq(lo hi x:Int):Bool:=decide (lo<=x)&&decide (x<=hi)
def aZ(g:aE):Bool:=jq 1 8 g.length&&g.all fun l=> !decide (5<(l.length:Int))&&l.all (jq 0 ((g.length:Int)-1))
theorem bU{b:Bool}(h:(!b)=true):b=false:=by simpa using h
theorem bQ{b:Bool}(h:(!b)=false):b=true:=by simpa using h
theorem E7{S:aK}{h:Heap}{l:Sl}{xs:aH}(H:bC S h l xs)(lo Ks:Int)(K:aL)(HK:K (VB (xs.all (jq lo Ks))) h):aG aC 120 #[l.v,VI lo,VI Ks] h K:=by
 refine aiG l lo Ks h K ?_
 refine⟨fun n i h'=>h'=h/\0<=i/\i+n=(xs.length:Int)/\xs.all (jq lo Ks)=(xs.drop i.toNat).all (jq lo Ks),⟨xs.length,rfl,by omega,by omega,by simp⟩,?_⟩
 rintro n i _ ⟨rfl,h0,h1,h2⟩ hL
 refine⟨fun e=> ?_,fun e=> ?_⟩
 ·have hi:=H.lt e
  refine⟨H.bM h0 hi,_,H.get h0 hi,?_⟩
  rw[drop_cons xs h0 hi,List.all_cons]at h2
  refine eK _ _ _ _ _ ⟨_,rfl,hL,fun e2=> ?_,fun e2=> ?_⟩
  ·have e3:jq lo Ks (xs[i.toNat]'(by omega))=false:=bU e2
   rw[h2,e3]at HK
   exact HK
  ·have e3:jq lo Ks (xs[i.toNat]'(by omega))=true:=bQ e2
   rw[e3,fk]at h2
   rw[H.succ h0 hi]
   exact⟨n-1,by omega,rfl,by omega,by omega,h2⟩
 ·have hi:=H.ge e
  rw[kk (by omega)]at h2
  rw[h2]at HK
  exact HK
theorem jB{S:aK}{h:Heap}{g:Sl}{aI:aE}(H:cG S h g aI):tY aC 82 #[.agg #[g.v]] h (VB (aZ aI)):=by
 intro K HK
 refine v82 g h K ?_
 intro b1 h1 fK Zd cY
 have f1:=Zd.aM
 have hlen:=H.len
 refine eK _ _ _ _ _ ⟨_,rfl,cY,fun e=> ?_,fun e=> ?_⟩
 ·have e3:jq 1 8 aI.length=false:=by have:=bU e;rw[hlen]at this;exact this
  have:aZ aI=false:=by unfold aZ;rw[e3];rfl
  rw[<-this];exact HK _ f1
 ·have e3:jq 1 8 aI.length=true:=by have:=bQ e;rw[hlen]at this;exact this
  have hw:aX ((g.n:Int)-1)=(aI.length:Int)-1:=by rw[hlen];exact aP _ (by omega) (by have:=sB H.PV;omega)
  have hg:aZ aI=aI.all fun l=> !decide (5<(l.length:Int))&&l.all (jq 0 ((aI.length:Int)-1)):=by unfold aZ;rw[e3];rfl
  rw[hw]
  refine⟨fun n i h'=>Fr No h1 h'/\0<=i/\i+n=(aI.length:Int)/\aZ aI=(aI.drop i.toNat).all (fun l=> !decide (5<(l.length:Int))&&l.all (jq 0 ((aI.length:Int)-1))),⟨aI.length,Fr.refl _ _,by omega,by omega,by simp[hg]⟩,?_⟩
  rintro n i h3 ⟨f3,h0,h2,h4⟩ hL
  have H3:=(H.no f1).no f3
  refine⟨fun e=> ?_,fun e=> ?_⟩
  ·have hi:=H.lt e
   obtain⟨si,hc,Hi⟩:=H3.get h0 hi
   refine⟨H3.bM h0 hi,si,hc,fun e5=> ?_,fun e5=> ?_⟩
   ·rw[drop_cons aI h0 hi,List.all_cons]at h4
    rw[Hi.len]at e5
    rw[e5]at h4
    have h5:aZ aI=false:=by rw[h4];rfl
    rw[<-h5];exact HK _ (f1.trans f3)
   ·rw[drop_cons aI h0 hi,List.all_cons]at h4
    rw[Hi.len]at e5
    rw[e5]at h4
    refine E7 Hi _ _ _ ⟨_,rfl,hL,fun e6=> ?_,fun e6=> ?_⟩
    ·rw[bU e6]at h4
     have h5:aZ aI=false:=by rw[h4];rfl
     rw[<-h5];exact HK _ (f1.trans f3)
    ·rw[bQ e6]at h4
     rw[H.succ h0 hi]
     exact⟨n-1,by omega,f3,by omega,by omega,by rw[h4];rfl⟩
  ·have hi:=H.ge e
   rw[kk (by omega)]at h4
   have h5:aZ aI=true:=by rw[h4];rfl
   rw[<-h5];exact HK _ (f1.trans f3)
theorem Ia{S:aK}{h:Heap}{s:Sl}{xs:aH}(H:bC S h s xs)(f:Value)(p:Int->Bool)(hf:∀(x:Int)(K:aL),K (VB (p x)) h->iQ aC f [VI x] h K)(K:aL)(HK:∀r:Int,decide (0<=r)=xs.any p->K (VI r) h):aG aC 91 #[s.v,f] h K:=by
 refine v91 s f h K ⟨fun n i h'=>h'=h/\0<=i/\i+n=(xs.length:Int)/\xs.any p=(xs.drop i.toNat).any p,⟨xs.length,rfl,by omega,by omega,by simp⟩,?_⟩
 rintro n i _ ⟨rfl,i0,i1,i2⟩ hL
 refine⟨fun e=> ?_,fun e=> ?_⟩
 ·have hi:=H.lt e
  rw[drop_cons xs i0 hi,List.any_cons]at i2
  refine⟨H.bM i0 hi,_,H.get i0 hi,hf _ _ ⟨_,rfl,.nil,fun e=> ?_,fun e=> ?_⟩⟩
  ·rw[e,Bool.true_or]at i2
   exact HK _ (by rw[i2];simpa using i0)
  ·rw[e,Bool.false_or]at i2
   rw[H.succ i0 hi]
   exact⟨n-1,by omega,rfl,by omega,by omega,i2⟩
 ·have hi:=H.ge e
  rw[kk (by omega)]at i2
  exact HK _ (by rw[i2];rfl)
theorem mW{S:aK}{h:Heap}{s:Sl}{xs:aH}(H:bC S h s xs)(f:Value)(p:Int->Bool)(hf:∀(x:Int)(K:aL),K (VB (p x)) h->iQ aC f [VI x] h K)(K:aL)(HK:K (VB (xs.any p)) h):aG aC 53 #[s.v,f] h K:=by
 refine v53 s f h K (Ia H f p hf _ fun r hr=>⟨r,rfl,.nil,?_⟩)
 rw[hr];exact HK
theorem Kt{h:Heap}{b:Nat}{n:Int}(x:Int){L:List (Nat×List Value)}(hL:Vars h ((b,[VI n])::L))(K:aL)(HK:K (VB (! jq 0 (aX (n-1)) x)) h):iQ aC (.func (.func 88) #[] #[VP b 0]) [VI x] h K:=by
 refine v88 x b n h K (.cons hL.head (by simp) .nil) ?_
 refine fa _ _ _ _ _ ⟨_,rfl,.cons hL.head (by simp) .nil,?_⟩
 exact HK
theorem Ze{h:Heap}{b:Nat}{g:Sl}(x:Int){L:List (Nat×List Value)}(hL:Vars h ((b,[g.v])::L))(K:aL)(HK:K (VB (! jq 0 (aX (g.n-1)) x)) h):iQ aC (.func (.func 147) #[] #[VP b 0]) [VI x] h K:=by
 refine aji x b g h K (.cons hL.head (by simp) .nil) ?_
 refine fa _ _ _ _ _ ⟨_,rfl,.cons hL.head (by simp) .nil,?_⟩
 exact HK
theorem NZ{aI:aE}(e3:jq 1 8 aI.length=true):aZ aI=aI.all fun l=> !decide (5<(l.length:Int))&&l.all (jq 0 ((aI.length:Int)-1)):=by unfold aZ;rw[e3];rfl
theorem N3{aI:aE}(e3:jq 1 8 aI.length=false):aZ aI=false:=by unfold aZ;rw[e3];rfl
theorem vh{xs:aH}{p:Int->Bool}:xs.any (fun x=> !p x)= !xs.all p:=by
 induction xs with
 |nil=>rfl
 |cons x xs ih=>simp only[List.any_cons,List.all_cons,ih,Bool.not_and]
theorem zm{S:aK}{h:Heap}{g:Sl}{aI:aE}(H:cG S h g aI):aX ((g.n:Int)-1)=(aI.length:Int)-1:=by
 rw[H.len]
 have h1:=sB H.PV
 have h2:=H.len
 exact aP _ (by omega) (by omega)
theorem wA{S:aK}{h:Heap}{g:Sl}{aI:aE}(H:cG S h g aI):tY aC 50 #[.agg #[g.v]] h (VB (aZ aI)):=by
 intro K HK
 refine v50 g h K fun b1 b2 h1 fK eN Zd cY=> ?_
 have f1:=Zd.aM
 have hlen:=H.len
 refine fa _ _ _ _ _ ⟨_,rfl,cY,fun e=> ?_,fun e=> ?_⟩
 ·have e3:jq 1 8 aI.length=false:=by have:=bU e;rw[hlen]at this;exact this
  rw[<-N3 e3];exact HK _ f1
 ·have e3:jq 1 8 aI.length=true:=by have:=bQ e;rw[hlen]at this;exact this
  have hg:=NZ e3
  refine⟨fun n i x h'=>h'=h1/\x=(g.n:Int)/\0<=i/\i+n=(aI.length:Int)/\aZ aI=(aI.drop i.toNat).all (fun l=> !decide (5<(l.length:Int))&&l.all (jq 0 ((aI.length:Int)-1))),⟨aI.length,rfl,rfl,by omega,by omega,by simp[hg]⟩,?_⟩
  rintro n i x _ ⟨rfl,rfl,h0,h2,h4⟩ hL
  have H3:=H.no f1
  refine⟨fun e=> ?_,fun e=> ?_⟩
  ·have hi:=H.lt e
   obtain⟨si,hc,Hi⟩:=H3.get h0 hi
   rw[drop_cons aI h0 hi,List.all_cons]at h4
   refine⟨H3.bM h0 hi,si,hc,fun e5=> ?_,fun e5=> ?_⟩
   ·rw[Hi.len]at e5
    rw[e5]at h4
    have h5:aZ aI=false:=by rw[h4];rfl
    rw[<-h5];exact HK _ f1
   ·rw[Hi.len]at e5
    rw[e5]at h4
    refine mW Hi _ _ (fun x K HK=>Kt x hL K HK) _ ?_
    refine⟨_,_,rfl,hL,fun e6=> ?_,fun e6=> ?_⟩
    ·rw[vh,zm H]at e6
     rw[bU e6]at h4
     have h5:aZ aI=false:=by rw[h4];rfl
     rw[<-h5];exact HK _ f1
    ·rw[vh,zm H]at e6
     rw[bQ e6]at h4
     rw[H.succ h0 hi]
     exact⟨n-1,by omega,rfl,rfl,by omega,by omega,by rw[h4];rfl⟩
  ·have hi:=H.ge e
   rw[kk (by omega)]at h4
   have h5:aZ aI=true:=by rw[h4];rfl
   rw[<-h5];exact HK _ f1
theorem vi{S S':aK}{h:Heap}{g s:Sl}{aI:aE}{ps:aH}(H:cG S h g aI)(Hp:bC S' h s ps):tY aC 107 #[.agg #[g.v],s.v] h (VB (aZ aI&&ps.all (jq 0 ((aI.length:Int)-1)))):=by
 intro K HK
 refine v107 g s h K fun b1 h1 fK f1 cY=> ?_
 have f1:=f1.aM
 refine wA (H.no f1) _ fun h2 f2=>⟨_,rfl,cY.aB f2,fun e=> ?_,fun e=> ?_⟩
 ·rw[e,fk]at HK
  have cC:=cY.aB f2
  refine mW ((Hp.no f1).no f2) _ _ (fun x K HK=>Ze x cC K HK) _ ?_
  refine⟨_,_,rfl,cC,?_⟩
  rw[vh,zm H,Bool.not_not]
  exact HK _ (f1.trans f2)
 ·rw[e,gJ]at HK
  exact HK _ (f1.trans f2)
theorem dZ{S:aK}{h:Heap}{g:Sl}{aI:aE}(H:cG S h g aI)(p:Int):tY aC 121 #[.agg #[g.v],VI p] h (VB (aZ aI&&jq 0 ((aI.length:Int)-1) p)):=by
 intro K HK
 refine aiI g p h K fun b1 h1 fK f1 cY=> ?_
 have f1:=f1.aM
 refine jB (H.no f1) _ fun h2 f2=>⟨_,rfl,cY.aB f2,fun e=> ?_,fun e=> ?_⟩
 ·rw[e,fk]at HK
  refine eK _ _ _ _ _ ⟨_,rfl,cY.aB f2,?_⟩
  rw[zm H]
  exact HK _ (f1.trans f2)
 ·rw[e,gJ]at HK
  exact HK _ (f1.trans f2)
theorem CO(a b:Int)(h:Heap)(K:aL)(HK:K (VI (max a b)) h):aG aC 122 #[VI a,VI b] h K:=by
 refine ae2 a b h K ⟨fun e=> ?_,fun e=> ?_⟩
 ·simp only[aT]at e
  rw[Int.max_eq_left (by omega)]at HK
  exact HK
 ·simp only[aY]at e
  rw[Int.max_eq_right (by omega)]at HK
  exact HK
def CP(l:aH)(r:Int):Bool:=jq 0 (max ((l.length:Int)-1) 0) r
def fx(g:aE)(rs:aH)(p:Int):Bool:=aZ g&&jq 0 ((g.length:Int)-1) p&&decide (rs.length=g.length)&&(g.zip rs).all fun q=>CP q.1 q.2
theorem wB{g:aE}{rs:aH}{p:Int}(e:(aZ g&&jq 0 ((g.length:Int)-1) p)=false):fx g rs p=false:=by unfold fx;rw[e];rfl
theorem DO{g:aE}{rs:aH}{p:Int}(e:¬rs.length=g.length):fx g rs p=false:=by unfold fx;rw[gZ e];simp
theorem Ib{g:aE}{rs:aH}{p:Int}(e:(aZ g&&jq 0 ((g.length:Int)-1) p)=true)(e2:rs.length=g.length):fx g rs p=(g.zip rs).all fun q=>CP q.1 q.2:=by unfold fx;rw[e,km e2];rfl
theorem Ic(g:aE)(rs:aH){i:Int}(h0:0<=i)(h1:i<(g.length:Int))(h2:i<(rs.length:Int)):(g.zip rs).drop i.toNat=(g[i.toNat]'(by omega),rs[i.toNat]'(by omega))::(g.zip rs).drop (i+1).toNat:=by
 have:=drop_cons (g.zip rs) h0 (by simp;omega)
 simpa using this
theorem Ie{S:aK}{h:Heap}{g:Sl}{xs:aH}(H:bC S h g xs):aX ((g.n:Int)-1)=(xs.length:Int)-1:=by
 rw[H.len]
 have h1:=sB (eC.PV H)
 have h2:=H.len
 exact aP _ (by omega) (by omega)
theorem q6{S S':aK}{h:Heap}{g s:Sl}{aI:aE}{rs:aH}(G:cG S h g aI)(H:bC S' h s rs)(p:Int):tY aC 77 #[.agg #[g.v],.agg #[s.v,VI p]] h (VB (fx aI rs p)):=by
 intro K HK
 refine v77 g s p h K fun b1 b2 h1 fK eN f1 cY=> ?_
 have f1:=f1.aM
 refine bE gD (fun k=>h1.size<=k) (fun _ h=>h) 1 (by omega) [VI p] rfl rfl fun t h2 n2 c2 o2 f2 l2 _=>⟨t,rfl,cY.aB f2,?_⟩
 have o2:bC (fun k=>h1.size<=k) h2 t [p]:=o2.fM
 refine vi ((G.no f1).no f2) o2 _ fun h3 f3=>⟨_,rfl,(cY.aB f2).aB f3,fun e=> ?_,fun e=> ?_⟩
 all_goals simp only[List.all_cons,List.all_nil,sF]at e
 ·rw[<-wB (rs:=rs) (bU e)];exact HK _ ((f1.aA f2).aA f3)
 ·have f13:=(f1.aA f2).aA f3
  rw[G.len,H.len]
  refine⟨fun e2=> ?_,fun e2=> ?_⟩
  ·have e3:=bU e2
   simp only[aY]at e3
   rw[<-DO (g:=aI) (rs:=rs) (p:=p) (by omega)];exact HK _ f13
  ·have e3:=bQ e2
   simp only[aT]at e3
   have e4:=Ib (bQ e) (rs:=rs) (by omega)
   have G3:=G.no f13
   have H3:=H.no f13
   refine⟨fun n i h'=>h'=h3/\0<=i/\i+n=(aI.length:Int)/\fx aI rs p=((aI.zip rs).drop i.toNat).all fun q=>CP q.1 q.2,⟨aI.length,rfl,by omega,by omega,by simpa using e4⟩,?_⟩
   rintro n i _ ⟨rfl,i0,i1,i2⟩ hL
   refine⟨fun e5=> ?_,fun e5=> ?_⟩
   ·have hi:i<(rs.length:Int):=by simpa using e5
    have jM:i<(aI.length:Int):=by omega
    obtain⟨si,c1,c2⟩:=G3.get i0 jM
    rw[Ic aI rs i0 jM hi,List.all_cons]at i2
    refine⟨H3.bM i0 hi,_,H3.get i0 hi,G3.bM i0 jM,si,c1,?_⟩
    rw[Ie c2]
    refine EQ _ _ _ _ ⟨_,rfl,fa _ _ _ _ _ ⟨_,rfl,hL,fun e6=> ?_,fun e6=> ?_⟩⟩
    ·have e7:CP (aI[i.toNat]'(by omega)) (rs[i.toNat]'(by omega))=false:=bU e6
     simp only at i2
     rw[e7]at i2
     have e8:fx aI rs p=false:=by rw[i2];rfl
     rw[<-e8];exact HK _ f13
    ·have e7:CP (aI[i.toNat]'(by omega)) (rs[i.toNat]'(by omega))=true:=bQ e6
     simp only at i2
     rw[e7,fk]at i2
     rw[H.succ i0 hi]
     exact⟨n-1,by omega,rfl,by omega,by omega,i2⟩
   ·have hi:¬i<(rs.length:Int):=by simpa using e5
    rw[kk (by simp;omega)]at i2
    have e8:fx aI rs p=true:=by rw[i2];rfl
    rw[<-e8];exact HK _ f13
theorem fW{S S':aK}{h:Heap}{g s:Sl}{aI:aE}{rs:aH}(G:cG S h g aI)(H:bC S' h s rs)(p:Int):tY aC 83 #[.agg #[g.v],.agg #[s.v,VI p]] h (VB (fx aI rs p)):=by
 intro K HK
 refine v83 g s p h K fun b1 b2 h1 fK eN f1 cY=> ?_
 have f1:=f1.aM
 refine dZ (G.no f1) p _ fun h3 f3=>⟨_,rfl,cY.aB f3,fun e=> ?_,fun e=> ?_⟩
 ·rw[<-wB (rs:=rs) (bU e)];exact HK _ (f1.aA f3)
 ·have f13:=f1.aA f3
  rw[G.len,H.len]
  refine⟨fun e2=> ?_,fun e2=> ?_⟩
  ·have e3:=bU e2
   simp only[aY]at e3
   rw[<-DO (g:=aI) (rs:=rs) (p:=p) (by omega)];exact HK _ f13
  ·have e3:=bQ e2
   simp only[aT]at e3
   have e4:=Ib (bQ e) (rs:=rs) (by omega)
   have G3:=G.no f13
   have H3:=H.no f13
   refine⟨fun n i h'=>h'=h3/\0<=i/\i+n=(aI.length:Int)/\fx aI rs p=((aI.zip rs).drop i.toNat).all fun q=>CP q.1 q.2,⟨aI.length,rfl,by omega,by omega,by simpa using e4⟩,?_⟩
   rintro n i _ ⟨rfl,i0,i1,i2⟩ hL
   refine⟨fun e5=> ?_,fun e5=> ?_⟩
   ·have jM:i<(aI.length:Int):=by simpa using e5
    have hi:i<(rs.length:Int):=by omega
    obtain⟨si,c1,c2⟩:=G3.get i0 jM
    rw[Ic aI rs i0 jM hi,List.all_cons]at i2
    refine⟨G3.bM i0 jM,si,c1,H3.bM i0 hi,_,H3.get i0 hi,?_⟩
    rw[Ie c2]
    refine CO _ _ _ _ ⟨_,rfl,hL,H3.get i0 hi,?_⟩
    rw[Int.max_comm]
    refine eK _ _ _ _ _ ⟨_,rfl,hL,fun e6=> ?_,fun e6=> ?_⟩
    ·have e7:CP (aI[i.toNat]'(by omega)) (rs[i.toNat]'(by omega))=false:=bU e6
     simp only at i2
     rw[e7]at i2
     have e8:fx aI rs p=false:=by rw[i2];rfl
     rw[<-e8];exact HK _ f13
    ·have e7:CP (aI[i.toNat]'(by omega)) (rs[i.toNat]'(by omega))=true:=bQ e6
     simp only at i2
     rw[e7,fk]at i2
     rw[G.succ i0 jM]
     exact⟨n-1,by omega,rfl,by omega,by omega,i2⟩
   ·have hi:¬i<(aI.length:Int):=by simpa using e5
    rw[kk (by simp;omega)]at i2
    have e8:fx aI rs p=true:=by rw[i2];rfl
    rw[<-e8];exact HK _ f13
theorem Ig{S S':aK}{h:Heap}{g s:Sl}{aI:aE}{rs:aH}(G:cG S h g aI)(H:bC S' h s rs)(p:Int):tY aC 42 #[.agg #[g.v,s.v,VI p]] h (VB (fx aI rs p)):=by
 intro K HK
 refine v42 g s p h K fun b1 h1 fK f1 cY=> ?_
 have f1:=f1.aM
 exact q6 (G.no f1) (H.no f1) p _ fun h2 f2=>⟨_,rfl,cY.aB f2,HK _ (f1.aA f2)⟩
theorem QB{S S':aK}{h:Heap}{g s:Sl}{aI:aE}{rs:aH}(G:cG S h g aI)(H:bC S' h s rs)(p:Int):tY aC 14 #[.agg #[g.v,s.v,VI p]] h (VB (fx aI rs p)):=by
 intro K HK
 refine v14 g s p h K fun b1 h1 fK f1 cY=> ?_
 have f1:=f1.aM
 exact Ig (G.no f1) (H.no f1) p _ fun h2 f2=>⟨_,rfl,cY.aB f2,HK _ (f1.aA f2)⟩
theorem CQ{S S':aK}{h:Heap}{g s:Sl}{aI:aE}{rs:aH}(G:cG S h g aI)(H:bC S' h s rs)(p:Int):tY aC 45 #[.agg #[g.v,s.v,VI p]] h (VB (fx aI rs p)):=by
 intro K HK
 refine v45 g s p h K fun b1 h1 fK f1 cY=> ?_
 have f1:=f1.aM
 refine jB (G.no f1) _ fun h2 f2=>⟨_,rfl,cY.aB f2,fun e=> ?_,fun e=> ?_⟩
 ·exact fW ((G.no f1).no f2) ((H.no f1).no f2) p _ fun h3 f3=>⟨_,rfl,(cY.aB f2).aB f3,HK _ ((f1.aA f2).aA f3)⟩
 ·rw[<-wB (g:=aI) (rs:=rs) (p:=p) (by rw[e];rfl)]
  exact HK _ (f1.aA f2)
def wC(aI:aE):Nat:=(aI.map List.length).sum
theorem QC{F:aK}{h:Heap}{g:Sl}{aI:aE}(H:gy h F g aI)(hn:aI.length<=1000000000000)(K:aL)(HK:∀w h',gy h' (fun k=>F k/\k<h.size) g aI->cH h' (fun k=>h.size<=k) w (List.replicate aI.length 0)->Fr No h h'->K (.agg #[g.v,w.v,VI 0]) h'):aG aC 69 #[.agg #[g.v]] h K:=by
 refine v69 g h K fun b1 b2 h1 fK eN f1 cY=> ?_
 have f1:=f1.aM
 have s1:=f1.size
 refine fC gD (fun k=>h1.size<=k) (fun _ h=>h) .i64 .i64 g.n g.n (aW _) (by rw[H.len];exact hn) fun t7 h3 n3 c3 o3 f3 l3 _=>⟨t7,rfl,cY.aB f3,fun h4 f4 eM=> ?_⟩
 have hb:b2<h1.size:=cY.head.lt
 have f13:=f1.aA f3
 refine HK _ _ ((((H.mono fun k hk hF=>⟨hF,hk⟩:gy h (fun k=>F k/\k<h.size) g aI).no f13).fr f4 fun k _ hk aQ=> ?_)) ?_ ?_
 ·simp[In]at aQ
  omega
 ·have e:(List.replicate g.n [VI 0]).flatten=(List.replicate aI.length (0:Int)).map VI:=by rw[H.len];simp[ko]
  rw[e]at o3
  refine(Ow.fr o3 f4 fun k hk aQ=> ?_).mono fun k _ hk=>by omega
  have:=l3 k hk
  simp[In]at aQ
  omega
 ·have f14:Fr (In [b2]) h h4:=f13.aB.trans f4
  refine⟨f14.size,fun k hk _=>f14.same k hk fun aQ=> ?_⟩
  simp[In]at aQ
  omega
theorem Ih{S:aK}{h:Heap}{s:Sl}{xs:aH}(H:bC S h s xs)(hn:s.a=none):xs=[]:=by
 cases xs with
 |nil=>rfl
 |cons x xs=>
  obtain⟨a,ha,_⟩:=eC.cell H 0 (by simp)
  rw[hn]at ha
  cases ha
theorem zn{S:aK}{h:Heap}{s:Sl}{xs:aH}(H:bC S h s xs)(hn:xs.length<=1000000000)(K:aL)(HK:∀t h',cH h' (Iv h.size h'.size) t xs->Fr No h h'->K t.v h'):aG aC 152 #[s.v] h K:=by
 refine v152 s h K (NU gD _ _ ⟨_,rfl,fun e=> ?_,fun e=> ?_⟩)
 ·have:xs=[]:=Ih H (by simpa using e)
  subst this
  exact HK aD h (Ow.nil _ _ _ _) (Fr.refl _ _)
 ·refine bE gD (fun k=>h.size<=k) (fun _ h=>h) 0 (by omega) [] rfl rfl fun t h1 n1 c1 o1 f1 l1 _=>⟨t,rfl,.nil,?_⟩
  refine cP gD o1 (fun k hk=>dD f1.size hk) (H.no f1) (fU _) (by have:=H.len;omega) fun t' h2 n2 o2 f2 l2=>⟨t',rfl,.nil,?_⟩
  exact HK t' h2 (Ow.gN (by simpa using o2)) (f1.fresh f2 l1)
theorem nP{S:aK}{h:Heap}{s:Sl}{xs:aH}(H:bC S h s xs)(hn:xs.length<=1000000000)(K:aL)(HK:∀t h',cH h' (Iv h.size h'.size) t xs->Fr No h h'->K t.v h'):aG aC 87 #[s.v] h K:=by
 refine v87 s h K ?_
 refine bE gD (fun k=>h.size<=k) (fun _ h=>h) 0 (by omega) [] rfl rfl fun t h1 n1 c1 o1 f1 l1 _=>⟨t,rfl,.nil,?_⟩
 refine cP gD o1 (fun k hk=>dD f1.size hk) (H.no f1) (fU _) (by have:=H.len;omega) fun t' h2 n2 o2 f2 l2=>⟨t',rfl,.nil,?_⟩
 exact HK t' h2 (Ow.gN (by simpa using o2)) (f1.fresh f2 l1)
theorem DP{n:Nat}:∀{aI:aE}{m:Nat},aI.length<=m->(∀l,l∈aI->l.length<=n)->wC aI<=m*n
 |[],m,_,_=>by simp[wC]
 |x::xs,0,h,_=>by simp at h
 |x::xs,m+1,h,h2=>by
  have h3:=DP (n:=n) (aI:=xs) (m:=m) (by simpa using h) fun l hl=>h2 l (cO _ hl)
  have h4:=h2 x (by simp)
  have h5:wC (x::xs)=x.length+wC xs:=by simp[wC]
  rw[h5,mm]
  omega
theorem vj{aI:aE}:∀l,l∈aI->l.length<=wC aI:=by
 induction aI with
 |nil=>intro l h;simp at h
 |cons x xs ih=>
  intro l hl
  have h5:wC (x::xs)=x.length+wC xs:=by simp[wC]
  rcases aO.1 hl with rfl|hl
  ·omega
  ·have:=ih l hl;omega
theorem Ii{S:aK}{h:Heap}{g:Sl}{aI:aE}(H:cG S h g aI)(hn:aI.length+wC aI<=1000000000)(K:aL)(HK:∀t h',gy h' (Iv h.size h'.size) t aI->Fr No h h'->K (.agg #[t.v]) h'):aG aC 109 #[.agg #[g.v]] h K:=by
 refine v109 g h K fun b1 b2 b3 h4 fK eN jv f4 eM=> ?_
 have f4:=f4.aM
 have l3:b3<h4.size:=eM.head.lt
 have l2:b2<h4.size:=eM.tail.head.lt
 have l1:b1<h4.size:=eM.tail.tail.head.lt
 have s4:=f4.size
 refine⟨fun n i x h'=>0<=i/\i+n=(aI.length:Int)/\gy h' (fun k=>h4.size<=k) x (aI.take i.toNat)/\Fr No h h'/\h4.size<=h'.size,⟨aI.length,by omega,by omega,by simpa using dJ.nil _ _ _ _,f4,aW _⟩,?_⟩
 rintro n i x h5 ⟨i0,i1,o5,f5,z5⟩ ie
 have H5:=H.no f5
 refine⟨fun e=> ?_,fun e=> ?_⟩
 ·have hi:=H.lt e
  obtain⟨si,c1,c2⟩:=H5.get i0 hi
  have hsi:=vj (aI[i.toNat]'(by omega)) (bJ (by omega))
  refine⟨H5.bM i0 hi,si,c1,zn c2 (by omega) _ fun t h6 o6 f6=>⟨t,rfl,ie.aB f6,?_⟩⟩
  refine bE ug (fun k=>h6.size<=k) (fun _ h=>h) 1 (by omega) [t.v] rfl rfl fun u h7 n7 c7 o7 f7 l7 _=>⟨u,rfl,(ie.aB f6).aB f7,?_⟩
  have s6:=f6.size
  have s7:=f7.size
  refine dJ.snoc ug ((o5.gN.no f6).no f7) (F':=fun k=>h4.size<=k) (fun k _ hk=>hk.1) (fun k hk=>by omega) ((Ow.no o6 f7).mono fun k _ hk=>dD z5 hk.1) (fun k hk aQ=>by have:=(o6.aS hk).1.1;have:=aQ.2;omega) o7.rd (by simp;omega) fun y h8 o8 f8=>⟨y,rfl,((ie.aB f6).aB f7).iv f8 ⟨.inl l3,.inl l2,.inl l1,trivial⟩,fun h9 f9 iG=> ?_⟩
  have s8:=f8.size
  have f9:=f9.dM (lo:=h.size) (hi:=h4.size) ⟨⟨jv,l3⟩,trivial⟩
  have s9:=f9.size
  rw[H.succ i0 hi]
  refine⟨n-1,by omega,by omega,by omega,?_,?_,by omega⟩
  ·rw[fu aI i0 hi]
   exact(o8.gN.iv f9 (.inr (aW _))).mono fun k _ hk=>hk.1
  ·exact((((f5.aA f6).aA f7).aU f8 (by omega))).aU f9 (aW _)
 ·have hi:=H.ge e
  rw[cT (by omega)]at o5
  intro eW f10 fe
  have f10:=f10.dM (lo:=h.size) (hi:=h4.size) ⟨⟨eN,l2⟩,trivial⟩
  exact HK x eW ((o5.gN.iv f10 (.inr (aW _))).mono fun k aQ hk=>⟨dD s4 hk.1,aQ⟩) (f5.aU f10 (aW _))
theorem QD{S:aK}{h:Heap}{g:Sl}{aI:aE}(H:cG S h g aI)(hn:aI.length+wC aI<=1000000000)(K:aL)(HK:∀t h',gy h' (Iv h.size h'.size) t aI->Fr No h h'->K (.agg #[t.v]) h'):aG aC 175 #[.agg #[g.v]] h K:=by
 refine v175 g h K fun b1 b2 b3 h4 fK eN jv f4 eM=> ?_
 have f4:=f4.aM
 have l3:b3<h4.size:=eM.head.lt
 have l2:b2<h4.size:=eM.tail.head.lt
 have l1:b1<h4.size:=eM.tail.tail.head.lt
 have s4:=f4.size
 refine⟨fun n i x h'=>0<=i/\i+n=(aI.length:Int)/\gy h' (fun k=>h4.size<=k) x (aI.take i.toNat)/\Fr No h h'/\h4.size<=h'.size,⟨aI.length,by omega,by omega,by simpa using dJ.nil _ _ _ _,f4,aW _⟩,?_⟩
 rintro n i x h5 ⟨i0,i1,o5,f5,z5⟩ ie
 have H5:=H.no f5
 refine⟨fun e=> ?_,fun e=> ?_⟩
 ·have hi:=H.lt e
  obtain⟨si,c1,c2⟩:=H5.get i0 hi
  have hsi:=vj (aI[i.toNat]'(by omega)) (bJ (by omega))
  refine⟨H5.bM i0 hi,si,c1,nP c2 (by omega) _ fun t h6 o6 f6=>⟨t,rfl,ie.aB f6,?_⟩⟩
  refine bE ug (fun k=>h6.size<=k) (fun _ h=>h) 1 (by omega) [t.v] rfl rfl fun u h7 n7 c7 o7 f7 l7 _=>⟨u,rfl,(ie.aB f6).aB f7,?_⟩
  have s6:=f6.size
  have s7:=f7.size
  refine dJ.snoc ug ((o5.gN.no f6).no f7) (F':=fun k=>h4.size<=k) (fun k _ hk=>hk.1) (fun k hk=>by omega) ((Ow.no o6 f7).mono fun k _ hk=>dD z5 hk.1) (fun k hk aQ=>by have:=(o6.aS hk).1.1;have:=aQ.2;omega) o7.rd (by simp;omega) fun y h8 o8 f8=>⟨y,rfl,((ie.aB f6).aB f7).iv f8 ⟨.inl l3,.inl l2,.inl l1,trivial⟩,fun h9 f9 iG=> ?_⟩
  have s8:=f8.size
  have f9:=f9.dM (lo:=h.size) (hi:=h4.size) ⟨⟨jv,l3⟩,trivial⟩
  have s9:=f9.size
  rw[H.succ i0 hi]
  refine⟨n-1,by omega,by omega,by omega,?_,?_,by omega⟩
  ·rw[fu aI i0 hi]
   exact(o8.gN.iv f9 (.inr (aW _))).mono fun k _ hk=>hk.1
  ·exact((((f5.aA f6).aA f7).aU f8 (by omega))).aU f9 (aW _)
 ·have hi:=H.ge e
  rw[cT (by omega)]at o5
  intro eW f10 fe
  have f10:=f10.dM (lo:=h.size) (hi:=h4.size) ⟨⟨eN,l2⟩,trivial⟩
  exact HK x eW ((o5.gN.iv f10 (.inr (aW _))).mono fun k aQ hk=>⟨dD s4 hk.1,aQ⟩) (f5.aU f10 (aW _))
def mb(aI:aE):aE:=if aZ aI then aI else[]
def jC(g:aE)(p q:Int):aE×Bool:=
 if aZ g&&jq 0 ((g.length:Int)-1) p&&jq 0 ((g.length:Int)-1) q then(mb (g.set p.toNat (g.getD p.toNat []++[q])),aZ (g.set p.toNat (g.getD p.toNat []++[q])))else([],false)
theorem bT{lo hi x:Int}:jq lo hi x=true↔lo<=x/\x<=hi:=by simp[jq]
theorem bA{g:aE}(h:aZ g=true):1<=g.length/\g.length<=8:=by
 unfold aZ at h
 rw[bD,bT]at h
 omega
theorem bL{g:aE}(h:aZ g=true){l:aH}(hl:l∈g):l.length<=5/\∀x,x∈l->0<=x/\x<(g.length:Int):=by
 unfold aZ at h
 rw[bD]at h
 have:=js.1 h.2 l hl
 rw[bD]at this
 obtain⟨h1,h2⟩:=this
 simp only[gV,aY]at h1
 refine⟨by omega,fun x hx=> ?_⟩
 have:=js.1 h2 x hx
 rw[bT]at this
 omega
theorem sG{g:aE}(h:aZ g=true):wC g<=40:=by
 have:=DP (n:=5) (aI:=g) (m:=8) (bA h).2 fun l hl=>(bL h hl).1
 omega
theorem bH{g:aE}{i:Nat}(h:i<g.length):g.getD i []=g[i]:=by simp[List.getD,dY h]
theorem QE{x y:Nat}{h:Heap}{g:Sl}{aI:aE}(H:gy h (Iv x y) g aI)(hy:y<=h.size)(K:aL)(HK:∀t h',gy h' (Iv x y) t (mb aI)->Fr No h h'->K (.tuple #[.agg #[t.v],VB (aZ aI)]) h'):aG aC 200 #[.agg #[g.v]] h K:=by
 refine akp g h K fun b1 b2 h2 fK eN f2 cC=> ?_
 have f2:=f2.aM
 have l2:b2<h2.size:=cC.head.lt
 refine wA (H.rd.no f2) _ fun h3 f3=>⟨_,rfl,cC.aB f3,fun e h4 f4 eM=> ?_,fun e h4 f4 eM=> ?_⟩
 ·have f4:=f4.dM (lo:=h.size) (hi:=h2.size) ⟨⟨eN,l2⟩,trivial⟩
  have e:=bU e
  have:=HK aD h4 (by unfold mb;rw[e];exact dJ.nil _ _ _ _) ((f2.aA f3).aU f4 (aW _))
  rw[e]at this
  exact this
 ·have f4:=f4.dM (lo:=h.size) (hi:=h2.size) ⟨⟨eN,l2⟩,trivial⟩
  have e:=bQ e
  have:=HK g h4 (by unfold mb;rw[e];exact((H.no f2).no f3).iv f4 (.inl hy)) ((f2.aA f3).aU f4 (aW _))
  rw[e]at this
  exact this
theorem Zf{x y:Nat}{h:Heap}{g:Sl}{aI:aE}(H:gy h (Iv x y) g aI)(hy:y<=h.size)(K:aL)(HK:∀t h',gy h' (Iv x y) t (mb aI)->Fr No h h'->K (.tuple #[.agg #[t.v],VB (aZ aI)]) h'):aG aC 176 #[.agg #[g.v]] h K:=by
 refine ajQ g h K fun b1 b2 h2 fK eN f2 cC=> ?_
 have f2:=f2.aM
 have l2:b2<h2.size:=cC.head.lt
 refine jB (H.rd.no f2) _ fun h3 f3=>⟨_,rfl,cC.aB f3,fun e h4 f4 eM=> ?_,fun e h4 f4 eM=> ?_⟩
 ·have f4:=f4.dM (lo:=h.size) (hi:=h2.size) ⟨⟨eN,l2⟩,trivial⟩
  have e:=bU e
  have:=HK aD h4 (by unfold mb;rw[e];exact dJ.nil _ _ _ _) ((f2.aA f3).aU f4 (aW _))
  rw[e]at this
  exact this
 ·have f4:=f4.dM (lo:=h.size) (hi:=h2.size) ⟨⟨eN,l2⟩,trivial⟩
  have e:=bQ e
  have:=HK g h4 (by unfold mb;rw[e];exact((H.no f2).no f3).iv f4 (.inl hy)) ((f2.aA f3).aU f4 (aW _))
  rw[e]at this
  exact this
theorem N4{S:aK}{h:Heap}{g:Sl}{aI:aE}(H:cG S h g aI)(p q:Int)(K:aL)(HK:∀t h',gy h' (Iv h.size h'.size) t (jC aI p q).1->Fr No h h'->K (.tuple #[.agg #[t.v],VB (jC aI p q).2]) h'):aG aC 216 #[.agg #[g.v],VI p,VI q] h K:=by
 refine akM g p q h K fun b1 b2 h2 fK eN f2 cC=> ?_
 have f2:=f2.aM
 have l2:b2<h2.size:=cC.head.lt
 have l1:b1<h2.size:=cC.tail.head.lt
 have s2:=f2.size
 refine bE gD (fun k=>h2.size<=k) (fun _ h=>h) 2 (by omega) [VI p,VI q] rfl rfl fun t h3 n3 c3 o3 f3 m3 _=>⟨t,rfl,cC.aB f3,?_⟩
 have o3:bC (fun k=>h2.size<=k) h3 t [p,q]:=o3.fM
 have dI:=cC.aB f3
 have s3:=f3.size
 refine vi ((H.no f2).no f3) o3 _ fun h4 f4=>⟨_,rfl,dI.aB f4,fun e h5 f5 ie=> ?_,fun e=> ?_⟩
 all_goals simp only[List.all_cons,List.all_nil,sF]at e
 ·have f5:=f5.dM (lo:=h.size) (hi:=h2.size) ⟨⟨eN,l2⟩,trivial⟩
  have e2:jC aI p q=([],false):=by unfold jC;rw[Bool.and_assoc,bU e];rfl
  have:=HK aD h5 (by rw[e2];exact dJ.nil _ _ _ _) (((f2.aA f3).aA f4).aU f5 (aW _))
  rw[e2]at this
  exact this
 ·have e:=bQ e
  have e2:jC aI p q=(mb (aI.set p.toNat (aI.getD p.toNat []++[q])),aZ (aI.set p.toNat (aI.getD p.toNat []++[q]))):=by unfold jC;rw[Bool.and_assoc,e];rfl
  rw[bD,bD,bT,bT]at e
  obtain⟨hg,⟨U6,hp1⟩,hq⟩:=e
  have hlen:=bA hg
  have al1:=sG hg
  rw[e2]at HK
  have f24:=(f2.aA f3).aA f4
  have s4:=f4.size
  refine Ii (H.no f24) (by omega) _ fun u h6 o6 f6=>⟨u,rfl,(dI.aB f4).aB f6,o6.rd.bM U6 (by omega),fun b3 h8 jv f8 gK=> ?_⟩
  have f8:=f8.aM
  have s6:=f6.size
  have s8:=f8.size
  have l3:b3<h8.size:=gK.head.lt
  have o8:=o6.no f8
  obtain⟨si,c1,c2,_⟩:=o8.inner U6 (by omega)
  refine⟨si,c1,?_⟩
  refine bE gD (fun k=>h8.size<=k) (fun _ h=>h) 1 (by omega) [VI q] rfl rfl fun v h9 n9 c9 o9 f9 m9 _=>⟨v,rfl,gK.aB f9,dG c1 f9 (fun h=>h),?_⟩
  have s9:=f9.size
  have o9:bC (fun k=>h8.size<=k) h9 v [q]:=o9.fM
  have hsi:=(bL hg (bJ (show p.toNat<aI.length by omega))).1
  have iG:=gK.aB f9
  have Zg:=o8.no f9
  have E8:cH h9 (fun k=>h4.size<=k) si (aI[p.toNat]'(by omega)):=(Ow.no c2 f9).mono fun k _ hk=>hk.1
  refine cP gD E8 (fun k hk=>by omega) o9 (fU _) (by have h1:=bC.len E8.fM;have h2:=o9.len;simp at h2;omega) fun w eW TR kW f10 d10=>⟨w,rfl,?_⟩
  have E9:Fr (Iv h4.size h6.size) h9 eW:=f10.mono fun k _ hk=>(c2.aS hk).1
  have fe:=iG.iv E9 ⟨.inr jv,.inl (by omega),.inl (by omega),trivial⟩
  have s10:=f10.size
  rw[<-cV]at kW
  obtain⟨i11,U7,kp,f11⟩:=Zg.Ag U6 (by omega) (dG c1 f9 fun h=>h) f10 (F':=fun k=>h4.size<=k) kW (fun k _ hk=>hk.1) fun k hk=>(d10 k hk).imp id fun aQ jP=>by have:=jP.2;omega
  have QF:Fr (Iv h4.size h6.size) eW _:=Zg.NV f11
  have fJ:=fe.iv QF ⟨.inr jv,.inl (by omega),.inl (by omega),trivial⟩
  refine⟨fe,i11,U7,fJ,fun gP Yc _=> ?_⟩
  subst Yc
  have s11:=f11.size
  refine QE kp.gN (aW _) _ fun z iH Ku f12=>⟨z,_,rfl,fJ.aB f12,fun uh f13 QG=> ?_⟩
  have f13:=f13.dM (lo:=h.size) (hi:=h2.size) ⟨⟨eN,l2⟩,trivial⟩
  have s12:=f12.size
  have s13:=f13.size
  rw[bH (show p.toNat<aI.length by omega)]at HK
  refine HK z uh ((Ku.iv f13 (.inr (by omega))).mono fun k hk hF=>⟨by have:=hF.1;omega,hk⟩) ?_
  exact((((((f24.aA f6).aA f8).aA f9).aU E9 (by omega)).aU QF (by omega)).aA f12).aU f13 (aW _)
theorem ra{S:aK}{h:Heap}{g:Sl}{aI:aE}(H:cG S h g aI)(p q:Int)(K:aL)(HK:∀t h',gy h' (Iv h.size h'.size) t (jC aI p q).1->Fr No h h'->K (.tuple #[.agg #[t.v],VB (jC aI p q).2]) h'):aG aC 126 #[.agg #[g.v],VI p,VI q] h K:=by
 refine aiQ g p q h K fun b1 b2 h2 fK eN f2 cC=> ?_
 have f2:=f2.aM
 have l2:b2<h2.size:=cC.head.lt
 have l1:b1<h2.size:=cC.tail.head.lt
 have s2:=f2.size
 refine dZ (H.no f2) p _ fun h3 f3=>⟨_,rfl,cC.aB f3,fun e h5 f5 ie=> ?_,fun e=> ?_⟩
 ·have f5:=f5.dM (lo:=h.size) (hi:=h2.size) ⟨⟨eN,l2⟩,trivial⟩
  have e2:jC aI p q=([],false):=by unfold jC;rw[bU e];rfl
  have:=HK aD h5 (by rw[e2];exact dJ.nil _ _ _ _) ((f2.aA f3).aU f5 (aW _))
  rw[e2]at this
  exact this
 have dI:=cC.aB f3
 have s3:=f3.size
 have e1:=bQ e
 refine dZ ((H.no f2).no f3) q _ fun h4 f4=>⟨_,rfl,dI.aB f4,fun e h5 f5 ie=> ?_,fun e=> ?_⟩
 ·have f5:=f5.dM (lo:=h.size) (hi:=h2.size) ⟨⟨eN,l2⟩,trivial⟩
  have e:=bU e
  have e2:jC aI p q=([],false):=by
   unfold jC
   rw[bD]at e1
   rw[e1.1,fk]at e
   rw[e1.1,e1.2,e];rfl
  have:=HK aD h5 (by rw[e2];exact dJ.nil _ _ _ _) (((f2.aA f3).aA f4).aU f5 (aW _))
  rw[e2]at this
  exact this
 ·have e:=bQ e
  have e2:jC aI p q=(mb (aI.set p.toNat (aI.getD p.toNat []++[q])),aZ (aI.set p.toNat (aI.getD p.toNat []++[q]))):=by
   unfold jC
   rw[bD]at e
   rw[e1,e.2];rfl
  rw[bD,bT]at e e1
  obtain⟨hg,U6,hp1⟩:=e1
  have hlen:=bA hg
  have al1:=sG hg
  rw[e2]at HK
  have f24:=(f2.aA f3).aA f4
  have s4:=f4.size
  refine QD (H.no f24) (by omega) _ fun u h6 o6 f6=>⟨u,rfl,(dI.aB f4).aB f6,o6.rd.bM U6 (by omega),fun b3 h8 jv f8 gK=> ?_⟩
  have f8:=f8.aM
  have s6:=f6.size
  have s8:=f8.size
  have l3:b3<h8.size:=gK.head.lt
  have o8:=o6.no f8
  obtain⟨si,c1,c2,_⟩:=o8.inner U6 (by omega)
  refine⟨si,c1,?_⟩
  refine bE gD (fun k=>h8.size<=k) (fun _ h=>h) 1 (by omega) [VI q] rfl rfl fun v h9 n9 c9 o9 f9 m9 _=>⟨v,rfl,gK.aB f9,dG c1 f9 (fun h=>h),?_⟩
  have s9:=f9.size
  have o9:bC (fun k=>h8.size<=k) h9 v [q]:=o9.fM
  have hsi:=(bL hg (bJ (show p.toNat<aI.length by omega))).1
  have iG:=gK.aB f9
  have Zg:=o8.no f9
  have E8:cH h9 (fun k=>h4.size<=k) si (aI[p.toNat]'(by omega)):=(Ow.no c2 f9).mono fun k _ hk=>hk.1
  refine cP gD E8 (fun k hk=>by omega) o9 (fU _) (by have h1:=bC.len E8.fM;have h2:=o9.len;simp at h2;omega) fun w eW TR kW f10 d10=>⟨w,rfl,?_⟩
  have E9:Fr (Iv h4.size h6.size) h9 eW:=f10.mono fun k _ hk=>(c2.aS hk).1
  have fe:=iG.iv E9 ⟨.inr jv,.inl (by omega),.inl (by omega),trivial⟩
  have s10:=f10.size
  rw[<-cV]at kW
  obtain⟨i11,U7,kp,f11⟩:=Zg.Ag U6 (by omega) (dG c1 f9 fun h=>h) f10 (F':=fun k=>h4.size<=k) kW (fun k _ hk=>hk.1) fun k hk=>(d10 k hk).imp id fun aQ jP=>by have:=jP.2;omega
  have QF:Fr (Iv h4.size h6.size) eW _:=Zg.NV f11
  have fJ:=fe.iv QF ⟨.inr jv,.inl (by omega),.inl (by omega),trivial⟩
  refine⟨fe,i11,U7,fJ,fun gP Yc _=> ?_⟩
  subst Yc
  have s11:=f11.size
  refine Zf kp.gN (aW _) _ fun z iH Ku f12=>⟨z,_,rfl,fJ.aB f12,fun uh f13 QG=> ?_⟩
  have f13:=f13.dM (lo:=h.size) (hi:=h2.size) ⟨⟨eN,l2⟩,trivial⟩
  have s12:=f12.size
  have s13:=f13.size
  rw[bH (show p.toNat<aI.length by omega)]at HK
  refine HK z uh ((Ku.iv f13 (.inr (by omega))).mono fun k hk hF=>⟨by have:=hF.1;omega,hk⟩) ?_
  exact((((((f24.aA f6).aA f8).aA f9).aU E9 (by omega)).aU QF (by omega)).aA f12).aU f13 (aW _)
theorem Ij{k n:Int}(h0:0<=k)(hn:0<=n):Int.tmod k n=((k.toNat%n.toNat:Nat):Int):=by
 obtain⟨a,rfl⟩:=Int.eq_ofNat_of_zero_le h0
 obtain⟨b,rfl⟩:=Int.eq_ofNat_of_zero_le hn
 rfl
@[reducible] def tB:TypeId:=4
@[reducible] def tBs:TypeId:=195
theorem rBs:qw aC tBs=some (tB,1,1,[VB false]):=by kernel_rfl
theorem al2{S:aK}{h:Heap}{s:Sl}{bs:List Bool}(H:eC S h 1 s (bs.map VB)){i:Int}(h0:0<=i)(h1:i<(bs.length:Int)):bF h (s.at i 1)=some (VB (bs[i.toNat]'(by omega))):=by
 have:=eC.get H h0 (by simpa using h1)
 simpa using this
theorem al3{S:aK}{h:Heap}{s:Sl}{bs:List Bool}(H:eC S h 1 s (bs.map VB)):s.n=bs.length:=by have:=eC.len H;simp at this;exact this.symm
abbrev St:=aH×Int
def dK(g:aE)(w:St):Option St:=
 if(g.getD w.2.toNat []).length=0 then none
 else some (w.1.set w.2.toNat ((((w.1.getD w.2.toNat 0).toNat+1)%(g.getD w.2.toNat []).length:Nat):Int),(g.getD w.2.toNat []).getD (((w.1.getD w.2.toNat 0).toNat+1)%(g.getD w.2.toNat []).length) 0)
structure iT(g:aE)(w:St):Prop where
 cD:aZ g=true
 len:w.1.length=g.length
 lo:0<=w.2
 hi:w.2<(g.length:Int)
 QH:∀i(h:i<w.1.length)(h':i<g.length),0<=w.1[i]/\w.1[i]<=max ((g[i].length:Int)-1) 0
theorem dN{g:aE}{rs:aH}{p:Int}(h:fx g rs p=true):iT g (rs,p):=by
 unfold fx at h
 simp only[bD,aT]at h
 obtain⟨⟨⟨h1,h2⟩,h3⟩,h4⟩:=h
 rw[bT]at h2
 refine⟨h1,h3,h2.1,by simp only;omega,fun i a b=> ?_⟩
 have:=js.1 h4 (g[i],rs[i]) (by
  rw[show(g[i],rs[i])=(g.zip rs)[i]'(by simp only[List.length_zip];simp only at a;omega) by simp]
  exact bJ _)
 unfold CP at this
 rw[bT]at this
 exact this
theorem pQ{g:aE}{w:St}(W:iT g w)(hp:w.2.toNat<g.length):(g[w.2.toNat]).length=0->dK g w=none:=fun h=>by
 unfold dK
 rw[bH hp,aJ h]
theorem bB{xs:aH}{i:Nat}(h:i<xs.length):xs.getD i 0=xs[i]:=by simp[List.getD,dY h]
theorem ui{g:aE}{w:St}(W:iT g w)(hp:w.2.toNat<g.length)(hr:w.2.toNat<w.1.length)(h:(g[w.2.toNat]).length≠0):
 dK g w=some (w.1.set w.2.toNat ((((w.1[w.2.toNat]).toNat+1)%(g[w.2.toNat]).length:Nat):Int),(g[w.2.toNat])[((w.1[w.2.toNat]).toNat+1)%(g[w.2.toNat]).length]'(j9 _ (by omega))):=by
 unfold dK
 rw[bH hp,aF h,bB hr,bB (j9 _ (by omega))]
theorem iT.step{g:aE}{w w':St}(W:iT g w)(h:dK g w=some w'):iT g w':=by
 have hp:w.2.toNat<g.length:=by have:=W.hi;have:=W.lo;omega
 have hr:w.2.toNat<w.1.length:=by rw[W.len];exact hp
 by_cases h0:(g[w.2.toNat]).length=0
 ·rw[pQ W hp h0]at h;cases h
 ·rw[ui W hp hr h0]at h
  have hm:=j9 ((w.1[w.2.toNat]).toNat+1) (show 0<(g[w.2.toNat]).length by omega)
  simp only[dC]at h
  subst h
  have ae6:=(bL W.cD (bJ hp)).2 _ (bJ hm)
  refine⟨W.cD,by simpa using W.len,ae6.1,ae6.2,fun i a b=> ?_⟩
  simp only[bY]at a
  simp only[fR]
  split
  ·rename_i e
   subst e
   omega
  ·exact W.QH i a b
theorem jW{S:aK}{h:Heap}{s:Sl}{xs:aH}(H:bC S h s xs)(p:Int)(hn:xs.length<=1000000000)(K:aL)(HK:∀t h',cH h' (Iv h.size h'.size) t xs->Fr No h h'->K (.agg #[t.v,VI p]) h'):aG aC 110 #[.agg #[s.v,VI p]] h K:=by
 refine aip s p h K fun b1 b2 h2 fK eN f2 cC=> ?_
 have f2:=f2.aM
 have l2:b2<h2.size:=cC.head.lt
 have s2:=f2.size
 refine zn (H.no f2) hn _ fun t h3 o3 f3=>⟨t,rfl,cC.aB f3,fun h4 f4 eM=> ?_⟩
 have f4:=f4.dM (lo:=h.size) (hi:=h2.size) ⟨⟨eN,l2⟩,trivial⟩
 exact HK t h4 ((Ow.iv o3 f4 (.inr (aW _))).mono fun k hk hF=>⟨dD s2 hF.1,fQ hF.2 f4.size⟩) ((f2.aA f3).aU f4 (aW _))
theorem Fa{F S:aK}{b:Nat}{h:Heap}{g w:Sl}{aI:aE}{s:St}(G:cG S h g aI)(V:bV h b [w.v,VI s.2])(H:cH h F w s.1)(hS:∀k,S k->¬F k)(hFb:F b)(J6:¬w.own b)(W:iT aI s)(K:aL)
 (HN:dK aI s=none->∀h',Fr No h h'->K (VB false) h') (HS:∀s',dK aI s=some s'->∀h',cH h' F w s'.1->bV h' b [w.v,VI s'.2]->Fr F h h'->K (VB true) h'):
 aG aC 254 #[.agg #[g.v],VP b 0] h K:=by
 have hp:s.2.toNat<aI.length:=by have:=W.hi;have:=W.lo;omega
 have hr:s.2.toNat<s.1.length:=by rw[W.len];exact hp
 have yL:=W.lo
 refine alo g b w s.2 h K (.cons V (by simp) .nil) ⟨G.bM W.lo W.hi,fun b2 h1 eN f1 cY=> ?_⟩
 have f1:=f1.aM
 obtain⟨si,c1,c2⟩:=(G.no f1).get W.lo W.hi
 have H1:=Ow.no H f1
 have hn1:w.n=s.1.length:=bC.len H.fM
 refine⟨si,c1,fun e=> ?_,fun e=> ?_⟩
 ·simp only[aT]at e
  exact HN (pQ W hp (by have:=c2.len;omega)) h1 f1
 ·simp only[aY]at e
  have h0:(aI[s.2.toNat]'hp).length≠0:=by have:=c2.len;omega
  have PY:=ui W hp hr h0
  have hm:=j9 ((s.1[s.2.toNat]'hr).toNat+1) (show 0<(aI[s.2.toNat]'hp).length by omega)
  have Zh:=W.QH _ hr hp
  have al4:=(bL W.cD (bJ hp)).1
  have hw:aX (s.1[s.2.toNat]'hr+1)=s.1[s.2.toNat]'hr+1:=aP _ (by omega) (by omega)
  have J2:Int.tmod (s.1[s.2.toNat]'hr+1) (si.n:Int)=((((s.1[s.2.toNat]'hr).toNat+1)%(aI[s.2.toNat]'hp).length:Nat):Int):=by
   rw[Ij (by omega) (by omega),c2.len]
   congr 2
   omega
  have R1:bC F h1 w s.1:=H1.fM
  refine⟨R1.bM yL (by omega),_,R1.get yL (by omega),by omega,R1.bM yL (by omega),?_⟩
  rw[hw,J2]
  obtain⟨w1,w2,w3⟩:=H1.gH yL (by omega) (VI ((((s.1[s.2.toNat]'hr).toNat+1)%(aI[s.2.toNat]'hp).length:Nat):Int))
  have rc:Fr F h1 _:=w3.mono fun k _ hk=>(H1.aS hk).1
  have hbl:=V.lt
  have cC:=cY.fr w3 fun p hp=>by
   simp only[aO,aR,aN]at hp
   rcases hp with rfl|rfl
   ·exact fun hk=>by have:=(H.aS hk).2;simp only at this;omega
   ·exact J6
  refine⟨w1,cC,fun h2 e2 _=> ?_⟩
  subst e2
  rw[<-iu]at w2
  have R2:bC F _ w _:=w2.fM
  have E8:=bC.fr c2 rc hS
  have hv:bF (dR h1 (w.at s.2 1) (VI ((((s.1[s.2.toNat]'hr).toNat+1)%(aI[s.2.toNat]'hp).length:Nat):Int))) (w.at s.2 1)=some (VI ((((s.1[s.2.toNat]'hr).toNat+1)%(aI[s.2.toNat]'hp).length:Nat):Int)):=by
   have:=R2.get (i:=s.2) yL (by simp;omega)
   simpa using this
  have hq:=E8.get (i:=((((s.1[s.2.toNat]'hr).toNat+1)%(aI[s.2.toNat]'hp).length:Nat):Int)) (by omega) (by omega)
  simp only[Int.toNat_natCast]at hq
  refine⟨R2.bM yL (by simp;omega),_,hv,E8.bM (by omega) (by omega),_,hq,fun h3 f3 dI=> ?_⟩
  have Zi:Fr F _ h3:=f3.mono fun k _ hk=>by simp only[In,aO,aR,aN]at hk;subst hk;exact hFb
  refine HS _ PY h3 ?_ ?_ ((f1.aB.trans rc).trans Zi)
  ·exact Ow.fr w2 f3 fun k hk aQ=>by
    simp only[In,aO,aR,aN]at aQ
    subst aQ
    exact J6 hk
  ·exact dI.tail.head
theorem Zj{a c b:Nat}{h:Heap}{g w:Sl}{aI:aE}{s:St}(G:cG (Iv 0 a) h g aI)(V:bV h b [w.v,VI s.2])(H:cH h (Iv a c) w s.1)(hb0:a<=b)(fK:b<c)(J6:¬w.own b)(W:iT aI s)(K:aL)
 (HN:dK aI s=none->∀h',Fr No h h'->K (VB false) h') (HS:∀s',dK aI s=some s'->∀h',cH h' (Iv a c) w s'.1->bV h' b [w.v,VI s'.2]->Fr (Iv a c) h h'->K (VB true) h'):
 aG aC 254 #[.agg #[g.v],VP b 0] h K:=
 Fa G V H (fun k hk aQ=>by have:=hk.2;have:=aQ.1;omega) ⟨hb0,fK⟩ J6 W K HN HS
theorem rf{S S':aK}{h:Heap}{g w:Sl}{aI:aE}{s:St}(G:cG S h g aI)(H:bC S' h w s.1)(W:iT aI s)(K:aL)
 (HN:dK aI s=none->∀h',Fr No h h'->K (.tuple #[.agg #[w.v,VI s.2],VB false]) h') (HS:∀s',dK aI s=some s'->∀t h',cH h' (Iv h.size h'.size) t s'.1->Fr No h h'->K (.tuple #[.agg #[t.v,VI s'.2],VB true]) h'):
 aG aC 177 #[.agg #[g.v],.agg #[w.v,VI s.2]] h K:=by
 have hp:s.2.toNat<aI.length:=by have:=W.hi;have:=W.lo;omega
 have hr:s.2.toNat<s.1.length:=by rw[W.len];exact hp
 have yL:=W.lo
 refine ajS g w s.2 h K ⟨G.bM W.lo W.hi,fun b1 b2 b3 h3 fK eN jv f3 dI=> ?_⟩
 have f3:=f3.aM
 have l3:b3<h3.size:=dI.head.lt
 have l2:b2<h3.size:=dI.tail.head.lt
 have l1:b1<h3.size:=dI.tail.tail.head.lt
 have s3:=f3.size
 have G3:=G.low.no f3
 obtain⟨si,c1,c2⟩:=G3.get W.lo W.hi
 refine⟨si,c1,fun e h4 f4 eM=> ?_,fun e=> ?_⟩
 ·simp only[aT]at e
  have f4:=f4.dM (lo:=h.size) (hi:=h3.size) ⟨⟨jv,l3⟩,trivial⟩
  exact HN (pQ W hp (by have:=c2.len;omega)) h4 (f3.aU f4 (aW _))
 ·simp only[aY]at e
  have h0:(aI[s.2.toNat]'hp).length≠0:=by have:=c2.len;omega
  have PY:=ui W hp hr h0
  have hm:=j9 ((s.1[s.2.toNat]'hr).toNat+1) (show 0<(aI[s.2.toNat]'hp).length by omega)
  have Zh:=W.QH _ hr hp
  have al4:=(bL W.cD (bJ hp)).1
  have ae8:=bA W.cD
  have hw:aX (s.1[s.2.toNat]'hr+1)=s.1[s.2.toNat]'hr+1:=aP _ (by omega) (by omega)
  have J2:Int.tmod (s.1[s.2.toNat]'hr+1) (si.n:Int)=((((s.1[s.2.toNat]'hr).toNat+1)%(aI[s.2.toNat]'hp).length:Nat):Int):=by
   rw[Ij (by omega) (by omega),c2.len]
   congr 2
   omega
  refine nP (H.no f3) (by have:=W.len;omega) _ fun t h5 o5 f5=>⟨t,rfl,dI.aB f5,(H.bM yL (by omega)),fun b4 h7 Fb f7 kL=> ?_⟩
  have f7:=f7.aM
  have s5:=f5.size
  have s7:=f7.size
  have l4:b4<h7.size:=kL.head.lt
  have f07:=(f3.aA f5).aA f7
  have H7:=H.no f07
  have o7:=Ow.no o5 f7
  have hn7:t.n=s.1.length:=bC.len o7.fM
  refine⟨_,H7.get yL (by omega),by omega,o7.bM yL (by omega),?_⟩
  rw[hw,J2]
  obtain⟨w1,w2,w3⟩:=o7.gH yL (by omega) (VI ((((s.1[s.2.toNat]'hr).toNat+1)%(aI[s.2.toNat]'hp).length:Nat):Int))
  have rc:Fr (Iv h3.size h5.size) h7 _:=w3.mono fun k _ hk=>(o7.aS hk).1
  have gK:=kL.iv rc ⟨.inr Fb,.inl l3,.inl l2,.inl l1,trivial⟩
  refine⟨w1,gK,fun h8 e8 _=> ?_⟩
  subst e8
  rw[<-iu]at w2
  have E8:=((c2.no f5).no f7).fr rc fun k hk aQ=>by have:=aQ.1;omega
  have hq:=E8.get (i:=((((s.1[s.2.toNat]'hr).toNat+1)%(aI[s.2.toNat]'hp).length:Nat):Int)) (by omega) (by omega)
  simp only[Int.toNat_natCast]at hq
  refine⟨E8.bM (by omega) (by omega),_,hq,fun eW f10 fe=> ?_⟩
  have s8:=rc.size
  have e1:Fr No h eW:=by
   refine(f07.aU rc (by omega)).fresh f10 fun k hk=> ?_
   simp only[In,aO,aR,aN]at hk
   rcases hk with rfl|rfl<;>omega
  refine HS _ PY t eW ?_ e1
  have s10:=f10.size
  refine(Ow.fr w2 f10 fun k hk aQ=> ?_).mono fun k _ hk=>⟨by have:=hk.1;omega,by have:=hk.2;omega⟩
  have:=(o7.aS hk).1
  have h1:=this.1
  have h2:=this.2
  simp only[In,aO,aR,aN]at aQ
  rcases aQ with rfl|rfl<;>omega
def cL{τ:Type}(g:aE)(test:τ->St->Bool×τ)(DQ:Int):Nat->Int->τ->St->Int×Bool
 |0,_,_,_=>(0,false)
 |f+1,n,t,s=>
  if DQ<=n then
   if(test t s).1 then(n,true)
   else match dK g s with
    |none=>(0,false)
    |some s'=>cL g test DQ f (n+1) (test t s).2 s'
  else match dK g s with
   |none=>(0,false)
   |some s'=>cL g test DQ f (n+1) t s'
theorem Ik{τ:Type}(test:τ->St->Bool×τ)(C:τ->Heap->Prop){S S' T:aK}{h:Heap}{g w:Sl}{aI:aE}{s:St}(G:cG S h g aI)(H:bC S' h w s.1)(W:iT aI s)(DQ:Int)(so:Value)(t0:τ)(hC0:C t0 h)
 (hT:∀k,T k->k<h.size) (hST:∀k,S k->¬T k) (hC:∀t h1 h2,C t h1->Fr (fun k=>h.size<=k) h1 h2->C t h2)
 (hso:∀t x(s':St) h1(K:aL),h.size<=h1.size->C t h1->bC (fun k=>h.size<=k) h1 x s'.1->iT aI s'->(∀h2,C (test t s').2 h2->Fr T h1 h2->K (VB (test t s').1) h2)->iQ aC so [.agg #[x.v,VI s'.2]] h1 K)
 (K:aL) (HK:∀h',Fr T h h'->K (.tuple #[VI (cL aI test DQ 2001 0 t0 s).1,VB (cL aI test DQ 2001 0 t0 s).2]) h'):
 aG aC 210 #[.agg #[g.v],.agg #[w.v,VI s.2],VI DQ,so] h K:=by
 refine v210 g w s.2 DQ so h K fun b1 b2 h2 fK eN f2 cC=> ?_
 generalize hR:cL aI test DQ 2001 0 t0 s=R at HK
 have f2:=f2.aM
 have l2:b2<h2.size:=cC.head.lt
 have l1:b1<h2.size:=cC.tail.head.lt
 have z2:=f2.size
 have ae8:=bA W.cD
 refine jW (H.no f2) s.2 (by have:=W.len;omega) _ fun u h3 o3 f3=>⟨u,s.2,rfl,cC.aB f3,fun b3 h5 jv f5 ie=> ?_⟩
 have f5:=f5.aM
 have l3:b3<h5.size:=ie.head.lt
 have s3:=f3.size
 have s5:=f5.size
 have ta:=(f2.aA f3).aA f5
 have hub:¬u.own b3:=fun hk=>by have:=(o3.aS hk).2;omega
 have o5:=Ow.no o3 f5
 have hfr:∀{h1 YS:Heap},Fr No h1 YS->Fr (fun k=>h.size<=k) h1 YS:=fun f=>f.aB
 refine⟨fun n i x p h'=>∃(t:τ)(s':St),x=u/\p=s'.2/\0<=i/\i+n=2001/\C t h'/\cH h' (Iv h2.size h5.size) u s'.1/\iT aI s'/\Fr T h h'/\h5.size<=h'.size/\R=cL aI test DQ n i t s',⟨2001,t0,s,rfl,rfl,by omega,by omega,hC _ _ _ hC0 (hfr ta),o5.mono fun k _ hk=>⟨hk.1,fQ hk.2 s5⟩,W,ta.aB,aW _,hR.symm⟩,?_⟩
 rintro n i x p h6 ⟨t,s',rfl,rfl,i0,i1,c6,o6,W6,f6,z6,eq⟩ jx
 --a step,from ae9
 have stp:∀(t':τ)(h7:Heap)(m:Nat),n=m+1->C t' h7->cH h7 (Iv h2.size h5.size) x s'.1->Vars h7 [(b3,[x.v,VI s'.2]),(b2,[w.v,VI s.2]),(b1,[g.v])]->Fr T h h7->h5.size<=h7.size->
  (R=match dK aI s' with
   |none=>(0,false)
   |some s2=>cL aI test DQ m (i+1) t' s2)->
  ∀K2:aL,(∀h',Fr T h h'->Vars h' [(b3,[x.v,VI s'.2]),(b2,[w.v,VI s.2]),(b1,[g.v])]->R=(0,false)->K2 (VB false) h')->(∀s2 h',C t' h'->cH h' (Iv h2.size h5.size) x s2.1->iT aI s2->Vars h' [(b3,[x.v,VI s2.2]),(b2,[w.v,VI s.2]),(b1,[g.v])]->Fr T h h'->h5.size<=h'.size->R=cL aI test DQ m (i+1) t' s2->K2 (VB true) h')->
  aG aC 254 #[.agg #[g.v],VP b3 0] h7 K2:=by
  intro t' h7 m hn c7 o7 kL f7 z7 e7 K2 k1 k2
  have G7:cG (Iv 0 h2.size) h7 g aI:=(G.yG.fr f7 fun k hk aQ=>hST k hk.1 aQ).mono fun k hk=>⟨Nat.zero_le _,by have:=hk.2;omega⟩
  refine Zj G7 kL.head o7 (by omega) l3 hub W6 K2 (fun hs h8 f8=> ?_) fun s2 hs h8 o8 v8 f8=> ?_
  ·rw[hs]at e7
   exact k1 h8 (f7.trans f8.aB) (kL.aB f8) e7
  ·rw[hs]at e7
   refine k2 s2 h8 (hC _ _ _ c7 (f8.mono fun k _ hk=>dD z2 hk.1)) o8 (W6.step hs) (.cons v8 ?_ (kL.tail.iv f8 ⟨.inl l2,.inl l1,trivial⟩)) (f7.EL f8 fun k hk=>dD z2 hk.1) (dD z7 f8.size) e7
   intro p hp
   simp only[aO,aR,aN]at hp
   rcases hp with rfl|rfl<;>(simp only;omega)
 refine⟨fun e=>⟨fun e2=> ?_,fun e2=> ?_⟩,fun e=> ?_⟩
 ·simp only[aT]at e e2
  obtain⟨m,rfl⟩:∃m,n=m+1:=⟨n-1,by omega⟩
  rw[cL,aJ e2]at eq
  refine hso t x s' h6 _ (by omega) c6 (o6.yj.mono fun k hk=>dD z2 hk.1) W6 fun h7 c7 f7=> ?_
  have kL:=jx.fr f7 fun p hp=>by
   simp only[aO,aR,aN]at hp
   rcases hp with rfl|rfl|rfl<;>exact fun hk=>by have:=hT _ hk;simp only at this;omega
  refine⟨_,rfl,kL,fun e3=> ?_,fun e3=> ?_⟩
  ·rw[aJ e3]at eq
   rw[eq]at HK
   exact HK h7 (f6.trans f7)
  ·rw[aF (by simp[e3])]at eq
   refine stp _ h7 m rfl c7 (Ow.fr o6 f7 fun k hk aQ=>by have:=hT _ aQ;have:=(o6.aS hk).1.1;omega) kL (f6.trans f7) (dD z6 f7.size) eq _ (fun h8 f8 gK e8=> ?_) fun s2 h8 c8 o8 W8 gK f8 z8 e8=> ?_
   ·refine⟨x,s'.2,_,rfl,gK,fun _=> ?_,fun e=>by simp at e⟩
    rw[e8]at HK
    exact HK h8 f8
   ·refine⟨x,s2.2,_,rfl,gK,fun e=>by simp at e,fun _=> ?_⟩
    rw[aP (i+1) (by omega) (by omega)]
    exact⟨m,by omega,_,s2,rfl,rfl,by omega,by omega,c8,o8,W8,f8,z8,e8⟩
 ·simp only[aT]at e
  simp only[aY]at e2
  obtain⟨m,rfl⟩:∃m,n=m+1:=⟨n-1,by omega⟩
  rw[cL,aF e2]at eq
  refine stp _ h6 m rfl c6 o6 jx f6 z6 eq _ (fun h8 f8 gK e8=> ?_) fun s2 h8 c8 o8 W8 gK f8 z8 e8=> ?_
  ·refine⟨x,s'.2,_,rfl,gK,fun _=> ?_,fun e=>by simp at e⟩
   rw[e8]at HK
   exact HK h8 f8
  ·refine⟨x,s2.2,_,rfl,gK,fun e=>by simp at e,fun _=> ?_⟩
   rw[aP (i+1) (by omega) (by omega)]
   exact⟨m,by omega,_,s2,rfl,rfl,by omega,by omega,c8,o8,W8,f8,z8,e8⟩
 ·simp only[aY]at e
  obtain rfl:n=0:=by omega
  rw[eq]at HK
  exact HK h6 f6
def pR(g:aE)(rs:aH)(p q:Int):Int×Bool:=
 if fx g rs p&&(aZ g&&jq 0 ((g.length:Int)-1) q)then cL g (fun(_:Unit) s=>(decide (s.2=q),())) 0 2001 0 () (rs,p)else(0,false)
theorem Mp{S:aK}{h:Heap}{s:Sl}{xs:aH}(H:bC S h s xs){b:Nat}(hb:h.size<=b):bC (fun k=>k≠b) h s xs:=H.low.mono fun k hk=>by omega
theorem Zk{h:Heap}{b:Nat}{q:Int}(V:bV h b [VI q])(x:Sl)(p:Int)(K:aL)(HK:∀h',bV h' b [VI q]->Fr No h h'->K (VB (decide (p=q))) h'):iQ aC (.func (.func 211) #[] #[VP b 0]) [.agg #[x.v,VI p]] h K:=by
 refine akD x p b q h K (.cons V (by simp) .nil) fun b2 h2 eN f2 cC=> ?_
 exact HK h2 cC.tail.head f2.aM
theorem N6{S S':aK}{h:Heap}{g w:Sl}{aI:aE}{rs:aH}(G:cG S h g aI)(H:bC S' h w rs)(p q:Int)(K:aL)(HK:∀h',Fr No h h'->K (.tuple #[VI (pR aI rs p q).1,VB (pR aI rs p q).2]) h'):aG aC 164 #[.agg #[g.v],.agg #[w.v,VI p],VI q] h K:=by
 refine v164 g w p q h K fun b1 b2 b3 h3 fK eN jv f3 dI=> ?_
 have f3:=f3.aM
 refine q6 (G.no f3) (H.no f3) p _ fun h4 f4=>⟨_,rfl,dI.aB f4,fun e=> ?_,fun e=> ?_⟩
 ·have e2:pR aI rs p q=(0,false):=by unfold pR;rw[aF (by rw[bU e];simp)]
  rw[e2]at HK
  exact HK h4 (f3.aA f4)
 have e:=bQ e
 have eM:=dI.aB f4
 have jk:=f3.aA f4
 refine bE gD (fun k=>h4.size<=k) (fun _ h=>h) 1 (by omega) [VI q] rfl rfl fun t h5 n5 c5 o5 f5 m5 _=>⟨t,rfl,eM.aB f5,?_⟩
 have o5:bC (fun k=>h4.size<=k) h5 t [q]:=o5.fM
 have ie:=eM.aB f5
 have ta:=jk.aA f5
 refine vi (G.no ta) o5 _ fun h6 f6=>⟨_,rfl,ie.aB f6,fun e1=> ?_,fun e1=> ?_⟩
 all_goals simp only[List.all_cons,List.all_nil,sF]at e1
 ·have e2:pR aI rs p q=(0,false):=by unfold pR;rw[aF (by rw[e,bU e1];simp)]
  rw[e2]at HK
  exact HK h6 (ta.aA f6)
 have e1:=bQ e1
 have e2:pR aI rs p q=cL aI (fun(_:Unit) s=>(decide (s.2=q),())) 0 2001 0 () (rs,p):=by unfold pR;rw[aJ (by rw[e,e1];rfl)]
 rw[e2]at HK
 have jx:=ie.aB f6
 have AB:=ta.aA f6
 have Yd:=jx.head.lt
 refine Ik (S:=S) (T:=No) (s:=(rs,p)) (fun(_:Unit)(s:St)=>(decide (s.2=q),())) (fun _ h'=>bV h' b3 [VI q]/\Fr No h6 h') (G.no AB) (H.no AB) (dN e) 0 _ () ⟨jx.head,Fr.refl _ _⟩ (fun _ h=>h.elim) (fun _ _ h=>h) (fun _ h1 h2 c f=>⟨c.1.fr f (by omega),c.2.fresh f fun k hk=>hk⟩) (fun t x s' h1 K z1 c1 r1 W1 HK=>Zk c1.1 x s'.2 K fun h2 v2 f2=>HK h2 ⟨v2,c1.2.trans f2⟩ f2) _ fun h7 f7=>⟨_,_,_,rfl,jx.aB f7,HK h7 (AB.aA f7)⟩
theorem AD{S S':aK}{h:Heap}{g w:Sl}{aI:aE}{rs:aH}(G:cG S h g aI)(H:bC S' h w rs)(p q:Int)(K:aL)(HK:∀h',Fr No h h'->K (.tuple #[VI (pR aI rs p q).1,VB (pR aI rs p q).2]) h'):aG aC 135 #[.agg #[g.v],.agg #[w.v,VI p],VI q] h K:=by
 refine ai5 g w p q h K fun b1 b2 h2 fK eN f2 cC=> ?_
 have f2:=f2.aM
 have l2:b2<h2.size:=cC.head.lt
 refine fW (G.no f2) (H.no f2) p _ fun h3 f3=>⟨_,rfl,cC.aB f3,fun e=> ?_,fun e=> ?_⟩
 ·have e2:pR aI rs p q=(0,false):=by unfold pR;rw[aF (by rw[bU e];simp)]
  rw[e2]at HK
  exact HK h3 (f2.aA f3)
 have e:=bQ e
 have dI:=cC.aB f3
 have jm:=f2.aA f3
 refine dZ (G.no jm) q _ fun h4 f4=>⟨_,rfl,dI.aB f4,fun e1=> ?_,fun e1=> ?_⟩
 ·have e2:pR aI rs p q=(0,false):=by unfold pR;rw[aF (by rw[e,bU e1];simp)]
  rw[e2]at HK
  exact HK h4 (jm.aA f4)
 have e1:=bQ e1
 have e2:pR aI rs p q=cL aI (fun(_:Unit) s=>(decide (s.2=q),())) 0 2001 0 () (rs,p):=by unfold pR;rw[aJ (by rw[e,e1];rfl)]
 rw[e2]at HK
 generalize hR:cL aI (fun(_:Unit)(s:St)=>(decide (s.2=q),())) 0 2001 0 () (rs,p)=R at HK
 have jk:=jm.aA f4
 have z4:=jk.size
 refine⟨fun n i x y h'=>∃s':St,y=s'.2/\0<=i/\i+n=2001/\bC (fun k=>k≠b2) h' x s'.1/\iT aI s'/\Fr No h h'/\h2.size<=h'.size/\R=cL aI (fun(_:Unit)(s:St)=>(decide (s.2=q),())) 0 n i () s',⟨2001,(rs,p),rfl,by omega,by omega,(Mp H eN).no jk,dN e,jk,by have:=f3.size;have:=f4.size;omega,hR.symm⟩,?_⟩
 rintro n i x y h5 ⟨s',rfl,i0,i1,r5,W5,f5,z5,eq⟩ ie
 refine⟨fun e3=>⟨fun e4=> ?_,fun e4=> ?_⟩,fun e3=> ?_⟩
 ·simp only[aT]at e3
  obtain⟨m,rfl⟩:∃m,n=m+1:=⟨n-1,by omega⟩
  rw[cL,aJ i0]at eq
  simp only[e4,jJ]at eq
  rw[eq]at HK
  exact HK h5 f5
 ·simp only[aT]at e3
  obtain⟨m,rfl⟩:∃m,n=m+1:=⟨n-1,by omega⟩
  rw[cL,aJ i0]at eq
  simp only[e4]at eq
  refine rf (G.no f5) r5 W5 _ (fun hs h6 f6=>⟨x,s'.2,false,rfl,ie.aB f6,fun _ b3 h8 jv f8 gK=> ?_,fun e=>by simp at e⟩) fun s2 hs t h6 o6 f6=>⟨t,s2.2,true,rfl,ie.aB f6,fun e=>by simp at e,fun _ b3 h9 jv f9 iG=> ?_⟩
  ·rw[hs]at eq
   simp only[vX,gB]at eq
   rw[eq]at HK
   exact HK h8 ((f5.aA f6).aA f8.aM)
  ·rw[hs]at eq
   simp only[vX,gB]at eq
   rw[aP (i+1) (by omega) (by omega)]
   refine⟨m,by omega,s2,rfl,by omega,by omega,?_,W5.step hs,(f5.aA f6).fresh f9 (fun k hk=> ?_),by have:=f6.size;have:=f9.size;omega,eq⟩
   ·refine(bC.fr (o6.yj) f9 fun k hk aQ=> ?_).mono fun k hk=> ?_
    ·simp only[In,aO,aR,aN]at aQ
     have:=hk.1
     omega
    ·have:=hk.1
     omega
   ·simp only[In,aO,aR,aN]at hk
    omega
 ·simp only[aY]at e3
  obtain rfl:n=0:=by omega
  rw[eq]at HK
  exact HK h5 f5
theorem AE{S S':aK}{h:Heap}{a b:Sl}{xs ys:aH}(H:bC S h a xs)(H':bC S' h b ys)(p q:Int):tY aC 226 #[.agg #[a.v,VI p],.agg #[b.v,VI q]] h (VB (decide (p=q/\xs=ys))):=by
 intro K HK
 refine v226 a p b q h K ⟨fun e b1 b2 h2 fK eN f2 cC=> ?_,fun e=>⟨fun e1 b1 b2 h2 fK eN f2 cC=> ?_,fun e1 b1 b2 h2 fK eN f2 cC=> ?_⟩⟩
 ·have e:=bU e
  simp only[aY]at e
  rw[gZ (fun e2=>e e2.1)]at HK
  exact HK _ f2.aM
 ·have e1:=bU e1
  rw[H.len,H'.len]at e1
  simp only[aY]at e1
  rw[gZ (fun e2=>e1 (by rw[e2.2]))]at HK
  exact HK _ f2.aM
 ·have e:=bQ e
  simp only[aT]at e
  have e1:=bQ e1
  rw[H.len,H'.len]at e1
  have hl:xs.length=ys.length:=by simp at e1;omega
  have f2:=f2.aM
  have H2:=H.no f2
  have H2':=H'.no f2
  have HK2:=HK _ f2
  have e2:decide (p=q/\xs=ys)=decide (xs=ys):=by simp[e]
  rw[e2]at HK2
  refine⟨fun n i h'=>h'=h2/\0<=i/\i+n=(xs.length:Int)/\decide (xs=ys)=decide (xs.drop i.toNat=ys.drop i.toNat),⟨xs.length,rfl,by omega,by omega,by simp⟩,?_⟩
  rintro n i hh ⟨rfl,h0,h1,h3⟩ hL
  refine⟨fun e=> ?_,fun e=> ?_⟩
  ·have hi:=H2.lt e
   have jM:i<(ys.length:Int):=by omega
   refine⟨H2.bM h0 hi,_,H2.get h0 hi,H2'.bM h0 jM,_,H2'.get h0 jM,fun e=> ?_,fun e=> ?_⟩
   ·rw[drop_cons xs h0 hi,drop_cons ys h0 jM]at h3
    have e3:=bU e
    simp only[aY]at e3
    rw[h3,gZ (fun e4=>e3 (List.cons.inj e4).1)]at HK2
    exact HK2
   ·rw[drop_cons xs h0 hi,drop_cons ys h0 jM]at h3
    have e3:=bQ e
    simp only[aT]at e3
    rw[H2.succ h0 hi]
    refine⟨n-1,by omega,rfl,by omega,by omega,h3.trans ?_⟩
    rw[e3]
    simp
  ·have hi:=H2.ge e
   rw[kk (by omega),kk (by omega)]at h3
   rw[h3]at HK2
   exact HK2
def lH(rs:aH)(p:Int)(_:Unit)(s:St):Bool×Unit:=(decide (p=s.2/\rs=s.1),())
theorem N7{S S':aK}{h:Heap}{g w:Sl}{aI:aE}{rs:aH}(G:cG S h g aI)(H:bC S' h w rs)(p:Int)(W:iT aI (rs,p))(K:aL)(HK:∀h',Fr No h h'->K (VI (cL aI (lH rs p) 1 2001 0 () (rs,p)).1) h'):aG aC 227 #[.agg #[g.v],.agg #[w.v,VI p],VI 2000] h K:=by
 refine v227 g w p 2000 h K fun b1 b2 b3 h4 fK eN jv f4 eM=> ?_
 have f4:=f4.aM
 have l3:b3<h4.size:=eM.head.lt
 have z4:=f4.size
 have hR0:cL aI (lH rs p) 1 2001 0 () (rs,p)=match dK aI (rs,p)with
  |none=>(0,false)
  |some s'=>cL aI (lH rs p) 1 2000 1 () s':=by rw[cL,aF (by omega)];rfl
 generalize hR:cL aI (lH rs p) 1 2001 0 () (rs,p)=R at HK
 rw[hR]at hR0
 refine⟨fun n i x y h'=>∃s':St,y=s'.2/\1<=i/\i+n=2001/\bC (fun k=>k≠b3) h' x s'.1/\iT aI s'/\Fr No h h'/\h4.size<=h'.size/\R=(match dK aI s' with
  |none=>(0,false)
  |some s2=>cL aI (lH rs p) 1 n i () s2),⟨2000,(rs,p),rfl,by omega,by omega,(Mp H jv).no f4,W,f4,aW _,hR0⟩,?_⟩
 rintro n i x y h5 ⟨s',rfl,i0,i1,r5,W5,f5,z5,eq⟩ ie
 refine⟨fun e3=> ?_,fun e3=> ?_⟩
 ·simp only[aT]at e3
  obtain⟨m,rfl⟩:∃m,n=m+1:=⟨n-1,by omega⟩
  refine rf (G.no f5) r5 W5 _ (fun hs h6 f6=>⟨x,s'.2,false,rfl,ie.aB f6,fun _ b4 h8 Fb f8 gK=> ?_,fun e=>by simp at e⟩) fun s2 hs t h6 o6 f6=>⟨t,s2.2,true,rfl,ie.aB f6,fun e=>by simp at e,fun _ b4 h9 Fb f9 iG=> ?_⟩
  ·rw[hs]at eq
   simp only at eq
   rw[eq]at HK
   exact HK h8 ((f5.aA f6).aA f8.aM)
  ·rw[hs]at eq
   simp only at eq
   rw[cL,aJ i0]at eq
   have z6:=f6.size
   have z9:=f9.size
   have al6:∀k,In [b3] k->h.size<=k:=fun k hk=>by simp only[In,aO,aR,aN]at hk;omega
   have TS:=(f5.aA f6).fresh f9 al6
   have r9:bC (fun k=>k≠b3) h9 t s2.1:=(bC.fr (o6.yj) f9 fun k hk aQ=>by
    simp only[In,aO,aR,aN]at aQ
    have:=hk.1
    omega).mono fun k hk=>by have:=hk.1;omega
   refine AE r9 (H.no TS) s2.2 p _ fun eW f10=>⟨_,rfl,iG.aB f10,fun e=> ?_,fun e=> ?_⟩
   ·have e1:(lH rs p () s2).1=true:=by
     simp only[aT]at e
     simp[lH,e.1,e.2]
    rw[aJ e1]at eq
    rw[eq]at HK
    exact HK eW (TS.aA f10)
   ·have e1:¬(lH rs p () s2).1=true:=by
     simp only[aY]at e
     simp only[lH,aT]
     exact fun h=>e ⟨h.1.symm,h.2.symm⟩
    rw[aF e1]at eq
    rw[aP (i+1) (by omega) (by omega)]
    exact⟨m,by omega,s2,rfl,by omega,by omega,r9.no f10,W5.step hs,TS.aA f10,by have:=f10.size;omega,eq⟩
 ·simp only[aY]at e3
  obtain rfl:n=0:=by omega
  have:R=(0,false):=by
   rw[eq]
   split
   ·rfl
   ·rw[cL]
  rw[this]at HK
  exact HK h5 f5
def runT{τ:Type}(g:aE)(zo:τ->St->St->τ):Nat->τ->St->Option (τ×St)
 |0,t,s=>some (t,s)
 |n+1,t,s=>match dK g s with
  |none=>none
  |some s'=>runT g zo n (zo t s s') s'
theorem DR{τ:Type}{g:aE}{zo:τ->St->St->τ}{s'':St}:∀(n:Nat)(t:τ)(s:St)(t':τ)(s':St),runT g zo n t s=some (t',s')->dK g s'=some s''->runT g zo (n+1) t s=some (zo t' s' s'',s'')
 |0,t,s,t',s',h,hs=>by
  simp only[runT,dC,fH]at h
  obtain⟨rfl,rfl⟩:=h
  rw[runT,hs]
  rfl
 |n+1,t,s,t',s',h,hs=>by
  rw[runT]at h
  rw[runT]
  split at h
  ·cases h
  ·rename_i s2 h2
   exact DR n _ _ _ _ h hs
theorem QI{τ:Type}(zo:τ->St->St->τ)(C:Nat->τ->Heap->Prop)(T0:aK){F S:aK}{b:Nat}{h:Heap}{g w:Sl}{aI:aE}{s0:St}(G:cG S h g aI)(V:bV h b [w.v,VI s0.2])(H:cH h F w s0.1)(hS:∀k,S k->¬F k/\¬T0 k)(hFb:F b)(J6:¬w.own b)(W:iT aI s0)(n:Int)(hn0:0<=n)(hn1:n<=1000000)(wt:Value)(t0:τ)
 (hF:∀k,F k->k<h.size) (hT0:∀k,T0 k->¬F k/\k<h.size) (hC0:∀N,h.size<=N->C N t0 h) (hC:∀N t h1 h2(U:aK),C N t h1->Fr U h1 h2->(∀k,U k->¬T0 k/\k<N)->C N t h2)
 (hw:∀N t s s' h1(K:aL),h.size<=N->N<=h1.size->C N t h1->bV h1 b [w.v,VI s'.2]->cH h1 F w s'.1->iT aI s->dK aI s=some s'->(∃m:Nat,(m:Int)<n/\runT aI zo m t0 s0=some (t,s))->(∀h2 v,C N (zo t s s') h2->Fr (fun k=>T0 k\/N<=k) h1 h2->K v h2)->iQ aC wt [VI s.2] h1 K)
 (K:aL)
 (HN:runT aI zo n.toNat t0 s0=none->∀N t' h' p,h.size<=N->C N t' h'->bV h' b [w.v,VI p]->Fr (fun k=>F k\/T0 k) h h'->K (VB false) h')
 (HS:∀t' s',runT aI zo n.toNat t0 s0=some (t',s')->∀N h',h.size<=N->C N t' h'->cH h' F w s'.1->iT aI s'->bV h' b [w.v,VI s'.2]->Fr (fun k=>F k\/T0 k) h h'->K (VB true) h'):
 aG aC 206 #[.agg #[g.v],VP b 0,VI n,wt] h K:=by
 have hbl:=V.lt
 refine v206 g b w s0.2 n wt h K (.cons V (by simp) .nil) fun b2 h1 eN f1 cY=> ?_
 have f1:=f1.aM
 have l2:b2<h1.size:=cY.head.lt
 have z1:=f1.size
 have Mq:∀k,F k->¬T0 k:=fun k hk aQ=>(hT0 k aQ).1 hk
 refine⟨fun m i x p h'=>∃(t:τ)(s':St),x=w/\p=s'.2/\0<=i/\i+m=n/\C h1.size t h'/\cH h' F w s'.1/\iT aI s'/\Fr (fun k=>F k\/T0 k) h h'/\h1.size<=h'.size/\runT aI zo i.toNat t0 s0=some (t,s')/\runT aI zo n.toNat t0 s0=runT aI zo m t s',⟨n.toNat,t0,s0,rfl,rfl,by omega,by omega,hC _ _ _ _ _ (hC0 _ z1) f1 (fun k hk=>hk.elim),Ow.no H f1,W,f1.aB,aW _,rfl,rfl⟩,?_⟩
 rintro m i x p h2 ⟨t,s',rfl,rfl,i0,i1,c2,o2,W2,f2,z2,hm,eq⟩ cC
 refine⟨fun e=> ?_,fun e=> ?_⟩
 ·simp only[aT]at e
  obtain⟨m,rfl⟩:∃q,m=q+1:=⟨m-1,by omega⟩
  rw[runT]at eq
  have G2:cG S h2 g aI:=G.fr f2 fun k hk aQ=>by
   rcases aQ with aQ|aQ
   ·exact(hS k hk).1 aQ
   ·exact(hS k hk).2 aQ
  refine Fa G2 cC.tail.head o2 (fun k hk=>(hS k hk).1) hFb J6 W2 _ (fun hs h3 f3=> ?_) fun s3 hs h3 o3 v3 f3=> ?_
  ·rw[hs]at eq
   have dI:=cC.aB f3
   exact⟨x,s'.2,_,rfl,dI,fun _=>HN eq _ _ h3 _ z1 (hC _ _ _ _ _ c2 f3 fun k hk=>hk.elim) dI.tail.head (f2.trans f3.aB),fun e=>by simp at e⟩
  ·rw[hs]at eq
   have dI:Vars h3 [(b2,[g.v]),(b,[x.v,VI s3.2])]:= .cons (cC.head.fr f3 fun hk=>by have:=hF _ hk;omega) (fun p hp=>by simp only[aO,aR,aN]at hp;subst hp;simp only;omega) (.cons v3 (by simp) .nil)
   have c3:=hC _ _ _ _ _ c2 f3 fun k hk=>⟨Mq k hk,by have:=hF k hk;omega⟩
   have z3:=f3.size
   refine⟨x,s3.2,_,rfl,dI,fun e=>by simp at e,fun _=> ?_⟩
   refine hw h1.size t s' s3 h3 _ z1 (by omega) c3 v3 o3 W2 hs ⟨i.toNat,by omega,hm⟩ fun h4 v c4 f4=> ?_
   have eM:Vars h4 [(b2,[g.v]),(b,[x.v,VI s3.2])]:=dI.fr f4 fun p hp hk=>by
    simp only[aO,aR,aN]at hp
    rcases hp with rfl|rfl<;>simp only at hk
    ·rcases hk with hk|hk
     ·have:=(hT0 _ hk).2;omega
     ·omega
    ·rcases hk with hk|hk
     ·exact(hT0 _ hk).1 hFb
     ·have:=hF _ hFb;omega
   rw[aP (i+1) (by omega) (by omega)]
   refine⟨eM,m,by omega,_,s3,rfl,rfl,by omega,by omega,c4,Ow.fr o3 f4 fun k hk aQ=> ?_,W2.step hs,?_,by have:=f4.size;omega,by rw[tZ i0];exact DR _ _ _ _ _ hm hs,eq⟩
   ·have h5:=(o3.aS hk).1
    rcases aQ with aQ|aQ
    ·exact(hT0 _ aQ).1 h5
    ·have:=hF _ h5;omega
   ·refine⟨by have:=f2.size;have:=f4.size;omega,fun k hk ht=> ?_⟩
    rw[f4.same k (by have:=f2.size;omega) fun h=>by
     rcases h with h|h
     ·exact ht (.inr h)
     ·omega]
    rw[f3.same k (by have:=f2.size;omega) fun h=>ht (.inl h)]
    exact f2.same k hk ht
 ·simp only[aY]at e
  obtain rfl:m=0:=by omega
  rw[runT]at eq
  exact HS t s' eq h1.size h2 z1 c2 o2 W2 cC.tail.head f2
theorem Fc{S S':aK}{h:Heap}{g s:Sl}{aI:aE}{rs:aH}(G:cG S h g aI)(H:bC S' h s rs)(p n most:Int):tY aC 205 #[.agg #[g.v],.agg #[s.v,VI p],VI n,VI most] h (VB (fx aI rs p&&jq 0 most n)):=by
 intro K HK
 refine aku g s p n most h K fun b1 b2 h2 fK eN f2 cC=> ?_
 have f2:=f2.aM
 refine q6 (G.no f2) (H.no f2) p _ fun h3 f3=>⟨_,rfl,cC.aB f3,fun e=> ?_,fun e=> ?_⟩
 ·rw[e,fk]at HK
  exact fa _ _ _ _ _ ⟨_,rfl,cC.aB f3,HK _ (f2.aA f3)⟩
 ·rw[e,gJ]at HK
  exact HK _ (f2.aA f3)
theorem DS{S S':aK}{h:Heap}{g s:Sl}{aI:aE}{rs:aH}(G:cG S h g aI)(H:bC S' h s rs)(p n:Int):tY aC 178 #[.agg #[g.v],.agg #[s.v,VI p],VI n] h (VB (fx aI rs p&&jq 0 2000 n)):=by
 intro K HK
 refine ajU g s p n h K fun b1 b2 h2 fK eN f2 cC=> ?_
 have f2:=f2.aM
 refine fW (G.no f2) (H.no f2) p _ fun h3 f3=>⟨_,rfl,cC.aB f3,fun e=> ?_,fun e=> ?_⟩
 ·rw[e,fk]at HK
  exact eK _ _ _ _ _ ⟨_,rfl,cC.aB f3,HK _ (f2.aA f3)⟩
 ·rw[e,gJ]at HK
  exact HK _ (f2.aA f3)
def fm(g:aE)(rs:aH)(p n:Int):St×Bool:=
 if fx g rs p&&jq 0 2000 n then match runT g (fun(_:Unit) _ _=>()) n.toNat () (rs,p)with
  |none=>(([],0),false)
  |some (_,s)=>(s,true)
 else(([],0),false)
theorem Mr{τ:Type}{g:aE}{zo:τ->St->St->τ}:∀(n:Nat)(t:τ)(s:St),iT g s->∀t' s',runT g zo n t s=some (t',s')->iT g s'
 |0,t,s,W,t',s',h=>by
  simp only[runT,dC,fH]at h
  rw[<-h.2];exact W
 |n+1,t,s,W,t',s',h=>by
  rw[runT]at h
  split at h
  ·cases h
  ·rename_i s2 hs
   exact Mr n _ s2 (W.step hs) t' s' h
theorem Ms{S S':aK}{h:Heap}{g w:Sl}{aI:aE}{rs:aH}(G:cG S h g aI)(H:bC S' h w rs)(p n:Int)(K:aL)(HK:∀t h',cH h' (Iv h.size h'.size) t (fm aI rs p n).1.1->Fr No h h'->K (.tuple #[.agg #[t.v,VI (fm aI rs p n).1.2],VB (fm aI rs p n).2]) h'):aG aC 161 #[.agg #[g.v],.agg #[w.v,VI p],VI n] h K:=by
 refine ajw g w p n h K fun b1 b2 b3 h3 fK eN jv f3 dI=> ?_
 have f3:=f3.aM
 have l3:b3<h3.size:=dI.head.lt
 have l2:b2<h3.size:=dI.tail.head.lt
 have l1:b1<h3.size:=dI.tail.tail.head.lt
 have z3:=f3.size
 refine Fc (G.no f3) (H.no f3) p n 2000 _ fun h4 f4=>⟨_,rfl,dI.aB f4,fun e h5 f5 ie=> ?_,fun e=> ?_⟩
 ·have e2:fm aI rs p n=(([],0),false):=by unfold fm;rw[aF (by rw[bU e];simp)]
  have f5:=f5.dM (lo:=h.size) (hi:=h3.size) ⟨⟨jv,l3⟩,trivial⟩
  have:=HK aD h5 (by rw[e2];exact Ow.nil _ _ _ _) ((f3.aA f4).aU f5 (aW _))
  rw[e2]at this
  exact this
 have e:=bQ e
 have e2:fm aI rs p n=match runT aI (fun(_:Unit) _ _=>()) n.toNat () (rs,p)with
  |none=>(([],0),false)
  |some (_,s)=>(s,true):=by unfold fm;rw[aJ e]
 rw[bD,bT]at e
 have W:=dN e.1
 have U8:=bA W.cD
 have eM:=dI.aB f4
 have z4:=f4.size
 have jk:=f3.aA f4
 refine jW (H.no jk) p (by have:=W.len;simp only at this;omega) _ fun u h6 o6 f6=>⟨u,p,rfl,eM.aB f6,fun b4 h8 Fb f8 gK=> ?_⟩
 have f8:=f8.aM
 have z6:=f6.size
 have z8:=f8.size
 have l4:b4<h8.size:=gK.head.lt
 have f48:=f6.aA f8
 have G8:cG (Iv 0 h4.size) h8 g aI:=(G.no jk).gN.no f48
 have o8:cH h8 (Iv h4.size h8.size) u rs:=(Ow.no o6 f8).mono fun k _ hk=>⟨hk.1,by have:=hk.2;omega⟩
 have hub:¬u.own b4:=fun hk=>by have:=(o6.aS hk).2;omega
 have fT:∀{x y:Heap},Fr (fun k=>Iv h4.size h8.size k\/False) x y->Fr (Iv h4.size h8.size) x y:=fun f=>f.mono fun k _ hk=>by rcases hk with hk|hk;exact hk;exact hk.elim
 refine QI (s0:=(rs,p)) (fun(_:Unit) _ _=>()) (fun _ _ _=>True) (fun _=>False) G8 gK.head o8 (fun k hk=>⟨fun aQ=>by have:=hk.2;have:=aQ.1;omega,fun h=>h⟩) ⟨by omega,l4⟩ hub W n (by omega) (by omega) _ () (fun k hk=>hk.2) (fun k hk=>hk.elim) (fun _ _=>trivial) (fun _ _ _ _ _ _ _ _=>trivial) (fun N t s s' h1 K hN hN2 _ V O W hs _ HK=> ?_) _ (fun hr N t h9 q hN _ v9 f9=> ?_) fun t' s' hr N h9 hN _ o9 W9 v9 f9=> ?_
 ·refine akx s.2 h1 K ?_
  exact HK h1 _ trivial (Fr.refl _ _)
 ·have f9:=fT f9
  have iG:Vars h9 [(b4,[u.v,VI q]),(b3,[aD.v,VI 0]),(b2,[w.v,VI p]),(b1,[g.v])]:= .cons v9 gK.ne (gK.tail.iv f9 ⟨.inl (by omega),.inl (by omega),.inl (by omega),trivial⟩)
  refine⟨u,q,_,rfl,iG,fun _ eW f10 fe=> ?_,fun e=>by simp at e⟩
  have f10:=f10.dM (lo:=h.size) (hi:=h3.size) ⟨⟨jv,l3⟩,trivial⟩
  rw[hr]at e2
  have:=HK aD eW (by rw[e2];exact Ow.nil _ _ _ _) (((jk.aA f48).aU f9 (by omega)).aU f10 (aW _))
  rw[e2]at this
  exact this
 ·have f9:=fT f9
  have iG:Vars h9 [(b4,[u.v,VI s'.2]),(b3,[aD.v,VI 0]),(b2,[w.v,VI p]),(b1,[g.v])]:= .cons v9 gK.ne (gK.tail.iv f9 ⟨.inl (by omega),.inl (by omega),.inl (by omega),trivial⟩)
  refine⟨u,s'.2,_,rfl,iG,fun e=>by simp at e,fun _ eW f10 fe=> ?_⟩
  have f10:=f10.dM (lo:=h.size) (hi:=h3.size) ⟨⟨jv,l3⟩,trivial⟩
  rw[hr]at e2
  have z9:=f9.size
  have AF:=f10.size
  have:=HK u eW (by rw[e2];exact(Ow.iv o9 f10 (.inr (by omega))).mono fun k _ hk=>⟨by have:=hk.1;omega,by have:=hk.2;omega⟩) (((jk.aA f48).aU f9 (by omega)).aU f10 (aW _))
  rw[e2]at this
  exact this
theorem QJ{S S':aK}{h:Heap}{g w:Sl}{aI:aE}{rs:aH}(G:cG S h g aI)(H:bC S' h w rs)(p:Int)(K:aL)(HK:∀t h',cH h' (Iv h.size h'.size) t (fm aI rs p 1).1.1->Fr No h h'->K (.tuple #[.agg #[t.v,VI (fm aI rs p 1).1.2],VB (fm aI rs p 1).2]) h'):aG aC 156 #[.agg #[g.v],.agg #[w.v,VI p]] h K:=by
 refine ajp g w p h K fun b1 b2 b3 h3 fK eN jv f3 dI=> ?_
 have f3:=f3.aM
 have l3:b3<h3.size:=dI.head.lt
 have z3:=f3.size
 refine Ms (G.no f3) (H.no f3) p 1 _ fun t h4 o4 f4=>⟨t,_,_,rfl,dI.aB f4,fun h5 f5 ie=> ?_⟩
 have f5:=f5.dM (lo:=h.size) (hi:=h3.size) ⟨⟨jv,l3⟩,trivial⟩
 have z5:=f5.size
 exact HK t h5 ((Ow.iv o4 f5 (.inr (aW _))).mono fun k _ hk=>⟨by have:=hk.1;omega,by have:=hk.2;omega⟩) ((f3.aA f4).aU f5 (aW _))
theorem CR{S S':aK}{h:Heap}{g w:Sl}{aI:aE}{rs:aH}(G:cG S h g aI)(H:bC S' h w rs)(p:Int)(K:aL)(HK:∀t h',cH h' (Iv h.size h'.size) t (fm aI rs p 1).1.1->Fr No h h'->K (.tuple #[.agg #[t.v,VI (fm aI rs p 1).1.2],VB (fm aI rs p 1).2]) h'):aG aC 128 #[.agg #[g.v],.agg #[w.v,VI p]] h K:=by
 refine aiT g w p h K fun b1 b2 b3 h3 fK eN jv f3 dI=> ?_
 have f3:=f3.aM
 have l3:b3<h3.size:=dI.head.lt
 have z3:=f3.size
 refine fW (G.no f3) (H.no f3) p _ fun h4 f4=>⟨_,rfl,dI.aB f4,fun e h5 f5 ie=> ?_,fun e=> ?_⟩
 ·have e2:fm aI rs p 1=(([],0),false):=by unfold fm;rw[aF (by rw[bU e];simp)]
  have f5:=f5.dM (lo:=h.size) (hi:=h3.size) ⟨⟨jv,l3⟩,trivial⟩
  have:=HK aD h5 (by rw[e2];exact Ow.nil _ _ _ _) ((f3.aA f4).aU f5 (aW _))
  rw[e2]at this
  exact this
 have e:=bQ e
 have jk:=f3.aA f4
 have e2:fm aI rs p 1=match dK aI (rs,p)with
  |none=>(([],0),false)
  |some s=>(s,true):=by
  unfold fm
  rw[aJ (by rw[e];rfl)]
  show(match runT aI (fun(_:Unit) _ _=>()) 1 () (rs,p)with
   |none=>(([],0),false)
   |some (_,s)=>(s,true))=_
  rw[runT]
  cases dK aI (rs,p)with
  |none=>rfl
  |some s=>rfl
 refine rf (s:=(rs,p)) (G.no jk) (H.no jk) (dN e) _ (fun hs h6 f6=>⟨w,p,false,rfl,(dI.aB f4).aB f6,fun _ b4 h9 Fb f9 iG=> ?_,fun e=>by simp at e⟩) fun s' hs t h6 o6 f6=>⟨t,s'.2,true,rfl,(dI.aB f4).aB f6,fun e=>by simp at e,fun _ b4 h9 Fb f9 iG=> ?_⟩
 ·have f9:=f9.dM (lo:=h.size) (hi:=h3.size) ⟨⟨jv,l3⟩,trivial⟩
  rw[hs]at e2
  have:=HK aD h9 (by rw[e2];exact Ow.nil _ _ _ _) ((jk.aA f6).aU f9 (aW _))
  rw[e2]at this
  exact this
 ·have f9:=f9.dM (lo:=h.size) (hi:=h3.size) ⟨⟨jv,l3⟩,trivial⟩
  rw[hs]at e2
  have z4:=f4.size
  have z9:=f9.size
  have:=HK t h9 (by rw[e2];exact(Ow.iv o6 f9 (.inr (by omega))).mono fun k _ hk=>⟨by have:=hk.1;omega,by have:=hk.2;omega⟩) ((jk.aA f6).aU f9 (aW _))
  rw[e2]at this
  exact this
structure Rn where
 s:St
 ps:aH
 vs:aH
 us:aE
def bump(l:aH)(i:Nat):aH:=l.set i (l.getD i 0+1)
def QK(g:aE):Nat->Rn->Option Rn
 |0,r=>some r
 |n+1,r=>match dK g r.s with
  |none=>none
  |some s'=>QK g n ⟨s',r.ps++[s'.2],bump r.vs s'.2.toNat,r.us.set r.s.2.toNat (bump (r.us.getD r.s.2.toNat []) (s'.1.getD r.s.2.toNat 0).toNat)⟩
def oy(g:aE):aE:=g.map fun l=>List.replicate l.length 0
def N8(g:aE)(s:St):Rn:=⟨s,[s.2],List.replicate g.length 0,oy g⟩
structure Oa(g:aE)(m:Nat)(r:Rn):Prop where
 w:iT g r.s
 ps:r.ps.length=m+1
 vs:r.vs.length=g.length
 us:r.us.length=g.length
 row:∀i(h:i<r.us.length)(h':i<g.length),r.us[i].length=g[i].length
 vb:∀x,x∈r.vs->0<=x/\x<=m
 ub:∀l,l∈r.us->∀x,x∈l->0<=x/\x<=m
theorem rh(l:aH)(i:Nat):(bump l i).length=l.length:=by simp[bump]
theorem AG{l:aH}{i m:Nat}(h:∀x,x∈l->0<=x/\x<=(m:Int)):∀x,x∈bump l i->0<=x/\x<=((m+1:Nat):Int):=by
 intro x hx
 unfold bump at hx
 rcases rm hx with hx|rfl
 ·have:=h x hx;omega
 ·by_cases hi:i<l.length
  ·rw[bB hi]
   have:=h _ (bJ hi)
   omega
  ·rw[show l.getD i 0=0 by simp[List.getD,List.getElem?_eq_none (by omega:l.length<=i)]]
   omega
theorem Oa.step{g:aE}{m:Nat}{r:Rn}(R:Oa g m r){s':St}(hs:dK g r.s=some s'):Oa g (m+1) ⟨s',r.ps++[s'.2],bump r.vs s'.2.toNat,r.us.set r.s.2.toNat (bump (r.us.getD r.s.2.toNat []) (s'.1.getD r.s.2.toNat 0).toNat)⟩:=by
 have hp:r.s.2.toNat<r.us.length:=by rw[R.us];have:=R.w.hi;have:=R.w.lo;omega
 refine⟨R.w.step hs,by simp[R.ps],by simp[rh,R.vs],by simp[R.us],fun i a b=> ?_,AG R.vb,fun l hl=> ?_⟩
 ·simp only[bY]at a
  simp only[fR]
  split
  ·rename_i e
   subst e
   rw[rh,bH hp]
   exact R.row _ a b
  ·exact R.row i a b
 ·rcases rm hl with hl|rfl
  ·exact fun x hx=>by have:=R.ub l hl x hx;omega
  ·rw[bH hp]
   exact AG (R.ub _ (bJ hp))
theorem Zl{g:aE}{s:St}(W:iT g s):Oa g 0 (N8 g s):=by
 refine⟨W,rfl,by simp[N8],by simp[N8,oy],fun i a b=>by simp[N8,oy],fun x hx=> ?_,fun l hl x hx=> ?_⟩
 ·simp only[N8,uj]at hx
  omega
 ·simp only[N8,oy,dL]at hl
  obtain⟨l',_,rfl⟩:=hl
  simp only[uj]at hx
  omega
theorem Kv{S S':aK}{h:Heap}{g w:Sl}{aI:aE}{rs:aH}(G:cG S h g aI)(H:bC S' h w rs)(p n:Int)(W:iT aI (rs,p))(hn0:0<=n)(hn1:n<=2000)(K:aL)
 (HN:QK aI n.toNat (N8 aI (rs,p))=none->∀h',Fr No h h'->K (.tuple #[.agg #[aD.v,VI 0,aD.v,aD.v,aD.v],VB false]) h')
 (HS:∀r,QK aI n.toNat (N8 aI (rs,p))=some r->Oa aI n.toNat r->∀e ps vs us h',bC (fun _=>True) h' e r.s.1->bC (fun k=>h.size<=k) h' ps r.ps->bC (fun k=>h.size<=k) h' vs r.vs->cG (fun k=>h.size<=k) h' us r.us->Fr No h h'->K (.tuple #[.agg #[e.v,VI r.s.2,ps.v,vs.v,us.v],VB true]) h'):
 aG aC 179 #[.agg #[g.v],.agg #[w.v,VI p],VI n] h K:=by
 refine ajW g w p n h K fun b1 b2 b3 h3 fK eN jv f3 dI=> ?_
 have f3:=f3.aM
 have l3:b3<h3.size:=dI.head.lt
 have l2:b2<h3.size:=dI.tail.head.lt
 have l1:b1<h3.size:=dI.tail.tail.head.lt
 have z3:=f3.size
 have U8:=bA W.cD
 have hgt:=sG W.cD
 have lit:∀{h1:Heap}{K:aL},(∀t h2,cH h2 (Iv h1.size h2.size) t [p]->Fr No h1 h2->K t.v h2)->lQ aC (Instr.buildSlice qx 1 #[(0,VI p)]) h1 K:=fun HK=>bE gD (fun k=>_<=k) (fun _ h=>h) 1 (by omega) [VI p] rfl rfl fun t h2 n2 c2 o2 f2 m2 _=>HK t h2 (Ow.gN o2) f2
 have mk:∀{h1:Heap}{K:aL},(∀t h2,cH h2 (Iv h1.size h2.size) t (List.replicate aI.length 0)->Fr No h1 h2->K t.v h2)->lQ aC (Instr.makeSlice qx (VI (g.n:Int)) (VI (g.n:Int))) h1 K:=fun HK=>fC gD (fun k=>_<=k) (fun _ h=>h) .i64 .i64 g.n g.n (aW _) (by rw[G.len];omega) fun t h2 n2 c2 o2 f2 m2 _=>HK t h2 (Ow.gN (by
  have e:(List.replicate g.n [VI 0]).flatten=(List.replicate aI.length (0:Int)).map VI:=by rw[G.len];simp[ko]
  rw[e]at o2;exact o2)) f2
 refine⟨fun b x1 x2 x3 x4 x5 h'=>x1=w/\x2=p/\x5=aD/\∃i1 j1 i2 j2,cH h' (Iv i1 j1) x3 [p]/\cH h' (Iv i2 j2) x4 (List.replicate aI.length 0)/\(j1<=i2\/j2<=i1)/\(b<i1\/j1<=b)/\(b<i2\/j2<=b)/\h3.size<=i1/\h3.size<=i2/\h3.size<=b/\j1<=h'.size/\j2<=h'.size/\Fr No h3 h',⟨?_,?_,?_⟩,?_⟩
 ·refine lit fun t h4 o4 f4=>⟨t,rfl,dI.aB f4,?_⟩
  have z4:=f4.size
  have eM:=dI.aB f4
  refine⟨mk fun u h5 o5 f5=>⟨u,rfl,eM.aB f5,fun b5 h6 QL f6 jx h7 f7 kL=> ?_⟩,fun b6 h8 Zm f8 gK=>mk fun u h9 o9 f9=>⟨u,rfl,gK.aB f9,fun eW f10 fe=> ?_⟩⟩
  ·have f6:=f6.aM
   have z5:=f5.size
   have z6:=f6.size
   have lb:=jx.head.lt
   have f7:=f7.dM (lo:=h5.size) (hi:=h6.size) ⟨⟨QL,lb⟩,trivial⟩
   have z7:=f7.size
   exact⟨rfl,rfl,rfl,h3.size,h4.size,h4.size,h5.size,((Ow.no o4 f5).no f6).iv f7 (by omega),(Ow.no o5 f6).iv f7 (by omega),by omega,by omega,by omega,by omega,by omega,by omega,by omega,by omega,((f4.aA f5).aA f6).aU f7 (by omega)⟩
  ·have f8:=f8.aM
   have z8:=f8.size
   have z9:=f9.size
   have lb:=gK.head.lt
   have f10:=f10.dM (lo:=h4.size) (hi:=h8.size) ⟨⟨Zm,lb⟩,trivial⟩
   have AF:=f10.size
   exact⟨rfl,rfl,rfl,h3.size,h4.size,h8.size,h9.size,((Ow.no o4 f8).no f9).iv f10 (by omega),Ow.iv o9 f10 (by omega),by omega,by omega,by omega,by omega,by omega,by omega,by omega,by omega,((f4.aA f8).aA f9).aU f10 (by omega)⟩
 ·refine mk fun u h4 o4 f4=>⟨u,rfl,dI.aB f4,?_⟩
  have z4:=f4.size
  have eM:=dI.aB f4
  refine⟨lit fun t h5 o5 f5=>⟨t,rfl,eM.aB f5,fun b5 h6 QL f6 jx h7 f7 kL=> ?_⟩,fun b6 h8 Zm f8 gK=>lit fun t h9 o9 f9=>⟨t,rfl,gK.aB f9,fun eW f10 fe=> ?_⟩⟩
  ·have f6:=f6.aM
   have z5:=f5.size
   have z6:=f6.size
   have lb:=jx.head.lt
   have f7:=f7.dM (lo:=h5.size) (hi:=h6.size) ⟨⟨QL,lb⟩,trivial⟩
   have z7:=f7.size
   exact⟨rfl,rfl,rfl,h4.size,h5.size,h3.size,h4.size,(Ow.no o5 f6).iv f7 (by omega),((Ow.no o4 f5).no f6).iv f7 (by omega),by omega,by omega,by omega,by omega,by omega,by omega,by omega,by omega,((f4.aA f5).aA f6).aU f7 (by omega)⟩
  ·have f8:=f8.aM
   have z8:=f8.size
   have z9:=f9.size
   have lb:=gK.head.lt
   have f10:=f10.dM (lo:=h4.size) (hi:=h8.size) ⟨⟨Zm,lb⟩,trivial⟩
   have AF:=f10.size
   exact⟨rfl,rfl,rfl,h8.size,h9.size,h3.size,h4.size,Ow.iv o9 f10 (by omega),((Ow.no o4 f8).no f9).iv f10 (by omega),by omega,by omega,by omega,by omega,by omega,by omega,by omega,by omega,((f4.aA f8).aA f9).aU f10 (by omega)⟩
 ·intro b9 h4 hb9 f4 eM
  have f4:=f4.aM
  have z4:=f4.size
  have lb:=eM.head.lt
  refine⟨lit fun t h5 o5 f5=>⟨t,rfl,eM.aB f5,mk fun u h6 o6 f6=>⟨u,rfl,(eM.aB f5).aB f6,fun h7 f7 kL=> ?_⟩⟩,mk fun u h5 o5 f5=>⟨u,rfl,eM.aB f5,lit fun t h6 o6 f6=>⟨t,rfl,(eM.aB f5).aB f6,fun h7 f7 kL=> ?_⟩⟩⟩
  ·have z5:=f5.size
   have z6:=f6.size
   have f7:=f7.dM (lo:=h3.size) (hi:=h4.size) ⟨⟨hb9,lb⟩,trivial⟩
   have z7:=f7.size
   exact⟨rfl,rfl,rfl,h4.size,h5.size,h5.size,h6.size,(Ow.no o5 f6).iv f7 (by omega),Ow.iv o6 f7 (by omega),by omega,by omega,by omega,by omega,by omega,by omega,by omega,by omega,((f4.aA f5).aA f6).aU f7 (by omega)⟩
  ·have z5:=f5.size
   have z6:=f6.size
   have f7:=f7.dM (lo:=h3.size) (hi:=h4.size) ⟨⟨hb9,lb⟩,trivial⟩
   have z7:=f7.size
   exact⟨rfl,rfl,rfl,h5.size,h6.size,h4.size,h5.size,Ow.iv o6 f7 (by omega),(Ow.no o5 f6).iv f7 (by omega),by omega,by omega,by omega,by omega,by omega,by omega,by omega,by omega,((f4.aA f5).aA f6).aU f7 (by omega)⟩
 rintro b4 x1 x2 ps0 vs0 x5 CS ⟨rfl,rfl,rfl,i1,j1,i2,j2,o1,o2,d12,d1,d2,e1,e2,e3,e4,e5,f25⟩ Il
 have al8:=f3.aA f25
 have z25:=f25.size
 have lb4:b4<CS.size:=Il.head.lt
 refine⟨fun m i x6 x7 x8 x9 QM h'=>x6=x1/\x7=x2/\x8=ps0/\x9=vs0/\0<=i/\i+m=(aI.length:Int)/\gy h' (fun k=>CS.size<=k) QM (oy (aI.take i.toNat))/\Fr (Iv b4 (b4+1)) CS h'/\CS.size<=h'.size,⟨aI.length,rfl,rfl,rfl,rfl,by omega,by omega,by simpa[oy]using dJ.nil _ _ _ _,Fr.refl _ _,aW _⟩,?_⟩
 rintro m i x6 x7 x8 x9 QM uL ⟨rfl,rfl,rfl,rfl,i0,im,kW,f26,z26⟩ td
 have Kw:Fr No h uL:=al8.aU f26 (by omega)
 refine⟨fun e=> ?_,fun e=> ?_⟩
 ·have hi:=G.lt e
  obtain⟨si,c1,c2⟩:=(G.no Kw).get i0 hi
  have hsi:=(bL W.cD (bJ (show i.toNat<aI.length by omega))).1
  refine⟨(G.no Kw).bM i0 hi,si,c1,?_⟩
  refine fC gD (fun k=>uL.size<=k) (fun _ h=>h) .i64 .i64 si.n si.n (aW _) (by have:=c2.len;omega) fun t TT n27 c27 QN f27 m27 _=>⟨t,rfl,td.aB f27,?_⟩
  have QN:cH TT (fun k=>uL.size<=k) t (List.replicate (aI[i.toNat]'(by omega)).length 0):=by
   have e:(List.replicate si.n [VI 0]).flatten=(List.replicate (aI[i.toNat]'(by omega)).length (0:Int)).map VI:=by rw[c2.len];simp[ko]
   rw[e]at QN;exact QN
  refine bE ug (fun k=>TT.size<=k) (fun _ h=>h) 1 (by omega) [t.v] rfl rfl fun u h28 n28 c28 o28 f28 m28 _=>⟨u,rfl,(td.aB f27).aB f28,?_⟩
  have z27:=f27.size
  have z28:=f28.size
  refine dJ.snoc ug ((kW.gN.no f27).no f28) (F':=fun k=>CS.size<=k) (fun k _ hk=>hk.1) (fun k hk=>by omega) ((Ow.no QN f28).mono fun k _ hk=>dD z26 hk) (fun k hk aQ=>by have:=(QN.aS hk).1;have:=aQ.2;omega) o28.rd (by simp[oy];omega) fun y h29 o29 f29=>⟨y,rfl,((td.aB f27).aB f28).iv f29 ⟨.inl lb4,.inl (by omega),.inl (by omega),.inl (by omega),trivial⟩,fun h30 f30 amc=> ?_⟩
  have z29:=f29.size
  have f30:=f30.dM (lo:=b4) (hi:=b4+1) ⟨⟨aW _,pL _⟩,trivial⟩
  have z30:=f30.size
  rw[G.succ i0 hi]
  refine⟨m-1,by omega,rfl,rfl,rfl,rfl,by omega,by omega,?_,?_,by omega⟩
  ·rw[fu aI i0 hi]
   have:oy (aI.take i.toNat++[aI[i.toNat]'(by omega)])=oy (aI.take i.toNat)++[List.replicate (aI[i.toNat]'(by omega)).length 0]:=by simp only[oy,cV,bK,iY]
   rw[this]
   exact(o29.gN.iv f30 (.inr (by omega))).mono fun k _ hk=>hk.1
  ·exact(f26.EL (f27.aA f28).aB (fun k(hk:Iv CS.size uL.size k)=>hk.1)).EL f29 (fun k hk=>hk.1)|>.trans f30
 have hi:=G.ge e
 rw[cT (by omega)]at kW
 --the rounds
 generalize hR:QK aI n.toNat (N8 aI (rs,x7))=R at HN HS
 have U9:=Ow.iv o1 f26 (by omega)
 have Zn:=Ow.iv o2 f26 (by omega)
 refine⟨fun q n2 QO TU Mt x14 x15 h'=>∃(r:Rn)(m:Nat)(E:aK),Oa aI m r/\n2=q/\m+q=n.toNat/\TU=r.s.2/\x14=x9/\x15=QM/\bC E h' QO r.s.1/\(∀k,E k->(k<h.size\/uL.size<=k)/\k<h'.size/\¬Mt.own k)/\cH h' (fun k=>h3.size<=k) Mt r.ps/\(∀k,Mt.own k->Iv i1 j1 k\/uL.size<=k)/\cH h' (Iv i2 j2) x9 r.vs/\gy h' (Iv CS.size uL.size) QM r.us/\Fr No h h'/\uL.size<=h'.size/\R=QK aI q r,
  ⟨n.toNat,N8 aI (rs,x7),0,fun k=>k<h.size,Zl W,by omega,by omega,rfl,rfl,rfl,H.low.no Kw,fun k hk=>⟨.inl hk,by have:=Kw.size;omega,fun aQ=>by have:=(U9.aS aQ).1.1;omega⟩,U9.mono fun k _ hk=>by have:=hk.1;omega,fun k hk=> .inl (U9.aS hk).1,Zn,kW.gN,Kw,aW _,hR.symm⟩,?_⟩
 rintro q n2 QO TU Mt x14 x15 h31 ⟨r,m',E,ok,rfl,hm,rfl,rfl,rfl,rE,hE,oP,hP,oV,oU,f31,z31,eq⟩ Vb
 refine⟨fun e=> ?_,fun e=> ?_⟩
 ·simp only[aT]at e
  obtain⟨q,rfl⟩:∃q',q=q'+1:=⟨q-1,by omega⟩
  rw[QK]at eq
  refine rf (G.no f31) rE ok.w _ (fun hs Zo f32=>⟨QO,r.s.2,false,rfl,Vb.aB f32,fun _ b10 h35 Zp f35 aff=> ?_,fun e=>by simp at e⟩) fun s' hs t Zo o32 f32=>⟨t,s'.2,true,rfl,Vb.aB f32,fun e=>by simp at e,fun _=> ?_⟩
  ·rw[hs]at eq
   have f35:=f35.dM (lo:=h.size) (hi:=h3.size) ⟨⟨jv,l3⟩,trivial⟩
   exact HN eq h35 ((f31.aA f32).aU f35 (aW _))
  ·rw[hs]at eq
   simp only at eq
   have z32:=f32.size
   have hp:r.s.2.toNat<r.us.length:=by rw[ok.us];have:=ok.w.hi;have:=ok.w.lo;omega
   have yL:=ok.w.lo
   have W':=ok.w.step hs
   have Vc:=W'.lo
   have arP:=W'.hi
   have arQ:=ok.us
   have oP2:=Ow.no oP f32
   have oV2:=Ow.no oV f32
   have oU2:=oU.no f32
   have amg:=f31.aA f32
   refine⟨oU2.rd.bM yL (by omega),fun b10 h34 Zp f34 Zq=> ?_⟩
   have f34:=f34.aM
   have z34:=f34.size
   have oP4:=Ow.no oP2 f34
   have oV4:=Ow.no oV2 f34
   have oU4:=oU2.no f34
   have oT4:=Ow.no o32 f34
   obtain⟨si,d1',d2',d3'⟩:=oU4.inner yL (by omega)
   have afg:(r.us[r.s.2.toNat]'hp).length=(aI[r.s.2.toNat]'(by omega)).length:=ok.row _ hp (by omega)
   have hsl:si.n=(r.us[r.s.2.toNat]'hp).length:=bC.len d2'.fM
   have TV:r.s.2.toNat<s'.1.length:=by rw[W'.len];omega
   have Zh:=W'.QH _ TV (by omega)
   have fL:(aI[r.s.2.toNat]'(by omega)).length≠0:=fun h0=>by rw[pQ ok.w (by omega) h0]at hs;cases hs
   have Fe:0<=s'.1[r.s.2.toNat]' TV:=Zh.1
   have YP:s'.1[r.s.2.toNat]' TV<((r.us[r.s.2.toNat]'hp).length:Int):=by omega
   have RT:bC (Iv h31.size Zo.size) h34 t s'.1:=oT4.yj
   have RU:bC (Iv CS.size uL.size) h34 si (r.us[r.s.2.toNat]'hp):=d2'.yj
   have hub:=ok.ub _ (bJ hp) _ (bJ (show(s'.1[r.s.2.toNat]' TV).toNat<(r.us[r.s.2.toNat]'hp).length by omega))
   have hwu:aX ((r.us[r.s.2.toNat]'hp)[(s'.1[r.s.2.toNat]' TV).toNat]'(by omega)+1)=(r.us[r.s.2.toNat]'hp)[(s'.1[r.s.2.toNat]' TV).toNat]'(by omega)+1:=aP _ (by omega) (by omega)
   refine⟨si,d1',RT.bM yL (by omega),_,RT.get yL (by omega),RU.bM Fe YP,_,RU.get Fe YP,RU.bM Fe YP,?_⟩
   rw[hwu]
   obtain⟨w1,w2,w3⟩:=d2'.gH Fe (by omega) (VI ((r.us[r.s.2.toNat]'hp)[(s'.1[r.s.2.toNat]' TV).toNat]'(by omega)+1))
   have rc:Fr (Iv CS.size uL.size) h34 _:=w3.mono fun k _ hk=>(d2'.aS hk).1
   have Vd:=Zq.iv rc ⟨.inr (by omega),.inl lb4,.inl (by omega),.inl (by omega),.inl (by omega),trivial⟩
   refine⟨w1,Vd,fun h36 e36 _=> ?_⟩
   subst e36
   rw[<-iu]at w2
   have oU6:=d3' _ _ w3 w2
   have oV6:=Ow.iv oV4 rc (by omega)
   have TW:=ok.vs
   have hV:s'.2.toNat<r.vs.length:=by omega
   have RV:bC (Iv i2 j2) _ x14 r.vs:=oV6.yj
   have hvb:=ok.vb _ (bJ hV)
   have hwv:aX ((r.vs[s'.2.toNat]'hV)+1)=(r.vs[s'.2.toNat]'hV)+1:=aP _ (by omega) (by omega)
   refine⟨RV.bM Vc (by omega),_,RV.get Vc (by omega),RV.bM Vc (by omega),?_⟩
   rw[hwv]
   have hvn:x14.n=r.vs.length:=bC.len RV
   obtain⟨y1,y2,y3⟩:=oV6.gH Vc (by omega) (VI ((r.vs[s'.2.toNat]'hV)+1))
   have y3':Fr (Iv i2 j2) _ _:=y3.mono fun k _ hk=>(oV6.aS hk).1
   have QP:=Vd.iv y3' ⟨.inr (by omega),(by have h1:=d2;exact h1.elim .inl .inr),.inl (by omega),.inl (by omega),.inl (by omega),trivial⟩
   refine⟨y1,QP,fun h37 e37 _=> ?_⟩
   subst e37
   rw[<-iu]at y2
   have z36:=rc.size
   have z37:=y3'.size
   have afh:∀k,Mt.own k->¬Iv CS.size uL.size k:=fun k hk aQ=>by
    have h1:=aQ.1
    have h2:=aQ.2
    rcases hP k hk with h3|h3
    ·have:=h3.2;omega
    ·omega
   have tf:∀k,Mt.own k->¬Iv i2 j2 k:=fun k hk aQ=>by
    have h1:=aQ.1
    have h2:=aQ.2
    rcases hP k hk with h3|h3
    ·have:=h3.1;have:=h3.2;omega
    ·omega
   have oP7:=(Ow.fr oP4 rc afh).fr y3' tf
   refine bE gD (fun k=>_<=k) (fun _ h=>h) 1 (by omega) [VI s'.2] rfl rfl fun v h38 n38 c38 o38 f38 m38 _=>⟨v,rfl,QP.aB f38,?_⟩
   have z38:=f38.size
   have o38:bC v.own h38 v [s'.2]:=o38.rd
   have QQ:Mt.n=r.ps.length:=bC.len oP7.fM
   have ar2:v.n=1:=o38.len
   refine cP gD (oP7.no f38) (fun k hk=>by omega) o38 (fU _) (by have:=ok.ps;omega) fun y Ob n39 o39 f39 d39=> ?_
   have z39:=f39.size
   have QR:=(QP.aB f38).fr f39 fun p hp hk=>by
    have h1:=(oP.aS hk).2
    have h2:=(oP.aS hk).1
    simp only[aO,aR,aN]at hp
    rcases hp with rfl|rfl|rfl|rfl|rfl<;>simp only at h1 h2 hk
    ·omega
    ·rcases hP _ hk with h3|h3
     ·have:=h3.1;have:=h3.2;omega
     ·omega
    ·omega
    ·omega
    ·omega
   refine⟨y,rfl,QR,fun h41 f41 ar5=> ?_⟩
   have f41:=f41.dM (lo:=b4) (hi:=b4+1) ⟨⟨aW _,pL _⟩,⟨aW _,pL _⟩,trivial⟩
   have z41:=f41.size
   have Fb:∀k,Mt.own k->¬k=b4:=fun k hk e=>by
    subst e
    rcases hP _ hk with h3|h3
    ·have:=h3.1;have:=h3.2;omega
    ·omega
   rw[aP _ (by omega) (by omega)]
   rw[<-cV]at o39
   have eV:r.vs.set s'.2.toNat ((r.vs[s'.2.toNat]'hV)+1)=bump r.vs s'.2.toNat:=by unfold bump;rw[bB hV]
   have eU:(r.us[r.s.2.toNat]'hp).set (s'.1[r.s.2.toNat]' TV).toNat ((r.us[r.s.2.toNat]'hp)[(s'.1[r.s.2.toNat]' TV).toNat]'(by omega)+1)=bump (r.us.getD r.s.2.toNat []) (s'.1.getD r.s.2.toNat 0).toNat:=by unfold bump;rw[bH hp,bB TV,bB (by omega)]
   rw[eV]at y2
   rw[eU]at oU6
   have afi:∀k,Mt.own k->¬Iv h31.size Zo.size k:=fun k hk aQ=>by have:=(oP.aS hk).2;have:=aQ.1;omega
   refine⟨q,by omega,_,m'+1,Iv h31.size Zo.size,ok.step hs,by omega,by omega,rfl,rfl,rfl,?_,fun k hk=>⟨.inr (by have:=hk.1;omega),by have:=hk.2;omega,fun aQ=> ?_⟩,?_,fun k hk=> ?_,?_,?_,?_,by omega,eq⟩
   ·exact(((((oT4.iv rc (by omega)).iv y3' (by omega)).no f38).fr f39 fun k hk aQ=>afi k aQ (oT4.aS hk).1).iv f41 (by omega)).yj
   ·rcases d39 k aQ with h1|h1
    ·exact afi k h1 hk
    ·have:=hk.2;omega
   ·exact Ow.fr o39 f41 fun k hk aQ=>by
     have h1:=aQ.1
     have h2:=aQ.2
     rcases d39 k hk with h3|h3
     ·exact Fb k h3 (by omega)
     ·omega
   ·rcases d39 k hk with h1|h1
    ·exact hP k h1
    ·exact .inr (by omega)
   ·exact((Ow.no y2 f38).fr f39 fun k hk aQ=>tf k aQ (y2.aS hk).1).iv f41 (by omega)
   ·exact(((oU6.iv y3' (by omega)).no f38).fr f39 fun k _ hk aQ=>afh k aQ hk).iv f41 (by omega)
   ·exact((((((amg.aA f34).aU rc (by omega)).aU y3' (by omega)).aA f38).fresh f39 fun k hk=>by have:=(oP.aS hk).1;omega).aU f41 (by omega))
 ·simp only[aY]at e
  obtain rfl:q=0:=by omega
  rw[QK]at eq
  intro h42 f42 amk
  have f42:=f42.dM (lo:=h.size) (hi:=h3.size) ⟨⟨jv,l3⟩,trivial⟩
  have em:m'=n.toNat:=by omega
  subst em
  refine HS r eq ok QO Mt x14 x15 h42 ?_ ?_ ?_ ?_ (f31.aU f42 (aW _))
  ·exact(bC.fr rE f42 fun k hk aQ=>by have:=(hE k hk).1;have:=aQ.1;have:=aQ.2;omega).mono fun _ _=>trivial
  ·exact(bC.fr oP.rd f42 fun k hk aQ=>by
    have h1:=aQ.1
    have h2:=aQ.2
    rcases hP k hk with h3|h3
    ·have:=h3.1;omega
    ·omega).mono fun k hk=>by have:=(oP.aS hk).1;omega
  ·exact(bC.iv oV.yj f42 (by omega)).mono fun k hk=>by have:=hk.1;omega
  ·exact(cG.iv oU.yj f42 (by omega)).mono fun k hk=>by have:=hk.1;omega
def QS(r:Rn)(s':St):Rn:=⟨s',r.ps++[s'.2],bump r.vs s'.2.toNat,r.us.set r.s.2.toNat (bump (r.us.getD r.s.2.toNat []) (s'.1.getD r.s.2.toNat 0).toNat)⟩
theorem Ff{τ:Type}(g:aE)(f:Rn->τ)(zo:τ->St->St->τ)(hf:∀r s',f (QS r s')=zo (f r) r.s s'):∀(n:Nat)(r:Rn),runT g zo n (f r) r.s=(QK g n r).map fun r=>(f r,r.s)
 |0,r=>by simp[runT,QK]
 |n+1,r=>by
  rw[runT,QK]
  cases dK g r.s with
  |none=>rfl
  |some s'=>
   show runT g zo n (zo (f r) r.s s') s'=(QK g n (QS r s')).map _
   rw[<-Ff g f zo hf n (QS r s'),hf]
   rfl
theorem Fg{S S':aK}{h:Heap}{g w:Sl}{aI:aE}{rs:aH}(G:cG S h g aI)(H:bC S' h w rs)(p n:Int)(K:aL)(HK:∀t h',cH h' (Iv h.size h'.size) t (fm aI rs p n).1.1->Fr No h h'->K (.tuple #[.agg #[t.v,VI (fm aI rs p n).1.2],VB (fm aI rs p n).2]) h'):aG aC 129 #[.agg #[g.v],.agg #[w.v,VI p],VI n] h K:=by
 refine aiV g w p n h K fun b1 b2 b3 h3 fK eN jv f3 dI=> ?_
 have f3:=f3.aM
 have l3:b3<h3.size:=dI.head.lt
 have z3:=f3.size
 refine DS (G.no f3) (H.no f3) p n _ fun h4 f4=>⟨_,rfl,dI.aB f4,fun e h5 f5 ie=> ?_,fun e=> ?_⟩
 ·have e2:fm aI rs p n=(([],0),false):=by unfold fm;rw[aF (by rw[bU e];simp)]
  have f5:=f5.dM (lo:=h.size) (hi:=h3.size) ⟨⟨jv,l3⟩,trivial⟩
  have:=HK aD h5 (by rw[e2];exact Ow.nil _ _ _ _) ((f3.aA f4).aU f5 (aW _))
  rw[e2]at this
  exact this
 have e:=bQ e
 have e2:fm aI rs p n=match runT aI (fun(_:Unit) _ _=>()) n.toNat () (rs,p)with
  |none=>(([],0),false)
  |some (_,s)=>(s,true):=by unfold fm;exact aJ e
 rw[show runT aI (fun(_:Unit) _ _=>()) n.toNat () (rs,p)=_ from Ff aI (fun _=>()) (fun(_:Unit) _ _=>()) (fun _ _=>rfl) n.toNat (N8 aI (rs,p))]at e2
 rw[bD,bT]at e
 have W:=dN e.1
 have U8:=bA W.cD
 have jk:=f3.aA f4
 have eM:=dI.aB f4
 refine Kv (G.no jk) (H.no jk) p n W e.2.1 e.2.2 _ (fun hr h6 f6=>⟨aD,0,aD,aD,aD,false,rfl,eM.aB f6,fun _ b4 h9 Fb f9 iG=> ?_,fun e=>by simp at e⟩) fun r hr ok e' ps vs us h6 r1 r2 r3 r4 f6=>⟨e',r.s.2,ps,vs,us,true,rfl,eM.aB f6,fun e=>by simp at e,fun _ b4 h8 Fb f8 gK=> ?_⟩
 ·have f9:=f9.dM (lo:=h.size) (hi:=h3.size) ⟨⟨jv,l3⟩,trivial⟩
  rw[hr]at e2
  have:=HK aD h9 (by rw[e2];exact Ow.nil _ _ _ _) ((jk.aA f6).aU f9 (aW _))
  rw[e2]at this
  exact this
 ·have f8:=f8.aM
  rw[hr]at e2
  have Fh:=(jk.aA f6).aA f8
  refine nP (r1.no f8) (by have:=ok.w.len;omega) _ fun t eW kW f10=>⟨t,rfl,gK.aB f10,fun gP f11 fJ=> ?_⟩
  have f11:=f11.dM (lo:=h.size) (hi:=h3.size) ⟨⟨jv,l3⟩,trivial⟩
  have z4:=f4.size
  have z6:=f6.size
  have z8:=f8.size
  have AF:=f10.size
  have Pu:=f11.size
  have:=HK t gP (by rw[e2];exact(Ow.iv kW f11 (.inr (by omega))).P0 (by omega) (by omega)) ((Fh.aA f10).aU f11 (aW _))
  rw[e2]at this
  exact this
def qm(t:aH)(_ s':St):aH:=t++[s'.2]
def kq(g:aE)(rs:aH)(p n:Int):aH×Bool:=
 if fx g rs p&&jq 0 200 n then match runT g qm n.toNat [p] (rs,p)with
  |none=>([],false)
  |some (t,_)=>(t,true)
 else([],false)
def Kx(t:aH)(_ s':St):aH:=bump t s'.2.toNat
def qz(g:aE)(rs:aH)(p n:Int):aH×Bool:=
 if fx g rs p&&jq 0 2000 n then match runT g Kx n.toNat (List.replicate g.length 0) (rs,p)with
  |none=>([],false)
  |some (t,_)=>(t,true)
 else([],false)
theorem tg{S S':aK}{h:Heap}{g w:Sl}{aI:aE}{rs:aH}(G:cG S h g aI)(H:bC S' h w rs)(p n:Int)(K:aL)(HK:∀t h',bC (Iv h.size h'.size) h' t (kq aI rs p n).1->Fr No h h'->K (.tuple #[t.v,VB (kq aI rs p n).2]) h'):aG aC 132 #[.agg #[g.v],.agg #[w.v,VI p],VI n] h K:=by
 refine aiZ g w p n h K fun b1 b2 h2 fK eN f2 cC=> ?_
 have f2:=f2.aM
 have no:kq aI rs p n=([],false)->∀h',Fr No h h'->K (.tuple #[aD.v,VB false]) h':=fun e h' f=>by
  have:=HK aD h' (by rw[e];exact eC.nil _ _ _) f
  rw[e]at this
  exact this
 refine fW (G.no f2) (H.no f2) p _ fun h3 f3=>⟨_,rfl,cC.aB f3,fun e=> ?_,fun e=> ?_⟩
 ·exact no (by unfold kq;rw[aF (by rw[bU e];simp)]) _ (f2.aA f3)
 have e:=bQ e
 have jm:=f2.aA f3
 have dI:=cC.aB f3
 refine eK _ _ _ _ _ ⟨_,rfl,dI,fun e1=> ?_,fun e1=> ?_⟩
 ·have e1:jq 0 200 n=false:=bU e1
  exact no (by unfold kq;rw[aF (by rw[e,e1];simp)]) _ jm
 have e1:jq 0 200 n=true:=bQ e1
 have e2:kq aI rs p n=match runT aI qm n.toNat [p] (rs,p)with
  |none=>([],false)
  |some (t,_)=>(t,true):=by unfold kq;exact aJ (by rw[e,e1];rfl)
 rw[show runT aI qm n.toNat [p] (rs,p)=_ from Ff aI Rn.ps qm (fun _ _=>rfl) n.toNat (N8 aI (rs,p))]at e2
 rw[bT]at e1
 have z03:=jm.size
 refine Kv (G.no jm) (H.no jm) p n (dN e) e1.1 (by omega) _ (fun hr h6 f6=>⟨aD,0,aD,aD,aD,false,rfl,dI.aB f6,fun b3 h7 jv f7 kL=> ?_⟩) fun r hr ok e' ps vs us h6 r1 r2 r3 r4 f6=>⟨e',r.s.2,ps,vs,us,true,rfl,dI.aB f6,fun b3 h7 jv f7 kL=> ?_⟩
 ·rw[hr]at e2
  exact no e2 _ ((jm.aA f6).aA f7.aM)
 ·rw[hr]at e2
  have z7:=f7.aM.size
  have:=HK ps h7 (by rw[e2];exact((eC.lt r2).mono fun k hk=>⟨by have:=hk.1;omega,by have:=hk.2;omega⟩:bC _ h6 ps _).no f7.aM) ((jm.aA f6).aA f7.aM)
  rw[e2]at this
  exact this
theorem yM{S S':aK}{h:Heap}{g w:Sl}{aI:aE}{rs:aH}(G:cG S h g aI)(H:bC S' h w rs)(p n:Int)(K:aL)(HK:∀t h',bC (Iv h.size h'.size) h' t (qz aI rs p n).1->Fr No h h'->K (.tuple #[t.v,VB (qz aI rs p n).2]) h'):aG aC 133 #[.agg #[g.v],.agg #[w.v,VI p],VI n] h K:=by
 refine ai1 g w p n h K fun b1 b2 h2 fK eN f2 cC=> ?_
 have f2:=f2.aM
 have no:qz aI rs p n=([],false)->∀h',Fr No h h'->K (.tuple #[aD.v,VB false]) h':=fun e h' f=>by
  have:=HK aD h' (by rw[e];exact eC.nil _ _ _) f
  rw[e]at this
  exact this
 refine DS (G.no f2) (H.no f2) p n _ fun h3 f3=>⟨_,rfl,cC.aB f3,fun e=> ?_,fun e=> ?_⟩
 ·exact no (by unfold qz;rw[aF (by rw[bU e];simp)]) _ (f2.aA f3)
 have e:=bQ e
 have jm:=f2.aA f3
 have dI:=cC.aB f3
 have e2:qz aI rs p n=match runT aI Kx n.toNat (List.replicate aI.length 0) (rs,p)with
  |none=>([],false)
  |some (t,_)=>(t,true):=by unfold qz;exact aJ e
 rw[show runT aI Kx n.toNat (List.replicate aI.length 0) (rs,p)=_ from Ff aI Rn.vs Kx (fun _ _=>rfl) n.toNat (N8 aI (rs,p))]at e2
 rw[bD,bT]at e
 have z03:=jm.size
 refine Kv (G.no jm) (H.no jm) p n (dN e.1) e.2.1 e.2.2 _ (fun hr h6 f6=>⟨aD,0,aD,aD,aD,false,rfl,dI.aB f6,fun b3 h7 jv f7 kL=> ?_⟩) fun r hr ok e' ps vs us h6 r1 r2 r3 r4 f6=>⟨e',r.s.2,ps,vs,us,true,rfl,dI.aB f6,fun b3 h7 jv f7 kL=> ?_⟩
 ·rw[hr]at e2
  exact no e2 _ ((jm.aA f6).aA f7.aM)
 ·rw[hr]at e2
  have z7:=f7.aM.size
  have:=HK vs h7 (by rw[e2];exact((eC.lt r3).mono fun k hk=>⟨by have:=hk.1;omega,by have:=hk.2;omega⟩:bC _ h6 vs _).no f7.aM) ((jm.aA f6).aA f7.aM)
  rw[e2]at this
  exact this
theorem Oc(g:aE)(rs:aH)(p n:Int):(kq g rs p n).1.length<=201:=by
 unfold kq
 split
 ·rename_i h
  rw[bD,bT]at h
  have key:∀(m:Nat)(t:aH)(s:St)(t':aH)(s':St),runT g qm m t s=some (t',s')->t'.length=t.length+m:=by
   intro m
   induction m with
   |zero=>
    intro t s t' s' h
    simp only[runT,dC,fH]at h
    rw[h.1]
    rfl
   |succ m ih=>
    intro t s t' s' h
    rw[runT]at h
    split at h
    ·cases h
    ·have:=ih _ _ _ _ h
     simp[qm]at this
     omega
  split
  ·simp
  ·rename_i t s hs
   have:=key _ _ _ _ _ hs
   simp at this
   simp only
   omega
 ·simp
theorem mX{L:List (Nat×List Value)}{F:aK}{h:Heap}{o:Sl}{xs:aH}{x:Int}(O:cH h F o xs)(hF:∀k,h.size<=k->F k)(hL:Vars h L)(ks:∀p,p∈L->¬F p.1)(hb:xs.length<=1000000)(R:Sl->Heap->Prop)(HR:∀t h',cH h' F t (xs++[x])->Fr F h h'->Vars h' L->R t h'):lQ aC (Instr.buildSlice qx 1 #[(0,VI x)]) h fun rv h1=>∃t:Sl,rv=t.v/\Vars h1 L/\lQ aC (cE qx qx qx o.v t.v) h1 fun Fi h2=>∃t2:Sl,Fi=t2.v/\Vars h2 L/\R t2 h2:=by
 refine bE gD (fun k=>h.size<=k) (fun _ h=>h) 1 (by omega) [VI x] rfl rfl fun t h1 n1 c1 o1 f1 m1 _=>⟨t,rfl,hL.aB f1,?_⟩
 have z1:=f1.size
 have O1:cH h1 F o xs:=Ow.no O f1
 have on:=O1.rd.len
 have tn:=o1.rd.len
 simp only[bG,gL,List.length_cons,List.length_nil]at on tn
 refine cP gD O1 (fun k hk=>hF k (by omega)) o1.rd (fU [x]) (by omega) fun s' h2 n2 o2 f2 d2=> ?_
 have g2:Fr F h1 h2:=f2.mono fun k _ hk=>(O1.aS hk).1
 have V2:Vars h2 L:=(hL.aB f1).fr g2 ks
 exact⟨s',rfl,V2,HR s' h2 (by rw[cH,cV];exact o2) (f1.aB.trans g2) V2⟩
theorem Ve{S:aK}{h:Heap}{s:Sl}{xs:aH}(H:bC S h s xs)(v:Int)(K:aL)(HK:K (VB (decide (v∈xs))) h):aG aC 229 #[s.v,VI v] h K:=by
 refine v229 s v h K ⟨fun n i h'=>h'=h/\0<=i/\i+n=(xs.length:Int)/\decide (v∈xs)=decide (v∈xs.drop i.toNat),⟨xs.length,rfl,by omega,by omega,by simp⟩,?_⟩
 rintro n i _ ⟨rfl,i0,i1,i2⟩ hL
 refine⟨fun e=> ?_,fun e=> ?_⟩
 ·have hi:=H.lt e
  rw[drop_cons xs i0 hi]at i2
  refine⟨H.bM i0 hi,_,H.get i0 hi,fun e=> ?_,fun e=> ?_⟩
  ·simp only[aT]at e
   rw[i2,km (by rw[e];exact cF)]at HK
   exact HK
  ·simp only[aY]at e
   rw[H.succ i0 hi]
   refine⟨n-1,by omega,rfl,by omega,by omega,?_⟩
   rw[i2,vk,aO]
   exact⟨fun h=>h.resolve_left fun h=>e h.symm,.inr⟩
 ·have hi:=H.ge e
  rw[kk (by omega)]at i2
  rw[i2]at HK
  simpa using HK
theorem AH{S:aK}{h:Heap}{s:Sl}{xs:aH}(H:bC S h s xs)(v:Int)(K:aL)(HN:v∉xs->K (VI (-1)) h)(HS:∀i:Nat,i<xs.length->xs.getD i 0=v->(∀j,j<i->xs.getD j 0≠v)->K (VI i) h):aG aC 257 #[s.v,VI v] h K:=by
 refine alu s v h K ⟨fun n i h'=>h'=h/\0<=i/\i+n=(xs.length:Int)/\∀j:Nat,(j:Int)<i->xs.getD j 0≠v,⟨xs.length,rfl,by omega,by omega,fun j hj=>by omega⟩,?_⟩
 rintro n i _ ⟨rfl,i0,i1,i2⟩ hL
 refine⟨fun e=> ?_,fun e=> ?_⟩
 ·have hi:=H.lt e
  refine⟨H.bM i0 hi,_,H.get i0 hi,fun e=> ?_,fun e=> ?_⟩
  ·simp only[aT]at e
   have:=HS i.toNat (by omega) (by rw[bB (by omega)];exact e.symm) fun j hj=>i2 j (by omega)
   rwa [show((i.toNat:Nat):Int)=i by omega]at this
  ·simp only[aY]at e
   rw[H.succ i0 hi]
   refine⟨n-1,by omega,rfl,by omega,by omega,fun j hj=> ?_⟩
   by_cases Ky:(j:Int)<i
   ·exact i2 j Ky
   ·have:j=i.toNat:=by omega
    subst this
    rw[bB (by omega)]
    exact fun h=>e h.symm
 ·have hi:=H.ge e
  refine HN fun hm=> ?_
  obtain⟨j,hj,e2⟩:=wD hm
  exact i2 j (by omega) (by rw[bB hj];exact e2)
theorem Im{S:aK}{h:Heap}{s:Sl}{xs:aH}(H:bC S h s xs)(v:Int)(K:aL)(HK:K (VB (decide (v∈xs))) h):aG aC 255 #[s.v,VI v] h K:=by
 refine alq s v h K (AH H v _ (fun hn=>⟨_,rfl,.nil,?_⟩) fun i hi e _=>⟨_,rfl,.nil,?_⟩)
 ·rw[gZ hn]at HK
  exact HK
 ·rw[km (by rw[<-e,bB hi];exact bJ _)]at HK
  rw[km (by omega)]
  exact HK
theorem php:∀(N:Nat)(f:Nat->Nat),(∀i,i<=N->f i<N)->∃i j,i<j/\j<=N/\f i=f j
 |0,f,h=>by have:=h 0 (aW _);omega
 |N+1,f,h=>by
  by_cases hx:∃i,i<=N/\f i=f (N+1)
  ·obtain⟨i,h1,h2⟩:=hx
   exact⟨i,N+1,by omega,aW _,h2⟩
  ·have hx:∀i,i<=N->f i≠f (N+1):=fun i h1 h2=>hx ⟨i,h1,h2⟩
   obtain⟨i,j,h1,h2,h3⟩:=php N (fun i=>if f i=N then f (N+1)else f i) fun i hi=>by
    have a:=h i (by omega)
    have b:=h (N+1) (by omega)
    have c:=hx i hi
    (try simp only)
    split<;>omega
   refine⟨i,j,h1,by omega,?_⟩
   have a:=hx i (by omega)
   have b:=hx j h2
   (try simp only at h3)
   split at h3<;>split at h3<;>omega
def nx(g:aE)(rs:aH)(p:Int):Int:=if p<0 then-1 else if(g.getD p.toNat []).length=0 then-1 else(g.getD p.toNat []).getD (rs.getD p.toNat 0).toNat 0
def eA(g:aE)(rs:aH)(p:Int):Nat->Int
 |0=>p
 |k+1=>nx g rs (eA g rs p k)
section
variable {g:aE} {rs:aH} {a:Int}
theorem zp(W:iT g (rs,a)){p:Int}(h0:0<=p)(h1:p<(g.length:Int))(fL:(g[p.toNat]'(by omega)).length≠0):∃(hr:p.toNat<rs.length)(hm:(rs[p.toNat]).toNat<(g[p.toNat]'(by omega)).length),0<=rs[p.toNat]/\nx g rs p=(g[p.toNat]'(by omega))[(rs[p.toNat]).toNat]:=by
 have hl:rs.length=g.length:=W.len
 have hr:p.toNat<rs.length:=by omega
 have h:=W.QH p.toNat hr (by omega)
 have h2:0<=rs[p.toNat]:=h.1
 have h3:rs[p.toNat]<=max (((g[p.toNat]'(by omega)).length:Int)-1) 0:=h.2
 refine⟨hr,by omega,h2,?_⟩
 unfold nx
 rw[aF (by omega),bH (by omega),aF fL,bB hr,bB (by omega)]
theorem Fj{p:Int}(h0:0<=p)(h1:p<(g.length:Int))(fL:(g[p.toNat]'(by omega)).length=0):nx g rs p= -1:=by
 unfold nx
 rw[aF (by omega),bH (by omega),aJ fL]
theorem QT{p:Int}(h:p<0):nx g rs p= -1:=by unfold nx;rw[aJ h]
theorem afj(W:iT g (rs,a)){p:Int}(h1:p<(g.length:Int)): -1<=nx g rs p/\nx g rs p<(g.length:Int):=by
 by_cases h0:p<0
 ·rw[QT h0];omega
 by_cases fL:(g[p.toNat]'(by omega)).length=0
 ·rw[Fj (by omega) h1 fL];omega
 ·obtain⟨hr,hm,h2,e⟩:=zp W (by omega) h1 fL
  rw[e]
  have:=(bL W.cD (bJ (show p.toNat<g.length by omega))).2 _ (bJ hm)
  omega
theorem mY(W:iT g (rs,a)){p:Int}(h0:0<=p)(h1:p<(g.length:Int)):∀k,-1<=eA g rs p k/\eA g rs p k<(g.length:Int)
 |0=>by simp only[eA];omega
 |k+1=>by simp only[eA];exact afj W (mY W h0 h1 k).2
theorem Io{p:Int}{k:Nat}(h:eA g rs p k<0):∀m,eA g rs p (k+m)<0
 |0=>h
 |m+1=>by
  rw[<-kS,eA,QT (Io h m)]
  omega
theorem iA{p:Int}{k m:Nat}(h:eA g rs p k<0)(hm:k<=m):eA g rs p m<0:=by
 have:=Io h (m-k)
 rwa [show k+(m-k)=m by omega]at this
theorem oO{p:Int}{i j:Nat}(h:eA g rs p i=eA g rs p j):∀m,eA g rs p (i+m)=eA g rs p (j+m)
 |0=>h
 |m+1=>by rw[<-kS,<-kS,eA,eA,oO h m]
theorem vl{p:Int}{i d:Nat}(h:eA g rs p i=eA g rs p (i+d))(r:Nat):∀c,eA g rs p (i+r+d*c)=eA g rs p (i+r)
 |0=>rfl
 |c+1=>by
  have:=oO h (r+d*c)
  rw[show i+r+d*(c+1)=i+d+(r+d*c) by rw[Nat.mul_succ];omega,<-this,<-kS]
  exact vl h r c
theorem zq{p:Int}{i d:Nat}(h:eA g rs p i=eA g rs p (i+d))(r:Nat):eA g rs p (i+r)=eA g rs p (i+r%d):=by
 have:=vl h (r%d) (r/d)
 rw[kS,Nat.mod_add_div]at this
 exact this
theorem vm(W:iT g (rs,a)){p:Int}(h0:0<=p)(h1:p<(g.length:Int))(h:0<=eA g rs p g.length):∃i d,1<=d/\i+d<=g.length/\eA g rs p i=eA g rs p (i+d):=by
 have hn:∀k,k<=g.length->0<=eA g rs p k:=fun k hk=>by
  by_cases hx:eA g rs p k<0
  ·have:=iA hx hk;omega
  ·omega
 obtain⟨i,j,e1,e2,e3⟩:=php g.length (fun k=>(eA g rs p k).toNat) fun k hk=>by
  have:=hn k hk
  have:=(mY W h0 h1 k).2
  (try simp only)
  omega
 refine⟨i,j-i,by omega,by omega,?_⟩
 rw[show i+(j-i)=j by omega]
 have:=hn i (by omega)
 have:=hn j e2
 (try simp only at e3)
 omega
theorem AJ(W:iT g (rs,a)){p:Int}(h0:0<=p)(h1:p<(g.length:Int))(h:0<=eA g rs p g.length)(k:Nat):0<=eA g rs p k:=by
 have hn:∀k,k<=g.length->0<=eA g rs p k:=fun k hk=>by
  by_cases hx:eA g rs p k<0
  ·have:=iA hx hk;omega
  ·omega
 obtain⟨i,d,e1,e2,e3⟩:=vm W h0 h1 h
 by_cases hk:k<=g.length
 ·exact hn k hk
 ·have:=zq e3 (k-i)
  rw[show i+(k-i)=k by omega]at this
  rw[this]
  have:=j9 (k-i) (show 0<d by omega)
  exact hn _ (by omega)
theorem Vf{p:Int}{i d n:Nat}(h:eA g rs p i=eA g rs p (i+d))(hd:1<=d)(hi:i<=n)(x:Int):x∈(List.range d).map (fun r=>eA g rs p (i+r))↔∃k,n<=k/\eA g rs p k=x:=by
 simp only[dL,ku]
 constructor
 ·rintro⟨r,hr,rfl⟩
  refine⟨i+r+d*n,?_,vl h r n⟩
  have:1*n<=d*n:=oh _ hd
  omega
 ·rintro⟨k,hk,rfl⟩
  refine⟨(k-i)%d,j9 _ hd,?_⟩
  rw[<-zq h]
  congr 1
  omega
end
structure yt(g:aE)(rs:aH)(p:Int)(i d:Nat):Prop where
 d1:1<=d
 eq:eA g rs p i=eA g rs p (i+d)
 inj:∀a b,a<b->b<i+d->eA g rs p a≠eA g rs p b
theorem oQ{S S':aK}{h:Heap}{g w:Sl}{aI:aE}{rs:aH}{a:Int}(G:cG S h g aI)(H:bC S' h w rs)(W:iT aI (rs,a)){p:Int}(h0:0<=p)(h1:p<(aI.length:Int)):tY aC 230 #[.agg #[g.v],w.v,VI p] h (VI (nx aI rs p)):=by
 intro K HK
 refine ak3 g w p h K ⟨G.bM h0 h1,fun b1 h2 fK f2 cC=> ?_⟩
 have f2:=f2.aM
 have G2:=G.no f2
 have H2:=H.no f2
 obtain⟨si,c1,r1⟩:=G2.get h0 h1
 refine⟨si,c1,fun e=> ?_,fun e=> ?_⟩
 ·simp only[aT]at e
  rw[Fj h0 h1 (by have:=r1.len;omega)]at HK
  exact HK h2 f2
 ·simp only[aY]at e
  obtain⟨hr,hm,e2,e3⟩:=zp W h0 h1 (by have:=r1.len;omega)
  rw[e3]at HK
  exact⟨G2.bM h0 h1,si,c1,H2.bM h0 (by omega),_,H2.get h0 (by omega),r1.bM e2 (by omega),_,r1.get e2 (by omega),HK h2 f2⟩
theorem Zr{S S':aK}{h:Heap}{g w:Sl}{aI:aE}{rs:aH}{a:Int}(G:cG S h g aI)(H:bC S' h w rs)(W:iT aI (rs,a)){p:Int}(h0:0<=p)(h1:p<(aI.length:Int)):tY aC 256 #[.agg #[g.v],w.v,VI p] h (VI (nx aI rs p)):=by
 intro K HK
 refine als g w p h K ⟨G.bM h0 h1,fun b1 h2 fK f2 cC=> ?_⟩
 have f2:=f2.aM
 have G2:=G.no f2
 have H2:=H.no f2
 obtain⟨si,c1,r1⟩:=G2.get h0 h1
 refine⟨si,c1,fun e=> ?_,fun e=> ?_⟩
 ·simp only[aT]at e
  rw[Fj h0 h1 (by have:=r1.len;omega)]at HK
  exact HK h2 f2
 ·simp only[aY]at e
  obtain⟨hr,hm,e2,e3⟩:=zp W h0 h1 (by have:=r1.len;omega)
  rw[e3]at HK
  exact⟨G2.bM h0 h1,si,c1,H2.bM h0 (by omega),_,H2.get h0 (by omega),r1.bM e2 (by omega),_,r1.get e2 (by omega),HK h2 f2⟩
theorem Od{S S':aK}{h:Heap}{g w:Sl}{aI:aE}{rs:aH}{a:Int}(G:cG S h g aI)(H:bC S' h w rs)(W:iT aI (rs,a)){p:Int}(h0:0<=p)(h1:p<(aI.length:Int))(K:aL)
 (HN:eA aI rs p aI.length<0->∀h',Fr No h h'->K (.tuple #[aD.v,VB false]) h')
 (HS:0<=eA aI rs p aI.length->∀t xs h',(∀x,x∈xs↔∃k,aI.length<=k/\eA aI rs p k=x)->bC (fun _=>True) h' t xs->Fr No h h'->K (.tuple #[t.v,VB true]) h'):aG aC 228 #[.agg #[g.v],w.v,VI p] h K:=by
 refine v228 g w p h K fun b1 h2 fK f2 cC=> ?_
 have f2:=f2.aM
 have l1:b1<h2.size:=cC.head.lt
 have z2:=f2.size
 have U8:=bA W.cD
 refine⟨fun n p' i h'=>0<=i/\i+n=(aI.length:Int)/\p'=eA aI rs p i.toNat/\0<=p'/\Fr No h h'/\h2.size<=h'.size,⟨aI.length,by omega,by omega,rfl,h0,f2,aW _⟩,?_⟩
 rintro n p' i h3 ⟨i0,i1,rfl,p0,f3,z3⟩ dI
 have G3:=G.no f3
 have H3:=H.no f3
 refine⟨fun e=> ?_,fun e=> ?_⟩
 ·have hi:=G3.lt e
  refine oQ G3 H3 W p0 (mY W h0 h1 _).2 _ fun h4 f4=>⟨_,rfl,dI.aB f4,fun e2=> ?_,fun e2=> ?_⟩
  ·simp only[aT]at e2
   refine HN ?_ h4 (f3.aA f4)
   exact iA (k:=i.toNat+1) (by rw[eA];exact e2) (by omega)
  ·simp only[aY]at e2
   rw[G3.succ i0 hi]
   exact⟨n-1,by omega,by omega,by omega,by rw[tZ i0,eA],by omega,f3.aA f4,by have:=f4.size;omega⟩
 have hi:=G3.ge e
 have ei:i.toNat=aI.length:=by omega
 rw[ei]at p0
 rw[ei]
 obtain⟨i9,d,d1,d2,d3⟩:=vm W h0 h1 p0
 have hd:eA aI rs p aI.length=eA aI rs p (aI.length+d):=by
  have:=oO d3 (aI.length-i9)
  rw[show i9+(aI.length-i9)=aI.length by omega,show i9+d+(aI.length-i9)=aI.length+d by omega]at this
  exact this
 refine bE gD (fun k=>h3.size<=k) (fun _ h=>h) 1 (by omega) [VI (eA aI rs p aI.length)] rfl rfl fun t h4 n4 c4 o4 f4 m4 _=>⟨t,rfl,dI.aB f4,?_⟩
 have z4:=f4.size
 have jk:=f3.aA f4
 refine oQ (G.no jk) (H.no jk) W p0 (mY W h0 h1 _).2 _ fun h5 f5=>⟨_,rfl,(dI.aB f4).aB f5,?_⟩
 have z5:=f5.size
 have ta:=jk.aA f5
 refine⟨fun n x q h'=>∃m,1<=m/\m<=d/\n=d-m/\q=eA aI rs p (aI.length+m)/\cH h' (fun k=>h3.size<=k) x ((List.range m).map fun r=>eA aI rs p (aI.length+r))/\Fr No h h'/\h3.size<=h'.size,⟨d-1,1,aW _,d1,rfl,rfl,by show Ow _ _ _ _ _ _;simpa using Ow.no o4 f5,ta,by omega⟩,?_⟩
 rintro n x q h6 ⟨m,m1,m2,rfl,rfl,o6,f6,z6⟩ jx
 refine⟨fun e=> ?_,fun e=> ?_⟩
 ·have e:=bU e
  simp only[aY]at e
  have lG:m≠d:=fun h=>e (by rw[h];exact hd.symm)
  refine bE gD (fun k=>h6.size<=k) (fun _ h=>h) 1 (by omega) [VI (eA aI rs p (aI.length+m))] rfl rfl fun u h7 n7 c7 o7 f7 m7 _=>⟨u,rfl,jx.aB f7,?_⟩
  have z7:=f7.size
  have r7:bC u.own h7 u [eA aI rs p (aI.length+m)]:=o7.rd
  have hxn:x.n=m:=by have:=bC.len (Ow.fM o6:bC _ h6 x _);simpa using this
  refine cP gD (Ow.no o6 f7) (fun k hk=>by omega) r7 (fU _) (by have:=r7.len;simp at this;omega) fun y h8 n8 o8 f8 d8=>⟨y,rfl,(jx.aB f7).fr f8 (fun p hp hk=>by
   simp only[aO,aR,aN]at hp
   subst hp
   have:=(o6.aS hk).1
   simp only at this
   omega),?_⟩
  have z8:=f8.size
  have Fh:Fr No h h8:=(f6.aA f7).fresh f8 fun k hk=>by have:=(o6.aS hk).1;omega
  refine oQ (G.no Fh) (H.no Fh) W (AJ W h0 h1 p0 _) (mY W h0 h1 _).2 _ fun h9 f9=>⟨_,rfl,((jx.aB f7).fr f8 (fun p hp hk=>by
   simp only[aO,aR,aN]at hp
   subst hp
   have:=(o6.aS hk).1
   simp only at this
   omega)).aB f9,?_⟩
  have z9:=f9.size
  rw[<-cV]at o8
  refine⟨d-(m+1),by omega,m+1,by omega,by omega,rfl,by rw[<-kS,eA],?_,Fh.aA f9,by omega⟩
  rw[pS,cV,bK,iY]
  exact Ow.no o8 f9
 ·have e:=bQ e
  simp only[aT]at e
  exact HS p0 x _ h6 (Vf e.symm m1 (aW _)) ((Ow.fM o6:bC _ h6 x _).mono fun _ _=>trivial) f6
theorem Fk{S S':aK}{h:Heap}{g w:Sl}{aI:aE}{rs:aH}{a:Int}(G:cG S h g aI)(H:bC S' h w rs)(W:iT aI (rs,a)){p:Int}(h0:0<=p)(h1:p<(aI.length:Int))(K:aL)
 (HN:eA aI rs p aI.length<0->∀h',Fr No h h'->K (.tuple #[aD.v,VB false]) h')
 (HS:0<=eA aI rs p aI.length->∀i d t h',yt aI rs p i d->i+d<=aI.length->bC (fun _=>True) h' t ((List.range d).map fun r=>eA aI rs p (i+r))->Fr No h h'->K (.tuple #[t.v,VB true]) h'):aG aC 204 #[.agg #[g.v],w.v,VI p] h K:=by
 refine aks g w p h K fun b1 h2 fK f2 cC=> ?_
 have f2:=f2.aM
 have l1:b1<h2.size:=cC.head.lt
 have z2:=f2.size
 have U8:=bA W.cD
 refine bE gD (fun k=>h2.size<=k) (fun _ h=>h) 0 (by omega) [] rfl rfl fun t0 h3 n3 c3 o3 f3 m3 _=>⟨t0,rfl,cC.aB f3,?_⟩
 have z3:=f3.size
 refine⟨fun n p' x h'=>∃m,m<=aI.length/\n=aI.length-m/\p'=eA aI rs p m/\(∀k,k<=m->0<=eA aI rs p k)/\cH h' (fun k=>h2.size<=k) x ((List.range m).map fun r=>eA aI rs p r)/\(∀i j,i<j->j<m->eA aI rs p i≠eA aI rs p j)/\Fr No h h'/\h2.size<=h'.size,⟨aI.length,0,by omega,rfl,rfl,fun k hk=>by obtain rfl:k=0:=(by omega);exact h0,by show Ow _ _ _ _ _ _;simpa using o3,fun i j _ h=>by omega,f2.aA f3,z3⟩,?_⟩
 rintro n p' x h4 ⟨m,hm,rfl,rfl,Zs,o4,hd,f4,z4⟩ eM
 have r4:bC (fun k=>h2.size<=k) h4 x _:=o4.fM
 refine Im r4 _ _ ⟨_,rfl,eM,fun e=> ?_,fun e=> ?_⟩
 ·have e:=bU e
  simp only[aY,dL,ku]at e
  have hd2:∀i j,i<j->j<m+1->eA aI rs p i≠eA aI rs p j:=fun i j a b h=>by
   by_cases hj:j<m
   ·exact hd i j a hj h
   ·obtain rfl:j=m:=by omega
    exact e ⟨i,a,h⟩
  have J2:m+1<=aI.length:=by
   by_cases hx:m+1<=aI.length
   ·exact hx
   ·exfalso
    obtain⟨i,j,e1,e2,e3⟩:=php aI.length (fun k=>(eA aI rs p k).toNat) fun k hk=>by
     have:=Zs k (by omega)
     have:=(mY W h0 h1 k).2
     (try simp only)
     omega
    have a1:=Zs i (by omega)
    have a2:=Zs j (by omega)
    (try simp only at e3)
    exact hd2 i j e1 (by omega) (by omega)
  refine bE gD (fun k=>h4.size<=k) (fun _ h=>h) 1 (by omega) [VI (eA aI rs p m)] rfl rfl fun u h5 n5 c5 o5 f5 m5 _=>⟨u,rfl,eM.aB f5,?_⟩
  have z5:=f5.size
  have r5:bC u.own h5 u [eA aI rs p m]:=o5.rd
  have hxn:x.n=m:=by have:=r4.len;simpa using this
  refine cP gD (Ow.no o4 f5) (fun k hk=>by omega) r5 (fU _) (by have:=r5.len;simp at this;omega) fun y h6 n6 o6 f6 d6=> ?_
  have jx:=(eM.aB f5).fr f6 (fun p hp hk=>by
   simp only[aO,aR,aN]at hp
   subst hp
   have:=(o4.aS hk).1
   simp only at this
   omega)
  have z6:=f6.size
  have AB:Fr No h h6:=(f4.aA f5).fresh f6 fun k hk=>by have:=(o4.aS hk).1;omega
  refine⟨y,rfl,jx,Zr (G.no AB) (H.no AB) W (Zs m (aW _)) (mY W h0 h1 _).2 _ fun h7 f7=>⟨_,rfl,jx.aB f7,fun e2=> ?_,fun e2=> ?_⟩⟩
  ·simp only[aT]at e2
   exact HN (iA (k:=m+1) (by rw[eA];exact e2) J2) h7 (AB.aA f7)
  ·simp only[aY]at e2
   have z7:=f7.size
   rw[<-cV]at o6
   refine⟨aI.length-(m+1),by omega,m+1,J2,rfl,by rw[eA],fun k hk=> ?_,?_,hd2,AB.aA f7,by omega⟩
   ·by_cases aQ:k<=m
    ·exact Zs k aQ
    ·obtain rfl:k=m+1:=by omega
     rw[eA];omega
   ·rw[pS,cV,bK,iY]
    exact Ow.no o6 f7
 ·have e:=bQ e
  simp only[aT]at e
  refine AH r4 _ _ (fun hn=>absurd e hn) fun i hi ei hj=>⟨_,rfl,eM,jV gD .i64 (by omega) (by have:=r4.len;omega) ⟨_,rfl,?_⟩⟩
  have wF:i<m:=by simpa using hi
  rw[bB hi]at ei
  simp only[cK,kR]at ei
  have AK:eA aI rs p i=eA aI rs p (i+(m-i)):=by rw[show i+(m-i)=m by omega];exact ei
  have Zt:∀k,0<=eA aI rs p k:=fun k=>by
   by_cases hk:k<=m
   ·exact Zs k hk
   ·have:=zq AK (k-i)
    rw[show i+(k-i)=k by omega]at this
    rw[this]
    have:=j9 (k-i) (show 0<m-i by omega)
    exact Zs _ (by omega)
  have hx:((((List.range m).map fun r=>eA aI rs p r).drop i).take (x.n-i))=(List.range (m-i)).map fun r=>eA aI rs p (i+r):=by
   have hxn:x.n=m:=by have:=r4.len;simpa using this
   apply j8
   ·simp;omega
   ·intro j a b
    simp
  have hc:=bC.cut r4 (l:=i) (m:=x.n) (by have:=r4.len;omega) (by have:=r4.len;omega)
  rw[hx]at hc
  exact HS (Zt _) i (m-i) _ h4 ⟨by omega,AK,fun a b e1 e2=>hd a b e1 (by omega)⟩ (by omega) (hc.mono fun _ _=>trivial) f4
theorem zr{P:Program}{t:TypeId}{K:Value->Prop}(k:IntKind)(a b:Int)(H:K (.int k (bits .and k a b))):pop P (ji .and t (.int k a) (.int k b)) K:=
 .mk' (fun w=>by simp[ji,eqGuard,binOp,intBits_and,bind,Sem.bind,pure,Sem.run]) H
theorem sH{P:Program}{t:TypeId}{K:Value->Prop}(k:IntKind)(a b:Int)(hb:0<=b)(H:K (.int k (a.fdiv (2^(min b.toNat k.bits))))):pop P (ji .shr t (.int k a) (.int k b)) K:=
 .mk' (fun w=>by simp[ji,eqGuard,binOp,Op.shift,show¬b<0 by omega,bind,Sem.bind,pure,Sem.run]) H
theorem jD{P:Program}{src dst:TypeId}{k k':IntKind}(hs:P.underlying src=some (.int k))(hd:P.underlying dst=some (.int k')){h:Heap}{K:Value->Prop}(n:Int)(H:K (.int k' (k'.wrap n))):CI P (convert src dst (.int k n)) h K:=by
 have hk:P.intKind dst=k':=by simp[Program.intKind,hd]
 refine⟨_,fun w hw=>run_convert_int w src dst k n (by simp[hs]) (by rw[hk];exact hd),?_⟩
 rw[hk]
 exact H
theorem QU{s:Sl}(h:s.n<=s.c):s.cut 1 0 s.n s.c=s:=by
 obtain⟨a,n,c⟩:=s
 unfold Sl.cut
 cases a with
 |none=>simp
 |some a=>simp[L7]
theorem Ip{P:Program}{t t2 e ty:TypeId}{bs:Nat}{z:List Value}(T:qw P t=some (e,1,bs,z)){h:Heap}{F S:aK}{s x:Sl}{vs us:List Value}(H:Ow h F e 1 s vs)(X:eC S h 1 x us)(hp:us.all gW=true)(l m:Nat)(hl:l<=s.n)(hm:m=min x.n (s.n-l))
 {K:aL} (HK:∀h',Ow h' F e 1 s (vs.take l++us.take m++vs.drop (l+m))->Fr s.own h h'->K (VI m) h'):lQ P (Builtin.copy_ #[t,t2] ty #[(s.cut 1 l s.n s.c).v,x.v]) h K:=by
 obtain⟨hu,i,zv,hi,tJ,rfl,hz,hzc,XZ,_,hbs,PW,UL⟩:=kQ T
 refine⟨fun w hw=> ?_⟩
 subst hw
 have Zu:(P.info? e).map (·.size)=some 1:=by rw[hi];simp[tJ]
 have TW:=H.len
 have hul:=X.len
 by_cases h0:m=0
 ·subst h0
  have hr:=run_copy_none (P:=P) w t t2 ty e (s.cut 1 l s.n s.c).a x.a (s.cut 1 l s.n s.c).n (s.cut 1 l s.n s.c).c x.n x.c hu Zu (by simp only[Sl.cut];exact hm.symm)
  refine⟨_,w,hr,dV.refl w,HK w.heap ?_ (Fr.refl _ _)⟩
  simpa using H
 ·rcases H.out with⟨rfl,rfl⟩|⟨g,o,ma,ha,hF,hg,h1,h2,h3,h4⟩
  ·simp[aD]at hm;omega
  ·obtain⟨a,hxa,_,_⟩:=X.cell 0 (by omega)
   have hcl:s.c≠l:=by omega
   have hda:(s.cut 1 l s.n s.c).a=some ⟨g,o+l,none⟩:=by simp[Sl.cut,hcl,ha,ua]
   have hr:=run_copy_row (P:=P) w t t2 ty e g (o+l) (s.n-l) (s.c-l) a x.n x.c ma e (us.take m) hu Zu hg (by rw[fI,hm];simp only[Nat.min_def];split<;>split<;>omega) (fun j v hj=>by
    obtain⟨Zv,rfl⟩:=Af.1 hj
    have amn:j<us.length:=by simp at Zv;omega
    obtain⟨a',NT,_,hc⟩:=X.cell j amn
    rw[hxa]at NT
    obtain rfl:a=a':=by simpa using NT
    simp only[List.getElem_take]
    exact hc) (by simp;omega) (fun u hu=>by
    have:=js.1 hp u (ov hu)
    cases u<;>simp[gW]at this<;>rfl)
   have hml:(us.take m).length=m:=by simp;omega
   rw[hml]at hr
   have hv:(s.cut 1 l s.n s.c).v= .slice (some ⟨g,o+l,none⟩) (s.n-l) (s.c-l):=by simp only[Sl.v,hda];rfl
   have hxv:x.v= .slice (some a) x.n x.c:=by simp only[Sl.v,hxa]
   rw[<-hv,<-hxv]at hr
   refine⟨_,_,hr,⟨rfl,rfl,rfl⟩,HK _ ⟨?_,.inr ⟨g,o,_,ha,hF,setRow_heap w g ma _ e _ hg,h1,h2,?_,?_⟩⟩ ⟨by simp[World.setRow],fun k _ hk=>setRow_other w g k _ (fun e=>hk (by simp[Sl.own,ha,e]))⟩⟩
   ·simp;omega
   ·simp;omega
   ·have hol:(ma.toList.take (o+l)).length=o+l:=by simp;omega
    simp only[gL]at h4 TW⊢
    have e1:(ma.toList.take (o+l)++us.take m++ma.toList.drop (o+l+m)).drop o=vs.take l++us.take m++ma.toList.drop (o+l+m):=by
     rw[gX,List.drop_append_of_le_length (by omega),List.drop_take,show o+l-o=l by omega,<-h4,List.take_take,Nat.min_eq_left hl,gX]
    (try simp only[List.toList_toArray])
    rw[e1,List.take_append,cT (by simp;omega)]
    congr 1
    have e2:(vs.take l++us.take m).length=l+m:=by simp;omega
    rw[e2,<-h4,List.drop_take,List.drop_drop,kS]
theorem Oe{P:Program}{t t2 e ty:TypeId}{bs:Nat}{z:List Value}(T:qw P t=some (e,1,bs,z)){h:Heap}{F S:aK}{s x:Sl}{vs us:List Value}(H:Ow h F e 1 s vs)(X:eC S h 1 x us)(hp:us.all gW=true)(m:Nat)(hm:m=min x.n s.n)
 {K:aL} (HK:∀h',Ow h' F e 1 s (us.take m++vs.drop m)->Fr s.own h h'->K (VI m) h'):lQ P (Builtin.copy_ #[t,t2] ty #[s.v,x.v]) h K:=by
 have:=Ip (t2:=t2) (ty:=ty) T H X hp 0 m (by omega) (by simpa using hm) (K:=K) fun h' o f=>HK h' (by simpa using o) f
 rw[QU H.cap.1]at this
 exact this
theorem Of(a n:Int)(ha:a=1)(h0:0<=n)(h1:n<=100):bits .and .u64 a 4294967295=1/\bits .and .u64 n 4294967295=n/\bits .and .u64 0 4294967295=0:=by
 subst ha
 refine⟨by decide,?_,by decide⟩
 have key:∀k:Fin 101,bits .and .u64 (k.val:Int) 4294967295=(k.val:Int):=by decide
 have:=key ⟨n.toNat,by omega⟩
 simp only[show((n.toNat:Nat):Int)=n by omega]at this
 exact this
theorem wG{n:Int}(h0:0<=n)(h1:n<18446744073709551616):IntKind.u64.wrap n=n:=by
 simp only[IntKind.wrap,IntKind.bits,IntKind.signed]
 simp
 omega
theorem mZ{n:Int}(h0:0<=n)(h1:n<4294967296):n.fdiv (2^(min (32:Int).toNat IntKind.u64.bits))=0:=by
 have e:(2:Int)^(min (32:Int).toNat IntKind.u64.bits)=4294967296:=by decide
 rw[e,Int.fdiv_eq_ediv_of_nonneg _ (by omega)]
 omega
theorem Vg(n:Int)(h0:0<=n)(h1:n<=100)(h:Heap)(K:aL)(HK:K (.tuple #[.int .u64 0,.int .u64 n]) h):aG aC 288 #[.int .u64 1,.int .u64 n] h K:=by
 obtain⟨m1,m2,m3⟩:=Of 1 n rfl h0 h1
 refine alZ 1 n h K (zr _ _ _ ⟨1,by rw[m1],sH _ _ _ (by omega) ⟨0,by rw[mZ (by omega) (by omega)],zr _ _ _ ⟨n,by rw[m2],sH _ _ _ (by omega) ⟨0,by rw[mZ (by omega) (by omega)],?_⟩⟩⟩⟩)
 have u0:IntKind.u64.wrap 0=0:=wG (by omega) (by omega)
 have un:IntKind.u64.wrap n=n:=wG h0 (by omega)
 simp only[iZ,na,Int.mul_zero,mD,lR,u0,un]
 refine sH _ _ _ (by omega) ⟨0,by rw[mZ (by omega) (by omega)],?_⟩
 simp only[iZ,na,Int.mul_zero,mD,lR,u0,un]
 refine zr _ _ _ ⟨0,by rw[m3],sH _ _ _ (by omega) ⟨0,by rw[mZ (by omega) (by omega)],?_⟩⟩
 simp only[iZ,na,Int.mul_zero,mD,lR,u0,un]
 refine sH _ _ _ (by omega) ⟨0,by rw[mZ (by omega) (by omega)],?_⟩
 simp only[iZ,na,Int.mul_zero,mD,lR,u0,un]
 exact HK
theorem afl(n:Int)(h0:0<=n)(h1:n<=100)(h:Heap)(K:aL)(HK:K (.tuple #[.int .u64 0,.int .u64 n]) h):aG aC 282 #[.int .u64 1,.int .u64 n] h K:=
 alX 1 n h K (Vg n h0 h1 h _ ⟨_,_,rfl,.nil,HK⟩)
theorem AL{S:aK}{h:Heap}{x:Sl}(v:Int)(X:bC S h x [v])(n:Nat)(h1:1<=n)(h8:n<=100)(K:aL)(HK:∀t h',cH h' (Iv h.size h'.size) t (List.replicate n v)->Fr No h h'->K t.v h'):aG aC 267 #[x.v,VI n] h K:=by
 have hx1:x.n=1:=by have:=X.len;simpa using this
 refine alM x n h K ⟨fun h'=>h'=h,⟨fun e=>by simp only[aT]at e;omega,fun _=>rfl⟩,?_⟩
 rintro _ rfl _
 refine jD (k:= .i64) (k':= .u64) (show Tryz.prog.underlying 3=some (.int .i64)from by kernel_rfl) (show Tryz.prog.underlying 166=some (.int .u64)from by kernel_rfl) _ ⟨1,by rw[hx1];rfl,jD (k:= .i64) (k':= .u64) (show Tryz.prog.underlying 3=some (.int .i64)from by kernel_rfl) (show Tryz.prog.underlying 166=some (.int .u64)from by kernel_rfl) _ ⟨n,by rw[wG (by omega) (by omega)],?_⟩⟩
 refine afl n (by omega) (by omega) _ _ ⟨_,_,rfl,.nil,⟨fun h'=>h'=_,⟨fun e=>by simp at e,fun _=>⟨fun e=>by simp only[aT]at e;omega,fun _=>rfl⟩⟩,?_⟩⟩
 rintro _ rfl _
 refine jD (k:= .u64) (k':= .i64) (show Tryz.prog.underlying 166=some (.int .u64)from by kernel_rfl) (show Tryz.prog.underlying 3=some (.int .i64)from by kernel_rfl) _ ⟨n,by rw[show IntKind.i64.wrap (n:Int)=n from aP n (by omega) (by omega)],?_⟩
 refine fC gD (fun k=>_<=k) (fun _ h=>h) .i64 .i64 n n (aW _) (by omega) fun t YI n1 c1 o1 f1 m1 _=>⟨t,rfl,.nil,?_⟩
 have e1:(List.replicate n [VI 0]).flatten=(List.replicate n (0:Int)).map VI:=by simp[ko]
 rw[e1]at o1
 have r1:=bC.no X f1
 have z1:=f1.size
 refine Oe (P:=aC) gD o1 r1 (fU _) 1 (by omega) fun h2 o2 f2=>⟨1,rfl,.nil,?_⟩
 have e2:([v].map VI).take 1++((List.replicate n (0:Int)).map VI).drop 1=(List.replicate 1 v++List.replicate (n-1) 0).map VI:=by simp
 rw[e2]at o2
 refine⟨fun q m h'=>∃m':Nat,m=m'/\1<=m'/\m'<=n/\q=n-m'/\cH h' (fun k=>_<=k) t (List.replicate m' v++List.replicate (n-m') 0)/\Fr t.own YI h',⟨n-1,1,rfl,aW _,h1,rfl,o2,f2⟩,?_⟩
 rintro q m h3 ⟨m,rfl,q1,q2,rfl,o3,f3⟩ hL
 refine⟨fun e=> ?_,fun e=> ?_⟩
 ·simp only[aT]at e
  have Zw:t.n=n:=n1
  refine jV gD .i64 (by omega) (by omega) ⟨_,rfl,Dw gD .i64 (by omega) (by omega) ⟨_,rfl,?_⟩⟩
  simp only[Int.toNat_natCast]
  have r3:bC t.own h3 t _:=o3.rd
  have rb:=bC.cut r3 (l:=0) (m:=m) (by omega) (by simp;try omega)
  rw[qR,Nat.sub_zero,uW (by simp)]at rb
  refine Ip (P:=aC) gD o3 rb (fU _) m (min m (n-m)) (by omega) (by simp[Sl.cut,Zw]) fun h4 o4 f4=>⟨_,rfl,.nil,?_⟩
  have e4:((List.replicate m v++List.replicate (n-m) 0).map VI).take m++((List.replicate m v).map VI).take (min m (n-m))++((List.replicate m v++List.replicate (n-m) 0).map VI).drop (m+min m (n-m))=(List.replicate (m+min m (n-m)) v++List.replicate (n-(m+min m (n-m))) 0).map VI:=by
   rw[<-List.map_take,<-List.map_take,<-List.map_drop,<-cV,<-cV]
   congr 1
   rw[uW (by simp),List.take_replicate,List.drop_append,kk (by simp),List.nil_append,ja,List.drop_replicate,List.replicate_append_replicate]
   congr 2
   ·omega
   ·omega
  rw[e4]at o4
  rw[aP _ (by omega) (by omega)]
  exact⟨n-(m+min m (n-m)),by omega,m+min m (n-m),by omega,by omega,by omega,rfl,o4,f3.trans f4⟩
 ·simp only[aY]at e
  have Zw:t.n=n:=n1
  obtain rfl:m=n:=by omega
  rw[Nat.sub_self,List.replicate_zero,jb]at o3
  exact HK t h3 (Ow.gN o3) (f1.fresh f3 m1)
def nQ(x:Int):aH->aH×aH->aH×aH
 |[],s=>s
 |q::qs,s=>nQ x qs (if s.1.getD q.toNat 0<0 then(s.1.set q.toNat (s.1.getD x.toNat 0+1),s.2++[q])else s)
def Fl(g:aE):Nat->aH->aH->aH
 |0,eB,_=>eB
 |_+1,eB,[]=>eB
 |f+1,eB,x::rest=>Fl g f (nQ x (g.getD x.toNat []) (eB,[])).1 (rest++(nQ x (g.getD x.toNat []) (eB,[])).2)
def iR(g:aE)(p:Int):aH:=Fl g g.length ((List.replicate g.length (-1)).set p.toNat 0) [p]
def kH(l:aH):Nat:=(l.filter fun x=>decide (x<0)).length
theorem AM{l:aH}{i:Nat}{v:Int}(h:i<l.length)(h1:l[i]<0)(h2:0<=v):kH (l.set i v)+1=kH l:=by
 induction l generalizing i with
 |nil=>simp at h
 |cons x xs ih=>
  cases i with
  |zero=>
   simp only[List.getElem_cons_zero]at h1
   simp only[kH,List.set_cons_zero,List.filter_cons,show¬v<0 by omega,h1,decide_true,decide_false,jJ,vX,gB,List.length_cons]
  |succ i=>
   have:=ih (by simpa using h) (by simpa using h1)
   simp only[kH,List.set_cons_succ,List.filter_cons]at this⊢
   split<;>(try simp only[List.length_cons])<;>simp_all<;>omega
structure Ye(n:Nat)(eB:aH):Prop where
 len:eB.length=n
 lo:∀v,v∈eB-> -1<=v
 hi:∀v,v∈eB->v+kH eB<=n
theorem Ye.step{n:Nat}{eB:aH}(B:Ye n eB){x q:Int}(hx:x.toNat<n)(hq:q.toNat<n)(hn:eB.getD q.toNat 0<0):Ye n (eB.set q.toNat (eB.getD x.toNat 0+1))/\kH (eB.set q.toNat (eB.getD x.toNat 0+1))+1=kH eB:=by
 have hl:=B.len
 rw[bB (by omega)]at hn
 rw[bB (show x.toNat<eB.length by omega)]
 have h1:=B.lo _ (bJ (show x.toNat<eB.length by omega))
 have h2:=B.hi _ (bJ (show x.toNat<eB.length by omega))
 have h3:=AM (show q.toNat<eB.length by omega) hn (v:=eB[x.toNat]'(by omega)+1) (by omega)
 refine⟨⟨by simp[hl],fun v hv=> ?_,fun v hv=> ?_⟩,h3⟩
 ·rcases rm hv with hv|rfl
  ·exact B.lo v hv
  ·omega
 ·rcases rm hv with hv|rfl
  ·have:=B.hi v hv;omega
  ·omega
theorem Og{g:aE}{p:Int}(h:g.getD p.toNat []=[]):iR g p=(List.replicate g.length (-1)).set p.toNat 0:=by
 unfold iR
 cases hg:g.length with
 |zero=>rfl
 |succ n=>
  rw[Fl,h]
  cases n<;>rfl
theorem Zx{n p:Nat}(hp:p<n):Ye n ((List.replicate n (-1)).set p 0)/\kH ((List.replicate n (-1)).set p 0)+1=n:=by
 have h1:kH (List.replicate n (-1))=n:=by
  unfold kH
  rw[List.filter_replicate_of_pos (by decide)]
  simp
 have h2:=AM (l:=List.replicate n (-1)) (i:=p) (v:=0) (by simpa using hp) (by simp) (by omega)
 refine⟨⟨by simp,fun v hv=> ?_,fun v hv=> ?_⟩,by omega⟩
 ·rcases rm hv with hv|rfl
  ·simp only[uj]at hv;omega
  ·omega
 ·rcases rm hv with hv|rfl
  ·simp only[uj]at hv;omega
  ·omega
theorem QV{g:aE}(hg:aZ g=true){x:Nat}(hx:x<g.length){i:Nat}(hi:i<(g[x]).length):0<=(g[x])[i]/\(g[x])[i]<(g.length:Int):=(bL hg (bJ hx)).2 _ (bJ hi)
theorem Mu{S:aK}{h:Heap}{g:Sl}{aI:aE}(G:cG S h g aI)(hg:aZ aI=true){p:Int}(h0:0<=p)(h1:p<(aI.length:Int))(K:aL)(HK:∀t h',cH h' (Iv h.size h'.size) t (iR aI p)->(iR aI p).length=aI.length->Fr No h h'->K t.v h'):aG aC 271 #[.agg #[g.v],VI p] h K:=by
 refine alR g p h K fun b1 h2 fK f2 cC=> ?_
 generalize hR:iR aI p=R at HK
 have f2:=f2.aM
 have l1:b1<h2.size:=cC.head.lt
 have z2:=f2.size
 have U8:=bA hg
 refine fC gD (fun k=>h2.size<=k) (fun _ h=>h) .i64 .i64 g.n g.n (aW _) (by rw[G.len];omega) fun t h3 n3 c3 o3 f3 m3 _=>⟨t,rfl,cC.aB f3,?_⟩
 have o3:cH h3 (Iv h2.size h3.size) t (List.replicate aI.length 0):=by
  have e:(List.replicate g.n [VI 0]).flatten=(List.replicate aI.length (0:Int)).map VI:=by rw[G.len];simp[ko]
  rw[e]at o3;exact Ow.gN o3
 have z3:=f3.size
 have jm:=f2.aA f3
 have Zw:t.n=aI.length:=by rw[n3,G.len]
 have dI:=cC.aB f3
 refine⟨fun n i h'=>0<=i/\i+n=(aI.length:Int)/\cH h' (Iv h2.size h3.size) t (List.replicate i.toNat (-1)++List.replicate n 0)/\Fr (Iv h2.size h3.size) h3 h',⟨aI.length,by omega,by omega,by simpa using o3,Fr.refl _ _⟩,?_⟩
 rintro n i h4 ⟨i0,i1,o4,f4⟩ eM
 refine⟨fun e=> ?_,fun e=> ?_⟩
 ·simp only[aT]at e
  obtain⟨w1,w2,w3⟩:=o4.gH i0 (by omega) (VI (-1))
  have rc:Fr (Iv h2.size h3.size) h4 _:=w3.mono fun _ _ hk=>(o4.aS hk).1
  have ie:=eM.iv rc ⟨.inl l1,trivial⟩
  refine⟨o4.bM i0 (by omega),w1,ie,fun h5 e5 _=> ?_⟩
  subst e5
  rw[aP _ (by omega) (by omega)]
  refine⟨n-1,by omega,by omega,by omega,?_,f4.trans rc⟩
  rw[<-iu]at w2
  have e6:(List.replicate i.toNat (-1:Int)++List.replicate n 0).set i.toNat (-1)=List.replicate (i+1).toNat (-1)++List.replicate (n-1) 0:=by
   rw[List.set_append_right _ _ (by simp),ja,Nat.sub_self,tZ i0,List.replicate_succ',gX]
   obtain⟨m,rfl⟩:∃m,n=m+1:=⟨n-1,by omega⟩
   simp[List.replicate_succ]
  rw[e6]at w2
  exact w2
 simp only[aY]at e
 obtain rfl:n=0:=by omega
 have ei:i.toNat=aI.length:=by omega
 rw[ei,List.replicate_zero,jb]at o4
 obtain⟨w1,w2,w3⟩:=o4.gH h0 (by omega) (VI 0)
 have rc:Fr (Iv h2.size h3.size) h4 _:=w3.mono fun _ _ hk=>(o4.aS hk).1
 have ie:=eM.iv rc ⟨.inl l1,trivial⟩
 refine⟨o4.bM h0 (by omega),w1,ie,fun h5 e5 _=> ?_⟩
 subst e5
 rw[<-iu]at w2
 have ta:Fr No h _:=(jm.aU f4 (by omega)).aU rc (by omega)
 have z4:=f4.size
 have z5:=rc.size
 refine bE gD (fun k=>_<=k) (fun _ h=>h) 1 (by omega) [VI p] rfl rfl fun u h6 n6 c6 o6 f6 m6 _=>⟨u,rfl,ie.aB f6,?_⟩
 have z6:=f6.size
 have AB:=ta.aA f6
 have w6:=Ow.no w2 f6
 obtain⟨B0,N0⟩:=Zx (n:=aI.length) (p:=p.toNat) (by omega)
 refine⟨fun n x k h'=>∃(eB dn pT:aH),0<=k/\k=dn.length/\n=pT.length+kH eB/\dn.length+n=aI.length/\Ye aI.length eB/\(∀y,y∈pT->0<=y/\y<(aI.length:Int))/\cH h' (Iv h2.size h3.size) t eB/\cH h' (fun k=>h3.size<=k) x (dn++pT)/\Fr No h h'/\h3.size<=h'.size/\R=Fl aI n eB pT,
  ⟨aI.length,(List.replicate aI.length (-1)).set p.toNat 0,[],[p],by omega,rfl,by simp only[List.length_cons,List.length_nil];omega,by simp,B0,fun y hy=>by simp at hy;omega,w6,by show Ow _ _ _ _ _ _;simpa using o6.mono (F':=fun k=>h3.size<=k) fun k _ hk=>by omega,AB,by omega,hR.symm⟩,?_⟩
 rintro n x k h7 ⟨eB,dn,pT,k0,rfl,rfl,Zy,B,hp,o7,q7,f7,z7,eq⟩ kL
 have rq:bC (fun k=>h3.size<=k) h7 x (dn++pT):=q7.fM
 refine⟨fun e=> ?_,fun e=> ?_⟩
 ·have hk:=rq.lt e
  rw[cB]at hk
  obtain⟨y,rest,rfl⟩:∃y rest,pT=y::rest:=by
   cases pT with
   |nil=>simp at hk
   |cons y rest=>exact⟨y,rest,rfl⟩
  have hy:=hp y cF
  have vn:y.toNat<aI.length:=by omega
  have hdl:(dn.length:Int)<((dn++y::rest).length:Int):=by simp only[cB,List.length_cons];omega
  have eg:∀hh,(dn++y::rest)[(dn.length:Int).toNat]'hh=y:=by intro hh;simp
  have c0:=rq.get k0 hdl
  rw[eg]at c0
  obtain⟨gi,c1,r1⟩:=G.get hy.1 hy.2
  have QW:(y::rest).length+kH eB=(rest.length+kH eB)+1:=by simp only[List.length_cons];omega
  rw[QW,Fl,bH vn]at eq
  refine⟨rq.bM k0 hdl,_,c0,(G.no f7).bM hy.1 hy.2,gi,dG c1 f7 (fun h=>h),?_⟩
  generalize hF:nQ y (aI[y.toNat]' vn) (eB,[])=Fin at eq
  refine⟨fun m x' j h'=>∃(fq new:aH),0<=j/\j+m=((aI[y.toNat]' vn).length:Int)/\Ye aI.length fq/\new.length+kH fq=kH eB/\(∀y,y∈new->0<=y/\y<(aI.length:Int))/\cH h' (Iv h2.size h3.size) t fq/\cH h' (fun k=>h3.size<=k) x' (dn++y::rest++new)/\Fr No h h'/\h3.size<=h'.size/\Fin=nQ y ((aI[y.toNat]' vn).drop j.toNat) (fq,new),
   ⟨(aI[y.toNat]' vn).length,eB,[],by omega,by omega,B,by simp,fun y hy=>by simp at hy,o7,by simpa using q7,f7,z7,by simpa using hF.symm⟩,?_⟩
  rintro m x' j h8 ⟨fq,new,j0,j1,B',hnw,PP,o8,q8,f8,z8,eF⟩ gK
  have Oh:bC S h8 gi (aI[y.toNat]' vn):=bC.no r1 f8
  have Zz:bC (fun k=>h3.size<=k) h8 x' (dn++y::rest++new):=q8.fM
  have Oj:bC (Iv h2.size h3.size) h8 t fq:=o8.yj
  have Pt:=B'.len
  refine⟨fun e2=> ?_,fun e2=> ?_⟩
  ·have hj:=Oh.lt e2
   rw[drop_cons _ j0 hj,nQ]at eF
   have hq:=QV hg vn (show j.toNat<(aI[y.toNat]' vn).length by omega)
   refine⟨Oh.bM j0 hj,_,Oh.get j0 hj,Oj.bM hq.1 (by omega),_,Oj.get hq.1 (by omega),fun e3=> ?_,fun e3=> ?_⟩
   ·simp only[aT]at e3
    have QX:fq.getD ((aI[y.toNat]' vn)[j.toNat]'(by omega)).toNat 0<0:=by rw[bB (by omega)];exact e3
    obtain⟨B2,N2⟩:=B'.step (x:=y) (by omega) (by omega) QX
    simp only[QX,jJ]at eF
    have hyv:=B'.hi _ (bJ (show y.toNat<fq.length by omega))
    have amp:=B'.lo _ (bJ (show y.toNat<fq.length by omega))
    have QY:(dn.length:Int)<((dn++y::rest++new).length:Int):=by simp only[cB,List.length_cons];omega
    have eg8:∀hh,(dn++y::rest++new)[(dn.length:Int).toNat]'hh=y:=by intro hh;simp
    have c8:=Zz.get k0 QY
    rw[eg8]at c8
    obtain⟨w1,w2,w3⟩:=o8.gH hq.1 (by have:=Oj.len;omega) (VI (fq[y.toNat]'(by omega)+1))
    have rc:Fr (Iv h2.size h3.size) h8 _:=w3.mono fun _ _ hk=>(o8.aS hk).1
    have iG:=gK.iv rc ⟨.inl l1,trivial⟩
    refine⟨Zz.bM k0 QY,_,c8,Oj.bM hy.1 (by omega),_,Oj.get hy.1 (by omega),Oj.bM hq.1 (by omega),?_⟩
    rw[aP _ (by omega) (by omega)]
    refine⟨w1,iG,fun h9 e9 _=> ?_⟩
    subst e9
    rw[<-iu]at w2
    have z9:=rc.size
    have q9:=Ow.fr q8 rc fun k hk aQ=>by have h1:=(q8.aS hk).1;have:=aQ.2;(try simp only at h1);omega
    refine bE gD (fun k=>_<=k) (fun _ h=>h) 1 (by omega) [VI ((aI[y.toNat]' vn)[j.toNat]'(by omega))] rfl rfl fun v eW TR c10 kW f10 m10 _=>⟨v,rfl,iG.aB f10,?_⟩
    have AF:=f10.size
    have r10:bC v.own eW v [(aI[y.toNat]' vn)[j.toNat]'(by omega)]:=kW.rd
    have Pv:=Zz.len
    simp only[cB,List.length_cons]at Pv Zy hk
    refine cP gD (Ow.no q9 f10) (fun k hk=>by omega) r10 (fU _) (by have:=r10.len;simp at this;omega) fun w gP n11 kp f11 d11=>⟨w,rfl,(iG.aB f10).fr f11 (fun p hp hk=>by
     simp only[aO,aR,aN]at hp
     subst hp
     have:=(q8.aS hk).1
     simp only at this
     omega),?_⟩
    have Pu:=f11.size
    rw[<-cV]at kp
    rw[Oh.succ j0 hj]
    refine⟨m-1,by omega,fq.set ((aI[y.toNat]' vn)[j.toNat]'(by omega)).toNat (fq.getD y.toNat 0+1),new++[(aI[y.toNat]' vn)[j.toNat]'(by omega)],by omega,by omega,B2,by simp only[cB,List.length_cons,List.length_nil];omega,fun z hz=> ?_,?_,?_,?_,by omega,eF⟩
    ·rcases gI.1 hz with hz|hz
     ·exact PP z hz
     ·simp only[aO,aR,aN]at hz
      rw[hz];exact hq
    ·rw[bB (show y.toNat<fq.length by omega)]
     exact(Ow.no w2 f10).fr f11 fun k hk aQ=>by have h1:=(q8.aS aQ).1;have:=(o8.aS hk).1.2;(try simp only at h1);omega
    ·rw[<-gX]
     exact kp
    ·exact(((f8.aU rc (by omega)).aA f10).fresh f11 fun k hk=>by have h1:=(q8.aS hk).1;(try simp only at h1);omega)
   ·simp only[aY]at e3
    have QX:¬fq.getD ((aI[y.toNat]' vn)[j.toNat]'(by omega)).toNat 0<0:=by rw[bB (by omega)];exact e3
    simp only[QX,gB]at eF
    rw[Oh.succ j0 hj]
    exact⟨m-1,by omega,fq,new,by omega,by omega,B',hnw,PP,o8,q8,f8,z8,eF⟩
  ·have hj:=Oh.ge e2
   rw[kk (by omega),nQ]at eF
   subst eF
   simp only[List.length_cons]at Zy
   rw[aP _ (by omega) (by omega)]
   refine⟨rest.length+kH eB,by simp only[List.length_cons];omega,fq,dn++[y],rest++new,by omega,by simp,by simp only[cB];omega,by simp only[cB,List.length_cons,List.length_nil];omega,B',fun z hz=> ?_,o8,by simpa using q8,f8,z8,?_⟩
   ·rcases gI.1 hz with hz|hz
    ·exact hp z (cO _ hz)
    ·exact PP z hz
   ·exact eq
 ·have hk:=rq.ge e
  rw[cB]at hk
  obtain rfl:pT=[]:=pG (by omega)
  have e9:R=eB:=by
   rw[eq]
   simp only[List.length_nil,iO]
   cases kH eB<;>rfl
  subst e9
  exact HK t h7 (Ow.P0 o7 (by omega) (by omega)) B.len f7
theorem DT{S:aK}{h:Heap}{g:Sl}{aI:aE}(G:cG S h g aI)(hg:aZ aI=true){p:Int}(h0:0<=p)(h1:p<(aI.length:Int))(K:aL)(HK:∀t h',cH h' (Iv h.size h'.size) t (iR aI p)->(iR aI p).length=aI.length->Fr No h h'->K t.v h'):aG aC 260 #[.agg #[g.v],VI p] h K:=by
 refine aly g p h K fun b1 YI fK f1 cY=> ?_
 generalize hR:iR aI p=R at HK
 have f1:=f1.aM
 have l1:b1<YI.size:=cY.head.lt
 have z1:=f1.size
 have U8:=bA hg
 refine bE gD (fun k=>YI.size<=k) (fun _ h=>h) 1 (by omega) [VI (-1)] rfl rfl fun m1 h2 n2 c2 o2 f2 _ _=>⟨m1,rfl,cY.aB f2,?_⟩
 have r2:bC (fun k=>YI.size<=k) h2 m1 [-1]:=o2.fM
 have z2:=f2.size
 have cC:=cY.aB f2
 rw[G.len]
 refine AL (-1) r2 aI.length (by omega) (by omega) _ fun t h3 o3 f3=>⟨t,rfl,cC.aB f3,?_⟩
 have z3:=f3.size
 have jm:=(f1.aA f2).aA f3
 have dI:=cC.aB f3
 have Zw:t.n=aI.length:=by have:=bC.len (Ow.fM o3:bC _ h3 t _);simpa using this
 obtain⟨w1,w2,w3⟩:=o3.gH h0 (by omega) (VI 0)
 have rc:Fr (Iv h2.size h3.size) h3 _:=w3.mono fun _ _ hk=>(o3.aS hk).1
 have ie:=dI.iv rc ⟨.inl (by omega),trivial⟩
 refine⟨o3.bM h0 (by omega),w1,ie,fun h5 e5 _=> ?_⟩
 subst e5
 rw[<-iu]at w2
 have ta:Fr No h _:=jm.aU rc (by omega)
 have z5:=rc.size
 refine bE gD (fun k=>_<=k) (fun _ h=>h) 1 (by omega) [VI p] rfl rfl fun u h6 n6 c6 o6 f6 m6 _=>⟨u,rfl,ie.aB f6,?_⟩
 have z6:=f6.size
 have AB:=ta.aA f6
 have w6:=Ow.no w2 f6
 obtain⟨B0,N0⟩:=Zx (n:=aI.length) (p:=p.toNat) (by omega)
 refine⟨fun n x h'=>∃(eB pT:aH),n=pT.length+kH eB/\n<=aI.length/\Ye aI.length eB/\(∀y,y∈pT->0<=y/\y<(aI.length:Int))/\cH h' (Iv h2.size h3.size) t eB/\cH h' (fun k=>h3.size<=k) x pT/\Fr No h h'/\h3.size<=h'.size/\R=Fl aI n eB pT,
  ⟨aI.length,(List.replicate aI.length (-1)).set p.toNat 0,[p],by simp only[List.length_cons,List.length_nil];omega,aW _,B0,fun y hy=>by simp at hy;omega,w6,by show Ow _ _ _ _ _ _;simpa using o6.mono (F':=fun k=>h3.size<=k) fun k _ hk=>by omega,AB,by omega,hR.symm⟩,?_⟩
 rintro n x h7 ⟨eB,pT,rfl,Zy,B,hp,o7,q7,f7,z7,eq⟩ kL
 have rq:bC (fun k=>h3.size<=k) h7 x pT:=q7.fM
 have Pv:=rq.len
 refine⟨fun e=> ?_,fun e=> ?_⟩
 ·simp only[aT]at e
  obtain⟨y,rest,rfl⟩:∃y rest,pT=y::rest:=by
   cases pT with
   |nil=>simp at Pv;omega
   |cons y rest=>exact⟨y,rest,rfl⟩
  have hy:=hp y cF
  have vn:y.toNat<aI.length:=by omega
  have hdl:(0:Int)<((y::rest).length:Int):=by simp only[List.length_cons];omega
  have eg:∀hh,(y::rest)[(0:Int).toNat]'hh=y:=by intro hh;simp
  have c0:=rq.get (cA 0) hdl
  rw[eg]at c0
  obtain⟨gi,c1,r1⟩:=G.get hy.1 hy.2
  have QW:(y::rest).length+kH eB=(rest.length+kH eB)+1:=by simp only[List.length_cons];omega
  rw[QW,Fl,bH vn]at eq
  refine⟨rq.bM (cA 0) hdl,_,c0,(G.no f7).bM hy.1 hy.2,gi,dG c1 f7 (fun h=>h),?_⟩
  generalize hF:nQ y (aI[y.toNat]' vn) (eB,[])=Fin at eq
  refine⟨fun m x' j h'=>∃(fq new:aH),0<=j/\j+m=((aI[y.toNat]' vn).length:Int)/\Ye aI.length fq/\new.length+kH fq=kH eB/\(∀y,y∈new->0<=y/\y<(aI.length:Int))/\cH h' (Iv h2.size h3.size) t fq/\cH h' (fun k=>h3.size<=k) x' (y::rest++new)/\Fr No h h'/\h3.size<=h'.size/\Fin=nQ y ((aI[y.toNat]' vn).drop j.toNat) (fq,new),
   ⟨(aI[y.toNat]' vn).length,eB,[],by omega,by omega,B,by simp,fun y hy=>by simp at hy,o7,by simpa using q7,f7,z7,by simpa using hF.symm⟩,?_⟩
  rintro m x' j h8 ⟨fq,new,j0,j1,B',hnw,PP,o8,q8,f8,z8,eF⟩ gK
  have Oh:bC S h8 gi (aI[y.toNat]' vn):=bC.no r1 f8
  have Zz:bC (fun k=>h3.size<=k) h8 x' (y::rest++new):=q8.fM
  have Oj:bC (Iv h2.size h3.size) h8 t fq:=o8.yj
  have Pt:=B'.len
  have amr:=Zz.len
  simp only[cB,List.length_cons]at amr Zy
  refine⟨fun e2=> ?_,fun e2=> ?_⟩
  ·have hj:=Oh.lt e2
   rw[drop_cons _ j0 hj,nQ]at eF
   have hq:=QV hg vn (show j.toNat<(aI[y.toNat]' vn).length by omega)
   refine⟨Oh.bM j0 hj,_,Oh.get j0 hj,Oj.bM hq.1 (by omega),_,Oj.get hq.1 (by omega),fun e3=> ?_,fun e3=> ?_⟩
   ·simp only[aT]at e3
    have QX:fq.getD ((aI[y.toNat]' vn)[j.toNat]'(by omega)).toNat 0<0:=by rw[bB (by omega)];exact e3
    obtain⟨B2,N2⟩:=B'.step (x:=y) (by omega) (by omega) QX
    simp only[QX,jJ]at eF
    have hyv:=B'.hi _ (bJ (show y.toNat<fq.length by omega))
    have amp:=B'.lo _ (bJ (show y.toNat<fq.length by omega))
    have QY:(0:Int)<((y::rest++new).length:Int):=by simp only[cB,List.length_cons];omega
    have eg8:∀hh,(y::rest++new)[(0:Int).toNat]'hh=y:=by intro hh;simp
    have c8:=Zz.get (cA 0) QY
    rw[eg8]at c8
    obtain⟨w1,w2,w3⟩:=o8.gH hq.1 (by have:=Oj.len;omega) (VI (fq[y.toNat]'(by omega)+1))
    have rc:Fr (Iv h2.size h3.size) h8 _:=w3.mono fun _ _ hk=>(o8.aS hk).1
    have iG:=gK.iv rc ⟨.inl (by omega),trivial⟩
    refine⟨Zz.bM (cA 0) QY,_,c8,Oj.bM hy.1 (by omega),_,Oj.get hy.1 (by omega),Oj.bM hq.1 (by omega),?_⟩
    rw[aP _ (by omega) (by omega)]
    refine⟨w1,iG,fun h9 e9 _=> ?_⟩
    subst e9
    rw[<-iu]at w2
    have z9:=rc.size
    have q9:=Ow.fr q8 rc fun k hk aQ=>by have h1:=(q8.aS hk).1;have:=aQ.2;(try simp only at h1);omega
    refine bE gD (fun k=>_<=k) (fun _ h=>h) 1 (by omega) [VI ((aI[y.toNat]' vn)[j.toNat]'(by omega))] rfl rfl fun v eW TR c10 kW f10 m10 _=>⟨v,rfl,iG.aB f10,?_⟩
    have AF:=f10.size
    have r10:bC v.own eW v [(aI[y.toNat]' vn)[j.toNat]'(by omega)]:=kW.rd
    refine cP gD (Ow.no q9 f10) (fun k hk=>by omega) r10 (fU _) (by have:=r10.len;simp at this;omega) fun w gP n11 kp f11 d11=>⟨w,rfl,(iG.aB f10).fr f11 (fun p hp hk=>by
     simp only[aO,aR,aN]at hp
     subst hp
     have:=(q8.aS hk).1
     simp only at this
     omega),?_⟩
    have Pu:=f11.size
    rw[<-cV]at kp
    rw[Oh.succ j0 hj]
    refine⟨m-1,by omega,fq.set ((aI[y.toNat]' vn)[j.toNat]'(by omega)).toNat (fq.getD y.toNat 0+1),new++[(aI[y.toNat]' vn)[j.toNat]'(by omega)],by omega,by omega,B2,by simp only[cB,List.length_cons,List.length_nil];omega,fun z hz=> ?_,?_,?_,?_,by omega,eF⟩
    ·rcases gI.1 hz with hz|hz
     ·exact PP z hz
     ·simp only[aO,aR,aN]at hz
      rw[hz];exact hq
    ·rw[bB (show y.toNat<fq.length by omega)]
     exact(Ow.no w2 f10).fr f11 fun k hk aQ=>by have h1:=(q8.aS aQ).1;have:=(o8.aS hk).1.2;(try simp only at h1);omega
    ·rw[<-gX]
     exact kp
    ·exact(((f8.aU rc (by omega)).aA f10).fresh f11 fun k hk=>by have h1:=(q8.aS hk).1;(try simp only at h1);omega)
   ·simp only[aY]at e3
    have QX:¬fq.getD ((aI[y.toNat]' vn)[j.toNat]'(by omega)).toNat 0<0:=by rw[bB (by omega)];exact e3
    simp only[QX,gB]at eF
    rw[Oh.succ j0 hj]
    exact⟨m-1,by omega,fq,new,by omega,by omega,B',hnw,PP,o8,q8,f8,z8,eF⟩
  ·have hj:=Oh.ge e2
   rw[kk (by omega),nQ]at eF
   subst eF
   refine jV gD .i64 (by omega) (by omega) ⟨_,rfl,?_⟩
   have qc:=q8.cut (l:=1) (m:=x'.n) (by omega) (aW _)
   have ec:(((y::rest++new).map VI).drop (1*1)).take ((x'.n-1)*1)=(rest++new).map VI:=by
    rw[cT (by simp;omega)]
    rfl
   rw[ec]at qc
   refine⟨rest.length+kH eB,by simp only[List.length_cons];omega,fq,rest++new,by simp only[cB];omega,by omega,B',fun z hz=> ?_,o8,qc,f8,z8,?_⟩
   ·rcases gI.1 hz with hz|hz
    ·exact hp z (cO _ hz)
    ·exact PP z hz
   ·exact eq
 ·simp only[aY]at e
  obtain rfl:pT=[]:=pG (by omega)
  have e9:R=eB:=by
   rw[eq]
   simp only[List.length_nil,iO]
   cases kH eB<;>rfl
  subst e9
  exact HK t h7 (Ow.P0 o7 (by omega) (by omega)) B.len f7
def qn(g:aE)(p:Int):Bool:=(List.range g.length).all fun q=> !decide ((iR g q).getD p.toNat 0<0)
theorem Kz{g:aE}{sink:Int}(h0:0<=sink)(h:qn g sink=true){p:Nat}(hp:p<g.length)(hs:(p:Int)≠sink)(h1:sink<(g.length:Int)):(g[p]).length≠0:=by
 intro hz
 have:=js.1 h p (by simpa using hp)
 rw[Og (by rw[show((p:Int)).toNat=p from rfl,bH hp];exact pG hz)]at this
 simp only[gV,aY]at this
 rw[bB (by simp;omega),fR]at this
 rw[aF (by omega)]at this
 simp at this
def ry(g:aE)(sink:Int):Bool:=aZ g&&jq 0 ((g.length:Int)-1) sink&&qn g sink
theorem DU{n:Nat}{f:Nat->Bool}:(List.range n).all f=true↔∀i,i<n->f i=true:=by simp[js]
theorem Ok{S:aK}{h:Heap}{g:Sl}{aI:aE}(G:cG S h g aI)(hg:aZ aI=true){p:Int}(h0:0<=p)(h1:p<(aI.length:Int)):tY aC 237 #[.agg #[g.v],VI p] h (VB (qn aI p)):=by
 intro K HK
 refine ald g p h K fun b1 h2 fK f2 cC=> ?_
 have f2:=f2.aM
 refine⟨fun n i h'=>0<=i/\i+n=(aI.length:Int)/\(∀q:Nat,(q:Int)<i->¬(iR aI q).getD p.toNat 0<0)/\Fr No h h',⟨aI.length,by omega,by omega,fun q hq=>by omega,f2⟩,?_⟩
 rintro n i h3 ⟨i0,i1,i2,f3⟩ dI
 have G3:=G.no f3
 refine⟨fun e=> ?_,fun e=> ?_⟩
 ·have hi:=G3.lt e
  have ei:((i.toNat:Nat):Int)=i:=by omega
  refine Mu G3 hg i0 hi _ fun t h4 o4 hl f4=>⟨t,rfl,dI.aB f4,?_⟩
  have r4:bC _ h4 t _:=Ow.fM o4
  refine⟨r4.bM h0 (by omega),_,r4.get h0 (by omega),fun e2=> ?_,fun e2=> ?_⟩
  ·simp only[aT]at e2
   have:qn aI p=false:=by
    unfold qn
    rw[List.all_eq_false]
    refine⟨i.toNat,by simp;omega,?_⟩
    rw[ei,bB (by omega),km e2]
    simp
   rw[this]at HK
   exact HK h4 (f3.aA f4)
  ·simp only[aY]at e2
   rw[G3.succ i0 hi]
   refine⟨n-1,by omega,by omega,by omega,fun q hq=> ?_,f3.aA f4⟩
   by_cases ju:(q:Int)<i
   ·exact i2 q ju
   ·have:(q:Int)=i:=by omega
    rw[this,bB (by omega)]
    exact e2
 ·have hi:=G3.ge e
  have:qn aI p=true:=by
   unfold qn
   rw[DU]
   intro q hq
   rw[gZ (i2 q (by omega))]
   rfl
  rw[this]at HK
  exact HK h3 f3
theorem Ol{S:aK}{h:Heap}{g:Sl}{aI:aE}(G:cG S h g aI)(hg:aZ aI=true){p:Int}(h0:0<=p)(h1:p<(aI.length:Int)):tY aC 259 #[.agg #[g.v],VI p] h (VB (qn aI p)):=by
 intro K HK
 refine alw g p h K fun b1 h2 fK f2 cC=> ?_
 have f2:=f2.aM
 refine⟨fun n i h'=>0<=i/\i+n=(aI.length:Int)/\(∀q:Nat,(q:Int)<i->¬(iR aI q).getD p.toNat 0<0)/\Fr No h h',⟨aI.length,by omega,by omega,fun q hq=>by omega,f2⟩,?_⟩
 rintro n i h3 ⟨i0,i1,i2,f3⟩ dI
 have G3:=G.no f3
 refine⟨fun e=> ?_,fun e=> ?_⟩
 ·have hi:=G3.lt e
  have ei:((i.toNat:Nat):Int)=i:=by omega
  refine DT G3 hg i0 hi _ fun t h4 o4 hl f4=>⟨t,rfl,dI.aB f4,?_⟩
  have r4:bC _ h4 t _:=Ow.fM o4
  refine⟨r4.bM h0 (by omega),_,r4.get h0 (by omega),fun e2=> ?_,fun e2=> ?_⟩
  ·simp only[aT]at e2
   have:qn aI p=false:=by
    unfold qn
    rw[List.all_eq_false]
    refine⟨i.toNat,by simp;omega,?_⟩
    rw[ei,bB (by omega),km e2]
    simp
   rw[this]at HK
   exact HK h4 (f3.aA f4)
  ·simp only[aY]at e2
   rw[G3.succ i0 hi]
   refine⟨n-1,by omega,by omega,by omega,fun q hq=> ?_,f3.aA f4⟩
   by_cases ju:(q:Int)<i
   ·exact i2 q ju
   ·have:(q:Int)=i:=by omega
    rw[this,bB (by omega)]
    exact e2
 ·have hi:=G3.ge e
  have:qn aI p=true:=by
   unfold qn
   rw[DU]
   intro q hq
   rw[gZ (i2 q (by omega))]
   rfl
  rw[this]at HK
  exact HK h3 f3
theorem QZ{S:aK}{h:Heap}{g:Sl}{aI:aE}(G:cG S h g aI)(sink:Int):tY aC 187 #[.agg #[g.v],VI sink] h (VB (ry aI sink)):=by
 intro K HK
 unfold ry at HK
 refine aka g sink h K fun b1 h2 fK f2 cC=> ?_
 have f2:=f2.aM
 refine dZ (G.no f2) sink _ fun h3 f3=>⟨_,rfl,cC.aB f3,fun e=> ?_,fun e=> ?_⟩
 ·rw[e,fk]at HK
  rw[bD,bT]at e
  exact Ok (G.no (f2.aA f3)) e.1 e.2.1 (by omega) _ fun h4 f4=>⟨_,rfl,(cC.aB f3).aB f4,HK h4 ((f2.aA f3).aA f4)⟩
 ·rw[e,gJ]at HK
  exact HK h3 (f2.aA f3)
theorem Om{S:aK}{h:Heap}{g:Sl}{aI:aE}(G:cG S h g aI)(sink:Int):tY aC 214 #[.agg #[g.v],VI sink] h (VB (ry aI sink)):=by
 intro K HK
 unfold ry at HK
 refine akI g sink h K fun b1 h2 fK f2 cC=> ?_
 have f2:=f2.aM
 refine bE gD (fun k=>h2.size<=k) (fun _ h=>h) 1 (by omega) [VI sink] rfl rfl fun t YS n2 c2 o2 f2' m2 _=>⟨t,rfl,cC.aB f2',?_⟩
 have o2:bC (fun k=>h2.size<=k) YS t [sink]:=o2.fM
 have afo:=cC.aB f2'
 have KA:=f2.aA f2'
 refine vi (G.no KA) o2 _ fun h3 f3=>⟨_,rfl,afo.aB f3,fun e=> ?_,fun e=> ?_⟩
 all_goals simp only[List.all_cons,List.all_nil,sF]at e
 ·rw[e,fk]at HK
  rw[bD,bT]at e
  exact Ol (G.no (KA.aA f3)) e.1 e.2.1 (by omega) _ fun h4 f4=>⟨_,rfl,(afo.aB f3).aB f4,HK h4 ((KA.aA f3).aA f4)⟩
 ·rw[e,gJ]at HK
  exact HK h3 (KA.aA f3)
structure gr(a n:Nat)(h:Heap)(c:Sl)(i:Int):Prop where
 code:∃vs,eC (fun k=>k<a) h 1 c vs/\∀v,v∈vs->∃m:Int,v=Value.int .u8 m/\0<=m/\m<=255
 lo:0<=i
 hi:i<=(n:Int)
theorem gr.fr{a n:Nat}{h h':Heap}{c:Sl}{i:Int}{T:aK}(D:gr a n h c i)(f:Fr T h h')(hT:∀k,k<a->¬T k):gr a n h' c i:=by
 obtain⟨vs,h1,h2⟩:=D.code
 exact⟨⟨vs,h1.fr f hT,h2⟩,D.lo,D.hi⟩
theorem gr.no{a n:Nat}{h h':Heap}{c:Sl}{i:Int}(D:gr a n h c i)(f:Fr No h h'):gr a n h' c i:=D.fr f fun _ _ h=>h
theorem gr.up{a n m:Nat}{h:Heap}{c:Sl}{i:Int}(D:gr a n h c i)(hm:n<=m):gr a m h c i:=⟨D.code,D.lo,by have:=D.hi;omega⟩
theorem Vh(x:Int):0<=IntKind.wrap .u64 x/\IntKind.wrap .u64 x<18446744073709551616:=by
 rw[IntKind.wrap_u64];omega
theorem ZA{x:Int}(h0:0<=x)(h1:x<18446744073709551616):0<=bits .and .u64 x 255/\bits .and .u64 x 255<=255:=by
 have e:=u64_and_nat x.toNat 255 (by omega) (by omega)
 rw[show((x.toNat:Nat):Int)=x by omega]at e
 have:x.toNat&&&255<=255:=Nat.and_le_right
 rw[show((255:Nat):Int)=255 from rfl]at e
 rw[e];omega
theorem gu{h h':Heap}{L:List (Nat×List Value)}(H:Vars h L)(i:Nat){b:Nat}{cs nA:List Value}(hi:qK L i=some (b,cs))(f:Fr (In [b]) h h')(V:bV h' b nA):Vars h' (EJ L i nA):=
 H.set hi (f.mono fun k _ hk=>by simpa[In]using hk) V
theorem Mv{a n b:Nat}{h:Heap}{c:Sl}{i sd:Int}(V:bV h b [c.v,VI i,.int .u64 sd])(hb:a<=b)(D:gr a n h c i)(hn:n<=1000000000000)(K:aL)(HK:∀(x i' oR:Int) h',0<=x->x<=255->bV h' b [c.v,VI i',.int .u64 oR]->gr a (n+1) h' c i'->Fr (In [b]) h h'->K (VI x) h'):aG aC 105 #[VP b 0] h K:=by
 have h0:=D.lo
 have h1:=D.hi
 have lb:=V.lt
 have fin:∀(x i' oR:Int)(h1 h2 h':Heap),0<=x->x<=255->0<=i'->i'<=(n:Int)+1->Fr No h h1->Fr (In [b]) h1 h2->Fr (In [b]) h2 h'->bV h' b [c.v,VI i',.int .u64 oR]->K (VI x) h':=fun x i' oR h1 h2 h' x0 x1 i0 i1 f1 f2 f3 V'=>by
  have f:=(f1.aB.trans f2).trans f3
  obtain⟨vs,d1,d2⟩:=D.code
  exact HK x i' oR h' x0 x1 V' ⟨⟨vs,d1.fr f fun k hk aQ=>by simp[In]at aQ;omega,d2⟩,i0,by omega⟩ f
 refine v105 b c i sd h K (.cons V (by simp) .nil) ⟨fun x h'=>0<=x/\x<=255/\h'=h,⟨fun e=> ?_,fun e=>⟨by omega,by omega,rfl⟩⟩,?_⟩
 ·obtain⟨vs,d1,d2⟩:=D.code
  have hl:=d1.len
  simp only[aT]at e
  have hi:i<(vs.length:Int):=by omega
  obtain⟨m,e1,m0,m1⟩:=d2 _ (bJ (show i.toNat<vs.length by omega))
  refine⟨d1.bM h0 hi,m,by rw[d1.get h0 hi,e1],jD (show Tryz.prog.underlying _=some (.int .u8)from by kernel_rfl) (show Tryz.prog.underlying _=some (.int .i64)from by kernel_rfl) m ⟨m,?_,m0,m1,rfl⟩⟩
  show Value.int .i64 (aX m)=VI m
  rw[aP _ (by omega) (by omega)]
 ·rintro x hh ⟨x0,x1,rfl⟩ hL h2 f2 cC
  rw[aP (i+1) (by omega) (by omega)]
  refine jD (show Tryz.prog.underlying _=some (.int .i64)from by kernel_rfl) (show Tryz.prog.underlying _=some (.int .u64)from by kernel_rfl) x ⟨_,rfl,fun e h3 f3 dI=> ?_,fun e=> ?_⟩
  ·exact fin x _ _ hh h2 h3 x0 x1 (by omega) (by omega) (Fr.refl _ _) f2 f3 dI.head
  ·refine sH .u64 _ 40 (by omega) ⟨_,rfl,zr .u64 _ 255 ⟨_,rfl,fun h3 f3 dI=> ?_⟩⟩
   have hw:=Vh (IntKind.wrap .u64 (IntKind.wrap .u64 (sd*6364136223846793005)+IntKind.wrap .u64 x)+1442695040888963407)
   have hd:0<=(IntKind.wrap .u64 (IntKind.wrap .u64 (IntKind.wrap .u64 (sd*6364136223846793005)+IntKind.wrap .u64 x)+1442695040888963407)).fdiv (2^(min (40:Int).toNat IntKind.u64.bits))/\(IntKind.wrap .u64 (IntKind.wrap .u64 (IntKind.wrap .u64 (sd*6364136223846793005)+IntKind.wrap .u64 x)+1442695040888963407)).fdiv (2^(min (40:Int).toNat IntKind.u64.bits))<18446744073709551616:=by
    rw[show(2:Int)^(min (40:Int).toNat IntKind.u64.bits)=1099511627776 from rfl,Int.fdiv_eq_ediv_of_nonneg _ (by omega)]
    omega
   have ha:=ZA hd.1 hd.2
   refine jD (show Tryz.prog.underlying _=some (.int .u64)from by kernel_rfl) (show Tryz.prog.underlying _=some (.int .i64)from by kernel_rfl) _ ⟨_,rfl,?_⟩
   rw[show IntKind.i64.wrap (bits .and .u64 ((IntKind.wrap .u64 (IntKind.wrap .u64 (IntKind.wrap .u64 (sd*6364136223846793005)+IntKind.wrap .u64 x)+1442695040888963407)).fdiv (2^(min (40:Int).toNat IntKind.u64.bits))) 255)=bits .and .u64 ((IntKind.wrap .u64 (IntKind.wrap .u64 (IntKind.wrap .u64 (sd*6364136223846793005)+IntKind.wrap .u64 x)+1442695040888963407)).fdiv (2^(min (40:Int).toNat IntKind.u64.bits))) 255 from aP _ (by omega) (by omega)]
   exact fin _ _ _ hh h2 h3 ha.1 ha.2 (by omega) (by omega) (Fr.refl _ _) f2 f3 dI.head
theorem gv{a n b:Nat}{h:Heap}{c:Sl}{i sd:Int}(V:bV h b [c.v,VI i,.int .u64 sd])(hb:a<=b)(D:gr a n h c i)(hn:n<=100000000000)(m:Int)(K:aL)(HK:∀(x i' oR:Int) h',0<=x->(1<=m->x<m)->bV h' b [c.v,VI i',.int .u64 oR]->gr a (n+2) h' c i'->Fr (In [b]) h h'->K (VI x) h'):aG aC 72 #[VP b 0,VI m] h K:=by
 refine v72 b c i sd m h K (.cons V (by simp) .nil) ⟨fun e=> ?_,fun e=> ?_⟩
 ·simp only[aT]at e
  exact HK 0 i sd h (by omega) (fun _=>by omega) V (D.up (by omega)) (Fr.refl _ _)
 simp only[aY]at e
 refine Mv V hb D (by omega) _ fun x i1 Pw h1 x0 x1 V1 D1 f1=>⟨c,i1,Pw,x,rfl,.cons V1 (by simp) .nil,fun y d i2 Q0 h2=>0<=y/\d=c/\gr a (n+2) h2 c i2/\Fr (In [b]) h h2,⟨fun e2=> ?_,fun e2=>⟨x0,rfl,D1.up (by omega),f1⟩⟩,?_⟩
 ·refine Mv V1 hb D1 (by omega) _ fun x' i2 Q0 h2 x0' x1' V2 D2 f2=>⟨c,i2,Q0,x',rfl,.cons V2 (by simp) .nil,?_⟩
  rw[aP (x*256) (by omega) (by omega),aP _ (by omega) (by omega)]
  exact⟨by omega,rfl,D2,f1.trans f2⟩
 ·rintro y d i2 Q0 h2 ⟨y0,rfl,D2,f2⟩ cC
  exact⟨by omega,HK _ i2 Q0 h2 (Int.tmod_nonneg _ y0) (fun _=>Int.tmod_lt_of_pos _ (by omega)) cC.head D2 f2⟩
theorem Iq{a n b:Nat}{h:Heap}{c:Sl}{i sd:Int}(V:bV h b [c.v,VI i,.int .u64 sd])(hb:a<=b)(D:gr a n h c i)(hn:n<=100000000000)(m:Int)(K:aL)(HK:∀(x:Bool)(i' oR:Int) h',bV h' b [c.v,VI i',.int .u64 oR]->gr a (n+2) h' c i'->Fr (In [b]) h h'->K (VB x) h'):aG aC 40 #[VP b 0,VI m] h K:=by
 refine v40 b c i sd m h K (.cons V (by simp) .nil) ?_
 exact gv V hb D hn m _ fun x i1 Pw h1 x0 x1 V1 D1 f1=>⟨c,i1,Pw,x,rfl,.cons V1 (by simp) .nil,HK _ i1 Pw h1 V1 D1 f1⟩
theorem zt{a n b:Nat}{h:Heap}{c:Sl}{i sd:Int}(V:bV h b [c.v,VI i,.int .u64 sd])(hb:a<=b)(D:gr a n h c i)(hn:n<=100000000000){S:aK}{s:Sl}{xs:aH}(R:bC S h s xs)(hS:¬S b)(fL:xs≠[])(K:aL)(HK:∀(x i' oR:Int) h',x∈xs->bV h' b [c.v,VI i',.int .u64 oR]->gr a (n+2) h' c i'->Fr (In [b]) h h'->K (VI x) h'):aG aC 100 #[VP b 0,s.v] h K:=by
 refine aid b c i sd s h K (.cons V (by simp) .nil) ?_
 have hl:=R.len
 have hp:=vo.2 fL
 refine gv V hb D hn _ _ fun x i1 Pw h1 x0 x1 V1 D1 f1=>⟨c,i1,Pw,x,rfl,.cons V1 (by simp) .nil,?_⟩
 have R1:=R.fr f1 fun k hk aQ=>by simp[In]at aQ;subst aQ;exact hS hk
 have hx:x<(xs.length:Int):=by have:=x1 (by omega);omega
 exact⟨R1.bM x0 hx,_,R1.get x0 hx,HK _ i1 Pw h1 (bJ _) V1 D1 f1⟩
theorem nR{L:List (Nat×List Value)}{lo:Nat}{h:Heap}{o:Sl}{xs:aH}{x:Int}(O:cH h (fun k=>lo<=k) o xs)(yL:lo<=h.size)(hL:Vars h L)(ks:∀p,p∈L->p.1<lo)(hb:xs.length<=1000000)(R:Sl->Heap->Prop)(HR:∀t h',cH h' (fun k=>lo<=k) t (xs++[x])->Fr (fun k=>lo<=k) h h'->Vars h' L->R t h'):lQ aC (Instr.buildSlice qx 1 #[(0,VI x)]) h fun rv h1=>∃t:Sl,rv=t.v/\Vars h1 L/\lQ aC (cE qx qx qx o.v t.v) h1 fun Fi h2=>∃t2:Sl,Fi=t2.v/\Vars h2 L/\R t2 h2:=by
 refine bE gD (fun k=>h.size<=k) (fun _ h=>h) 1 (by omega) [VI x] rfl rfl fun t h1 n1 c1 o1 f1 m1 _=>⟨t,rfl,hL.aB f1,?_⟩
 have z1:=f1.size
 have O1:cH h1 (fun k=>lo<=k) o xs:=Ow.no O f1
 have on:=O1.rd.len
 have tn:=o1.rd.len
 simp only[bG,gL,List.length_cons,List.length_nil]at on tn
 refine cP gD O1 (fun k hk=>by omega) o1.rd (fU [x]) (by omega) fun s' h2 n2 o2 f2 d2=> ?_
 have g2:Fr (fun k=>lo<=k) h1 h2:=f2.mono fun k _ hk=>(O1.aS hk).1
 have V2:Vars h2 L:=(hL.aB f1).fr g2 fun p hp hk=>by have:=ks p hp;omega
 exact⟨s',rfl,V2,HR s' h2 (by rw[cH,cV];exact o2) (f1.aB.trans g2) V2⟩
theorem jE{L:List (Nat×List Value)}{lo m:Nat}{h:Heap}{s x:Sl}{aI:aE}{ys:aH}(O:gy h (Iv lo m) s aI)(X:cH h (fun k=>m<=k) x ys)(yL:lo<=m)(hm:m<=h.size)(hL:Vars h L)(ks:∀p,p∈L->p.1<lo)(hb:aI.length<=1000000)(R:Sl->Heap->Prop)(HR:∀t h',gy h' (fun k=>lo<=k) t (aI++[ys])->Fr (fun k=>lo<=k) h h'->Vars h' L->R t h'):lQ aC (Instr.buildSlice qy 1 #[(0,x.v)]) h fun rv h1=>∃t:Sl,rv=t.v/\Vars h1 L/\lQ aC (cE qy qy qy s.v t.v) h1 fun Fi h2=>∃t2:Sl,Fi=t2.v/\Vars h2 L/\R t2 h2:=by
 refine bE ug (fun k=>h.size<=k) (fun _ h=>h) 1 (by omega) [x.v] rfl rfl fun t h1 n1 c1 o1 f1 m1 _=>⟨t,rfl,hL.aB f1,?_⟩
 have z1:=f1.size
 refine dJ.snoc ug (dJ.no O f1) (F':=fun k=>lo<=k) (fun k _ hk=>hk.1) (fun k hk=>by omega) ((Ow.no X f1).mono fun k _ hk=>dD yL hk) (fun k hk aQ=>by have:=(X.aS hk).1;have:=aQ.2;omega) o1.rd (by omega) fun y h2 o2 f2=> ?_
 have g2:Fr (fun k=>lo<=k) h1 h2:=f2.mono fun k _ hk=>hk.1
 have V2:Vars h2 L:=(hL.aB f1).fr g2 fun p hp hk=>by have:=ks p hp;omega
 exact⟨y,rfl,V2,HR y h2 o2 (f1.aB.trans g2) V2⟩
def On(n:Int)(both:Bool)(p:Int):aH:=[(p+1).tmod n]++(if both then[(p+n-1).tmod n]else[])
def tL(n:Int)(both:Bool):Nat->aE
 |0=>[]
 |p+1=>tL n both p++[On n both p]
theorem rz(n:Int)(both:Bool):∀p,(tL n both p).length=p
 |0=>rfl
 |p+1=>by rw[tL,cB,rz n both p];rfl
def Vj(n:Nat)(both:Bool):aE:=tL n both n
theorem Oo{h:Heap}(n:Nat)(hn:n<=1000)(both:Bool)(K:aL)(HK:∀t h',gy h' (Iv h.size h'.size) t (Vj n both)->Fr No h h'->K (.agg #[t.v]) h'):aG aC 106 #[VI n,VB both] h K:=by
 refine ail n both h K fun b1 b2 h3 fK eN f3 dI=> ?_
 have f3:=f3.aM
 have z3:=f3.size
 have l2:b2<h3.size:=dI.head.lt
 have l1:b1<h3.size:=dI.tail.head.lt
 refine⟨fun m p x h'=>0<=p/\p+m=(n:Int)/\gy h' (fun k=>h3.size<=k) x (tL n both p.toNat)/\Fr (fun k=>h.size<=k) h h'/\h3.size<=h'.size,⟨n,by omega,by omega,dJ.nil _ _ _ _,f3.aB,aW _⟩,?_⟩
 rintro m p x h4 ⟨p0,p1,o4,f4,z4⟩ eM
 refine⟨fun e=> ?_,fun e=> ?_⟩
 ·simp only[aT]at e
  refine⟨by omega,?_⟩
  rw[aP (p+1) (by omega) (by omega),aP (p+n) (by omega) (by omega),aP (p+n-1) (by omega) (by omega)]
  have o4i:=dJ.gN o4
  refine bE gD (fun k=>h4.size<=k) (fun _ h=>h) 1 (by omega) [VI ((p+1).tmod n)] rfl rfl fun t h5 n5 c5 o5 f5 m5 _=>⟨t,rfl,eM.aB f5,fun y h'=>cH h' (fun k=>h4.size<=k) y (On n both p)/\gy h' (Iv h3.size h4.size) x (tL n both p.toNat)/\Fr (fun k=>h.size<=k) h h'/\h4.size<=h'.size,⟨fun eb=>⟨by omega,?_⟩,fun eb=>⟨?_,dJ.no o4i f5,f4.trans f5.aB,f5.size⟩⟩,?_⟩
  ·refine nR (lo:=h4.size) (xs:=[(p+1).tmod n]) o5 f5.size (eM.aB f5) (fun q hq=>by
    simp only[aO,aR,aN]at hq
    rcases hq with rfl|rfl<;>simp only<;>omega) (by simp) _ fun u h6 o6 f6 V6=>⟨?_,dJ.fr (dJ.no o4i f5) f6 fun k hk aQ jP=>by have:=aQ.2;omega,(f4.trans f5.aB).trans (f6.mono fun k _ hk=>by have:=f4.size;omega),by have:=f5.size;have:=f6.size;omega⟩
   unfold On
   rw[aJ eb];exact o6
  ·unfold On
   rw[aF (by rw[eb];simp)]
   exact o5
  rintro y h8 ⟨o8,q8,f8,z8⟩ gK
  refine jE (lo:=h3.size) (m:=h4.size) q8 o8 z4 z8 gK (fun q hq=>by
   simp only[aO,aR,aN]at hq
   rcases hq with rfl|rfl<;>simp only<;>omega) (by rw[rz];omega) _ fun u eW kW f10 CF gP f11 fJ=> ?_
  refine⟨m-1,by omega,by omega,by omega,?_,(f8.trans (f10.mono fun k _ hk=>by omega)).trans (f11.mono fun k _ hk=>by simp[In]at hk;omega),by have:=f10.size;have:=f11.size;omega⟩
  have ep:(p+1).toNat=p.toNat+1:=by omega
  rw[ep,tL,show((p.toNat:Nat):Int)=p by omega]
  exact dJ.fr kW f11 fun k hk aQ jP=>by simp[In]at jP;omega
 ·simp only[aY]at e
  intro iH f12 kX
  have ep:p.toNat=n:=by omega
  rw[ep]at o4
  have g12:Fr (fun k=>h.size<=k) h4 iH:=f12.mono fun k _ hk=>by simp[In]at hk;omega
  have Ku:gy iH (fun k=>h3.size<=k) x (tL n both n):=dJ.fr o4 f12 fun k hk aQ jP=>by simp[In]at jP;omega
  exact HK x iH (dJ.P0 (dJ.gN Ku) z3 (aW _)) ((f4.trans g12).mono fun k hk aQ=>absurd aQ (by omega))
theorem Vk{L:List (Nat×List Value)}{lo:Nat}{h:Heap}{s:Sl}{aI:aE}{i:Int}(O:gy h (fun k=>lo<=k) s aI)(yL:lo<=h.size)(h0:0<=i)(h1:i<(aI.length:Int))(hL:Vars h L)(ks:∀p,p∈L->p.1<lo)(hb:(aI[i.toNat]'(by omega)).length<=1000000)(x:Int):∃si:Sl,bF h (s.at i 1)=some si.v/\∀R:Heap->Prop,(∀h',gy h' (fun k=>lo<=k) s (aI.set i.toNat (aI[i.toNat]'(by omega)++[x]))->Fr (fun k=>lo<=k) h h'->Vars h' L->R h')->lQ aC (Instr.buildSlice qx 1 #[(0,VI x)]) h fun rv h1=>∃t:Sl,rv=t.v/\Vars h1 L/\bF h1 (s.at i 1)=some si.v/\lQ aC (cE qx qx qx si.v t.v) h1 fun Fi h2=>∃t2:Sl,Fi=t2.v/\Vars h2 L/\fp s i/\eX h2 (s.at i 1)/\Vars (dR h2 (s.at i 1) t2.v) L/\∀h3,h3=dR h2 (s.at i 1) t2.v->Vars h3 L->R h3:=by
 have Oi:=dJ.gN O
 obtain⟨si,c1,c2,_⟩:=Oi.inner h0 h1
 refine⟨si,c1,fun R HR=> ?_⟩
 refine bE gD (fun k=>h.size<=k) (fun _ h=>h) 1 (by omega) [VI x] rfl rfl fun t h9 n9 c9 o9 f9 m9 _=>⟨t,rfl,hL.aB f9,dG c1 f9 (fun h=>h),?_⟩
 have s9:=f9.size
 have O9:=dJ.no Oi f9
 have E8:cH h9 (fun k=>lo<=k) si (aI[i.toNat]'(by omega)):=(Ow.no c2 f9).mono fun k _ hk=>hk.1
 have on:=E8.rd.len
 have tn:=o9.rd.len
 simp only[bG,gL,List.length_cons,List.length_nil]at on tn
 refine cP gD E8 (fun k hk=>by omega) o9.rd (fU [x]) (by omega) fun w eW TR kW f10 d10=> ?_
 have g10:Fr (fun k=>lo<=k) h9 eW:=f10.mono fun k _ hk=>(E8.aS hk).1
 have CF:Vars eW L:=(hL.aB f9).fr g10 fun p hp hk=>by have:=ks p hp;omega
 have Oq:cH eW (fun k=>lo<=k) w (aI[i.toNat]'(by omega)++[x]):=by rw[cH,cV];exact kW
 obtain⟨i11,U7,kp,f11⟩:=O9.Ag h0 h1 (dG c1 f9 fun h=>h) f10 (F':=fun k=>lo<=k) Oq (fun k _ hk=>hk.1) fun k hk=>(d10 k hk).imp id fun aQ jP=>by have:=jP.2;omega
 have g11:Fr (fun k=>lo<=k) eW _:=(O9.NV f11).mono fun k _ hk=>hk.1
 have ZB:=CF.fr g11 fun p hp hk=>by have:=ks p hp;omega
 exact⟨w,rfl,CF,i11,U7,ZB,fun h3 e3 V3=>HR h3 (by rw[e3];exact kp) (by rw[e3];exact(f9.aB.trans g10).trans g11) V3⟩
def GR(N:Int)(q:Nat)(aI:aE):Prop:=∀l,l∈aI->l.length<=q/\∀x,x∈l->0<=x/\x<N
theorem GR.nil(N:Int)(q:Nat):GR N q []:=fun l hl=>by cases hl
theorem GR.snoc{N:Int}{q:Nat}{aI:aE}{l:aH}(H:GR N q aI)(h1:l.length<=q)(h2:∀x,x∈l->0<=x/\x<N):GR N q (aI++[l]):=fun y hy=>by
 rcases gI.1 hy with a|a
 ·exact H y a
 ·simp only[aO,aR,aN]at a;rw[a];exact⟨h1,h2⟩
theorem GR.set{N:Int}{q:Nat}{aI:aE}{l:aH}(H:GR N q aI)(i:Nat)(h1:l.length<=q)(h2:∀x,x∈l->0<=x/\x<N):GR N q (aI.set i l):=fun y hy=>by
 rcases rm hy with a|a
 ·exact H y a
 ·rw[a];exact⟨h1,h2⟩
theorem GR.up{N:Int}{q r:Nat}{aI:aE}(H:GR N q aI)(h:q<=r):GR N r aI:=fun l hl=>⟨dD (H l hl).1 h,(H l hl).2⟩
theorem ZC{n:Nat}(hn:1<=n)(both:Bool):GR n 2 (Vj n both):=by
 have key:∀p,GR n 2 (tL n both p):=by
  intro p
  induction p with
  |zero=>exact GR.nil _ _
  |succ p ih=>
   rw[tL]
   refine ih.snoc ?_ ?_
   ·unfold On;split<;>simp
   ·intro x hx
    unfold On at hx
    rcases gI.1 hx with a|a
    ·simp only[aO,aR,aN]at a
     rw[a];exact⟨Int.tmod_nonneg _ (by omega),Int.tmod_lt_of_pos _ (by omega)⟩
    ·split at a
     ·simp only[aO,aR,aN]at a
      rw[a];exact⟨Int.tmod_nonneg _ (by omega),Int.tmod_lt_of_pos _ (by omega)⟩
     ·cases a
 exact key n
theorem yu{a n b:Nat}{h:Heap}{c:Sl}{i sd:Int}(V:bV h b [c.v,VI i,.int .u64 sd])(hb:a<=b)(D:gr a n h c i)(hn:n<=1000000000){most:Int}(hm1:1<=most)(J2:most<=8)(K:aL)(HK:∀(t:Sl)(aI:aE)(i' oR:Int) h',gy h' (Iv h.size h'.size) t aI->GR aI.length 4 aI->1<=aI.length->(aI.length:Int)<=most->bV h' b [c.v,VI i',.int .u64 oR]->gr a (n+100) h' c i'->Fr (In [b]) h h'->K (.agg #[t.v]) h'):aG aC 75 #[VP b 0,VI most] h K:=by
 have lb:=V.lt
 refine v75 b c i sd most h K (.cons V (by simp) .nil) fun b2 h1 eN f1 cY=> ?_
 have f1:=f1.aM
 have z1:=f1.size
 have l2:b2<h1.size:=cY.head.lt
 have fin:∀(h':Heap),Fr (fun k=>k=b\/h.size<=k) h h'->Fr (In [b]) h h':=fun h' f=>f.mono fun k hk aQ=>by
  rcases aQ with e|e
  ·simp[In,e]
  ·omega
 have bM:∀{x y:Heap},Fr (In [b]) x y->Fr (fun k=>k=b\/h.size<=k) x y:=fun f=>f.mono fun k _ hk=> .inl (by simpa[In]using hk)
 refine gv cY.tail.head hb (D.no f1) (by omega) most _ fun r i2 Q0 h2 r0 r1 V2 D2 f2=>⟨c,i2,Q0,r,rfl,gu cY 1 rfl f2 V2,?_⟩
 have hr:=r1 hm1
 rw[aP (1+r) (by omega) (by omega)]
 have cC:=gu cY 1 rfl f2 V2
 refine Iq V2 hb D2 (by omega) _ _ fun q i3 Ot h3 V3 D3 f3=>⟨c,i3,Ot,q,rfl,gu cC 1 rfl f3 V3,fun eq=> ?_,fun eq=> ?_⟩
 ·have dI:=gu cC 1 rfl f3 V3
  refine Iq V3 hb D3 (by omega) _ _ fun q4 i4 sd4 h4 V4 D4 f4=>⟨c,i4,sd4,q4,rfl,gu dI 1 rfl f4 V4,?_⟩
  have eM:=gu dI 1 rfl f4 V4
  have en:(1+r)=(((1+r).toNat:Nat):Int):=by omega
  rw[en]
  refine Oo (1+r).toNat (by omega) q4 _ fun t h5 o5 f5=>⟨t,rfl,eM.aB f5,fun h6 f6 jx=> ?_⟩
  have z2:=f2.size
  have z3:=f3.size
  have z4:=f4.size
  have z5:=f5.size
  have o6:gy h6 (Iv h4.size h5.size) t (Vj (1+r).toNat q4):=dJ.fr o5 f6 fun k hk aQ jP=>by simp[In]at jP;have:=aQ.1;omega
  have z6:=f6.size
  have hl:(Vj (1+r).toNat q4).length=(1+r).toNat:=rz _ _ _
  refine HK t _ i4 sd4 h6 (dJ.P0 o6 (by omega) z6) ?_ (by omega) (by omega) jx.tail.head ?_ (fin h6 ?_)
  ·rw[hl];exact(ZC (by omega) q4).up (by omega)
  ·exact(((D4.no f5).fr f6 fun k hk aQ=>by simp[In]at aQ;omega)).up (by omega)
  ·exact((((f1.aB.trans (bM f2)).trans (bM f3)).trans (bM f4)).trans f5.aB).trans (f6.mono fun k _ hk=> .inr (by simp[In]at hk;omega))
 ·intro b3 h8 jv f8 gK
  have f8:=f8.aM
  have z2:=f2.size
  have z3:=f3.size
  have z8:=f8.size
  have l3:b3<h8.size:=gK.head.lt
  have Fh:Fr (fun k=>k=b\/h.size<=k) h h8:=((f1.aB.trans (bM f2)).trans (bM f3)).trans f8.aB
  refine⟨fun m p x d i' oR h'=>0<=p/\p+m=1+r/\d=c/\gr a (n+4+10*p.toNat) h' c i'/\(∃rows,gy h' (fun k=>h8.size<=k) x rows/\GR (1+r) 3 rows/\rows.length=p.toNat)/\Fr (fun k=>k=b\/h.size<=k) h h'/\h8.size<=h'.size,⟨(1+r).toNat,by omega,by omega,rfl,(D3.no f8).up (by omega),⟨[],dJ.nil _ _ _ _,GR.nil _ _,rfl⟩,Fh,aW _⟩,?_⟩
  rintro m p x d i9 sd9 h9 ⟨p0,p1,rfl,D9,⟨rows,o9,g9,e9⟩,f9,z9⟩ iG
  have ks:∀(A B C:List Value)(q:Nat×List Value),q∈[(b3,A),(b2,B),(b,C)]->q.1<h8.size:=fun A B C q hq=>by
   simp only[aO,aR,aN]at hq
   rcases hq with rfl|rfl|rfl<;>simp only<;>omega
  refine⟨fun e=> ?_,fun e=> ?_⟩
  ·simp only[aT]at e
   refine gv iG.tail.tail.head hb D9 (by omega) 3 _ fun y i10 ZD eW y0 y1 CF Ou f10=>⟨d,i10,ZD,y,rfl,gu iG 2 rfl f10 CF,?_⟩
   have y1:=y1 (by omega)
   rw[aP (1+y) (by omega) (by omega)]
   have AF:=f10.size
   have kW:=dJ.fr (dJ.gN o9) f10 fun k hk aQ jP=>by simp[In]at jP;have:=aQ.1;omega
   refine⟨fun m l k d' i' oR h'=>m=k.toNat/\0<=k/\d'=d/\gr a (n+6+10*p.toNat+2*(3-k).toNat) h' d i'/\(∃ys,cH h' (fun k=>h9.size<=k) l ys/\(∀x,x∈ys->0<=x/\x<1+r)/\(ys.length:Int)+k<=3)/\gy h' (Iv h8.size h9.size) x rows/\Fr (fun k=>k=b\/h.size<=k) h h'/\h9.size<=h'.size,⟨(1+y).toNat,rfl,by omega,rfl,Ou.up (by omega),⟨[],Ow.nil _ _ _ _,by simp,by simp;omega⟩,kW,f9.trans (bM f10),AF⟩,?_⟩
   rintro m2 l k d' i11 asc gP ⟨rfl,k0,rfl,TX,⟨ys,q11,r11,Yc⟩,kp,f11,Pu⟩ fJ
   refine⟨fun ek=> ?_,fun ek=> ?_⟩
   ·simp only[aT]at ek
    refine gv fJ.tail.tail.head hb TX (by omega) (1+r) _ fun w i12 Q2 iH w0 w1 Mw Vl f12=>⟨d',i12,Q2,w,rfl,gu fJ 2 rfl f12 Mw,?_⟩
    have w1:=w1 (by omega)
    have z12:=f12.size
    have q12:cH iH (fun k=>h9.size<=k) l ys:=Ow.fr q11 f12 fun k hk jP=>by have:=(q11.aS hk).1;simp[In]at jP;omega
    have kX:=gu fJ 2 rfl f12 Mw
    refine nR (lo:=h9.size) q12 (by omega) kX (fun q hq=>by have:=ks _ _ _ q hq;omega) (by omega) _ fun u TY Vm f14 V14=> ?_
    rw[aP (k-1) (by omega) (by omega)]
    have z14:=f14.size
    refine⟨(k-1).toNat,by omega,rfl,by omega,rfl,?_,⟨ys++[w],Vm,?_,by simp;omega⟩,?_,?_,by omega⟩
    ·exact(Vl.fr f14 fun k hk aQ=>by omega).up (by omega)
    ·intro v hv
     rcases gI.1 hv with a|a
     ·exact r11 v a
     ·simp only[aO,aR,aN]at a;omega
    ·refine dJ.fr (dJ.fr kp f12 fun k hk aQ jP=>by simp[In]at jP;have:=aQ.1;omega) f14 fun k hk aQ jP=>by have:=aQ.2;omega
    ·exact(f11.trans (bM f12)).trans (f14.mono fun k _ hk=> .inr (by have:=f9.size;omega))
   ·simp only[aY]at ek
    have ek0:k=0:=by omega
    subst ek0
    refine⟨fun y2 d2 i2' asf h'=>d2=d'/\(∃zs,cH h' (fun k=>h9.size<=k) y2 zs/\(∀x,x∈zs->0<=x/\x<1+r)/\zs.length<=3)/\gy h' (Iv h8.size h9.size) x rows/\gr a (n+14+10*p.toNat) h' d' i2'/\Fr (fun k=>k=b\/h.size<=k) h h'/\h9.size<=h'.size,?_,?_⟩
    ·refine Iq fJ.tail.tail.head hb TX (by omega) 8 _ fun q15 i15 amv Vn V15 D15 f15=>⟨d',i15,amv,q15,rfl,gu fJ 2 rfl f15 V15,fun _=> ?_,fun _=> ?_⟩
     ·exact⟨rfl,⟨[],Ow.nil _ _ _ _,by simp,by simp⟩,dJ.fr kp f15 fun k hk aQ jP=>by simp[In]at jP;have:=aQ.1;omega,D15.up (by omega),f11.trans (bM f15),by have:=f15.size;omega⟩
     ·exact⟨rfl,⟨ys,Ow.fr q11 f15 fun k hk jP=>by have:=(q11.aS hk).1;simp[In]at jP;omega,r11,by omega⟩,dJ.fr kp f15 fun k hk aQ jP=>by simp[In]at jP;have:=aQ.1;omega,D15.up (by omega),f11.trans (bM f15),by have:=f15.size;omega⟩
    rintro y2 d2 i16 Q3 Ov ⟨rfl,⟨zs,q16,r16,e16⟩,Vo,ZE,f16,ZF⟩ nD
    refine jE (lo:=h8.size) (m:=h9.size) Vo q16 z9 ZF nD (fun q hq=>ks _ _ _ q hq) (by omega) _ fun u Yf o18 f18 V18 Fm f19 uk=> ?_
    rw[aP (p+1) (by omega) (by omega)]
    have z18:=f18.size
    have z19:=f19.size
    refine⟨m-1,by omega,by omega,by omega,rfl,?_,⟨rows++[zs],dJ.fr o18 f19 fun k hk aQ jP=>by simp[In]at jP;omega,g9.snoc e16 r16,by simp;omega⟩,?_,by omega⟩
    ·exact((ZE.fr f18 fun k hk aQ=>by omega).fr f19 fun k hk aQ=>by simp[In]at aQ;omega).up (by omega)
    ·exact(f16.trans (f18.mono fun k _ hk=> .inr (by omega))).trans (f19.mono fun k _ hk=> .inr (by simp[In]at hk;omega))
  ·simp only[aY]at e
   have hrl:(rows.length:Int)=1+r:=by omega
   refine Iq iG.tail.tail.head hb D9 (by omega) 2 _ fun q20 i20 ZG Q4 V20 D20 f20=>⟨d,i20,ZG,q20,rfl,gu iG 2 rfl f20 V20,fun _=> ?_,fun _=> ?_⟩
   ·have z20:=f20.size
    have ZH:gy Q4 (fun k=>h8.size<=k) x rows:=dJ.fr o9 f20 fun k hk aQ jP=>by simp[In]at jP;omega
    have Fo:=gu iG 2 rfl f20 V20
    refine⟨fun m2 j h'=>0<=j/\j+m2=1+r/\gr a (n+100) h' d i20/\(∃rs,gy h' (fun k=>h8.size<=k) x rs/\GR (1+r) 4 rs/\(rs.length:Int)=1+r/\∀k(hk:k<rs.length),j<=(k:Int)->rs[k].length<=3)/\Fr (fun k=>k=b\/h.size<=k) h h'/\h8.size<=h'.size,⟨(1+r).toNat,by omega,by omega,D20.up (by omega),⟨rows,ZH,g9.up (by omega),hrl,fun k hk _=>(g9 _ (bJ hk)).1⟩,f9.trans (bM f20),by omega⟩,?_⟩
    rintro m2 j TZ ⟨j0,j1,Yg,⟨rs,Yh,g21,e21,s21⟩,f21,z21⟩ ZI
    have hxn:(x.n:Int)=1+r:=by have:=dJ.len Yh;omega
    refine⟨fun ej=> ?_,fun ej=> ?_⟩
    ·simp only[aT]at ej
     have hj:j<(rs.length:Int):=by omega
     have hsj:=s21 j.toNat (by omega) (by omega)
     obtain⟨si,c1,c2⟩:=Vk Yh z21 j0 hj ZI (fun q hq=>ks _ _ _ q hq) (by omega) ((aX (j+1)).tmod (1+r))
     refine⟨(dJ.rd Yh).bM j0 hj,si,c1,by omega,c2 _ fun UM o24 f24 V24=> ?_⟩
     rw[aP (j+1) (by omega) (by omega)]at o24⊢
     refine⟨m2-1,by omega,by omega,by omega,Yg.fr f24 fun k hk aQ=>by omega,⟨_,o24,g21.set _ (by simp;omega) ?_,by simp;omega,fun k hk aQ=> ?_⟩,f21.trans (f24.mono fun k _ hk=> .inr (by omega)),by have:=f24.size;omega⟩
     ·intro v hv
      rcases gI.1 hv with a|a
      ·exact(g21 _ (bJ _)).2 v a
      ·simp only[aO,aR,aN]at a
       rw[a];exact⟨Int.tmod_nonneg _ (by omega),Int.tmod_lt_of_pos _ (by omega)⟩
     ·rw[fR,aF (by omega)]
      exact s21 k (by simpa using hk) (by omega)
    ·intro CS f25 Il
     have o25:gy CS (fun k=>h8.size<=k) x rs:=dJ.fr Yh f25 fun k hk aQ jP=>by simp[In]at jP;omega
     refine HK x rs i20 ZG CS (dJ.P0 (dJ.gN o25) (by omega) (aW _)) (by rw[e21];exact g21) (by omega) (by omega) Il.tail.tail.head (Yg.fr f25 fun k hk aQ=>by simp[In]at aQ;omega) (fin _ (f21.trans (f25.mono fun k _ hk=> .inr (by simp[In]at hk;omega))))
   ·intro uL f26 td
    have z20:=f20.size
    have o26:gy uL (fun k=>h8.size<=k) x rows:=dJ.fr (dJ.fr o9 f20 fun k hk aQ jP=>by simp[In]at jP;omega) f26 fun k hk aQ jP=>by simp[In]at jP;omega
    refine HK x rows i20 ZG uL (dJ.P0 (dJ.gN o26) (by omega) (aW _)) (by rw[hrl];exact g9.up (by omega)) (by omega) (by omega) td.tail.tail.head ((D20.fr f26 fun k hk aQ=>by simp[In]at aQ;omega).up (by omega)) (fin _ ((f9.trans (bM f20)).trans (f26.mono fun k _ hk=> .inr (by simp[In]at hk;omega))))
theorem Vp{L:List (Nat×List Value)}{F:aK}{m:Nat}{h:Heap}{s x:Sl}{aI:aE}{ys:aH}{i:Int}(O:gy h (fun k=>F k/\k<m) s aI)(X:cH h (fun k=>m<=k) x ys)(hF:∀k,m<=k->F k)(h0:0<=i)(h1:i<(aI.length:Int))(hL:Vars h L)(ks:∀p,p∈L->¬F p.1)(R:Heap->Prop)(HR:∀h',gy h' F s (aI.set i.toNat ys)->Fr F h h'->Vars h' L->R h'):fp s i/\eX h (s.at i 1)/\Vars (dR h (s.at i 1) x.v) L/\∀h3,h3=dR h (s.at i 1) x.v->Vars h3 L->R h3:=by
 obtain⟨si,c1,c2,_⟩:=O.inner h0 h1
 obtain⟨i11,U7,kp,f11⟩:=O.Ag h0 h1 c1 (Fr.refl _ _) (F':=F) (X.mono fun k _ hk=>hF k hk) (fun k _ hk=>hk.1) fun k hk=> .inr fun aQ=>by have:=(X.aS hk).1;have:=aQ.2;omega
 have g11:Fr F h _:=(O.NV f11).mono fun k _ hk=>hk.1
 have ZB:=hL.fr g11 ks
 exact⟨i11,U7,ZB,fun h3 e3 V3=>HR h3 (by rw[e3];exact kp) (by rw[e3];exact g11) V3⟩
theorem KB{a n b:Nat}{h:Heap}{c:Sl}{i sd:Int}(V:bV h b [c.v,VI i,.int .u64 sd])(hb:a<=b)(D:gr a n h c i)(hn:n<=1000000000){S:aK}{g:Sl}{aI:aE}(G:cG S h g aI)(hS:¬S b)(hl:aI.length<=1000)(K:aL)(HK:∀(t:Sl)(rs:aH)(p i' oR:Int) h',cH h' (Iv h.size h'.size) t rs->rs.length=aI.length->bV h' b [c.v,VI i',.int .u64 oR]->gr a (n+2+2*aI.length) h' c i'->Fr (In [b]) h h'->K (.agg #[t.v,VI p]) h'):aG aC 104 #[VP b 0,.agg #[g.v]] h K:=by
 have lb:=V.lt
 refine aii b c i sd g h K (.cons V (by simp) .nil) fun b2 b3 h2 eN jv f2 cC=> ?_
 have f2:=f2.aM
 have z2:=f2.size
 have l3:b3<h2.size:=cC.head.lt
 have l2:b2<h2.size:=cC.tail.head.lt
 have fin:∀(h':Heap),Fr (fun k=>k=b\/h.size<=k) h h'->Fr (In [b]) h h':=fun h' f=>f.mono fun k hk aQ=>by
  rcases aQ with e|e
  ·simp[In,e]
  ·omega
 have bM:∀{x y:Heap},Fr (In [b]) x y->Fr (fun k=>k=b\/h.size<=k) x y:=fun f=>f.mono fun k _ hk=> .inl (by simpa[In]using hk)
 have G0:cG (fun k=>S k/\k<h.size) h g aI:=G.yG
 have gT:∀k,(S k/\k<h.size)->¬(k=b\/h.size<=k):=fun k hk aQ=>by
  rcases aQ with e|e
  ·subst e;exact hS hk.1
  ·omega
 refine gv cC.tail.tail.head hb (D.no f2) (by omega) _ _ fun r i3 Ot h3 r0 r1 V3 D3 f3=>⟨c,i3,Ot,r,rfl,gu cC 2 rfl f3 V3,fun b4 h5 Fb f5 ie=> ?_⟩
 have f5:=f5.aM
 have z3:=f3.size
 have z5:=f5.size
 have l4:b4<h5.size:=ie.head.lt
 have gn:=G.len
 refine⟨fun m p x y d i' oR h'=>0<=p/\p+m=(aI.length:Int)/\y=r/\d=c/\gr a (n+2+2*p.toNat) h' c i'/\(∃rs,cH h' (fun k=>h5.size<=k) x rs/\rs.length=p.toNat)/\Fr (fun k=>k=b\/h.size<=k) h h'/\h5.size<=h'.size,⟨aI.length,by omega,by omega,rfl,rfl,(D3.no f5).up (by omega),⟨[],Ow.nil _ _ _ _,rfl⟩,(f2.aB.trans (bM f3)).trans f5.aB,aW _⟩,?_⟩
 rintro m p x y d i6 DV h6 ⟨p0,p1,rfl,rfl,D6,⟨rs,o6,e6⟩,f6,z6⟩ jx
 have G6:=G0.fr f6 gT
 refine⟨fun e=> ?_,fun e=> ?_⟩
 ·simp only[aT]at e
  obtain⟨si,c1,r6⟩:=G6.get p0 (by omega)
  refine⟨G6.bM p0 (by omega),si,c1,fun w d2 i' oR h'=>d2=d/\gr a (n+2+2*p.toNat+2) h' d i'/\cH h' (fun k=>h5.size<=k) x rs/\Fr (fun k=>k=b\/h.size<=k) h h'/\h5.size<=h'.size,⟨fun _=> ?_,fun _=>⟨rfl,D6.up (by omega),o6,f6,z6⟩⟩,?_⟩
  ·refine gv jx.tail.tail.tail.head hb D6 (by omega) _ _ fun w i7 T7 h7 w0 w1 V7 D7 f7=>⟨d,i7,T7,w,rfl,gu jx 3 rfl f7 V7,rfl,D7,Ow.fr o6 f7 fun k hk jP=>by have:=(o6.aS hk).1;simp[In]at jP;omega,f6.trans (bM f7),by have:=f7.size;omega⟩
  rintro w d2 i8 sd8 h8 ⟨rfl,D8,o8,f8,z8⟩ gK
  refine nR (lo:=h5.size) o8 z8 gK (fun q hq=>by
   simp only[aO,aR,aN]at hq
   rcases hq with rfl|rfl|rfl|rfl<;>simp only<;>omega) (by omega) _ fun u eW kW f10 CF gP f11 fJ=> ?_
  rw[aP (p+1) (by omega) (by omega)]
  have AF:=f10.size
  have Pu:=f11.size
  refine⟨m-1,by omega,by omega,by omega,rfl,rfl,?_,⟨rs++[w],Ow.fr kW f11 fun k hk jP=>by have:=(kW.aS hk).1;simp[In]at jP;omega,by simp;omega⟩,?_,by omega⟩
  ·exact((D8.fr f10 fun k hk aQ=>by omega).fr f11 fun k hk aQ=>by simp[In]at aQ;omega).up (by omega)
  ·exact(f8.trans (f10.mono fun k _ hk=> .inr (by omega))).trans (f11.mono fun k _ hk=> .inr (by simp[In]at hk;omega))
 ·simp only[aY]at e
  intro iH f12 kX
  have Ku:cH iH (fun k=>h5.size<=k) x rs:=Ow.fr o6 f12 fun k hk jP=>by have:=(o6.aS hk).1;simp[In]at jP;omega
  refine HK x rs y i6 DV iH (Ow.P0 (Ow.gN Ku) (by omega) (aW _)) (by omega) kX.tail.tail.tail.head ?_ (fin _ (f6.trans (f12.mono fun k _ hk=> .inr (by simp[In]at hk;omega))))
  exact(D6.fr f12 fun k hk aQ=>by simp[In]at aQ;omega).up (by omega)
theorem gQ{L:List (Nat×List Value)}{F:aK}{h:Heap}{s:Sl}{xs:aH}{i:Int}{v:Int}(O:cH h F s xs)(h0:0<=i)(h1:i<(xs.length:Int))(hL:Vars h L)(ks:∀p,p∈L->¬F p.1)(R:Heap->Prop)(HR:∀h',cH h' F s (xs.set i.toNat v)->Fr F h h'->Vars h' L->R h'):fp s i/\eX h (s.at i 1)/\Vars (dR h (s.at i 1) (VI v)) L/\∀h3,h3=dR h (s.at i 1) (VI v)->Vars h3 L->R h3:=by
 have on:=O.rd.len
 simp only[bG,gL]at on
 obtain⟨w1,w2,w3⟩:=O.gH h0 (by omega) (VI v)
 have g:Fr F h _:=w3.mono fun k _ hk=>(O.aS hk).1
 have V:=hL.fr g ks
 exact⟨O.rd.bM h0 (by simp;omega),w1,V,fun h3 e3 V3=>HR h3 (by rw[e3,cH,iu];exact w2) (by rw[e3];exact g) V3⟩
end Go.Proofs.YtcnfcnoooecchaaGreatDoor
