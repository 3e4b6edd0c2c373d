import Derived.Test.YtcnfcnoooecchaaGreatDoorDeskScriptsU1
import Derived.Test.YtcnfcnoooecchaaGreatDoorM4
import Derived.Laws.BytesArg
import Derived.Lib.AtoiAll
import Derived.Lib.CountLaws
import Derived.Lib.Split
import Derived.Lib.IndexBytes
import Derived.Lib.ItoaMem
import Derived.WideMake
import Derived.MapKept
import Derived.Laws.IdiomCopy
import Derived.Deep.Draws
import Derived.Lib.AtoiTie
import Derived.Lib.ItoaLen
import Derived.Test.YtcnfcnoooecchaaGreatDoorDeskScriptsH
set_option linter.unusedVariables false
set_option linter.unusedSimpArgs false
namespace Go.Proofs.YtcnfcnoooecchaaGreatDoor
open Go Go.Mx
@[reducible] def tI:TypeId:=3
@[reducible] def mW:TypeId:=27
@[reducible] def pU:TypeId:=24
theorem gH:qF aB mW=some (tI,1,8,[VI 0]):=by kernel_rfl
theorem tN:qF aB pU=some (mW,1,24,[aD.v]):=by kernel_rfl
@[reducible] def cM(h:Heap)(F:aK)(s:Sl)(xs:aH):Prop:=Ow h F tI 1 s (xs.map VI)
@[reducible] def ia(h:Heap)(F:aK)(s:Sl)(aI:aE):Prop:=dO h F mW tI s aI
theorem gr(xs:aH):(xs.map VI).all gQ=true:=by simp[j6,gQ]
theorem fV(n lo hi:Int)(h:Heap)(K:aL)(H:K (VB (decide (lo<=n)&&decide (n<=hi))) h):aG aB 52 #[VI n,VI lo,VI hi] h K:=by
 refine v52 n lo hi h K ⟨fun e=> ?_,fun e=> ?_⟩
 ·rw[e,fc]at H;exact H
 ·rw[e,gI]at H;exact H
theorem eM(n lo hi:Int)(h:Heap)(K:aL)(H:K (VB (decide (lo<=n)&&decide (n<=hi))) h):aG aB 119 #[VI n,VI lo,VI hi] h K:=by
 refine aiK n lo hi h K ⟨fun e=> ?_,fun e=> ?_⟩
 ·rw[e,fc]at H;exact H
 ·rw[e,gI]at H;exact H
def jX(lo hi x:Int):Bool:=decide (lo<=x)&&decide (x<=hi)
def aZ(g:aE):Bool:=jX 1 8 g.length&&g.all fun l=> !decide (5<(l.length:Int))&&l.all (jX 0 ((g.length:Int)-1))
theorem bU{b:Bool}(h:(!b)=true):b=false:=by simpa using h
theorem bS{b:Bool}(h:(!b)=false):b=true:=by simpa using h
theorem Ft{S:aK}{h:Heap}{l:Sl}{xs:aH}(H:bE S h l xs)(lo KP:Int)(K:aL)(HK:K (VB (xs.all (jX lo KP))) h):aG aB 120 #[l.v,VI lo,VI KP] h K:=by
 refine aiM l lo KP h K ?_
 refine⟨fun n i h'=>h'=h/\0<=i/\i+n=(xs.length:Int)/\xs.all (jX lo KP)=(xs.drop i.toNat).all (jX lo KP),⟨xs.length,rfl,by omega,by omega,by simp⟩,?_⟩
 rintro n i _ ⟨rfl,h0,h1,h2⟩ hL
 refine⟨fun e=> ?_,fun e=> ?_⟩
 ·have hi:=H.lt e
  refine⟨H.bQ h0 hi,_,H.get h0 hi,?_⟩
  rw[drop_cons xs h0 hi,List.all_cons]at h2
  refine eM _ _ _ _ _ ⟨_,rfl,hL,fun e2=> ?_,fun e2=> ?_⟩
  ·have e3:jX lo KP (xs[i.toNat]'(by omega))=false:=bU e2
   rw[h2,e3]at HK
   exact HK
  ·have e3:jX lo KP (xs[i.toNat]'(by omega))=true:=bS e2
   rw[e3,fc]at h2
   rw[H.succ h0 hi]
   exact⟨n-1,by omega,rfl,by omega,by omega,h2⟩
 ·have hi:=H.ge e
  rw[jK (by omega)]at h2
  rw[h2]at HK
  exact HK
theorem oy{S:aK}{h:Heap}{g:Sl}{aI:aE}(H:dE S h g aI):u4 aB 82 #[.agg #[g.v]] h (VB (aZ aI)):=by
 intro K HK
 refine v82 g h K ?_
 intro b1 h1 fw Zf cU
 have f1:=Zf.aM
 have hlen:=H.len
 refine eM _ _ _ _ _ ⟨_,rfl,cU,fun e=> ?_,fun e=> ?_⟩
 ·have e3:jX 1 8 aI.length=false:=by have:=bU e;rw[hlen]at this;exact this
  have:aZ aI=false:=by unfold aZ;rw[e3];rfl
  rw[<-this];exact HK _ f1
 ·have e3:jX 1 8 aI.length=true:=by have:=bS e;rw[hlen]at this;exact this
  have hw:aX ((g.n:Int)-1)=(aI.length:Int)-1:=by rw[hlen];exact aP _ (by omega) (by have:=oM H.PF;omega)
  have hg:aZ aI=aI.all fun l=> !decide (5<(l.length:Int))&&l.all (jX 0 ((aI.length:Int)-1)):=by unfold aZ;rw[e3];rfl
  rw[hw]
  refine⟨fun n i h'=>Fr No h1 h'/\0<=i/\i+n=(aI.length:Int)/\aZ aI=(aI.drop i.toNat).all (fun l=> !decide (5<(l.length:Int))&&l.all (jX 0 ((aI.length:Int)-1))),⟨aI.length,Fr.refl _ _,by omega,by omega,by simp[hg]⟩,?_⟩
  rintro n i h3 ⟨f3,h0,h2,h4⟩ hL
  have H3:=(H.no f1).no f3
  refine⟨fun e=> ?_,fun e=> ?_⟩
  ·have hi:=H.lt e
   obtain⟨si,hc,Hi⟩:=H3.get h0 hi
   refine⟨H3.bQ h0 hi,si,hc,fun e5=> ?_,fun e5=> ?_⟩
   ·rw[drop_cons aI h0 hi,List.all_cons]at h4
    rw[Hi.len]at e5
    rw[e5]at h4
    have h5:aZ aI=false:=by rw[h4];rfl
    rw[<-h5];exact HK _ (f1.trans f3)
   ·rw[drop_cons aI h0 hi,List.all_cons]at h4
    rw[Hi.len]at e5
    rw[e5]at h4
    refine Ft Hi _ _ _ ⟨_,rfl,hL,fun e6=> ?_,fun e6=> ?_⟩
    ·rw[bU e6]at h4
     have h5:aZ aI=false:=by rw[h4];rfl
     rw[<-h5];exact HK _ (f1.trans f3)
    ·rw[bS e6]at h4
     rw[H.succ h0 hi]
     exact⟨n-1,by omega,f3,by omega,by omega,by rw[h4];rfl⟩
  ·have hi:=H.ge e
   rw[jK (by omega)]at h4
   have h5:aZ aI=true:=by rw[h4];rfl
   rw[<-h5];exact HK _ (f1.trans f3)
theorem Iy{S:aK}{h:Heap}{s:Sl}{xs:aH}(H:bE S h s xs)(f:Value)(p:Int->Bool)(hf:∀(x:Int)(K:aL),K (VB (p x)) h->iW aB f [VI x] h K)(K:aL)(HK:∀r:Int,decide (0<=r)=xs.any p->K (VI r) h):aG aB 91 #[s.v,f] h K:=by
 refine v91 s f h K ⟨fun n i h'=>h'=h/\0<=i/\i+n=(xs.length:Int)/\xs.any p=(xs.drop i.toNat).any p,⟨xs.length,rfl,by omega,by omega,by simp⟩,?_⟩
 rintro n i _ ⟨rfl,i0,i1,i2⟩ hL
 refine⟨fun e=> ?_,fun e=> ?_⟩
 ·have hi:=H.lt e
  rw[drop_cons xs i0 hi,List.any_cons]at i2
  refine⟨H.bQ i0 hi,_,H.get i0 hi,hf _ _ ⟨_,rfl,.nil,fun e=> ?_,fun e=> ?_⟩⟩
  ·rw[e,Bool.true_or]at i2
   exact HK _ (by rw[i2];simpa using i0)
  ·rw[e,Bool.false_or]at i2
   rw[H.succ i0 hi]
   exact⟨n-1,by omega,rfl,by omega,by omega,i2⟩
 ·have hi:=H.ge e
  rw[jK (by omega)]at i2
  exact HK _ (by rw[i2];rfl)
theorem rB{S:aK}{h:Heap}{s:Sl}{xs:aH}(H:bE S h s xs)(f:Value)(p:Int->Bool)(hf:∀(x:Int)(K:aL),K (VB (p x)) h->iW aB f [VI x] h K)(K:aL)(HK:K (VB (xs.any p)) h):aG aB 53 #[s.v,f] h K:=by
 refine v53 s f h K (Iy H f p hf _ fun r hr=>⟨r,rfl,.nil,?_⟩)
 rw[hr];exact HK
theorem KR{h:Heap}{b:Nat}{n:Int}(x:Int){L:List (Nat×List Value)}(hL:Vars h ((b,[VI n])::L))(K:aL)(HK:K (VB (! jX 0 (aX (n-1)) x)) h):iW aB (.func (.func 88) #[] #[VP b 0]) [VI x] h K:=by
 refine v88 x b n h K (.cons hL.head (by simp) .nil) ?_
 refine fV _ _ _ _ _ ⟨_,rfl,.cons hL.head (by simp) .nil,?_⟩
 exact HK
theorem Zg{h:Heap}{b:Nat}{g:Sl}(x:Int){L:List (Nat×List Value)}(hL:Vars h ((b,[g.v])::L))(K:aL)(HK:K (VB (! jX 0 (aX (g.n-1)) x)) h):iW aB (.func (.func 147) #[] #[VP b 0]) [VI x] h K:=by
 refine ajo x b g h K (.cons hL.head (by simp) .nil) ?_
 refine fV _ _ _ _ _ ⟨_,rfl,.cons hL.head (by simp) .nil,?_⟩
 exact HK
theorem Om{aI:aE}(e3:jX 1 8 aI.length=true):aZ aI=aI.all fun l=> !decide (5<(l.length:Int))&&l.all (jX 0 ((aI.length:Int)-1)):=by unfold aZ;rw[e3];rfl
theorem On{aI:aE}(e3:jX 1 8 aI.length=false):aZ aI=false:=by unfold aZ;rw[e3];rfl
theorem Fu{xs:aH}{p:Int->Bool}:xs.any (fun x=> !p x)= !xs.all p:=by
 induction xs with
 |nil=>rfl
 |cons x xs ih=>simp only[List.any_cons,List.all_cons,ih,Bool.not_and]
theorem zI{S:aK}{h:Heap}{g:Sl}{aI:aE}(H:dE S h g aI):aX ((g.n:Int)-1)=(aI.length:Int)-1:=by
 rw[H.len]
 have h1:=oM H.PF
 have h2:=H.len
 exact aP _ (by omega) (by omega)
theorem Ed{S:aK}{h:Heap}{g:Sl}{aI:aE}(H:dE S h g aI):u4 aB 50 #[.agg #[g.v]] h (VB (aZ aI)):=by
 intro K HK
 refine v50 g h K fun b1 b2 h1 fw eY Zf cU=> ?_
 have f1:=Zf.aM
 have hlen:=H.len
 refine fV _ _ _ _ _ ⟨_,rfl,cU,fun e=> ?_,fun e=> ?_⟩
 ·have e3:jX 1 8 aI.length=false:=by have:=bU e;rw[hlen]at this;exact this
  rw[<-On e3];exact HK _ f1
 ·have e3:jX 1 8 aI.length=true:=by have:=bS e;rw[hlen]at this;exact this
  have hg:=Om e3
  refine⟨fun n i x h'=>h'=h1/\x=(g.n:Int)/\0<=i/\i+n=(aI.length:Int)/\aZ aI=(aI.drop i.toNat).all (fun l=> !decide (5<(l.length:Int))&&l.all (jX 0 ((aI.length:Int)-1))),⟨aI.length,rfl,rfl,by omega,by omega,by simp[hg]⟩,?_⟩
  rintro n i x _ ⟨rfl,rfl,h0,h2,h4⟩ hL
  have H3:=H.no f1
  refine⟨fun e=> ?_,fun e=> ?_⟩
  ·have hi:=H.lt e
   obtain⟨si,hc,Hi⟩:=H3.get h0 hi
   rw[drop_cons aI h0 hi,List.all_cons]at h4
   refine⟨H3.bQ h0 hi,si,hc,fun e5=> ?_,fun e5=> ?_⟩
   ·rw[Hi.len]at e5
    rw[e5]at h4
    have h5:aZ aI=false:=by rw[h4];rfl
    rw[<-h5];exact HK _ f1
   ·rw[Hi.len]at e5
    rw[e5]at h4
    refine rB Hi _ _ (fun x K HK=>KR x hL K HK) _ ?_
    refine⟨_,_,rfl,hL,fun e6=> ?_,fun e6=> ?_⟩
    ·rw[Fu,zI H]at e6
     rw[bU e6]at h4
     have h5:aZ aI=false:=by rw[h4];rfl
     rw[<-h5];exact HK _ f1
    ·rw[Fu,zI H]at e6
     rw[bS e6]at h4
     rw[H.succ h0 hi]
     exact⟨n-1,by omega,rfl,rfl,by omega,by omega,by rw[h4];rfl⟩
  ·have hi:=H.ge e
   rw[jK (by omega)]at h4
   have h5:aZ aI=true:=by rw[h4];rfl
   rw[<-h5];exact HK _ f1
theorem vA{S S':aK}{h:Heap}{g s:Sl}{aI:aE}{ps:aH}(H:dE S h g aI)(Hp:bE S' h s ps):u4 aB 107 #[.agg #[g.v],s.v] h (VB (aZ aI&&ps.all (jX 0 ((aI.length:Int)-1)))):=by
 intro K HK
 refine v107 g s h K fun b1 h1 fw f1 cU=> ?_
 have f1:=f1.aM
 refine Ed (H.no f1) _ fun h2 f2=>⟨_,rfl,cU.aC f2,fun e=> ?_,fun e=> ?_⟩
 ·rw[e,fc]at HK
  have cR:=cU.aC f2
  refine rB ((Hp.no f1).no f2) _ _ (fun x K HK=>Zg x cR K HK) _ ?_
  refine⟨_,_,rfl,cR,?_⟩
  rw[Fu,zI H,Bool.not_not]
  exact HK _ (f1.trans f2)
 ·rw[e,gI]at HK
  exact HK _ (f1.trans f2)
theorem dY{S:aK}{h:Heap}{g:Sl}{aI:aE}(H:dE S h g aI)(p:Int):u4 aB 121 #[.agg #[g.v],VI p] h (VB (aZ aI&&jX 0 ((aI.length:Int)-1) p)):=by
 intro K HK
 refine aiO g p h K fun b1 h1 fw f1 cU=> ?_
 have f1:=f1.aM
 refine oy (H.no f1) _ fun h2 f2=>⟨_,rfl,cU.aC f2,fun e=> ?_,fun e=> ?_⟩
 ·rw[e,fc]at HK
  refine eM _ _ _ _ _ ⟨_,rfl,cU.aC f2,?_⟩
  rw[zI H]
  exact HK _ (f1.trans f2)
 ·rw[e,gI]at HK
  exact HK _ (f1.trans f2)
theorem Dg(a b:Int)(h:Heap)(K:aL)(HK:K (VI (max a b)) h):aG aB 122 #[VI a,VI b] h K:=by
 refine ae2 a b h K ⟨fun e=> ?_,fun e=> ?_⟩
 ·simp only[aT]at e
  rw[Int.max_eq_left (by omega)]at HK
  exact HK
 ·simp only[aW]at e
  rw[Int.max_eq_right (by omega)]at HK
  exact HK
def Dh(l:aH)(r:Int):Bool:=jX 0 (max ((l.length:Int)-1) 0) r
def fS(g:aE)(rs:aH)(p:Int):Bool:=aZ g&&jX 0 ((g.length:Int)-1) p&&decide (rs.length=g.length)&&(g.zip rs).all fun q=>Dh q.1 q.2
theorem Ee{g:aE}{rs:aH}{p:Int}(e:(aZ g&&jX 0 ((g.length:Int)-1) p)=false):fS g rs p=false:=by unfold fS;rw[e];rfl
theorem Ef{g:aE}{rs:aH}{p:Int}(e:¬rs.length=g.length):fS g rs p=false:=by unfold fS;rw[gU e];simp
theorem Iz{g:aE}{rs:aH}{p:Int}(e:(aZ g&&jX 0 ((g.length:Int)-1) p)=true)(e2:rs.length=g.length):fS g rs p=(g.zip rs).all fun q=>Dh q.1 q.2:=by unfold fS;rw[e,kk e2];rfl
theorem IA(g:aE)(rs:aH){i:Int}(h0:0<=i)(h1:i<(g.length:Int))(h2:i<(rs.length:Int)):(g.zip rs).drop i.toNat=(g[i.toNat]'(by omega),rs[i.toNat]'(by omega))::(g.zip rs).drop (i+1).toNat:=by
 have:=drop_cons (g.zip rs) h0 (by simp;omega)
 simpa using this
theorem IB{S:aK}{h:Heap}{g:Sl}{xs:aH}(H:bE S h g xs):aX ((g.n:Int)-1)=(xs.length:Int)-1:=by
 rw[H.len]
 have h1:=oM (dK.PF H)
 have h2:=H.len
 exact aP _ (by omega) (by omega)
theorem rC{S S':aK}{h:Heap}{g s:Sl}{aI:aE}{rs:aH}(G:dE S h g aI)(H:bE S' h s rs)(p:Int):u4 aB 77 #[.agg #[g.v],.agg #[s.v,VI p]] h (VB (fS aI rs p)):=by
 intro K HK
 refine v77 g s p h K fun b1 b2 h1 fw eY f1 cU=> ?_
 have f1:=f1.aM
 refine bC gH (fun k=>h1.size<=k) (fun _ h=>h) 1 (by omega) [VI p] rfl rfl fun t h2 n2 c2 o2 f2 l2 _=>⟨t,rfl,cU.aC f2,?_⟩
 have o2:bE (fun k=>h1.size<=k) h2 t [p]:=o2.fW
 refine vA ((G.no f1).no f2) o2 _ fun h3 f3=>⟨_,rfl,(cU.aC f2).aC f3,fun e=> ?_,fun e=> ?_⟩
 all_goals simp only[List.all_cons,List.all_nil,sV]at e
 ·rw[<-Ee (rs:=rs) (bU e)];exact HK _ ((f1.aA f2).aA f3)
 ·have f13:=(f1.aA f2).aA f3
  rw[G.len,H.len]
  refine⟨fun e2=> ?_,fun e2=> ?_⟩
  ·have e3:=bU e2
   simp only[aW]at e3
   rw[<-Ef (g:=aI) (rs:=rs) (p:=p) (by omega)];exact HK _ f13
  ·have e3:=bS e2
   simp only[aT]at e3
   have e4:=Iz (bS e) (rs:=rs) (by omega)
   have G3:=G.no f13
   have H3:=H.no f13
   refine⟨fun n i h'=>h'=h3/\0<=i/\i+n=(aI.length:Int)/\fS aI rs p=((aI.zip rs).drop i.toNat).all fun q=>Dh q.1 q.2,⟨aI.length,rfl,by omega,by omega,by simpa using e4⟩,?_⟩
   rintro n i _ ⟨rfl,i0,i1,i2⟩ hL
   refine⟨fun e5=> ?_,fun e5=> ?_⟩
   ·have hi:i<(rs.length:Int):=by simpa using e5
    have jH:i<(aI.length:Int):=by omega
    obtain⟨si,c1,c2⟩:=G3.get i0 jH
    rw[IA aI rs i0 jH hi,List.all_cons]at i2
    refine⟨H3.bQ i0 hi,_,H3.get i0 hi,G3.bQ i0 jH,si,c1,?_⟩
    rw[IB c2]
    refine Fa _ _ _ _ ⟨_,rfl,fV _ _ _ _ _ ⟨_,rfl,hL,fun e6=> ?_,fun e6=> ?_⟩⟩
    ·have e7:Dh (aI[i.toNat]'(by omega)) (rs[i.toNat]'(by omega))=false:=bU e6
     simp only at i2
     rw[e7]at i2
     have e8:fS aI rs p=false:=by rw[i2];rfl
     rw[<-e8];exact HK _ f13
    ·have e7:Dh (aI[i.toNat]'(by omega)) (rs[i.toNat]'(by omega))=true:=bS e6
     simp only at i2
     rw[e7,fc]at i2
     rw[H.succ i0 hi]
     exact⟨n-1,by omega,rfl,by omega,by omega,i2⟩
   ·have hi:¬i<(rs.length:Int):=by simpa using e5
    rw[jK (by simp;omega)]at i2
    have e8:fS aI rs p=true:=by rw[i2];rfl
    rw[<-e8];exact HK _ f13
theorem gJ{S S':aK}{h:Heap}{g s:Sl}{aI:aE}{rs:aH}(G:dE S h g aI)(H:bE S' h s rs)(p:Int):u4 aB 83 #[.agg #[g.v],.agg #[s.v,VI p]] h (VB (fS aI rs p)):=by
 intro K HK
 refine v83 g s p h K fun b1 b2 h1 fw eY f1 cU=> ?_
 have f1:=f1.aM
 refine dY (G.no f1) p _ fun h3 f3=>⟨_,rfl,cU.aC f3,fun e=> ?_,fun e=> ?_⟩
 ·rw[<-Ee (rs:=rs) (bU e)];exact HK _ (f1.aA f3)
 ·have f13:=f1.aA f3
  rw[G.len,H.len]
  refine⟨fun e2=> ?_,fun e2=> ?_⟩
  ·have e3:=bU e2
   simp only[aW]at e3
   rw[<-Ef (g:=aI) (rs:=rs) (p:=p) (by omega)];exact HK _ f13
  ·have e3:=bS e2
   simp only[aT]at e3
   have e4:=Iz (bS e) (rs:=rs) (by omega)
   have G3:=G.no f13
   have H3:=H.no f13
   refine⟨fun n i h'=>h'=h3/\0<=i/\i+n=(aI.length:Int)/\fS aI rs p=((aI.zip rs).drop i.toNat).all fun q=>Dh q.1 q.2,⟨aI.length,rfl,by omega,by omega,by simpa using e4⟩,?_⟩
   rintro n i _ ⟨rfl,i0,i1,i2⟩ hL
   refine⟨fun e5=> ?_,fun e5=> ?_⟩
   ·have jH:i<(aI.length:Int):=by simpa using e5
    have hi:i<(rs.length:Int):=by omega
    obtain⟨si,c1,c2⟩:=G3.get i0 jH
    rw[IA aI rs i0 jH hi,List.all_cons]at i2
    refine⟨G3.bQ i0 jH,si,c1,H3.bQ i0 hi,_,H3.get i0 hi,?_⟩
    rw[IB c2]
    refine Dg _ _ _ _ ⟨_,rfl,hL,H3.get i0 hi,?_⟩
    rw[Int.max_comm]
    refine eM _ _ _ _ _ ⟨_,rfl,hL,fun e6=> ?_,fun e6=> ?_⟩
    ·have e7:Dh (aI[i.toNat]'(by omega)) (rs[i.toNat]'(by omega))=false:=bU e6
     simp only at i2
     rw[e7]at i2
     have e8:fS aI rs p=false:=by rw[i2];rfl
     rw[<-e8];exact HK _ f13
    ·have e7:Dh (aI[i.toNat]'(by omega)) (rs[i.toNat]'(by omega))=true:=bS e6
     simp only at i2
     rw[e7,fc]at i2
     rw[G.succ i0 jH]
     exact⟨n-1,by omega,rfl,by omega,by omega,i2⟩
   ·have hi:¬i<(aI.length:Int):=by simpa using e5
    rw[jK (by simp;omega)]at i2
    have e8:fS aI rs p=true:=by rw[i2];rfl
    rw[<-e8];exact HK _ f13
theorem QN{S S':aK}{h:Heap}{g s:Sl}{aI:aE}{rs:aH}(G:dE S h g aI)(H:bE S' h s rs)(p:Int):u4 aB 42 #[.agg #[g.v,s.v,VI p]] h (VB (fS aI rs p)):=by
 intro K HK
 refine v42 g s p h K fun b1 h1 fw f1 cU=> ?_
 have f1:=f1.aM
 exact rC (G.no f1) (H.no f1) p _ fun h2 f2=>⟨_,rfl,cU.aC f2,HK _ (f1.aA f2)⟩
def wV(aI:aE):Nat:=(aI.map List.length).sum
def pV:aE:=[[1,2],[0,2],[0]]
def QO(h h':Heap)(v:Value):Prop:=∃(g w:Sl)(m:Nat),v= .agg #[g.v,w.v,VI 0]/\ia h' (fun k=>h.size<=k/\k<m) g pV/\cM h' (fun k=>h.size<=k/\m<=k) w [0,0,0]/\Fr No h h'
theorem KS{h:Heap}{F:aK}{e:TypeId}{sz:Nat}{s:Sl}{vs:List Value}(H:Ow h F e sz s vs){n:Nat}(hn:h.size<=n):∀k,s.own k->k<n:=fun k hk=>fp (H.aR hk).2 hn
theorem Eg{h1:Heap}{K:aL}(HK:∀(g:Sl)(h':Heap),ia h' (fun k=>h1.size<=k) g pV->Fr No h1 h'->K g.v h'):
 j5 aB (Instr.buildSlice mW 2 #[(0,VI 1),(1,VI 2)]) h1 fun Zh h_2=>∃ae6:Sl,Zh=ae6.v/\Fr No h1 h_2/\
 j5 aB (Instr.buildSlice mW 2 #[(0,VI 0),(1,VI 2)]) h_2 fun Zi TW=>∃ae7:Sl,Zi=ae7.v/\Fr No h_2 TW/\
 j5 aB (Instr.buildSlice mW 1 #[(0,VI 0)]) TW fun Zj qG=>∃ae8:Sl,Zj=ae8.v/\Fr No TW qG/\
 j5 aB (Instr.buildSlice pU 3 #[(0,ae6.v),(1,ae7.v),(2,ae8.v)]) qG K:=by
 refine bC gH (fun k=>h1.size<=k) (fun _ h=>h) 2 (by omega) [VI 1,VI 2] rfl rfl fun t1 h2 n1 c1 o1 f1 l1 _=>⟨t1,rfl,f1,?_⟩
 refine bC gH (fun k=>h1.size<=k) (fun _ h=>cB f1.size h) 2 (by omega) [VI 0,VI 2] rfl rfl fun t2 h3 n2 c2 o2 f2 l2 _=>⟨t2,rfl,f2,?_⟩
 have f13:=f1.aA f2
 refine bC gH (fun k=>h1.size<=k) (fun _ h=>cB f13.size h) 1 (by omega) [VI 0] rfl rfl fun t3 h4 n3 c3 o3 f3 l3 _=>⟨t3,rfl,f3,?_⟩
 have f14:=f13.aA f3
 refine bC tN (fun k=>h1.size<=k) (fun _ h=>cB f14.size h) 3 (by omega) [t1.v,t2.v,t3.v] rfl rfl fun t4 h5 n4 c4 o4 f4 l4 _=> ?_
 have g1:=KS o1 (aY _)
 have g2:=KS o2 (aY _)
 have g3:=KS o3 (aY _)
 have s3:=f2.size
 have s4:=f3.size
 refine HK t4 h5 (dO.of [t1,t2,t3] rfl o4 ?_ ?_ ?_) (f14.trans f4)
 ·intro p hp
  simp only[pV,List.zip_cons_cons,List.zip_nil_right,aO,aS,aN]at hp
  rcases hp with rfl|rfl|rfl
  ·exact((o1.no f2).no f3).no f4
  ·exact(o2.no f3).no f4
  ·exact o3.no f4
 ·simp only[List.pairwise_cons,aO,aS,aN,forall_eq_or_imp,forall_eq,List.Pairwise.nil,and_true]
  refine⟨⟨fun k a b=> ?_,fun k a b=> ?_⟩,fun k a b=> ?_,by simp⟩
  ·have:=g1 k a;have:=l2 k b;omega
  ·have:=g1 k a;have:=l3 k b;omega
  ·have:=g2 k a;have:=l3 k b;omega
 ·intro a ha k hk aQ
  have:=l4 k hk
  simp only[aO,aS,aN]at ha
  rcases ha with rfl|rfl|rfl
  ·have:=g1 k aQ;omega
  ·have:=g2 k aQ;omega
  ·have:=g3 k aQ;omega
theorem zf(h:Heap)(K:aL)(HK:∀v h',QO h h' v->K v h'):aG aB 102 #[] h K:=by
 refine aio h K fun b1 h1 fw f1 cU=> ?_
 have f1:=f1.aM
 refine(Eg (K:=fun v h'=>∃g:Sl,v=g.v/\ia h' (fun k=>h1.size<=k) g pV/\Fr No h1 h') fun g h' a b=>⟨g,rfl,a,b⟩).mono ?_
 rintro _ h2 ⟨t1,rfl,f2,H⟩
 refine⟨t1,rfl,cU.aC f2,H.mono ?_⟩
 rintro _ h3 ⟨t2,rfl,f3,H⟩
 refine⟨t2,rfl,(cU.aC f2).aC f3,H.mono ?_⟩
 rintro _ h4 ⟨t3,rfl,f4,H⟩
 refine⟨t3,rfl,((cU.aC f2).aC f3).aC f4,H.mono ?_⟩
 rintro _ h5 ⟨t4,rfl,o5,f5⟩
 have iU:=cU.aC f5
 refine⟨t4,rfl,iU,?_⟩
 refine bC gH (fun k=>h5.size<=k) (fun _ h=>h) 3 (by omega) [VI 0,VI 0,VI 0] rfl rfl fun t6 h6 n6 c6 o6 f6 l6 _=>⟨t6,rfl,iU.aC f6,fun h7 f7 jQ=> ?_⟩
 have hb:b1<h1.size:=cU.head.lt
 have s5:=f5.size
 have s1:=f1.size
 have f67:Fr (In [b1]) h5 h7:=f6.aC.trans f7
 refine HK _ _ ⟨t4,t6,h5.size,rfl,?_,?_,?_⟩
 ·refine(dO.mono (F':=fun k=>h1.size<=k/\k<h5.size) o5 fun k hk hF=>⟨hF,hk⟩:ia h5 _ t4 pV).fr f67 (fun k _ hk aQ=> ?_)|>.mono fun k _ hk=>⟨by omega,hk.2⟩
  simp[In]at aQ
  omega
 ·refine(Ow.fr o6 f7 fun k hk aQ=> ?_).mono fun k _ hk=>⟨by omega,hk⟩
  have:=l6 k hk
  simp[In]at aQ
  omega
 ·have f17:Fr (In [b1]) h1 h7:=f5.aC.trans f67
  refine⟨cB s1 f17.size,fun k hk _=>(f17.same k (by omega) fun aQ=> ?_).trans (f1.same k hk fun h=>h)⟩
  simp[In]at aQ
  omega
theorem IC{F:aK}{h:Heap}{g:Sl}{aI:aE}(H:ia h F g aI)(hn:aI.length<=1000000000000)(K:aL)(HK:∀w h',ia h' (fun k=>F k/\k<h.size) g aI->cM h' (fun k=>h.size<=k) w (List.replicate aI.length 0)->Fr No h h'->K (.agg #[g.v,w.v,VI 0]) h'):aG aB 69 #[.agg #[g.v]] h K:=by
 refine v69 g h K fun b1 b2 h1 fw eY f1 cU=> ?_
 have f1:=f1.aM
 have s1:=f1.size
 refine fO gH (fun k=>h1.size<=k) (fun _ h=>h) .i64 .i64 g.n g.n (aY _) (by rw[H.len];exact hn) fun t7 h3 n3 c3 o3 f3 l3 _=>⟨t7,rfl,cU.aC f3,fun h4 f4 fi=> ?_⟩
 have hb:b2<h1.size:=cU.head.lt
 have f13:=f1.aA f3
 refine HK _ _ ((((H.mono fun k hk hF=>⟨hF,hk⟩:ia h (fun k=>F k/\k<h.size) g aI).no f13).fr f4 fun k _ hk aQ=> ?_)) ?_ ?_
 ·simp[In]at aQ
  omega
 ·have e:(List.replicate g.n [VI 0]).flatten=(List.replicate aI.length (0:Int)).map VI:=by rw[H.len];simp[kT]
  rw[e]at o3
  refine(Ow.fr o3 f4 fun k hk aQ=> ?_).mono fun k _ hk=>by omega
  have:=l3 k hk
  simp[In]at aQ
  omega
 ·have f14:Fr (In [b2]) h h4:=f13.aC.trans f4
  refine⟨f14.size,fun k hk _=>f14.same k hk fun aQ=> ?_⟩
  simp[In]at aQ
  omega
theorem qw(h:Heap)(K:aL)(HK:∀v h',QO h h' v->K v h'):aG aB 30 #[] h K:=by
 refine v30 h K fun b1 h1 fw f1 cU=> ?_
 have f1:=f1.aM
 refine(Eg (K:=fun v h'=>∃g:Sl,v=g.v/\ia h' (fun k=>h1.size<=k) g pV/\Fr No h1 h') fun g h' a b=>⟨g,rfl,a,b⟩).mono ?_
 rintro _ h2 ⟨t1,rfl,f2,H⟩
 refine⟨t1,rfl,cU.aC f2,H.mono ?_⟩
 rintro _ h3 ⟨t2,rfl,f3,H⟩
 refine⟨t2,rfl,(cU.aC f2).aC f3,H.mono ?_⟩
 rintro _ h4 ⟨t3,rfl,f4,H⟩
 refine⟨t3,rfl,((cU.aC f2).aC f3).aC f4,H.mono ?_⟩
 rintro _ h5 ⟨t4,rfl,o5,f5⟩
 have iU:=cU.aC f5
 refine⟨t4,rfl,iU,?_⟩
 refine IC o5 (by simp[pV]) _ fun t6 h6 o6 p6 f6=>⟨t4,t6,0,rfl,iU.aC f6,fun h7 f7 jQ=> ?_⟩
 have hb:b1<h1.size:=cU.head.lt
 have s5:=f5.size
 have s1:=f1.size
 have f67:Fr (In [b1]) h5 h7:=f6.aC.trans f7
 refine HK _ _ ⟨t4,t6,h5.size,rfl,?_,?_,?_⟩
 ·refine(dO.fr o6 f7 (fun k _ hk aQ=> ?_)).mono fun k _ hk=>⟨by omega,hk.2⟩
  simp[In]at aQ
  omega
 ·refine(Ow.fr p6 f7 fun k hk aQ=> ?_).mono fun k _ hk=>⟨by omega,hk⟩
  have:=(p6.aR hk).1
  simp[In]at aQ
  omega
 ·have f17:Fr (In [b1]) h1 h7:=f5.aC.trans f67
  refine⟨cB s1 f17.size,fun k hk _=>(f17.same k (by omega) fun aQ=> ?_).trans (f1.same k hk fun h=>h)⟩
  simp[In]at aQ
  omega
theorem ID{S:aK}{h:Heap}{s:Sl}{xs:aH}(H:bE S h s xs)(hn:s.a=none):xs=[]:=by
 cases xs with
 |nil=>rfl
 |cons x xs=>
  obtain⟨a,ha,_⟩:=dK.cell H 0 (by simp)
  rw[hn]at ha
  cases ha
theorem zJ{S:aK}{h:Heap}{s:Sl}{xs:aH}(H:bE S h s xs)(hn:xs.length<=1000000000)(K:aL)(HK:∀t h',cM h' (Iv h.size h'.size) t xs->Fr No h h'->K t.v h'):aG aB 152 #[s.v] h K:=by
 refine v152 s h K (Oh gH _ _ ⟨_,rfl,fun e=> ?_,fun e=> ?_⟩)
 ·have:xs=[]:=ID H (by simpa using e)
  subst this
  exact HK aD h (Ow.nil _ _ _ _) (Fr.refl _ _)
 ·refine bC gH (fun k=>h.size<=k) (fun _ h=>h) 0 (by omega) [] rfl rfl fun t h1 n1 c1 o1 f1 l1 _=>⟨t,rfl,.nil,?_⟩
  refine cV gH o1 (fun k hk=>cB f1.size hk) (H.no f1) (gr _) (by have:=H.len;omega) fun t' h2 n2 o2 f2 l2=>⟨t',rfl,.nil,?_⟩
  exact HK t' h2 (Ow.gS (by simpa using o2)) (f1.fresh f2 l1)
theorem sW{S:aK}{h:Heap}{s:Sl}{xs:aH}(H:bE S h s xs)(hn:xs.length<=1000000000)(K:aL)(HK:∀t h',cM h' (Iv h.size h'.size) t xs->Fr No h h'->K t.v h'):aG aB 87 #[s.v] h K:=by
 refine v87 s h K ?_
 refine bC gH (fun k=>h.size<=k) (fun _ h=>h) 0 (by omega) [] rfl rfl fun t h1 n1 c1 o1 f1 l1 _=>⟨t,rfl,.nil,?_⟩
 refine cV gH o1 (fun k hk=>cB f1.size hk) (H.no f1) (gr _) (by have:=H.len;omega) fun t' h2 n2 o2 f2 l2=>⟨t',rfl,.nil,?_⟩
 exact HK t' h2 (Ow.gS (by simpa using o2)) (f1.fresh f2 l1)
theorem Eh{n:Nat}:∀{aI:aE}{m:Nat},aI.length<=m->(∀l,l∈aI->l.length<=n)->wV aI<=m*n
 |[],m,_,_=>by simp[wV]
 |x::xs,0,h,_=>by simp at h
 |x::xs,m+1,h,h2=>by
  have h3:=Eh (n:=n) (aI:=xs) (m:=m) (by simpa using h) fun l hl=>h2 l (cK _ hl)
  have h4:=h2 x (by simp)
  have h5:wV (x::xs)=x.length+wV xs:=by simp[wV]
  rw[h5,mm]
  omega
theorem vB{aI:aE}:∀l,l∈aI->l.length<=wV aI:=by
 induction aI with
 |nil=>intro l h;simp at h
 |cons x xs ih=>
  intro l hl
  have h5:wV (x::xs)=x.length+wV xs:=by simp[wV]
  rcases aO.1 hl with rfl|hl
  ·omega
  ·have:=ih l hl;omega
theorem IE{S:aK}{h:Heap}{g:Sl}{aI:aE}(H:dE S h g aI)(hn:aI.length+wV aI<=1000000000)(K:aL)(HK:∀t h',ia h' (Iv h.size h'.size) t aI->Fr No h h'->K (.agg #[t.v]) h'):aG aB 109 #[.agg #[g.v]] h K:=by
 refine v109 g h K fun b1 b2 b3 h4 fw eY jY f4 fi=> ?_
 have f4:=f4.aM
 have l3:b3<h4.size:=fi.head.lt
 have l2:b2<h4.size:=fi.tail.head.lt
 have l1:b1<h4.size:=fi.tail.tail.head.lt
 have s4:=f4.size
 refine⟨fun n i x h'=>0<=i/\i+n=(aI.length:Int)/\ia h' (fun k=>h4.size<=k) x (aI.take i.toNat)/\Fr No h h'/\h4.size<=h'.size,⟨aI.length,by omega,by omega,by simpa using dO.nil _ _ _ _,f4,aY _⟩,?_⟩
 rintro n i x h5 ⟨i0,i1,o5,f5,z5⟩ iU
 have H5:=H.no f5
 refine⟨fun e=> ?_,fun e=> ?_⟩
 ·have hi:=H.lt e
  obtain⟨si,c1,c2⟩:=H5.get i0 hi
  have hsi:=vB (aI[i.toNat]'(by omega)) (bI (by omega))
  refine⟨H5.bQ i0 hi,si,c1,zJ c2 (by omega) _ fun t h6 o6 f6=>⟨t,rfl,iU.aC f6,?_⟩⟩
  refine bC tN (fun k=>h6.size<=k) (fun _ h=>h) 1 (by omega) [t.v] rfl rfl fun u h7 n7 c7 o7 f7 l7 _=>⟨u,rfl,(iU.aC f6).aC f7,?_⟩
  have s6:=f6.size
  have s7:=f7.size
  refine dO.snoc tN ((o5.gS.no f6).no f7) (F':=fun k=>h4.size<=k) (fun k _ hk=>hk.1) (fun k hk=>by omega) ((Ow.no o6 f7).mono fun k _ hk=>cB z5 hk.1) (fun k hk aQ=>by have:=(o6.aR hk).1.1;have:=aQ.2;omega) o7.rd (by simp;omega) fun y h8 o8 f8=>⟨y,rfl,((iU.aC f6).aC f7).iv f8 ⟨.inl l3,.inl l2,.inl l1,trivial⟩,fun h9 f9 gM=> ?_⟩
  have s8:=f8.size
  have f9:=f9.dI (lo:=h.size) (hi:=h4.size) ⟨⟨jY,l3⟩,trivial⟩
  have s9:=f9.size
  rw[H.succ i0 hi]
  refine⟨n-1,by omega,by omega,by omega,?_,?_,by omega⟩
  ·rw[fJ aI i0 hi]
   exact(o8.gS.iv f9 (.inr (aY _))).mono fun k _ hk=>hk.1
  ·exact((((f5.aA f6).aA f7).aU f8 (by omega))).aU f9 (aY _)
 ·have hi:=H.ge e
  rw[cW (by omega)]at o5
  intro fa f10 ft
  have f10:=f10.dI (lo:=h.size) (hi:=h4.size) ⟨⟨eY,l2⟩,trivial⟩
  exact HK x fa ((o5.gS.iv f10 (.inr (aY _))).mono fun k aQ hk=>⟨cB s4 hk.1,aQ⟩) (f5.aU f10 (aY _))
theorem QP{S:aK}{h:Heap}{g:Sl}{aI:aE}(H:dE S h g aI)(hn:aI.length+wV aI<=1000000000)(K:aL)(HK:∀t h',ia h' (Iv h.size h'.size) t aI->Fr No h h'->K (.agg #[t.v]) h'):aG aB 175 #[.agg #[g.v]] h K:=by
 refine v175 g h K fun b1 b2 b3 h4 fw eY jY f4 fi=> ?_
 have f4:=f4.aM
 have l3:b3<h4.size:=fi.head.lt
 have l2:b2<h4.size:=fi.tail.head.lt
 have l1:b1<h4.size:=fi.tail.tail.head.lt
 have s4:=f4.size
 refine⟨fun n i x h'=>0<=i/\i+n=(aI.length:Int)/\ia h' (fun k=>h4.size<=k) x (aI.take i.toNat)/\Fr No h h'/\h4.size<=h'.size,⟨aI.length,by omega,by omega,by simpa using dO.nil _ _ _ _,f4,aY _⟩,?_⟩
 rintro n i x h5 ⟨i0,i1,o5,f5,z5⟩ iU
 have H5:=H.no f5
 refine⟨fun e=> ?_,fun e=> ?_⟩
 ·have hi:=H.lt e
  obtain⟨si,c1,c2⟩:=H5.get i0 hi
  have hsi:=vB (aI[i.toNat]'(by omega)) (bI (by omega))
  refine⟨H5.bQ i0 hi,si,c1,sW c2 (by omega) _ fun t h6 o6 f6=>⟨t,rfl,iU.aC f6,?_⟩⟩
  refine bC tN (fun k=>h6.size<=k) (fun _ h=>h) 1 (by omega) [t.v] rfl rfl fun u h7 n7 c7 o7 f7 l7 _=>⟨u,rfl,(iU.aC f6).aC f7,?_⟩
  have s6:=f6.size
  have s7:=f7.size
  refine dO.snoc tN ((o5.gS.no f6).no f7) (F':=fun k=>h4.size<=k) (fun k _ hk=>hk.1) (fun k hk=>by omega) ((Ow.no o6 f7).mono fun k _ hk=>cB z5 hk.1) (fun k hk aQ=>by have:=(o6.aR hk).1.1;have:=aQ.2;omega) o7.rd (by simp;omega) fun y h8 o8 f8=>⟨y,rfl,((iU.aC f6).aC f7).iv f8 ⟨.inl l3,.inl l2,.inl l1,trivial⟩,fun h9 f9 gM=> ?_⟩
  have s8:=f8.size
  have f9:=f9.dI (lo:=h.size) (hi:=h4.size) ⟨⟨jY,l3⟩,trivial⟩
  have s9:=f9.size
  rw[H.succ i0 hi]
  refine⟨n-1,by omega,by omega,by omega,?_,?_,by omega⟩
  ·rw[fJ aI i0 hi]
   exact(o8.gS.iv f9 (.inr (aY _))).mono fun k _ hk=>hk.1
  ·exact((((f5.aA f6).aA f7).aU f8 (by omega))).aU f9 (aY _)
 ·have hi:=H.ge e
  rw[cW (by omega)]at o5
  intro fa f10 ft
  have f10:=f10.dI (lo:=h.size) (hi:=h4.size) ⟨⟨eY,l2⟩,trivial⟩
  exact HK x fa ((o5.gS.iv f10 (.inr (aY _))).mono fun k aQ hk=>⟨cB s4 hk.1,aQ⟩) (f5.aU f10 (aY _))
def mb(aI:aE):aE:=if aZ aI then aI else[]
def jx(g:aE)(p q:Int):aE×Bool:=
 if aZ g&&jX 0 ((g.length:Int)-1) p&&jX 0 ((g.length:Int)-1) q then(mb (g.set p.toNat (g.getD p.toNat []++[q])),aZ (g.set p.toNat (g.getD p.toNat []++[q])))else([],false)
theorem cA{lo hi x:Int}:jX lo hi x=true↔lo<=x/\x<=hi:=by simp[jX]
theorem bD{g:aE}(h:aZ g=true):1<=g.length/\g.length<=8:=by
 unfold aZ at h
 rw[bK,cA]at h
 omega
theorem bL{g:aE}(h:aZ g=true){l:aH}(hl:l∈g):l.length<=5/\∀x,x∈l->0<=x/\x<(g.length:Int):=by
 unfold aZ at h
 rw[bK]at h
 have:=j6.1 h.2 l hl
 rw[bK]at this
 obtain⟨h1,h2⟩:=this
 simp only[gE,aW]at h1
 refine⟨by omega,fun x hx=> ?_⟩
 have:=j6.1 h2 x hx
 rw[cA]at this
 omega
theorem sX{g:aE}(h:aZ g=true):wV g<=40:=by
 have:=Eh (n:=5) (aI:=g) (m:=8) (bD h).2 fun l hl=>(bL h hl).1
 omega
theorem bH{g:aE}{i:Nat}(h:i<g.length):g.getD i []=g[i]:=by simp[List.getD,dT h]
theorem QQ{x y:Nat}{h:Heap}{g:Sl}{aI:aE}(H:ia h (Iv x y) g aI)(hy:y<=h.size)(K:aL)(HK:∀t h',ia h' (Iv x y) t (mb aI)->Fr No h h'->K (.tuple #[.agg #[t.v],VB (aZ aI)]) h'):aG aB 200 #[.agg #[g.v]] h K:=by
 refine akv g h K fun b1 b2 h2 fw eY f2 cR=> ?_
 have f2:=f2.aM
 have l2:b2<h2.size:=cR.head.lt
 refine Ed (H.rd.no f2) _ fun h3 f3=>⟨_,rfl,cR.aC f3,fun e h4 f4 fi=> ?_,fun e h4 f4 fi=> ?_⟩
 ·have f4:=f4.dI (lo:=h.size) (hi:=h2.size) ⟨⟨eY,l2⟩,trivial⟩
  have e:=bU e
  have:=HK aD h4 (by unfold mb;rw[e];exact dO.nil _ _ _ _) ((f2.aA f3).aU f4 (aY _))
  rw[e]at this
  exact this
 ·have f4:=f4.dI (lo:=h.size) (hi:=h2.size) ⟨⟨eY,l2⟩,trivial⟩
  have e:=bS e
  have:=HK g h4 (by unfold mb;rw[e];exact((H.no f2).no f3).iv f4 (.inl hy)) ((f2.aA f3).aU f4 (aY _))
  rw[e]at this
  exact this
theorem Zk{x y:Nat}{h:Heap}{g:Sl}{aI:aE}(H:ia h (Iv x y) g aI)(hy:y<=h.size)(K:aL)(HK:∀t h',ia h' (Iv x y) t (mb aI)->Fr No h h'->K (.tuple #[.agg #[t.v],VB (aZ aI)]) h'):aG aB 176 #[.agg #[g.v]] h K:=by
 refine ajW g h K fun b1 b2 h2 fw eY f2 cR=> ?_
 have f2:=f2.aM
 have l2:b2<h2.size:=cR.head.lt
 refine oy (H.rd.no f2) _ fun h3 f3=>⟨_,rfl,cR.aC f3,fun e h4 f4 fi=> ?_,fun e h4 f4 fi=> ?_⟩
 ·have f4:=f4.dI (lo:=h.size) (hi:=h2.size) ⟨⟨eY,l2⟩,trivial⟩
  have e:=bU e
  have:=HK aD h4 (by unfold mb;rw[e];exact dO.nil _ _ _ _) ((f2.aA f3).aU f4 (aY _))
  rw[e]at this
  exact this
 ·have f4:=f4.dI (lo:=h.size) (hi:=h2.size) ⟨⟨eY,l2⟩,trivial⟩
  have e:=bS e
  have:=HK g h4 (by unfold mb;rw[e];exact((H.no f2).no f3).iv f4 (.inl hy)) ((f2.aA f3).aU f4 (aY _))
  rw[e]at this
  exact this
theorem Oo{S:aK}{h:Heap}{g:Sl}{aI:aE}(H:dE S h g aI)(p q:Int)(K:aL)(HK:∀t h',ia h' (Iv h.size h'.size) t (jx aI p q).1->Fr No h h'->K (.tuple #[.agg #[t.v],VB (jx aI p q).2]) h'):aG aB 216 #[.agg #[g.v],VI p,VI q] h K:=by
 refine akS g p q h K fun b1 b2 h2 fw eY f2 cR=> ?_
 have f2:=f2.aM
 have l2:b2<h2.size:=cR.head.lt
 have l1:b1<h2.size:=cR.tail.head.lt
 have s2:=f2.size
 refine bC gH (fun k=>h2.size<=k) (fun _ h=>h) 2 (by omega) [VI p,VI q] rfl rfl fun t h3 n3 c3 o3 f3 m3 _=>⟨t,rfl,cR.aC f3,?_⟩
 have o3:bE (fun k=>h2.size<=k) h3 t [p,q]:=o3.fW
 have dA:=cR.aC f3
 have s3:=f3.size
 refine vA ((H.no f2).no f3) o3 _ fun h4 f4=>⟨_,rfl,dA.aC f4,fun e h5 f5 iU=> ?_,fun e=> ?_⟩
 all_goals simp only[List.all_cons,List.all_nil,sV]at e
 ·have f5:=f5.dI (lo:=h.size) (hi:=h2.size) ⟨⟨eY,l2⟩,trivial⟩
  have e2:jx aI p q=([],false):=by unfold jx;rw[Bool.and_assoc,bU e];rfl
  have:=HK aD h5 (by rw[e2];exact dO.nil _ _ _ _) (((f2.aA f3).aA f4).aU f5 (aY _))
  rw[e2]at this
  exact this
 ·have e:=bS e
  have e2:jx aI p q=(mb (aI.set p.toNat (aI.getD p.toNat []++[q])),aZ (aI.set p.toNat (aI.getD p.toNat []++[q]))):=by unfold jx;rw[Bool.and_assoc,e];rfl
  rw[bK,bK,cA,cA]at e
  obtain⟨hg,⟨QR,hp1⟩,hq⟩:=e
  have hlen:=bD hg
  have al8:=sX hg
  rw[e2]at HK
  have f24:=(f2.aA f3).aA f4
  have s4:=f4.size
  refine IE (H.no f24) (by omega) _ fun u h6 o6 f6=>⟨u,rfl,(dA.aC f4).aC f6,o6.rd.bQ QR (by omega),fun b3 h8 jY f8 gZ=> ?_⟩
  have f8:=f8.aM
  have s6:=f6.size
  have s8:=f8.size
  have l3:b3<h8.size:=gZ.head.lt
  have o8:=o6.no f8
  obtain⟨si,c1,c2,_⟩:=o8.inner QR (by omega)
  refine⟨si,c1,?_⟩
  refine bC gH (fun k=>h8.size<=k) (fun _ h=>h) 1 (by omega) [VI q] rfl rfl fun v h9 n9 c9 o9 f9 m9 _=>⟨v,rfl,gZ.aC f9,eJ c1 f9 (fun h=>h),?_⟩
  have s9:=f9.size
  have o9:bE (fun k=>h8.size<=k) h9 v [q]:=o9.fW
  have hsi:=(bL hg (bI (show p.toNat<aI.length by omega))).1
  have gM:=gZ.aC f9
  have Zl:=o8.no f9
  have KT:cM h9 (fun k=>h4.size<=k) si (aI[p.toNat]'(by omega)):=(Ow.no c2 f9).mono fun k _ hk=>hk.1
  refine cV gH KT (fun k hk=>by omega) o9 (gr _) (by have h1:=bE.len KT.fW;have h2:=o9.len;simp at h2;omega) fun w fa U9 nC f10 d10=>⟨w,rfl,?_⟩
  have QS:Fr (Iv h4.size h6.size) h9 fa:=f10.mono fun k _ hk=>(c2.aR hk).1
  have ft:=gM.iv QS ⟨.inr jY,.inl (by omega),.inl (by omega),trivial⟩
  have s10:=f10.size
  rw[<-cQ]at nC
  obtain⟨i11,w11,mD,f11⟩:=Zl.KB QR (by omega) (eJ c1 f9 fun h=>h) f10 (F':=fun k=>h4.size<=k) nC (fun k _ hk=>hk.1) fun k hk=>(d10 k hk).imp id fun aQ mX=>by have:=mX.2;omega
  have QT:Fr (Iv h4.size h6.size) fa _:=Zl.UP f11
  have iN:=ft.iv QT ⟨.inr jY,.inl (by omega),.inl (by omega),trivial⟩
  refine⟨ft,i11,w11,iN,fun jq Yf _=> ?_⟩
  subst Yf
  have s11:=f11.size
  refine QQ mD.gS (aY _) _ fun z iC Oq f12=>⟨z,_,rfl,iN.aC f12,fun tO f13 Fv=> ?_⟩
  have f13:=f13.dI (lo:=h.size) (hi:=h2.size) ⟨⟨eY,l2⟩,trivial⟩
  have s12:=f12.size
  have s13:=f13.size
  rw[bH (show p.toNat<aI.length by omega)]at HK
  refine HK z tO ((Oq.iv f13 (.inr (by omega))).mono fun k hk hF=>⟨by have:=hF.1;omega,hk⟩) ?_
  exact((((((f24.aA f6).aA f8).aA f9).aU QS (by omega)).aU QT (by omega)).aA f12).aU f13 (aY _)
theorem rD{S:aK}{h:Heap}{g:Sl}{aI:aE}(H:dE S h g aI)(p q:Int)(K:aL)(HK:∀t h',ia h' (Iv h.size h'.size) t (jx aI p q).1->Fr No h h'->K (.tuple #[.agg #[t.v],VB (jx aI p q).2]) h'):aG aB 126 #[.agg #[g.v],VI p,VI q] h K:=by
 refine aiW g p q h K fun b1 b2 h2 fw eY f2 cR=> ?_
 have f2:=f2.aM
 have l2:b2<h2.size:=cR.head.lt
 have l1:b1<h2.size:=cR.tail.head.lt
 have s2:=f2.size
 refine dY (H.no f2) p _ fun h3 f3=>⟨_,rfl,cR.aC f3,fun e h5 f5 iU=> ?_,fun e=> ?_⟩
 ·have f5:=f5.dI (lo:=h.size) (hi:=h2.size) ⟨⟨eY,l2⟩,trivial⟩
  have e2:jx aI p q=([],false):=by unfold jx;rw[bU e];rfl
  have:=HK aD h5 (by rw[e2];exact dO.nil _ _ _ _) ((f2.aA f3).aU f5 (aY _))
  rw[e2]at this
  exact this
 have dA:=cR.aC f3
 have s3:=f3.size
 have e1:=bS e
 refine dY ((H.no f2).no f3) q _ fun h4 f4=>⟨_,rfl,dA.aC f4,fun e h5 f5 iU=> ?_,fun e=> ?_⟩
 ·have f5:=f5.dI (lo:=h.size) (hi:=h2.size) ⟨⟨eY,l2⟩,trivial⟩
  have e:=bU e
  have e2:jx aI p q=([],false):=by
   unfold jx
   rw[bK]at e1
   rw[e1.1,fc]at e
   rw[e1.1,e1.2,e];rfl
  have:=HK aD h5 (by rw[e2];exact dO.nil _ _ _ _) (((f2.aA f3).aA f4).aU f5 (aY _))
  rw[e2]at this
  exact this
 ·have e:=bS e
  have e2:jx aI p q=(mb (aI.set p.toNat (aI.getD p.toNat []++[q])),aZ (aI.set p.toNat (aI.getD p.toNat []++[q]))):=by
   unfold jx
   rw[bK]at e
   rw[e1,e.2];rfl
  rw[bK,cA]at e e1
  obtain⟨hg,QR,hp1⟩:=e1
  have hlen:=bD hg
  have al8:=sX hg
  rw[e2]at HK
  have f24:=(f2.aA f3).aA f4
  have s4:=f4.size
  refine QP (H.no f24) (by omega) _ fun u h6 o6 f6=>⟨u,rfl,(dA.aC f4).aC f6,o6.rd.bQ QR (by omega),fun b3 h8 jY f8 gZ=> ?_⟩
  have f8:=f8.aM
  have s6:=f6.size
  have s8:=f8.size
  have l3:b3<h8.size:=gZ.head.lt
  have o8:=o6.no f8
  obtain⟨si,c1,c2,_⟩:=o8.inner QR (by omega)
  refine⟨si,c1,?_⟩
  refine bC gH (fun k=>h8.size<=k) (fun _ h=>h) 1 (by omega) [VI q] rfl rfl fun v h9 n9 c9 o9 f9 m9 _=>⟨v,rfl,gZ.aC f9,eJ c1 f9 (fun h=>h),?_⟩
  have s9:=f9.size
  have o9:bE (fun k=>h8.size<=k) h9 v [q]:=o9.fW
  have hsi:=(bL hg (bI (show p.toNat<aI.length by omega))).1
  have gM:=gZ.aC f9
  have Zl:=o8.no f9
  have KT:cM h9 (fun k=>h4.size<=k) si (aI[p.toNat]'(by omega)):=(Ow.no c2 f9).mono fun k _ hk=>hk.1
  refine cV gH KT (fun k hk=>by omega) o9 (gr _) (by have h1:=bE.len KT.fW;have h2:=o9.len;simp at h2;omega) fun w fa U9 nC f10 d10=>⟨w,rfl,?_⟩
  have QS:Fr (Iv h4.size h6.size) h9 fa:=f10.mono fun k _ hk=>(c2.aR hk).1
  have ft:=gM.iv QS ⟨.inr jY,.inl (by omega),.inl (by omega),trivial⟩
  have s10:=f10.size
  rw[<-cQ]at nC
  obtain⟨i11,w11,mD,f11⟩:=Zl.KB QR (by omega) (eJ c1 f9 fun h=>h) f10 (F':=fun k=>h4.size<=k) nC (fun k _ hk=>hk.1) fun k hk=>(d10 k hk).imp id fun aQ mX=>by have:=mX.2;omega
  have QT:Fr (Iv h4.size h6.size) fa _:=Zl.UP f11
  have iN:=ft.iv QT ⟨.inr jY,.inl (by omega),.inl (by omega),trivial⟩
  refine⟨ft,i11,w11,iN,fun jq Yf _=> ?_⟩
  subst Yf
  have s11:=f11.size
  refine Zk mD.gS (aY _) _ fun z iC Oq f12=>⟨z,_,rfl,iN.aC f12,fun tO f13 Fv=> ?_⟩
  have f13:=f13.dI (lo:=h.size) (hi:=h2.size) ⟨⟨eY,l2⟩,trivial⟩
  have s12:=f12.size
  have s13:=f13.size
  rw[bH (show p.toNat<aI.length by omega)]at HK
  refine HK z tO ((Oq.iv f13 (.inr (by omega))).mono fun k hk hF=>⟨by have:=hF.1;omega,hk⟩) ?_
  exact((((((f24.aA f6).aA f8).aA f9).aU QS (by omega)).aU QT (by omega)).aA f12).aU f13 (aY _)
theorem IF{k n:Int}(h0:0<=k)(hn:0<=n):Int.tmod k n=((k.toNat%n.toNat:Nat):Int):=by
 obtain⟨a,rfl⟩:=Int.eq_ofNat_of_zero_le h0
 obtain⟨b,rfl⟩:=Int.eq_ofNat_of_zero_le hn
 rfl
@[reducible] def tB:TypeId:=4
@[reducible] def tBs:TypeId:=195
theorem rBs:qF aB tBs=some (tB,1,1,[VB false]):=by kernel_rfl
theorem al9{S:aK}{h:Heap}{s:Sl}{bs:List Bool}(H:dK S h 1 s (bs.map VB)){i:Int}(h0:0<=i)(h1:i<(bs.length:Int)):bG h (s.at i 1)=some (VB (bs[i.toNat]'(by omega))):=by
 have:=dK.get H h0 (by simpa using h1)
 simpa using this
theorem ama{S:aK}{h:Heap}{s:Sl}{bs:List Bool}(H:dK S h 1 s (bs.map VB)):s.n=bs.length:=by have:=dK.len H;simp at this;exact this.symm
abbrev St:=aH×Int
def dH(g:aE)(w:St):Option St:=
 if(g.getD w.2.toNat []).length=0 then none
 else some (w.1.set w.2.toNat ((((w.1.getD w.2.toNat 0).toNat+1)%(g.getD w.2.toNat []).length:Nat):Int),(g.getD w.2.toNat []).getD (((w.1.getD w.2.toNat 0).toNat+1)%(g.getD w.2.toNat []).length) 0)
structure iV(g:aE)(w:St):Prop where
 cN:aZ g=true
 len:w.1.length=g.length
 lo:0<=w.2
 hi:w.2<(g.length:Int)
 TX:∀i(h:i<w.1.length)(h':i<g.length),0<=w.1[i]/\w.1[i]<=max ((g[i].length:Int)-1) 0
theorem eD{g:aE}{rs:aH}{p:Int}(h:fS g rs p=true):iV g (rs,p):=by
 unfold fS at h
 simp only[bK,aT]at h
 obtain⟨⟨⟨h1,h2⟩,h3⟩,h4⟩:=h
 rw[cA]at h2
 refine⟨h1,h3,h2.1,by simp only;omega,fun i a b=> ?_⟩
 have:=j6.1 h4 (g[i],rs[i]) (by
  rw[show(g[i],rs[i])=(g.zip rs)[i]'(by simp only[List.length_zip];simp only at a;omega) by simp]
  exact bI _)
 unfold Dh at this
 rw[cA]at this
 exact this
theorem pW{g:aE}{w:St}(W:iV g w)(hp:w.2.toNat<g.length):(g[w.2.toNat]).length=0->dH g w=none:=fun h=>by
 unfold dH
 rw[bH hp,aJ h]
theorem bA{xs:aH}{i:Nat}(h:i<xs.length):xs.getD i 0=xs[i]:=by simp[List.getD,dT h]
theorem uD{g:aE}{w:St}(W:iV g w)(hp:w.2.toNat<g.length)(hr:w.2.toNat<w.1.length)(h:(g[w.2.toNat]).length≠0):
 dH g w=some (w.1.set w.2.toNat ((((w.1[w.2.toNat]).toNat+1)%(g[w.2.toNat]).length:Nat):Int),(g[w.2.toNat])[((w.1[w.2.toNat]).toNat+1)%(g[w.2.toNat]).length]'(j9 _ (by omega))):=by
 unfold dH
 rw[bH hp,aF h,bA hr,bA (j9 _ (by omega))]
theorem iV.step{g:aE}{w w':St}(W:iV g w)(h:dH g w=some w'):iV g w':=by
 have hp:w.2.toNat<g.length:=by have:=W.hi;have:=W.lo;omega
 have hr:w.2.toNat<w.1.length:=by rw[W.len];exact hp
 by_cases h0:(g[w.2.toNat]).length=0
 ·rw[pW W hp h0]at h;cases h
 ·rw[uD W hp hr h0]at h
  have hm:=j9 ((w.1[w.2.toNat]).toNat+1) (show 0<(g[w.2.toNat]).length by omega)
  simp only[dD]at h
  subst h
  have afa:=(bL W.cN (bI hp)).2 _ (bI hm)
  refine⟨W.cN,by simpa using W.len,afa.1,afa.2,fun i a b=> ?_⟩
  simp only[bY]at a
  simp only[fQ]
  split
  ·rename_i e
   subst e
   omega
  ·exact W.TX i a b
theorem jR{S:aK}{h:Heap}{s:Sl}{xs:aH}(H:bE S h s xs)(p:Int)(hn:xs.length<=1000000000)(K:aL)(HK:∀t h',cM h' (Iv h.size h'.size) t xs->Fr No h h'->K (.agg #[t.v,VI p]) h'):aG aB 110 #[.agg #[s.v,VI p]] h K:=by
 refine aiv s p h K fun b1 b2 h2 fw eY f2 cR=> ?_
 have f2:=f2.aM
 have l2:b2<h2.size:=cR.head.lt
 have s2:=f2.size
 refine zJ (H.no f2) hn _ fun t h3 o3 f3=>⟨t,rfl,cR.aC f3,fun h4 f4 fi=> ?_⟩
 have f4:=f4.dI (lo:=h.size) (hi:=h2.size) ⟨⟨eY,l2⟩,trivial⟩
 exact HK t h4 ((Ow.iv o3 f4 (.inr (aY _))).mono fun k hk hF=>⟨cB s2 hF.1,fp hF.2 f4.size⟩) ((f2.aA f3).aU f4 (aY _))
theorem Fw{F S:aK}{b:Nat}{h:Heap}{g w:Sl}{aI:aE}{s:St}(G:dE S h g aI)(V:cC h b [w.v,VI s.2])(H:cM h F w s.1)(hS:∀k,S k->¬F k)(hFb:F b)(Kq:¬w.own b)(W:iV aI s)(K:aL)
 (HN:dH aI s=none->∀h',Fr No h h'->K (VB false) h') (HS:∀s',dH aI s=some s'->∀h',cM h' F w s'.1->cC h' b [w.v,VI s'.2]->Fr F h h'->K (VB true) h'):
 aG aB 254 #[.agg #[g.v],VP b 0] h K:=by
 have hp:s.2.toNat<aI.length:=by have:=W.hi;have:=W.lo;omega
 have hr:s.2.toNat<s.1.length:=by rw[W.len];exact hp
 have yM:=W.lo
 refine alu g b w s.2 h K (.cons V (by simp) .nil) ⟨G.bQ W.lo W.hi,fun b2 h1 eY f1 cU=> ?_⟩
 have f1:=f1.aM
 obtain⟨si,c1,c2⟩:=(G.no f1).get W.lo W.hi
 have H1:=Ow.no H f1
 have hn1:w.n=s.1.length:=bE.len H.fW
 refine⟨si,c1,fun e=> ?_,fun e=> ?_⟩
 ·simp only[aT]at e
  exact HN (pW W hp (by have:=c2.len;omega)) h1 f1
 ·simp only[aW]at e
  have h0:(aI[s.2.toNat]'hp).length≠0:=by have:=c2.len;omega
  have Qd:=uD W hp hr h0
  have hm:=j9 ((s.1[s.2.toNat]'hr).toNat+1) (show 0<(aI[s.2.toNat]'hp).length by omega)
  have Zm:=W.TX _ hr hp
  have amb:=(bL W.cN (bI hp)).1
  have hw:aX (s.1[s.2.toNat]'hr+1)=s.1[s.2.toNat]'hr+1:=aP _ (by omega) (by omega)
  have Ki:Int.tmod (s.1[s.2.toNat]'hr+1) (si.n:Int)=((((s.1[s.2.toNat]'hr).toNat+1)%(aI[s.2.toNat]'hp).length:Nat):Int):=by
   rw[IF (by omega) (by omega),c2.len]
   congr 2
   omega
  have R1:bE F h1 w s.1:=H1.fW
  refine⟨R1.bQ yM (by omega),_,R1.get yM (by omega),by omega,R1.bQ yM (by omega),?_⟩
  rw[hw,Ki]
  obtain⟨w1,w2,w3⟩:=H1.gF yM (by omega) (VI ((((s.1[s.2.toNat]'hr).toNat+1)%(aI[s.2.toNat]'hp).length:Nat):Int))
  have rF:Fr F h1 _:=w3.mono fun k _ hk=>(H1.aR hk).1
  have hbl:=V.lt
  have cR:=cU.fr w3 fun p hp=>by
   simp only[aO,aS,aN]at hp
   rcases hp with rfl|rfl
   ·exact fun hk=>by have:=(H.aR hk).2;simp only at this;omega
   ·exact Kq
  refine⟨w1,cR,fun h2 e2 _=> ?_⟩
  subst e2
  rw[<-ig]at w2
  have R2:bE F _ w _:=w2.fW
  have KT:=bE.fr c2 rF hS
  have hv:bG (dS h1 (w.at s.2 1) (VI ((((s.1[s.2.toNat]'hr).toNat+1)%(aI[s.2.toNat]'hp).length:Nat):Int))) (w.at s.2 1)=some (VI ((((s.1[s.2.toNat]'hr).toNat+1)%(aI[s.2.toNat]'hp).length:Nat):Int)):=by
   have:=R2.get (i:=s.2) yM (by simp;omega)
   simpa using this
  have hq:=KT.get (i:=((((s.1[s.2.toNat]'hr).toNat+1)%(aI[s.2.toNat]'hp).length:Nat):Int)) (by omega) (by omega)
  simp only[Int.toNat_natCast]at hq
  refine⟨R2.bQ yM (by simp;omega),_,hv,KT.bQ (by omega) (by omega),_,hq,fun h3 f3 dA=> ?_⟩
  have Zn:Fr F _ h3:=f3.mono fun k _ hk=>by simp only[In,aO,aS,aN]at hk;subst hk;exact hFb
  refine HS _ Qd h3 ?_ ?_ ((f1.aC.trans rF).trans Zn)
  ·exact Ow.fr w2 f3 fun k hk aQ=>by
    simp only[In,aO,aS,aN]at aQ
    subst aQ
    exact Kq hk
  ·exact dA.tail.head
theorem Zo{a c b:Nat}{h:Heap}{g w:Sl}{aI:aE}{s:St}(G:dE (Iv 0 a) h g aI)(V:cC h b [w.v,VI s.2])(H:cM h (Iv a c) w s.1)(hb0:a<=b)(fw:b<c)(Kq:¬w.own b)(W:iV aI s)(K:aL)
 (HN:dH aI s=none->∀h',Fr No h h'->K (VB false) h') (HS:∀s',dH aI s=some s'->∀h',cM h' (Iv a c) w s'.1->cC h' b [w.v,VI s'.2]->Fr (Iv a c) h h'->K (VB true) h'):
 aG aB 254 #[.agg #[g.v],VP b 0] h K:=
 Fw G V H (fun k hk aQ=>by have:=hk.2;have:=aQ.1;omega) ⟨hb0,fw⟩ Kq W K HN HS
theorem rG{S S':aK}{h:Heap}{g w:Sl}{aI:aE}{s:St}(G:dE S h g aI)(H:bE S' h w s.1)(W:iV aI s)(K:aL)
 (HN:dH aI s=none->∀h',Fr No h h'->K (.tuple #[.agg #[w.v,VI s.2],VB false]) h') (HS:∀s',dH aI s=some s'->∀t h',cM h' (Iv h.size h'.size) t s'.1->Fr No h h'->K (.tuple #[.agg #[t.v,VI s'.2],VB true]) h'):
 aG aB 177 #[.agg #[g.v],.agg #[w.v,VI s.2]] h K:=by
 have hp:s.2.toNat<aI.length:=by have:=W.hi;have:=W.lo;omega
 have hr:s.2.toNat<s.1.length:=by rw[W.len];exact hp
 have yM:=W.lo
 refine ajY g w s.2 h K ⟨G.bQ W.lo W.hi,fun b1 b2 b3 h3 fw eY jY f3 dA=> ?_⟩
 have f3:=f3.aM
 have l3:b3<h3.size:=dA.head.lt
 have l2:b2<h3.size:=dA.tail.head.lt
 have l1:b1<h3.size:=dA.tail.tail.head.lt
 have s3:=f3.size
 have G3:=G.low.no f3
 obtain⟨si,c1,c2⟩:=G3.get W.lo W.hi
 refine⟨si,c1,fun e h4 f4 fi=> ?_,fun e=> ?_⟩
 ·simp only[aT]at e
  have f4:=f4.dI (lo:=h.size) (hi:=h3.size) ⟨⟨jY,l3⟩,trivial⟩
  exact HN (pW W hp (by have:=c2.len;omega)) h4 (f3.aU f4 (aY _))
 ·simp only[aW]at e
  have h0:(aI[s.2.toNat]'hp).length≠0:=by have:=c2.len;omega
  have Qd:=uD W hp hr h0
  have hm:=j9 ((s.1[s.2.toNat]'hr).toNat+1) (show 0<(aI[s.2.toNat]'hp).length by omega)
  have Zm:=W.TX _ hr hp
  have amb:=(bL W.cN (bI hp)).1
  have afc:=bD W.cN
  have hw:aX (s.1[s.2.toNat]'hr+1)=s.1[s.2.toNat]'hr+1:=aP _ (by omega) (by omega)
  have Ki:Int.tmod (s.1[s.2.toNat]'hr+1) (si.n:Int)=((((s.1[s.2.toNat]'hr).toNat+1)%(aI[s.2.toNat]'hp).length:Nat):Int):=by
   rw[IF (by omega) (by omega),c2.len]
   congr 2
   omega
  refine sW (H.no f3) (by have:=W.len;omega) _ fun t h5 o5 f5=>⟨t,rfl,dA.aC f5,(H.bQ yM (by omega)),fun b4 h7 Kj f7 jQ=> ?_⟩
  have f7:=f7.aM
  have s5:=f5.size
  have s7:=f7.size
  have l4:b4<h7.size:=jQ.head.lt
  have Hw:=(f3.aA f5).aA f7
  have H7:=H.no Hw
  have o7:=Ow.no o5 f7
  have hn7:t.n=s.1.length:=bE.len o7.fW
  refine⟨_,H7.get yM (by omega),by omega,o7.bQ yM (by omega),?_⟩
  rw[hw,Ki]
  obtain⟨w1,w2,w3⟩:=o7.gF yM (by omega) (VI ((((s.1[s.2.toNat]'hr).toNat+1)%(aI[s.2.toNat]'hp).length:Nat):Int))
  have rF:Fr (Iv h3.size h5.size) h7 _:=w3.mono fun k _ hk=>(o7.aR hk).1
  have gZ:=jQ.iv rF ⟨.inr Kj,.inl l3,.inl l2,.inl l1,trivial⟩
  refine⟨w1,gZ,fun h8 e8 _=> ?_⟩
  subst e8
  rw[<-ig]at w2
  have KT:=((c2.no f5).no f7).fr rF fun k hk aQ=>by have:=aQ.1;omega
  have hq:=KT.get (i:=((((s.1[s.2.toNat]'hr).toNat+1)%(aI[s.2.toNat]'hp).length:Nat):Int)) (by omega) (by omega)
  simp only[Int.toNat_natCast]at hq
  refine⟨KT.bQ (by omega) (by omega),_,hq,fun fa f10 ft=> ?_⟩
  have s8:=rF.size
  have e1:Fr No h fa:=by
   refine(Hw.aU rF (by omega)).fresh f10 fun k hk=> ?_
   simp only[In,aO,aS,aN]at hk
   rcases hk with rfl|rfl<;>omega
  refine HS _ Qd t fa ?_ e1
  have s10:=f10.size
  refine(Ow.fr w2 f10 fun k hk aQ=> ?_).mono fun k _ hk=>⟨by have:=hk.1;omega,by have:=hk.2;omega⟩
  have:=(o7.aR hk).1
  have h1:=this.1
  have h2:=this.2
  simp only[In,aO,aS,aN]at aQ
  rcases aQ with rfl|rfl<;>omega
def cF{τ:Type}(g:aE)(test:τ->St->Bool×τ)(Ei:Int):Nat->Int->τ->St->Int×Bool
 |0,_,_,_=>(0,false)
 |f+1,n,t,s=>
  if Ei<=n then
   if(test t s).1 then(n,true)
   else match dH g s with
    |none=>(0,false)
    |some s'=>cF g test Ei f (n+1) (test t s).2 s'
  else match dH g s with
   |none=>(0,false)
   |some s'=>cF g test Ei f (n+1) t s'
theorem IG{τ:Type}(test:τ->St->Bool×τ)(C:τ->Heap->Prop){S S' T:aK}{h:Heap}{g w:Sl}{aI:aE}{s:St}(G:dE S h g aI)(H:bE S' h w s.1)(W:iV aI s)(Ei:Int)(so:Value)(t0:τ)(hC0:C t0 h)
 (hT:∀k,T k->k<h.size) (hST:∀k,S k->¬T k) (hC:∀t h1 h2,C t h1->Fr (fun k=>h.size<=k) h1 h2->C t h2)
 (hso:∀t x(s':St) h1(K:aL),h.size<=h1.size->C t h1->bE (fun k=>h.size<=k) h1 x s'.1->iV aI s'->(∀h2,C (test t s').2 h2->Fr T h1 h2->K (VB (test t s').1) h2)->iW aB so [.agg #[x.v,VI s'.2]] h1 K)
 (K:aL) (HK:∀h',Fr T h h'->K (.tuple #[VI (cF aI test Ei 2001 0 t0 s).1,VB (cF aI test Ei 2001 0 t0 s).2]) h'):
 aG aB 210 #[.agg #[g.v],.agg #[w.v,VI s.2],VI Ei,so] h K:=by
 refine v210 g w s.2 Ei so h K fun b1 b2 h2 fw eY f2 cR=> ?_
 generalize hR:cF aI test Ei 2001 0 t0 s=R at HK
 have f2:=f2.aM
 have l2:b2<h2.size:=cR.head.lt
 have l1:b1<h2.size:=cR.tail.head.lt
 have z2:=f2.size
 have afc:=bD W.cN
 refine jR (H.no f2) s.2 (by have:=W.len;omega) _ fun u h3 o3 f3=>⟨u,s.2,rfl,cR.aC f3,fun b3 h5 jY f5 iU=> ?_⟩
 have f5:=f5.aM
 have l3:b3<h5.size:=iU.head.lt
 have s3:=f3.size
 have s5:=f5.size
 have uE:=(f2.aA f3).aA f5
 have hub:¬u.own b3:=fun hk=>by have:=(o3.aR hk).2;omega
 have o5:=Ow.no o3 f5
 have hfr:∀{h1 YU:Heap},Fr No h1 YU->Fr (fun k=>h.size<=k) h1 YU:=fun f=>f.aC
 refine⟨fun n i x p h'=>∃(t:τ)(s':St),x=u/\p=s'.2/\0<=i/\i+n=2001/\C t h'/\cM h' (Iv h2.size h5.size) u s'.1/\iV aI s'/\Fr T h h'/\h5.size<=h'.size/\R=cF aI test Ei n i t s',⟨2001,t0,s,rfl,rfl,by omega,by omega,hC _ _ _ hC0 (hfr uE),o5.mono fun k _ hk=>⟨hk.1,fp hk.2 s5⟩,W,uE.aC,aY _,hR.symm⟩,?_⟩
 rintro n i x p h6 ⟨t,s',rfl,rfl,i0,i1,c6,o6,W6,f6,z6,eq⟩ kU
 --a step,from afd
 have stp:∀(t':τ)(h7:Heap)(m:Nat),n=m+1->C t' h7->cM h7 (Iv h2.size h5.size) x s'.1->Vars h7 [(b3,[x.v,VI s'.2]),(b2,[w.v,VI s.2]),(b1,[g.v])]->Fr T h h7->h5.size<=h7.size->
  (R=match dH aI s' with
   |none=>(0,false)
   |some s2=>cF aI test Ei m (i+1) t' s2)->
  ∀K2:aL,(∀h',Fr T h h'->Vars h' [(b3,[x.v,VI s'.2]),(b2,[w.v,VI s.2]),(b1,[g.v])]->R=(0,false)->K2 (VB false) h')->(∀s2 h',C t' h'->cM h' (Iv h2.size h5.size) x s2.1->iV aI s2->Vars h' [(b3,[x.v,VI s2.2]),(b2,[w.v,VI s.2]),(b1,[g.v])]->Fr T h h'->h5.size<=h'.size->R=cF aI test Ei m (i+1) t' s2->K2 (VB true) h')->
  aG aB 254 #[.agg #[g.v],VP b3 0] h7 K2:=by
  intro t' h7 m hn c7 o7 jQ f7 z7 e7 K2 k1 k2
  have G7:dE (Iv 0 h2.size) h7 g aI:=(G.wH.fr f7 fun k hk aQ=>hST k hk.1 aQ).mono fun k hk=>⟨Nat.zero_le _,by have:=hk.2;omega⟩
  refine Zo G7 jQ.head o7 (by omega) l3 hub W6 K2 (fun hs h8 f8=> ?_) fun s2 hs h8 o8 v8 f8=> ?_
  ·rw[hs]at e7
   exact k1 h8 (f7.trans f8.aC) (jQ.aC f8) e7
  ·rw[hs]at e7
   refine k2 s2 h8 (hC _ _ _ c7 (f8.mono fun k _ hk=>cB z2 hk.1)) o8 (W6.step hs) (.cons v8 ?_ (jQ.tail.iv f8 ⟨.inl l2,.inl l1,trivial⟩)) (f7.E4 f8 fun k hk=>cB z2 hk.1) (cB z7 f8.size) e7
   intro p hp
   simp only[aO,aS,aN]at hp
   rcases hp with rfl|rfl<;>(simp only;omega)
 refine⟨fun e=>⟨fun e2=> ?_,fun e2=> ?_⟩,fun e=> ?_⟩
 ·simp only[aT]at e e2
  obtain⟨m,rfl⟩:∃m,n=m+1:=⟨n-1,by omega⟩
  rw[cF,aJ e2]at eq
  refine hso t x s' h6 _ (by omega) c6 (o6.yF.mono fun k hk=>cB z2 hk.1) W6 fun h7 c7 f7=> ?_
  have jQ:=kU.fr f7 fun p hp=>by
   simp only[aO,aS,aN]at hp
   rcases hp with rfl|rfl|rfl<;>exact fun hk=>by have:=hT _ hk;simp only at this;omega
  refine⟨_,rfl,jQ,fun e3=> ?_,fun e3=> ?_⟩
  ·rw[aJ e3]at eq
   rw[eq]at HK
   exact HK h7 (f6.trans f7)
  ·rw[aF (by simp[e3])]at eq
   refine stp _ h7 m rfl c7 (Ow.fr o6 f7 fun k hk aQ=>by have:=hT _ aQ;have:=(o6.aR hk).1.1;omega) jQ (f6.trans f7) (cB z6 f7.size) eq _ (fun h8 f8 gZ e8=> ?_) fun s2 h8 c8 o8 W8 gZ f8 z8 e8=> ?_
   ·refine⟨x,s'.2,_,rfl,gZ,fun _=> ?_,fun e=>by simp at e⟩
    rw[e8]at HK
    exact HK h8 f8
   ·refine⟨x,s2.2,_,rfl,gZ,fun e=>by simp at e,fun _=> ?_⟩
    rw[aP (i+1) (by omega) (by omega)]
    exact⟨m,by omega,_,s2,rfl,rfl,by omega,by omega,c8,o8,W8,f8,z8,e8⟩
 ·simp only[aT]at e
  simp only[aW]at e2
  obtain⟨m,rfl⟩:∃m,n=m+1:=⟨n-1,by omega⟩
  rw[cF,aF e2]at eq
  refine stp _ h6 m rfl c6 o6 kU f6 z6 eq _ (fun h8 f8 gZ e8=> ?_) fun s2 h8 c8 o8 W8 gZ f8 z8 e8=> ?_
  ·refine⟨x,s'.2,_,rfl,gZ,fun _=> ?_,fun e=>by simp at e⟩
   rw[e8]at HK
   exact HK h8 f8
  ·refine⟨x,s2.2,_,rfl,gZ,fun e=>by simp at e,fun _=> ?_⟩
   rw[aP (i+1) (by omega) (by omega)]
   exact⟨m,by omega,_,s2,rfl,rfl,by omega,by omega,c8,o8,W8,f8,z8,e8⟩
 ·simp only[aW]at e
  obtain rfl:n=0:=by omega
  rw[eq]at HK
  exact HK h6 f6
def pX(g:aE)(rs:aH)(p q:Int):Int×Bool:=
 if fS g rs p&&(aZ g&&jX 0 ((g.length:Int)-1) q)then cF g (fun(_:Unit) s=>(decide (s.2=q),())) 0 2001 0 () (rs,p)else(0,false)
theorem MK{S:aK}{h:Heap}{s:Sl}{xs:aH}(H:bE S h s xs){b:Nat}(hb:h.size<=b):bE (fun k=>k≠b) h s xs:=H.low.mono fun k hk=>by omega
theorem Zp{h:Heap}{b:Nat}{q:Int}(V:cC h b [VI q])(x:Sl)(p:Int)(K:aL)(HK:∀h',cC h' b [VI q]->Fr No h h'->K (VB (decide (p=q))) h'):iW aB (.func (.func 211) #[] #[VP b 0]) [.agg #[x.v,VI p]] h K:=by
 refine akJ x p b q h K (.cons V (by simp) .nil) fun b2 h2 eY f2 cR=> ?_
 exact HK h2 cR.tail.head f2.aM
theorem Ot{S S':aK}{h:Heap}{g w:Sl}{aI:aE}{rs:aH}(G:dE S h g aI)(H:bE S' h w rs)(p q:Int)(K:aL)(HK:∀h',Fr No h h'->K (.tuple #[VI (pX aI rs p q).1,VB (pX aI rs p q).2]) h'):aG aB 164 #[.agg #[g.v],.agg #[w.v,VI p],VI q] h K:=by
 refine v164 g w p q h K fun b1 b2 b3 h3 fw eY jY f3 dA=> ?_
 have f3:=f3.aM
 refine rC (G.no f3) (H.no f3) p _ fun h4 f4=>⟨_,rfl,dA.aC f4,fun e=> ?_,fun e=> ?_⟩
 ·have e2:pX aI rs p q=(0,false):=by unfold pX;rw[aF (by rw[bU e];simp)]
  rw[e2]at HK
  exact HK h4 (f3.aA f4)
 have e:=bS e
 have fi:=dA.aC f4
 have jZ:=f3.aA f4
 refine bC gH (fun k=>h4.size<=k) (fun _ h=>h) 1 (by omega) [VI q] rfl rfl fun t h5 n5 c5 o5 f5 m5 _=>⟨t,rfl,fi.aC f5,?_⟩
 have o5:bE (fun k=>h4.size<=k) h5 t [q]:=o5.fW
 have iU:=fi.aC f5
 have uE:=jZ.aA f5
 refine vA (G.no uE) o5 _ fun h6 f6=>⟨_,rfl,iU.aC f6,fun e1=> ?_,fun e1=> ?_⟩
 all_goals simp only[List.all_cons,List.all_nil,sV]at e1
 ·have e2:pX aI rs p q=(0,false):=by unfold pX;rw[aF (by rw[e,bU e1];simp)]
  rw[e2]at HK
  exact HK h6 (uE.aA f6)
 have e1:=bS e1
 have e2:pX aI rs p q=cF aI (fun(_:Unit) s=>(decide (s.2=q),())) 0 2001 0 () (rs,p):=by unfold pX;rw[aJ (by rw[e,e1];rfl)]
 rw[e2]at HK
 have kU:=iU.aC f6
 have A7:=uE.aA f6
 have Zq:=kU.head.lt
 refine IG (S:=S) (T:=No) (s:=(rs,p)) (fun(_:Unit)(s:St)=>(decide (s.2=q),())) (fun _ h'=>cC h' b3 [VI q]/\Fr No h6 h') (G.no A7) (H.no A7) (eD e) 0 _ () ⟨kU.head,Fr.refl _ _⟩ (fun _ h=>h.elim) (fun _ _ h=>h) (fun _ h1 h2 c f=>⟨c.1.fr f (by omega),c.2.fresh f fun k hk=>hk⟩) (fun t x s' h1 K z1 c1 r1 W1 HK=>Zp c1.1 x s'.2 K fun h2 v2 f2=>HK h2 ⟨v2,c1.2.trans f2⟩ f2) _ fun h7 f7=>⟨_,_,_,rfl,kU.aC f7,HK h7 (A7.aA f7)⟩
theorem A8{S S':aK}{h:Heap}{g w:Sl}{aI:aE}{rs:aH}(G:dE S h g aI)(H:bE S' h w rs)(p q:Int)(K:aL)(HK:∀h',Fr No h h'->K (.tuple #[VI (pX aI rs p q).1,VB (pX aI rs p q).2]) h'):aG aB 135 #[.agg #[g.v],.agg #[w.v,VI p],VI q] h K:=by
 refine ajb g w p q h K fun b1 b2 h2 fw eY f2 cR=> ?_
 have f2:=f2.aM
 have l2:b2<h2.size:=cR.head.lt
 refine gJ (G.no f2) (H.no f2) p _ fun h3 f3=>⟨_,rfl,cR.aC f3,fun e=> ?_,fun e=> ?_⟩
 ·have e2:pX aI rs p q=(0,false):=by unfold pX;rw[aF (by rw[bU e];simp)]
  rw[e2]at HK
  exact HK h3 (f2.aA f3)
 have e:=bS e
 have dA:=cR.aC f3
 have iR:=f2.aA f3
 refine dY (G.no iR) q _ fun h4 f4=>⟨_,rfl,dA.aC f4,fun e1=> ?_,fun e1=> ?_⟩
 ·have e2:pX aI rs p q=(0,false):=by unfold pX;rw[aF (by rw[e,bU e1];simp)]
  rw[e2]at HK
  exact HK h4 (iR.aA f4)
 have e1:=bS e1
 have e2:pX aI rs p q=cF aI (fun(_:Unit) s=>(decide (s.2=q),())) 0 2001 0 () (rs,p):=by unfold pX;rw[aJ (by rw[e,e1];rfl)]
 rw[e2]at HK
 generalize hR:cF aI (fun(_:Unit)(s:St)=>(decide (s.2=q),())) 0 2001 0 () (rs,p)=R at HK
 have jZ:=iR.aA f4
 have z4:=jZ.size
 refine⟨fun n i x y h'=>∃s':St,y=s'.2/\0<=i/\i+n=2001/\bE (fun k=>k≠b2) h' x s'.1/\iV aI s'/\Fr No h h'/\h2.size<=h'.size/\R=cF aI (fun(_:Unit)(s:St)=>(decide (s.2=q),())) 0 n i () s',⟨2001,(rs,p),rfl,by omega,by omega,(MK H eY).no jZ,eD e,jZ,by have:=f3.size;have:=f4.size;omega,hR.symm⟩,?_⟩
 rintro n i x y h5 ⟨s',rfl,i0,i1,r5,W5,f5,z5,eq⟩ iU
 refine⟨fun e3=>⟨fun e4=> ?_,fun e4=> ?_⟩,fun e3=> ?_⟩
 ·simp only[aT]at e3
  obtain⟨m,rfl⟩:∃m,n=m+1:=⟨n-1,by omega⟩
  rw[cF,aJ i0]at eq
  simp only[e4,jE]at eq
  rw[eq]at HK
  exact HK h5 f5
 ·simp only[aT]at e3
  obtain⟨m,rfl⟩:∃m,n=m+1:=⟨n-1,by omega⟩
  rw[cF,aJ i0]at eq
  simp only[e4]at eq
  refine rG (G.no f5) r5 W5 _ (fun hs h6 f6=>⟨x,s'.2,false,rfl,iU.aC f6,fun _ b3 h8 jY f8 gZ=> ?_,fun e=>by simp at e⟩) fun s2 hs t h6 o6 f6=>⟨t,s2.2,true,rfl,iU.aC f6,fun e=>by simp at e,fun _ b3 h9 jY f9 gM=> ?_⟩
  ·rw[hs]at eq
   simp only[wz,gz]at eq
   rw[eq]at HK
   exact HK h8 ((f5.aA f6).aA f8.aM)
  ·rw[hs]at eq
   simp only[wz,gz]at eq
   rw[aP (i+1) (by omega) (by omega)]
   refine⟨m,by omega,s2,rfl,by omega,by omega,?_,W5.step hs,(f5.aA f6).fresh f9 (fun k hk=> ?_),by have:=f6.size;have:=f9.size;omega,eq⟩
   ·refine(bE.fr (o6.yF) f9 fun k hk aQ=> ?_).mono fun k hk=> ?_
    ·simp only[In,aO,aS,aN]at aQ
     have:=hk.1
     omega
    ·have:=hk.1
     omega
   ·simp only[In,aO,aS,aN]at hk
    omega
 ·simp only[aW]at e3
  obtain rfl:n=0:=by omega
  rw[eq]at HK
  exact HK h5 f5
theorem A9{S S':aK}{h:Heap}{a b:Sl}{xs ys:aH}(H:bE S h a xs)(H':bE S' h b ys)(p q:Int):u4 aB 226 #[.agg #[a.v,VI p],.agg #[b.v,VI q]] h (VB (decide (p=q/\xs=ys))):=by
 intro K HK
 refine v226 a p b q h K ⟨fun e b1 b2 h2 fw eY f2 cR=> ?_,fun e=>⟨fun e1 b1 b2 h2 fw eY f2 cR=> ?_,fun e1 b1 b2 h2 fw eY f2 cR=> ?_⟩⟩
 ·have e:=bU e
  simp only[aW]at e
  rw[gU (fun e2=>e e2.1)]at HK
  exact HK _ f2.aM
 ·have e1:=bU e1
  rw[H.len,H'.len]at e1
  simp only[aW]at e1
  rw[gU (fun e2=>e1 (by rw[e2.2]))]at HK
  exact HK _ f2.aM
 ·have e:=bS e
  simp only[aT]at e
  have e1:=bS e1
  rw[H.len,H'.len]at e1
  have hl:xs.length=ys.length:=by simp at e1;omega
  have f2:=f2.aM
  have H2:=H.no f2
  have H2':=H'.no f2
  have HK2:=HK _ f2
  have e2:decide (p=q/\xs=ys)=decide (xs=ys):=by simp[e]
  rw[e2]at HK2
  refine⟨fun n i h'=>h'=h2/\0<=i/\i+n=(xs.length:Int)/\decide (xs=ys)=decide (xs.drop i.toNat=ys.drop i.toNat),⟨xs.length,rfl,by omega,by omega,by simp⟩,?_⟩
  rintro n i hh ⟨rfl,h0,h1,h3⟩ hL
  refine⟨fun e=> ?_,fun e=> ?_⟩
  ·have hi:=H2.lt e
   have jH:i<(ys.length:Int):=by omega
   refine⟨H2.bQ h0 hi,_,H2.get h0 hi,H2'.bQ h0 jH,_,H2'.get h0 jH,fun e=> ?_,fun e=> ?_⟩
   ·rw[drop_cons xs h0 hi,drop_cons ys h0 jH]at h3
    have e3:=bU e
    simp only[aW]at e3
    rw[h3,gU (fun e4=>e3 (List.cons.inj e4).1)]at HK2
    exact HK2
   ·rw[drop_cons xs h0 hi,drop_cons ys h0 jH]at h3
    have e3:=bS e
    simp only[aT]at e3
    rw[H2.succ h0 hi]
    refine⟨n-1,by omega,rfl,by omega,by omega,h3.trans ?_⟩
    rw[e3]
    simp
  ·have hi:=H2.ge e
   rw[jK (by omega),jK (by omega)]at h3
   rw[h3]at HK2
   exact HK2
def lJ(rs:aH)(p:Int)(_:Unit)(s:St):Bool×Unit:=(decide (p=s.2/\rs=s.1),())
theorem Ou{S S':aK}{h:Heap}{g w:Sl}{aI:aE}{rs:aH}(G:dE S h g aI)(H:bE S' h w rs)(p:Int)(W:iV aI (rs,p))(K:aL)(HK:∀h',Fr No h h'->K (VI (cF aI (lJ rs p) 1 2001 0 () (rs,p)).1) h'):aG aB 227 #[.agg #[g.v],.agg #[w.v,VI p],VI 2000] h K:=by
 refine v227 g w p 2000 h K fun b1 b2 b3 h4 fw eY jY f4 fi=> ?_
 have f4:=f4.aM
 have l3:b3<h4.size:=fi.head.lt
 have z4:=f4.size
 have hR0:cF aI (lJ rs p) 1 2001 0 () (rs,p)=match dH aI (rs,p)with
  |none=>(0,false)
  |some s'=>cF aI (lJ rs p) 1 2000 1 () s':=by rw[cF,aF (by omega)];rfl
 generalize hR:cF aI (lJ rs p) 1 2001 0 () (rs,p)=R at HK
 rw[hR]at hR0
 refine⟨fun n i x y h'=>∃s':St,y=s'.2/\1<=i/\i+n=2001/\bE (fun k=>k≠b3) h' x s'.1/\iV aI s'/\Fr No h h'/\h4.size<=h'.size/\R=(match dH aI s' with
  |none=>(0,false)
  |some s2=>cF aI (lJ rs p) 1 n i () s2),⟨2000,(rs,p),rfl,by omega,by omega,(MK H jY).no f4,W,f4,aY _,hR0⟩,?_⟩
 rintro n i x y h5 ⟨s',rfl,i0,i1,r5,W5,f5,z5,eq⟩ iU
 refine⟨fun e3=> ?_,fun e3=> ?_⟩
 ·simp only[aT]at e3
  obtain⟨m,rfl⟩:∃m,n=m+1:=⟨n-1,by omega⟩
  refine rG (G.no f5) r5 W5 _ (fun hs h6 f6=>⟨x,s'.2,false,rfl,iU.aC f6,fun _ b4 h8 Kj f8 gZ=> ?_,fun e=>by simp at e⟩) fun s2 hs t h6 o6 f6=>⟨t,s2.2,true,rfl,iU.aC f6,fun e=>by simp at e,fun _ b4 h9 Kj f9 gM=> ?_⟩
  ·rw[hs]at eq
   simp only at eq
   rw[eq]at HK
   exact HK h8 ((f5.aA f6).aA f8.aM)
  ·rw[hs]at eq
   simp only at eq
   rw[cF,aJ i0]at eq
   have z6:=f6.size
   have z9:=f9.size
   have amd:∀k,In [b3] k->h.size<=k:=fun k hk=>by simp only[In,aO,aS,aN]at hk;omega
   have PH:=(f5.aA f6).fresh f9 amd
   have r9:bE (fun k=>k≠b3) h9 t s2.1:=(bE.fr (o6.yF) f9 fun k hk aQ=>by
    simp only[In,aO,aS,aN]at aQ
    have:=hk.1
    omega).mono fun k hk=>by have:=hk.1;omega
   refine A9 r9 (H.no PH) s2.2 p _ fun fa f10=>⟨_,rfl,gM.aC f10,fun e=> ?_,fun e=> ?_⟩
   ·have e1:(lJ rs p () s2).1=true:=by
     simp only[aT]at e
     simp[lJ,e.1,e.2]
    rw[aJ e1]at eq
    rw[eq]at HK
    exact HK fa (PH.aA f10)
   ·have e1:¬(lJ rs p () s2).1=true:=by
     simp only[aW]at e
     simp only[lJ,aT]
     exact fun h=>e ⟨h.1.symm,h.2.symm⟩
    rw[aF e1]at eq
    rw[aP (i+1) (by omega) (by omega)]
    exact⟨m,by omega,s2,rfl,by omega,by omega,r9.no f10,W5.step hs,PH.aA f10,by have:=f10.size;omega,eq⟩
 ·simp only[aW]at e3
  obtain rfl:n=0:=by omega
  have:R=(0,false):=by
   rw[eq]
   split
   ·rfl
   ·rw[cF]
  rw[this]at HK
  exact HK h5 f5
def runT{τ:Type}(g:aE)(zK:τ->St->St->τ):Nat->τ->St->Option (τ×St)
 |0,t,s=>some (t,s)
 |n+1,t,s=>match dH g s with
  |none=>none
  |some s'=>runT g zK n (zK t s s') s'
theorem Ej{τ:Type}{g:aE}{zK:τ->St->St->τ}{s'':St}:∀(n:Nat)(t:τ)(s:St)(t':τ)(s':St),runT g zK n t s=some (t',s')->dH g s'=some s''->runT g zK (n+1) t s=some (zK t' s' s'',s'')
 |0,t,s,t',s',h,hs=>by
  simp only[runT,dD,fL]at h
  obtain⟨rfl,rfl⟩:=h
  rw[runT,hs]
  rfl
 |n+1,t,s,t',s',h,hs=>by
  rw[runT]at h
  rw[runT]
  split at h
  ·cases h
  ·rename_i s2 h2
   exact Ej n _ _ _ _ h hs
theorem QU{τ:Type}(zK:τ->St->St->τ)(C:Nat->τ->Heap->Prop)(T0:aK){F S:aK}{b:Nat}{h:Heap}{g w:Sl}{aI:aE}{s0:St}(G:dE S h g aI)(V:cC h b [w.v,VI s0.2])(H:cM h F w s0.1)(hS:∀k,S k->¬F k/\¬T0 k)(hFb:F b)(Kq:¬w.own b)(W:iV aI s0)(n:Int)(hn0:0<=n)(hn1:n<=1000000)(wt:Value)(t0:τ)
 (hF:∀k,F k->k<h.size) (hT0:∀k,T0 k->¬F k/\k<h.size) (hC0:∀N,h.size<=N->C N t0 h) (hC:∀N t h1 h2(U:aK),C N t h1->Fr U h1 h2->(∀k,U k->¬T0 k/\k<N)->C N t h2)
 (hw:∀N t s s' h1(K:aL),h.size<=N->N<=h1.size->C N t h1->cC h1 b [w.v,VI s'.2]->cM h1 F w s'.1->iV aI s->dH aI s=some s'->(∃m:Nat,(m:Int)<n/\runT aI zK m t0 s0=some (t,s))->(∀h2 v,C N (zK t s s') h2->Fr (fun k=>T0 k\/N<=k) h1 h2->K v h2)->iW aB wt [VI s.2] h1 K)
 (K:aL)
 (HN:runT aI zK n.toNat t0 s0=none->∀N t' h' p,h.size<=N->C N t' h'->cC h' b [w.v,VI p]->Fr (fun k=>F k\/T0 k) h h'->K (VB false) h')
 (HS:∀t' s',runT aI zK n.toNat t0 s0=some (t',s')->∀N h',h.size<=N->C N t' h'->cM h' F w s'.1->iV aI s'->cC h' b [w.v,VI s'.2]->Fr (fun k=>F k\/T0 k) h h'->K (VB true) h'):
 aG aB 206 #[.agg #[g.v],VP b 0,VI n,wt] h K:=by
 have hbl:=V.lt
 refine v206 g b w s0.2 n wt h K (.cons V (by simp) .nil) fun b2 h1 eY f1 cU=> ?_
 have f1:=f1.aM
 have l2:b2<h1.size:=cU.head.lt
 have z1:=f1.size
 have ML:∀k,F k->¬T0 k:=fun k hk aQ=>(hT0 k aQ).1 hk
 refine⟨fun m i x p h'=>∃(t:τ)(s':St),x=w/\p=s'.2/\0<=i/\i+m=n/\C h1.size t h'/\cM h' F w s'.1/\iV aI s'/\Fr (fun k=>F k\/T0 k) h h'/\h1.size<=h'.size/\runT aI zK i.toNat t0 s0=some (t,s')/\runT aI zK n.toNat t0 s0=runT aI zK m t s',⟨n.toNat,t0,s0,rfl,rfl,by omega,by omega,hC _ _ _ _ _ (hC0 _ z1) f1 (fun k hk=>hk.elim),Ow.no H f1,W,f1.aC,aY _,rfl,rfl⟩,?_⟩
 rintro m i x p h2 ⟨t,s',rfl,rfl,i0,i1,c2,o2,W2,f2,z2,hm,eq⟩ cR
 refine⟨fun e=> ?_,fun e=> ?_⟩
 ·simp only[aT]at e
  obtain⟨m,rfl⟩:∃q,m=q+1:=⟨m-1,by omega⟩
  rw[runT]at eq
  have G2:dE S h2 g aI:=G.fr f2 fun k hk aQ=>by
   rcases aQ with aQ|aQ
   ·exact(hS k hk).1 aQ
   ·exact(hS k hk).2 aQ
  refine Fw G2 cR.tail.head o2 (fun k hk=>(hS k hk).1) hFb Kq W2 _ (fun hs h3 f3=> ?_) fun s3 hs h3 o3 v3 f3=> ?_
  ·rw[hs]at eq
   have dA:=cR.aC f3
   exact⟨x,s'.2,_,rfl,dA,fun _=>HN eq _ _ h3 _ z1 (hC _ _ _ _ _ c2 f3 fun k hk=>hk.elim) dA.tail.head (f2.trans f3.aC),fun e=>by simp at e⟩
  ·rw[hs]at eq
   have dA:Vars h3 [(b2,[g.v]),(b,[x.v,VI s3.2])]:= .cons (cR.head.fr f3 fun hk=>by have:=hF _ hk;omega) (fun p hp=>by simp only[aO,aS,aN]at hp;subst hp;simp only;omega) (.cons v3 (by simp) .nil)
   have c3:=hC _ _ _ _ _ c2 f3 fun k hk=>⟨ML k hk,by have:=hF k hk;omega⟩
   have z3:=f3.size
   refine⟨x,s3.2,_,rfl,dA,fun e=>by simp at e,fun _=> ?_⟩
   refine hw h1.size t s' s3 h3 _ z1 (by omega) c3 v3 o3 W2 hs ⟨i.toNat,by omega,hm⟩ fun h4 v c4 f4=> ?_
   have fi:Vars h4 [(b2,[g.v]),(b,[x.v,VI s3.2])]:=dA.fr f4 fun p hp hk=>by
    simp only[aO,aS,aN]at hp
    rcases hp with rfl|rfl<;>simp only at hk
    ·rcases hk with hk|hk
     ·have:=(hT0 _ hk).2;omega
     ·omega
    ·rcases hk with hk|hk
     ·exact(hT0 _ hk).1 hFb
     ·have:=hF _ hFb;omega
   rw[aP (i+1) (by omega) (by omega)]
   refine⟨fi,m,by omega,_,s3,rfl,rfl,by omega,by omega,c4,Ow.fr o3 f4 fun k hk aQ=> ?_,W2.step hs,?_,by have:=f4.size;omega,by rw[ux i0];exact Ej _ _ _ _ _ hm hs,eq⟩
   ·have h5:=(o3.aR hk).1
    rcases aQ with aQ|aQ
    ·exact(hT0 _ aQ).1 h5
    ·have:=hF _ h5;omega
   ·refine⟨by have:=f2.size;have:=f4.size;omega,fun k hk ht=> ?_⟩
    rw[f4.same k (by have:=f2.size;omega) fun h=>by
     rcases h with h|h
     ·exact ht (.inr h)
     ·omega]
    rw[f3.same k (by have:=f2.size;omega) fun h=>ht (.inl h)]
    exact f2.same k hk ht
 ·simp only[aW]at e
  obtain rfl:m=0:=by omega
  rw[runT]at eq
  exact HS t s' eq h1.size h2 z1 c2 o2 W2 cR.tail.head f2
theorem Fx{S S':aK}{h:Heap}{g s:Sl}{aI:aE}{rs:aH}(G:dE S h g aI)(H:bE S' h s rs)(p n most:Int):u4 aB 205 #[.agg #[g.v],.agg #[s.v,VI p],VI n,VI most] h (VB (fS aI rs p&&jX 0 most n)):=by
 intro K HK
 refine akA g s p n most h K fun b1 b2 h2 fw eY f2 cR=> ?_
 have f2:=f2.aM
 refine rC (G.no f2) (H.no f2) p _ fun h3 f3=>⟨_,rfl,cR.aC f3,fun e=> ?_,fun e=> ?_⟩
 ·rw[e,fc]at HK
  exact fV _ _ _ _ _ ⟨_,rfl,cR.aC f3,HK _ (f2.aA f3)⟩
 ·rw[e,gI]at HK
  exact HK _ (f2.aA f3)
theorem Ek{S S':aK}{h:Heap}{g s:Sl}{aI:aE}{rs:aH}(G:dE S h g aI)(H:bE S' h s rs)(p n:Int):u4 aB 178 #[.agg #[g.v],.agg #[s.v,VI p],VI n] h (VB (fS aI rs p&&jX 0 2000 n)):=by
 intro K HK
 refine aj0 g s p n h K fun b1 b2 h2 fw eY f2 cR=> ?_
 have f2:=f2.aM
 refine gJ (G.no f2) (H.no f2) p _ fun h3 f3=>⟨_,rfl,cR.aC f3,fun e=> ?_,fun e=> ?_⟩
 ·rw[e,fc]at HK
  exact eM _ _ _ _ _ ⟨_,rfl,cR.aC f3,HK _ (f2.aA f3)⟩
 ·rw[e,gI]at HK
  exact HK _ (f2.aA f3)
def fe(g:aE)(rs:aH)(p n:Int):St×Bool:=
 if fS g rs p&&jX 0 2000 n then match runT g (fun(_:Unit) _ _=>()) n.toNat () (rs,p)with
  |none=>(([],0),false)
  |some (_,s)=>(s,true)
 else(([],0),false)
theorem MM{τ:Type}{g:aE}{zK:τ->St->St->τ}:∀(n:Nat)(t:τ)(s:St),iV g s->∀t' s',runT g zK n t s=some (t',s')->iV g s'
 |0,t,s,W,t',s',h=>by
  simp only[runT,dD,fL]at h
  rw[<-h.2];exact W
 |n+1,t,s,W,t',s',h=>by
  rw[runT]at h
  split at h
  ·cases h
  ·rename_i s2 hs
   exact MM n _ s2 (W.step hs) t' s' h
theorem MN{S S':aK}{h:Heap}{g w:Sl}{aI:aE}{rs:aH}(G:dE S h g aI)(H:bE S' h w rs)(p n:Int)(K:aL)(HK:∀t h',cM h' (Iv h.size h'.size) t (fe aI rs p n).1.1->Fr No h h'->K (.tuple #[.agg #[t.v,VI (fe aI rs p n).1.2],VB (fe aI rs p n).2]) h'):aG aB 161 #[.agg #[g.v],.agg #[w.v,VI p],VI n] h K:=by
 refine ajC g w p n h K fun b1 b2 b3 h3 fw eY jY f3 dA=> ?_
 have f3:=f3.aM
 have l3:b3<h3.size:=dA.head.lt
 have l2:b2<h3.size:=dA.tail.head.lt
 have l1:b1<h3.size:=dA.tail.tail.head.lt
 have z3:=f3.size
 refine Fx (G.no f3) (H.no f3) p n 2000 _ fun h4 f4=>⟨_,rfl,dA.aC f4,fun e h5 f5 iU=> ?_,fun e=> ?_⟩
 ·have e2:fe aI rs p n=(([],0),false):=by unfold fe;rw[aF (by rw[bU e];simp)]
  have f5:=f5.dI (lo:=h.size) (hi:=h3.size) ⟨⟨jY,l3⟩,trivial⟩
  have:=HK aD h5 (by rw[e2];exact Ow.nil _ _ _ _) ((f3.aA f4).aU f5 (aY _))
  rw[e2]at this
  exact this
 have e:=bS e
 have e2:fe aI rs p n=match runT aI (fun(_:Unit) _ _=>()) n.toNat () (rs,p)with
  |none=>(([],0),false)
  |some (_,s)=>(s,true):=by unfold fe;rw[aJ e]
 rw[bK,cA]at e
 have W:=eD e.1
 have Vb:=bD W.cN
 have fi:=dA.aC f4
 have z4:=f4.size
 have jZ:=f3.aA f4
 refine jR (H.no jZ) p (by have:=W.len;simp only at this;omega) _ fun u h6 o6 f6=>⟨u,p,rfl,fi.aC f6,fun b4 h8 Kj f8 gZ=> ?_⟩
 have f8:=f8.aM
 have z6:=f6.size
 have z8:=f8.size
 have l4:b4<h8.size:=gZ.head.lt
 have f48:=f6.aA f8
 have G8:dE (Iv 0 h4.size) h8 g aI:=(G.no jZ).gS.no f48
 have o8:cM h8 (Iv h4.size h8.size) u rs:=(Ow.no o6 f8).mono fun k _ hk=>⟨hk.1,by have:=hk.2;omega⟩
 have hub:¬u.own b4:=fun hk=>by have:=(o6.aR hk).2;omega
 have fT:∀{x y:Heap},Fr (fun k=>Iv h4.size h8.size k\/False) x y->Fr (Iv h4.size h8.size) x y:=fun f=>f.mono fun k _ hk=>by rcases hk with hk|hk;exact hk;exact hk.elim
 refine QU (s0:=(rs,p)) (fun(_:Unit) _ _=>()) (fun _ _ _=>True) (fun _=>False) G8 gZ.head o8 (fun k hk=>⟨fun aQ=>by have:=hk.2;have:=aQ.1;omega,fun h=>h⟩) ⟨by omega,l4⟩ hub W n (by omega) (by omega) _ () (fun k hk=>hk.2) (fun k hk=>hk.elim) (fun _ _=>trivial) (fun _ _ _ _ _ _ _ _=>trivial) (fun N t s s' h1 K hN hN2 _ V O W hs _ HK=> ?_) _ (fun hr N t h9 q hN _ v9 f9=> ?_) fun t' s' hr N h9 hN _ o9 W9 v9 f9=> ?_
 ·refine akD s.2 h1 K ?_
  exact HK h1 _ trivial (Fr.refl _ _)
 ·have f9:=fT f9
  have gM:Vars h9 [(b4,[u.v,VI q]),(b3,[aD.v,VI 0]),(b2,[w.v,VI p]),(b1,[g.v])]:= .cons v9 gZ.ne (gZ.tail.iv f9 ⟨.inl (by omega),.inl (by omega),.inl (by omega),trivial⟩)
  refine⟨u,q,_,rfl,gM,fun _ fa f10 ft=> ?_,fun e=>by simp at e⟩
  have f10:=f10.dI (lo:=h.size) (hi:=h3.size) ⟨⟨jY,l3⟩,trivial⟩
  rw[hr]at e2
  have:=HK aD fa (by rw[e2];exact Ow.nil _ _ _ _) (((jZ.aA f48).aU f9 (by omega)).aU f10 (aY _))
  rw[e2]at this
  exact this
 ·have f9:=fT f9
  have gM:Vars h9 [(b4,[u.v,VI s'.2]),(b3,[aD.v,VI 0]),(b2,[w.v,VI p]),(b1,[g.v])]:= .cons v9 gZ.ne (gZ.tail.iv f9 ⟨.inl (by omega),.inl (by omega),.inl (by omega),trivial⟩)
  refine⟨u,s'.2,_,rfl,gM,fun e=>by simp at e,fun _ fa f10 ft=> ?_⟩
  have f10:=f10.dI (lo:=h.size) (hi:=h3.size) ⟨⟨jY,l3⟩,trivial⟩
  rw[hr]at e2
  have z9:=f9.size
  have zM:=f10.size
  have:=HK u fa (by rw[e2];exact(Ow.iv o9 f10 (.inr (by omega))).mono fun k _ hk=>⟨by have:=hk.1;omega,by have:=hk.2;omega⟩) (((jZ.aA f48).aU f9 (by omega)).aU f10 (aY _))
  rw[e2]at this
  exact this
theorem QV{S S':aK}{h:Heap}{g w:Sl}{aI:aE}{rs:aH}(G:dE S h g aI)(H:bE S' h w rs)(p:Int)(K:aL)(HK:∀t h',cM h' (Iv h.size h'.size) t (fe aI rs p 1).1.1->Fr No h h'->K (.tuple #[.agg #[t.v,VI (fe aI rs p 1).1.2],VB (fe aI rs p 1).2]) h'):aG aB 156 #[.agg #[g.v],.agg #[w.v,VI p]] h K:=by
 refine ajv g w p h K fun b1 b2 b3 h3 fw eY jY f3 dA=> ?_
 have f3:=f3.aM
 have l3:b3<h3.size:=dA.head.lt
 have z3:=f3.size
 refine MN (G.no f3) (H.no f3) p 1 _ fun t h4 o4 f4=>⟨t,_,_,rfl,dA.aC f4,fun h5 f5 iU=> ?_⟩
 have f5:=f5.dI (lo:=h.size) (hi:=h3.size) ⟨⟨jY,l3⟩,trivial⟩
 have z5:=f5.size
 exact HK t h5 ((Ow.iv o4 f5 (.inr (aY _))).mono fun k _ hk=>⟨by have:=hk.1;omega,by have:=hk.2;omega⟩) ((f3.aA f4).aU f5 (aY _))
theorem Di{S S':aK}{h:Heap}{g w:Sl}{aI:aE}{rs:aH}(G:dE S h g aI)(H:bE S' h w rs)(p:Int)(K:aL)(HK:∀t h',cM h' (Iv h.size h'.size) t (fe aI rs p 1).1.1->Fr No h h'->K (.tuple #[.agg #[t.v,VI (fe aI rs p 1).1.2],VB (fe aI rs p 1).2]) h'):aG aB 128 #[.agg #[g.v],.agg #[w.v,VI p]] h K:=by
 refine aiZ g w p h K fun b1 b2 b3 h3 fw eY jY f3 dA=> ?_
 have f3:=f3.aM
 have l3:b3<h3.size:=dA.head.lt
 have z3:=f3.size
 refine gJ (G.no f3) (H.no f3) p _ fun h4 f4=>⟨_,rfl,dA.aC f4,fun e h5 f5 iU=> ?_,fun e=> ?_⟩
 ·have e2:fe aI rs p 1=(([],0),false):=by unfold fe;rw[aF (by rw[bU e];simp)]
  have f5:=f5.dI (lo:=h.size) (hi:=h3.size) ⟨⟨jY,l3⟩,trivial⟩
  have:=HK aD h5 (by rw[e2];exact Ow.nil _ _ _ _) ((f3.aA f4).aU f5 (aY _))
  rw[e2]at this
  exact this
 have e:=bS e
 have jZ:=f3.aA f4
 have e2:fe aI rs p 1=match dH aI (rs,p)with
  |none=>(([],0),false)
  |some s=>(s,true):=by
  unfold fe
  rw[aJ (by rw[e];rfl)]
  show(match runT aI (fun(_:Unit) _ _=>()) 1 () (rs,p)with
   |none=>(([],0),false)
   |some (_,s)=>(s,true))=_
  rw[runT]
  cases dH aI (rs,p)with
  |none=>rfl
  |some s=>rfl
 refine rG (s:=(rs,p)) (G.no jZ) (H.no jZ) (eD e) _ (fun hs h6 f6=>⟨w,p,false,rfl,(dA.aC f4).aC f6,fun _ b4 h9 Kj f9 gM=> ?_,fun e=>by simp at e⟩) fun s' hs t h6 o6 f6=>⟨t,s'.2,true,rfl,(dA.aC f4).aC f6,fun e=>by simp at e,fun _ b4 h9 Kj f9 gM=> ?_⟩
 ·have f9:=f9.dI (lo:=h.size) (hi:=h3.size) ⟨⟨jY,l3⟩,trivial⟩
  rw[hs]at e2
  have:=HK aD h9 (by rw[e2];exact Ow.nil _ _ _ _) ((jZ.aA f6).aU f9 (aY _))
  rw[e2]at this
  exact this
 ·have f9:=f9.dI (lo:=h.size) (hi:=h3.size) ⟨⟨jY,l3⟩,trivial⟩
  rw[hs]at e2
  have z4:=f4.size
  have z9:=f9.size
  have:=HK t h9 (by rw[e2];exact(Ow.iv o6 f9 (.inr (by omega))).mono fun k _ hk=>⟨by have:=hk.1;omega,by have:=hk.2;omega⟩) ((jZ.aA f6).aU f9 (aY _))
  rw[e2]at this
  exact this
structure Rn where
 s:St
 ps:aH
 vs:aH
 us:aE
def bump(l:aH)(i:Nat):aH:=l.set i (l.getD i 0+1)
def QW(g:aE):Nat->Rn->Option Rn
 |0,r=>some r
 |n+1,r=>match dH g r.s with
  |none=>none
  |some s'=>QW g n ⟨s',r.ps++[s'.2],bump r.vs s'.2.toNat,r.us.set r.s.2.toNat (bump (r.us.getD r.s.2.toNat []) (s'.1.getD r.s.2.toNat 0).toNat)⟩
def oz(g:aE):aE:=g.map fun l=>List.replicate l.length 0
def Ov(g:aE)(s:St):Rn:=⟨s,[s.2],List.replicate g.length 0,oz g⟩
structure Ox(g:aE)(m:Nat)(r:Rn):Prop where
 w:iV g r.s
 ps:r.ps.length=m+1
 vs:r.vs.length=g.length
 us:r.us.length=g.length
 row:∀i(h:i<r.us.length)(h':i<g.length),r.us[i].length=g[i].length
 vb:∀x,x∈r.vs->0<=x/\x<=m
 ub:∀l,l∈r.us->∀x,x∈l->0<=x/\x<=m
theorem rH(l:aH)(i:Nat):(bump l i).length=l.length:=by simp[bump]
theorem Ba{l:aH}{i m:Nat}(h:∀x,x∈l->0<=x/\x<=(m:Int)):∀x,x∈bump l i->0<=x/\x<=((m+1:Nat):Int):=by
 intro x hx
 unfold bump at hx
 rcases rJ hx with hx|rfl
 ·have:=h x hx;omega
 ·by_cases hi:i<l.length
  ·rw[bA hi]
   have:=h _ (bI hi)
   omega
  ·rw[show l.getD i 0=0 by simp[List.getD,List.getElem?_eq_none (by omega:l.length<=i)]]
   omega
theorem Ox.step{g:aE}{m:Nat}{r:Rn}(R:Ox g m r){s':St}(hs:dH g r.s=some s'):Ox g (m+1) ⟨s',r.ps++[s'.2],bump r.vs s'.2.toNat,r.us.set r.s.2.toNat (bump (r.us.getD r.s.2.toNat []) (s'.1.getD r.s.2.toNat 0).toNat)⟩:=by
 have hp:r.s.2.toNat<r.us.length:=by rw[R.us];have:=R.w.hi;have:=R.w.lo;omega
 refine⟨R.w.step hs,by simp[R.ps],by simp[rH,R.vs],by simp[R.us],fun i a b=> ?_,Ba R.vb,fun l hl=> ?_⟩
 ·simp only[bY]at a
  simp only[fQ]
  split
  ·rename_i e
   subst e
   rw[rH,bH hp]
   exact R.row _ a b
  ·exact R.row i a b
 ·rcases rJ hl with hl|rfl
  ·exact fun x hx=>by have:=R.ub l hl x hx;omega
  ·rw[bH hp]
   exact Ba (R.ub _ (bI hp))
theorem Zr{g:aE}{s:St}(W:iV g s):Ox g 0 (Ov g s):=by
 refine⟨W,rfl,by simp[Ov],by simp[Ov,oz],fun i a b=>by simp[Ov,oz],fun x hx=> ?_,fun l hl x hx=> ?_⟩
 ·simp only[Ov,uF]at hx
  omega
 ·simp only[Ov,oz,dN]at hl
  obtain⟨l',_,rfl⟩:=hl
  simp only[uF]at hx
  omega
theorem KU{S S':aK}{h:Heap}{g w:Sl}{aI:aE}{rs:aH}(G:dE S h g aI)(H:bE S' h w rs)(p n:Int)(W:iV aI (rs,p))(hn0:0<=n)(hn1:n<=2000)(K:aL)
 (HN:QW aI n.toNat (Ov aI (rs,p))=none->∀h',Fr No h h'->K (.tuple #[.agg #[aD.v,VI 0,aD.v,aD.v,aD.v],VB false]) h')
 (HS:∀r,QW aI n.toNat (Ov aI (rs,p))=some r->Ox aI n.toNat r->∀e ps vs us h',bE (fun _=>True) h' e r.s.1->bE (fun k=>h.size<=k) h' ps r.ps->bE (fun k=>h.size<=k) h' vs r.vs->dE (fun k=>h.size<=k) h' us r.us->Fr No h h'->K (.tuple #[.agg #[e.v,VI r.s.2,ps.v,vs.v,us.v],VB true]) h'):
 aG aB 179 #[.agg #[g.v],.agg #[w.v,VI p],VI n] h K:=by
 refine aj2 g w p n h K fun b1 b2 b3 h3 fw eY jY f3 dA=> ?_
 have f3:=f3.aM
 have l3:b3<h3.size:=dA.head.lt
 have l2:b2<h3.size:=dA.tail.head.lt
 have l1:b1<h3.size:=dA.tail.tail.head.lt
 have z3:=f3.size
 have Vb:=bD W.cN
 have hgt:=sX W.cN
 have lit:∀{h1:Heap}{K:aL},(∀t h2,cM h2 (Iv h1.size h2.size) t [p]->Fr No h1 h2->K t.v h2)->j5 aB (Instr.buildSlice mW 1 #[(0,VI p)]) h1 K:=fun HK=>bC gH (fun k=>_<=k) (fun _ h=>h) 1 (by omega) [VI p] rfl rfl fun t h2 n2 c2 o2 f2 m2 _=>HK t h2 (Ow.gS o2) f2
 have mk:∀{h1:Heap}{K:aL},(∀t h2,cM h2 (Iv h1.size h2.size) t (List.replicate aI.length 0)->Fr No h1 h2->K t.v h2)->j5 aB (Instr.makeSlice mW (VI (g.n:Int)) (VI (g.n:Int))) h1 K:=fun HK=>fO gH (fun k=>_<=k) (fun _ h=>h) .i64 .i64 g.n g.n (aY _) (by rw[G.len];omega) fun t h2 n2 c2 o2 f2 m2 _=>HK t h2 (Ow.gS (by
  have e:(List.replicate g.n [VI 0]).flatten=(List.replicate aI.length (0:Int)).map VI:=by rw[G.len];simp[kT]
  rw[e]at o2;exact o2)) f2
 refine⟨fun b x1 x2 x3 x4 x5 h'=>x1=w/\x2=p/\x5=aD/\∃i1 j1 i2 j2,cM h' (Iv i1 j1) x3 [p]/\cM h' (Iv i2 j2) x4 (List.replicate aI.length 0)/\(j1<=i2\/j2<=i1)/\(b<i1\/j1<=b)/\(b<i2\/j2<=b)/\h3.size<=i1/\h3.size<=i2/\h3.size<=b/\j1<=h'.size/\j2<=h'.size/\Fr No h3 h',⟨?_,?_,?_⟩,?_⟩
 ·refine lit fun t h4 o4 f4=>⟨t,rfl,dA.aC f4,?_⟩
  have z4:=f4.size
  have fi:=dA.aC f4
  refine⟨mk fun u h5 o5 f5=>⟨u,rfl,fi.aC f5,fun b5 h6 TY f6 kU h7 f7 jQ=> ?_⟩,fun b6 h8 Zs f8 gZ=>mk fun u h9 o9 f9=>⟨u,rfl,gZ.aC f9,fun fa f10 ft=> ?_⟩⟩
  ·have f6:=f6.aM
   have z5:=f5.size
   have z6:=f6.size
   have lb:=kU.head.lt
   have f7:=f7.dI (lo:=h5.size) (hi:=h6.size) ⟨⟨TY,lb⟩,trivial⟩
   have z7:=f7.size
   exact⟨rfl,rfl,rfl,h3.size,h4.size,h4.size,h5.size,((Ow.no o4 f5).no f6).iv f7 (by omega),(Ow.no o5 f6).iv f7 (by omega),by omega,by omega,by omega,by omega,by omega,by omega,by omega,by omega,((f4.aA f5).aA f6).aU f7 (by omega)⟩
  ·have f8:=f8.aM
   have z8:=f8.size
   have z9:=f9.size
   have lb:=gZ.head.lt
   have f10:=f10.dI (lo:=h4.size) (hi:=h8.size) ⟨⟨Zs,lb⟩,trivial⟩
   have zM:=f10.size
   exact⟨rfl,rfl,rfl,h3.size,h4.size,h8.size,h9.size,((Ow.no o4 f8).no f9).iv f10 (by omega),Ow.iv o9 f10 (by omega),by omega,by omega,by omega,by omega,by omega,by omega,by omega,by omega,((f4.aA f8).aA f9).aU f10 (by omega)⟩
 ·refine mk fun u h4 o4 f4=>⟨u,rfl,dA.aC f4,?_⟩
  have z4:=f4.size
  have fi:=dA.aC f4
  refine⟨lit fun t h5 o5 f5=>⟨t,rfl,fi.aC f5,fun b5 h6 TY f6 kU h7 f7 jQ=> ?_⟩,fun b6 h8 Zs f8 gZ=>lit fun t h9 o9 f9=>⟨t,rfl,gZ.aC f9,fun fa f10 ft=> ?_⟩⟩
  ·have f6:=f6.aM
   have z5:=f5.size
   have z6:=f6.size
   have lb:=kU.head.lt
   have f7:=f7.dI (lo:=h5.size) (hi:=h6.size) ⟨⟨TY,lb⟩,trivial⟩
   have z7:=f7.size
   exact⟨rfl,rfl,rfl,h4.size,h5.size,h3.size,h4.size,(Ow.no o5 f6).iv f7 (by omega),((Ow.no o4 f5).no f6).iv f7 (by omega),by omega,by omega,by omega,by omega,by omega,by omega,by omega,by omega,((f4.aA f5).aA f6).aU f7 (by omega)⟩
  ·have f8:=f8.aM
   have z8:=f8.size
   have z9:=f9.size
   have lb:=gZ.head.lt
   have f10:=f10.dI (lo:=h4.size) (hi:=h8.size) ⟨⟨Zs,lb⟩,trivial⟩
   have zM:=f10.size
   exact⟨rfl,rfl,rfl,h8.size,h9.size,h3.size,h4.size,Ow.iv o9 f10 (by omega),((Ow.no o4 f8).no f9).iv f10 (by omega),by omega,by omega,by omega,by omega,by omega,by omega,by omega,by omega,((f4.aA f8).aA f9).aU f10 (by omega)⟩
 ·intro b9 h4 hb9 f4 fi
  have f4:=f4.aM
  have z4:=f4.size
  have lb:=fi.head.lt
  refine⟨lit fun t h5 o5 f5=>⟨t,rfl,fi.aC f5,mk fun u h6 o6 f6=>⟨u,rfl,(fi.aC f5).aC f6,fun h7 f7 jQ=> ?_⟩⟩,mk fun u h5 o5 f5=>⟨u,rfl,fi.aC f5,lit fun t h6 o6 f6=>⟨t,rfl,(fi.aC f5).aC f6,fun h7 f7 jQ=> ?_⟩⟩⟩
  ·have z5:=f5.size
   have z6:=f6.size
   have f7:=f7.dI (lo:=h3.size) (hi:=h4.size) ⟨⟨hb9,lb⟩,trivial⟩
   have z7:=f7.size
   exact⟨rfl,rfl,rfl,h4.size,h5.size,h5.size,h6.size,(Ow.no o5 f6).iv f7 (by omega),Ow.iv o6 f7 (by omega),by omega,by omega,by omega,by omega,by omega,by omega,by omega,by omega,((f4.aA f5).aA f6).aU f7 (by omega)⟩
  ·have z5:=f5.size
   have z6:=f6.size
   have f7:=f7.dI (lo:=h3.size) (hi:=h4.size) ⟨⟨hb9,lb⟩,trivial⟩
   have z7:=f7.size
   exact⟨rfl,rfl,rfl,h5.size,h6.size,h4.size,h5.size,Ow.iv o6 f7 (by omega),(Ow.no o5 f6).iv f7 (by omega),by omega,by omega,by omega,by omega,by omega,by omega,by omega,by omega,((f4.aA f5).aA f6).aU f7 (by omega)⟩
 rintro b4 x1 x2 ps0 vs0 x5 Kk ⟨rfl,rfl,rfl,i1,j1,i2,j2,o1,o2,d12,d1,d2,e1,e2,e3,e4,e5,f25⟩ Oy
 have amf:=f3.aA f25
 have z25:=f25.size
 have lb4:b4<Kk.size:=Oy.head.lt
 refine⟨fun m i x6 x7 x8 x9 QX h'=>x6=x1/\x7=x2/\x8=ps0/\x9=vs0/\0<=i/\i+m=(aI.length:Int)/\ia h' (fun k=>Kk.size<=k) QX (oz (aI.take i.toNat))/\Fr (Iv b4 (b4+1)) Kk h'/\Kk.size<=h'.size,⟨aI.length,rfl,rfl,rfl,rfl,by omega,by omega,by simpa[oz]using dO.nil _ _ _ _,Fr.refl _ _,aY _⟩,?_⟩
 rintro m i x6 x7 x8 x9 QX vC ⟨rfl,rfl,rfl,rfl,i0,im,nC,f26,z26⟩ uG
 have KW:Fr No h vC:=amf.aU f26 (by omega)
 refine⟨fun e=> ?_,fun e=> ?_⟩
 ·have hi:=G.lt e
  obtain⟨si,c1,c2⟩:=(G.no KW).get i0 hi
  have hsi:=(bL W.cN (bI (show i.toNat<aI.length by omega))).1
  refine⟨(G.no KW).bQ i0 hi,si,c1,?_⟩
  refine fO gH (fun k=>vC.size<=k) (fun _ h=>h) .i64 .i64 si.n si.n (aY _) (by have:=c2.len;omega) fun t Vc n27 c27 QY f27 m27 _=>⟨t,rfl,uG.aC f27,?_⟩
  have QY:cM Vc (fun k=>vC.size<=k) t (List.replicate (aI[i.toNat]'(by omega)).length 0):=by
   have e:(List.replicate si.n [VI 0]).flatten=(List.replicate (aI[i.toNat]'(by omega)).length (0:Int)).map VI:=by rw[c2.len];simp[kT]
   rw[e]at QY;exact QY
  refine bC tN (fun k=>Vc.size<=k) (fun _ h=>h) 1 (by omega) [t.v] rfl rfl fun u h28 n28 c28 o28 f28 m28 _=>⟨u,rfl,(uG.aC f27).aC f28,?_⟩
  have z27:=f27.size
  have z28:=f28.size
  refine dO.snoc tN ((nC.gS.no f27).no f28) (F':=fun k=>Kk.size<=k) (fun k _ hk=>hk.1) (fun k hk=>by omega) ((Ow.no QY f28).mono fun k _ hk=>cB z26 hk) (fun k hk aQ=>by have:=(QY.aR hk).1;have:=aQ.2;omega) o28.rd (by simp[oz];omega) fun y h29 o29 f29=>⟨y,rfl,((uG.aC f27).aC f28).iv f29 ⟨.inl lb4,.inl (by omega),.inl (by omega),.inl (by omega),trivial⟩,fun h30 f30 amj=> ?_⟩
  have z29:=f29.size
  have f30:=f30.dI (lo:=b4) (hi:=b4+1) ⟨⟨aY _,pO _⟩,trivial⟩
  have z30:=f30.size
  rw[G.succ i0 hi]
  refine⟨m-1,by omega,rfl,rfl,rfl,rfl,by omega,by omega,?_,?_,by omega⟩
  ·rw[fJ aI i0 hi]
   have:oz (aI.take i.toNat++[aI[i.toNat]'(by omega)])=oz (aI.take i.toNat)++[List.replicate (aI[i.toNat]'(by omega)).length 0]:=by simp only[oz,cQ,bJ,jb]
   rw[this]
   exact(o29.gS.iv f30 (.inr (by omega))).mono fun k _ hk=>hk.1
  ·exact(f26.E4 (f27.aA f28).aC (fun k(hk:Iv Kk.size vC.size k)=>hk.1)).E4 f29 (fun k hk=>hk.1)|>.trans f30
 have hi:=G.ge e
 rw[cW (by omega)]at nC
 --the rounds
 generalize hR:QW aI n.toNat (Ov aI (rs,x7))=R at HN HS
 have Vd:=Ow.iv o1 f26 (by omega)
 have Zt:=Ow.iv o2 f26 (by omega)
 refine⟨fun q n2 QZ TZ MO x14 x15 h'=>∃(r:Rn)(m:Nat)(E:aK),Ox aI m r/\n2=q/\m+q=n.toNat/\TZ=r.s.2/\x14=x9/\x15=QX/\bE E h' QZ r.s.1/\(∀k,E k->(k<h.size\/vC.size<=k)/\k<h'.size/\¬MO.own k)/\cM h' (fun k=>h3.size<=k) MO r.ps/\(∀k,MO.own k->Iv i1 j1 k\/vC.size<=k)/\cM h' (Iv i2 j2) x9 r.vs/\ia h' (Iv Kk.size vC.size) QX r.us/\Fr No h h'/\vC.size<=h'.size/\R=QW aI q r,
  ⟨n.toNat,Ov aI (rs,x7),0,fun k=>k<h.size,Zr W,by omega,by omega,rfl,rfl,rfl,H.low.no KW,fun k hk=>⟨.inl hk,by have:=KW.size;omega,fun aQ=>by have:=(Vd.aR aQ).1.1;omega⟩,Vd.mono fun k _ hk=>by have:=hk.1;omega,fun k hk=> .inl (Vd.aR hk).1,Zt,nC.gS,KW,aY _,hR.symm⟩,?_⟩
 rintro q n2 QZ TZ MO x14 x15 h31 ⟨r,m',E,ok,rfl,hm,rfl,rfl,rfl,rE,hE,oP,hP,oV,oU,f31,z31,eq⟩ Ve
 refine⟨fun e=> ?_,fun e=> ?_⟩
 ·simp only[aT]at e
  obtain⟨q,rfl⟩:∃q',q=q'+1:=⟨q-1,by omega⟩
  rw[QW]at eq
  refine rG (G.no f31) rE ok.w _ (fun hs Zu f32=>⟨QZ,r.s.2,false,rfl,Ve.aC f32,fun _ b10 h35 afk f35 afl=> ?_,fun e=>by simp at e⟩) fun s' hs t Zu o32 f32=>⟨t,s'.2,true,rfl,Ve.aC f32,fun e=>by simp at e,fun _=> ?_⟩
  ·rw[hs]at eq
   have f35:=f35.dI (lo:=h.size) (hi:=h3.size) ⟨⟨jY,l3⟩,trivial⟩
   exact HN eq h35 ((f31.aA f32).aU f35 (aY _))
  ·rw[hs]at eq
   simp only at eq
   have z32:=f32.size
   have hp:r.s.2.toNat<r.us.length:=by rw[ok.us];have:=ok.w.hi;have:=ok.w.lo;omega
   have yM:=ok.w.lo
   have W':=ok.w.step hs
   have Vf:=W'.lo
   have arV:=W'.hi
   have arW:=ok.us
   have oP2:=Ow.no oP f32
   have oV2:=Ow.no oV f32
   have oU2:=oU.no f32
   have amm:=f31.aA f32
   refine⟨oU2.rd.bQ yM (by omega),fun b10 h34 afk f34 Zv=> ?_⟩
   have f34:=f34.aM
   have z34:=f34.size
   have oP4:=Ow.no oP2 f34
   have oV4:=Ow.no oV2 f34
   have oU4:=oU2.no f34
   have oT4:=Ow.no o32 f34
   obtain⟨si,d1',d2',d3'⟩:=oU4.inner yM (by omega)
   have afm:(r.us[r.s.2.toNat]'hp).length=(aI[r.s.2.toNat]'(by omega)).length:=ok.row _ hp (by omega)
   have hsl:si.n=(r.us[r.s.2.toNat]'hp).length:=bE.len d2'.fW
   have Ua:r.s.2.toNat<s'.1.length:=by rw[W'.len];omega
   have Zm:=W'.TX _ Ua (by omega)
   have fH:(aI[r.s.2.toNat]'(by omega)).length≠0:=fun h0=>by rw[pW ok.w (by omega) h0]at hs;cases hs
   have Fy:0<=s'.1[r.s.2.toNat]' Ua:=Zm.1
   have YR:s'.1[r.s.2.toNat]' Ua<((r.us[r.s.2.toNat]'hp).length:Int):=by omega
   have RT:bE (Iv h31.size Zu.size) h34 t s'.1:=oT4.yF
   have RU:bE (Iv Kk.size vC.size) h34 si (r.us[r.s.2.toNat]'hp):=d2'.yF
   have hub:=ok.ub _ (bI hp) _ (bI (show(s'.1[r.s.2.toNat]' Ua).toNat<(r.us[r.s.2.toNat]'hp).length by omega))
   have hwu:aX ((r.us[r.s.2.toNat]'hp)[(s'.1[r.s.2.toNat]' Ua).toNat]'(by omega)+1)=(r.us[r.s.2.toNat]'hp)[(s'.1[r.s.2.toNat]' Ua).toNat]'(by omega)+1:=aP _ (by omega) (by omega)
   refine⟨si,d1',RT.bQ yM (by omega),_,RT.get yM (by omega),RU.bQ Fy YR,_,RU.get Fy YR,RU.bQ Fy YR,?_⟩
   rw[hwu]
   obtain⟨w1,w2,w3⟩:=d2'.gF Fy (by omega) (VI ((r.us[r.s.2.toNat]'hp)[(s'.1[r.s.2.toNat]' Ua).toNat]'(by omega)+1))
   have rF:Fr (Iv Kk.size vC.size) h34 _:=w3.mono fun k _ hk=>(d2'.aR hk).1
   have Vg:=Zv.iv rF ⟨.inr (by omega),.inl lb4,.inl (by omega),.inl (by omega),.inl (by omega),trivial⟩
   refine⟨w1,Vg,fun h36 e36 _=> ?_⟩
   subst e36
   rw[<-ig]at w2
   have oU6:=d3' _ _ w3 w2
   have oV6:=Ow.iv oV4 rF (by omega)
   have Ub:=ok.vs
   have hV:s'.2.toNat<r.vs.length:=by omega
   have RV:bE (Iv i2 j2) _ x14 r.vs:=oV6.yF
   have hvb:=ok.vb _ (bI hV)
   have hwv:aX ((r.vs[s'.2.toNat]'hV)+1)=(r.vs[s'.2.toNat]'hV)+1:=aP _ (by omega) (by omega)
   refine⟨RV.bQ Vf (by omega),_,RV.get Vf (by omega),RV.bQ Vf (by omega),?_⟩
   rw[hwv]
   have hvn:x14.n=r.vs.length:=bE.len RV
   obtain⟨y1,y2,y3⟩:=oV6.gF Vf (by omega) (VI ((r.vs[s'.2.toNat]'hV)+1))
   have y3':Fr (Iv i2 j2) _ _:=y3.mono fun k _ hk=>(oV6.aR hk).1
   have Q0:=Vg.iv y3' ⟨.inr (by omega),(by have h1:=d2;exact h1.elim .inl .inr),.inl (by omega),.inl (by omega),.inl (by omega),trivial⟩
   refine⟨y1,Q0,fun h37 e37 _=> ?_⟩
   subst e37
   rw[<-ig]at y2
   have z36:=rF.size
   have z37:=y3'.size
   have afn:∀k,MO.own k->¬Iv Kk.size vC.size k:=fun k hk aQ=>by
    have h1:=aQ.1
    have h2:=aQ.2
    rcases hP k hk with h3|h3
    ·have:=h3.2;omega
    ·omega
   have tP:∀k,MO.own k->¬Iv i2 j2 k:=fun k hk aQ=>by
    have h1:=aQ.1
    have h2:=aQ.2
    rcases hP k hk with h3|h3
    ·have:=h3.1;have:=h3.2;omega
    ·omega
   have oP7:=(Ow.fr oP4 rF afn).fr y3' tP
   refine bC gH (fun k=>_<=k) (fun _ h=>h) 1 (by omega) [VI s'.2] rfl rfl fun v h38 n38 c38 o38 f38 m38 _=>⟨v,rfl,Q0.aC f38,?_⟩
   have z38:=f38.size
   have o38:bE v.own h38 v [s'.2]:=o38.rd
   have Q2:MO.n=r.ps.length:=bE.len oP7.fW
   have ar8:v.n=1:=o38.len
   refine cV gH (oP7.no f38) (fun k hk=>by omega) o38 (gr _) (by have:=ok.ps;omega) fun y Oz n39 o39 f39 d39=> ?_
   have z39:=f39.size
   have Q3:=(Q0.aC f38).fr f39 fun p hp hk=>by
    have h1:=(oP.aR hk).2
    have h2:=(oP.aR hk).1
    simp only[aO,aS,aN]at hp
    rcases hp with rfl|rfl|rfl|rfl|rfl<;>simp only at h1 h2 hk
    ·omega
    ·rcases hP _ hk with h3|h3
     ·have:=h3.1;have:=h3.2;omega
     ·omega
    ·omega
    ·omega
    ·omega
   refine⟨y,rfl,Q3,fun h41 f41 asb=> ?_⟩
   have f41:=f41.dI (lo:=b4) (hi:=b4+1) ⟨⟨aY _,pO _⟩,⟨aY _,pO _⟩,trivial⟩
   have z41:=f41.size
   have Kj:∀k,MO.own k->¬k=b4:=fun k hk e=>by
    subst e
    rcases hP _ hk with h3|h3
    ·have:=h3.1;have:=h3.2;omega
    ·omega
   rw[aP _ (by omega) (by omega)]
   rw[<-cQ]at o39
   have eV:r.vs.set s'.2.toNat ((r.vs[s'.2.toNat]'hV)+1)=bump r.vs s'.2.toNat:=by unfold bump;rw[bA hV]
   have eU:(r.us[r.s.2.toNat]'hp).set (s'.1[r.s.2.toNat]' Ua).toNat ((r.us[r.s.2.toNat]'hp)[(s'.1[r.s.2.toNat]' Ua).toNat]'(by omega)+1)=bump (r.us.getD r.s.2.toNat []) (s'.1.getD r.s.2.toNat 0).toNat:=by unfold bump;rw[bH hp,bA Ua,bA (by omega)]
   rw[eV]at y2
   rw[eU]at oU6
   have afo:∀k,MO.own k->¬Iv h31.size Zu.size k:=fun k hk aQ=>by have:=(oP.aR hk).2;have:=aQ.1;omega
   refine⟨q,by omega,_,m'+1,Iv h31.size Zu.size,ok.step hs,by omega,by omega,rfl,rfl,rfl,?_,fun k hk=>⟨.inr (by have:=hk.1;omega),by have:=hk.2;omega,fun aQ=> ?_⟩,?_,fun k hk=> ?_,?_,?_,?_,by omega,eq⟩
   ·exact(((((oT4.iv rF (by omega)).iv y3' (by omega)).no f38).fr f39 fun k hk aQ=>afo k aQ (oT4.aR hk).1).iv f41 (by omega)).yF
   ·rcases d39 k aQ with h1|h1
    ·exact afo k h1 hk
    ·have:=hk.2;omega
   ·exact Ow.fr o39 f41 fun k hk aQ=>by
     have h1:=aQ.1
     have h2:=aQ.2
     rcases d39 k hk with h3|h3
     ·exact Kj k h3 (by omega)
     ·omega
   ·rcases d39 k hk with h1|h1
    ·exact hP k h1
    ·exact .inr (by omega)
   ·exact((Ow.no y2 f38).fr f39 fun k hk aQ=>tP k aQ (y2.aR hk).1).iv f41 (by omega)
   ·exact(((oU6.iv y3' (by omega)).no f38).fr f39 fun k _ hk aQ=>afn k aQ hk).iv f41 (by omega)
   ·exact((((((amm.aA f34).aU rF (by omega)).aU y3' (by omega)).aA f38).fresh f39 fun k hk=>by have:=(oP.aR hk).1;omega).aU f41 (by omega))
 ·simp only[aW]at e
  obtain rfl:q=0:=by omega
  rw[QW]at eq
  intro h42 f42 amq
  have f42:=f42.dI (lo:=h.size) (hi:=h3.size) ⟨⟨jY,l3⟩,trivial⟩
  have em:m'=n.toNat:=by omega
  subst em
  refine HS r eq ok QZ MO x14 x15 h42 ?_ ?_ ?_ ?_ (f31.aU f42 (aY _))
  ·exact(bE.fr rE f42 fun k hk aQ=>by have:=(hE k hk).1;have:=aQ.1;have:=aQ.2;omega).mono fun _ _=>trivial
  ·exact(bE.fr oP.rd f42 fun k hk aQ=>by
    have h1:=aQ.1
    have h2:=aQ.2
    rcases hP k hk with h3|h3
    ·have:=h3.1;omega
    ·omega).mono fun k hk=>by have:=(oP.aR hk).1;omega
  ·exact(bE.iv oV.yF f42 (by omega)).mono fun k hk=>by have:=hk.1;omega
  ·exact(dE.iv oU.yF f42 (by omega)).mono fun k hk=>by have:=hk.1;omega
def Q4(r:Rn)(s':St):Rn:=⟨s',r.ps++[s'.2],bump r.vs s'.2.toNat,r.us.set r.s.2.toNat (bump (r.us.getD r.s.2.toNat []) (s'.1.getD r.s.2.toNat 0).toNat)⟩
theorem Fz{τ:Type}(g:aE)(f:Rn->τ)(zK:τ->St->St->τ)(hf:∀r s',f (Q4 r s')=zK (f r) r.s s'):∀(n:Nat)(r:Rn),runT g zK n (f r) r.s=(QW g n r).map fun r=>(f r,r.s)
 |0,r=>by simp[runT,QW]
 |n+1,r=>by
  rw[runT,QW]
  cases dH g r.s with
  |none=>rfl
  |some s'=>
   show runT g zK n (zK (f r) r.s s') s'=(QW g n (Q4 r s')).map _
   rw[<-Fz g f zK hf n (Q4 r s'),hf]
   rfl
theorem FA{S S':aK}{h:Heap}{g w:Sl}{aI:aE}{rs:aH}(G:dE S h g aI)(H:bE S' h w rs)(p n:Int)(K:aL)(HK:∀t h',cM h' (Iv h.size h'.size) t (fe aI rs p n).1.1->Fr No h h'->K (.tuple #[.agg #[t.v,VI (fe aI rs p n).1.2],VB (fe aI rs p n).2]) h'):aG aB 129 #[.agg #[g.v],.agg #[w.v,VI p],VI n] h K:=by
 refine ai1 g w p n h K fun b1 b2 b3 h3 fw eY jY f3 dA=> ?_
 have f3:=f3.aM
 have l3:b3<h3.size:=dA.head.lt
 have z3:=f3.size
 refine Ek (G.no f3) (H.no f3) p n _ fun h4 f4=>⟨_,rfl,dA.aC f4,fun e h5 f5 iU=> ?_,fun e=> ?_⟩
 ·have e2:fe aI rs p n=(([],0),false):=by unfold fe;rw[aF (by rw[bU e];simp)]
  have f5:=f5.dI (lo:=h.size) (hi:=h3.size) ⟨⟨jY,l3⟩,trivial⟩
  have:=HK aD h5 (by rw[e2];exact Ow.nil _ _ _ _) ((f3.aA f4).aU f5 (aY _))
  rw[e2]at this
  exact this
 have e:=bS e
 have e2:fe aI rs p n=match runT aI (fun(_:Unit) _ _=>()) n.toNat () (rs,p)with
  |none=>(([],0),false)
  |some (_,s)=>(s,true):=by unfold fe;exact aJ e
 rw[show runT aI (fun(_:Unit) _ _=>()) n.toNat () (rs,p)=_ from Fz aI (fun _=>()) (fun(_:Unit) _ _=>()) (fun _ _=>rfl) n.toNat (Ov aI (rs,p))]at e2
 rw[bK,cA]at e
 have W:=eD e.1
 have Vb:=bD W.cN
 have jZ:=f3.aA f4
 have fi:=dA.aC f4
 refine KU (G.no jZ) (H.no jZ) p n W e.2.1 e.2.2 _ (fun hr h6 f6=>⟨aD,0,aD,aD,aD,false,rfl,fi.aC f6,fun _ b4 h9 Kj f9 gM=> ?_,fun e=>by simp at e⟩) fun r hr ok e' ps vs us h6 r1 r2 r3 r4 f6=>⟨e',r.s.2,ps,vs,us,true,rfl,fi.aC f6,fun e=>by simp at e,fun _ b4 h8 Kj f8 gZ=> ?_⟩
 ·have f9:=f9.dI (lo:=h.size) (hi:=h3.size) ⟨⟨jY,l3⟩,trivial⟩
  rw[hr]at e2
  have:=HK aD h9 (by rw[e2];exact Ow.nil _ _ _ _) ((jZ.aA f6).aU f9 (aY _))
  rw[e2]at this
  exact this
 ·have f8:=f8.aM
  rw[hr]at e2
  have FB:=(jZ.aA f6).aA f8
  refine sW (r1.no f8) (by have:=ok.w.len;omega) _ fun t fa nC f10=>⟨t,rfl,gZ.aC f10,fun jq f11 iN=> ?_⟩
  have f11:=f11.dI (lo:=h.size) (hi:=h3.size) ⟨⟨jY,l3⟩,trivial⟩
  have z4:=f4.size
  have z6:=f6.size
  have z8:=f8.size
  have zM:=f10.size
  have Uc:=f11.size
  have:=HK t jq (by rw[e2];exact(Ow.iv nC f11 (.inr (by omega))).TU (by omega) (by omega)) ((FB.aA f10).aU f11 (aY _))
  rw[e2]at this
  exact this
def qx(t:aH)(_ s':St):aH:=t++[s'.2]
def km(g:aE)(rs:aH)(p n:Int):aH×Bool:=
 if fS g rs p&&jX 0 200 n then match runT g qx n.toNat [p] (rs,p)with
  |none=>([],false)
  |some (t,_)=>(t,true)
 else([],false)
def KX(t:aH)(_ s':St):aH:=bump t s'.2.toNat
def qH(g:aE)(rs:aH)(p n:Int):aH×Bool:=
 if fS g rs p&&jX 0 2000 n then match runT g KX n.toNat (List.replicate g.length 0) (rs,p)with
  |none=>([],false)
  |some (t,_)=>(t,true)
 else([],false)
theorem tQ{S S':aK}{h:Heap}{g w:Sl}{aI:aE}{rs:aH}(G:dE S h g aI)(H:bE S' h w rs)(p n:Int)(K:aL)(HK:∀t h',bE (Iv h.size h'.size) h' t (km aI rs p n).1->Fr No h h'->K (.tuple #[t.v,VB (km aI rs p n).2]) h'):aG aB 132 #[.agg #[g.v],.agg #[w.v,VI p],VI n] h K:=by
 refine ai5 g w p n h K fun b1 b2 h2 fw eY f2 cR=> ?_
 have f2:=f2.aM
 have no:km aI rs p n=([],false)->∀h',Fr No h h'->K (.tuple #[aD.v,VB false]) h':=fun e h' f=>by
  have:=HK aD h' (by rw[e];exact dK.nil _ _ _) f
  rw[e]at this
  exact this
 refine gJ (G.no f2) (H.no f2) p _ fun h3 f3=>⟨_,rfl,cR.aC f3,fun e=> ?_,fun e=> ?_⟩
 ·exact no (by unfold km;rw[aF (by rw[bU e];simp)]) _ (f2.aA f3)
 have e:=bS e
 have iR:=f2.aA f3
 have dA:=cR.aC f3
 refine eM _ _ _ _ _ ⟨_,rfl,dA,fun e1=> ?_,fun e1=> ?_⟩
 ·have e1:jX 0 200 n=false:=bU e1
  exact no (by unfold km;rw[aF (by rw[e,e1];simp)]) _ iR
 have e1:jX 0 200 n=true:=bS e1
 have e2:km aI rs p n=match runT aI qx n.toNat [p] (rs,p)with
  |none=>([],false)
  |some (t,_)=>(t,true):=by unfold km;exact aJ (by rw[e,e1];rfl)
 rw[show runT aI qx n.toNat [p] (rs,p)=_ from Fz aI Rn.ps qx (fun _ _=>rfl) n.toNat (Ov aI (rs,p))]at e2
 rw[cA]at e1
 have z03:=iR.size
 refine KU (G.no iR) (H.no iR) p n (eD e) e1.1 (by omega) _ (fun hr h6 f6=>⟨aD,0,aD,aD,aD,false,rfl,dA.aC f6,fun b3 h7 jY f7 jQ=> ?_⟩) fun r hr ok e' ps vs us h6 r1 r2 r3 r4 f6=>⟨e',r.s.2,ps,vs,us,true,rfl,dA.aC f6,fun b3 h7 jY f7 jQ=> ?_⟩
 ·rw[hr]at e2
  exact no e2 _ ((iR.aA f6).aA f7.aM)
 ·rw[hr]at e2
  have z7:=f7.aM.size
  have:=HK ps h7 (by rw[e2];exact((dK.lt r2).mono fun k hk=>⟨by have:=hk.1;omega,by have:=hk.2;omega⟩:bE _ h6 ps _).no f7.aM) ((iR.aA f6).aA f7.aM)
  rw[e2]at this
  exact this
theorem zg{S S':aK}{h:Heap}{g w:Sl}{aI:aE}{rs:aH}(G:dE S h g aI)(H:bE S' h w rs)(p n:Int)(K:aL)(HK:∀t h',bE (Iv h.size h'.size) h' t (qH aI rs p n).1->Fr No h h'->K (.tuple #[t.v,VB (qH aI rs p n).2]) h'):aG aB 133 #[.agg #[g.v],.agg #[w.v,VI p],VI n] h K:=by
 refine ai7 g w p n h K fun b1 b2 h2 fw eY f2 cR=> ?_
 have f2:=f2.aM
 have no:qH aI rs p n=([],false)->∀h',Fr No h h'->K (.tuple #[aD.v,VB false]) h':=fun e h' f=>by
  have:=HK aD h' (by rw[e];exact dK.nil _ _ _) f
  rw[e]at this
  exact this
 refine Ek (G.no f2) (H.no f2) p n _ fun h3 f3=>⟨_,rfl,cR.aC f3,fun e=> ?_,fun e=> ?_⟩
 ·exact no (by unfold qH;rw[aF (by rw[bU e];simp)]) _ (f2.aA f3)
 have e:=bS e
 have iR:=f2.aA f3
 have dA:=cR.aC f3
 have e2:qH aI rs p n=match runT aI KX n.toNat (List.replicate aI.length 0) (rs,p)with
  |none=>([],false)
  |some (t,_)=>(t,true):=by unfold qH;exact aJ e
 rw[show runT aI KX n.toNat (List.replicate aI.length 0) (rs,p)=_ from Fz aI Rn.vs KX (fun _ _=>rfl) n.toNat (Ov aI (rs,p))]at e2
 rw[bK,cA]at e
 have z03:=iR.size
 refine KU (G.no iR) (H.no iR) p n (eD e.1) e.2.1 e.2.2 _ (fun hr h6 f6=>⟨aD,0,aD,aD,aD,false,rfl,dA.aC f6,fun b3 h7 jY f7 jQ=> ?_⟩) fun r hr ok e' ps vs us h6 r1 r2 r3 r4 f6=>⟨e',r.s.2,ps,vs,us,true,rfl,dA.aC f6,fun b3 h7 jY f7 jQ=> ?_⟩
 ·rw[hr]at e2
  exact no e2 _ ((iR.aA f6).aA f7.aM)
 ·rw[hr]at e2
  have z7:=f7.aM.size
  have:=HK vs h7 (by rw[e2];exact((dK.lt r3).mono fun k hk=>⟨by have:=hk.1;omega,by have:=hk.2;omega⟩:bE _ h6 vs _).no f7.aM) ((iR.aA f6).aA f7.aM)
  rw[e2]at this
  exact this
theorem OA(g:aE)(rs:aH)(p n:Int):(km g rs p n).1.length<=201:=by
 unfold km
 split
 ·rename_i h
  rw[bK,cA]at h
  have key:∀(m:Nat)(t:aH)(s:St)(t':aH)(s':St),runT g qx m t s=some (t',s')->t'.length=t.length+m:=by
   intro m
   induction m with
   |zero=>
    intro t s t' s' h
    simp only[runT,dD,fL]at h
    rw[h.1]
    rfl
   |succ m ih=>
    intro t s t' s' h
    rw[runT]at h
    split at h
    ·cases h
    ·have:=ih _ _ _ _ h
     simp[qx]at this
     omega
  split
  ·simp
  ·rename_i t s hs
   have:=key _ _ _ _ _ hs
   simp at this
   simp only
   omega
 ·simp
theorem oQ{L:List (Nat×List Value)}{F:aK}{h:Heap}{o:Sl}{xs:aH}{x:Int}(O:cM h F o xs)(hF:∀k,h.size<=k->F k)(hL:Vars h L)(nF:∀p,p∈L->¬F p.1)(hb:xs.length<=1000000)(R:Sl->Heap->Prop)(HR:∀t h',cM h' F t (xs++[x])->Fr F h h'->Vars h' L->R t h'):j5 aB (Instr.buildSlice mW 1 #[(0,VI x)]) h fun rv h1=>∃t:Sl,rv=t.v/\Vars h1 L/\j5 aB (cD mW mW mW o.v t.v) h1 fun Bb h2=>∃t2:Sl,Bb=t2.v/\Vars h2 L/\R t2 h2:=by
 refine bC gH (fun k=>h.size<=k) (fun _ h=>h) 1 (by omega) [VI x] rfl rfl fun t h1 n1 c1 o1 f1 m1 _=>⟨t,rfl,hL.aC f1,?_⟩
 have z1:=f1.size
 have O1:cM h1 F o xs:=Ow.no O f1
 have on:=O1.rd.len
 have tn:=o1.rd.len
 simp only[bB,fE,List.length_cons,List.length_nil]at on tn
 refine cV gH O1 (fun k hk=>hF k (by omega)) o1.rd (gr [x]) (by omega) fun s' h2 n2 o2 f2 d2=> ?_
 have g2:Fr F h1 h2:=f2.mono fun k _ hk=>(O1.aR hk).1
 have V2:Vars h2 L:=(hL.aC f1).fr g2 nF
 exact⟨s',rfl,V2,HR s' h2 (by rw[cM,cQ];exact o2) (f1.aC.trans g2) V2⟩
theorem Vh{S:aK}{h:Heap}{s:Sl}{xs:aH}(H:bE S h s xs)(v:Int)(K:aL)(HK:K (VB (decide (v∈xs))) h):aG aB 229 #[s.v,VI v] h K:=by
 refine v229 s v h K ⟨fun n i h'=>h'=h/\0<=i/\i+n=(xs.length:Int)/\decide (v∈xs)=decide (v∈xs.drop i.toNat),⟨xs.length,rfl,by omega,by omega,by simp⟩,?_⟩
 rintro n i _ ⟨rfl,i0,i1,i2⟩ hL
 refine⟨fun e=> ?_,fun e=> ?_⟩
 ·have hi:=H.lt e
  rw[drop_cons xs i0 hi]at i2
  refine⟨H.bQ i0 hi,_,H.get i0 hi,fun e=> ?_,fun e=> ?_⟩
  ·simp only[aT]at e
   rw[i2,kk (by rw[e];exact cE)]at HK
   exact HK
  ·simp only[aW]at e
   rw[H.succ i0 hi]
   refine⟨n-1,by omega,rfl,by omega,by omega,?_⟩
   rw[i2,vD,aO]
   exact⟨fun h=>h.resolve_left fun h=>e h.symm,.inr⟩
 ·have hi:=H.ge e
  rw[jK (by omega)]at i2
  rw[i2]at HK
  simpa using HK
theorem Bc{S:aK}{h:Heap}{s:Sl}{xs:aH}(H:bE S h s xs)(v:Int)(K:aL)(HN:v∉xs->K (VI (-1)) h)(HS:∀i:Nat,i<xs.length->xs.getD i 0=v->(∀j,j<i->xs.getD j 0≠v)->K (VI i) h):aG aB 257 #[s.v,VI v] h K:=by
 refine alA s v h K ⟨fun n i h'=>h'=h/\0<=i/\i+n=(xs.length:Int)/\∀j:Nat,(j:Int)<i->xs.getD j 0≠v,⟨xs.length,rfl,by omega,by omega,fun j hj=>by omega⟩,?_⟩
 rintro n i _ ⟨rfl,i0,i1,i2⟩ hL
 refine⟨fun e=> ?_,fun e=> ?_⟩
 ·have hi:=H.lt e
  refine⟨H.bQ i0 hi,_,H.get i0 hi,fun e=> ?_,fun e=> ?_⟩
  ·simp only[aT]at e
   have:=HS i.toNat (by omega) (by rw[bA (by omega)];exact e.symm) fun j hj=>i2 j (by omega)
   rwa [show((i.toNat:Nat):Int)=i by omega]at this
  ·simp only[aW]at e
   rw[H.succ i0 hi]
   refine⟨n-1,by omega,rfl,by omega,by omega,fun j hj=> ?_⟩
   by_cases KY:(j:Int)<i
   ·exact i2 j KY
   ·have:j=i.toNat:=by omega
    subst this
    rw[bA (by omega)]
    exact fun h=>e h.symm
 ·have hi:=H.ge e
  refine HN fun hm=> ?_
  obtain⟨j,hj,e2⟩:=vE hm
  exact i2 j (by omega) (by rw[bA hj];exact e2)
theorem IH{S:aK}{h:Heap}{s:Sl}{xs:aH}(H:bE S h s xs)(v:Int)(K:aL)(HK:K (VB (decide (v∈xs))) h):aG aB 255 #[s.v,VI v] h K:=by
 refine alw s v h K (Bc H v _ (fun hn=>⟨_,rfl,.nil,?_⟩) fun i hi e _=>⟨_,rfl,.nil,?_⟩)
 ·rw[gU hn]at HK
  exact HK
 ·rw[kk (by rw[<-e,bA hi];exact bI _)]at HK
  rw[kk (by omega)]
  exact HK
theorem php:∀(N:Nat)(f:Nat->Nat),(∀i,i<=N->f i<N)->∃i j,i<j/\j<=N/\f i=f j
 |0,f,h=>by have:=h 0 (aY _);omega
 |N+1,f,h=>by
  by_cases hx:∃i,i<=N/\f i=f (N+1)
  ·obtain⟨i,h1,h2⟩:=hx
   exact⟨i,N+1,by omega,aY _,h2⟩
  ·have hx:∀i,i<=N->f i≠f (N+1):=fun i h1 h2=>hx ⟨i,h1,h2⟩
   obtain⟨i,j,h1,h2,h3⟩:=php N (fun i=>if f i=N then f (N+1)else f i) fun i hi=>by
    have a:=h i (by omega)
    have b:=h (N+1) (by omega)
    have c:=hx i hi
    (try simp only)
    split<;>omega
   refine⟨i,j,h1,by omega,?_⟩
   have a:=hx i (by omega)
   have b:=hx j h2
   (try simp only at h3)
   split at h3<;>split at h3<;>omega
def nx(g:aE)(rs:aH)(p:Int):Int:=if p<0 then-1 else if(g.getD p.toNat []).length=0 then-1 else(g.getD p.toNat []).getD (rs.getD p.toNat 0).toNat 0
def dZ(g:aE)(rs:aH)(p:Int):Nat->Int
 |0=>p
 |k+1=>nx g rs (dZ g rs p k)
section
variable {g:aE} {rs:aH} {a:Int}
theorem zN(W:iV g (rs,a)){p:Int}(h0:0<=p)(h1:p<(g.length:Int))(fH:(g[p.toNat]'(by omega)).length≠0):∃(hr:p.toNat<rs.length)(hm:(rs[p.toNat]).toNat<(g[p.toNat]'(by omega)).length),0<=rs[p.toNat]/\nx g rs p=(g[p.toNat]'(by omega))[(rs[p.toNat]).toNat]:=by
 have hl:rs.length=g.length:=W.len
 have hr:p.toNat<rs.length:=by omega
 have h:=W.TX p.toNat hr (by omega)
 have h2:0<=rs[p.toNat]:=h.1
 have h3:rs[p.toNat]<=max (((g[p.toNat]'(by omega)).length:Int)-1) 0:=h.2
 refine⟨hr,by omega,h2,?_⟩
 unfold nx
 rw[aF (by omega),bH (by omega),aF fH,bA hr,bA (by omega)]
theorem FC{p:Int}(h0:0<=p)(h1:p<(g.length:Int))(fH:(g[p.toNat]'(by omega)).length=0):nx g rs p= -1:=by
 unfold nx
 rw[aF (by omega),bH (by omega),aJ fH]
theorem Q5{p:Int}(h:p<0):nx g rs p= -1:=by unfold nx;rw[aJ h]
theorem afp(W:iV g (rs,a)){p:Int}(h1:p<(g.length:Int)): -1<=nx g rs p/\nx g rs p<(g.length:Int):=by
 by_cases h0:p<0
 ·rw[Q5 h0];omega
 by_cases fH:(g[p.toNat]'(by omega)).length=0
 ·rw[FC (by omega) h1 fH];omega
 ·obtain⟨hr,hm,h2,e⟩:=zN W (by omega) h1 fH
  rw[e]
  have:=(bL W.cN (bI (show p.toNat<g.length by omega))).2 _ (bI hm)
  omega
theorem mY(W:iV g (rs,a)){p:Int}(h0:0<=p)(h1:p<(g.length:Int)):∀k,-1<=dZ g rs p k/\dZ g rs p k<(g.length:Int)
 |0=>by simp only[dZ];omega
 |k+1=>by simp only[dZ];exact afp W (mY W h0 h1 k).2
theorem II{p:Int}{k:Nat}(h:dZ g rs p k<0):∀m,dZ g rs p (k+m)<0
 |0=>h
 |m+1=>by
  rw[<-kP,dZ,Q5 (II h m)]
  omega
theorem iq{p:Int}{k m:Nat}(h:dZ g rs p k<0)(hm:k<=m):dZ g rs p m<0:=by
 have:=II h (m-k)
 rwa [show k+(m-k)=m by omega]at this
theorem oR{p:Int}{i j:Nat}(h:dZ g rs p i=dZ g rs p j):∀m,dZ g rs p (i+m)=dZ g rs p (j+m)
 |0=>h
 |m+1=>by rw[<-kP,<-kP,dZ,dZ,oR h m]
theorem vF{p:Int}{i d:Nat}(h:dZ g rs p i=dZ g rs p (i+d))(r:Nat):∀c,dZ g rs p (i+r+d*c)=dZ g rs p (i+r)
 |0=>rfl
 |c+1=>by
  have:=oR h (r+d*c)
  rw[show i+r+d*(c+1)=i+d+(r+d*c) by rw[Nat.mul_succ];omega,<-this,<-kP]
  exact vF h r c
theorem zO{p:Int}{i d:Nat}(h:dZ g rs p i=dZ g rs p (i+d))(r:Nat):dZ g rs p (i+r)=dZ g rs p (i+r%d):=by
 have:=vF h (r%d) (r/d)
 rw[kP,Nat.mod_add_div]at this
 exact this
theorem vG(W:iV g (rs,a)){p:Int}(h0:0<=p)(h1:p<(g.length:Int))(h:0<=dZ g rs p g.length):∃i d,1<=d/\i+d<=g.length/\dZ g rs p i=dZ g rs p (i+d):=by
 have hn:∀k,k<=g.length->0<=dZ g rs p k:=fun k hk=>by
  by_cases hx:dZ g rs p k<0
  ·have:=iq hx hk;omega
  ·omega
 obtain⟨i,j,e1,e2,e3⟩:=php g.length (fun k=>(dZ g rs p k).toNat) fun k hk=>by
  have:=hn k hk
  have:=(mY W h0 h1 k).2
  (try simp only)
  omega
 refine⟨i,j-i,by omega,by omega,?_⟩
 rw[show i+(j-i)=j by omega]
 have:=hn i (by omega)
 have:=hn j e2
 (try simp only at e3)
 omega
theorem Bd(W:iV g (rs,a)){p:Int}(h0:0<=p)(h1:p<(g.length:Int))(h:0<=dZ g rs p g.length)(k:Nat):0<=dZ g rs p k:=by
 have hn:∀k,k<=g.length->0<=dZ g rs p k:=fun k hk=>by
  by_cases hx:dZ g rs p k<0
  ·have:=iq hx hk;omega
  ·omega
 obtain⟨i,d,e1,e2,e3⟩:=vG W h0 h1 h
 by_cases hk:k<=g.length
 ·exact hn k hk
 ·have:=zO e3 (k-i)
  rw[show i+(k-i)=k by omega]at this
  rw[this]
  have:=j9 (k-i) (show 0<d by omega)
  exact hn _ (by omega)
theorem Vj{p:Int}{i d n:Nat}(h:dZ g rs p i=dZ g rs p (i+d))(hd:1<=d)(hi:i<=n)(x:Int):x∈(List.range d).map (fun r=>dZ g rs p (i+r))↔∃k,n<=k/\dZ g rs p k=x:=by
 simp only[dN,ko]
 constructor
 ·rintro⟨r,hr,rfl⟩
  refine⟨i+r+d*n,?_,vF h r n⟩
  have:1*n<=d*n:=oh _ hd
  omega
 ·rintro⟨k,hk,rfl⟩
  refine⟨(k-i)%d,j9 _ hd,?_⟩
  rw[<-zO h]
  congr 1
  omega
end
structure yN(g:aE)(rs:aH)(p:Int)(i d:Nat):Prop where
 d1:1<=d
 eq:dZ g rs p i=dZ g rs p (i+d)
 inj:∀a b,a<b->b<i+d->dZ g rs p a≠dZ g rs p b
theorem oS{S S':aK}{h:Heap}{g w:Sl}{aI:aE}{rs:aH}{a:Int}(G:dE S h g aI)(H:bE S' h w rs)(W:iV aI (rs,a)){p:Int}(h0:0<=p)(h1:p<(aI.length:Int)):u4 aB 230 #[.agg #[g.v],w.v,VI p] h (VI (nx aI rs p)):=by
 intro K HK
 refine ak9 g w p h K ⟨G.bQ h0 h1,fun b1 h2 fw f2 cR=> ?_⟩
 have f2:=f2.aM
 have G2:=G.no f2
 have H2:=H.no f2
 obtain⟨si,c1,r1⟩:=G2.get h0 h1
 refine⟨si,c1,fun e=> ?_,fun e=> ?_⟩
 ·simp only[aT]at e
  rw[FC h0 h1 (by have:=r1.len;omega)]at HK
  exact HK h2 f2
 ·simp only[aW]at e
  obtain⟨hr,hm,e2,e3⟩:=zN W h0 h1 (by have:=r1.len;omega)
  rw[e3]at HK
  exact⟨G2.bQ h0 h1,si,c1,H2.bQ h0 (by omega),_,H2.get h0 (by omega),r1.bQ e2 (by omega),_,r1.get e2 (by omega),HK h2 f2⟩
theorem Zw{S S':aK}{h:Heap}{g w:Sl}{aI:aE}{rs:aH}{a:Int}(G:dE S h g aI)(H:bE S' h w rs)(W:iV aI (rs,a)){p:Int}(h0:0<=p)(h1:p<(aI.length:Int)):u4 aB 256 #[.agg #[g.v],w.v,VI p] h (VI (nx aI rs p)):=by
 intro K HK
 refine aly g w p h K ⟨G.bQ h0 h1,fun b1 h2 fw f2 cR=> ?_⟩
 have f2:=f2.aM
 have G2:=G.no f2
 have H2:=H.no f2
 obtain⟨si,c1,r1⟩:=G2.get h0 h1
 refine⟨si,c1,fun e=> ?_,fun e=> ?_⟩
 ·simp only[aT]at e
  rw[FC h0 h1 (by have:=r1.len;omega)]at HK
  exact HK h2 f2
 ·simp only[aW]at e
  obtain⟨hr,hm,e2,e3⟩:=zN W h0 h1 (by have:=r1.len;omega)
  rw[e3]at HK
  exact⟨G2.bQ h0 h1,si,c1,H2.bQ h0 (by omega),_,H2.get h0 (by omega),r1.bQ e2 (by omega),_,r1.get e2 (by omega),HK h2 f2⟩
theorem OB{S S':aK}{h:Heap}{g w:Sl}{aI:aE}{rs:aH}{a:Int}(G:dE S h g aI)(H:bE S' h w rs)(W:iV aI (rs,a)){p:Int}(h0:0<=p)(h1:p<(aI.length:Int))(K:aL)
 (HN:dZ aI rs p aI.length<0->∀h',Fr No h h'->K (.tuple #[aD.v,VB false]) h')
 (HS:0<=dZ aI rs p aI.length->∀t xs h',(∀x,x∈xs↔∃k,aI.length<=k/\dZ aI rs p k=x)->bE (fun _=>True) h' t xs->Fr No h h'->K (.tuple #[t.v,VB true]) h'):aG aB 228 #[.agg #[g.v],w.v,VI p] h K:=by
 refine v228 g w p h K fun b1 h2 fw f2 cR=> ?_
 have f2:=f2.aM
 have l1:b1<h2.size:=cR.head.lt
 have z2:=f2.size
 have Vb:=bD W.cN
 refine⟨fun n p' i h'=>0<=i/\i+n=(aI.length:Int)/\p'=dZ aI rs p i.toNat/\0<=p'/\Fr No h h'/\h2.size<=h'.size,⟨aI.length,by omega,by omega,rfl,h0,f2,aY _⟩,?_⟩
 rintro n p' i h3 ⟨i0,i1,rfl,p0,f3,z3⟩ dA
 have G3:=G.no f3
 have H3:=H.no f3
 refine⟨fun e=> ?_,fun e=> ?_⟩
 ·have hi:=G3.lt e
  refine oS G3 H3 W p0 (mY W h0 h1 _).2 _ fun h4 f4=>⟨_,rfl,dA.aC f4,fun e2=> ?_,fun e2=> ?_⟩
  ·simp only[aT]at e2
   refine HN ?_ h4 (f3.aA f4)
   exact iq (k:=i.toNat+1) (by rw[dZ];exact e2) (by omega)
  ·simp only[aW]at e2
   rw[G3.succ i0 hi]
   exact⟨n-1,by omega,by omega,by omega,by rw[ux i0,dZ],by omega,f3.aA f4,by have:=f4.size;omega⟩
 have hi:=G3.ge e
 have ei:i.toNat=aI.length:=by omega
 rw[ei]at p0
 rw[ei]
 obtain⟨i9,d,d1,d2,d3⟩:=vG W h0 h1 p0
 have hd:dZ aI rs p aI.length=dZ aI rs p (aI.length+d):=by
  have:=oR d3 (aI.length-i9)
  rw[show i9+(aI.length-i9)=aI.length by omega,show i9+d+(aI.length-i9)=aI.length+d by omega]at this
  exact this
 refine bC gH (fun k=>h3.size<=k) (fun _ h=>h) 1 (by omega) [VI (dZ aI rs p aI.length)] rfl rfl fun t h4 n4 c4 o4 f4 m4 _=>⟨t,rfl,dA.aC f4,?_⟩
 have z4:=f4.size
 have jZ:=f3.aA f4
 refine oS (G.no jZ) (H.no jZ) W p0 (mY W h0 h1 _).2 _ fun h5 f5=>⟨_,rfl,(dA.aC f4).aC f5,?_⟩
 have z5:=f5.size
 have uE:=jZ.aA f5
 refine⟨fun n x q h'=>∃m,1<=m/\m<=d/\n=d-m/\q=dZ aI rs p (aI.length+m)/\cM h' (fun k=>h3.size<=k) x ((List.range m).map fun r=>dZ aI rs p (aI.length+r))/\Fr No h h'/\h3.size<=h'.size,⟨d-1,1,aY _,d1,rfl,rfl,by show Ow _ _ _ _ _ _;simpa using Ow.no o4 f5,uE,by omega⟩,?_⟩
 rintro n x q h6 ⟨m,m1,m2,rfl,rfl,o6,f6,z6⟩ kU
 refine⟨fun e=> ?_,fun e=> ?_⟩
 ·have e:=bU e
  simp only[aW]at e
  have lI:m≠d:=fun h=>e (by rw[h];exact hd.symm)
  refine bC gH (fun k=>h6.size<=k) (fun _ h=>h) 1 (by omega) [VI (dZ aI rs p (aI.length+m))] rfl rfl fun u h7 n7 c7 o7 f7 m7 _=>⟨u,rfl,kU.aC f7,?_⟩
  have z7:=f7.size
  have r7:bE u.own h7 u [dZ aI rs p (aI.length+m)]:=o7.rd
  have hxn:x.n=m:=by have:=bE.len (Ow.fW o6:bE _ h6 x _);simpa using this
  refine cV gH (Ow.no o6 f7) (fun k hk=>by omega) r7 (gr _) (by have:=r7.len;simp at this;omega) fun y h8 n8 o8 f8 d8=>⟨y,rfl,(kU.aC f7).fr f8 (fun p hp hk=>by
   simp only[aO,aS,aN]at hp
   subst hp
   have:=(o6.aR hk).1
   simp only at this
   omega),?_⟩
  have z8:=f8.size
  have FB:Fr No h h8:=(f6.aA f7).fresh f8 fun k hk=>by have:=(o6.aR hk).1;omega
  refine oS (G.no FB) (H.no FB) W (Bd W h0 h1 p0 _) (mY W h0 h1 _).2 _ fun h9 f9=>⟨_,rfl,((kU.aC f7).fr f8 (fun p hp hk=>by
   simp only[aO,aS,aN]at hp
   subst hp
   have:=(o6.aR hk).1
   simp only at this
   omega)).aC f9,?_⟩
  have z9:=f9.size
  rw[<-cQ]at o8
  refine⟨d-(m+1),by omega,m+1,by omega,by omega,rfl,by rw[<-kP,dZ],?_,FB.aA f9,by omega⟩
  rw[pY,cQ,bJ,jb]
  exact Ow.no o8 f9
 ·have e:=bS e
  simp only[aT]at e
  exact HS p0 x _ h6 (Vj e.symm m1 (aY _)) ((Ow.fW o6:bE _ h6 x _).mono fun _ _=>trivial) f6
theorem FD{S S':aK}{h:Heap}{g w:Sl}{aI:aE}{rs:aH}{a:Int}(G:dE S h g aI)(H:bE S' h w rs)(W:iV aI (rs,a)){p:Int}(h0:0<=p)(h1:p<(aI.length:Int))(K:aL)
 (HN:dZ aI rs p aI.length<0->∀h',Fr No h h'->K (.tuple #[aD.v,VB false]) h')
 (HS:0<=dZ aI rs p aI.length->∀i d t h',yN aI rs p i d->i+d<=aI.length->bE (fun _=>True) h' t ((List.range d).map fun r=>dZ aI rs p (i+r))->Fr No h h'->K (.tuple #[t.v,VB true]) h'):aG aB 204 #[.agg #[g.v],w.v,VI p] h K:=by
 refine aky g w p h K fun b1 h2 fw f2 cR=> ?_
 have f2:=f2.aM
 have l1:b1<h2.size:=cR.head.lt
 have z2:=f2.size
 have Vb:=bD W.cN
 refine bC gH (fun k=>h2.size<=k) (fun _ h=>h) 0 (by omega) [] rfl rfl fun t0 h3 n3 c3 o3 f3 m3 _=>⟨t0,rfl,cR.aC f3,?_⟩
 have z3:=f3.size
 refine⟨fun n p' x h'=>∃m,m<=aI.length/\n=aI.length-m/\p'=dZ aI rs p m/\(∀k,k<=m->0<=dZ aI rs p k)/\cM h' (fun k=>h2.size<=k) x ((List.range m).map fun r=>dZ aI rs p r)/\(∀i j,i<j->j<m->dZ aI rs p i≠dZ aI rs p j)/\Fr No h h'/\h2.size<=h'.size,⟨aI.length,0,by omega,rfl,rfl,fun k hk=>by obtain rfl:k=0:=(by omega);exact h0,by show Ow _ _ _ _ _ _;simpa using o3,fun i j _ h=>by omega,f2.aA f3,z3⟩,?_⟩
 rintro n p' x h4 ⟨m,hm,rfl,rfl,Zx,o4,hd,f4,z4⟩ fi
 have r4:bE (fun k=>h2.size<=k) h4 x _:=o4.fW
 refine IH r4 _ _ ⟨_,rfl,fi,fun e=> ?_,fun e=> ?_⟩
 ·have e:=bU e
  simp only[aW,dN,ko]at e
  have hd2:∀i j,i<j->j<m+1->dZ aI rs p i≠dZ aI rs p j:=fun i j a b h=>by
   by_cases hj:j<m
   ·exact hd i j a hj h
   ·obtain rfl:j=m:=by omega
    exact e ⟨i,a,h⟩
  have Ki:m+1<=aI.length:=by
   by_cases hx:m+1<=aI.length
   ·exact hx
   ·exfalso
    obtain⟨i,j,e1,e2,e3⟩:=php aI.length (fun k=>(dZ aI rs p k).toNat) fun k hk=>by
     have:=Zx k (by omega)
     have:=(mY W h0 h1 k).2
     (try simp only)
     omega
    have a1:=Zx i (by omega)
    have a2:=Zx j (by omega)
    (try simp only at e3)
    exact hd2 i j e1 (by omega) (by omega)
  refine bC gH (fun k=>h4.size<=k) (fun _ h=>h) 1 (by omega) [VI (dZ aI rs p m)] rfl rfl fun u h5 n5 c5 o5 f5 m5 _=>⟨u,rfl,fi.aC f5,?_⟩
  have z5:=f5.size
  have r5:bE u.own h5 u [dZ aI rs p m]:=o5.rd
  have hxn:x.n=m:=by have:=r4.len;simpa using this
  refine cV gH (Ow.no o4 f5) (fun k hk=>by omega) r5 (gr _) (by have:=r5.len;simp at this;omega) fun y h6 n6 o6 f6 d6=> ?_
  have kU:=(fi.aC f5).fr f6 (fun p hp hk=>by
   simp only[aO,aS,aN]at hp
   subst hp
   have:=(o4.aR hk).1
   simp only at this
   omega)
  have z6:=f6.size
  have A7:Fr No h h6:=(f4.aA f5).fresh f6 fun k hk=>by have:=(o4.aR hk).1;omega
  refine⟨y,rfl,kU,Zw (G.no A7) (H.no A7) W (Zx m (aY _)) (mY W h0 h1 _).2 _ fun h7 f7=>⟨_,rfl,kU.aC f7,fun e2=> ?_,fun e2=> ?_⟩⟩
  ·simp only[aT]at e2
   exact HN (iq (k:=m+1) (by rw[dZ];exact e2) Ki) h7 (A7.aA f7)
  ·simp only[aW]at e2
   have z7:=f7.size
   rw[<-cQ]at o6
   refine⟨aI.length-(m+1),by omega,m+1,Ki,rfl,by rw[dZ],fun k hk=> ?_,?_,hd2,A7.aA f7,by omega⟩
   ·by_cases aQ:k<=m
    ·exact Zx k aQ
    ·obtain rfl:k=m+1:=by omega
     rw[dZ];omega
   ·rw[pY,cQ,bJ,jb]
    exact Ow.no o6 f7
 ·have e:=bS e
  simp only[aT]at e
  refine Bc r4 _ _ (fun hn=>absurd e hn) fun i hi ei hj=>⟨_,rfl,fi,jP gH .i64 (by omega) (by have:=r4.len;omega) ⟨_,rfl,?_⟩⟩
  have zP:i<m:=by simpa using hi
  rw[bA hi]at ei
  simp only[bV,kO]at ei
  have Be:dZ aI rs p i=dZ aI rs p (i+(m-i)):=by rw[show i+(m-i)=m by omega];exact ei
  have Zy:∀k,0<=dZ aI rs p k:=fun k=>by
   by_cases hk:k<=m
   ·exact Zx k hk
   ·have:=zO Be (k-i)
    rw[show i+(k-i)=k by omega]at this
    rw[this]
    have:=j9 (k-i) (show 0<m-i by omega)
    exact Zx _ (by omega)
  have hx:((((List.range m).map fun r=>dZ aI rs p r).drop i).take (x.n-i))=(List.range (m-i)).map fun r=>dZ aI rs p (i+r):=by
   have hxn:x.n=m:=by have:=r4.len;simpa using this
   apply j8
   ·simp;omega
   ·intro j a b
    simp
  have hc:=bE.cut r4 (l:=i) (m:=x.n) (by have:=r4.len;omega) (by have:=r4.len;omega)
  rw[hx]at hc
  exact HS (Zy _) i (m-i) _ h4 ⟨by omega,Be,fun a b e1 e2=>hd a b e1 (by omega)⟩ (by omega) (hc.mono fun _ _=>trivial) f4
theorem zQ{P:Program}{t:TypeId}{K:Value->Prop}(k:IntKind)(a b:Int)(H:K (.int k (bits .and k a b))):pop P (jm .and t (.int k a) (.int k b)) K:=
 .mk' (fun w=>by simp[jm,eqGuard,binOp,intBits_and,bind,Sem.bind,pure,Sem.run]) H
theorem sY{P:Program}{t:TypeId}{K:Value->Prop}(k:IntKind)(a b:Int)(hb:0<=b)(H:K (.int k (a.fdiv (2^(min b.toNat k.bits))))):pop P (jm .shr t (.int k a) (.int k b)) K:=
 .mk' (fun w=>by simp[jm,eqGuard,binOp,Op.shift,show¬b<0 by omega,bind,Sem.bind,pure,Sem.run]) H
theorem jy{P:Program}{src dst:TypeId}{k k':IntKind}(hs:P.underlying src=some (.int k))(hd:P.underlying dst=some (.int k')){h:Heap}{K:Value->Prop}(n:Int)(H:K (.int k' (k'.wrap n))):Da P (convert src dst (.int k n)) h K:=by
 have hk:P.intKind dst=k':=by simp[Program.intKind,hd]
 refine⟨_,fun w hw=>run_convert_int w src dst k n (by simp[hs]) (by rw[hk];exact hd),?_⟩
 rw[hk]
 exact H
theorem Q8{s:Sl}(h:s.n<=s.c):s.cut 1 0 s.n s.c=s:=by
 obtain⟨a,n,c⟩:=s
 unfold Sl.cut
 cases a with
 |none=>simp
 |some a=>simp[Mr]
theorem IJ{P:Program}{t t2 e ty:TypeId}{bs:Nat}{z:List Value}(T:qF P t=some (e,1,bs,z)){h:Heap}{F S:aK}{s x:Sl}{vs us:List Value}(H:Ow h F e 1 s vs)(X:dK S h 1 x us)(hp:us.all gQ=true)(l m:Nat)(hl:l<=s.n)(hm:m=min x.n (s.n-l))
 {K:aL} (HK:∀h',Ow h' F e 1 s (vs.take l++us.take m++vs.drop (l+m))->Fr s.own h h'->K (VI m) h'):j5 P (Builtin.copy_ #[t,t2] ty #[(s.cut 1 l s.n s.c).v,x.v]) h K:=by
 obtain⟨hu,i,zv,hi,tK,rfl,hz,hzc,X3,_,hbs,Qb,UO⟩:=kN T
 refine⟨fun w hw=> ?_⟩
 subst hw
 have Zz:(P.info? e).map (·.size)=some 1:=by rw[hi];simp[tK]
 have Ub:=H.len
 have hul:=X.len
 by_cases h0:m=0
 ·subst h0
  have hr:=run_copy_none (P:=P) w t t2 ty e (s.cut 1 l s.n s.c).a x.a (s.cut 1 l s.n s.c).n (s.cut 1 l s.n s.c).c x.n x.c hu Zz (by simp only[Sl.cut];exact hm.symm)
  refine⟨_,w,hr,dV.refl w,HK w.heap ?_ (Fr.refl _ _)⟩
  simpa using H
 ·rcases H.out with⟨rfl,rfl⟩|⟨g,o,ma,ha,hF,hg,h1,h2,h3,h4⟩
  ·simp[aD]at hm;omega
  ·obtain⟨a,hxa,_,_⟩:=X.cell 0 (by omega)
   have hcl:s.c≠l:=by omega
   have hda:(s.cut 1 l s.n s.c).a=some ⟨g,o+l,none⟩:=by simp[Sl.cut,hcl,ha,uy]
   have hr:=run_copy_row (P:=P) w t t2 ty e g (o+l) (s.n-l) (s.c-l) a x.n x.c ma e (us.take m) hu Zz hg (by rw[fD,hm];simp only[Nat.min_def];split<;>split<;>omega) (fun j v hj=>by
    obtain⟨ZA,rfl⟩:=AJ.1 hj
    have amt:j<us.length:=by simp at ZA;omega
    obtain⟨a',Og,_,hc⟩:=X.cell j amt
    rw[hxa]at Og
    obtain rfl:a=a':=by simpa using Og
    simp only[List.getElem_take]
    exact hc) (by simp;omega) (fun u hu=>by
    have:=j6.1 hp u (lR hu)
    cases u<;>simp[gQ]at this<;>rfl)
   have hml:(us.take m).length=m:=by simp;omega
   rw[hml]at hr
   have hv:(s.cut 1 l s.n s.c).v= .slice (some ⟨g,o+l,none⟩) (s.n-l) (s.c-l):=by simp only[Sl.v,hda];rfl
   have hxv:x.v= .slice (some a) x.n x.c:=by simp only[Sl.v,hxa]
   rw[<-hv,<-hxv]at hr
   refine⟨_,_,hr,⟨rfl,rfl,rfl⟩,HK _ ⟨?_,.inr ⟨g,o,_,ha,hF,setRow_heap w g ma _ e _ hg,h1,h2,?_,?_⟩⟩ ⟨by simp[World.setRow],fun k _ hk=>setRow_other w g k _ (fun e=>hk (by simp[Sl.own,ha,e]))⟩⟩
   ·simp;omega
   ·simp;omega
   ·have hol:(ma.toList.take (o+l)).length=o+l:=by simp;omega
    simp only[fE]at h4 Ub⊢
    have e1:(ma.toList.take (o+l)++us.take m++ma.toList.drop (o+l+m)).drop o=vs.take l++us.take m++ma.toList.drop (o+l+m):=by
     rw[gu,List.drop_append_of_le_length (by omega),List.drop_take,show o+l-o=l by omega,<-h4,List.take_take,Nat.min_eq_left hl,gu]
    (try simp only[List.toList_toArray])
    rw[e1,List.take_append,cW (by simp;omega)]
    congr 1
    have e2:(vs.take l++us.take m).length=l+m:=by simp;omega
    rw[e2,<-h4,List.drop_take,sR,kP]
theorem OC{P:Program}{t t2 e ty:TypeId}{bs:Nat}{z:List Value}(T:qF P t=some (e,1,bs,z)){h:Heap}{F S:aK}{s x:Sl}{vs us:List Value}(H:Ow h F e 1 s vs)(X:dK S h 1 x us)(hp:us.all gQ=true)(m:Nat)(hm:m=min x.n s.n)
 {K:aL} (HK:∀h',Ow h' F e 1 s (us.take m++vs.drop m)->Fr s.own h h'->K (VI m) h'):j5 P (Builtin.copy_ #[t,t2] ty #[s.v,x.v]) h K:=by
 have:=IJ (t2:=t2) (ty:=ty) T H X hp 0 m (by omega) (by simpa using hm) (K:=K) fun h' o f=>HK h' (by simpa using o) f
 rw[Q8 H.cap.1]at this
 exact this
theorem OD(a n:Int)(ha:a=1)(h0:0<=n)(h1:n<=100):bits .and .u64 a 4294967295=1/\bits .and .u64 n 4294967295=n/\bits .and .u64 0 4294967295=0:=by
 subst ha
 refine⟨by decide,?_,by decide⟩
 have key:∀k:Fin 101,bits .and .u64 (k.val:Int) 4294967295=(k.val:Int):=by decide
 have:=key ⟨n.toNat,by omega⟩
 simp only[show((n.toNat:Nat):Int)=n by omega]at this
 exact this
theorem wW{n:Int}(h0:0<=n)(h1:n<18446744073709551616):IntKind.u64.wrap n=n:=by
 simp only[IntKind.wrap,IntKind.bits,IntKind.signed]
 simp
 omega
theorem mZ{n:Int}(h0:0<=n)(h1:n<4294967296):n.fdiv (2^(min (32:Int).toNat IntKind.u64.bits))=0:=by
 have e:(2:Int)^(min (32:Int).toNat IntKind.u64.bits)=4294967296:=by decide
 rw[e,Int.fdiv_eq_ediv_of_nonneg _ (by omega)]
 omega
theorem Vk(n:Int)(h0:0<=n)(h1:n<=100)(h:Heap)(K:aL)(HK:K (.tuple #[.int .u64 0,.int .u64 n]) h):aG aB 288 #[.int .u64 1,.int .u64 n] h K:=by
 obtain⟨m1,m2,m3⟩:=OD 1 n rfl h0 h1
 refine al5 1 n h K (zQ _ _ _ ⟨1,by rw[m1],sY _ _ _ (by omega) ⟨0,by rw[mZ (by omega) (by omega)],zQ _ _ _ ⟨n,by rw[m2],sY _ _ _ (by omega) ⟨0,by rw[mZ (by omega) (by omega)],?_⟩⟩⟩⟩)
 have u0:IntKind.u64.wrap 0=0:=wW (by omega) (by omega)
 have un:IntKind.u64.wrap n=n:=wW h0 (by omega)
 simp only[jc,na,Int.mul_zero,mE,lS,u0,un]
 refine sY _ _ _ (by omega) ⟨0,by rw[mZ (by omega) (by omega)],?_⟩
 simp only[jc,na,Int.mul_zero,mE,lS,u0,un]
 refine zQ _ _ _ ⟨0,by rw[m3],sY _ _ _ (by omega) ⟨0,by rw[mZ (by omega) (by omega)],?_⟩⟩
 simp only[jc,na,Int.mul_zero,mE,lS,u0,un]
 refine sY _ _ _ (by omega) ⟨0,by rw[mZ (by omega) (by omega)],?_⟩
 simp only[jc,na,Int.mul_zero,mE,lS,u0,un]
 exact HK
theorem afr(n:Int)(h0:0<=n)(h1:n<=100)(h:Heap)(K:aL)(HK:K (.tuple #[.int .u64 0,.int .u64 n]) h):aG aB 282 #[.int .u64 1,.int .u64 n] h K:=
 al3 1 n h K (Vk n h0 h1 h _ ⟨_,_,rfl,.nil,HK⟩)
theorem Bf{S:aK}{h:Heap}{x:Sl}(v:Int)(X:bE S h x [v])(n:Nat)(h1:1<=n)(h8:n<=100)(K:aL)(HK:∀t h',cM h' (Iv h.size h'.size) t (List.replicate n v)->Fr No h h'->K t.v h'):aG aB 267 #[x.v,VI n] h K:=by
 have hx1:x.n=1:=by have:=X.len;simpa using this
 refine alS x n h K ⟨fun h'=>h'=h,⟨fun e=>by simp only[aT]at e;omega,fun _=>rfl⟩,?_⟩
 rintro _ rfl _
 refine jy (k:= .i64) (k':= .u64) (show Tryz.prog.underlying 3=some (.int .i64)from by kernel_rfl) (show Tryz.prog.underlying 166=some (.int .u64)from by kernel_rfl) _ ⟨1,by rw[hx1];rfl,jy (k:= .i64) (k':= .u64) (show Tryz.prog.underlying 3=some (.int .i64)from by kernel_rfl) (show Tryz.prog.underlying 166=some (.int .u64)from by kernel_rfl) _ ⟨n,by rw[wW (by omega) (by omega)],?_⟩⟩
 refine afr n (by omega) (by omega) _ _ ⟨_,_,rfl,.nil,⟨fun h'=>h'=_,⟨fun e=>by simp at e,fun _=>⟨fun e=>by simp only[aT]at e;omega,fun _=>rfl⟩⟩,?_⟩⟩
 rintro _ rfl _
 refine jy (k:= .u64) (k':= .i64) (show Tryz.prog.underlying 166=some (.int .u64)from by kernel_rfl) (show Tryz.prog.underlying 3=some (.int .i64)from by kernel_rfl) _ ⟨n,by rw[show IntKind.i64.wrap (n:Int)=n from aP n (by omega) (by omega)],?_⟩
 refine fO gH (fun k=>_<=k) (fun _ h=>h) .i64 .i64 n n (aY _) (by omega) fun t YK n1 c1 o1 f1 m1 _=>⟨t,rfl,.nil,?_⟩
 have e1:(List.replicate n [VI 0]).flatten=(List.replicate n (0:Int)).map VI:=by simp[kT]
 rw[e1]at o1
 have r1:=bE.no X f1
 have z1:=f1.size
 refine OC (P:=aB) gH o1 r1 (gr _) 1 (by omega) fun h2 o2 f2=>⟨1,rfl,.nil,?_⟩
 have e2:([v].map VI).take 1++((List.replicate n (0:Int)).map VI).drop 1=(List.replicate 1 v++List.replicate (n-1) 0).map VI:=by simp
 rw[e2]at o2
 refine⟨fun q m h'=>∃m':Nat,m=m'/\1<=m'/\m'<=n/\q=n-m'/\cM h' (fun k=>_<=k) t (List.replicate m' v++List.replicate (n-m') 0)/\Fr t.own YK h',⟨n-1,1,rfl,aY _,h1,rfl,o2,f2⟩,?_⟩
 rintro q m h3 ⟨m,rfl,q1,q2,rfl,o3,f3⟩ hL
 refine⟨fun e=> ?_,fun e=> ?_⟩
 ·simp only[aT]at e
  have ZB:t.n=n:=n1
  refine jP gH .i64 (by omega) (by omega) ⟨_,rfl,sQ gH .i64 (by omega) (by omega) ⟨_,rfl,?_⟩⟩
  simp only[Int.toNat_natCast]
  have r3:bE t.own h3 t _:=o3.rd
  have rb:=bE.cut r3 (l:=0) (m:=m) (by omega) (by simp;try omega)
  rw[oq,Nat.sub_zero,vl (by simp)]at rb
  refine IJ (P:=aB) gH o3 rb (gr _) m (min m (n-m)) (by omega) (by simp[Sl.cut,ZB]) fun h4 o4 f4=>⟨_,rfl,.nil,?_⟩
  have e4:((List.replicate m v++List.replicate (n-m) 0).map VI).take m++((List.replicate m v).map VI).take (min m (n-m))++((List.replicate m v++List.replicate (n-m) 0).map VI).drop (m+min m (n-m))=(List.replicate (m+min m (n-m)) v++List.replicate (n-(m+min m (n-m))) 0).map VI:=by
   rw[<-nQ,<-nQ,<-List.map_drop,<-cQ,<-cQ]
   congr 1
   rw[vl (by simp),List.take_replicate,List.drop_append,jK (by simp),List.nil_append,jd,List.drop_replicate,List.replicate_append_replicate]
   congr 2
   ·omega
   ·omega
  rw[e4]at o4
  rw[aP _ (by omega) (by omega)]
  exact⟨n-(m+min m (n-m)),by omega,m+min m (n-m),by omega,by omega,by omega,rfl,o4,f3.trans f4⟩
 ·simp only[aW]at e
  have ZB:t.n=n:=n1
  obtain rfl:m=n:=by omega
  rw[Nat.sub_self,List.replicate_zero,gK]at o3
  exact HK t h3 (Ow.gS o3) (f1.fresh f3 m1)
def nS(x:Int):aH->aH×aH->aH×aH
 |[],s=>s
 |q::qs,s=>nS x qs (if s.1.getD q.toNat 0<0 then(s.1.set q.toNat (s.1.getD x.toNat 0+1),s.2++[q])else s)
def FE(g:aE):Nat->aH->aH->aH
 |0,eB,_=>eB
 |_+1,eB,[]=>eB
 |f+1,eB,x::rest=>FE g f (nS x (g.getD x.toNat []) (eB,[])).1 (rest++(nS x (g.getD x.toNat []) (eB,[])).2)
def iS(g:aE)(p:Int):aH:=FE g g.length ((List.replicate g.length (-1)).set p.toNat 0) [p]
def kF(l:aH):Nat:=(l.filter fun x=>decide (x<0)).length
theorem Bg{l:aH}{i:Nat}{v:Int}(h:i<l.length)(h1:l[i]<0)(h2:0<=v):kF (l.set i v)+1=kF l:=by
 induction l generalizing i with
 |nil=>simp at h
 |cons x xs ih=>
  cases i with
  |zero=>
   simp only[List.getElem_cons_zero]at h1
   simp only[kF,List.set_cons_zero,List.filter_cons,show¬v<0 by omega,h1,decide_true,decide_false,jE,wz,gz,List.length_cons]
  |succ i=>
   have:=ih (by simpa using h) (by simpa using h1)
   simp only[kF,List.set_cons_succ,List.filter_cons]at this⊢
   split<;>(try simp only[List.length_cons])<;>simp_all<;>omega
structure Yg(n:Nat)(eB:aH):Prop where
 len:eB.length=n
 lo:∀v,v∈eB-> -1<=v
 hi:∀v,v∈eB->v+kF eB<=n
theorem Yg.step{n:Nat}{eB:aH}(B:Yg n eB){x q:Int}(hx:x.toNat<n)(hq:q.toNat<n)(hn:eB.getD q.toNat 0<0):Yg n (eB.set q.toNat (eB.getD x.toNat 0+1))/\kF (eB.set q.toNat (eB.getD x.toNat 0+1))+1=kF eB:=by
 have hl:=B.len
 rw[bA (by omega)]at hn
 rw[bA (show x.toNat<eB.length by omega)]
 have h1:=B.lo _ (bI (show x.toNat<eB.length by omega))
 have h2:=B.hi _ (bI (show x.toNat<eB.length by omega))
 have h3:=Bg (show q.toNat<eB.length by omega) hn (v:=eB[x.toNat]'(by omega)+1) (by omega)
 refine⟨⟨by simp[hl],fun v hv=> ?_,fun v hv=> ?_⟩,h3⟩
 ·rcases rJ hv with hv|rfl
  ·exact B.lo v hv
  ·omega
 ·rcases rJ hv with hv|rfl
  ·have:=B.hi v hv;omega
  ·omega
theorem OE{g:aE}{p:Int}(h:g.getD p.toNat []=[]):iS g p=(List.replicate g.length (-1)).set p.toNat 0:=by
 unfold iS
 cases hg:g.length with
 |zero=>rfl
 |succ n=>
  rw[FE,h]
  cases n<;>rfl
theorem ZC{n p:Nat}(hp:p<n):Yg n ((List.replicate n (-1)).set p 0)/\kF ((List.replicate n (-1)).set p 0)+1=n:=by
 have h1:kF (List.replicate n (-1))=n:=by
  unfold kF
  rw[List.filter_replicate_of_pos (by decide)]
  simp
 have h2:=Bg (l:=List.replicate n (-1)) (i:=p) (v:=0) (by simpa using hp) (by simp) (by omega)
 refine⟨⟨by simp,fun v hv=> ?_,fun v hv=> ?_⟩,by omega⟩
 ·rcases rJ hv with hv|rfl
  ·simp only[uF]at hv;omega
  ·omega
 ·rcases rJ hv with hv|rfl
  ·simp only[uF]at hv;omega
  ·omega
theorem Q9{g:aE}(hg:aZ g=true){x:Nat}(hx:x<g.length){i:Nat}(hi:i<(g[x]).length):0<=(g[x])[i]/\(g[x])[i]<(g.length:Int):=(bL hg (bI hx)).2 _ (bI hi)
theorem MP{S:aK}{h:Heap}{g:Sl}{aI:aE}(G:dE S h g aI)(hg:aZ aI=true){p:Int}(h0:0<=p)(h1:p<(aI.length:Int))(K:aL)(HK:∀t h',cM h' (Iv h.size h'.size) t (iS aI p)->(iS aI p).length=aI.length->Fr No h h'->K t.v h'):aG aB 271 #[.agg #[g.v],VI p] h K:=by
 refine alX g p h K fun b1 h2 fw f2 cR=> ?_
 generalize hR:iS aI p=R at HK
 have f2:=f2.aM
 have l1:b1<h2.size:=cR.head.lt
 have z2:=f2.size
 have Vb:=bD hg
 refine fO gH (fun k=>h2.size<=k) (fun _ h=>h) .i64 .i64 g.n g.n (aY _) (by rw[G.len];omega) fun t h3 n3 c3 o3 f3 m3 _=>⟨t,rfl,cR.aC f3,?_⟩
 have o3:cM h3 (Iv h2.size h3.size) t (List.replicate aI.length 0):=by
  have e:(List.replicate g.n [VI 0]).flatten=(List.replicate aI.length (0:Int)).map VI:=by rw[G.len];simp[kT]
  rw[e]at o3;exact Ow.gS o3
 have z3:=f3.size
 have iR:=f2.aA f3
 have ZB:t.n=aI.length:=by rw[n3,G.len]
 have dA:=cR.aC f3
 refine⟨fun n i h'=>0<=i/\i+n=(aI.length:Int)/\cM h' (Iv h2.size h3.size) t (List.replicate i.toNat (-1)++List.replicate n 0)/\Fr (Iv h2.size h3.size) h3 h',⟨aI.length,by omega,by omega,by simpa using o3,Fr.refl _ _⟩,?_⟩
 rintro n i h4 ⟨i0,i1,o4,f4⟩ fi
 refine⟨fun e=> ?_,fun e=> ?_⟩
 ·simp only[aT]at e
  obtain⟨w1,w2,w3⟩:=o4.gF i0 (by omega) (VI (-1))
  have rF:Fr (Iv h2.size h3.size) h4 _:=w3.mono fun _ _ hk=>(o4.aR hk).1
  have iU:=fi.iv rF ⟨.inl l1,trivial⟩
  refine⟨o4.bQ i0 (by omega),w1,iU,fun h5 e5 _=> ?_⟩
  subst e5
  rw[aP _ (by omega) (by omega)]
  refine⟨n-1,by omega,by omega,by omega,?_,f4.trans rF⟩
  rw[<-ig]at w2
  have e6:(List.replicate i.toNat (-1:Int)++List.replicate n 0).set i.toNat (-1)=List.replicate (i+1).toNat (-1)++List.replicate (n-1) 0:=by
   rw[List.set_append_right _ _ (by simp),jd,Nat.sub_self,ux i0,List.replicate_succ',gu]
   obtain⟨m,rfl⟩:∃m,n=m+1:=⟨n-1,by omega⟩
   simp[List.replicate_succ]
  rw[e6]at w2
  exact w2
 simp only[aW]at e
 obtain rfl:n=0:=by omega
 have ei:i.toNat=aI.length:=by omega
 rw[ei,List.replicate_zero,gK]at o4
 obtain⟨w1,w2,w3⟩:=o4.gF h0 (by omega) (VI 0)
 have rF:Fr (Iv h2.size h3.size) h4 _:=w3.mono fun _ _ hk=>(o4.aR hk).1
 have iU:=fi.iv rF ⟨.inl l1,trivial⟩
 refine⟨o4.bQ h0 (by omega),w1,iU,fun h5 e5 _=> ?_⟩
 subst e5
 rw[<-ig]at w2
 have uE:Fr No h _:=(iR.aU f4 (by omega)).aU rF (by omega)
 have z4:=f4.size
 have z5:=rF.size
 refine bC gH (fun k=>_<=k) (fun _ h=>h) 1 (by omega) [VI p] rfl rfl fun u h6 n6 c6 o6 f6 m6 _=>⟨u,rfl,iU.aC f6,?_⟩
 have z6:=f6.size
 have A7:=uE.aA f6
 have w6:=Ow.no w2 f6
 obtain⟨B0,N0⟩:=ZC (n:=aI.length) (p:=p.toNat) (by omega)
 refine⟨fun n x k h'=>∃(eB dn pZ:aH),0<=k/\k=dn.length/\n=pZ.length+kF eB/\dn.length+n=aI.length/\Yg aI.length eB/\(∀y,y∈pZ->0<=y/\y<(aI.length:Int))/\cM h' (Iv h2.size h3.size) t eB/\cM h' (fun k=>h3.size<=k) x (dn++pZ)/\Fr No h h'/\h3.size<=h'.size/\R=FE aI n eB pZ,
  ⟨aI.length,(List.replicate aI.length (-1)).set p.toNat 0,[],[p],by omega,rfl,by simp only[List.length_cons,List.length_nil];omega,by simp,B0,fun y hy=>by simp at hy;omega,w6,by show Ow _ _ _ _ _ _;simpa using o6.mono (F':=fun k=>h3.size<=k) fun k _ hk=>by omega,A7,by omega,hR.symm⟩,?_⟩
 rintro n x k h7 ⟨eB,dn,pZ,k0,rfl,rfl,ZD,B,hp,o7,q7,f7,z7,eq⟩ jQ
 have rq:bE (fun k=>h3.size<=k) h7 x (dn++pZ):=q7.fW
 refine⟨fun e=> ?_,fun e=> ?_⟩
 ·have hk:=rq.lt e
  rw[bT]at hk
  obtain⟨y,rest,rfl⟩:∃y rest,pZ=y::rest:=by
   cases pZ with
   |nil=>simp at hk
   |cons y rest=>exact⟨y,rest,rfl⟩
  have hy:=hp y cE
  have vH:y.toNat<aI.length:=by omega
  have hdl:(dn.length:Int)<((dn++y::rest).length:Int):=by simp only[bT,List.length_cons];omega
  have eg:∀hh,(dn++y::rest)[(dn.length:Int).toNat]'hh=y:=by intro hh;simp
  have c0:=rq.get k0 hdl
  rw[eg]at c0
  obtain⟨gi,c1,r1⟩:=G.get hy.1 hy.2
  have Ra:(y::rest).length+kF eB=(rest.length+kF eB)+1:=by simp only[List.length_cons];omega
  rw[Ra,FE,bH vH]at eq
  refine⟨rq.bQ k0 hdl,_,c0,(G.no f7).bQ hy.1 hy.2,gi,eJ c1 f7 (fun h=>h),?_⟩
  generalize hF:nS y (aI[y.toNat]' vH) (eB,[])=Fin at eq
  refine⟨fun m x' j h'=>∃(fk new:aH),0<=j/\j+m=((aI[y.toNat]' vH).length:Int)/\Yg aI.length fk/\new.length+kF fk=kF eB/\(∀y,y∈new->0<=y/\y<(aI.length:Int))/\cM h' (Iv h2.size h3.size) t fk/\cM h' (fun k=>h3.size<=k) x' (dn++y::rest++new)/\Fr No h h'/\h3.size<=h'.size/\Fin=nS y ((aI[y.toNat]' vH).drop j.toNat) (fk,new),
   ⟨(aI[y.toNat]' vH).length,eB,[],by omega,by omega,B,by simp,fun y hy=>by simp at hy,o7,by simpa using q7,f7,z7,by simpa using hF.symm⟩,?_⟩
  rintro m x' j h8 ⟨fk,new,j0,j1,B',hnw,P5,o8,q8,f8,z8,eF⟩ gZ
  have OG:bE S h8 gi (aI[y.toNat]' vH):=bE.no r1 f8
  have ZE:bE (fun k=>h3.size<=k) h8 x' (dn++y::rest++new):=q8.fW
  have OH:bE (Iv h2.size h3.size) h8 t fk:=o8.yF
  have PG:=B'.len
  refine⟨fun e2=> ?_,fun e2=> ?_⟩
  ·have hj:=OG.lt e2
   rw[drop_cons _ j0 hj,nS]at eF
   have hq:=Q9 hg vH (show j.toNat<(aI[y.toNat]' vH).length by omega)
   refine⟨OG.bQ j0 hj,_,OG.get j0 hj,OH.bQ hq.1 (by omega),_,OH.get hq.1 (by omega),fun e3=> ?_,fun e3=> ?_⟩
   ·simp only[aT]at e3
    have Rb:fk.getD ((aI[y.toNat]' vH)[j.toNat]'(by omega)).toNat 0<0:=by rw[bA (by omega)];exact e3
    obtain⟨B2,N2⟩:=B'.step (x:=y) (by omega) (by omega) Rb
    simp only[Rb,jE]at eF
    have hyv:=B'.hi _ (bI (show y.toNat<fk.length by omega))
    have amv:=B'.lo _ (bI (show y.toNat<fk.length by omega))
    have Rc:(dn.length:Int)<((dn++y::rest++new).length:Int):=by simp only[bT,List.length_cons];omega
    have eg8:∀hh,(dn++y::rest++new)[(dn.length:Int).toNat]'hh=y:=by intro hh;simp
    have c8:=ZE.get k0 Rc
    rw[eg8]at c8
    obtain⟨w1,w2,w3⟩:=o8.gF hq.1 (by have:=OH.len;omega) (VI (fk[y.toNat]'(by omega)+1))
    have rF:Fr (Iv h2.size h3.size) h8 _:=w3.mono fun _ _ hk=>(o8.aR hk).1
    have gM:=gZ.iv rF ⟨.inl l1,trivial⟩
    refine⟨ZE.bQ k0 Rc,_,c8,OH.bQ hy.1 (by omega),_,OH.get hy.1 (by omega),OH.bQ hq.1 (by omega),?_⟩
    rw[aP _ (by omega) (by omega)]
    refine⟨w1,gM,fun h9 e9 _=> ?_⟩
    subst e9
    rw[<-ig]at w2
    have z9:=rF.size
    have q9:=Ow.fr q8 rF fun k hk aQ=>by have h1:=(q8.aR hk).1;have:=aQ.2;(try simp only at h1);omega
    refine bC gH (fun k=>_<=k) (fun _ h=>h) 1 (by omega) [VI ((aI[y.toNat]' vH)[j.toNat]'(by omega))] rfl rfl fun v fa U9 c10 nC f10 m10 _=>⟨v,rfl,gM.aC f10,?_⟩
    have zM:=f10.size
    have r10:bE v.own fa v [(aI[y.toNat]' vH)[j.toNat]'(by omega)]:=nC.rd
    have PI:=ZE.len
    simp only[bT,List.length_cons]at PI ZD hk
    refine cV gH (Ow.no q9 f10) (fun k hk=>by omega) r10 (gr _) (by have:=r10.len;simp at this;omega) fun w jq n11 mD f11 d11=>⟨w,rfl,(gM.aC f10).fr f11 (fun p hp hk=>by
     simp only[aO,aS,aN]at hp
     subst hp
     have:=(q8.aR hk).1
     simp only at this
     omega),?_⟩
    have Uc:=f11.size
    rw[<-cQ]at mD
    rw[OG.succ j0 hj]
    refine⟨m-1,by omega,fk.set ((aI[y.toNat]' vH)[j.toNat]'(by omega)).toNat (fk.getD y.toNat 0+1),new++[(aI[y.toNat]' vH)[j.toNat]'(by omega)],by omega,by omega,B2,by simp only[bT,List.length_cons,List.length_nil];omega,fun z hz=> ?_,?_,?_,?_,by omega,eF⟩
    ·rcases gG.1 hz with hz|hz
     ·exact P5 z hz
     ·simp only[aO,aS,aN]at hz
      rw[hz];exact hq
    ·rw[bA (show y.toNat<fk.length by omega)]
     exact(Ow.no w2 f10).fr f11 fun k hk aQ=>by have h1:=(q8.aR aQ).1;have:=(o8.aR hk).1.2;(try simp only at h1);omega
    ·rw[<-gu]
     exact mD
    ·exact(((f8.aU rF (by omega)).aA f10).fresh f11 fun k hk=>by have h1:=(q8.aR hk).1;(try simp only at h1);omega)
   ·simp only[aW]at e3
    have Rb:¬fk.getD ((aI[y.toNat]' vH)[j.toNat]'(by omega)).toNat 0<0:=by rw[bA (by omega)];exact e3
    simp only[Rb,gz]at eF
    rw[OG.succ j0 hj]
    exact⟨m-1,by omega,fk,new,by omega,by omega,B',hnw,P5,o8,q8,f8,z8,eF⟩
  ·have hj:=OG.ge e2
   rw[jK (by omega),nS]at eF
   subst eF
   simp only[List.length_cons]at ZD
   rw[aP _ (by omega) (by omega)]
   refine⟨rest.length+kF eB,by simp only[List.length_cons];omega,fk,dn++[y],rest++new,by omega,by simp,by simp only[bT];omega,by simp only[bT,List.length_cons,List.length_nil];omega,B',fun z hz=> ?_,o8,by simpa using q8,f8,z8,?_⟩
   ·rcases gG.1 hz with hz|hz
    ·exact hp z (cK _ hz)
    ·exact P5 z hz
   ·exact eq
 ·have hk:=rq.ge e
  rw[bT]at hk
  obtain rfl:pZ=[]:=pJ (by omega)
  have e9:R=eB:=by
   rw[eq]
   simp only[List.length_nil,iM]
   cases kF eB<;>rfl
  subst e9
  exact HK t h7 (Ow.TU o7 (by omega) (by omega)) B.len f7
theorem El{S:aK}{h:Heap}{g:Sl}{aI:aE}(G:dE S h g aI)(hg:aZ aI=true){p:Int}(h0:0<=p)(h1:p<(aI.length:Int))(K:aL)(HK:∀t h',cM h' (Iv h.size h'.size) t (iS aI p)->(iS aI p).length=aI.length->Fr No h h'->K t.v h'):aG aB 260 #[.agg #[g.v],VI p] h K:=by
 refine alE g p h K fun b1 YK fw f1 cU=> ?_
 generalize hR:iS aI p=R at HK
 have f1:=f1.aM
 have l1:b1<YK.size:=cU.head.lt
 have z1:=f1.size
 have Vb:=bD hg
 refine bC gH (fun k=>YK.size<=k) (fun _ h=>h) 1 (by omega) [VI (-1)] rfl rfl fun m1 h2 n2 c2 o2 f2 _ _=>⟨m1,rfl,cU.aC f2,?_⟩
 have r2:bE (fun k=>YK.size<=k) h2 m1 [-1]:=o2.fW
 have z2:=f2.size
 have cR:=cU.aC f2
 rw[G.len]
 refine Bf (-1) r2 aI.length (by omega) (by omega) _ fun t h3 o3 f3=>⟨t,rfl,cR.aC f3,?_⟩
 have z3:=f3.size
 have iR:=(f1.aA f2).aA f3
 have dA:=cR.aC f3
 have ZB:t.n=aI.length:=by have:=bE.len (Ow.fW o3:bE _ h3 t _);simpa using this
 obtain⟨w1,w2,w3⟩:=o3.gF h0 (by omega) (VI 0)
 have rF:Fr (Iv h2.size h3.size) h3 _:=w3.mono fun _ _ hk=>(o3.aR hk).1
 have iU:=dA.iv rF ⟨.inl (by omega),trivial⟩
 refine⟨o3.bQ h0 (by omega),w1,iU,fun h5 e5 _=> ?_⟩
 subst e5
 rw[<-ig]at w2
 have uE:Fr No h _:=iR.aU rF (by omega)
 have z5:=rF.size
 refine bC gH (fun k=>_<=k) (fun _ h=>h) 1 (by omega) [VI p] rfl rfl fun u h6 n6 c6 o6 f6 m6 _=>⟨u,rfl,iU.aC f6,?_⟩
 have z6:=f6.size
 have A7:=uE.aA f6
 have w6:=Ow.no w2 f6
 obtain⟨B0,N0⟩:=ZC (n:=aI.length) (p:=p.toNat) (by omega)
 refine⟨fun n x h'=>∃(eB pZ:aH),n=pZ.length+kF eB/\n<=aI.length/\Yg aI.length eB/\(∀y,y∈pZ->0<=y/\y<(aI.length:Int))/\cM h' (Iv h2.size h3.size) t eB/\cM h' (fun k=>h3.size<=k) x pZ/\Fr No h h'/\h3.size<=h'.size/\R=FE aI n eB pZ,
  ⟨aI.length,(List.replicate aI.length (-1)).set p.toNat 0,[p],by simp only[List.length_cons,List.length_nil];omega,aY _,B0,fun y hy=>by simp at hy;omega,w6,by show Ow _ _ _ _ _ _;simpa using o6.mono (F':=fun k=>h3.size<=k) fun k _ hk=>by omega,A7,by omega,hR.symm⟩,?_⟩
 rintro n x h7 ⟨eB,pZ,rfl,ZD,B,hp,o7,q7,f7,z7,eq⟩ jQ
 have rq:bE (fun k=>h3.size<=k) h7 x pZ:=q7.fW
 have PI:=rq.len
 refine⟨fun e=> ?_,fun e=> ?_⟩
 ·simp only[aT]at e
  obtain⟨y,rest,rfl⟩:∃y rest,pZ=y::rest:=by
   cases pZ with
   |nil=>simp at PI;omega
   |cons y rest=>exact⟨y,rest,rfl⟩
  have hy:=hp y cE
  have vH:y.toNat<aI.length:=by omega
  have hdl:(0:Int)<((y::rest).length:Int):=by simp only[List.length_cons];omega
  have eg:∀hh,(y::rest)[(0:Int).toNat]'hh=y:=by intro hh;simp
  have c0:=rq.get (cL 0) hdl
  rw[eg]at c0
  obtain⟨gi,c1,r1⟩:=G.get hy.1 hy.2
  have Ra:(y::rest).length+kF eB=(rest.length+kF eB)+1:=by simp only[List.length_cons];omega
  rw[Ra,FE,bH vH]at eq
  refine⟨rq.bQ (cL 0) hdl,_,c0,(G.no f7).bQ hy.1 hy.2,gi,eJ c1 f7 (fun h=>h),?_⟩
  generalize hF:nS y (aI[y.toNat]' vH) (eB,[])=Fin at eq
  refine⟨fun m x' j h'=>∃(fk new:aH),0<=j/\j+m=((aI[y.toNat]' vH).length:Int)/\Yg aI.length fk/\new.length+kF fk=kF eB/\(∀y,y∈new->0<=y/\y<(aI.length:Int))/\cM h' (Iv h2.size h3.size) t fk/\cM h' (fun k=>h3.size<=k) x' (y::rest++new)/\Fr No h h'/\h3.size<=h'.size/\Fin=nS y ((aI[y.toNat]' vH).drop j.toNat) (fk,new),
   ⟨(aI[y.toNat]' vH).length,eB,[],by omega,by omega,B,by simp,fun y hy=>by simp at hy,o7,by simpa using q7,f7,z7,by simpa using hF.symm⟩,?_⟩
  rintro m x' j h8 ⟨fk,new,j0,j1,B',hnw,P5,o8,q8,f8,z8,eF⟩ gZ
  have OG:bE S h8 gi (aI[y.toNat]' vH):=bE.no r1 f8
  have ZE:bE (fun k=>h3.size<=k) h8 x' (y::rest++new):=q8.fW
  have OH:bE (Iv h2.size h3.size) h8 t fk:=o8.yF
  have PG:=B'.len
  have amx:=ZE.len
  simp only[bT,List.length_cons]at amx ZD
  refine⟨fun e2=> ?_,fun e2=> ?_⟩
  ·have hj:=OG.lt e2
   rw[drop_cons _ j0 hj,nS]at eF
   have hq:=Q9 hg vH (show j.toNat<(aI[y.toNat]' vH).length by omega)
   refine⟨OG.bQ j0 hj,_,OG.get j0 hj,OH.bQ hq.1 (by omega),_,OH.get hq.1 (by omega),fun e3=> ?_,fun e3=> ?_⟩
   ·simp only[aT]at e3
    have Rb:fk.getD ((aI[y.toNat]' vH)[j.toNat]'(by omega)).toNat 0<0:=by rw[bA (by omega)];exact e3
    obtain⟨B2,N2⟩:=B'.step (x:=y) (by omega) (by omega) Rb
    simp only[Rb,jE]at eF
    have hyv:=B'.hi _ (bI (show y.toNat<fk.length by omega))
    have amv:=B'.lo _ (bI (show y.toNat<fk.length by omega))
    have Rc:(0:Int)<((y::rest++new).length:Int):=by simp only[bT,List.length_cons];omega
    have eg8:∀hh,(y::rest++new)[(0:Int).toNat]'hh=y:=by intro hh;simp
    have c8:=ZE.get (cL 0) Rc
    rw[eg8]at c8
    obtain⟨w1,w2,w3⟩:=o8.gF hq.1 (by have:=OH.len;omega) (VI (fk[y.toNat]'(by omega)+1))
    have rF:Fr (Iv h2.size h3.size) h8 _:=w3.mono fun _ _ hk=>(o8.aR hk).1
    have gM:=gZ.iv rF ⟨.inl (by omega),trivial⟩
    refine⟨ZE.bQ (cL 0) Rc,_,c8,OH.bQ hy.1 (by omega),_,OH.get hy.1 (by omega),OH.bQ hq.1 (by omega),?_⟩
    rw[aP _ (by omega) (by omega)]
    refine⟨w1,gM,fun h9 e9 _=> ?_⟩
    subst e9
    rw[<-ig]at w2
    have z9:=rF.size
    have q9:=Ow.fr q8 rF fun k hk aQ=>by have h1:=(q8.aR hk).1;have:=aQ.2;(try simp only at h1);omega
    refine bC gH (fun k=>_<=k) (fun _ h=>h) 1 (by omega) [VI ((aI[y.toNat]' vH)[j.toNat]'(by omega))] rfl rfl fun v fa U9 c10 nC f10 m10 _=>⟨v,rfl,gM.aC f10,?_⟩
    have zM:=f10.size
    have r10:bE v.own fa v [(aI[y.toNat]' vH)[j.toNat]'(by omega)]:=nC.rd
    refine cV gH (Ow.no q9 f10) (fun k hk=>by omega) r10 (gr _) (by have:=r10.len;simp at this;omega) fun w jq n11 mD f11 d11=>⟨w,rfl,(gM.aC f10).fr f11 (fun p hp hk=>by
     simp only[aO,aS,aN]at hp
     subst hp
     have:=(q8.aR hk).1
     simp only at this
     omega),?_⟩
    have Uc:=f11.size
    rw[<-cQ]at mD
    rw[OG.succ j0 hj]
    refine⟨m-1,by omega,fk.set ((aI[y.toNat]' vH)[j.toNat]'(by omega)).toNat (fk.getD y.toNat 0+1),new++[(aI[y.toNat]' vH)[j.toNat]'(by omega)],by omega,by omega,B2,by simp only[bT,List.length_cons,List.length_nil];omega,fun z hz=> ?_,?_,?_,?_,by omega,eF⟩
    ·rcases gG.1 hz with hz|hz
     ·exact P5 z hz
     ·simp only[aO,aS,aN]at hz
      rw[hz];exact hq
    ·rw[bA (show y.toNat<fk.length by omega)]
     exact(Ow.no w2 f10).fr f11 fun k hk aQ=>by have h1:=(q8.aR aQ).1;have:=(o8.aR hk).1.2;(try simp only at h1);omega
    ·rw[<-gu]
     exact mD
    ·exact(((f8.aU rF (by omega)).aA f10).fresh f11 fun k hk=>by have h1:=(q8.aR hk).1;(try simp only at h1);omega)
   ·simp only[aW]at e3
    have Rb:¬fk.getD ((aI[y.toNat]' vH)[j.toNat]'(by omega)).toNat 0<0:=by rw[bA (by omega)];exact e3
    simp only[Rb,gz]at eF
    rw[OG.succ j0 hj]
    exact⟨m-1,by omega,fk,new,by omega,by omega,B',hnw,P5,o8,q8,f8,z8,eF⟩
  ·have hj:=OG.ge e2
   rw[jK (by omega),nS]at eF
   subst eF
   refine jP gH .i64 (by omega) (by omega) ⟨_,rfl,?_⟩
   have qc:=q8.cut (l:=1) (m:=x'.n) (by omega) (aY _)
   have ec:(((y::rest++new).map VI).drop (1*1)).take ((x'.n-1)*1)=(rest++new).map VI:=by
    rw[cW (by simp;omega)]
    rfl
   rw[ec]at qc
   refine⟨rest.length+kF eB,by simp only[List.length_cons];omega,fk,rest++new,by simp only[bT];omega,by omega,B',fun z hz=> ?_,o8,qc,f8,z8,?_⟩
   ·rcases gG.1 hz with hz|hz
    ·exact hp z (cK _ hz)
    ·exact P5 z hz
   ·exact eq
 ·simp only[aW]at e
  obtain rfl:pZ=[]:=pJ (by omega)
  have e9:R=eB:=by
   rw[eq]
   simp only[List.length_nil,iM]
   cases kF eB<;>rfl
  subst e9
  exact HK t h7 (Ow.TU o7 (by omega) (by omega)) B.len f7
def qy(g:aE)(p:Int):Bool:=(List.range g.length).all fun q=> !decide ((iS g q).getD p.toNat 0<0)
theorem KZ{g:aE}{sink:Int}(h0:0<=sink)(h:qy g sink=true){p:Nat}(hp:p<g.length)(hs:(p:Int)≠sink)(h1:sink<(g.length:Int)):(g[p]).length≠0:=by
 intro hz
 have:=j6.1 h p (by simpa using hp)
 rw[OE (by rw[show((p:Int)).toNat=p from rfl,bH hp];exact pJ hz)]at this
 simp only[gE,aW]at this
 rw[bA (by simp;omega),fQ]at this
 rw[aF (by omega)]at this
 simp at this
def rK(g:aE)(sink:Int):Bool:=aZ g&&jX 0 ((g.length:Int)-1) sink&&qy g sink
theorem Em{n:Nat}{f:Nat->Bool}:(List.range n).all f=true↔∀i,i<n->f i=true:=by simp[j6]
theorem OI{S:aK}{h:Heap}{g:Sl}{aI:aE}(G:dE S h g aI)(hg:aZ aI=true){p:Int}(h0:0<=p)(h1:p<(aI.length:Int)):u4 aB 237 #[.agg #[g.v],VI p] h (VB (qy aI p)):=by
 intro K HK
 refine alj g p h K fun b1 h2 fw f2 cR=> ?_
 have f2:=f2.aM
 refine⟨fun n i h'=>0<=i/\i+n=(aI.length:Int)/\(∀q:Nat,(q:Int)<i->¬(iS aI q).getD p.toNat 0<0)/\Fr No h h',⟨aI.length,by omega,by omega,fun q hq=>by omega,f2⟩,?_⟩
 rintro n i h3 ⟨i0,i1,i2,f3⟩ dA
 have G3:=G.no f3
 refine⟨fun e=> ?_,fun e=> ?_⟩
 ·have hi:=G3.lt e
  have ei:((i.toNat:Nat):Int)=i:=by omega
  refine MP G3 hg i0 hi _ fun t h4 o4 hl f4=>⟨t,rfl,dA.aC f4,?_⟩
  have r4:bE _ h4 t _:=Ow.fW o4
  refine⟨r4.bQ h0 (by omega),_,r4.get h0 (by omega),fun e2=> ?_,fun e2=> ?_⟩
  ·simp only[aT]at e2
   have:qy aI p=false:=by
    unfold qy
    rw[List.all_eq_false]
    refine⟨i.toNat,by simp;omega,?_⟩
    rw[ei,bA (by omega),kk e2]
    simp
   rw[this]at HK
   exact HK h4 (f3.aA f4)
  ·simp only[aW]at e2
   rw[G3.succ i0 hi]
   refine⟨n-1,by omega,by omega,by omega,fun q hq=> ?_,f3.aA f4⟩
   by_cases js:(q:Int)<i
   ·exact i2 q js
   ·have:(q:Int)=i:=by omega
    rw[this,bA (by omega)]
    exact e2
 ·have hi:=G3.ge e
  have:qy aI p=true:=by
   unfold qy
   rw[Em]
   intro q hq
   rw[gU (i2 q (by omega))]
   rfl
  rw[this]at HK
  exact HK h3 f3
theorem OJ{S:aK}{h:Heap}{g:Sl}{aI:aE}(G:dE S h g aI)(hg:aZ aI=true){p:Int}(h0:0<=p)(h1:p<(aI.length:Int)):u4 aB 259 #[.agg #[g.v],VI p] h (VB (qy aI p)):=by
 intro K HK
 refine alC g p h K fun b1 h2 fw f2 cR=> ?_
 have f2:=f2.aM
 refine⟨fun n i h'=>0<=i/\i+n=(aI.length:Int)/\(∀q:Nat,(q:Int)<i->¬(iS aI q).getD p.toNat 0<0)/\Fr No h h',⟨aI.length,by omega,by omega,fun q hq=>by omega,f2⟩,?_⟩
 rintro n i h3 ⟨i0,i1,i2,f3⟩ dA
 have G3:=G.no f3
 refine⟨fun e=> ?_,fun e=> ?_⟩
 ·have hi:=G3.lt e
  have ei:((i.toNat:Nat):Int)=i:=by omega
  refine El G3 hg i0 hi _ fun t h4 o4 hl f4=>⟨t,rfl,dA.aC f4,?_⟩
  have r4:bE _ h4 t _:=Ow.fW o4
  refine⟨r4.bQ h0 (by omega),_,r4.get h0 (by omega),fun e2=> ?_,fun e2=> ?_⟩
  ·simp only[aT]at e2
   have:qy aI p=false:=by
    unfold qy
    rw[List.all_eq_false]
    refine⟨i.toNat,by simp;omega,?_⟩
    rw[ei,bA (by omega),kk e2]
    simp
   rw[this]at HK
   exact HK h4 (f3.aA f4)
  ·simp only[aW]at e2
   rw[G3.succ i0 hi]
   refine⟨n-1,by omega,by omega,by omega,fun q hq=> ?_,f3.aA f4⟩
   by_cases js:(q:Int)<i
   ·exact i2 q js
   ·have:(q:Int)=i:=by omega
    rw[this,bA (by omega)]
    exact e2
 ·have hi:=G3.ge e
  have:qy aI p=true:=by
   unfold qy
   rw[Em]
   intro q hq
   rw[gU (i2 q (by omega))]
   rfl
  rw[this]at HK
  exact HK h3 f3
theorem Re{S:aK}{h:Heap}{g:Sl}{aI:aE}(G:dE S h g aI)(sink:Int):u4 aB 187 #[.agg #[g.v],VI sink] h (VB (rK aI sink)):=by
 intro K HK
 unfold rK at HK
 refine akg g sink h K fun b1 h2 fw f2 cR=> ?_
 have f2:=f2.aM
 refine dY (G.no f2) sink _ fun h3 f3=>⟨_,rfl,cR.aC f3,fun e=> ?_,fun e=> ?_⟩
 ·rw[e,fc]at HK
  rw[bK,cA]at e
  exact OI (G.no (f2.aA f3)) e.1 e.2.1 (by omega) _ fun h4 f4=>⟨_,rfl,(cR.aC f3).aC f4,HK h4 ((f2.aA f3).aA f4)⟩
 ·rw[e,gI]at HK
  exact HK h3 (f2.aA f3)
theorem OK{S:aK}{h:Heap}{g:Sl}{aI:aE}(G:dE S h g aI)(sink:Int):u4 aB 214 #[.agg #[g.v],VI sink] h (VB (rK aI sink)):=by
 intro K HK
 unfold rK at HK
 refine akO g sink h K fun b1 h2 fw f2 cR=> ?_
 have f2:=f2.aM
 refine bC gH (fun k=>h2.size<=k) (fun _ h=>h) 1 (by omega) [VI sink] rfl rfl fun t YU n2 c2 o2 f2' m2 _=>⟨t,rfl,cR.aC f2',?_⟩
 have o2:bE (fun k=>h2.size<=k) YU t [sink]:=o2.fW
 have afu:=cR.aC f2'
 have IK:=f2.aA f2'
 refine vA (G.no IK) o2 _ fun h3 f3=>⟨_,rfl,afu.aC f3,fun e=> ?_,fun e=> ?_⟩
 all_goals simp only[List.all_cons,List.all_nil,sV]at e
 ·rw[e,fc]at HK
  rw[bK,cA]at e
  exact OJ (G.no (IK.aA f3)) e.1 e.2.1 (by omega) _ fun h4 f4=>⟨_,rfl,(afu.aC f3).aC f4,HK h4 ((IK.aA f3).aA f4)⟩
 ·rw[e,gI]at HK
  exact HK h3 (IK.aA f3)
structure iE(a n:Nat)(h:Heap)(c:Sl)(i:Int):Prop where
 code:∃vs,dK (fun k=>k<a) h 1 c vs/\∀v,v∈vs->∃m:Int,v=Value.int .u8 m/\0<=m/\m<=255
 lo:0<=i
 hi:i<=(n:Int)
theorem iE.fr{a n:Nat}{h h':Heap}{c:Sl}{i:Int}{T:aK}(D:iE a n h c i)(f:Fr T h h')(hT:∀k,k<a->¬T k):iE a n h' c i:=by
 obtain⟨vs,h1,h2⟩:=D.code
 exact⟨⟨vs,h1.fr f hT,h2⟩,D.lo,D.hi⟩
theorem iE.no{a n:Nat}{h h':Heap}{c:Sl}{i:Int}(D:iE a n h c i)(f:Fr No h h'):iE a n h' c i:=D.fr f fun _ _ h=>h
theorem iE.up{a n m:Nat}{h:Heap}{c:Sl}{i:Int}(D:iE a n h c i)(hm:n<=m):iE a m h c i:=⟨D.code,D.lo,by have:=D.hi;omega⟩
theorem Vl(x:Int):0<=IntKind.wrap .u64 x/\IntKind.wrap .u64 x<18446744073709551616:=by
 rw[IntKind.wrap_u64];omega
theorem ZF{x:Int}(h0:0<=x)(h1:x<18446744073709551616):0<=bits .and .u64 x 255/\bits .and .u64 x 255<=255:=by
 have e:=u64_and_nat x.toNat 255 (by omega) (by omega)
 rw[show((x.toNat:Nat):Int)=x by omega]at e
 have:x.toNat&&&255<=255:=Nat.and_le_right
 rw[show((255:Nat):Int)=255 from rfl]at e
 rw[e];omega
theorem zh{h h':Heap}{L:List (Nat×List Value)}(H:Vars h L)(i:Nat){b:Nat}{cs nB:List Value}(hi:qT L i=some (b,cs))(f:Fr (In [b]) h h')(V:cC h' b nB):Vars h' (E2 L i nB):=
 H.set hi (f.mono fun k _ hk=>by simpa[In]using hk) V
theorem MQ{a n b:Nat}{h:Heap}{c:Sl}{i sd:Int}(V:cC h b [c.v,VI i,.int .u64 sd])(hb:a<=b)(D:iE a n h c i)(hn:n<=1000000000000)(K:aL)(HK:∀(x i' uf:Int) h',0<=x->x<=255->cC h' b [c.v,VI i',.int .u64 uf]->iE a (n+1) h' c i'->Fr (In [b]) h h'->K (VI x) h'):aG aB 105 #[VP b 0] h K:=by
 have h0:=D.lo
 have h1:=D.hi
 have lb:=V.lt
 have fin:∀(x i' uf:Int)(h1 h2 h':Heap),0<=x->x<=255->0<=i'->i'<=(n:Int)+1->Fr No h h1->Fr (In [b]) h1 h2->Fr (In [b]) h2 h'->cC h' b [c.v,VI i',.int .u64 uf]->K (VI x) h':=fun x i' uf h1 h2 h' x0 x1 i0 i1 f1 f2 f3 V'=>by
  have f:=(f1.aC.trans f2).trans f3
  obtain⟨vs,d1,d2⟩:=D.code
  exact HK x i' uf h' x0 x1 V' ⟨⟨vs,d1.fr f fun k hk aQ=>by simp[In]at aQ;omega,d2⟩,i0,by omega⟩ f
 refine v105 b c i sd h K (.cons V (by simp) .nil) ⟨fun x h'=>0<=x/\x<=255/\h'=h,⟨fun e=> ?_,fun e=>⟨by omega,by omega,rfl⟩⟩,?_⟩
 ·obtain⟨vs,d1,d2⟩:=D.code
  have hl:=d1.len
  simp only[aT]at e
  have hi:i<(vs.length:Int):=by omega
  obtain⟨m,e1,m0,m1⟩:=d2 _ (bI (show i.toNat<vs.length by omega))
  refine⟨d1.bQ h0 hi,m,by rw[d1.get h0 hi,e1],jy (show Tryz.prog.underlying _=some (.int .u8)from by kernel_rfl) (show Tryz.prog.underlying _=some (.int .i64)from by kernel_rfl) m ⟨m,?_,m0,m1,rfl⟩⟩
  show Value.int .i64 (aX m)=VI m
  rw[aP _ (by omega) (by omega)]
 ·rintro x hh ⟨x0,x1,rfl⟩ hL h2 f2 cR
  rw[aP (i+1) (by omega) (by omega)]
  refine jy (show Tryz.prog.underlying _=some (.int .i64)from by kernel_rfl) (show Tryz.prog.underlying _=some (.int .u64)from by kernel_rfl) x ⟨_,rfl,fun e h3 f3 dA=> ?_,fun e=> ?_⟩
  ·exact fin x _ _ hh h2 h3 x0 x1 (by omega) (by omega) (Fr.refl _ _) f2 f3 dA.head
  ·refine sY .u64 _ 40 (by omega) ⟨_,rfl,zQ .u64 _ 255 ⟨_,rfl,fun h3 f3 dA=> ?_⟩⟩
   have hw:=Vl (IntKind.wrap .u64 (IntKind.wrap .u64 (sd*6364136223846793005)+IntKind.wrap .u64 x)+1442695040888963407)
   have hd:0<=(IntKind.wrap .u64 (IntKind.wrap .u64 (IntKind.wrap .u64 (sd*6364136223846793005)+IntKind.wrap .u64 x)+1442695040888963407)).fdiv (2^(min (40:Int).toNat IntKind.u64.bits))/\(IntKind.wrap .u64 (IntKind.wrap .u64 (IntKind.wrap .u64 (sd*6364136223846793005)+IntKind.wrap .u64 x)+1442695040888963407)).fdiv (2^(min (40:Int).toNat IntKind.u64.bits))<18446744073709551616:=by
    rw[show(2:Int)^(min (40:Int).toNat IntKind.u64.bits)=1099511627776 from rfl,Int.fdiv_eq_ediv_of_nonneg _ (by omega)]
    omega
   have ha:=ZF hd.1 hd.2
   refine jy (show Tryz.prog.underlying _=some (.int .u64)from by kernel_rfl) (show Tryz.prog.underlying _=some (.int .i64)from by kernel_rfl) _ ⟨_,rfl,?_⟩
   rw[show IntKind.i64.wrap (bits .and .u64 ((IntKind.wrap .u64 (IntKind.wrap .u64 (IntKind.wrap .u64 (sd*6364136223846793005)+IntKind.wrap .u64 x)+1442695040888963407)).fdiv (2^(min (40:Int).toNat IntKind.u64.bits))) 255)=bits .and .u64 ((IntKind.wrap .u64 (IntKind.wrap .u64 (IntKind.wrap .u64 (sd*6364136223846793005)+IntKind.wrap .u64 x)+1442695040888963407)).fdiv (2^(min (40:Int).toNat IntKind.u64.bits))) 255 from aP _ (by omega) (by omega)]
   exact fin _ _ _ hh h2 h3 ha.1 ha.2 (by omega) (by omega) (Fr.refl _ _) f2 f3 dA.head
theorem iO{a n b:Nat}{h:Heap}{c:Sl}{i sd:Int}(V:cC h b [c.v,VI i,.int .u64 sd])(hb:a<=b)(D:iE a n h c i)(hn:n<=100000000000)(m:Int)(K:aL)(HK:∀(x i' uf:Int) h',0<=x->(1<=m->x<m)->cC h' b [c.v,VI i',.int .u64 uf]->iE a (n+2) h' c i'->Fr (In [b]) h h'->K (VI x) h'):aG aB 72 #[VP b 0,VI m] h K:=by
 refine v72 b c i sd m h K (.cons V (by simp) .nil) ⟨fun e=> ?_,fun e=> ?_⟩
 ·simp only[aT]at e
  exact HK 0 i sd h (by omega) (fun _=>by omega) V (D.up (by omega)) (Fr.refl _ _)
 simp only[aW]at e
 refine MQ V hb D (by omega) _ fun x i1 PJ h1 x0 x1 V1 D1 f1=>⟨c,i1,PJ,x,rfl,.cons V1 (by simp) .nil,fun y d i2 K0 h2=>0<=y/\d=c/\iE a (n+2) h2 c i2/\Fr (In [b]) h h2,⟨fun e2=> ?_,fun e2=>⟨x0,rfl,D1.up (by omega),f1⟩⟩,?_⟩
 ·refine MQ V1 hb D1 (by omega) _ fun x' i2 K0 h2 x0' x1' V2 D2 f2=>⟨c,i2,K0,x',rfl,.cons V2 (by simp) .nil,?_⟩
  rw[aP (x*256) (by omega) (by omega),aP _ (by omega) (by omega)]
  exact⟨by omega,rfl,D2,f1.trans f2⟩
 ·rintro y d i2 K0 h2 ⟨y0,rfl,D2,f2⟩ cR
  exact⟨by omega,HK _ i2 K0 h2 (Int.tmod_nonneg _ y0) (fun _=>Int.tmod_lt_of_pos _ (by omega)) cR.head D2 f2⟩
theorem IL{a n b:Nat}{h:Heap}{c:Sl}{i sd:Int}(V:cC h b [c.v,VI i,.int .u64 sd])(hb:a<=b)(D:iE a n h c i)(hn:n<=100000000000)(m:Int)(K:aL)(HK:∀(x:Bool)(i' uf:Int) h',cC h' b [c.v,VI i',.int .u64 uf]->iE a (n+2) h' c i'->Fr (In [b]) h h'->K (VB x) h'):aG aB 40 #[VP b 0,VI m] h K:=by
 refine v40 b c i sd m h K (.cons V (by simp) .nil) ?_
 exact iO V hb D hn m _ fun x i1 PJ h1 x0 x1 V1 D1 f1=>⟨c,i1,PJ,x,rfl,.cons V1 (by simp) .nil,HK _ i1 PJ h1 V1 D1 f1⟩
theorem Vm{a n b:Nat}{h:Heap}{c:Sl}{i sd:Int}(V:cC h b [c.v,VI i,.int .u64 sd])(hb:a<=b)(D:iE a n h c i)(hn:n<=100000000000){S:aK}{s:Sl}{xs:aH}(R:bE S h s xs)(hS:¬S b)(fH:xs≠[])(K:aL)(HK:∀(x i' uf:Int) h',x∈xs->cC h' b [c.v,VI i',.int .u64 uf]->iE a (n+2) h' c i'->Fr (In [b]) h h'->K (VI x) h'):aG aB 100 #[VP b 0,s.v] h K:=by
 refine aik b c i sd s h K (.cons V (by simp) .nil) ?_
 have hl:=R.len
 have hp:=wX.2 fH
 refine iO V hb D hn _ _ fun x i1 PJ h1 x0 x1 V1 D1 f1=>⟨c,i1,PJ,x,rfl,.cons V1 (by simp) .nil,?_⟩
 have R1:=R.fr f1 fun k hk aQ=>by simp[In]at aQ;subst aQ;exact hS hk
 have hx:x<(xs.length:Int):=by have:=x1 (by omega);omega
 exact⟨R1.bQ x0 hx,_,R1.get x0 hx,HK _ i1 PJ h1 (bI _) V1 D1 f1⟩
theorem nT{L:List (Nat×List Value)}{lo:Nat}{h:Heap}{o:Sl}{xs:aH}{x:Int}(O:cM h (fun k=>lo<=k) o xs)(yM:lo<=h.size)(hL:Vars h L)(nF:∀p,p∈L->p.1<lo)(hb:xs.length<=1000000)(R:Sl->Heap->Prop)(HR:∀t h',cM h' (fun k=>lo<=k) t (xs++[x])->Fr (fun k=>lo<=k) h h'->Vars h' L->R t h'):j5 aB (Instr.buildSlice mW 1 #[(0,VI x)]) h fun rv h1=>∃t:Sl,rv=t.v/\Vars h1 L/\j5 aB (cD mW mW mW o.v t.v) h1 fun Bb h2=>∃t2:Sl,Bb=t2.v/\Vars h2 L/\R t2 h2:=by
 refine bC gH (fun k=>h.size<=k) (fun _ h=>h) 1 (by omega) [VI x] rfl rfl fun t h1 n1 c1 o1 f1 m1 _=>⟨t,rfl,hL.aC f1,?_⟩
 have z1:=f1.size
 have O1:cM h1 (fun k=>lo<=k) o xs:=Ow.no O f1
 have on:=O1.rd.len
 have tn:=o1.rd.len
 simp only[bB,fE,List.length_cons,List.length_nil]at on tn
 refine cV gH O1 (fun k hk=>by omega) o1.rd (gr [x]) (by omega) fun s' h2 n2 o2 f2 d2=> ?_
 have g2:Fr (fun k=>lo<=k) h1 h2:=f2.mono fun k _ hk=>(O1.aR hk).1
 have V2:Vars h2 L:=(hL.aC f1).fr g2 fun p hp hk=>by have:=nF p hp;omega
 exact⟨s',rfl,V2,HR s' h2 (by rw[cM,cQ];exact o2) (f1.aC.trans g2) V2⟩
theorem jz{L:List (Nat×List Value)}{lo m:Nat}{h:Heap}{s x:Sl}{aI:aE}{ys:aH}(O:ia h (Iv lo m) s aI)(X:cM h (fun k=>m<=k) x ys)(yM:lo<=m)(hm:m<=h.size)(hL:Vars h L)(nF:∀p,p∈L->p.1<lo)(hb:aI.length<=1000000)(R:Sl->Heap->Prop)(HR:∀t h',ia h' (fun k=>lo<=k) t (aI++[ys])->Fr (fun k=>lo<=k) h h'->Vars h' L->R t h'):j5 aB (Instr.buildSlice pU 1 #[(0,x.v)]) h fun rv h1=>∃t:Sl,rv=t.v/\Vars h1 L/\j5 aB (cD pU pU pU s.v t.v) h1 fun Bb h2=>∃t2:Sl,Bb=t2.v/\Vars h2 L/\R t2 h2:=by
 refine bC tN (fun k=>h.size<=k) (fun _ h=>h) 1 (by omega) [x.v] rfl rfl fun t h1 n1 c1 o1 f1 m1 _=>⟨t,rfl,hL.aC f1,?_⟩
 have z1:=f1.size
 refine dO.snoc tN (dO.no O f1) (F':=fun k=>lo<=k) (fun k _ hk=>hk.1) (fun k hk=>by omega) ((Ow.no X f1).mono fun k _ hk=>cB yM hk) (fun k hk aQ=>by have:=(X.aR hk).1;have:=aQ.2;omega) o1.rd (by omega) fun y h2 o2 f2=> ?_
 have g2:Fr (fun k=>lo<=k) h1 h2:=f2.mono fun k _ hk=>hk.1
 have V2:Vars h2 L:=(hL.aC f1).fr g2 fun p hp hk=>by have:=nF p hp;omega
 exact⟨y,rfl,V2,HR y h2 o2 (f1.aC.trans g2) V2⟩
def OL(n:Int)(both:Bool)(p:Int):aH:=[(p+1).tmod n]++(if both then[(p+n-1).tmod n]else[])
def ug(n:Int)(both:Bool):Nat->aE
 |0=>[]
 |p+1=>ug n both p++[OL n both p]
theorem rL(n:Int)(both:Bool):∀p,(ug n both p).length=p
 |0=>rfl
 |p+1=>by rw[ug,bT,rL n both p];rfl
def Vn(n:Nat)(both:Bool):aE:=ug n both n
theorem OM{h:Heap}(n:Nat)(hn:n<=1000)(both:Bool)(K:aL)(HK:∀t h',ia h' (Iv h.size h'.size) t (Vn n both)->Fr No h h'->K (.agg #[t.v]) h'):aG aB 106 #[VI n,VB both] h K:=by
 refine air n both h K fun b1 b2 h3 fw eY f3 dA=> ?_
 have f3:=f3.aM
 have z3:=f3.size
 have l2:b2<h3.size:=dA.head.lt
 have l1:b1<h3.size:=dA.tail.head.lt
 refine⟨fun m p x h'=>0<=p/\p+m=(n:Int)/\ia h' (fun k=>h3.size<=k) x (ug n both p.toNat)/\Fr (fun k=>h.size<=k) h h'/\h3.size<=h'.size,⟨n,by omega,by omega,dO.nil _ _ _ _,f3.aC,aY _⟩,?_⟩
 rintro m p x h4 ⟨p0,p1,o4,f4,z4⟩ fi
 refine⟨fun e=> ?_,fun e=> ?_⟩
 ·simp only[aT]at e
  refine⟨by omega,?_⟩
  rw[aP (p+1) (by omega) (by omega),aP (p+n) (by omega) (by omega),aP (p+n-1) (by omega) (by omega)]
  have o4i:=dO.gS o4
  refine bC gH (fun k=>h4.size<=k) (fun _ h=>h) 1 (by omega) [VI ((p+1).tmod n)] rfl rfl fun t h5 n5 c5 o5 f5 m5 _=>⟨t,rfl,fi.aC f5,fun y h'=>cM h' (fun k=>h4.size<=k) y (OL n both p)/\ia h' (Iv h3.size h4.size) x (ug n both p.toNat)/\Fr (fun k=>h.size<=k) h h'/\h4.size<=h'.size,⟨fun eb=>⟨by omega,?_⟩,fun eb=>⟨?_,dO.no o4i f5,f4.trans f5.aC,f5.size⟩⟩,?_⟩
  ·refine nT (lo:=h4.size) (xs:=[(p+1).tmod n]) o5 f5.size (fi.aC f5) (fun q hq=>by
    simp only[aO,aS,aN]at hq
    rcases hq with rfl|rfl<;>simp only<;>omega) (by simp) _ fun u h6 o6 f6 V6=>⟨?_,dO.fr (dO.no o4i f5) f6 fun k hk aQ mX=>by have:=aQ.2;omega,(f4.trans f5.aC).trans (f6.mono fun k _ hk=>by have:=f4.size;omega),by have:=f5.size;have:=f6.size;omega⟩
   unfold OL
   rw[aJ eb];exact o6
  ·unfold OL
   rw[aF (by rw[eb];simp)]
   exact o5
  rintro y h8 ⟨o8,q8,f8,z8⟩ gZ
  refine jz (lo:=h3.size) (m:=h4.size) q8 o8 z4 z8 gZ (fun q hq=>by
   simp only[aO,aS,aN]at hq
   rcases hq with rfl|rfl<;>simp only<;>omega) (by rw[rL];omega) _ fun u fa nC f10 Kl jq f11 iN=> ?_
  refine⟨m-1,by omega,by omega,by omega,?_,(f8.trans (f10.mono fun k _ hk=>by omega)).trans (f11.mono fun k _ hk=>by simp[In]at hk;omega),by have:=f10.size;have:=f11.size;omega⟩
  have ep:(p+1).toNat=p.toNat+1:=by omega
  rw[ep,ug,show((p.toNat:Nat):Int)=p by omega]
  exact dO.fr nC f11 fun k hk aQ mX=>by simp[In]at mX;omega
 ·simp only[aW]at e
  intro iC f12 qI
  have ep:p.toNat=n:=by omega
  rw[ep]at o4
  have g12:Fr (fun k=>h.size<=k) h4 iC:=f12.mono fun k _ hk=>by simp[In]at hk;omega
  have Oq:ia iC (fun k=>h3.size<=k) x (ug n both n):=dO.fr o4 f12 fun k hk aQ mX=>by simp[In]at mX;omega
  exact HK x iC (dO.TU (dO.gS Oq) z3 (aY _)) ((f4.trans g12).mono fun k hk aQ=>absurd aQ (by omega))
theorem Vo{L:List (Nat×List Value)}{lo:Nat}{h:Heap}{s:Sl}{aI:aE}{i:Int}(O:ia h (fun k=>lo<=k) s aI)(yM:lo<=h.size)(h0:0<=i)(h1:i<(aI.length:Int))(hL:Vars h L)(nF:∀p,p∈L->p.1<lo)(hb:(aI[i.toNat]'(by omega)).length<=1000000)(x:Int):∃si:Sl,bG h (s.at i 1)=some si.v/\∀R:Heap->Prop,(∀h',ia h' (fun k=>lo<=k) s (aI.set i.toNat (aI[i.toNat]'(by omega)++[x]))->Fr (fun k=>lo<=k) h h'->Vars h' L->R h')->j5 aB (Instr.buildSlice mW 1 #[(0,VI x)]) h fun rv h1=>∃t:Sl,rv=t.v/\Vars h1 L/\bG h1 (s.at i 1)=some si.v/\j5 aB (cD mW mW mW si.v t.v) h1 fun Bb h2=>∃t2:Sl,Bb=t2.v/\Vars h2 L/\fq s i/\fC h2 (s.at i 1)/\Vars (dS h2 (s.at i 1) t2.v) L/\∀h3,h3=dS h2 (s.at i 1) t2.v->Vars h3 L->R h3:=by
 have Oi:=dO.gS O
 obtain⟨si,c1,c2,_⟩:=Oi.inner h0 h1
 refine⟨si,c1,fun R HR=> ?_⟩
 refine bC gH (fun k=>h.size<=k) (fun _ h=>h) 1 (by omega) [VI x] rfl rfl fun t h9 n9 c9 o9 f9 m9 _=>⟨t,rfl,hL.aC f9,eJ c1 f9 (fun h=>h),?_⟩
 have s9:=f9.size
 have O9:=dO.no Oi f9
 have KT:cM h9 (fun k=>lo<=k) si (aI[i.toNat]'(by omega)):=(Ow.no c2 f9).mono fun k _ hk=>hk.1
 have on:=KT.rd.len
 have tn:=o9.rd.len
 simp only[bB,fE,List.length_cons,List.length_nil]at on tn
 refine cV gH KT (fun k hk=>by omega) o9.rd (gr [x]) (by omega) fun w fa U9 nC f10 d10=> ?_
 have g10:Fr (fun k=>lo<=k) h9 fa:=f10.mono fun k _ hk=>(KT.aR hk).1
 have Kl:Vars fa L:=(hL.aC f9).fr g10 fun p hp hk=>by have:=nF p hp;omega
 have Vp:cM fa (fun k=>lo<=k) w (aI[i.toNat]'(by omega)++[x]):=by rw[cM,cQ];exact nC
 obtain⟨i11,w11,mD,f11⟩:=O9.KB h0 h1 (eJ c1 f9 fun h=>h) f10 (F':=fun k=>lo<=k) Vp (fun k _ hk=>hk.1) fun k hk=>(d10 k hk).imp id fun aQ mX=>by have:=mX.2;omega
 have g11:Fr (fun k=>lo<=k) fa _:=(O9.UP f11).mono fun k _ hk=>hk.1
 have V11:=Kl.fr g11 fun p hp hk=>by have:=nF p hp;omega
 exact⟨w,rfl,Kl,i11,w11,V11,fun h3 e3 V3=>HR h3 (by rw[e3];exact mD) (by rw[e3];exact(f9.aC.trans g10).trans g11) V3⟩
def GR(N:Int)(q:Nat)(aI:aE):Prop:=∀l,l∈aI->l.length<=q/\∀x,x∈l->0<=x/\x<N
theorem GR.nil(N:Int)(q:Nat):GR N q []:=fun l hl=>by cases hl
theorem GR.snoc{N:Int}{q:Nat}{aI:aE}{l:aH}(H:GR N q aI)(h1:l.length<=q)(h2:∀x,x∈l->0<=x/\x<N):GR N q (aI++[l]):=fun y hy=>by
 rcases gG.1 hy with a|a
 ·exact H y a
 ·simp only[aO,aS,aN]at a;rw[a];exact⟨h1,h2⟩
theorem GR.set{N:Int}{q:Nat}{aI:aE}{l:aH}(H:GR N q aI)(i:Nat)(h1:l.length<=q)(h2:∀x,x∈l->0<=x/\x<N):GR N q (aI.set i l):=fun y hy=>by
 rcases rJ hy with a|a
 ·exact H y a
 ·rw[a];exact⟨h1,h2⟩
theorem GR.up{N:Int}{q r:Nat}{aI:aE}(H:GR N q aI)(h:q<=r):GR N r aI:=fun l hl=>⟨cB (H l hl).1 h,(H l hl).2⟩
theorem ZG{n:Nat}(hn:1<=n)(both:Bool):GR n 2 (Vn n both):=by
 have key:∀p,GR n 2 (ug n both p):=by
  intro p
  induction p with
  |zero=>exact GR.nil _ _
  |succ p ih=>
   rw[ug]
   refine ih.snoc ?_ ?_
   ·unfold OL;split<;>simp
   ·intro x hx
    unfold OL at hx
    rcases gG.1 hx with a|a
    ·simp only[aO,aS,aN]at a
     rw[a];exact⟨Int.tmod_nonneg _ (by omega),Int.tmod_lt_of_pos _ (by omega)⟩
    ·split at a
     ·simp only[aO,aS,aN]at a
      rw[a];exact⟨Int.tmod_nonneg _ (by omega),Int.tmod_lt_of_pos _ (by omega)⟩
     ·cases a
 exact key n
theorem IM{a n b:Nat}{h:Heap}{c:Sl}{i sd:Int}(V:cC h b [c.v,VI i,.int .u64 sd])(hb:a<=b)(D:iE a n h c i)(hn:n<=1000000000){most:Int}(hm1:1<=most)(Ki:most<=8)(K:aL)(HK:∀(t:Sl)(aI:aE)(i' uf:Int) h',ia h' (Iv h.size h'.size) t aI->GR aI.length 4 aI->1<=aI.length->(aI.length:Int)<=most->cC h' b [c.v,VI i',.int .u64 uf]->iE a (n+100) h' c i'->Fr (In [b]) h h'->K (.agg #[t.v]) h'):aG aB 75 #[VP b 0,VI most] h K:=by
 have lb:=V.lt
 refine v75 b c i sd most h K (.cons V (by simp) .nil) fun b2 h1 eY f1 cU=> ?_
 have f1:=f1.aM
 have z1:=f1.size
 have l2:b2<h1.size:=cU.head.lt
 have fin:∀(h':Heap),Fr (fun k=>k=b\/h.size<=k) h h'->Fr (In [b]) h h':=fun h' f=>f.mono fun k hk aQ=>by
  rcases aQ with e|e
  ·simp[In,e]
  ·omega
 have bQ:∀{x y:Heap},Fr (In [b]) x y->Fr (fun k=>k=b\/h.size<=k) x y:=fun f=>f.mono fun k _ hk=> .inl (by simpa[In]using hk)
 refine iO cU.tail.head hb (D.no f1) (by omega) most _ fun r i2 K0 h2 r0 r1 V2 D2 f2=>⟨c,i2,K0,r,rfl,zh cU 1 rfl f2 V2,?_⟩
 have hr:=r1 hm1
 rw[aP (1+r) (by omega) (by omega)]
 have cR:=zh cU 1 rfl f2 V2
 refine IL V2 hb D2 (by omega) _ _ fun q i3 sd3 h3 V3 D3 f3=>⟨c,i3,sd3,q,rfl,zh cR 1 rfl f3 V3,fun eq=> ?_,fun eq=> ?_⟩
 ·have dA:=zh cR 1 rfl f3 V3
  refine IL V3 hb D3 (by omega) _ _ fun q4 i4 sd4 h4 V4 D4 f4=>⟨c,i4,sd4,q4,rfl,zh dA 1 rfl f4 V4,?_⟩
  have fi:=zh dA 1 rfl f4 V4
  have en:(1+r)=(((1+r).toNat:Nat):Int):=by omega
  rw[en]
  refine OM (1+r).toNat (by omega) q4 _ fun t h5 o5 f5=>⟨t,rfl,fi.aC f5,fun h6 f6 kU=> ?_⟩
  have z2:=f2.size
  have z3:=f3.size
  have z4:=f4.size
  have z5:=f5.size
  have o6:ia h6 (Iv h4.size h5.size) t (Vn (1+r).toNat q4):=dO.fr o5 f6 fun k hk aQ mX=>by simp[In]at mX;have:=aQ.1;omega
  have z6:=f6.size
  have hl:(Vn (1+r).toNat q4).length=(1+r).toNat:=rL _ _ _
  refine HK t _ i4 sd4 h6 (dO.TU o6 (by omega) z6) ?_ (by omega) (by omega) kU.tail.head ?_ (fin h6 ?_)
  ·rw[hl];exact(ZG (by omega) q4).up (by omega)
  ·exact(((D4.no f5).fr f6 fun k hk aQ=>by simp[In]at aQ;omega)).up (by omega)
  ·exact((((f1.aC.trans (bQ f2)).trans (bQ f3)).trans (bQ f4)).trans f5.aC).trans (f6.mono fun k _ hk=> .inr (by simp[In]at hk;omega))
 ·intro b3 h8 jY f8 gZ
  have f8:=f8.aM
  have z2:=f2.size
  have z3:=f3.size
  have z8:=f8.size
  have l3:b3<h8.size:=gZ.head.lt
  have FB:Fr (fun k=>k=b\/h.size<=k) h h8:=((f1.aC.trans (bQ f2)).trans (bQ f3)).trans f8.aC
  refine⟨fun m p x d i' uf h'=>0<=p/\p+m=1+r/\d=c/\iE a (n+4+10*p.toNat) h' c i'/\(∃rows,ia h' (fun k=>h8.size<=k) x rows/\GR (1+r) 3 rows/\rows.length=p.toNat)/\Fr (fun k=>k=b\/h.size<=k) h h'/\h8.size<=h'.size,⟨(1+r).toNat,by omega,by omega,rfl,(D3.no f8).up (by omega),⟨[],dO.nil _ _ _ _,GR.nil _ _,rfl⟩,FB,aY _⟩,?_⟩
  rintro m p x d i9 sd9 h9 ⟨p0,p1,rfl,D9,⟨rows,o9,g9,e9⟩,f9,z9⟩ gM
  have nF:∀(A B C:List Value)(q:Nat×List Value),q∈[(b3,A),(b2,B),(b,C)]->q.1<h8.size:=fun A B C q hq=>by
   simp only[aO,aS,aN]at hq
   rcases hq with rfl|rfl|rfl<;>simp only<;>omega
  refine⟨fun e=> ?_,fun e=> ?_⟩
  ·simp only[aT]at e
   refine iO gM.tail.tail.head hb D9 (by omega) 3 _ fun y i10 ZH fa y0 y1 Kl zR f10=>⟨d,i10,ZH,y,rfl,zh gM 2 rfl f10 Kl,?_⟩
   have y1:=y1 (by omega)
   rw[aP (1+y) (by omega) (by omega)]
   have zM:=f10.size
   have nC:=dO.fr (dO.gS o9) f10 fun k hk aQ mX=>by simp[In]at mX;have:=aQ.1;omega
   refine⟨fun m l k d' i' uf h'=>m=k.toNat/\0<=k/\d'=d/\iE a (n+6+10*p.toNat+2*(3-k).toNat) h' d i'/\(∃ys,cM h' (fun k=>h9.size<=k) l ys/\(∀x,x∈ys->0<=x/\x<1+r)/\(ys.length:Int)+k<=3)/\ia h' (Iv h8.size h9.size) x rows/\Fr (fun k=>k=b\/h.size<=k) h h'/\h9.size<=h'.size,⟨(1+y).toNat,rfl,by omega,rfl,zR.up (by omega),⟨[],Ow.nil _ _ _ _,by simp,by simp;omega⟩,nC,f9.trans (bQ f10),zM⟩,?_⟩
   rintro m2 l k d' i11 asi jq ⟨rfl,k0,rfl,MS,⟨ys,q11,r11,Yf⟩,mD,f11,Uc⟩ iN
   refine⟨fun ek=> ?_,fun ek=> ?_⟩
   ·simp only[aT]at ek
    refine iO iN.tail.tail.head hb MS (by omega) (1+r) _ fun w i12 ZI iC w0 w1 Yh D12 f12=>⟨d',i12,ZI,w,rfl,zh iN 2 rfl f12 Yh,?_⟩
    have w1:=w1 (by omega)
    have z12:=f12.size
    have q12:cM iC (fun k=>h9.size<=k) l ys:=Ow.fr q11 f12 fun k hk mX=>by have:=(q11.aR hk).1;simp[In]at mX;omega
    have qI:=zh iN 2 rfl f12 Yh
    refine nT (lo:=h9.size) q12 (by omega) qI (fun q hq=>by have:=nF _ _ _ q hq;omega) (by omega) _ fun u K1 Vq f14 V14=> ?_
    rw[aP (k-1) (by omega) (by omega)]
    have z14:=f14.size
    refine⟨(k-1).toNat,by omega,rfl,by omega,rfl,?_,⟨ys++[w],Vq,?_,by simp;omega⟩,?_,?_,by omega⟩
    ·exact(D12.fr f14 fun k hk aQ=>by omega).up (by omega)
    ·intro v hv
     rcases gG.1 hv with a|a
     ·exact r11 v a
     ·simp only[aO,aS,aN]at a;omega
    ·refine dO.fr (dO.fr mD f12 fun k hk aQ mX=>by simp[In]at mX;have:=aQ.1;omega) f14 fun k hk aQ mX=>by have:=aQ.2;omega
    ·exact(f11.trans (bQ f12)).trans (f14.mono fun k _ hk=> .inr (by have:=f9.size;omega))
   ·simp only[aW]at ek
    have ek0:k=0:=by omega
    subst ek0
    refine⟨fun y2 d2 i2' asm h'=>d2=d'/\(∃zs,cM h' (fun k=>h9.size<=k) y2 zs/\(∀x,x∈zs->0<=x/\x<1+r)/\zs.length<=3)/\ia h' (Iv h8.size h9.size) x rows/\iE a (n+14+10*p.toNat) h' d' i2'/\Fr (fun k=>k=b\/h.size<=k) h h'/\h9.size<=h'.size,?_,?_⟩
    ·refine IL iN.tail.tail.head hb MS (by omega) 8 _ fun q15 i15 amC Vr V15 D15 f15=>⟨d',i15,amC,q15,rfl,zh iN 2 rfl f15 V15,fun _=> ?_,fun _=> ?_⟩
     ·exact⟨rfl,⟨[],Ow.nil _ _ _ _,by simp,by simp⟩,dO.fr mD f15 fun k hk aQ mX=>by simp[In]at mX;have:=aQ.1;omega,D15.up (by omega),f11.trans (bQ f15),by have:=f15.size;omega⟩
     ·exact⟨rfl,⟨ys,Ow.fr q11 f15 fun k hk mX=>by have:=(q11.aR hk).1;simp[In]at mX;omega,r11,by omega⟩,dO.fr mD f15 fun k hk aQ mX=>by simp[In]at mX;have:=aQ.1;omega,D15.up (by omega),f11.trans (bQ f15),by have:=f15.size;omega⟩
    rintro y2 d2 i16 asp Ud ⟨rfl,⟨zs,q16,r16,e16⟩,o16,D16,f16,z16⟩ Dm
    refine jz (lo:=h8.size) (m:=h9.size) o16 q16 z9 z16 Dm (fun q hq=>nF _ _ _ q hq) (by omega) _ fun u h18 o18 f18 V18 K3 f19 wY=> ?_
    rw[aP (p+1) (by omega) (by omega)]
    have z18:=f18.size
    have z19:=f19.size
    refine⟨m-1,by omega,by omega,by omega,rfl,?_,⟨rows++[zs],dO.fr o18 f19 fun k hk aQ mX=>by simp[In]at mX;omega,g9.snoc e16 r16,by simp;omega⟩,?_,by omega⟩
    ·exact((D16.fr f18 fun k hk aQ=>by omega).fr f19 fun k hk aQ=>by simp[In]at aQ;omega).up (by omega)
    ·exact(f16.trans (f18.mono fun k _ hk=> .inr (by omega))).trans (f19.mono fun k _ hk=> .inr (by simp[In]at hk;omega))
  ·simp only[aW]at e
   have hrl:(rows.length:Int)=1+r:=by omega
   refine IL gM.tail.tail.head hb D9 (by omega) 2 _ fun q20 i20 ZJ ZK V20 D20 f20=>⟨d,i20,ZJ,q20,rfl,zh gM 2 rfl f20 V20,fun _=> ?_,fun _=> ?_⟩
   ·have z20:=f20.size
    have o20:ia ZK (fun k=>h8.size<=k) x rows:=dO.fr o9 f20 fun k hk aQ mX=>by simp[In]at mX;omega
    have Rf:=zh gM 2 rfl f20 V20
    refine⟨fun m2 j h'=>0<=j/\j+m2=1+r/\iE a (n+100) h' d i20/\(∃rs,ia h' (fun k=>h8.size<=k) x rs/\GR (1+r) 4 rs/\(rs.length:Int)=1+r/\∀k(hk:k<rs.length),j<=(k:Int)->rs[k].length<=3)/\Fr (fun k=>k=b\/h.size<=k) h h'/\h8.size<=h'.size,⟨(1+r).toNat,by omega,by omega,D20.up (by omega),⟨rows,o20,g9.up (by omega),hrl,fun k hk _=>(g9 _ (bI hk)).1⟩,f9.trans (bQ f20),by omega⟩,?_⟩
    rintro m2 j ZL ⟨j0,j1,D21,⟨rs,o21,g21,e21,s21⟩,f21,z21⟩ afy
    have hxn:(x.n:Int)=1+r:=by have:=dO.len o21;omega
    refine⟨fun ej=> ?_,fun ej=> ?_⟩
    ·simp only[aT]at ej
     have hj:j<(rs.length:Int):=by omega
     have hsj:=s21 j.toNat (by omega) (by omega)
     obtain⟨si,c1,c2⟩:=Vo o21 z21 j0 hj afy (fun q hq=>nF _ _ _ q hq) (by omega) ((aX (j+1)).tmod (1+r))
     refine⟨(dO.rd o21).bQ j0 hj,si,c1,by omega,c2 _ fun h24 o24 f24 V24=> ?_⟩
     rw[aP (j+1) (by omega) (by omega)]at o24⊢
     refine⟨m2-1,by omega,by omega,by omega,D21.fr f24 fun k hk aQ=>by omega,⟨_,o24,g21.set _ (by simp;omega) ?_,by simp;omega,fun k hk aQ=> ?_⟩,f21.trans (f24.mono fun k _ hk=> .inr (by omega)),by have:=f24.size;omega⟩
     ·intro v hv
      rcases gG.1 hv with a|a
      ·exact(g21 _ (bI _)).2 v a
      ·simp only[aO,aS,aN]at a
       rw[a];exact⟨Int.tmod_nonneg _ (by omega),Int.tmod_lt_of_pos _ (by omega)⟩
     ·rw[fQ,aF (by omega)]
      exact s21 k (by simpa using hk) (by omega)
    ·intro Kk f25 Oy
     have o25:ia Kk (fun k=>h8.size<=k) x rs:=dO.fr o21 f25 fun k hk aQ mX=>by simp[In]at mX;omega
     refine HK x rs i20 ZJ Kk (dO.TU (dO.gS o25) (by omega) (aY _)) (by rw[e21];exact g21) (by omega) (by omega) Oy.tail.tail.head (D21.fr f25 fun k hk aQ=>by simp[In]at aQ;omega) (fin _ (f21.trans (f25.mono fun k _ hk=> .inr (by simp[In]at hk;omega))))
   ·intro vC f26 uG
    have z20:=f20.size
    have o26:ia vC (fun k=>h8.size<=k) x rows:=dO.fr (dO.fr o9 f20 fun k hk aQ mX=>by simp[In]at mX;omega) f26 fun k hk aQ mX=>by simp[In]at mX;omega
    refine HK x rows i20 ZJ vC (dO.TU (dO.gS o26) (by omega) (aY _)) (by rw[hrl];exact g9.up (by omega)) (by omega) (by omega) uG.tail.tail.head ((D20.fr f26 fun k hk aQ=>by simp[In]at aQ;omega).up (by omega)) (fin _ ((f9.trans (bQ f20)).trans (f26.mono fun k _ hk=> .inr (by simp[In]at hk;omega))))
theorem iQ{L:List (Nat×List Value)}{F:aK}{h:Heap}{s:Sl}{xs:aH}{i:Int}{v:Int}(O:cM h F s xs)(h0:0<=i)(h1:i<(xs.length:Int))(hL:Vars h L)(nF:∀p,p∈L->¬F p.1)(R:Heap->Prop)(HR:∀h',cM h' F s (xs.set i.toNat v)->Fr F h h'->Vars h' L->R h'):fq s i/\fC h (s.at i 1)/\Vars (dS h (s.at i 1) (VI v)) L/\∀h3,h3=dS h (s.at i 1) (VI v)->Vars h3 L->R h3:=by
 have on:=O.rd.len
 simp only[bB,fE]at on
 obtain⟨w1,w2,w3⟩:=O.gF h0 (by omega) (VI v)
 have g:Fr F h _:=w3.mono fun k _ hk=>(O.aR hk).1
 have V:=hL.fr g nF
 exact⟨O.rd.bQ h0 (by simp;omega),w1,V,fun h3 e3 V3=>HR h3 (by rw[e3,cM,ig];exact w2) (by rw[e3];exact g) V3⟩
theorem Bh{L:List (Nat×List Value)}{F:aK}{m:Nat}{h:Heap}{s x:Sl}{aI:aE}{ys:aH}(O:ia h (fun k=>F k/\k<m) s aI)(X:cM h (fun k=>m<=k) x ys)(hF:∀k,m<=k->F k)(hm:m<=h.size)(hL:Vars h L)(nF:∀p,p∈L->¬F p.1)(hb:aI.length<=1000000)(R:Sl->Heap->Prop)(HR:∀t h',ia h' F t (aI++[ys])->Fr F h h'->Vars h' L->R t h'):j5 aB (Instr.buildSlice pU 1 #[(0,x.v)]) h fun rv h1=>∃t:Sl,rv=t.v/\Vars h1 L/\j5 aB (cD pU pU pU s.v t.v) h1 fun Bb h2=>∃t2:Sl,Bb=t2.v/\Vars h2 L/\R t2 h2:=by
 refine bC tN (fun k=>h.size<=k) (fun _ h=>h) 1 (by omega) [x.v] rfl rfl fun t h1 n1 c1 o1 f1 m1 _=>⟨t,rfl,hL.aC f1,?_⟩
 have z1:=f1.size
 refine dO.snoc tN (dO.no O f1) (F':=F) (fun k _ hk=>hk.1) (fun k hk=>hF k (by omega)) ((Ow.no X f1).mono fun k _ hk=>hF k hk) (fun k hk aQ=>by have:=(X.aR hk).1;have:=aQ.2;omega) o1.rd (by omega) fun y h2 o2 f2=> ?_
 have g2:Fr F h1 h2:=f2.mono fun k _ hk=>hk.1
 have V2:Vars h2 L:=(hL.aC f1).fr g2 nF
 exact⟨y,rfl,V2,HR y h2 o2 (f1.aC.trans g2) V2⟩
theorem afz(s t:Sl)(h:Heap)(K:aL)(HK:∀b,K (VB b) h):aG aB 9 #[s.v,t.v] h K:=
 v9 s t h K ⟨fun _=>HK true,fun _=>HK _⟩
theorem MT{S S':aK}{h:Heap}{a b:Sl}{xs ys:aH}(H:bE S h a xs)(H':bE S' h b ys)(K:aL)(HK:K (VB (decide (xs=ys))) h):aG aB 49 #[a.v,b.v] h K:=by
 refine v49 a b h K ⟨fun e=> ?_,fun e=> ?_⟩
 ·have e1:=bU e
  rw[H.len,H'.len]at e1
  have:¬xs=ys:=fun e2=>by subst e2;simp at e1
  rw[gU this]at HK
  exact HK
 ·have e1:=bS e
  rw[H.len,H'.len]at e1
  have hl:xs.length=ys.length:=by simp at e1;omega
  refine⟨fun n i h'=>h'=h/\0<=i/\i+n=(xs.length:Int)/\decide (xs=ys)=decide (xs.drop i.toNat=ys.drop i.toNat),⟨xs.length,rfl,by omega,by omega,by simp⟩,?_⟩
  rintro n i hh ⟨rfl,h0,h1,h2⟩ hL
  refine⟨fun e=> ?_,fun e=> ?_⟩
  ·have hi:=H.lt e
   have jH:i<(ys.length:Int):=by omega
   refine⟨H.bQ h0 hi,_,H.get h0 hi,H'.bQ h0 jH,_,H'.get h0 jH,fun e=> ?_,fun e=> ?_⟩
   ·rw[drop_cons xs h0 hi,drop_cons ys h0 jH]at h2
    have e3:=bU e
    simp only[aW]at e3
    rw[h2,gU (fun e4=>e3 (List.cons.inj e4).1)]at HK
    exact HK
   ·rw[drop_cons xs h0 hi,drop_cons ys h0 jH]at h2
    have e3:=bS e
    simp only[aT]at e3
    rw[H.succ h0 hi]
    refine⟨n-1,by omega,rfl,by omega,by omega,h2.trans ?_⟩
    rw[e3]
    simp
  ·have hi:=H.ge e
   rw[jK (by omega),jK (by omega)]at h2
   rw[h2]at HK
   exact HK
end Go.Proofs.YtcnfcnoooecchaaGreatDoor
