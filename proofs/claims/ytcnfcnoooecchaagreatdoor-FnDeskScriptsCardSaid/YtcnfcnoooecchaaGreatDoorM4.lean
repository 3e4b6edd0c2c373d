import Derived.Test.YtcnfcnoooecchaaGreatDoorM3
import Derived.Lib.AppendZeros
import Derived.Laws.Slices
import Derived.Laws.Cover3
import Derived.WalkSpells
import Derived.Lib.MinMax
set_option linter.unusedVariables false
set_option linter.unusedSimpArgs false
namespace Go.Mx
def qF(P:Program)(t:TypeId):Option (TypeId×Nat×Nat×List Value):=
 match P.underlying t with
 |some (.slice e)=>match P.info? e with
  |some i=>match i.zero with
   |some z=>if z.cells.size=i.size/\0<i.size/\0<i.bytes/\i.bytes<=64/\i.size<=8 then some (e,i.size,i.bytes,z.cells.toList)else none
   |none=>none
  |none=>none
 |_=>none
theorem kN{P:Program}{t e:TypeId}{sz bs:Nat}{z:List Value}(h:qF P t=some (e,sz,bs,z)):
 P.underlying t=some (.slice e)/\∃i zv,P.info? e=some i/\i.size=sz/\i.bytes=bs/\i.zero=some zv/\zv.cells=z.toArray/\z.length=sz/\0<sz/\0<bs/\bs<=64/\sz<=8:=by
 unfold qF at h
 split at h
 ·rename_i e' hu
  split at h
  ·rename_i i hi
   split at h
   ·rename_i zv hz
    split at h
    ·rename_i hc
     simp only[dD,fL]at h
     obtain⟨rfl,rfl,rfl,rfl⟩:=h
     exact⟨hu,i,zv,hi,rfl,rfl,hz,by simp,by simpa using hc.1,hc.2.1,hc.2.2.1,hc.2.2.2.1,hc.2.2.2.2⟩
    ·cases h
   ·cases h
  ·cases h
 ·cases h
def Sl.own(s:Sl):aK:=fun k=>s.a.map (·.block)=some k
theorem eK(k:Nat):¬aD.own k:=by simp[Sl.own,aD]
structure Ow(h:Heap)(F:aK)(e:TypeId)(sz:Nat)(s:Sl)(vs:List Value):Prop where
 len:vs.length=s.n*sz
 out:(s=aD/\vs=[])\/∃g o ma,s.a=some ⟨g,o,none⟩/\F g/\h[g]?=some (.cells ma e (0,0))/\s.n<=s.c/\s.c<=maxLen/\o+s.c*sz<=ma.size/\(ma.toList.drop o).take (s.n*sz)=vs
theorem Ow.nil(h:Heap)(F:aK)(e:TypeId)(sz:Nat):Ow h F e sz aD []:=⟨by simp[aD],.inl ⟨rfl,rfl⟩⟩
theorem Ow.aR{h:Heap}{F:aK}{e:TypeId}{sz:Nat}{s:Sl}{vs:List Value}(H:Ow h F e sz s vs){k:Nat}(hk:s.own k):F k/\k<h.size:=by
 rcases H.out with⟨rfl,_⟩|⟨g,o,ma,ha,hF,hg,_⟩
 ·exact absurd hk (eK k)
 ·simp[Sl.own,ha]at hk
  subst hk
  exact⟨hF,(AE.1 hg).1⟩
theorem Ow.mono{h:Heap}{F F':aK}{e:TypeId}{sz:Nat}{s:Sl}{vs:List Value}(H:Ow h F e sz s vs)(hF:∀k,s.own k->F k->F' k):Ow h F' e sz s vs:=by
 refine⟨H.len,?_⟩
 rcases H.out with h1|⟨g,o,ma,ha,hF',rest⟩
 ·exact .inl h1
 ·exact .inr ⟨g,o,ma,ha,hF g (by simp[Sl.own,ha]) hF',rest⟩
theorem Ow.fr{h h':Heap}{F T:aK}{e:TypeId}{sz:Nat}{s:Sl}{vs:List Value}(H:Ow h F e sz s vs)(hf:Fr T h h')(hT:∀k,s.own k->¬T k):Ow h' F e sz s vs:=by
 refine⟨H.len,?_⟩
 rcases H.out with h1|⟨g,o,ma,ha,hF,hg,rest⟩
 ·exact .inl h1
 ·exact .inr ⟨g,o,ma,ha,hF,(hf.same _ (AE.1 hg).1 (hT g (by simp[Sl.own,ha]))).trans hg,rest⟩
theorem Ow.no{h h':Heap}{F:aK}{e:TypeId}{sz:Nat}{s:Sl}{vs:List Value}(H:Ow h F e sz s vs)(hf:Fr No h h'):Ow h' F e sz s vs:=H.fr hf fun _ _ h=>h
theorem Ow.cap{h:Heap}{F:aK}{e:TypeId}{sz:Nat}{s:Sl}{vs:List Value}(H:Ow h F e sz s vs):s.n<=s.c/\s.c<=maxLen:=by
 rcases H.out with⟨rfl,_⟩|⟨g,o,ma,ha,hF,hg,h1,h2,_⟩
 ·simp[aD,maxLen]
 ·exact⟨h1,h2⟩
theorem uy(g o j:Nat):(⟨g,o,none⟩:Addr).add j=⟨g,o+j,none⟩:=by unfold Addr.add;split<;>simp_all
theorem DM{h:Heap}{g o:Nat}{ma:Array Value}{e:TypeId}{fz:Nat×Nat}(hg:h[g]?=some (.cells ma e fz)):bG h ⟨g,o,none⟩=ma[o]?:=by simp[bG,hg]
theorem HW{h:Heap}{g o:Nat}{ma:Array Value}{e:TypeId}(hg:h[g]?=some (.cells ma e (0,0))):y9 h ⟨g,o,none⟩=false:=by simp[y9,hg]
theorem Ow.rd{h:Heap}{F:aK}{e:TypeId}{sz:Nat}{s:Sl}{vs:List Value}(H:Ow h F e sz s vs):dK s.own h sz s vs:=by
 refine⟨H.len,cB H.cap.1 H.cap.2,H.cap.1,fun j hj=> ?_⟩
 rcases H.out with⟨_,rfl⟩|⟨g,o,ma,ha,hF,hg,h1,h2,h3,h4⟩
 ·simp at hj
 ·refine⟨_,ha,by simp[Sl.own,ha],?_⟩
  rw[uy,DM hg]
  subst h4
  rw[List.getElem_take,List.getElem_drop]
  rw[Array.getElem?_eq_getElem (show o+j<ma.size by simp at hj;omega)]
  simp
theorem Ow.fW{h:Heap}{F:aK}{e:TypeId}{sz:Nat}{s:Sl}{vs:List Value}(H:Ow h F e sz s vs):dK F h sz s vs:=H.rd.mono fun _ hk=>(H.aR hk).1
theorem wI{α:Type}(l:List α)(o m:Nat)(news:List α)(YS:o+m+news.length<=l.length):((l.take (o+m)++news++l.drop (o+m+news.length)).drop o).take (m+news.length)=(l.drop o).take m++news:=by
 rw[gu,List.drop_append_of_le_length (by simp;omega),List.drop_take,show o+m-o=m by omega]
 rw[List.take_append,cW (l:=List.take m (List.drop o l)) (by simp;omega)]
 congr 1
 rw[show m+news.length-(List.take m (List.drop o l)).length=news.length by simp;omega]
 exact List.take_left
theorem lG(z:List Value)(n:Nat){m:Nat}(hz:z.length=m)(hm:0<m):(madeCells z.toArray (n*m)).toList=(List.replicate n z).flatten:=by
 subst hz
 apply j8
 ·simp[madeCells]
 ·intro j h1 h2
  simp only[madeCells,Array.toList_map,bV,Array.toList_range,kO]
  have hlen:((List.replicate n z).flatten).length=n*z.length:=by simp
  have key:∀(n j:Nat)(h:j<((List.replicate n z).flatten).length),((List.replicate n z).flatten)[j]=z[j%z.length]'(j9 _ hm):=by
   intro n
   induction n with
   |zero=>intro j h;simp at h
   |succ n ih=>
    intro j h
    simp only[List.replicate_succ,List.flatten_cons]at h⊢
    rw[List.getElem_append]
    split
    ·rename_i wF
     congr 1
     exact(Nat.mod_eq_of_lt wF).symm
    ·rename_i hge
     rw[ih]
     congr 1
     rw[<-Nat.mod_eq_sub_mod (by omega)]
  rw[key]
  simp[dT (j9 j hm)]
section
variable {P:Program} {t e ty:TypeId} {sz bs:Nat} {z:List Value}
theorem cV(T:qF P t=some (e,sz,bs,z)){h:Heap}{F S:aK}{s x:Sl}{vs news:List Value}(H:Ow h F e sz s vs)(hF:∀k,h.size<=k->F k)(hx:dK S h sz x news)(hp:news.all gQ=true)
 (hb:s.n+x.n<=1000000000000) {K:aL} (HK:∀(s':Sl)(h':Heap),s'.n=s.n+x.n->Ow h' F e sz s' (vs++news)->Fr s.own h h'->(∀k,s'.own k->s.own k\/h.size<=k)->K s'.v h'):j5 P (cD t t ty s.v x.v) h K:=by
 obtain⟨hu,i,zv,hi,rfl,rfl,hz,hzc,X3,tK,hbs,Qb,UO⟩:=kN T
 refine⟨fun w hw=> ?_⟩
 subst hw
 have h1:∀u∈news,u.oneCell'=true:=fun u hu=>by
  have:=j6.1 hp u hu
  cases u<;>simp[gQ]at this<;>rfl
 have hlen:(vs++news).length=(s.n+x.n)*i.size:=by rw[bT,H.len,hx.len,mm]
 have Qc:(s.n+x.n)*i.bytes<=140737488355328:=cB (Nat.mul_le_mul_left _ Qb) (by omega)
 have hm:s.n+x.n<=maxLen:=by simp only[maxLen];omega
 --a block aql
 have grown:∀(vk:Nat),vk<s.n+x.n->(w.drew.alloc (.cells (vs.toArray++news.toArray++Builtin.zeroCells zv.cells (grownCap w (s.n+x.n) vk e-(s.n+x.n))) e)).heap=w.heap.push (.cells (vs.toArray++news.toArray++Builtin.zeroCells zv.cells (grownCap w (s.n+x.n) vk e-(s.n+x.n))) e)/\
  K (Sl.v ⟨some ⟨w.heap.size,0,none⟩,s.n+x.n,grownCap w (s.n+x.n) vk e⟩) (w.drew.alloc (.cells (vs.toArray++news.toArray++Builtin.zeroCells zv.cells (grownCap w (s.n+x.n) vk e-(s.n+x.n))) e)).heap:=by
  intro vk ho
  have hge:=grownCap_ge w (s.n+x.n) vk e
  have YT:grownCap w (s.n+x.n) vk e<=maxLen:=grownCap_le_maxLen w (s.n+x.n) vk e hm
  refine⟨rfl,HK _ _ rfl ⟨hlen,.inr ⟨w.heap.size,0,_,rfl,hF _ (aY _),heap_alloc_new w.drew _,hge,YT,?_,?_⟩⟩ ((Fr.push w.heap _).aC) (fun k hk=> .inr ?_)⟩
  ·simp only[Array.size_append,List.size_toArray,size_zeroCells,hzc,X3,H.len,hx.len,<-mm,iM]
   exact oh _ (by omega)
  ·simp only[Array.toList_append,gu,oq]
   rw[<-gu,<-hlen]
   exact List.take_left
  ·simp[Sl.own]at hk;omega
 have room:∀(g o:Nat)(ma:Array Value),s.a=some ⟨g,o,none⟩->F g->w.heap[g]?=some (.cells ma e (0,0))->s.n<=s.c->s.c<=maxLen->o+s.c*i.size<=ma.size->(ma.toList.drop o).take (s.n*i.size)=vs->s.n+x.n<=s.c->
  ∃w':World,(storeCells ((⟨g,o,none⟩:Addr).add (s.n*i.size)) news).run P w= .ok () w'/\dV w w'/\K (Sl.v ⟨s.a,s.n+x.n,s.c⟩) w'.heap:=by
  intro g o ma ha hFg hg hnc YT Kf HX HZ
  have YS:o+s.n*i.size+news.length<=ma.size:=by
   rw[hx.len,kP,<-mm]
   exact cB (Nat.add_le_add_left (oh _ HZ) _) Kf
  have Qd:=run_storeCells_at P g (o+s.n*i.size) e news 0 ma w hg (by simpa using YS) h1
  simp only[Nat.add_zero]at Qd
  rw[uy]
  refine⟨_,Qd,⟨rfl,rfl,rfl⟩,HK ⟨s.a,s.n+x.n,s.c⟩ _ rfl ⟨hlen,.inr ⟨g,o,_,ha,hFg,setRow_heap w g ma _ e _ hg,HZ,YT,?_,?_⟩⟩ ⟨by simp[World.setRow],fun k _ hk=>setRow_other w g k _ (fun e=>hk (by simp[Sl.own,ha,e]))⟩ (fun k hk=> .inl hk)⟩
  ·simp only[List.size_toArray,bT,fD,q6,Array.length_toList]
   omega
  ·show List.take ((s.n+x.n)*i.size) _=_
   rw[mm,<-hx.len]
   rw[<-HX]
   exact wI ma.toList o (s.n*i.size) news (by simpa using YS)
 obtain⟨xa,xn,xc⟩:=x
 simp only at*
 cases xa with
 |none=>
  have hxn:news=[]:=by
   cases news with
   |nil=>rfl
   |cons v vs=>obtain⟨a,ha,_⟩:=hx.cell 0 (by simp);cases ha
  subst hxn
  have hn0:xn=0:=by
   rcases Nat.eq_zero_or_pos xn with h0|h0
   ·exact h0
   ·have h2:0=xn*i.size:=hx.len
    have h3:=Nat.mul_pos h0 tK
    omega
  subst hn0
  rcases H.out with⟨rfl,rfl⟩|⟨g,o,ma,ha,hFg,hg,hnc,YT,Kf,HX⟩
  ·refine⟨.slice none 0 0,w,?_,dV.refl w,HK aD w.heap rfl H (Fr.refl _ _) fun k hk=> .inl hk⟩
   simp[cD,Sl.v,aD,Builtin.append_,run_underlying hu,sizeOf,typeInfo,hi,Builtin.lenOf,Builtin.firstCells]
  ·obtain⟨w',r1,r2,r3⟩:=room g o ma ha hFg hg hnc YT Kf HX (by simpa using hnc)
   refine⟨_,w',?_,r2,r3⟩
   simp[cD,Sl.v,ha,Builtin.append_,run_underlying hu,sizeOf,typeInfo,hi,Builtin.lenOf,Builtin.firstCells,hnc,r1]
 |some xa=>
  have Qe:∀j u,news[j]?=some u->w.cell? (xa.add j)=some u:=fun j u hj=>by
   obtain⟨hl,rfl⟩:=AJ.1 hj
   obtain⟨a,ha,_,hc⟩:=hx.cell j hl
   obtain rfl:xa=a:=by simpa using ha
   exact hc
  rcases H.out with⟨rfl,rfl⟩|⟨g,o,ma,ha,hFg,hg,hnc,YT,Kf,HX⟩
  ·by_cases hm0:xn=0
   ·subst hm0
    have hn:news=[]:=pJ (by simpa using hx.len)
    subst hn
    refine⟨.slice none 0 0,w,?_,dV.refl w,HK aD w.heap rfl H (Fr.refl _ _) fun k hk=> .inl hk⟩
    simp[cD,Sl.v,aD,Builtin.append_,run_underlying hu,sizeOf,typeInfo,hi,Builtin.lenOf,Builtin.firstCells,loadCells,loadCellsFrom]
   ·have hr:=run_append_nil (P:=P) w t ty e i zv hu hi hz xa xn xc news hx.len Qe (by omega) (by simp[aD]at hb;omega) (by simp[aD]at Qc;omega)
    have hgr:=grown 0 (by simp[aD];omega)
    simp only[aD,iM,List.nil_append,Array.empty_append]at hgr
    exact⟨_,_,hr,⟨rfl,rfl,rfl⟩,hgr.2⟩
  ·by_cases HZ:s.n+xn<=s.c
   ·obtain⟨w',r1,r2,r3⟩:=room g o ma ha hFg hg hnc YT Kf HX HZ
    refine⟨_,w',?_,r2,r3⟩
    have hf:=run_firstCells_some (P:=P) w i.size xn xa xn xc news hx.len Qe
    simp[cD,Sl.v,ha,Builtin.append_,run_underlying hu,sizeOf,typeInfo,hi,Builtin.lenOf,HZ,hf,r1]
   ·have holds:∀j u,vs[j]?=some u->w.cell? ((⟨g,o,none⟩:Addr).add j)=some u:=fun j u hj=>by
     obtain⟨hl,rfl⟩:=AJ.1 hj
     obtain⟨a,Og,_,hc⟩:=H.rd.cell j hl
     rw[ha]at Og
     obtain rfl:(⟨g,o,none⟩:Addr)=a:=by simpa using Og
     exact hc
    have hr:=run_append_grow (P:=P) w t ty e i zv hu hi hz ⟨g,o,none⟩ s.n s.c vs H.len holds xa xn xc news hx.len Qe (by omega) (by omega) (growslice_fits (by omega) Qc)
    have hgr:=grown s.c (by omega)
    simp only[cD,Sl.v,ha]
    exact⟨_,_,hr,⟨rfl,rfl,rfl⟩,hgr.2⟩
theorem fO(T:qF P t=some (e,sz,bs,z)){h:Heap}(F:aK)(hF:∀k,h.size<=k->F k)(kl kc:IntKind)(l n:Nat)(hl:l<=n)(hb:n<=1000000000000)
 {K:aL} (HK:∀(s':Sl)(h':Heap),s'.n=l->s'.c=n->Ow h' F e sz s' (List.replicate l z).flatten->Fr No h h'->(∀k,s'.own k->h.size<=k)->s'.a.isSome=true->K s'.v h'):j5 P (Instr.makeSlice t (.int kl l) (.int kc n)) h K:=by
 obtain⟨hu,i,zv,hi,rfl,rfl,hz,hzc,X3,tK,hbs,Qb,UO⟩:=kN T
 refine⟨fun w hw=> ?_⟩
 subst hw
 have h63:n<=maxLen:=by simp only[maxLen];omega
 have hby:i.bytes*n<=281474976710656:=cB (oh _ Qb) (by omega)
 have hb':(i.bytes:Int)*(n:Int)<=281474976710656:=by
  have h:((i.bytes*n:Nat):Int)<=281474976710656:=by omega
  rwa [Int.natCast_mul]at h
 have hr:=run_make (P:=P) w t e i zv hu hi hz kl kc l n (by omega) (by omega) hb' (by simp only[maxLen]at h63;omega)
 simp only[Int.toNat_natCast]at hr
 refine⟨_,_,hr,⟨rfl,rfl,rfl⟩,HK ⟨some ⟨w.heap.size,0,none⟩,l,n⟩ _ rfl rfl ⟨?_,.inr ⟨w.heap.size,0,_,rfl,hF _ (aY _),heap_alloc_new w _,hl,h63,?_,?_⟩⟩ (Fr.push w.heap _) (fun k hk=> ?_) rfl⟩
 ·simp[X3]
 ·simp[size_madeCells]
 ·rw[hzc]
  simp only[oq]
  rw[lG z n X3 tK]
  have hr:List.replicate n z=List.replicate l z++List.replicate (n-l) z:=by rw[List.replicate_append_replicate];congr 1;omega
  rw[hr,List.flatten_append]
  exact vl (by simp[X3])
 ·simp[Sl.own]at hk;omega
theorem bC(T:qF P t=some (e,sz,bs,z)){h:Heap}(F:aK)(hF:∀k,h.size<=k->F k)(n:Nat)(hb:n<=1000){parts:Array (Nat×Value)}(vs:List Value)(hl:vs.length=n*sz)
 (hf:Instr.fill (fun i=>some (i*sz,sz)) (List.replicate n z).flatten.toArray parts.toList=some vs.toArray)
 {K:aL} (HK:∀(s':Sl)(h':Heap),s'.n=n->s'.c=n->Ow h' F e sz s' vs->Fr No h h'->(∀k,s'.own k->h.size<=k)->s'.a.isSome=true->K s'.v h'):j5 P (Instr.buildSlice t n parts) h K:=by
 obtain⟨hu,i,zv,hi,rfl,rfl,hz,hzc,X3,tK,hbs,Qb,UO⟩:=kN T
 refine⟨fun w hw=> ?_⟩
 subst hw
 have h63:n<=maxLen:=by simp only[maxLen];omega
 have h24:¬16777216<n*i.size:=by have:=vm hb UO;omega
 have E5:((Array.range (n*i.size)).map (z.toArray[·%z.toArray.size]!))=(List.replicate n z).flatten.toArray:=by
  apply Array.ext'
  exact lG z n X3 tK
 have hr:(Instr.buildSlice t n parts).run P w= .ok (.slice (some ⟨w.heap.size,0,none⟩) n n) (w.alloc (.cells vs.toArray e)):=by
  by_cases hn:n*i.size=0
  ·have hn0:n=0:=by rcases Nat.mul_eq_zero.1 hn with h|h<;>omega
   subst hn0
   simp at hf
   simp[Instr.buildSlice,run_underlying hu,typeInfo,hi,sizeOf,Array.range_zero',hf,newRow]
  ·simp[Instr.buildSlice,run_underlying hu,typeInfo,hi,sizeOf,zeroValue,hz,hn,h24,hzc,newRow]
   simp at E5
   rw[E5]
   rw[hf]
   rfl
 refine⟨_,_,hr,⟨rfl,rfl,rfl⟩,HK ⟨some ⟨w.heap.size,0,none⟩,n,n⟩ _ rfl rfl ⟨hl,.inr ⟨w.heap.size,0,_,rfl,hF _ (aY _),heap_alloc_new w _,aY _,h63,?_,?_⟩⟩ (Fr.push w.heap _) (fun k hk=> ?_) rfl⟩
 ·simp[hl]
 ·simp only[oq]
  exact cW (by simp[hl])
 ·simp[Sl.own]at hk;omega
def Sl.cut(s:Sl)(sz l m c:Nat):Sl:=⟨if c=l then s.a else s.a.map (·.add (l*sz)),m-l,c-l⟩
theorem jP(T:qF P t=some (e,sz,bs,z)){s:Sl}(k:IntKind){l:Int}(h0:0<=l)(h1:l<=(s.n:Int)){K:Value->Prop}(HK:K (s.cut sz l.toNat s.n s.c).v):pop P (Instr.sliceAt t s.v (some (.int k l)) none none) K:=by
 obtain⟨hu,i,zv,hi,rfl,rfl,_⟩:=kN T
 have hE:P.elem t=e:=by simp[Program.elem,hu]
 refine .mk' (fun w=> ?_) HK
 rw[run_sliceAt_slice w t _ _ _ _ (by rw[hE];exact hu),run_slice_l w t s.a s.n s.c (by rw[hE];exact hu) k l h0 h1,hE]
 simp[sizeOf,typeInfo,hi,sliced,Sl.cut,Result.andThen]
theorem sQ(T:qF P t=some (e,sz,bs,z)){s:Sl}(k:IntKind){m:Int}(h0:0<=m)(h1:m<=(s.c:Int)){K:Value->Prop}(HK:K (s.cut sz 0 m.toNat s.c).v):pop P (Instr.sliceAt t s.v none (some (.int k m)) none) K:=by
 obtain⟨hu,i,zv,hi,rfl,rfl,_⟩:=kN T
 have hE:P.elem t=e:=by simp[Program.elem,hu]
 refine .mk' (fun w=> ?_) HK
 rw[run_sliceAt_slice w t _ _ _ _ (by rw[hE];exact hu),run_slice_h w t s.a s.n s.c (by rw[hE];exact hu) k m h0 h1,hE]
 simp[sizeOf,typeInfo,hi,sliced,Sl.cut,Result.andThen]
theorem Oh(T:qF P t=some (e,sz,bs,z)){s:Sl}(x y:Operand){K:Value->Prop}(HK:K (VB s.a.isNone)):pop P (od .eql t x y s.v (.slice none 0 0)) K:=by
 obtain⟨hu,i,zv,hi,rfl,rfl,_⟩:=kN T
 refine .mk' (fun w=> ?_) HK
 have hr:=Lib.run_eql_slice_nil (P:=P) w t e s.a s.n s.c 0 0 hu
 show Sem.run P (Sem.bind (Sem.pure ()) fun _=>binOp .eql t s.v (.slice none 0 0)) w=_
 rw[ie]
 exact hr
end
theorem Ow.cut{h:Heap}{F:aK}{e:TypeId}{sz:Nat}{s:Sl}{vs:List Value}(H:Ow h F e sz s vs){l m:Nat}(h1:l<=m)(h2:m<=s.n):Ow h F e sz (s.cut sz l m s.c) ((vs.drop (l*sz)).take ((m-l)*sz)):=by
 have hm:m*sz<=s.n*sz:=oh _ h2
 have hlm:l*sz+(m-l)*sz=m*sz:=by rw[<-mm];congr 1;omega
 refine⟨by simp[Sl.cut,H.len];omega,?_⟩
 rcases H.out with⟨rfl,rfl⟩|⟨g,o,ma,ha,hF,hg,h3,h4,h5,h6⟩
 ·left
  simp[aD]at h2
  subst h2
  refine⟨?_,by simp⟩
  obtain rfl:l=0:=by omega
  rfl
 ·right
  by_cases hc:s.c=l
  ·refine⟨g,o,ma,by simp[Sl.cut,hc,ha],hF,hg,by simp[Sl.cut];omega,by simp[Sl.cut];omega,by simp[Sl.cut,hc];omega,?_⟩
   have:m-l=0:=by omega
   simp[Sl.cut,this]
  ·refine⟨g,o+l*sz,ma,by simp[Sl.cut,hc,ha,uy],hF,hg,by simp[Sl.cut];omega,by simp[Sl.cut];omega,?_,?_⟩
   ·simp only[Sl.cut]
    have:l*sz+(s.c-l)*sz=s.c*sz:=by rw[<-mm];congr 1;omega
    omega
   ·simp only[Sl.cut]
    subst h6
    rw[List.drop_take,List.take_take,sR]
    congr 1
    omega
theorem Ow.E6{h:Heap}{F:aK}{e:TypeId}{sz:Nat}{s:Sl}{vs:List Value}(H:Ow h F e sz s vs){i:Int}(h0:0<=i)(h1:i<(s.n:Int)):
 ∃g o ma,s.a=some ⟨g,o,none⟩/\F g/\h[g]?=some (.cells ma e (0,0))/\s.at i sz=⟨g,o+i.toNat*sz,none⟩/\s.n<=s.c/\s.c<=maxLen/\o+s.c*sz<=ma.size/\(ma.toList.drop o).take (s.n*sz)=vs:=by
 rcases H.out with⟨rfl,_⟩|⟨g,o,ma,ha,hF,hg,h3,h4,h5,h6⟩
 ·simp[aD]at h1;omega
 ·exact⟨g,o,ma,ha,hF,hg,by simp[Sl.at,ha,uy],h3,h4,h5,h6⟩
theorem Ow.bQ{h:Heap}{F:aK}{e:TypeId}{sz:Nat}{s:Sl}{vs:List Value}(H:Ow h F e sz s vs){i:Int}(h0:0<=i)(h1:i<(s.n:Int)):fq s i:=by
 obtain⟨g,o,ma,ha,_⟩:=H.E6 h0 h1
 exact⟨by simp[ha],h0,h1⟩
theorem Ow.store{h:Heap}{F:aK}{e:TypeId}{sz:Nat}{s:Sl}{vs:List Value}(H:Ow h F e sz s vs){i:Int}(h0:0<=i)(h1:i<(s.n:Int))(j:Nat)(hj:j<sz)(v:Value):
 fC h ((s.at i sz).add j)/\Ow (dS h ((s.at i sz).add j) v) F e sz s (vs.set (i.toNat*sz+j) v)/\Fr s.own h (dS h ((s.at i sz).add j) v):=by
 obtain⟨g,o,ma,ha,hF,hg,hat,h3,h4,h5,h6⟩:=H.E6 h0 h1
 have hi:i.toNat*sz+j<s.n*sz:=by
  have:(i.toNat+1)*sz<=s.n*sz:=oh _ (by omega)
  rw[mm]at this
  omega
 have hc:s.n*sz<=s.c*sz:=oh _ h3
 rw[hat,uy]
 refine⟨⟨?_,HW hg⟩,⟨by simpa using H.len,.inr ⟨g,o,ma.setIfInBounds (o+i.toNat*sz+j) v,ha,hF,?_,h3,h4,by simpa using h5,?_⟩⟩,?_⟩
 ·rw[DM hg,Array.getElem?_eq_getElem (by omega)];rfl
 ·simp[Mx.dS,zy,hg]
 ·rw[Array.toList_setIfInBounds,<-h6,<-List.take_set,List.drop_set]
  rw[aF (by omega),show o+i.toNat*sz+j-o=i.toNat*sz+j by omega]
 ·exact(Fr.set h _ v).mono fun k _ hk=>by simp at hk;simp[Sl.own,ha,hk]
theorem Mr(a:Addr):a.add 0=a:=by simp[Addr.add]
theorem Ow.gF{h:Heap}{F:aK}{e:TypeId}{s:Sl}{vs:List Value}(H:Ow h F e 1 s vs){i:Int}(h0:0<=i)(h1:i<(s.n:Int))(v:Value):
 fC h (s.at i 1)/\Ow (dS h (s.at i 1) v) F e 1 s (vs.set i.toNat v)/\Fr s.own h (dS h (s.at i 1) v):=by
 have:=H.store h0 h1 0 (by omega) v
 rw[Mr]at this
 simpa using this
structure dO(h:Heap)(F:aK)(eo ei:TypeId)(s:Sl)(aI:aE):Prop where
 out:∃ss:List Sl,ss.length=aI.length/\Ow h F eo 1 s (ss.map Sl.v)/\(∀i(h1:i<ss.length)(h2:i<aI.length),Ow h F ei 1 ss[i] (aI[i].map VI))/\
  (∀i j(h1:i<ss.length)(h2:j<ss.length),i≠j->∀k,ss[i].own k->¬ss[j].own k)/\(∀i(h1:i<ss.length),∀k,s.own k->¬ss[i].own k)
section
variable {h h':Heap} {F F' T:aK} {eo ei:TypeId} {s:Sl} {aI:aE}
theorem dO.nil(h:Heap)(F:aK)(eo ei:TypeId):dO h F eo ei aD []:=⟨[],rfl,Ow.nil _ _ _ _,fun i h1=>by simp at h1,fun i j h1=>by simp at h1,fun i h1=>by simp at h1⟩
theorem dO.fr(H:dO h F eo ei s aI)(hf:Fr T h h')(hT:∀k,k<h.size->F k->¬T k):dO h' F eo ei s aI:=by
 obtain⟨ss,h1,h2,h3,h4,h5⟩:=H.out
 exact⟨ss,h1,h2.fr hf fun k hk=>hT k (h2.aR hk).2 (h2.aR hk).1,fun i a b=>(h3 i a b).fr hf fun k hk=>hT k ((h3 i a b).aR hk).2 ((h3 i a b).aR hk).1,h4,h5⟩
theorem dO.no(H:dO h F eo ei s aI)(hf:Fr No h h'):dO h' F eo ei s aI:=H.fr hf fun _ _ _ h=>h
theorem dO.mono(H:dO h F eo ei s aI)(hF:∀k,k<h.size->F k->F' k):dO h F' eo ei s aI:=by
 obtain⟨ss,h1,h2,h3,h4,h5⟩:=H.out
 exact⟨ss,h1,h2.mono fun k hk=>hF k (h2.aR hk).2,fun i a b=>(h3 i a b).mono fun k hk=>hF k ((h3 i a b).aR hk).2,h4,h5⟩
theorem dO.rd(H:dO h F eo ei s aI):dE (fun k=>F k/\k<h.size) h s aI:=by
 obtain⟨ss,h1,h2,h3,h4,h5⟩:=H.out
 exact⟨ss,h1,h2.rd.mono fun k hk=>h2.aR hk,fun i a b=>(h3 i a b).rd.mono fun k hk=>(h3 i a b).aR hk⟩
theorem dO.len(H:dO h F eo ei s aI):s.n=aI.length:=H.rd.len
theorem dO.inner(H:dO h F eo ei s aI){i:Int}(h0:0<=i)(h1:i<(aI.length:Int)):∃si:Sl,bG h (s.at i 1)=some si.v/\Ow h F ei 1 si ((aI[i.toNat]'(by omega)).map VI)/\
 ∀(h':Heap)(ys:aH),Fr si.own h h'->Ow h' F ei 1 si (ys.map VI)->dO h' F eo ei s (aI.set i.toNat ys):=by
 obtain⟨ss,e1,h2,h3,h4,h5⟩:=H.out
 have hi:i.toNat<ss.length:=by omega
 refine⟨ss[i.toNat],?_,h3 _ hi (by omega),fun h' ys hf hy=>⟨ss,by simpa using e1,h2.fr hf fun k hk=>h5 _ hi k hk,fun j a b=> ?_,h4,h5⟩⟩
 ·have:=h2.rd.get h0 (by simp;omega)
  simpa using this
 ·rw[fQ]
  split
  ·rename_i e
   subst e
   exact hy
  ·rename_i e
   exact(h3 j a (by simpa using b)).fr hf fun k hk aQ=>h4 i.toNat j hi a e k aQ hk
theorem Ow.E7{e:TypeId}{vs:List Value}(H:Ow h F e 1 s vs){i:Nat}(hi:i<vs.length):bG h (s.at i 1)=some vs[i]:=by
 have:=H.rd.get (i:=(i:Int)) (by omega) (by omega)
 simpa using this
end
theorem dO.snoc{P:Program}{t eo ei ty:TypeId}{bs:Nat}{z:List Value}(T:qF P t=some (eo,1,bs,z)){h:Heap}{F F' S:aK}{s x lit:Sl}{aI:aE}{xs:aH}(H:dO h F eo ei s aI)(hFF:∀k,k<h.size->F k->F' k)(hF:∀k,h.size<=k->F' k)
 (hx:Ow h F' ei 1 x (xs.map VI)) (Un:∀k,x.own k->¬F k) (hl:dK S h 1 lit [x.v]) (hb:aI.length<=999999999999)
 {K:aL} (HK:∀(s':Sl)(h':Heap),dO h' F' eo ei s' (aI++[xs])->Fr F h h'->K s'.v h'):j5 P (cD t t ty s.v lit.v) h K:=by
 obtain⟨ss,e1,h2,h3,h4,h5⟩:=H.out
 have hln:lit.n=1:=by have:=hl.len;simp at this;omega
 have hsn:s.n=aI.length:=H.len
 refine cV T (h2.mono fun k hk=>hFF k (h2.aR hk).2) hF hl rfl (by omega) fun s' h' hn hs hf hd=>HK s' h' ⟨ss++[x],by simp[e1],by simpa using hs,fun i a b=> ?_,fun i j a b fH k hk aQ=> ?_,fun i a k hk aQ=> ?_⟩ (hf.mono fun k _ hk=>(h2.aR hk).1)
 ·by_cases hi:i<ss.length
  ·rw[uz hi,uz (by omega)]
   exact((h3 i hi (by omega)).fr hf fun k hk aQ=>h5 i hi k aQ hk).mono fun k hk=>hFF k ((h3 i hi (by omega)).aR hk).2
  ·simp at a b
   have e2:i=ss.length:=by omega
   subst e2
   have e3:(aI++[xs])[ss.length]'(by simp;omega)=xs:=by simp[e1]
   rw[e3]
   simp only[E8]
   exact hx.fr hf fun k hk aQ=>Un k hk (h2.aR aQ).1
 ·simp at a b
  by_cases hi:i<ss.length<;>by_cases hj:j<ss.length
  ·rw[uz hi]at hk
   rw[uz hj]at aQ
   exact h4 i j hi hj fH k hk aQ
  ·have e2:j=ss.length:=by omega
   subst e2
   rw[uz hi]at hk
   simp only[E8]at aQ
   exact Un k aQ ((h3 i hi (by omega)).aR hk).1
  ·have e2:i=ss.length:=by omega
   subst e2
   rw[uz hj]at aQ
   simp only[E8]at hk
   exact Un k hk ((h3 j hj (by omega)).aR aQ).1
  ·omega
 ·simp at a
  by_cases hi:i<ss.length
  ·rw[uz hi]at aQ
   rcases hd k hk with hd|hd
   ·exact h5 i hi k hd aQ
   ·have:=((h3 i hi (by omega)).aR aQ).2;omega
  ·have e2:i=ss.length:=by omega
   subst e2
   simp only[E8]at aQ
   rcases hd k hk with hd|hd
   ·exact Un k aQ (h2.aR hd).1
   ·have:=(hx.aR aQ).2;omega
theorem dO.of{h:Heap}{F:aK}{eo ei:TypeId}{s:Sl}{aI:aE}(ss:List Sl)(hl:ss.length=aI.length)(hs:Ow h F eo 1 s (ss.map Sl.v))(hz:∀p,p∈ss.zip aI->Ow h F ei 1 p.1 (p.2.map VI))(hp:ss.Pairwise fun a b=>∀k,a.own k->¬b.own k)(hd:∀a,a∈ss->∀k,s.own k->¬a.own k):dO h F eo ei s aI:=by
 refine⟨ss,hl,hs,fun i h1 h2=> ?_,fun i j h1 h2 fH k hk aQ=> ?_,fun i h1 k hk=>hd _ (bI h1) k hk⟩
 ·have:(ss[i],aI[i])∈ss.zip aI:=by
   rw[show(ss[i],aI[i])=(ss.zip aI)[i]'(by simp;omega) by simp]
   exact bI _
  exact hz _ this
 ·rw[E9]at hp
  rcases Nat.lt_or_gt_of_ne fH with h|h
  ·exact hp i j h1 h2 h k hk aQ
  ·exact hp j i h2 h1 h k aQ hk
theorem Fr.fresh{T:aK}{a b c:Heap}(h:Fr No a b)(k:Fr T b c)(hT:∀k,T k->a.size<=k):Fr No a c:=
 ⟨cB h.size k.size,fun i hi _=>(k.same i (fp hi h.size) fun ht=>by have:=hT i ht;omega).trans (h.same i hi fun h=>h)⟩
theorem Fa{P:Program}{K:Value->Prop}(ts:Array TypeId)(t:TypeId)(a b:Int)(HK:K (VI (max a b))):pop P (Builtin.max_ ts t #[VI a,VI b]) K:=
 .mk' (fun w=>by rw[run_max_int2]) (by
  have e:(if b>a then b else a)=max a b:=by split<;>omega
  rw[e];exact HK)
def Iv(a b:Nat):aK:=fun k=>a<=k/\k<b
theorem Iv.off{a b c d k:Nat}(hd:b<=c\/d<=a)(h:Iv a b k):¬Iv c d k:=fun h2=>by unfold Iv at*;omega
theorem dO.iv{h h':Heap}{a b c d:Nat}{eo ei:TypeId}{s:Sl}{aI:aE}(H:dO h (Iv a b) eo ei s aI)(f:Fr (Iv c d) h h')(hd:b<=c\/d<=a):dO h' (Iv a b) eo ei s aI:=H.fr f fun _ _ hk=>Iv.off hd hk
theorem Ow.iv{h h':Heap}{a b c d:Nat}{e:TypeId}{sz:Nat}{s:Sl}{vs:List Value}(H:Ow h (Iv a b) e sz s vs)(f:Fr (Iv c d) h h')(hd:b<=c\/d<=a):Ow h' (Iv a b) e sz s vs:=H.fr f fun _ hk=>Iv.off hd (H.aR hk).1
theorem dE.iv{h h':Heap}{a b c d:Nat}{s:Sl}{aI:aE}(H:dE (Iv a b) h s aI)(f:Fr (Iv c d) h h')(hd:b<=c\/d<=a):dE (Iv a b) h' s aI:=H.fr f fun _ hk=>Iv.off hd hk
theorem dK.iv{h h':Heap}{a b c d sz:Nat}{s:Sl}{vs:List Value}(H:dK (Iv a b) h sz s vs)(f:Fr (Iv c d) h h')(hd:b<=c\/d<=a):dK (Iv a b) h' sz s vs:=dK.fr H f fun _ hk=>Iv.off hd hk
theorem bE.iv{h h':Heap}{a b c d:Nat}{s:Sl}{xs:aH}(H:bE (Iv a b) h s xs)(f:Fr (Iv c d) h h')(hd:b<=c\/d<=a):bE (Iv a b) h' s xs:=dK.iv H f hd
theorem dO.gS{h:Heap}{a:Nat}{eo ei:TypeId}{s:Sl}{aI:aE}(H:dO h (fun k=>a<=k) eo ei s aI):dO h (Iv a h.size) eo ei s aI:=H.mono fun _ hk hF=>⟨hF,hk⟩
theorem Ow.gS{h:Heap}{a:Nat}{e:TypeId}{sz:Nat}{s:Sl}{vs:List Value}(H:Ow h (fun k=>a<=k) e sz s vs):Ow h (Iv a h.size) e sz s vs:=H.mono fun _ hk hF=>⟨hF,(H.aR hk).2⟩
theorem dE.gS{h:Heap}{S:aK}{s:Sl}{aI:aE}(H:dE S h s aI):dE (Iv 0 h.size) h s aI:=H.low.mono fun _ hk=>⟨Nat.zero_le _,hk⟩
theorem dO.yF{h:Heap}{a b:Nat}{eo ei:TypeId}{s:Sl}{aI:aE}(H:dO h (Iv a b) eo ei s aI):dE (Iv a b) h s aI:=H.rd.mono fun _ hk=>hk.1
theorem Ow.yF{h:Heap}{a b:Nat}{e:TypeId}{s:Sl}{xs:aH}(H:Ow h (Iv a b) e 1 s (xs.map VI)):bE (Iv a b) h s xs:=H.fW
def wJ(c d:Nat):List (Nat×List Value)->Prop
 |[]=>True
 |p::L=>(p.1<c\/d<=p.1)/\wJ c d L
theorem DN{c d:Nat}:∀{L:List (Nat×List Value)},wJ c d L->∀p,p∈L->¬Iv c d p.1
 |[],_,p,hp=>by simp at hp
 |q::L,h,p,hp=>by
  rcases aO.1 hp with rfl|hp
  ·have:=h.1
   unfold Iv
   omega
  ·exact DN h.2 p hp
theorem Vars.iv{h h':Heap}{c d:Nat}{L:List (Nat×List Value)}(H:Vars h L)(f:Fr (Iv c d) h h')(o:wJ c d L):Vars h' L:=H.fr f (DN o)
theorem Fr.aU{a b c:Heap}{x y:Nat}(h:Fr No a b)(k:Fr (Iv x y) b c)(hx:a.size<=x):Fr No a c:=h.fresh k fun _ hk=>cB hx hk.1
def inB(lo hi:Nat):List Nat->Prop
 |[]=>True
 |b::B=>(lo<=b/\b<hi)/\inB lo hi B
theorem H6{lo hi:Nat}:∀{B:List Nat},inB lo hi B->∀b,b∈B->lo<=b/\b<hi
 |[],_,b,h=>by simp at h
 |c::B,h,b,hb=>by
  rcases aO.1 hb with rfl|hb
  ·exact h.1
  ·exact H6 h.2 b hb
theorem Fr.dI{B:List Nat}{a b:Heap}(f:Fr (In B) a b){lo hi:Nat}(h:inB lo hi B):Fr (Iv lo hi) a b:=f.mono fun k _ hk=>H6 h k hk
theorem dO.KB{h h1:Heap}{F F':aK}{eo ei:TypeId}{s:Sl}{aI:aE}(H:dO h F eo ei s aI){i:Int}(h0:0<=i)(Ms:i<(aI.length:Int)){x si:Sl}{ys:aH}(hs:bG h (s.at i 1)=some si.v)(f:Fr si.own h h1)(hx:Ow h1 F' ei 1 x (ys.map VI))(hF:∀k,k<h.size->F k->F' k)(hd:∀k,x.own k->si.own k\/¬F k):
 fq s i/\fC h1 (s.at i 1)/\dO (dS h1 (s.at i 1) x.v) F' eo ei s (aI.set i.toNat ys)/\Fr s.own h1 (dS h1 (s.at i 1) x.v):=by
 have hlen:=H.len
 obtain⟨ss,e1,h2,h3,h4,h5⟩:=H.out
 have hi:i.toNat<ss.length:=by omega
 have hsi:si=ss[i.toNat]:=by
  have:=h2.rd.get h0 (by simp;omega)
  rw[hs]at this
  simp[Sl.v]at this
  obtain⟨a,n,c⟩:=si
  cases hss:ss[i.toNat]
  simp_all
 subst hsi
 have YU:=h2.fr f fun k hk=>h5 _ hi k hk
 obtain⟨w1,w2,w3⟩:=YU.gF h0 (by omega) x.v
 have Un:∀k,x.own k->¬s.own k:=fun k hk hs2=>by
  rcases hd k hk with hd|hd
  ·exact h5 _ hi k hs2 hd
  ·exact hd (h2.aR hs2).1
 refine⟨YU.bQ h0 (by omega),w1,⟨ss.set i.toNat x,by simpa using e1,by rw[ig];exact w2.mono fun k hk=>hF k (h2.aR hk).2,fun j a b=> ?_,fun j l a b fH k hk aQ=> ?_,fun j a k hk aQ=> ?_⟩,w3⟩
 ·simp only[fQ]
  split
  ·exact hx.fr w3 Un
  ·rename_i fH
   have h3j:=h3 j (by simpa using a) (by simpa using b)
   exact((h3j.fr f fun k hk aQ=>h4 i.toNat j hi (by simpa using a) fH k aQ hk).fr w3 fun k hk aQ=>h5 _ (by simpa using a) k aQ hk).mono fun k hk=>hF k (h3j.aR hk).2
 ·simp only[bY]at a b
  simp only[fQ]at hk aQ
  split at hk<;>split at aQ
  ·omega
  ·rcases hd k hk with hd|hd
   ·exact h4 _ _ hi b (by omega) k hd aQ
   ·exact hd ((h3 l b (by omega)).aR aQ).1
  ·rcases hd k aQ with hd|hd
   ·exact h4 _ _ a hi (by omega) k hk hd
   ·exact hd ((h3 j a (by omega)).aR hk).1
  ·exact h4 j l a b fH k hk aQ
 ·simp only[bY]at a
  simp only[fQ]at aQ
  split at aQ
  ·exact Un k aQ hk
  ·exact h5 j a k hk aQ
theorem dO.UP{h:Heap}{F:aK}{eo ei:TypeId}{s:Sl}{aI:aE}(H:dO h F eo ei s aI){h1 h2:Heap}(f:Fr s.own h1 h2):Fr F h1 h2:=f.mono fun k _ hk=>by
 obtain⟨ss,e1,h2,_⟩:=H.out
 exact(h2.aR hk).1
theorem H8(a:Addr)(m n:Nat):(a.add m).add n=a.add (m+n):=by
 unfold Addr.add
 by_cases hm:m=0<;>by_cases hn:n=0<;>simp[hm,hn,kP]
theorem dK.cut{S:aK}{h:Heap}{sz:Nat}{s:Sl}{vs:List Value}(H:dK S h sz s vs){l m:Nat}(h1:l<=m)(h2:m<=s.n):dK S h sz (s.cut sz l m s.c) ((vs.drop (l*sz)).take ((m-l)*sz)):=by
 have hm:m*sz<=s.n*sz:=oh _ h2
 have hlm:l*sz+(m-l)*sz=m*sz:=by rw[<-mm];congr 1;omega
 have hc:=H.cap
 have hb:=H.PF
 refine⟨by simp[Sl.cut,H.len];omega,by simp[Sl.cut];omega,by simp[Sl.cut];omega,fun j hj=> ?_⟩
 simp[H.len]at hj
 obtain⟨a,ha,hS,hcl⟩:=H.cell (l*sz+j) (by rw[H.len];omega)
 by_cases ah6:s.c=l
 ·have:m-l=0:=by omega
  rw[this]at hj
  omega
 ·refine⟨a.add (l*sz),by simp[Sl.cut,ah6,ha],by rw[oL];exact hS,?_⟩
  rw[H8,hcl]
  simp
theorem bE.cut{S:aK}{h:Heap}{s:Sl}{xs:aH}(H:bE S h s xs){l m:Nat}(h1:l<=m)(h2:m<=xs.length):bE S h (s.cut 1 l m s.c) ((xs.drop l).take (m-l)):=by
 have:=dK.cut H h1 (by have:=H.len;omega)
 unfold bE
 simpa using this
theorem dO.TU{h:Heap}{x y c d:Nat}{eo ei:TypeId}{s:Sl}{aI:aE}(H:dO h (Iv c d) eo ei s aI)(hx:x<=c)(hd:d<=y):dO h (Iv x y) eo ei s aI:=H.mono fun k _ hk=>⟨cB hx hk.1,fp hk.2 hd⟩
theorem Ow.TU{h:Heap}{x y c d:Nat}{e:TypeId}{sz:Nat}{s:Sl}{vs:List Value}(H:Ow h (Iv c d) e sz s vs)(hx:x<=c)(hd:d<=y):Ow h (Iv x y) e sz s vs:=H.mono fun k _ hk=>⟨cB hx hk.1,fp hk.2 hd⟩
section
variable {h h':Heap} {F F' S T:aK} {eo ei:TypeId} {s:Sl} {ws:List (aH×Int)}
end
end Go.Mx
