import Derived.Test.YtcnfcnoooecchaaGreatDoorM3
import Derived.Lib.AppendZeros
import Derived.Laws.Slices
import Derived.Laws.Cover3
import Derived.WalkSpells
import Derived.Lib.MinMax
set_option linter.unusedVariables false
set_option linter.unusedSimpArgs false
namespace Go.Mx
def mX(P:Program)(t:TypeId):Option (TypeId×Nat×Nat×List Value):=
 match P.underlying t with
 |some (.slice e)=>match P.info? e with
  |some i=>match i.zero with
   |some z=>if z.cells.size=i.size/\0<i.size/\0<i.bytes/\i.bytes<=64/\i.size<=8 then some (e,i.size,i.bytes,z.cells.toList)else none
   |none=>none
  |none=>none
 |_=>none
theorem ja{P:Program}{t e:TypeId}{sz bs:Nat}{z:List Value}(h:mX P t=some (e,sz,bs,z)):
 P.underlying t=some (.slice e)/\∃i zv,P.info? e=some i/\i.size=sz/\i.bytes=bs/\i.zero=some zv/\zv.cells=z.toArray/\z.length=sz/\0<sz/\0<bs/\bs<=64/\sz<=8:=by
 unfold mX at h
 split at h
 ·rename_i e' hu
  split at h
  ·rename_i i hi
   split at h
   ·rename_i zv hz
    split at h
    ·rename_i hc
     simp only[Option.some.injEq,Prod.mk.injEq]at h
     obtain⟨rfl,rfl,rfl,rfl⟩:=h
     exact⟨hu,i,zv,hi,rfl,rfl,hz,by simp,by simpa using hc.1,hc.2.1,hc.2.2.1,hc.2.2.2.1,hc.2.2.2.2⟩
    ·cases h
   ·cases h
  ·cases h
 ·cases h
def Sl.own(s:Sl):Nat->Prop:=fun k=>s.a.map (·.block)=some k
theorem cX(k:Nat):¬aC.own k:=by simp[Sl.own,aC]
structure Ow(h:Heap)(F:Nat->Prop)(e:TypeId)(sz:Nat)(s:Sl)(vs:List Value):Prop where
 len:vs.length=s.n*sz
 out:(s=aC/\vs=[])\/∃g o j3,s.a=some ⟨g,o,none⟩/\F g/\h[g]?=some (.cells j3 e (0,0))/\s.n<=s.c/\s.c<=maxLen/\o+s.c*sz<=j3.size/\(j3.toList.drop o).take (s.n*sz)=vs
theorem Ow.nil(h:Heap)(F:Nat->Prop)(e:TypeId)(sz:Nat):Ow h F e sz aC []:=⟨by simp[aC],.inl ⟨rfl,rfl⟩⟩
theorem Ow.aH{h:Heap}{F:Nat->Prop}{e:TypeId}{sz:Nat}{s:Sl}{vs:List Value}(H:Ow h F e sz s vs){k:Nat}(hk:s.own k):F k/\k<h.size:=by
 rcases H.out with⟨rfl,_⟩|⟨g,o,j3,ha,hF,hg,_⟩
 ·exact absurd hk (cX k)
 ·simp[Sl.own,ha]at hk
  subst hk
  exact⟨hF,(Array.getElem?_eq_some_iff.1 hg).1⟩
theorem Ow.mono{h:Heap}{F F':Nat->Prop}{e:TypeId}{sz:Nat}{s:Sl}{vs:List Value}(H:Ow h F e sz s vs)(hF:∀k,s.own k->F k->F' k):Ow h F' e sz s vs:=by
 refine⟨H.len,?_⟩
 rcases H.out with h1|⟨g,o,j3,ha,hF',rest⟩
 ·exact .inl h1
 ·exact .inr ⟨g,o,j3,ha,hF g (by simp[Sl.own,ha]) hF',rest⟩
theorem Ow.fr{h h':Heap}{F T:Nat->Prop}{e:TypeId}{sz:Nat}{s:Sl}{vs:List Value}(H:Ow h F e sz s vs)(hf:Fr T h h')(hT:∀k,s.own k->¬T k):Ow h' F e sz s vs:=by
 refine⟨H.len,?_⟩
 rcases H.out with h1|⟨g,o,j3,ha,hF,hg,rest⟩
 ·exact .inl h1
 ·exact .inr ⟨g,o,j3,ha,hF,(hf.same _ (Array.getElem?_eq_some_iff.1 hg).1 (hT g (by simp[Sl.own,ha]))).trans hg,rest⟩
theorem Ow.no{h h':Heap}{F:Nat->Prop}{e:TypeId}{sz:Nat}{s:Sl}{vs:List Value}(H:Ow h F e sz s vs)(hf:Fr No h h'):Ow h' F e sz s vs:=H.fr hf fun _ _ h=>h
theorem Ow.cap{h:Heap}{F:Nat->Prop}{e:TypeId}{sz:Nat}{s:Sl}{vs:List Value}(H:Ow h F e sz s vs):s.n<=s.c/\s.c<=maxLen:=by
 rcases H.out with⟨rfl,_⟩|⟨g,o,j3,ha,hF,hg,h1,h2,_⟩
 ·simp[aC,maxLen]
 ·exact⟨h1,h2⟩
theorem qM(g o j:Nat):(⟨g,o,none⟩:Addr).add j=⟨g,o+j,none⟩:=by unfold Addr.add;split<;>simp_all
theorem AD{h:Heap}{g o:Nat}{j3:Array Value}{e:TypeId}{fz:Nat×Nat}(hg:h[g]?=some (.cells j3 e fz)):aR h ⟨g,o,none⟩=j3[o]?:=by simp[aR,hg]
theorem Eu{h:Heap}{g o:Nat}{j3:Array Value}{e:TypeId}(hg:h[g]?=some (.cells j3 e (0,0))):vC h ⟨g,o,none⟩=false:=by simp[vC,hg]
theorem Ow.rd{h:Heap}{F:Nat->Prop}{e:TypeId}{sz:Nat}{s:Sl}{vs:List Value}(H:Ow h F e sz s vs):cM s.own h sz s vs:=by
 refine⟨H.len,Nat.le_trans H.cap.1 H.cap.2,H.cap.1,fun j hj=> ?_⟩
 rcases H.out with⟨_,rfl⟩|⟨g,o,j3,ha,hF,hg,h1,h2,h3,h4⟩
 ·simp at hj
 ·refine⟨_,ha,by simp[Sl.own,ha],?_⟩
  rw[qM,AD hg]
  subst h4
  rw[List.getElem_take,List.getElem_drop]
  rw[Array.getElem?_eq_getElem (show o+j<j3.size by simp at hj;omega)]
  simp
theorem Ow.eQ{h:Heap}{F:Nat->Prop}{e:TypeId}{sz:Nat}{s:Sl}{vs:List Value}(H:Ow h F e sz s vs):cM F h sz s vs:=H.rd.mono fun _ hk=>(H.aH hk).1
theorem tj{α:Type}(l:List α)(o m:Nat)(news:List α)(UW:o+m+news.length<=l.length):((l.take (o+m)++news++l.drop (o+m+news.length)).drop o).take (m+news.length)=(l.drop o).take m++news:=by
 rw[List.append_assoc,List.drop_append_of_le_length (by simp;omega),List.drop_take,show o+m-o=m by omega]
 rw[List.take_append,List.take_of_length_le (l:=List.take m (List.drop o l)) (by simp;omega)]
 congr 1
 rw[show m+news.length-(List.take m (List.drop o l)).length=news.length by simp;omega]
 exact List.take_left
theorem jD(z:List Value)(n:Nat){m:Nat}(hz:z.length=m)(hm:0<m):(madeCells z.toArray (n*m)).toList=(List.replicate n z).flatten:=by
 subst hz
 apply List.ext_getElem
 ·simp[madeCells]
 ·intro j h1 h2
  simp only[madeCells,Array.toList_map,List.getElem_map,Array.toList_range,List.getElem_range]
  have hlen:((List.replicate n z).flatten).length=n*z.length:=by simp
  have key:∀(n j:Nat)(h:j<((List.replicate n z).flatten).length),((List.replicate n z).flatten)[j]=z[j%z.length]'(Nat.mod_lt _ hm):=by
   intro n
   induction n with
   |zero=>intro j h;simp at h
   |succ n ih=>
    intro j h
    simp only[List.replicate_succ,List.flatten_cons]at h⊢
    rw[List.getElem_append]
    split
    ·rename_i tf
     congr 1
     exact(Nat.mod_eq_of_lt tf).symm
    ·rename_i hge
     rw[ih]
     congr 1
     rw[<-Nat.mod_eq_sub_mod (by omega)]
  rw[key]
  simp[List.getElem?_eq_getElem (Nat.mod_lt j hm)]
section
variable {P:Program} {t e ty:TypeId} {sz bs:Nat} {z:List Value}
theorem bL(T:mX P t=some (e,sz,bs,z)){h:Heap}{F S:Nat->Prop}{s x:Sl}{vs news:List Value}(H:Ow h F e sz s vs)(hF:∀k,h.size<=k->F k)(hx:cM S h sz x news)(hp:news.all fp=true)
 (hb:s.n+x.n<=1000000000000) {K:Value->Heap->Prop} (HK:∀(s':Sl)(h':Heap),s'.n=s.n+x.n->Ow h' F e sz s' (vs++news)->Fr s.own h h'->(∀k,s'.own k->s.own k\/h.size<=k)->K s'.v h'):jQ P (bK t t ty s.v x.v) h K:=by
 obtain⟨hu,i,zv,hi,rfl,rfl,hz,hzc,TZ,qv,hbs,MB,QM⟩:=ja T
 refine⟨fun w hw=> ?_⟩
 subst hw
 have h1:∀u∈news,u.oneCell'=true:=fun u hu=>by
  have:=List.all_eq_true.1 hp u hu
  cases u<;>simp[fp]at this<;>rfl
 have hlen:(vs++news).length=(s.n+x.n)*i.size:=by rw[List.length_append,H.len,hx.len,Nat.add_mul]
 have MC:(s.n+x.n)*i.bytes<=140737488355328:=Nat.le_trans (Nat.mul_le_mul_left _ MB) (by omega)
 have hm:s.n+x.n<=maxLen:=by simp only[maxLen];omega
 --a block amm
 have grown:∀(rN:Nat),rN<s.n+x.n->(w.drew.alloc (.cells (vs.toArray++news.toArray++Builtin.zeroCells zv.cells (grownCap w (s.n+x.n) rN e-(s.n+x.n))) e)).heap=w.heap.push (.cells (vs.toArray++news.toArray++Builtin.zeroCells zv.cells (grownCap w (s.n+x.n) rN e-(s.n+x.n))) e)/\
  K (Sl.v ⟨some ⟨w.heap.size,0,none⟩,s.n+x.n,grownCap w (s.n+x.n) rN e⟩) (w.drew.alloc (.cells (vs.toArray++news.toArray++Builtin.zeroCells zv.cells (grownCap w (s.n+x.n) rN e-(s.n+x.n))) e)).heap:=by
  intro rN ho
  have hge:=grownCap_ge w (s.n+x.n) rN e
  have UX:grownCap w (s.n+x.n) rN e<=maxLen:=grownCap_le_maxLen w (s.n+x.n) rN e hm
  refine⟨rfl,HK _ _ rfl ⟨hlen,.inr ⟨w.heap.size,0,_,rfl,hF _ (Nat.le_refl _),heap_alloc_new w.drew _,hge,UX,?_,?_⟩⟩ ((Fr.push w.heap _).aB) (fun k hk=> .inr ?_)⟩
  ·simp only[Array.size_append,List.size_toArray,size_zeroCells,hzc,TZ,H.len,hx.len,<-Nat.add_mul,Nat.zero_add]
   exact Nat.mul_le_mul_right _ (by omega)
  ·simp only[Array.toList_append,List.append_assoc,List.drop_zero]
   rw[<-List.append_assoc,<-hlen]
   exact List.take_left
  ·simp[Sl.own]at hk;omega
 have room:∀(g o:Nat)(j3:Array Value),s.a=some ⟨g,o,none⟩->F g->w.heap[g]?=some (.cells j3 e (0,0))->s.n<=s.c->s.c<=maxLen->o+s.c*i.size<=j3.size->(j3.toList.drop o).take (s.n*i.size)=vs->s.n+x.n<=s.c->
  ∃w':World,(storeCells ((⟨g,o,none⟩:Addr).add (s.n*i.size)) news).run P w= .ok () w'/\cN w w'/\K (Sl.v ⟨s.a,s.n+x.n,s.c⟩) w'.heap:=by
  intro g o j3 ha hFg hg hnc UX GA Ev Ew
  have UW:o+s.n*i.size+news.length<=j3.size:=by
   rw[hx.len,Nat.add_assoc,<-Nat.add_mul]
   exact Nat.le_trans (Nat.add_le_add_left (Nat.mul_le_mul_right _ Ew) _) GA
  have MD:=run_storeCells_at P g (o+s.n*i.size) e news 0 j3 w hg (by simpa using UW) h1
  simp only[Nat.add_zero]at MD
  rw[qM]
  refine⟨_,MD,⟨rfl,rfl,rfl⟩,HK ⟨s.a,s.n+x.n,s.c⟩ _ rfl ⟨hlen,.inr ⟨g,o,_,ha,hFg,setRow_heap w g j3 _ e _ hg,Ew,UX,?_,?_⟩⟩ ⟨by simp[World.setRow],fun k _ hk=>setRow_other w g k _ (fun e=>hk (by simp[Sl.own,ha,e]))⟩ (fun k hk=> .inl hk)⟩
  ·simp only[List.size_toArray,List.length_append,List.length_take,List.length_drop,Array.length_toList]
   omega
  ·show List.take ((s.n+x.n)*i.size) _=_
   rw[Nat.add_mul,<-hx.len]
   rw[<-Ev]
   exact tj j3.toList o (s.n*i.size) news (by simpa using UW)
 obtain⟨xa,xn,xc⟩:=x
 simp only at*
 cases xa with
 |none=>
  have hxn:news=[]:=by
   cases news with
   |nil=>rfl
   |cons v vs=>obtain⟨a,ha,_⟩:=hx.cell 0 (by simp);cases ha
  subst hxn
  have hn0:xn=0:=by
   rcases Nat.eq_zero_or_pos xn with h0|h0
   ·exact h0
   ·have h2:0=xn*i.size:=hx.len
    have h3:=Nat.mul_pos h0 qv
    omega
  subst hn0
  rcases H.out with⟨rfl,rfl⟩|⟨g,o,j3,ha,hFg,hg,hnc,UX,GA,Ev⟩
  ·refine⟨.slice none 0 0,w,?_,cN.refl w,HK aC w.heap rfl H (Fr.refl _ _) fun k hk=> .inl hk⟩
   simp[bK,Sl.v,aC,Builtin.append_,run_underlying hu,sizeOf,typeInfo,hi,Builtin.lenOf,Builtin.firstCells]
  ·obtain⟨w',r1,r2,r3⟩:=room g o j3 ha hFg hg hnc UX GA Ev (by simpa using hnc)
   refine⟨_,w',?_,r2,r3⟩
   simp[bK,Sl.v,ha,Builtin.append_,run_underlying hu,sizeOf,typeInfo,hi,Builtin.lenOf,Builtin.firstCells,hnc,r1]
 |some xa=>
  have ME:∀j u,news[j]?=some u->w.cell? (xa.add j)=some u:=fun j u hj=>by
   obtain⟨hl,rfl⟩:=List.getElem?_eq_some_iff.1 hj
   obtain⟨a,ha,_,hc⟩:=hx.cell j hl
   obtain rfl:xa=a:=by simpa using ha
   exact hc
  rcases H.out with⟨rfl,rfl⟩|⟨g,o,j3,ha,hFg,hg,hnc,UX,GA,Ev⟩
  ·by_cases hm0:xn=0
   ·subst hm0
    have hn:news=[]:=List.eq_nil_of_length_eq_zero (by simpa using hx.len)
    subst hn
    refine⟨.slice none 0 0,w,?_,cN.refl w,HK aC w.heap rfl H (Fr.refl _ _) fun k hk=> .inl hk⟩
    simp[bK,Sl.v,aC,Builtin.append_,run_underlying hu,sizeOf,typeInfo,hi,Builtin.lenOf,Builtin.firstCells,loadCells,loadCellsFrom]
   ·have hr:=run_append_nil (P:=P) w t ty e i zv hu hi hz xa xn xc news hx.len ME (by omega) (by simp[aC]at hb;omega) (by simp[aC]at MC;omega)
    have hgr:=grown 0 (by simp[aC];omega)
    simp only[aC,Nat.zero_add,List.nil_append,Array.empty_append]at hgr
    exact⟨_,_,hr,⟨rfl,rfl,rfl⟩,hgr.2⟩
  ·by_cases Ew:s.n+xn<=s.c
   ·obtain⟨w',r1,r2,r3⟩:=room g o j3 ha hFg hg hnc UX GA Ev Ew
    refine⟨_,w',?_,r2,r3⟩
    have hf:=run_firstCells_some (P:=P) w i.size xn xa xn xc news hx.len ME
    simp[bK,Sl.v,ha,Builtin.append_,run_underlying hu,sizeOf,typeInfo,hi,Builtin.lenOf,Ew,hf,r1]
   ·have holds:∀j u,vs[j]?=some u->w.cell? ((⟨g,o,none⟩:Addr).add j)=some u:=fun j u hj=>by
     obtain⟨hl,rfl⟩:=List.getElem?_eq_some_iff.1 hj
     obtain⟨a,GB,_,hc⟩:=H.rd.cell j hl
     rw[ha]at GB
     obtain rfl:(⟨g,o,none⟩:Addr)=a:=by simpa using GB
     exact hc
    have hr:=run_append_grow (P:=P) w t ty e i zv hu hi hz ⟨g,o,none⟩ s.n s.c vs H.len holds xa xn xc news hx.len ME (by omega) (by omega) (growslice_fits (by omega) MC)
    have hgr:=grown s.c (by omega)
    simp only[bK,Sl.v,ha]
    exact⟨_,_,hr,⟨rfl,rfl,rfl⟩,hgr.2⟩
theorem eA(T:mX P t=some (e,sz,bs,z)){h:Heap}(F:Nat->Prop)(hF:∀k,h.size<=k->F k)(kl kc:IntKind)(l n:Nat)(hl:l<=n)(hb:n<=1000000000000)
 {K:Value->Heap->Prop} (HK:∀(s':Sl)(h':Heap),s'.n=l->s'.c=n->Ow h' F e sz s' (List.replicate l z).flatten->Fr No h h'->(∀k,s'.own k->h.size<=k)->s'.a.isSome=true->K s'.v h'):jQ P (Instr.makeSlice t (.int kl l) (.int kc n)) h K:=by
 obtain⟨hu,i,zv,hi,rfl,rfl,hz,hzc,TZ,qv,hbs,MB,QM⟩:=ja T
 refine⟨fun w hw=> ?_⟩
 subst hw
 have h63:n<=maxLen:=by simp only[maxLen];omega
 have hby:i.bytes*n<=281474976710656:=Nat.le_trans (Nat.mul_le_mul_right _ MB) (by omega)
 have hb':(i.bytes:Int)*(n:Int)<=281474976710656:=by
  have h:((i.bytes*n:Nat):Int)<=281474976710656:=by omega
  rwa [Int.natCast_mul]at h
 have hr:=run_make (P:=P) w t e i zv hu hi hz kl kc l n (by omega) (by omega) hb' (by simp only[maxLen]at h63;omega)
 simp only[Int.toNat_natCast]at hr
 refine⟨_,_,hr,⟨rfl,rfl,rfl⟩,HK ⟨some ⟨w.heap.size,0,none⟩,l,n⟩ _ rfl rfl ⟨?_,.inr ⟨w.heap.size,0,_,rfl,hF _ (Nat.le_refl _),heap_alloc_new w _,hl,h63,?_,?_⟩⟩ (Fr.push w.heap _) (fun k hk=> ?_) rfl⟩
 ·simp[TZ]
 ·simp[size_madeCells]
 ·rw[hzc]
  simp only[List.drop_zero]
  rw[jD z n TZ qv]
  have hr:List.replicate n z=List.replicate l z++List.replicate (n-l) z:=by rw[List.replicate_append_replicate];congr 1;omega
  rw[hr,List.flatten_append]
  exact List.take_left' (by simp[TZ])
 ·simp[Sl.own]at hk;omega
theorem aP(T:mX P t=some (e,sz,bs,z)){h:Heap}(F:Nat->Prop)(hF:∀k,h.size<=k->F k)(n:Nat)(hb:n<=1000){parts:Array (Nat×Value)}(vs:List Value)(hl:vs.length=n*sz)
 (hf:Instr.fill (fun i=>some (i*sz,sz)) (List.replicate n z).flatten.toArray parts.toList=some vs.toArray)
 {K:Value->Heap->Prop} (HK:∀(s':Sl)(h':Heap),s'.n=n->s'.c=n->Ow h' F e sz s' vs->Fr No h h'->(∀k,s'.own k->h.size<=k)->s'.a.isSome=true->K s'.v h'):jQ P (Instr.buildSlice t n parts) h K:=by
 obtain⟨hu,i,zv,hi,rfl,rfl,hz,hzc,TZ,qv,hbs,MB,QM⟩:=ja T
 refine⟨fun w hw=> ?_⟩
 subst hw
 have h63:n<=maxLen:=by simp only[maxLen];omega
 have h24:¬16777216<n*i.size:=by have:=Nat.mul_le_mul hb QM;omega
 have BW:((Array.range (n*i.size)).map (z.toArray[·%z.toArray.size]!))=(List.replicate n z).flatten.toArray:=by
  apply Array.ext'
  exact jD z n TZ qv
 have hr:(Instr.buildSlice t n parts).run P w= .ok (.slice (some ⟨w.heap.size,0,none⟩) n n) (w.alloc (.cells vs.toArray e)):=by
  by_cases hn:n*i.size=0
  ·have hn0:n=0:=by rcases Nat.mul_eq_zero.1 hn with h|h<;>omega
   subst hn0
   simp at hf
   simp[Instr.buildSlice,run_underlying hu,typeInfo,hi,sizeOf,Array.range_zero',hf,newRow]
  ·simp[Instr.buildSlice,run_underlying hu,typeInfo,hi,sizeOf,zeroValue,hz,hn,h24,hzc,newRow]
   simp at BW
   rw[BW]
   rw[hf]
   rfl
 refine⟨_,_,hr,⟨rfl,rfl,rfl⟩,HK ⟨some ⟨w.heap.size,0,none⟩,n,n⟩ _ rfl rfl ⟨hl,.inr ⟨w.heap.size,0,_,rfl,hF _ (Nat.le_refl _),heap_alloc_new w _,Nat.le_refl _,h63,?_,?_⟩⟩ (Fr.push w.heap _) (fun k hk=> ?_) rfl⟩
 ·simp[hl]
 ·simp only[List.drop_zero]
  exact List.take_of_length_le (by simp[hl])
 ·simp[Sl.own]at hk;omega
def Sl.cut(s:Sl)(sz l m c:Nat):Sl:=⟨if c=l then s.a else s.a.map (·.add (l*sz)),m-l,c-l⟩
theorem ia(T:mX P t=some (e,sz,bs,z)){s:Sl}(k:IntKind){l:Int}(h0:0<=l)(h1:l<=(s.n:Int)){K:Value->Prop}(HK:K (s.cut sz l.toNat s.n s.c).v):pop P (Instr.sliceAt t s.v (some (.int k l)) none none) K:=by
 obtain⟨hu,i,zv,hi,rfl,rfl,_⟩:=ja T
 have hE:P.elem t=e:=by simp[Program.elem,hu]
 refine .mk' (fun w=> ?_) HK
 rw[run_sliceAt_slice w t _ _ _ _ (by rw[hE];exact hu),run_slice_l w t s.a s.n s.c (by rw[hE];exact hu) k l h0 h1,hE]
 simp[sizeOf,typeInfo,hi,sliced,Sl.cut,Result.andThen]
theorem pK(T:mX P t=some (e,sz,bs,z)){s:Sl}(k:IntKind){m:Int}(h0:0<=m)(h1:m<=(s.c:Int)){K:Value->Prop}(HK:K (s.cut sz 0 m.toNat s.c).v):pop P (Instr.sliceAt t s.v none (some (.int k m)) none) K:=by
 obtain⟨hu,i,zv,hi,rfl,rfl,_⟩:=ja T
 have hE:P.elem t=e:=by simp[Program.elem,hu]
 refine .mk' (fun w=> ?_) HK
 rw[run_sliceAt_slice w t _ _ _ _ (by rw[hE];exact hu),run_slice_h w t s.a s.n s.c (by rw[hE];exact hu) k m h0 h1,hE]
 simp[sizeOf,typeInfo,hi,sliced,Sl.cut,Result.andThen]
theorem KU(T:mX P t=some (e,sz,bs,z)){s:Sl}(x y:Operand){K:Value->Prop}(HK:K (VB s.a.isNone)):pop P (lF .eql t x y s.v (.slice none 0 0)) K:=by
 obtain⟨hu,i,zv,hi,rfl,rfl,_⟩:=ja T
 refine .mk' (fun w=> ?_) HK
 have hr:=Lib.run_eql_slice_nil (P:=P) w t e s.a s.n s.c 0 0 hu
 show Sem.run P (Sem.bind (Sem.pure ()) fun _=>binOp .eql t s.v (.slice none 0 0)) w=_
 rw[Sem.run_bind']
 exact hr
end
theorem Ow.cut{h:Heap}{F:Nat->Prop}{e:TypeId}{sz:Nat}{s:Sl}{vs:List Value}(H:Ow h F e sz s vs){l m:Nat}(h1:l<=m)(h2:m<=s.n):Ow h F e sz (s.cut sz l m s.c) ((vs.drop (l*sz)).take ((m-l)*sz)):=by
 have hm:m*sz<=s.n*sz:=Nat.mul_le_mul_right _ h2
 have hlm:l*sz+(m-l)*sz=m*sz:=by rw[<-Nat.add_mul];congr 1;omega
 refine⟨by simp[Sl.cut,H.len];omega,?_⟩
 rcases H.out with⟨rfl,rfl⟩|⟨g,o,j3,ha,hF,hg,h3,h4,h5,h6⟩
 ·left
  simp[aC]at h2
  subst h2
  refine⟨?_,by simp⟩
  obtain rfl:l=0:=by omega
  rfl
 ·right
  by_cases hc:s.c=l
  ·refine⟨g,o,j3,by simp[Sl.cut,hc,ha],hF,hg,by simp[Sl.cut];omega,by simp[Sl.cut];omega,by simp[Sl.cut,hc];omega,?_⟩
   have:m-l=0:=by omega
   simp[Sl.cut,this]
  ·refine⟨g,o+l*sz,j3,by simp[Sl.cut,hc,ha,qM],hF,hg,by simp[Sl.cut];omega,by simp[Sl.cut];omega,?_,?_⟩
   ·simp only[Sl.cut]
    have:l*sz+(s.c-l)*sz=s.c*sz:=by rw[<-Nat.add_mul];congr 1;omega
    omega
   ·simp only[Sl.cut]
    subst h6
    rw[List.drop_take,List.take_take,List.drop_drop]
    congr 1
    omega
theorem Ow.BX{h:Heap}{F:Nat->Prop}{e:TypeId}{sz:Nat}{s:Sl}{vs:List Value}(H:Ow h F e sz s vs){i:Int}(h0:0<=i)(h1:i<(s.n:Int)):
 ∃g o j3,s.a=some ⟨g,o,none⟩/\F g/\h[g]?=some (.cells j3 e (0,0))/\s.at i sz=⟨g,o+i.toNat*sz,none⟩/\s.n<=s.c/\s.c<=maxLen/\o+s.c*sz<=j3.size/\(j3.toList.drop o).take (s.n*sz)=vs:=by
 rcases H.out with⟨rfl,_⟩|⟨g,o,j3,ha,hF,hg,h3,h4,h5,h6⟩
 ·simp[aC]at h1;omega
 ·exact⟨g,o,j3,ha,hF,hg,by simp[Sl.at,ha,qM],h3,h4,h5,h6⟩
theorem Ow.bB{h:Heap}{F:Nat->Prop}{e:TypeId}{sz:Nat}{s:Sl}{vs:List Value}(H:Ow h F e sz s vs){i:Int}(h0:0<=i)(h1:i<(s.n:Int)):dQ s i:=by
 obtain⟨g,o,j3,ha,_⟩:=H.BX h0 h1
 exact⟨by simp[ha],h0,h1⟩
theorem Ow.store{h:Heap}{F:Nat->Prop}{e:TypeId}{sz:Nat}{s:Sl}{vs:List Value}(H:Ow h F e sz s vs){i:Int}(h0:0<=i)(h1:i<(s.n:Int))(j:Nat)(hj:j<sz)(v:Value):
 dT h ((s.at i sz).add j)/\Ow (cK h ((s.at i sz).add j) v) F e sz s (vs.set (i.toNat*sz+j) v)/\Fr s.own h (cK h ((s.at i sz).add j) v):=by
 obtain⟨g,o,j3,ha,hF,hg,QN,h3,h4,h5,h6⟩:=H.BX h0 h1
 have hi:i.toNat*sz+j<s.n*sz:=by
  have:(i.toNat+1)*sz<=s.n*sz:=Nat.mul_le_mul_right _ (by omega)
  rw[Nat.add_mul]at this
  omega
 have hc:s.n*sz<=s.c*sz:=Nat.mul_le_mul_right _ h3
 rw[QN,qM]
 refine⟨⟨?_,Eu hg⟩,⟨by simpa using H.len,.inr ⟨g,o,j3.setIfInBounds (o+i.toNat*sz+j) v,ha,hF,?_,h3,h4,by simpa using h5,?_⟩⟩,?_⟩
 ·rw[AD hg,Array.getElem?_eq_getElem (by omega)];rfl
 ·simp[Mx.cK,Array.getElem?_modify,hg]
 ·rw[Array.toList_setIfInBounds,<-h6,<-List.take_set,List.drop_set]
  rw[if_neg (by omega),show o+i.toNat*sz+j-o=i.toNat*sz+j by omega]
 ·exact(Fr.set h _ v).mono fun k _ hk=>by simp at hk;simp[Sl.own,ha,hk]
theorem BZ(a:Addr):a.add 0=a:=by simp[Addr.add]
theorem Ow.eX{h:Heap}{F:Nat->Prop}{e:TypeId}{s:Sl}{vs:List Value}(H:Ow h F e 1 s vs){i:Int}(h0:0<=i)(h1:i<(s.n:Int))(v:Value):
 dT h (s.at i 1)/\Ow (cK h (s.at i 1) v) F e 1 s (vs.set i.toNat v)/\Fr s.own h (cK h (s.at i 1) v):=by
 have:=H.store h0 h1 0 (by omega) v
 rw[BZ]at this
 simpa using this
structure dR(h:Heap)(F:Nat->Prop)(eo ei:TypeId)(s:Sl)(aD:List (List Int)):Prop where
 out:∃ss:List Sl,ss.length=aD.length/\Ow h F eo 1 s (ss.map Sl.v)/\(∀i(h1:i<ss.length)(h2:i<aD.length),Ow h F ei 1 ss[i] (aD[i].map VI))/\
  (∀i j(h1:i<ss.length)(h2:j<ss.length),i≠j->∀k,ss[i].own k->¬ss[j].own k)/\(∀i(h1:i<ss.length),∀k,s.own k->¬ss[i].own k)
section
variable {h h':Heap} {F F' T:Nat->Prop} {eo ei:TypeId} {s:Sl} {aD:List (List Int)}
theorem dR.nil(h:Heap)(F:Nat->Prop)(eo ei:TypeId):dR h F eo ei aC []:=⟨[],rfl,Ow.nil _ _ _ _,fun i h1=>by simp at h1,fun i j h1=>by simp at h1,fun i h1=>by simp at h1⟩
theorem dR.fr(H:dR h F eo ei s aD)(hf:Fr T h h')(hT:∀k,k<h.size->F k->¬T k):dR h' F eo ei s aD:=by
 obtain⟨ss,h1,h2,h3,h4,h5⟩:=H.out
 exact⟨ss,h1,h2.fr hf fun k hk=>hT k (h2.aH hk).2 (h2.aH hk).1,fun i a b=>(h3 i a b).fr hf fun k hk=>hT k ((h3 i a b).aH hk).2 ((h3 i a b).aH hk).1,h4,h5⟩
theorem dR.no(H:dR h F eo ei s aD)(hf:Fr No h h'):dR h' F eo ei s aD:=H.fr hf fun _ _ _ h=>h
theorem dR.mono(H:dR h F eo ei s aD)(hF:∀k,k<h.size->F k->F' k):dR h F' eo ei s aD:=by
 obtain⟨ss,h1,h2,h3,h4,h5⟩:=H.out
 exact⟨ss,h1,h2.mono fun k hk=>hF k (h2.aH hk).2,fun i a b=>(h3 i a b).mono fun k hk=>hF k ((h3 i a b).aH hk).2,h4,h5⟩
theorem dR.rd(H:dR h F eo ei s aD):bU (fun k=>F k/\k<h.size) h s aD:=by
 obtain⟨ss,h1,h2,h3,h4,h5⟩:=H.out
 exact⟨ss,h1,h2.rd.mono fun k hk=>h2.aH hk,fun i a b=>(h3 i a b).rd.mono fun k hk=>(h3 i a b).aH hk⟩
theorem dR.len(H:dR h F eo ei s aD):s.n=aD.length:=H.rd.len
theorem dR.inner(H:dR h F eo ei s aD){i:Int}(h0:0<=i)(h1:i<(aD.length:Int)):∃si:Sl,aR h (s.at i 1)=some si.v/\Ow h F ei 1 si ((aD[i.toNat]'(by omega)).map VI)/\
 ∀(h':Heap)(ys:List Int),Fr si.own h h'->Ow h' F ei 1 si (ys.map VI)->dR h' F eo ei s (aD.set i.toNat ys):=by
 obtain⟨ss,e1,h2,h3,h4,h5⟩:=H.out
 have hi:i.toNat<ss.length:=by omega
 refine⟨ss[i.toNat],?_,h3 _ hi (by omega),fun h' ys hf hy=>⟨ss,by simpa using e1,h2.fr hf fun k hk=>h5 _ hi k hk,fun j a b=> ?_,h4,h5⟩⟩
 ·have:=h2.rd.get h0 (by simp;omega)
  simpa using this
 ·rw[List.getElem_set]
  split
  ·rename_i e
   subst e
   exact hy
  ·rename_i e
   exact(h3 j a (by simpa using b)).fr hf fun k hk aI=>h4 i.toNat j hi a e k aI hk
theorem Ow.B3{e:TypeId}{vs:List Value}(H:Ow h F e 1 s vs){i:Nat}(hi:i<vs.length):aR h (s.at i 1)=some vs[i]:=by
 have:=H.rd.get (i:=(i:Int)) (by omega) (by omega)
 simpa using this
end
theorem dR.snoc{P:Program}{t eo ei ty:TypeId}{bs:Nat}{z:List Value}(T:mX P t=some (eo,1,bs,z)){h:Heap}{F F' S:Nat->Prop}{s x lit:Sl}{aD:List (List Int)}{xs:List Int}(H:dR h F eo ei s aD)(UY:∀k,k<h.size->F k->F' k)(hF:∀k,h.size<=k->F' k)
 (hx:Ow h F' ei 1 x (xs.map VI)) (Jc:∀k,x.own k->¬F k) (hl:cM S h 1 lit [x.v]) (hb:aD.length<=999999999999)
 {K:Value->Heap->Prop} (HK:∀(s':Sl)(h':Heap),dR h' F' eo ei s' (aD++[xs])->Fr F h h'->K s'.v h'):jQ P (bK t t ty s.v lit.v) h K:=by
 obtain⟨ss,e1,h2,h3,h4,h5⟩:=H.out
 have hln:lit.n=1:=by have:=hl.len;simp at this;omega
 have hsn:s.n=aD.length:=H.len
 refine bL T (h2.mono fun k hk=>UY k (h2.aH hk).2) hF hl rfl (by omega) fun s' h' hn hs hf hd=>HK s' h' ⟨ss++[x],by simp[e1],by simpa using hs,fun i a b=> ?_,fun i j a b dZ k hk aI=> ?_,fun i a k hk aI=> ?_⟩ (hf.mono fun k _ hk=>(h2.aH hk).1)
 ·by_cases hi:i<ss.length
  ·rw[List.getElem_append_left hi,List.getElem_append_left (by omega)]
   exact((h3 i hi (by omega)).fr hf fun k hk aI=>h5 i hi k aI hk).mono fun k hk=>UY k ((h3 i hi (by omega)).aH hk).2
  ·simp at a b
   have e2:i=ss.length:=by omega
   subst e2
   have e3:(aD++[xs])[ss.length]'(by simp;omega)=xs:=by simp[e1]
   rw[e3]
   simp only[List.getElem_concat_length]
   exact hx.fr hf fun k hk aI=>Jc k hk (h2.aH aI).1
 ·simp at a b
  by_cases hi:i<ss.length<;>by_cases hj:j<ss.length
  ·rw[List.getElem_append_left hi]at hk
   rw[List.getElem_append_left hj]at aI
   exact h4 i j hi hj dZ k hk aI
  ·have e2:j=ss.length:=by omega
   subst e2
   rw[List.getElem_append_left hi]at hk
   simp only[List.getElem_concat_length]at aI
   exact Jc k aI ((h3 i hi (by omega)).aH hk).1
  ·have e2:i=ss.length:=by omega
   subst e2
   rw[List.getElem_append_left hj]at aI
   simp only[List.getElem_concat_length]at hk
   exact Jc k hk ((h3 j hj (by omega)).aH aI).1
  ·omega
 ·simp at a
  by_cases hi:i<ss.length
  ·rw[List.getElem_append_left hi]at aI
   rcases hd k hk with hd|hd
   ·exact h5 i hi k hd aI
   ·have:=((h3 i hi (by omega)).aH aI).2;omega
  ·have e2:i=ss.length:=by omega
   subst e2
   simp only[List.getElem_concat_length]at aI
   rcases hd k hk with hd|hd
   ·exact Jc k aI (h2.aH hd).1
   ·have:=(hx.aH aI).2;omega
theorem dR.of{h:Heap}{F:Nat->Prop}{eo ei:TypeId}{s:Sl}{aD:List (List Int)}(ss:List Sl)(hl:ss.length=aD.length)(hs:Ow h F eo 1 s (ss.map Sl.v))(hz:∀p,p∈ss.zip aD->Ow h F ei 1 p.1 (p.2.map VI))(hp:ss.Pairwise fun a b=>∀k,a.own k->¬b.own k)(hd:∀a,a∈ss->∀k,s.own k->¬a.own k):dR h F eo ei s aD:=by
 refine⟨ss,hl,hs,fun i h1 h2=> ?_,fun i j h1 h2 dZ k hk aI=> ?_,fun i h1 k hk=>hd _ (List.getElem_mem h1) k hk⟩
 ·have:(ss[i],aD[i])∈ss.zip aD:=by
   rw[show(ss[i],aD[i])=(ss.zip aD)[i]'(by simp;omega) by simp]
   exact List.getElem_mem _
  exact hz _ this
 ·rw[List.pairwise_iff_getElem]at hp
  rcases Nat.lt_or_gt_of_ne dZ with h|h
  ·exact hp i j h1 h2 h k hk aI
  ·exact hp j i h2 h1 h k aI hk
theorem Fr.fresh{T:Nat->Prop}{a b c:Heap}(h:Fr No a b)(k:Fr T b c)(hT:∀k,T k->a.size<=k):Fr No a c:=
 ⟨Nat.le_trans h.size k.size,fun i hi _=>(k.same i (Nat.lt_of_lt_of_le hi h.size) fun ht=>by have:=hT i ht;omega).trans (h.same i hi fun h=>h)⟩
theorem In.off{B:List Nat}{n k:Nat}(h:∀b,b∈B->b<n)(hk:n<=k):¬In B k:=fun hb=>by have:=h k hb;omega
theorem B4{P:Program}{K:Value->Prop}(ts:Array TypeId)(t:TypeId)(a b:Int)(HK:K (VI (max a b))):pop P (Builtin.max_ ts t #[VI a,VI b]) K:=
 .mk' (fun w=>by rw[run_max_int2]) (by
  have e:(if b>a then b else a)=max a b:=by split<;>omega
  rw[e];exact HK)
def Iv(a b:Nat):Nat->Prop:=fun k=>a<=k/\k<b
theorem Iv.off{a b c d k:Nat}(hd:b<=c\/d<=a)(h:Iv a b k):¬Iv c d k:=fun h2=>by unfold Iv at*;omega
theorem dR.iv{h h':Heap}{a b c d:Nat}{eo ei:TypeId}{s:Sl}{aD:List (List Int)}(H:dR h (Iv a b) eo ei s aD)(f:Fr (Iv c d) h h')(hd:b<=c\/d<=a):dR h' (Iv a b) eo ei s aD:=H.fr f fun _ _ hk=>Iv.off hd hk
theorem Ow.iv{h h':Heap}{a b c d:Nat}{e:TypeId}{sz:Nat}{s:Sl}{vs:List Value}(H:Ow h (Iv a b) e sz s vs)(f:Fr (Iv c d) h h')(hd:b<=c\/d<=a):Ow h' (Iv a b) e sz s vs:=H.fr f fun _ hk=>Iv.off hd (H.aH hk).1
theorem bU.iv{h h':Heap}{a b c d:Nat}{s:Sl}{aD:List (List Int)}(H:bU (Iv a b) h s aD)(f:Fr (Iv c d) h h')(hd:b<=c\/d<=a):bU (Iv a b) h' s aD:=H.fr f fun _ hk=>Iv.off hd hk
theorem cM.iv{h h':Heap}{a b c d sz:Nat}{s:Sl}{vs:List Value}(H:cM (Iv a b) h sz s vs)(f:Fr (Iv c d) h h')(hd:b<=c\/d<=a):cM (Iv a b) h' sz s vs:=cM.fr H f fun _ hk=>Iv.off hd hk
theorem aQ.iv{h h':Heap}{a b c d:Nat}{s:Sl}{xs:List Int}(H:aQ (Iv a b) h s xs)(f:Fr (Iv c d) h h')(hd:b<=c\/d<=a):aQ (Iv a b) h' s xs:=cM.iv H f hd
theorem dR.fV{h:Heap}{a:Nat}{eo ei:TypeId}{s:Sl}{aD:List (List Int)}(H:dR h (fun k=>a<=k) eo ei s aD):dR h (Iv a h.size) eo ei s aD:=H.mono fun _ hk hF=>⟨hF,hk⟩
theorem Ow.fV{h:Heap}{a:Nat}{e:TypeId}{sz:Nat}{s:Sl}{vs:List Value}(H:Ow h (fun k=>a<=k) e sz s vs):Ow h (Iv a h.size) e sz s vs:=H.mono fun _ hk hF=>⟨hF,(H.aH hk).2⟩
theorem bU.fV{h:Heap}{S:Nat->Prop}{s:Sl}{aD:List (List Int)}(H:bU S h s aD):bU (Iv 0 h.size) h s aD:=H.low.mono fun _ hk=>⟨Nat.zero_le _,hk⟩
theorem aQ.fV{h:Heap}{S:Nat->Prop}{s:Sl}{xs:List Int}(H:aQ S h s xs):aQ (Iv 0 h.size) h s xs:=H.low.mono fun _ hk=>⟨Nat.zero_le _,hk⟩
theorem dR.tm{h:Heap}{a b:Nat}{eo ei:TypeId}{s:Sl}{aD:List (List Int)}(H:dR h (Iv a b) eo ei s aD):bU (Iv a b) h s aD:=H.rd.mono fun _ hk=>hk.1
theorem Ow.tm{h:Heap}{a b:Nat}{e:TypeId}{s:Sl}{xs:List Int}(H:Ow h (Iv a b) e 1 s (xs.map VI)):aQ (Iv a b) h s xs:=H.eQ
def tq(c d:Nat):List (Nat×List Value)->Prop
 |[]=>True
 |p::L=>(p.1<c\/d<=p.1)/\tq c d L
theorem AE{c d:Nat}:∀{L:List (Nat×List Value)},tq c d L->∀p,p∈L->¬Iv c d p.1
 |[],_,p,hp=>by simp at hp
 |q::L,h,p,hp=>by
  rcases List.mem_cons.1 hp with rfl|hp
  ·have:=h.1
   unfold Iv
   omega
  ·exact AE h.2 p hp
theorem Vars.iv{h h':Heap}{c d:Nat}{L:List (Nat×List Value)}(H:Vars h L)(f:Fr (Iv c d) h h')(o:tq c d L):Vars h' L:=H.fr f (AE o)
theorem Fr.aJ{a b c:Heap}{x y:Nat}(h:Fr No a b)(k:Fr (Iv x y) b c)(hx:a.size<=x):Fr No a c:=h.fresh k fun _ hk=>Nat.le_trans hx hk.1
def inB(lo hi:Nat):List Nat->Prop
 |[]=>True
 |b::B=>(lo<=b/\b<hi)/\inB lo hi B
theorem Ex{lo hi:Nat}:∀{B:List Nat},inB lo hi B->∀b,b∈B->lo<=b/\b<hi
 |[],_,b,h=>by simp at h
 |c::B,h,b,hb=>by
  rcases List.mem_cons.1 hb with rfl|hb
  ·exact h.1
  ·exact Ex h.2 b hb
theorem Fr.cB{B:List Nat}{a b:Heap}(f:Fr (In B) a b){lo hi:Nat}(h:inB lo hi B):Fr (Iv lo hi) a b:=f.mono fun k _ hk=>Ex h k hk
theorem Fr.P4{a b:Heap}{x y c d:Nat}(f:Fr (Iv c d) a b)(hx:x<=c)(hd:d<=y):Fr (Iv x y) a b:=f.mono fun k _ hk=>⟨Nat.le_trans hx hk.1,Nat.lt_of_lt_of_le hk.2 hd⟩
theorem dR.MF{h h1:Heap}{F F':Nat->Prop}{eo ei:TypeId}{s:Sl}{aD:List (List Int)}(H:dR h F eo ei s aD){i:Int}(h0:0<=i)(Jm:i<(aD.length:Int)){x si:Sl}{ys:List Int}(hs:aR h (s.at i 1)=some si.v)(f:Fr si.own h h1)(hx:Ow h1 F' ei 1 x (ys.map VI))(hF:∀k,k<h.size->F k->F' k)(hd:∀k,x.own k->si.own k\/¬F k):
 dQ s i/\dT h1 (s.at i 1)/\dR (cK h1 (s.at i 1) x.v) F' eo ei s (aD.set i.toNat ys)/\Fr s.own h1 (cK h1 (s.at i 1) x.v):=by
 have hlen:=H.len
 obtain⟨ss,e1,h2,h3,h4,h5⟩:=H.out
 have hi:i.toNat<ss.length:=by omega
 have hsi:si=ss[i.toNat]:=by
  have:=h2.rd.get h0 (by simp;omega)
  rw[hs]at this
  simp[Sl.v]at this
  obtain⟨a,n,c⟩:=si
  cases hss:ss[i.toNat]
  simp_all
 subst hsi
 have QO:=h2.fr f fun k hk=>h5 _ hi k hk
 obtain⟨w1,w2,w3⟩:=QO.eX h0 (by omega) x.v
 have Jc:∀k,x.own k->¬s.own k:=fun k hk hs2=>by
  rcases hd k hk with hd|hd
  ·exact h5 _ hi k hs2 hd
  ·exact hd (h2.aH hs2).1
 refine⟨QO.bB h0 (by omega),w1,⟨ss.set i.toNat x,by simpa using e1,by rw[List.map_set];exact w2.mono fun k hk=>hF k (h2.aH hk).2,fun j a b=> ?_,fun j l a b dZ k hk aI=> ?_,fun j a k hk aI=> ?_⟩,w3⟩
 ·simp only[List.getElem_set]
  split
  ·exact hx.fr w3 Jc
  ·rename_i dZ
   have h3j:=h3 j (by simpa using a) (by simpa using b)
   exact((h3j.fr f fun k hk aI=>h4 i.toNat j hi (by simpa using a) dZ k aI hk).fr w3 fun k hk aI=>h5 _ (by simpa using a) k aI hk).mono fun k hk=>hF k (h3j.aH hk).2
 ·simp only[List.length_set]at a b
  simp only[List.getElem_set]at hk aI
  split at hk<;>split at aI
  ·omega
  ·rcases hd k hk with hd|hd
   ·exact h4 _ _ hi b (by omega) k hd aI
   ·exact hd ((h3 l b (by omega)).aH aI).1
  ·rcases hd k aI with hd|hd
   ·exact h4 _ _ a hi (by omega) k hk hd
   ·exact hd ((h3 j a (by omega)).aH hk).1
  ·exact h4 j l a b dZ k hk aI
 ·simp only[List.length_set]at a
  simp only[List.getElem_set]at aI
  split at aI
  ·exact Jc k aI hk
  ·exact h5 j a k hk aI
theorem dR.QP{h:Heap}{F:Nat->Prop}{eo ei:TypeId}{s:Sl}{aD:List (List Int)}(H:dR h F eo ei s aD){h1 h2:Heap}(f:Fr s.own h1 h2):Fr F h1 h2:=f.mono fun k _ hk=>by
 obtain⟨ss,e1,h2,_⟩:=H.out
 exact(h2.aH hk).1
theorem xf(a:Addr)(m n:Nat):(a.add m).add n=a.add (m+n):=by
 unfold Addr.add
 by_cases hm:m=0<;>by_cases hn:n=0<;>simp[hm,hn,Nat.add_assoc]
theorem cM.cut{S:Nat->Prop}{h:Heap}{sz:Nat}{s:Sl}{vs:List Value}(H:cM S h sz s vs){l m:Nat}(h1:l<=m)(h2:m<=s.n):cM S h sz (s.cut sz l m s.c) ((vs.drop (l*sz)).take ((m-l)*sz)):=by
 have hm:m*sz<=s.n*sz:=Nat.mul_le_mul_right _ h2
 have hlm:l*sz+(m-l)*sz=m*sz:=by rw[<-Nat.add_mul];congr 1;omega
 have hc:=H.cap
 have hb:=H.Jk
 refine⟨by simp[Sl.cut,H.len];omega,by simp[Sl.cut];omega,by simp[Sl.cut];omega,fun j hj=> ?_⟩
 simp[H.len]at hj
 obtain⟨a,ha,hS,hcl⟩:=H.cell (l*sz+j) (by rw[H.len];omega)
 by_cases aeo:s.c=l
 ·have:m-l=0:=by omega
  rw[this]at hj
  omega
 ·refine⟨a.add (l*sz),by simp[Sl.cut,aeo,ha],by rw[pJ];exact hS,?_⟩
  rw[xf,hcl]
  simp
theorem aQ.cut{S:Nat->Prop}{h:Heap}{s:Sl}{xs:List Int}(H:aQ S h s xs){l m:Nat}(h1:l<=m)(h2:m<=xs.length):aQ S h (s.cut 1 l m s.c) ((xs.drop l).take (m-l)):=by
 have:=cM.cut H h1 (by have:=H.len;omega)
 unfold aQ
 simpa using this
theorem dR.P4{h:Heap}{x y c d:Nat}{eo ei:TypeId}{s:Sl}{aD:List (List Int)}(H:dR h (Iv c d) eo ei s aD)(hx:x<=c)(hd:d<=y):dR h (Iv x y) eo ei s aD:=H.mono fun k _ hk=>⟨Nat.le_trans hx hk.1,Nat.lt_of_lt_of_le hk.2 hd⟩
theorem Ow.P4{h:Heap}{x y c d:Nat}{e:TypeId}{sz:Nat}{s:Sl}{vs:List Value}(H:Ow h (Iv c d) e sz s vs)(hx:x<=c)(hd:d<=y):Ow h (Iv x y) e sz s vs:=H.mono fun k _ hk=>⟨Nat.le_trans hx hk.1,Nat.lt_of_lt_of_le hk.2 hd⟩
theorem aQ.P4{h:Heap}{x y c d:Nat}{s:Sl}{xs:List Int}(H:aQ (Iv c d) h s xs)(hx:x<=c)(hd:d<=y):aQ (Iv x y) h s xs:=H.mono fun k hk=>⟨Nat.le_trans hx hk.1,Nat.lt_of_lt_of_le hk.2 hd⟩
theorem bU.P4{h:Heap}{x y c d:Nat}{s:Sl}{aD:List (List Int)}(H:bU (Iv c d) h s aD)(hx:x<=c)(hd:d<=y):bU (Iv x y) h s aD:=H.mono fun k hk=>⟨Nat.le_trans hx hk.1,Nat.lt_of_lt_of_le hk.2 hd⟩
def Jn:List Sl->List Int->List Value
 |s::ss,p::ps=>s.v::VI p::Jn ss ps
 |_,_=>[]
theorem mY:∀{ss:List Sl}{ps:List Int},ss.length=ps.length->(Jn ss ps).length=ss.length*2
 |[],[],_=>rfl
 |[],p::ps,h=>by simp at h
 |s::ss,[],h=>by simp at h
 |s::ss,p::ps,h=>by simp only[Jn,List.length_cons];rw[mY (by simpa using h)];omega
theorem B5:∀{ss:List Sl}{ps:List Int}(i:Nat)(h1:i<ss.length)(h2:i<ps.length),(Jn ss ps)[i*2]?=some ss[i].v/\(Jn ss ps)[i*2+1]?=some (VI ps[i])
 |s::ss,p::ps,0,_,_=>⟨rfl,rfl⟩
 |s::ss,p::ps,i+1,h1,h2=>by
  have:=B5 (ss:=ss) (ps:=ps) i (by simpa using h1) (by simpa using h2)
  have e1:(i+1)*2=i*2+1+1:=by omega
  rw[e1]
  simp only[Jn,List.getElem?_cons_succ,List.getElem_cons_succ]
  exact this
theorem Jo:∀{ss:List Sl}{ps:List Int}(i:Nat)(p:Int),ss.length=ps.length->i<ss.length->(Jn ss ps).set (i*2+1) (VI p)=Jn ss (ps.set i p)
 |s::ss,q::ps,0,p,_,_=>rfl
 |[],_,i,p,_,h=>by simp at h
 |s::ss,[],i,p,h,_=>by simp at h
 |s::ss,q::ps,i+1,p,h,hi=>by
  have e1:(i+1)*2+1=i*2+1+1+1:=by omega
  rw[e1]
  simp only[Jn,List.set_cons_succ]
  rw[Jo i p (by simpa using h) (by simpa using hi)]
theorem xg:∀{ss:List Sl}{ps:List Int}(s:Sl)(p:Int),ss.length=ps.length->Jn ss ps++[s.v,VI p]=Jn (ss++[s]) (ps++[p])
 |[],[],s,p,_=>rfl
 |[],q::ps,s,p,h=>by simp at h
 |t::ss,[],s,p,h=>by simp at h
 |t::ss,q::ps,s,p,h=>by
  simp only[Jn,List.cons_append]
  rw[xg s p (by simpa using h)]
structure Ey(S:Nat->Prop)(h:Heap)(s:Sl)(ws:List (List Int×Int)):Prop where
 out:∃ss:List Sl,ss.length=ws.length/\cM S h 2 s (Jn ss (ws.map (·.2)))/\∀i(h1:i<ss.length)(h2:i<ws.length),aQ S h ss[i] ws[i].1
structure pL(h:Heap)(F:Nat->Prop)(eo ei:TypeId)(s:Sl)(ws:List (List Int×Int)):Prop where
 out:∃ss:List Sl,ss.length=ws.length/\Ow h F eo 2 s (Jn ss (ws.map (·.2)))/\(∀i(h1:i<ss.length)(h2:i<ws.length),Ow h F ei 1 ss[i] (ws[i].1.map VI))/\
  (∀i j(h1:i<ss.length)(h2:j<ss.length),i≠j->∀k,ss[i].own k->¬ss[j].own k)/\(∀i(h1:i<ss.length),∀k,s.own k->¬ss[i].own k)
section
variable {h h':Heap} {F F' S T:Nat->Prop} {eo ei:TypeId} {s:Sl} {ws:List (List Int×Int)}
theorem Ey.len(H:Ey S h s ws):s.n=ws.length:=by
 obtain⟨ss,h1,h2,_⟩:=H.out
 have:=h2.len
 rw[mY (by simpa using h1)]at this
 omega
theorem Ey.Jk(H:Ey S h s ws):s.n<=maxLen:=by obtain⟨ss,h1,h2,_⟩:=H.out;exact h2.Jk
theorem Ey.fr(H:Ey S h s ws)(hf:Fr T h h')(hd:∀k,S k->¬T k):Ey S h' s ws:=
 let⟨ss,h1,h2,h3⟩:=H.out;⟨ss,h1,h2.fr hf hd,fun i a b=>(h3 i a b).fr hf hd⟩
theorem Ey.no(H:Ey S h s ws)(hf:Fr No h h'):Ey S h' s ws:=H.fr hf fun _ _ h=>h
theorem Ey.mono{S':Nat->Prop}(H:Ey S h s ws)(hS:∀k,S k->S' k):Ey S' h s ws:=
 let⟨ss,h1,h2,h3⟩:=H.out;⟨ss,h1,h2.mono hS,fun i a b=>(h3 i a b).mono hS⟩
theorem Ey.get(H:Ey S h s ws){i:Int}(h0:0<=i)(h1:i<(ws.length:Int)):dQ s i/\∃si:Sl,lk h (s.at i 2) [si.v,VI (ws[i.toNat]'(by omega)).2]/\aQ S h si (ws[i.toNat]'(by omega)).1:=by
 have hl:=H.len
 obtain⟨ss,e,h2,h3⟩:=H.out
 have hi:i.toNat<ss.length:=by omega
 have hlen:=mY (ss:=ss) (ps:=ws.map (·.2)) (by simpa using e)
 obtain⟨g1,g2⟩:=B5 (ss:=ss) (ps:=ws.map (·.2)) i.toNat hi (by simp;omega)
 obtain⟨a,ha,_,c1⟩:=h2.cell (i.toNat*2) (by omega)
 obtain⟨a',GB,_,c2⟩:=h2.cell (i.toNat*2+1) (by omega)
 rw[ha]at GB
 obtain rfl:a=a':=by simpa using GB
 rw[List.getElem?_eq_getElem (by omega)]at g1 g2
 have g1:=Option.some.inj g1
 have g2:=Option.some.inj g2
 rw[g1]at c1
 rw[g2]at c2
 refine⟨⟨by simp[ha],h0,by omega⟩,ss[i.toNat],fun j hj=> ?_,h3 _ hi (by omega)⟩
 have QN:s.at i 2=a.add (i.toNat*2):=by simp[Sl.at,ha]
 rw[QN,xf]
 match j,hj with
 |0,_=>exact c1
 |1,_=>simpa using c2
theorem pL.QP(H:pL h F eo ei s ws){h1 h2:Heap}(f:Fr s.own h1 h2):Fr F h1 h2:=f.mono fun k _ hk=>by
 obtain⟨ss,e1,h2,_⟩:=H.out
 exact(h2.aH hk).1
theorem pL.nil(h:Heap)(F:Nat->Prop)(eo ei:TypeId):pL h F eo ei aC []:=⟨[],rfl,Ow.nil _ _ _ _,fun i h1=>by simp at h1,fun i j h1=>by simp at h1,fun i h1=>by simp at h1⟩
theorem pL.fr(H:pL h F eo ei s ws)(hf:Fr T h h')(hT:∀k,k<h.size->F k->¬T k):pL h' F eo ei s ws:=by
 obtain⟨ss,h1,h2,h3,h4,h5⟩:=H.out
 exact⟨ss,h1,h2.fr hf fun k hk=>hT k (h2.aH hk).2 (h2.aH hk).1,fun i a b=>(h3 i a b).fr hf fun k hk=>hT k ((h3 i a b).aH hk).2 ((h3 i a b).aH hk).1,h4,h5⟩
theorem pL.no(H:pL h F eo ei s ws)(hf:Fr No h h'):pL h' F eo ei s ws:=H.fr hf fun _ _ _ h=>h
theorem pL.mono(H:pL h F eo ei s ws)(hF:∀k,k<h.size->F k->F' k):pL h F' eo ei s ws:=by
 obtain⟨ss,h1,h2,h3,h4,h5⟩:=H.out
 exact⟨ss,h1,h2.mono fun k hk=>hF k (h2.aH hk).2,fun i a b=>(h3 i a b).mono fun k hk=>hF k ((h3 i a b).aH hk).2,h4,h5⟩
theorem pL.rd(H:pL h F eo ei s ws):Ey (fun k=>F k/\k<h.size) h s ws:=by
 obtain⟨ss,h1,h2,h3,h4,h5⟩:=H.out
 exact⟨ss,h1,h2.rd.mono fun k hk=>h2.aH hk,fun i a b=>(h3 i a b).rd.mono fun k hk=>(h3 i a b).aH hk⟩
theorem pL.len(H:pL h F eo ei s ws):s.n=ws.length:=H.rd.len
theorem pL.iv{a b c d:Nat}(H:pL h (Iv a b) eo ei s ws)(f:Fr (Iv c d) h h')(hd:b<=c\/d<=a):pL h' (Iv a b) eo ei s ws:=H.fr f fun _ _ hk=>Iv.off hd hk
theorem pL.P4{x y c d:Nat}(H:pL h (Iv c d) eo ei s ws)(hx:x<=c)(hd:d<=y):pL h (Iv x y) eo ei s ws:=H.mono fun k _ hk=>⟨Nat.le_trans hx hk.1,Nat.lt_of_lt_of_le hk.2 hd⟩
theorem pL.fV{a:Nat}(H:pL h (fun k=>a<=k) eo ei s ws):pL h (Iv a h.size) eo ei s ws:=H.mono fun _ hk hF=>⟨hF,hk⟩
theorem pL.tm{a b:Nat}(H:pL h (Iv a b) eo ei s ws):Ey (Iv a b) h s ws:=H.rd.mono fun _ hk=>hk.1
theorem pL.inner(H:pL h F eo ei s ws){i:Int}(h0:0<=i)(h1:i<(ws.length:Int)):dQ s i/\∃si:Sl,aR h ((s.at i 2).add 0)=some si.v/\Ow h F ei 1 si ((ws[i.toNat]'(by omega)).1.map VI)/\
 ∀(h':Heap)(ys:List Int)(p:Int),Fr si.own h h'->Ow h' F ei 1 si (ys.map VI)->dT h' ((s.at i 2).add 1)/\pL (cK h' ((s.at i 2).add 1) (VI p)) F eo ei s (ws.set i.toNat (ys,p))/\Fr s.own h' (cK h' ((s.at i 2).add 1) (VI p)):=by
 have hl:=H.len
 obtain⟨ss,e1,h2,h3,h4,h5⟩:=H.out
 have hi:i.toNat<ss.length:=by omega
 have hlen:=mY (ss:=ss) (ps:=ws.map (·.2)) (by simpa using e1)
 obtain⟨g1,g2⟩:=B5 (ss:=ss) (ps:=ws.map (·.2)) i.toNat hi (by simp;omega)
 refine⟨h2.bB h0 (by omega),ss[i.toNat],?_,h3 _ hi (by omega),fun h' ys p hf hy=> ?_⟩
 ·obtain⟨a,ha,_,c1⟩:=h2.rd.cell (i.toNat*2) (by omega)
  rw[List.getElem?_eq_getElem (by omega)]at g1
  rw[Option.some.inj g1]at c1
  have QN:s.at i 2=a.add (i.toNat*2):=by simp[Sl.at,ha]
  rw[QN,BZ]
  exact c1
 ·have QO:=h2.fr hf fun k hk=>h5 _ hi k hk
  obtain⟨w1,w2,w3⟩:=QO.store h0 (by omega) 1 (by omega) (VI p)
  rw[Jo _ _ (by simpa using e1) hi]at w2
  refine⟨w1,⟨ss,by simpa using e1,by rw[List.map_set];exact w2,fun j a b=> ?_,h4,h5⟩,w3⟩
  simp only[List.getElem_set]
  split
  ·rename_i e
   subst e
   exact hy.fr w3 fun k hk aI=>h5 _ hi k aI hk
  ·rename_i e
   exact((h3 j a (by simpa using b)).fr hf fun k hk aI=>h4 i.toNat j hi a e k aI hk).fr w3 fun k hk aI=>h5 _ a k aI hk
end
theorem pL.snoc{P:Program}{t eo ei ty:TypeId}{bs:Nat}{z:List Value}(T:mX P t=some (eo,2,bs,z)){h:Heap}{F F' S:Nat->Prop}{s x lit:Sl}{ws:List (List Int×Int)}{xs:List Int}{p:Int}(H:pL h F eo ei s ws)(UY:∀k,k<h.size->F k->F' k)(hF:∀k,h.size<=k->F' k)
 (hx:Ow h F' ei 1 x (xs.map VI)) (Jc:∀k,x.own k->¬F k) (hl:cM S h 2 lit [x.v,VI p]) (hb:ws.length<=999999999999)
 {K:Value->Heap->Prop} (HK:∀(s':Sl)(h':Heap),pL h' F' eo ei s' (ws++[(xs,p)])->Fr F h h'->K s'.v h'):jQ P (bK t t ty s.v lit.v) h K:=by
 have hsn:=H.len
 obtain⟨ss,e1,h2,h3,h4,h5⟩:=H.out
 have hln:lit.n=1:=by have:=hl.len;simp at this;omega
 refine bL T (h2.mono fun k hk=>UY k (h2.aH hk).2) hF hl rfl (by omega) fun s' h' hn hs hf hd=>HK s' h' ⟨ss++[x],by simp[e1],by rw[xg x p (by simpa using e1)]at hs;simpa using hs,fun i a b=> ?_,fun i j a b dZ k hk aI=> ?_,fun i a k hk aI=> ?_⟩ (hf.mono fun k _ hk=>(h2.aH hk).1)
 ·by_cases hi:i<ss.length
  ·rw[List.getElem_append_left hi,List.getElem_append_left (by omega)]
   exact((h3 i hi (by omega)).fr hf fun k hk aI=>h5 i hi k aI hk).mono fun k hk=>UY k ((h3 i hi (by omega)).aH hk).2
  ·simp at a b
   have e2:i=ss.length:=by omega
   subst e2
   have e3:(ws++[(xs,p)])[ss.length]'(by simp;omega)=(xs,p):=by simp[e1]
   rw[e3]
   simp only[List.getElem_concat_length]
   exact hx.fr hf fun k hk aI=>Jc k hk (h2.aH aI).1
 ·simp at a b
  by_cases hi:i<ss.length<;>by_cases hj:j<ss.length
  ·rw[List.getElem_append_left hi]at hk
   rw[List.getElem_append_left hj]at aI
   exact h4 i j hi hj dZ k hk aI
  ·have e2:j=ss.length:=by omega
   subst e2
   rw[List.getElem_append_left hi]at hk
   simp only[List.getElem_concat_length]at aI
   exact Jc k aI ((h3 i hi (by omega)).aH hk).1
  ·have e2:i=ss.length:=by omega
   subst e2
   rw[List.getElem_append_left hj]at aI
   simp only[List.getElem_concat_length]at hk
   exact Jc k hk ((h3 j hj (by omega)).aH aI).1
  ·omega
 ·simp at a
  by_cases hi:i<ss.length
  ·rw[List.getElem_append_left hi]at aI
   rcases hd k hk with hd|hd
   ·exact h5 i hi k hd aI
   ·have:=((h3 i hi (by omega)).aH aI).2;omega
  ·have e2:i=ss.length:=by omega
   subst e2
   simp only[List.getElem_concat_length]at aI
   rcases hd k hk with hd|hd
   ·exact Jc k aI (h2.aH hd).1
   ·have:=(hx.aH aI).2;omega
end Go.Mx
