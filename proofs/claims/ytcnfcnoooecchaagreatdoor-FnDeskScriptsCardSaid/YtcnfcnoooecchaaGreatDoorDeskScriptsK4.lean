import Derived.Test.YtcnfcnoooecchaaGreatDoorDeskScriptsK3
set_option linter.unusedVariables false
set_option linter.unusedSimpArgs false
namespace Go.Proofs.YtcnfcnoooecchaaGreatDoor
open Go Go.Mx
def lP(w:List UInt8):Option Int:=match Lib.atoiAll w with
 | .ok n=>if 0<=n/\n<=999999/\Lib.itoa n=w then some n else none
 |_=>none
def px(w:List UInt8):Option Nat:=if 1<=w.length/\w.length<=6/\¬(w.head?=some 48/\1<w.length)then Lib.decFrom 0 w else none
theorem mH(c:UInt8):∀(l:List UInt8)(a:Nat),Lib.decFrom a (l++[c])=(Lib.decFrom a l).bind fun n=>(Lib.digitVal c).map fun d=>n*10+d
 |[],a=>by
  show Lib.decFrom a [c]=_
  unfold Lib.decFrom
  cases Lib.digitVal c<;>rfl
 |b::l,a=>by
  rw[List.cons_append]
  unfold Lib.decFrom
  cases Lib.digitVal b with
  |none=>rfl
  |some d=>exact mH c l _
theorem JY{d:Nat}(h:d<10):Lib.digitVal (UInt8.ofNat (48+d))=some d:=by
 have:∀d:Fin 10,Lib.digitVal (UInt8.ofNat (48+d.val))=some d.val:=by decide
 exact this ⟨d,h⟩
theorem EN{c:UInt8}{d:Nat}(h:Lib.digitVal c=some d):d<10/\c=UInt8.ofNat (48+d):=by
 unfold Lib.digitVal at h
 split at h
 ·rename_i hc
  have h:=bF h
  refine⟨by omega,wk.1 ?_⟩
  rw[UInt8.toNat_ofNat']
  omega
 ·cases h
theorem JZ:∀u:Nat,Lib.decFrom 0 (Lib.decDigits u)=some u:=by
 intro u
 induction u using Nat.strongRecOn with
 |_ u ih=>
  by_cases h:u<10
  ·rw[Lib.decDigits,dif_pos h]
   have:=mH (UInt8.ofNat (48+u)) [] 0
   rw[List.nil_append]at this
   rw[this,JY h]
   simp[Lib.decFrom]
  ·rw[Lib.decDigits,dif_neg h,mH,ih (u/10) (by omega),JY (by omega)]
   simp only[Option.bind_some,Option.map_some,dD]
   omega
theorem iA:∀(k u:Nat),u<10^(k+1)->1<=(Lib.decDigits u).length/\(Lib.decDigits u).length<=k+1
 |0,u,h=>by rw[Lib.decDigits,dif_pos (by simpa using h)];simp
 |k+1,u,h=>by
  by_cases hu:u<10
  ·rw[Lib.decDigits,dif_pos hu];simp
  ·have:=iA k (u/10) (by rw[Nat.pow_succ]at h;omega)
   rw[Lib.decDigits,dif_neg hu,bT,List.length_singleton]
   omega
theorem J1:∀u:Nat,(Lib.decDigits u).head?=some 48->u=0:=by
 intro u
 induction u using Nat.strongRecOn with
 |_ u ih=>
  intro h
  by_cases hu:u<10
  ·rw[Lib.decDigits,dif_pos hu]at h
   have:∀d:Fin 10,UInt8.ofNat (48+d.val)=48->d.val=0:=by decide
   exact this ⟨u,hu⟩ (by simpa using h)
  ·rw[Lib.decDigits,dif_neg hu]at h
   have hl:=(iA (u/10) (u/10) (by have:=Nat.lt_pow_self (n:=u/10+1) (show 1<10 by omega);omega)).1
   have:(Lib.decDigits (u/10)).head?=some 48:=by
    cases hd:Lib.decDigits (u/10)with
    |nil=>rw[hd]at hl;simp at hl
    |cons x l=>rw[hd]at h;simpa using h
   have:=ih (u/10) (by omega) this
   omega
theorem J2:∀(k:Nat)(w:List UInt8)(n:Nat),w.length=k->1<=w.length->¬(w.head?=some 48/\1<w.length)->Lib.decFrom 0 w=some n->Lib.decDigits n=w:=by
 intro k
 induction k with
 |zero=>intro w n h1 h2;omega
 |succ k ih=>
  intro w n h1 h2 h3 h4
  have hw:w≠[]:=fun e=>by rw[e]at h2;simp at h2
  have e:=List.dropLast_concat_getLast hw
  have el:(w.dropLast).length=k:=by rw[List.length_dropLast];omega
  rw[<-e,mH]at h4
  cases hm:Lib.decFrom 0 w.dropLast with
  |none=>rw[hm]at h4;cases h4
  |some m=>
   rw[hm]at h4
   cases hc:Lib.digitVal (w.getLast hw)with
   |none=>rw[hc]at h4;cases h4
   |some d=>
    rw[hc]at h4
    have h4:m*10+d=n:=by simpa using h4
    obtain⟨hd,ed⟩:=EN hc
    by_cases hk:k=0
    ·have:w.dropLast=[]:=qa.1 (by omega)
     rw[this]at hm e
     have hm:0=m:=by simpa[Lib.decFrom]using hm
     rw[Lib.decDigits,dif_pos (by omega),<-e,ed]
     congr 3;omega
    ·have hh:¬(w.dropLast.head?=some 48):=fun hh=>by
      refine h3 ⟨?_,by omega⟩
      cases hd:w.dropLast with
      |nil=>rw[hd]at el;simp at el;omega
      |cons x l=>rw[<-e,hd];rw[hd]at hh;simpa using hh
     have:=ih w.dropLast m el (by omega) (fun h=>hh h.1) hm
     have m0:m≠0:=fun h0=>by
      rw[h0,Lib.decDigits,dif_pos (by omega)]at this
      exact hh (by rw[<-this];rfl)
     rw[Lib.decDigits,dif_neg (by omega),show n/10=m by omega,this,show n%10=d by omega,<-ed]
     exact e
theorem Tt(w:List UInt8):lP w=(px w).map fun n=>(n:Int):=by
 unfold lP
 cases hr:px w with
 |some n=>
  unfold px at hr
  split at hr
  ·rename_i hc
   have hd:=J2 _ w n rfl hc.1 hc.2.2 hr
   have wF:=Lib.decFrom_lt w 0 n hr
   have hp:10^w.length<=10^6:=Ah (by decide) hc.2.1
   have ha:Lib.atoiAll w= .ok (n:Int):=by
    rw[Lib.atoiAll_short w (by omega)]
    cases w with
    |nil=>simp at hc
    |cons b r=>
     have hb:∃d,Lib.digitVal b=some d:=by
      unfold Lib.decFrom at hr
      cases hb:Lib.digitVal b with
      |none=>rw[hb]at hr;cases hr
      |some d=>exact⟨d,rfl⟩
     obtain⟨d,hb⟩:=hb
     obtain⟨d1,d2⟩:=EN hb
     have hx:(b==45)=false/\(b==43)=false:=by
      rw[d2]
      have:∀d:Fin 10,(UInt8.ofNat (48+d.val)==45)=false/\(UInt8.ofNat (48+d.val)==43)=false:=by decide
      exact this ⟨d,d1⟩
     unfold Lib.atoi Lib.decNat
     simp only[hx.1,hx.2,wz,gz,List.isEmpty_cons,hr,Option.map_some,Lib.NumEnd.ofOption]
   rw[ha]
   (try simp only)
   rw[aJ ⟨by omega,by have:(10:Nat)^6=1000000:=by decide
                      omega,by rw[Lib.itoa_nonneg,hd]⟩]
   rfl
  ·cases hr
 |none=>
  cases ha:Lib.atoiAll w with
  |ok n=>
   (try simp only)
   rw[aF]
   ·rfl
   ·rintro⟨h0,h1,h2⟩
    obtain⟨u,hu⟩:∃u:Nat,n=u:=⟨n.toNat,by omega⟩
    rw[hu,Lib.itoa_nonneg]at h2
    have hl:=iA 5 u (by have:(10:Nat)^(5+1)=1000000:=by decide
                        omega)
    unfold px at hr
    rw[<-h2,aJ ⟨hl.1,hl.2,fun h=>by
     have:=J1 u h.1
     rw[this,Lib.decDigits,dif_pos (by omega)]at h
     simp at h⟩,JZ]at hr
    cases hr
  |_=>rfl
def zL(l:aH):List UInt8:=Lib.join (l.map Lib.itoa) [44]
def qD(s:St):List UInt8:=Lib.itoa s.2++58::zL s.1
abbrev Dk:=aE×St
abbrev tC:=Option (Dk×List UInt8)
def EO(d:Dk)(r:St×Bool):tC:=if r.2=true then some ((d.1,r.1),qD r.1)else none
def Tu(d:Dk)(r:aH×Bool):tC:=if r.2=true then some (d,zL r.1)else none
def YC(d:Dk)(r:Int×Bool):tC:=if r.2=true then some (d,Lib.itoa r.1)else none
def stC(d:Dk):tC:=EO d (fe d.1 d.2.1 d.2.2 1)
def prC(d:Dk):tC:=Tu d ([(fG d.1 d.2.1 d.2.2).1,(fG d.1 d.2.1 d.2.2).2.1],(fG d.1 d.2.1 d.2.2).2.2)
noncomputable def cyC(d:Dk):tC:=Tu d (uU d.1 d.2.1 d.2.2)
def XF(d:Dk)(p:Int):tC:=EO d ((d.2.1,p),aZ d.1&&jX 0 ((d.1.length:Int)-1) p)
def rnC(d:Dk)(n:Int):tC:=EO d (fe d.1 d.2.1 d.2.2 n)
def psC(d:Dk)(n:Int):tC:=Tu d (km d.1 d.2.1 d.2.2 n)
def vsC(d:Dk)(n:Int):tC:=Tu d (qH d.1 d.2.1 d.2.2 n)
def htC(d:Dk)(n:Int):tC:=YC d (pX d.1 d.2.1 d.2.2 n)
def tsC(d:Dk)(n:Int):tC:=YC d (uQ d.1 n)
def flC(d:Dk)(n:Int):tC:=Tu d (sE d.1 n)
def YD(d:Dk)(p q:Int):tC:=if(jx d.1 p q).2=true then some (((jx d.1 p q).1,d.2),wx (jx d.1 p q).1)else none
def Tw(d:Dk)(p k:Int):tC:=EO d ((d.2.1.set p.toNat k,d.2.2),aZ d.1&&jX 0 ((d.1.length:Int)-1) p&&jX 0 (((d.1.getD p.toNat []).length:Int)-1) k)
def chC(d:Dk)(p q:Int):tC:=if(u7 d.1 d.2.2 p q).2=true then some (d,Lib.itoa (u7 d.1 d.2.2 p q).1.1++47::Lib.itoa (u7 d.1 d.2.2 p q).1.2)else none
def gwC(d:Dk)(p q:Int):tC:=Tu d (sG p q)
def esC(d:Dk)(p q r s:Int):tC:=YC d (CM p q r s)
def gpC(w:List UInt8):Option tC:=match rS w with
 |some g=>some (some ((g,(List.replicate g.length 0,0)),wx g))
 |none=>none
noncomputable def kB(d:Dk)(w:List UInt8):Option tC:=
 if w=[115,116,101,112]then some (stC d)else if w=[115,104,111,119]then some (some (d,wx d.1))else if w=[119,97,108,107]then some (some (d,qD d.2))
 else if w=[112,101,114,105,111,100]then some (prC d)else if w=[99,121,99,108,101]then some (cyC d)else none
def jv(d:Dk)(w:List UInt8)(n:Int):Option tC:=
 if w=[97,116]then some (XF d n)else if w=[114,117,110]then some (rnC d n)else if w=[112,97,115,115]then some (psC d n)else if w=[118,105,115,105,116,115]then some (vsC d n)
 else if w=[104,105,116]then some (htC d n)else if w=[116,114,101,101,115]then some (tsC d n)else if w=[102,117,108,108]then some (flC d n)else none
def yl(d:Dk)(w:List UInt8)(a b:Int):Option tC:=
 if w=[97,100,100]then some (YD d a b)else if w=[116,117,114,110]then some (Tw d a b)else if w=[99,104,97,110,99,101]then some (chC d a b)else if w=[103,114,111,119]then some (gwC d a b)else none
def PO:List UInt8:=[103,114,97,112,104]
def CQ:List UInt8:=[101,115,99,97,112,101,115]
noncomputable def dC(d:Dk)(w:List UInt8)(ns:aH):Option tC:=match ns with
 |[]=>kB d w
 |[a]=>jv d w a
 |[a,b]=>yl d w a b
 |[a,b,c,e]=>if w=CQ then some (esC d a b c e)else none
 |_=>none
noncomputable def jD(d:Dk)(ws:List (List UInt8)):Option tC:=
 if ws.length=2/\ws.headD []=PO then gpC (ws.getD 1 [])else match jn lP ws.tail with
 |none=>none
 |some ns=>dC d (ws.headD []) ns
def adF(d:Dk)(a:Option tC):Dk×List UInt8:=match a with
 |none=>(d,[119,104,97,116])
 |some none=>(d,[110,111])
 |some (some r)=>r
noncomputable def fm(d:Dk)(s:List UInt8):Dk×List UInt8:=adF d (jD d (iF 32 s))
def pz(d:Dk):Prop:=fS d.1 d.2.1 d.2.2=true
noncomputable def jU(d:Dk)(s:List UInt8):Option (Dk×List UInt8):=if fS d.1 d.2.1 d.2.2=true/\s.length<=3000/\10∉s then some (fm d s)else none
noncomputable def iB:Dk->List (List UInt8)->Dk×List (List UInt8)
 |d,[]=>(d,[])
 |d,s::ss=>((iB (fm d s).1 ss).1,(fm d s).2::(iB (fm d s).1 ss).2)
def kC:Dk:=([[1,2],[0,2],[0]],([0,0,0],0))
noncomputable def dQ(s:List UInt8):Option (Dk×List (List UInt8)):=if s.length<=3000/\(iF 10 s).getLast?=some []/\(iF 10 s).length<=51 then some (iB kC (iF 10 s).dropLast)else none
theorem sH{n:Int}(h0: -9223372036854775808<=n)(h1:n<=9223372036854775807):(Lib.itoa n).length<=21:=Lib.itoa_length_le n h0 h1
theorem Hj{rs:aH}(B:∀x,x∈rs-> -9223372036854775808<=x/\x<=9223372036854775807):(zL rs).length<=41*rs.length:=by
 have:=uL 44 (rs.map Lib.itoa) fun y hy=>by
  obtain⟨x,hx,rfl⟩:=dN.1 hy
  have:=sH (B x hx).1 (B x hx).2
  omega
 rw[bB]at this
 exact this
theorem agJ{d:Int}(h0:0<=d)(h1:d<10):IntKind.u8.wrap (48+d)=48+d:=by
 show(48+d)%256=48+d
 omega
theorem Hk{d:Nat}(h:d<10):strOfNums [48+(d:Int)]=⟨[UInt8.ofNat (48+d)].toArray⟩:=by
 apply ByteArray.ext
 apply Array.toList_inj.1
 rw[strOfNums_data]
 simp only[bJ,jb,rA,and_true]
 have:(48+(d:Int)).toNat=48+d:=by omega
 rw[this]
theorem jO(n:Nat):n<=1000000000000000000->∀{h:Heap}(K:aL),(∀h',Fr No h h'->K (VS ⟨(Lib.decDigits n).toArray⟩) h')->aG aB 73 #[VI n] h K:=by
 induction n using Nat.strongRecOn with
 |_ n ih=>
  intro hn h K HK
  by_cases hd:n<10
  ·exact Nd (by omega) (by omega) K (by rw[Int.toNat_natCast];exact HK)
  have aog:Lib.decDigits n=Lib.decDigits (n/10)++[UInt8.ofNat (48+n%10)]:=by rw[Lib.decDigits,dif_neg hd]
  have hlen:(Lib.decDigits (n/10)).length<=19:=(iA 18 (n/10) (by omega)).2
  rw[aog]at HK
  have et:Int.tmod (n:Int) 10=((n%10:Nat):Int):=by rw[Hd (by omega)];omega
  have ed:aX (Int.tdiv (n:Int) 10)=((n/10:Nat):Int):=by rw[Int.tdiv_eq_ediv_of_nonneg (by omega),aP _ (by omega) (by omega)];omega
  have ew:aX (48+Int.tmod (n:Int) 10)=48+((n%10:Nat):Int):=by rw[et,aP _ (by omega) (by omega)]
  have ap:(⟨(Lib.decDigits (n/10)).toArray⟩:ByteArray)++⟨[UInt8.ofNat (48+n%10)].toArray⟩=⟨(Lib.decDigits (n/10)++[UInt8.ofNat (48+n%10)]).toArray⟩:=gj _ _
  have conv:∀{X:Heap}{K:Value->Prop},K (.int .u8 (48+((n%10:Nat):Int)))->Da aB (convert 3 5 (VI (aX (48+Int.tmod (n:Int) 10)))) X K:=fun HK=>by
   rw[ew]
   refine jy (show Tryz.prog.underlying _=some (.int .i64)from by kernel_rfl) (show Tryz.prog.underlying _=some (.int .u8)from by kernel_rfl) (48+((n%10:Nat):Int)) ?_
   rw[agJ (by omega) (by omega)]
   exact HK
  refine v73 n h K ⟨fun e=>by simp only[aT]at e;omega,fun e=>conv ⟨_,rfl,?_,?_⟩⟩
  ·rw[ed]
   refine ih (n/10) (by omega) (by omega) _ fun h2 f2=>⟨_,rfl,.nil,?_,?_⟩
   ·obtain⟨v,hv,e⟩:=(conv (X:=h2) (K:=fun v=>v= .int .u8 (48+((n%10:Nat):Int))) rfl).out
    subst e
    exact hv
   refine bC VE (fun k=>h2.size<=k) (fun _ h=>h) 1 (by omega) [.int .u8 (48+((n%10:Nat):Int))] rfl rfl fun w h3 n3 c3 o3 f3 m3 _=>⟨w,rfl,.nil,?_⟩
   refine rP (bs:=[UInt8.ofNat (48+n%10)]) o3.fW (Hk (by omega)) ⟨_,rfl,?_,?_⟩
   ·rw[cT,cT];simp only[List.length_singleton];omega
   ·rw[ap];exact HK h3 (f2.aA f3)
  ·refine bC VE (fun k=>h.size<=k) (fun _ h=>h) 1 (by omega) [.int .u8 (48+((n%10:Nat):Int))] rfl rfl fun w h4 n4 c4 o4 f4 m4 _=>⟨w,rfl,.nil,?_⟩
   refine rP (bs:=[UInt8.ofNat (48+n%10)]) o4.fW (Hk (by omega)) ⟨_,rfl,?_⟩
   rw[ed]
   refine ih (n/10) (by omega) (by omega) _ fun h5 f5=>⟨_,rfl,.nil,?_,?_,?_⟩
   ·obtain⟨v,hv,e⟩:=(rP (h:=h5) (bs:=[UInt8.ofNat (48+n%10)]) (dK.no o4.fW f5) (Hk (d:=n%10) (by omega)) (K:=fun v=>v=VS ⟨[UInt8.ofNat (48+n%10)].toArray⟩) rfl).out
    subst e
    exact hv
   ·rw[cT,cT];simp only[List.length_singleton];omega
   ·rw[ap];exact HK h5 (f4.aA f5)
theorem XG{n:Int}(h0: -1000000000000000000<=n)(h1:n<=1000000000000000000){h:Heap}(K:aL)(HK:∀h',Fr No h h'->K (VS ⟨(Lib.itoa n).toArray⟩) h'):aG aB 225 #[VI n] h K:=by
 refine ak3 n h K ⟨fun e=> ?_,fun e=> ?_⟩
 ·simp only[aT]at e
  obtain⟨u,hu⟩:∃u:Nat,n= -(u:Int):=⟨(-n).toNat,by omega⟩
  rw[aP _ (by omega) (by omega),show(0:Int)-n=((u:Nat):Int) by omega]
  refine jO u (by omega) _ fun h2 f2=>⟨_,rfl,.nil,?_,?_⟩
  ·have:=(iA 18 u (by omega)).2
   rw[show(⟨#[45]⟩:ByteArray)=⟨[45].toArray⟩from rfl,cT,cT];simp only[List.length_singleton];omega
  ·have:=HK h2 f2
   rw[hu,Lib.itoa_neg u (by omega)]at this
   rw[show(⟨#[45]⟩:ByteArray)=⟨[45].toArray⟩from rfl,gj]
   exact this
 ·simp only[aW]at e
  obtain⟨u,rfl⟩:∃u:Nat,n=(u:Int):=⟨n.toNat,by omega⟩
  rw[Lib.itoa_nonneg]at HK
  exact jO u (by omega) _ fun h2 f2=>⟨_,rfl,.nil,HK h2 f2⟩
theorem J3{S:aK}{h:Heap}{s:Sl}{rs:aH}(H:bE S h s rs)(B:∀x,x∈rs-> -1000000000000000000<=x/\x<=1000000000000000000)(hn:rs.length<=1000)(K:aL)(HK:∀h',Fr No h h'->K (VS ⟨(zL rs).toArray⟩) h'):aG aB 180 #[s.v] h K:=by
 have sn:=H.len
 have B':∀x,x∈rs-> -9223372036854775808<=x/\x<=9223372036854775807:=fun x hx=>by have:=B x hx;omega
 refine aj4 s h K ⟨fun m out i h'=>0<=i/\i+m=(rs.length:Int)/\out=(⟨(zL (rs.take i.toNat)).toArray⟩:ByteArray)/\Fr No h h',⟨rs.length,by omega,by omega,rfl,Fr.refl _ _⟩,?_⟩
 rintro m out i h3 ⟨i0,i1,rfl,f3⟩ dA
 have H3:=H.no f3
 refine⟨fun e2=> ?_,fun e2=> ?_⟩
 ·have hi:=H3.lt e2
  have zP:i.toNat<rs.length:=by omega
  have b:=B _ (bI zP)
  have hl1:=Hj (rs:=rs.take i.toNat) fun x hx=>B' x (lR hx)
  rw[fD]at hl1
  generalize hB:zL (rs.take i.toNat)++(if i.toNat=0 then[]else[44])=Q
  have Ql:Q.length<=41001:=by rw[<-hB,bT];split<;>simp only[List.length_nil,List.length_cons]<;>omega
  have next:zL (rs.take (i.toNat+1))=Q++Lib.itoa rs[i.toNat]:=by rw[<-hB];unfold zL;rw[xj Lib.itoa [44] zP]
  refine⟨H3.bQ i0 hi,_,H3.get i0 hi,fun x h'=>x=(⟨Q.toArray⟩:ByteArray)/\h'=h3,⟨fun e5=>⟨?_,?_,rfl⟩,fun e5=>⟨?_,rfl⟩⟩,?_⟩
  ·rw[cT];show _+1<=_;omega
  ·simp only[aT]at e5
   rw[show(⟨#[44]⟩:ByteArray)=⟨[44].toArray⟩from rfl,gj,<-hB,aF (by omega)]
  ·simp only[aW]at e5
   rw[<-hB,aJ (by omega),gK]
  rintro x h5 ⟨rfl,rfl⟩ iU
  refine XG b.1 b.2 _ fun h6 f6=>⟨_,rfl,.nil,?_,?_⟩
  ·have:=sH (n:=rs[i.toNat]) (by omega) (by omega)
   rw[cT,cT];omega
  ·rw[gj,<-next,aP _ (by omega) (by omega)]
   exact⟨m-1,by omega,by omega,by omega,by rw[show(i+1).toNat=i.toNat+1 by omega],f3.aA f6⟩
 ·have hi:=H3.ge e2
  rw[cW (by omega)]
  exact HK h3 f3
theorem J4{S:aK}{h:Heap}{s:Sl}{rs:aH}(H:bE S h s rs){p:Int}(hp:0<=p/\p<=1000000000000000000)(B:∀x,x∈rs-> -1000000000000000000<=x/\x<=1000000000000000000)(hn:rs.length<=1000)(K:aL)(HK:∀h',Fr No h h'->K (VS ⟨(qD (rs,p)).toArray⟩) h'):aG aB 130 #[.agg #[s.v,VI p]] h K:=by
 refine v130 s p h K fun b1 h1 fw f1 cU=> ?_
 have f1:=f1.aM
 obtain⟨u,rfl⟩:∃u:Nat,p=(u:Int):=⟨p.toNat,by omega⟩
 have dl:=(iA 18 u (by omega)).2
 have zl:=Hj (rs:=rs) fun x hx=>by have:=B x hx;omega
 refine jO u (by omega) _ fun h2 f2=>⟨_,rfl,cU.aC f2,by rw[cT];show _+1<=_;omega,J3 ((H.no f1).no f2) B hn _ fun h3 f3=>⟨_,rfl,(cU.aC f2).aC f3,?_,?_⟩⟩
 ·rw[show(⟨#[58]⟩:ByteArray)=⟨[58].toArray⟩from rfl,gj,cT,cT,bT];show _+1+_<=_;omega
 ·rw[show(⟨#[58]⟩:ByteArray)=⟨[58].toArray⟩from rfl,gj,gj]
  have:=HK h3 ((f1.aA f2).aA f3)
  unfold qD at this
  rw[Lib.itoa_nonneg]at this
  simpa using this
theorem Ma{n:Int}{ok:Bool}(hn:ok=true->0<=n/\n<=1000000000000000000){h:Heap}(K:aL)(HK:∀h',Fr No h h'->K (VS ⟨(if ok=true then Lib.itoa n else[110,111]).toArray⟩) h'):aG aB 134 #[VI n,VB ok] h K:=by
 refine ai9 n ok h K ⟨fun e=> ?_,fun e=> ?_⟩
 ·have e:ok=false:=by simpa using e
  rw[aF (by rw[e];decide)]at HK
  exact HK h (Fr.refl _ _)
 ·have e:ok=true:=by simpa using e
  rw[aJ e]at HK
  have:=hn e
  obtain⟨u,rfl⟩:∃u:Nat,n=(u:Int):=⟨n.toNat,by omega⟩
  rw[Lib.itoa_nonneg]at HK
  exact jO u (by omega) _ fun h2 f2=>⟨_,rfl,.nil,HK h2 f2⟩
theorem Tx{S:aK}{h:Heap}{s:Sl}{rs:aH}{ok:Bool}(H:ok=true->bE S h s rs)(B:ok=true->∀x,x∈rs-> -1000000000000000000<=x/\x<=1000000000000000000)(hn:ok=true->rs.length<=1000)(K:aL)(HK:∀h',Fr No h h'->K (VS ⟨(if ok=true then zL rs else[110,111]).toArray⟩) h'):aG aB 131 #[s.v,VB ok] h K:=by
 refine v131 s ok h K ⟨fun e=> ?_,fun e=> ?_⟩
 ·have e:ok=false:=by simpa using e
  rw[aF (by rw[e];decide)]at HK
  exact HK h (Fr.refl _ _)
 ·have e:ok=true:=by simpa using e
  rw[aJ e]at HK
  exact J3 (H e) (B e) (hn e) _ fun h2 f2=>⟨_,rfl,.nil,HK h2 f2⟩
def lZ(rs:aH):List UInt8:=if rs.length=0 then[45]else zL rs
theorem adG{rs:aH}(B:∀x,x∈rs-> -9223372036854775808<=x/\x<=9223372036854775807):(lZ rs).length<=41*rs.length+1:=by
 have:=Hj B
 unfold lZ
 split
 ·simp
 ·omega
theorem yX{S:aK}{h:Heap}(GL:iG h){s:Sl}{rs:aH}(H:bE S h s rs)(B:∀x,x∈rs-> -9223372036854775808<=x/\x<=9223372036854775807)(hn:rs.length<=1000)(K:aL)(HK:∀h',Fr No h h'->K (VS ⟨(lZ rs).toArray⟩) h'):aG aB 89 #[s.v] h K:=by
 have sn:=bE.len H
 refine v89 s h K ⟨fun e=> ?_,fun e=> ?_⟩
 ·simp only[aT]at e
  have:=HK h (Fr.refl _ _)
  unfold lZ at this
  rw[aJ (by omega)]at this
  exact this
 simp only[aW]at e
 refine bC OR (fun k=>h.size<=k) (fun _ h=>h) 0 (by omega) [] rfl rfl fun o h1 n1 c1 o1 f1 m1 _=>⟨o,rfl,.nil,?_⟩
 have z1:=f1.size
 have Vd:C8 h1 (fun k=>h.size<=k) o []:=o1
 have yP:∀{x:Heap},Fr (fun k=>h.size<=k) h x->Fr No h x:=fun f=>f.mono fun k hk aQ=>absurd aQ (by omega)
 refine⟨fun m x p h'=>0<=p/\p+m=(rs.length:Int)/\C8 h' (fun k=>h.size<=k) x ((rs.take p.toNat).map fun y=>(⟨(Lib.itoa y).toArray⟩:ByteArray))/\Fr (fun k=>h.size<=k) h h',⟨rs.length,by omega,by omega,by simpa using Vd,f1.aC⟩,?_⟩
 rintro m x p h2 ⟨p0,p1,o2,f2⟩ cR
 have z2:=f2.size
 have H2:=H.no (yP f2)
 refine⟨fun e2=> ?_,fun e2=> ?_⟩
 ·have hp:=H2.lt e2
  have bx:=B _ (bI (show p.toNat<rs.length by omega))
  refine⟨H2.bQ p0 hp,_,H2.get p0 hp,kW (GL.no (yP f2)) bx.1 bx.2 _ fun h3 f3=>⟨_,rfl,.nil,?_⟩⟩
  refine pc (Ow.no o2 f3) (fun k hk=>by have:=f3.size;omega) .nil (fun q hq=>by cases hq) (by simp;omega) _ fun t h5 o5 f5 _=> ?_
  rw[H2.succ p0 hp]
  refine⟨m-1,by omega,by omega,by omega,?_,(f2.trans f3.aC).trans f5⟩
  rw[show(p+1).toNat=p.toNat+1 by omega,vL,dT (show p.toNat<rs.length by omega)]
  rw[cQ]
  exact o5
 ·have hp:=H2.ge e2
  rw[cW (by omega)]at o2
  have hm:((rs.map fun y=>(⟨(Lib.itoa y).toArray⟩:ByteArray)).map (·.data.toList))=rs.map Lib.itoa:=by simp
  have ZA:=Hj B
  unfold zL at ZA
  refine K9 o2.fW (fun hh=>by have:=congrArg List.length hh;simp at this;simp[this]at sn;omega) (by simp;omega) (by rw[hm];show(Lib.join _ [44]).length<=_;omega) _ fun h3 f3=>⟨_,rfl,.nil,?_⟩
  have:=HK h3 ((yP f2).trans f3)
  unfold lZ zL at this
  rw[aF (by omega)]at this
  rw[hm]
  exact this
def CR(s:St):List UInt8:=Lib.itoa s.2++58::lZ s.1
theorem yY{S:aK}{h:Heap}(GL:iG h){s:Sl}{rs:aH}(H:bE S h s rs){p:Int}(hp: -9223372036854775808<=p/\p<=9223372036854775807)(B:∀x,x∈rs-> -9223372036854775808<=x/\x<=9223372036854775807)(hn:rs.length<=1000)(K:aL)(HK:∀h',Fr No h h'->K (VS ⟨(CR (rs,p)).toArray⟩) h'):aG aB 55 #[.agg #[s.v,VI p]] h K:=by
 refine v55 s p h K fun b1 h1 fw f1 cU=> ?_
 have f1:=f1.aM
 have dl:=sH hp.1 hp.2
 have zl:=adG B
 refine kW (GL.no f1) hp.1 hp.2 _ fun h2 f2=>⟨_,rfl,cU.aC f2,by rw[cT];show _+1<=_;omega,yX ((GL.no f1).no f2) ((H.no f1).no f2) B hn _ fun h3 f3=>⟨_,rfl,(cU.aC f2).aC f3,?_,?_⟩⟩
 ·rw[show(⟨#[58]⟩:ByteArray)=⟨[58].toArray⟩from rfl,gj,cT,cT,bT];show _+1+_<=_;omega
 ·rw[show(⟨#[58]⟩:ByteArray)=⟨[58].toArray⟩from rfl,gj,gj]
  have:=HK h3 ((f1.aA f2).aA f3)
  unfold CR at this
  simpa using this
theorem XH{S:aK}{h:Heap}(GL:iG h){s:Sl}{rs:aH}(ok:Bool)(H:bE S h s rs)(B:∀x,x∈rs-> -9223372036854775808<=x/\x<=9223372036854775807)(hn:rs.length<=1000)(K:aL)(HK:∀h',Fr No h h'->K (.agg #[VS ⟨(lZ rs).toArray⟩,VB ok]) h'):aG aB 158 #[s.v,VB ok] h K:=by
 refine ajy s ok h K fun b1 h1 fw f1 cU=> ?_
 have f1:=f1.aM
 refine yX (GL.no f1) (H.no f1) B hn _ fun h2 f2=>⟨_,rfl,cU.aC f2,fun h3 f3 dA=>HK h3 ?_⟩
 exact(f1.aA f2).fresh f3 fun k hk=>by simp[In]at hk;omega
theorem Ty{h:Heap}(GL:iG h){n:Int}(ok:Bool)(hn: -9223372036854775808<=n/\n<=9223372036854775807)(K:aL)(HK:∀h',Fr No h h'->K (.agg #[VS ⟨(Lib.itoa n).toArray⟩,VB ok]) h'):aG aB 116 #[VI n,VB ok] h K:=by
 refine aiH n ok h K fun b1 h1 fw f1 cU=> ?_
 have f1:=f1.aM
 refine kW (GL.no f1) hn.1 hn.2 _ fun h2 f2=>⟨_,rfl,cU.aC f2,fun h3 f3 dA=>HK h3 ?_⟩
 exact(f1.aA f2).fresh f3 fun k hk=>by simp[In]at hk;omega
def ji(lo:Nat)(h:Heap):Prop:=∀X,Fr (fun k=>lo<=k) h X->iG X
theorem ji.here{lo:Nat}{h:Heap}(G:ji lo h):iG h:=G h (Fr.refl _ _)
theorem ji.next{lo:Nat}{h h':Heap}(G:ji lo h)(f:Fr (fun k=>lo<=k) h h'):ji lo h':=fun X fX=>G X (f.trans fX)
theorem ji.no{lo:Nat}{h h':Heap}(G:ji lo h)(f:Fr No h h'):ji lo h':=G.next f.aC
theorem ji.of{h:Heap}(G:iG h):ji h.size h:=fun X f=>G.no (f.mono fun k hk aQ=>absurd aQ (by omega))
structure qL(lo:Nat)(h:Heap)(b1:Nat)(g w:Sl)(d:Dk)(cw:Bool)(F F' Z:aK):Prop where
 V:Vars h [(b1,[g.v,w.v,VI d.2.2,VB cw])]
 G:ia h F g d.1
 W:cM h F' w d.2.1
 fl:∀k,F k->lo<=k/\¬Z k
 wl:∀k,F' k->lo<=k/\¬Z k
 dj:∀k,F k->¬F' k
 lb:lo<=b1
 xb:Z b1
 xh:∀k,Z k->k<h.size
def kH(lo:Nat)(h:Heap)(b1:Nat)(Z:aK)(o:Option tC)(v:Value)(h':Heap):Prop:=
 ∃(t:ByteArray)(ok:Bool)(g w:Sl)(p:Int)(cw:Bool),v= .agg #[VS t,VB ok]/\Vars h' [(b1,[g.v,w.v,VI p,VB cw])]/\Fr (fun k=>k=b1\/h.size<=k) h h'/\match o with
  |none=>cw=true
  |some none=>cw=false/\ok=false
  |some (some r)=>cw=false/\ok=true/\t=⟨r.2.toArray⟩/\p=r.1.2.2/\∃F F',qL lo h' b1 g w r.1 false F F' Z
theorem qL.no{lo:Nat}{h h':Heap}{b1:Nat}{g w:Sl}{d:Dk}{cw:Bool}{F F' Z:aK}(D:qL lo h b1 g w d cw F F' Z)(f:Fr No h h'):qL lo h' b1 g w d cw F F' Z:=⟨D.V.aC f,D.G.no f,Ow.no D.W f,D.fl,D.wl,D.dj,D.lb,D.xb,fun k hk=>fp (D.xh k hk) f.size⟩
theorem qL.f1{lo:Nat}{h:Heap}{b1:Nat}{g w:Sl}{d:Dk}{cw:Bool}{F F' Z:aK}(D:qL lo h b1 g w d cw F F' Z){k:Nat}(hk:F k):k≠b1:=fun e=>(D.fl k hk).2 (e▸D.xb)
theorem qL.w1{lo:Nat}{h:Heap}{b1:Nat}{g w:Sl}{d:Dk}{cw:Bool}{F F' Z:aK}(D:qL lo h b1 g w d cw F F' Z){k:Nat}(hk:F' k):k≠b1:=fun e=>(D.wl k hk).2 (e▸D.xb)
theorem qL.fr{lo:Nat}{h h':Heap}{b1:Nat}{g w:Sl}{d:Dk}{cw:Bool}{F F' Z:aK}(D:qL lo h b1 g w d cw F F' Z){T:aK}(f:Fr T h h')(hT:∀k,T k->h.size<=k):qL lo h' b1 g w d cw F F' Z:=D.no (f.mono fun k hk h2=>by have:=hT k h2;omega)
theorem bR{h:Heap}{b1:Nat}{cs:List Value}:∀{L:List (Nat×List Value)},Vars h (L++[(b1,cs)])->Vars h [(b1,cs)]
 |[],V=>V
 |_::_,V=>bR V.tail
theorem tD{d:Dk}(h:pz d):1<=d.2.1.length/\d.2.1.length<=8:=by
 have W:=eD h
 have:=bD W.cN
 have h2:d.2.1.length=d.1.length:=W.len
 omega
theorem YE{rs:aH}(h:1<=rs.length):lZ rs=zL rs:=by unfold lZ;rw[aF (by omega)]
theorem tE{s:St}(h:1<=s.1.length):CR s=qD s:=by unfold CR qD;rw[YE h]
theorem Hl{lo:Nat}{h:Heap}(GL:ji lo h){b1:Nat}(yM:lo<=b1)(wm:lo<=h.size){c1 c2 w1:Sl}{c3 p1:Int}{c4 ok:Bool}{S:aK}{rs1:aH}(hL:Vars h [(b1,[c1.v,c2.v,VI c3,VB c4])])(H:bE S h w1 rs1)(hS:∀k,S k->k≠b1)(B:∀x,x∈rs1-> -9223372036854775808<=x/\x<=9223372036854775807)(hn:rs1.length<=1000)(hp: -9223372036854775808<=p1/\p1<=9223372036854775807)(K:aL)
 (HK:∀h',Fr (fun k=>k=b1) h h'->Vars h' [(b1,[c1.v,(if ok=true then w1 else c2).v,VI (if ok=true then p1 else c3),VB c4])]->K (.agg #[VS ⟨(CR (rs1,p1)).toArray⟩,VB ok]) h'):aG aB 155 #[VP b1 0,.agg #[w1.v,VI p1],VB ok] h K:=by
 have lb:=hL.head.lt
 refine ajt b1 c1 c2 c3 c4 w1 p1 ok h K hL fun b2 b3 h2 eY jY f2 cR=> ?_
 have f2:=f2.aM
 have z2:=f2.size
 have l3:=cR.head.lt
 have l2:=cR.tail.head.lt
 refine⟨fun x1 x2 x3 x4 h'=>x1=c1/\x2=(if ok=true then w1 else c2)/\x3=(if ok=true then p1 else c3)/\x4=c4/\Fr (fun k=>k=b1) h2 h',⟨fun e h3 f3 dA=>⟨rfl,by rw[aJ e],by rw[aJ e],rfl,f3.mono fun k _ hk=>by simpa[In]using hk⟩,fun e=>⟨rfl,by rw[aF (by rw[e];decide)],by rw[aF (by rw[e];decide)],rfl,Fr.refl _ _⟩⟩,?_⟩
 rintro _ _ _ _ h4 ⟨rfl,rfl,rfl,rfl,f4⟩ fi
 have z4:=f4.size
 have F4:Fr (fun k=>k=b1) h h4:=f2.aC.trans f4
 have H4:=H.fr F4 fun k hk aQ=>hS k hk aQ
 refine yY (GL.next (F4.mono fun k _ hk=>by omega)).here H4 hp B hn _ fun h5 f5=>⟨_,rfl,fi.aC f5,fun h6 f6 kU=> ?_⟩
 refine HK h6 ?_ (bR (L:=[_,_]) kU)
 exact(F4.trans f5.aC).E4 f6 fun k hk=>by simp only[In,eO]at hk;omega
theorem qL.low{lo:Nat}{h:Heap}{b1:Nat}{g w:Sl}{d:Dk}{cw:Bool}{F F' Z:aK}(D:qL lo h b1 g w d cw F F' Z):qL lo h b1 g w d cw (fun k=>F k/\k<h.size) (fun k=>F' k/\k<h.size) Z:=⟨D.V,D.G.mono fun k hk hF=>⟨hF,hk⟩,Ow.mono D.W fun k hk hF=>⟨hF,(D.W.aR hk).2⟩,fun k hk=>D.fl k hk.1,fun k hk=>D.wl k hk.1,fun k h1 h2=>D.dj k h1.1 h2.1,D.lb,D.xb,D.xh⟩
theorem qL.adI{lo n:Nat}{h h':Heap}{b1:Nat}{g w w1:Sl}{d:Dk}{cw:Bool}{F F' Z:aK}(D:qL lo h b1 g w d cw F F' Z){rs1:aH}{p1:Int}(hn:h.size<=n)(V':Vars h' [(b1,[g.v,w1.v,VI p1,VB false])])(f:Fr (fun k=>k=b1\/n<=k) h h')(W1:cM h' (fun k=>n<=k) w1 rs1):∃F F',qL lo h' b1 g w1 (d.1,(rs1,p1)) false F F' Z:=by
 have lb:=D.V.head.lt
 have ll:=D.lb
 refine⟨fun k=>F k/\k<h.size,fun k=>n<=k,V',?_,W1,fun k hk=>D.fl k hk.1,fun k hk=>⟨by omega,fun hx=>by have:=D.xh k hx;omega⟩,fun k h1 h2=>by omega,D.lb,D.xb,fun k hk=>fp (D.xh k hk) f.size⟩
 exact D.low.G.fr f fun k _ hk aQ=>by
  have:=D.f1 hk.1
  have:=hk.2
  rcases aQ with h|h<;>omega
theorem qL.aoh{lo n:Nat}{h h':Heap}{b1:Nat}{g g1 w:Sl}{d:Dk}{cw:Bool}{F F' Z:aK}(D:qL lo h b1 g w d cw F F' Z){agK:aE}(hn:h.size<=n)(V':Vars h' [(b1,[g1.v,w.v,VI d.2.2,VB false])])(f:Fr (fun k=>k=b1\/n<=k) h h')(G1:ia h' (fun k=>n<=k) g1 agK):∃F F',qL lo h' b1 g1 w (agK,d.2) false F F' Z:=by
 have lb:=D.V.head.lt
 have ll:=D.lb
 refine⟨fun k=>n<=k,fun k=>F' k/\k<h.size,V',G1,?_,fun k hk=>⟨by omega,fun hx=>by have:=D.xh k hx;omega⟩,fun k hk=>D.wl k hk.1,fun k h1 h2=>by omega,D.lb,D.xb,fun k hk=>fp (D.xh k hk) f.size⟩
 exact Ow.fr D.low.W f fun k hk aQ=>by
  have h1:=(D.low.W.aR hk).1
  have:=D.w1 h1.1
  have:=h1.2
  rcases aQ with h|h<;>omega
theorem ym{d:Dk}(h:pz d):∀x,x∈d.2.1-> -9223372036854775808<=x/\x<=9223372036854775807:=fun x hx=>by
 have:=(iI (eD h)).1 x hx
 omega
theorem agL{lo:Nat}{h:Heap}(GL:ji lo h)(wm:lo<=h.size){b1:Nat}{g w:Sl}{d:Dk}{F F' Z:aK}(D:qL lo h b1 g w d false F F' Z)(ok:pz d){a:Int}(ha:0<=a/\a<=999999)(K:aL)(HK:∀v h',kH lo h b1 Z (some (XF d a)) v h'->K v h'):aG aB 160 #[VP b1 0,VI a] h K:=by
 have lb:=D.V.head.lt
 have dl:=tD ok
 refine v160 b1 g w d.2.2 false a h K D.V fun b2 h1 eY f1 cU=> ?_
 have f1:=f1.aM
 have z1:=f1.size
 have CS:=cU.head.lt
 refine jR (dK.no D.W.rd f1) d.2.2 (by omega) _ fun t h2 o2 f2=>⟨t,_,rfl,cU.aC f2,fun b3 h5 jY f5 iU=> ?_⟩
 have f5:=f5.aM
 have z2:=f2.size
 have z5:=f5.size
 have Zq:=iU.head.lt
 refine iy _ fun x h6 o6 f6=>⟨x,rfl,iU.aC f6,?_⟩
 have z6:=f6.size
 have A7:=((f1.aA f2).aA f5).aA f6
 refine vA (D.G.rd.no A7) o6.rd _ fun h7 f7=>⟨_,rfl,(iU.aC f6).aC f7,?_⟩
 have z7:=f7.size
 have Hw:=A7.aA f7
 have D7:=D.no Hw
 obtain⟨bb,hb⟩:∃bb,bb=(aZ d.1&&jX 0 ((d.1.length:Int)-1) a):=⟨_,rfl⟩
 have eb:(aZ d.1&&[a].all (jX 0 ((d.1.length:Int)-1)))=bb:=by rw[hb];simp
 rw[eb]
 have W7:cM h7 (Iv h1.size h2.size) t d.2.1:=Ow.no (Ow.no (Ow.no o2 f5) f6) f7
 have jQ:=(iU.aC f6).aC f7
 refine Hl (GL.no Hw) D.lb (by omega) D7.V W7.fW (fun k hk=>by have:=hk.1;omega) (ym ok) (by omega) (by omega) _ fun h8 f8 V8=> ?_
 have z8:=f8.size
 refine⟨g,(if bb=true then t else w),(if bb=true then a else d.2.2),false,_,bb,rfl,jQ.set (i:=2) rfl f8 V8.head,fun h9 f9 gM=>HK _ h9 ?_⟩
 have n9:∀{k:Nat},In [b2] k->k=b2:=fun hk=>by simpa[In]using hk
 have fB:Fr (fun k=>k=b1\/h.size<=k) h h9:=(Hw.aC.trans (f8.mono fun k _ hk=> .inl hk)).trans (f9.mono fun k _ hk=> .inr (by have:=n9 hk;omega))
 refine⟨_,bb,_,_,_,false,rfl,bR (L:=[_,_]) gM,fB,?_⟩
 unfold XF EO
 rw[<-hb]
 cases bb with
 |false=>exact⟨rfl,rfl⟩
 |true=>
  have W9:=Ow.fr (Ow.fr W7 f8 fun k hk aQ=>by have:=(W7.aR hk).1.1;omega) f9 fun k hk aQ=>by have h1:=(W7.aR hk).1.1;have:=n9 aQ;omega
  exact⟨rfl,rfl,by rw[tE (s:=(d.2.1,a)) dl.1],rfl,D.adI (n:=h.size) (aY _) (bR (L:=[_,_]) gM) fB (W9.mono fun k _ hk=>by have:=hk.1;omega)⟩
set_option maxHeartbeats 1000000 in
theorem XI{lo:Nat}{h:Heap}(GL:ji lo h)(wm:lo<=h.size){b1:Nat}{g w:Sl}{d:Dk}{F F' Z:aK}(D:qL lo h b1 g w d false F F' Z)(ok:pz d){a c:Int}(ha:0<=a/\a<=999999)(hc:0<=c/\c<=999999)(K:aL)(HK:∀v h',kH lo h b1 Z (some (Tw d a c)) v h'->K v h'):aG aB 168 #[VP b1 0,VI a,VI c] h K:=by
 have lb:=D.V.head.lt
 have dl:=tD ok
 have WK:=eD ok
 have wl:d.2.1.length=d.1.length:=WK.len
 refine v168 b1 g w d.2.2 false a c h K D.V fun b2 h1 eY f1 cU=> ?_
 have f1:=f1.aM
 have z1:=f1.size
 have CS:=cU.head.lt
 refine iy _ fun x h2 o2 f2=>⟨x,rfl,cU.aC f2,?_⟩
 have z2:=f2.size
 have IK:=f1.aA f2
 refine vA (D.G.rd.no IK) o2.rd _ fun h3 f3=>⟨_,rfl,(cU.aC f2).aC f3,?_⟩
 have z3:=f3.size
 have iR:=IK.aA f3
 have dA:=(cU.aC f2).aC f3
 have D3:=D.no iR
 have eb:(aZ d.1&&[a].all (jX 0 ((d.1.length:Int)-1)))=(aZ d.1&&jX 0 ((d.1.length:Int)-1) a):=by simp
 rw[eb]
 have n2:∀{k:Nat},In [b2] k->k=b2:=fun hk=>by simpa[In]using hk
 have fail:(aZ d.1&&jX 0 ((d.1.length:Int)-1) a&&jX 0 (((d.1.getD a.toNat []).length:Int)-1) c)=false->∀{X Y:Heap}{t:ByteArray},Fr No h3 X->Fr (In [b2]) X Y->Vars Y [(b2,[VS t,VB false]),(b1,[g.v,w.v,VI d.2.2,VB false])]->K (.agg #[VS ⟨#[]⟩,VB false]) Y:=fun e X Y t fX fY V=>by
  refine HK _ Y ⟨⟨#[]⟩,false,g,w,d.2.2,false,rfl,bR (L:=[_]) V,?_,?_⟩
  ·exact(iR.aA fX).aC.trans (fY.mono fun k _ hk=> .inr (by have:=n2 hk;omega))
  ·unfold Tw EO
   rw[aF (by rw[e];exact qm)]
   exact⟨rfl,rfl⟩
 refine⟨fun e iC f12 qI=> ?_,fun e=> ?_⟩
 ·have e:(aZ d.1&&jX 0 ((d.1.length:Int)-1) a)=false:=bU e
  exact fail (by rw[e,gI]) (Fr.refl _ _) f12 qI
 have e:(aZ d.1&&jX 0 ((d.1.length:Int)-1) a)=true:=bS e
 have ea:=cA.1 (l8.1 e).2
 have hg:=(l8.1 e).1
 obtain⟨si,c1,r1⟩:=D3.G.rd.get (i:=a) ha.1 (by omega)
 have rn:=r1.len
 have gk:=(bL hg (bI (show a.toNat<d.1.length by omega))).1
 have eg:d.1.getD a.toNat []=d.1[a.toNat]'(by omega):=bH (by omega)
 refine⟨D3.G.rd.bQ ha.1 (by omega),si,c1,?_⟩
 rw[rn,aP _ (by omega) (by omega)]
 refine fV _ _ _ h3 _ ⟨_,rfl,dA,fun e2 h5 f5 iU=> ?_,fun e2=> ?_⟩
 ·refine fail ?_ (Fr.refl _ _) f5 iU
  rw[e,fc,eg]
  exact bU e2
 have e2':jX 0 (((d.1[a.toNat]'(by omega)).length:Int)-1) c=true:=bS e2
 refine jR (dK.no D.W.rd iR) d.2.2 (by omega) _ fun t h6 o6 f6=>⟨t,_,rfl,dA.aC f6,?_⟩
 have z6:=f6.size
 have tn:t.n=d.2.1.length:=by have:=o6.rd.len;simpa using this.symm
 refine⟨o6.bQ ha.1 (by omega),fun b3 h8 jY f8 gZ=> ?_⟩
 have f8:=f8.aM
 have z8:=f8.size
 have W8:=Ow.no o6 f8
 obtain⟨w1,w2,w3⟩:=W8.gF (i:=a) ha.1 (by omega) (VI c)
 have off:∀p,p∈[(b3,[t.v,VI d.2.2]),(b2,[VS (⟨#[]⟩:ByteArray),VB false]),(b1,[g.v,w.v,VI d.2.2,VB false])]->¬t.own p.1:=fun p hp hk=>by
  have h1:=(o6.aR hk)
  have:=h1.1.1
  have:=h1.2
  simp only[aO,aS,aN]at hp
  rcases hp with rfl|rfl|rfl
  ·simp only at*;omega
  ·simp only at*;omega
  ·simp only at*;omega
 refine⟨w1,gZ.fr w3 off,fun h9 e9 gM=> ?_⟩
 subst e9
 have z9:=w3.size
 have W9:cM (Mx.dS h8 (t.at a 1) (VI c)) (Iv h3.size h6.size) t (d.2.1.set a.toNat c):=by show Ow _ _ _ _ _ _;rw[ig];exact w2
 have PH:Fr (fun k=>k=b1\/h.size<=k) h (Mx.dS h8 (t.at a 1) (VI c)):=((iR.aA f6).aA f8).aC.trans (w3.mono fun k _ hk=> .inr (by have:=(o6.aR hk).1.1;omega))
 have aoi:Fr (fun k=>lo<=k) h (Mx.dS h8 (t.at a 1) (VI c)):=PH.mono fun k _ hk=>by have:=D.lb;rcases hk with h|h<;>omega
 have rb:∀x,x∈d.2.1.set a.toNat c-> -9223372036854775808<=x/\x<=9223372036854775807:=fun x hx=>by
  rcases rJ hx with hx|rfl
  ·exact ym ok x hx
  ·omega
 have sm:=(iI WK).2
 refine Hl (GL.next aoi) D.lb (by omega) (bR (L:=[_,_]) gM) W9.fW (fun k hk=>by have:=hk.1;omega) rb (by rw[bY];omega) (by omega) _ fun fa f10 Kl=> ?_
 refine⟨g,t,d.2.2,false,_,true,rfl,gM.set (i:=2) rfl f10 Kl.head,fun jq f11 iN=>HK _ jq ?_⟩
 have fB:Fr (fun k=>k=b1\/h.size<=k) h jq:=(PH.trans (f10.mono fun k _ hk=> .inl hk)).trans (f11.mono fun k _ hk=> .inr (by have:=n2 hk;omega))
 refine⟨_,true,g,t,d.2.2,false,rfl,bR (L:=[_,_]) iN,fB,?_⟩
 unfold Tw EO
 rw[aJ (by rw[e,fc,eg];exact e2')]
 have W11:=Ow.fr (Ow.fr W9 f10 fun k hk aQ=>by have:=(W9.aR hk).1.1;omega) f11 fun k hk aQ=>by have h1:=(W9.aR hk).1.1;have:=n2 aQ;omega
 exact⟨rfl,rfl,by rw[tE (s:=(d.2.1.set a.toNat c,d.2.2)) (by rw[bY];exact dl.1)],rfl,D.adI (n:=h.size) (aY _) (bR (L:=[_,_]) iN) fB (W11.mono fun k _ hk=>by have:=hk.1;omega)⟩
theorem XJ{h:Heap}{s:Sl}{sep:ByteArray}(hs:s.n=0)(K:aL)(HK:K (VS ⟨#[]⟩) h):aG aB 90 #[s.v,VS sep] h K:=by
 refine⟨fun w hw=> .inr ⟨90,_,w,Go.Proofs.enters_of Tryz.func90 (by kernel_rfl) rfl _ _,rfl,?_⟩⟩
 subst hw
 have hv:s.v= .slice s.a 0 s.c:=by unfold Sl.v;rw[hs]
 rw[hv]
 refine(Tryz.strings_Join_none s.a s.c sep w).mono ?_
 rintro e w' ⟨rfl,rfl⟩
 exact⟨_,rfl,dV.refl _,HK⟩
theorem Hm{S:aK}{h:Heap}{s:Sl}(H:dE S h s [])(K:aL)(HK:∀h',Fr No h h'->K (VS ⟨#[]⟩) h'):aG aB 51 #[.agg #[s.v]] h K:=by
 have sn:s.n=0:=H.len
 refine v51 s h K fun b1 h1 fw f1 cU=> ?_
 have f1:=f1.aM
 refine bC OR (fun k=>h1.size<=k) (fun _ h=>h) 0 (by omega) [] rfl rfl fun o h2 n2 c2 o2 f2 m2 _=>⟨o,rfl,cU.aC f2,?_⟩
 refine⟨fun m x i h'=>x=o/\i=0/\h'=h2,⟨0,rfl,rfl,rfl⟩,?_⟩
 rintro m _ _ _ ⟨rfl,rfl,rfl⟩ dA
 refine⟨fun e=>by rw[sn]at e;simp at e,fun e=>XJ n2 _ ⟨_,rfl,dA,HK _ (f1.aA f2)⟩⟩
theorem Hn{g:aE}{p q:Int}(h:(jx g p q).2=true):aZ (jx g p q).1=true:=by
 unfold jx at h⊢
 split at h
 ·rename_i hc
  rw[aJ hc]
  unfold mb
  have h:aZ (g.set p.toNat (g.getD p.toNat []++[q]))=true:=h
  (try simp only)
  rw[aJ h]
  exact h
 ·cases h
theorem XK{g:aE}{p q:Int}(h:(jx g p q).2=false):(jx g p q).1=[]:=by
 unfold jx at h⊢
 split
 ·rename_i hc
  rw[aJ hc]at h
  have h:aZ (g.set p.toNat (g.getD p.toNat []++[q]))=false:=h
  show mb _=[]
  unfold mb
  rw[aF (by rw[h];exact qm)]
 ·rfl
theorem adJ{lo:Nat}{h:Heap}(wm:lo<=h.size){b1:Nat}{g w:Sl}{d:Dk}{F F' Z:aK}(D:qL lo h b1 g w d false F F' Z)(a c:Int)(K:aL)(HK:∀v h',kH lo h b1 Z (some (YD d a c)) v h'->K v h'):aG aB 167 #[VP b1 0,VI a,VI c] h K:=by
 have lb:=D.V.head.lt
 refine v167 b1 g w d.2.2 false a c h K D.V fun b2 h1 eY f1 cU=> ?_
 have f1:=f1.aM
 have z1:=f1.size
 have CS:=cU.head.lt
 refine Oo (D.G.rd.no f1) a c _ fun t h2 o2 f2=>⟨t,_,rfl,cU.aC f2,fun b3 h4 jY f4 fi=> ?_⟩
 have f4:=f4.aM
 have z2:=f2.size
 have z4:=f4.size
 have jZ:=(f1.aA f2).aA f4
 have n1:∀{k:Nat},In [b1] k->k=b1:=fun hk=>by simpa[In]using hk
 have n2:∀{k:Nat},In [b2] k->k=b2:=fun hk=>by simpa[In]using hk
 obtain⟨bb,hb⟩:∃bb,bb=(jx d.1 a c).2:=⟨_,rfl⟩
 rw[<-hb]
 have G4:=o2.no f4
 refine⟨fun x1 x2 x3 x4 h'=>x1=(if bb=true then t else g)/\x2=w/\x3=d.2.2/\x4=false/\Fr (fun k=>k=b1) h4 h',⟨fun e h5 f5 iU=>⟨by rw[aJ e],rfl,rfl,rfl,f5.mono fun k _ hk=>n1 hk⟩,fun e=>⟨by rw[aF (by rw[e];decide)],rfl,rfl,rfl,Fr.refl _ _⟩⟩,?_⟩
 rintro _ x2 _ _ h6 ⟨rfl,rfl,rfl,rfl,f6⟩ kU
 have z6:=f6.size
 have G6:=G4.fr f6 fun k _ hk aQ=>by have:=hk.1;omega
 have fin:∀{tx:ByteArray}{h7:Heap},Fr No h6 h7->(bb=true->tx=⟨(wx (jx d.1 a c).1).toArray⟩)->Vars h7 [(b3,[t.v]),(b2,[VS (⟨#[]⟩:ByteArray),VB false]),(b1,[(if bb=true then t else g).v,x2.v,VI d.2.2,VB false])]/\∀h8:Heap,Fr (In [b2]) h7 h8->Vars h8 [(b3,[t.v]),(b2,[VS tx,VB bb]),(b1,[(if bb=true then t else g).v,x2.v,VI d.2.2,VB false])]->K (.agg #[VS tx,VB bb]) h8:=fun{tx h7} f7 htx=>⟨kU.aC f7,fun h8 f8 gZ=>by
  have fB:Fr (fun k=>k=b1\/h.size<=k) h h8:=((jZ.aC.trans (f6.mono fun k _ hk=> .inl hk)).trans f7.aC).trans (f8.mono fun k _ hk=> .inr (by have:=n2 hk;omega))
  refine HK _ h8 ⟨tx,bb,_,x2,d.2.2,false,rfl,bR (L:=[_,_]) gZ,fB,?_⟩
  unfold YD
  rw[<-hb]
  cases bb with
  |false=>exact⟨rfl,rfl⟩
  |true=>
   have G8:=(G6.no f7).fr f8 fun k _ hk aQ=>by have:=hk.1;have:=n2 aQ;omega
   exact⟨rfl,rfl,htx rfl,rfl,D.aoh (n:=h.size) (aY _) (bR (L:=[_,_]) gZ) fB (G8.mono fun k _ hk=>by have:=hk.1;omega)⟩⟩
 cases Wa:bb with
 |true=>
  subst Wa
  have gb:=Hn hb.symm
  refine rW G6.rd (kY gb) (bD gb).1 _ fun h7 f7=>⟨_,rfl,fin f7 fun _=>rfl⟩
 |false=>
  subst Wa
  rw[XK hb.symm]at G6
  refine Hm G6.rd _ fun h7 f7=>⟨_,rfl,fin f7 fun e=>by cases e⟩
theorem Tz{lo:Nat}{h:Heap}(GL:ji lo h)(wm:lo<=h.size){b1:Nat}{g w:Sl}{d:Dk}{F F' Z:aK}(D:qL lo h b1 g w d false F F' Z){s:ByteArray}(hs:s.size<=100000)(K:aL)(HK:∀v h',kH lo h b1 Z (gpC s.data.toList) v h'->K v h'):aG aB 111 #[VP b1 0,VS s] h K:=by
 have lb:=D.V.head.lt
 have ll:=D.lb
 refine aix b1 g w d.2.2 false s h K D.V fun b2 h1 eY f1 cU=> ?_
 have f1:=f1.aM
 have z1:=f1.size
 have CS:=cU.head.lt
 refine FN (GL.no f1).here hs _ fun t h2 o2 f2=>⟨t,_,rfl,cU.aC f2,fun e b3 h6 jY f6 kU=> ?_,fun e b3 h4 jY f4 fi=> ?_⟩
 ·have IK:=f1.aA f2
  have z2:=f2.size
  refine HK _ h6 ⟨_,_,g,w,d.2.2,true,rfl,bR (L:=[_,_]) kU,IK.aC.trans (f6.mono fun k _ hk=>by simp only[In,aO,aS,aN]at hk;omega),?_⟩
  have:rS s.data.toList=none:=by
   cases hp:rS s.data.toList with
   |none=>rfl
   |some x=>unfold tS at e;rw[hp]at e;cases e
  unfold gpC
  rw[this]
 obtain⟨x,hp⟩:∃x,rS s.data.toList=some x:=by
  cases hp:rS s.data.toList with
  |none=>unfold tS at e;rw[hp]at e;cases e
  |some x=>exact⟨x,rfl⟩
 have ep:(tS s).1=x:=by unfold tS;rw[hp]
 rw[ep]at o2
 obtain⟨gb,_⟩:=zY hp
 have gl:=bD gb
 have f4:=f4.aM
 have z2:=f2.size
 have z4:=f4.size
 have Zq:=fi.head.lt
 have jZ:=(f1.aA f2).aA f4
 refine IC (o2.no f4) (by omega) _ fun u h7 G7 W7 f7=>⟨t,u,0,rfl,fi.aC f7,fun h8 f8 gZ=> ?_⟩
 have z7:=f7.size
 have n1:∀{k:Nat},In [b1] k->k=b1:=fun hk=>by simpa[In]using hk
 have n2:∀{k:Nat},In [b2] k->k=b2:=fun hk=>by simpa[In]using hk
 have z8:=f8.size
 have G8:=G7.fr f8 fun k _ hk aQ=>by have:=hk.1.1;have:=n1 aQ;omega
 have W8:=Ow.fr W7 f8 fun k hk aQ=>by have:=(W7.aR hk).1;have:=n1 aQ;omega
 refine rW G8.rd (kY gb) gl.1 _ fun h9 f9=>⟨_,rfl,gZ.aC f9,fun fa f10 ft=> ?_⟩
 have z9:=f9.size
 have fB:Fr (fun k=>k=b1\/h.size<=k) h fa:=(((jZ.aC.trans f7.aC).trans (f8.mono fun k _ hk=>by have:=n1 hk;omega)).trans f9.aC).trans (f10.mono fun k _ hk=>by have:=n2 hk;omega)
 refine HK _ fa ⟨_,_,t,u,0,false,rfl,bR (L:=[_,_]) ft,fB,?_⟩
 unfold gpC
 rw[hp]
 refine⟨rfl,rfl,rfl,rfl,fun k=>Iv h1.size h2.size k,fun k=>h4.size<=k,bR (L:=[_,_]) ft,?_,?_,fun k hk=>⟨by have:=hk.1;omega,fun hx=>by have:=hk.1;have:=D.xh k hx;omega⟩,fun k hk=>⟨by omega,fun hx=>by have:=D.xh k hx;omega⟩,fun k hk aQ=>by have:=hk.2;omega,D.lb,D.xb,fun k hk=>by have:=D.xh k hk;have:=fB.size;omega⟩
 ·exact((G8.no f9).fr f10 fun k _ hk aQ=>by have:=hk.1.1;have:=n2 aQ;omega).mono fun k _ hk=>hk.1
 ·exact Ow.fr (Ow.no W8 f9) f10 fun k hk aQ=>by have:=(W8.aR hk).1;have:=n2 aQ;omega
structure Mb(r:aH×Bool):Prop where
 b:∀x,x∈r.1-> -1000000000000000000<=x/\x<=1000000000000000000
 n:r.1.length<=1000
 ne:r.2=true->1<=r.1.length
theorem Mb.none:Mb ([],false):=⟨fun x hx=>by simp at hx,by simp,fun h=>by cases h⟩
def NtB(r:Int×Bool):Prop:=0<=r.1/\r.1<=1000000000000000000
structure PP(g:aE)(r:St×Bool):Prop where
 ok:r.2=true->iV g r.1
 b:∀x,x∈r.1.1-> -9223372036854775808<=x/\x<=9223372036854775807
 n:r.1.1.length<=1000
 p: -9223372036854775808<=r.1.2/\r.1.2<=9223372036854775807
theorem PP.of{g:aE}{s:St}(W:iV g s)(b:Bool):PP g (s,b):=by
 have sm:=iI W
 exact⟨fun _=>W,fun x hx=>by have:=sm.1 x hx;omega,by have:=sm.2.2.2;show s.1.length<=1000;omega,by have:=sm.2;show _<=s.2/\s.2<=_;omega⟩
theorem PP.none(g:aE):PP g (([],0),false):=⟨fun h=>(by cases h),fun x hx=>by simp at hx,by simp,by show(-9223372036854775808:Int)<=0/\(0:Int)<=9223372036854775807;omega⟩
theorem tF(g:aE)(rs:aH)(p n:Int):PP g (fe g rs p n):=by
 unfold fe
 split
 ·rename_i h
  have W:=eD (l8.1 h).1
  split
  ·exact PP.none g
  ·rename_i s hs
   exact PP.of (MM _ _ _ W _ _ hs) true
 ·exact PP.none g
theorem YF(g:aE)(rs:aH)(p:Int):(0<=(fG g rs p).1/\(fG g rs p).1<=10000)/\(0<=(fG g rs p).2.1/\(fG g rs p).2.1<=10000):=by
 unfold fG
 split
 ·by_cases h:∃m k,vN g (rs,p) m k/\k<=2000
  ·obtain⟨m,k,R,hk⟩:=h
   have:=R.lt
   rw[Jf R hk]
   exact⟨⟨by show(0:Int)<=m;omega,by show(m:Int)<=10000;omega⟩,⟨by show(0:Int)<=(k:Int)-m;omega,by show(k:Int)-m<=10000;omega⟩⟩
  ·rw[Nr fun m k R=>Nat.lt_of_not_le fun hk=>h ⟨m,k,R,hk⟩]
   exact⟨⟨cL _,by decide⟩,⟨cL _,by decide⟩⟩
 ·exact⟨⟨cL _,by decide⟩,⟨cL _,by decide⟩⟩
theorem agM(g:aE)(rs:aH)(p:Int):Mb (uU g rs p):=by
 unfold uU
 split
 ·rename_i h
  have W:=eD h
  have gl:=bD W.cN
  by_cases h0:dZ g rs p g.length<0
  ·rw[CK h0];exact Mb.none
  ·have hn:0<=dZ g rs p g.length:=by omega
   by_cases hL:∃t:Nat×Nat,yN g rs p t.1 t.2
   ·obtain⟨⟨i,d⟩,L⟩:=hL
    rw[CL hn L]
    obtain⟨i',d',e1,e2,e3⟩:=vG W W.lo W.hi hn
    have hd:i+d<=g.length:=by
     rcases Nat.lt_or_ge (i'+d') (i+d)with wF|hge
     ·exact absurd e3 (L.inj i' (i'+d') (by omega) wF)
     ·omega
    have d1:=L.d1
    refine⟨fun x hx=> ?_,by simp;omega,fun _=>by simp;omega⟩
    obtain⟨r,_,hr⟩:=dN.1 hx
    have hr:dZ g rs p (i+r)=x:=hr
    have: -1<=dZ g rs p (i+r)/\dZ g rs p (i+r)<(g.length:Int):=mY W W.lo W.hi (i+r)
    omega
   ·unfold Uj
    rw[dif_neg (fun h=>hL h.2)]
    exact Mb.none
 ·exact Mb.none
theorem agN(g:aE)(rs:aH)(p n:Int):Mb (km g rs p n):=by
 have hl:=OA g rs p n
 refine⟨?_,by omega,?_⟩
 ·unfold km
  split
  ·rename_i h
   have W:=eD (l8.1 h).1
   have gl:=bD W.cN
   have key:∀(m:Nat)(t:aH)(s:St)(t':aH)(s':St),iV g s->(∀x,x∈t->0<=x/\x<=8)->runT g qx m t s=some (t',s')->∀x,x∈t'->0<=x/\x<=8:=by
    intro m
    induction m with
    |zero=>
     intro t s t' s' _ ht h
     simp only[runT,dD,fL]at h
     rw[<-h.1];exact ht
    |succ m ih=>
     intro t s t' s' W ht h
     rw[runT]at h
     split at h
     ·cases h
     ·rename_i s2 hs
      have W2:=W.step hs
      refine ih _ _ _ _ W2 (fun x hx=> ?_) h
      simp only[qx,gG,eO]at hx
      rcases hx with hx|rfl
      ·exact ht x hx
      ·have:=W2.lo;have:=W2.hi;have:=(bD W2.cN).2;omega
   split
   ·simp
   ·rename_i t s hs
    intro x hx
    have:=key _ _ _ _ _ W (fun x hx=>by simp only[eO]at hx;subst hx;have:=W.lo;have:=W.hi;exact⟨W.lo,by have h2:x<(g.length:Int):=W.hi;omega⟩) hs x hx
    omega
  ·simp
 ·unfold km
  split
  ·split
   ·intro h;cases h
   ·rename_i t s hs
    intro _
    have:=BK _ _ _ _ _ hs
    simp at this
    show 1<=t.length
    omega
  ·intro h;cases h
theorem agO(g:aE)(rs:aH)(p n:Int):Mb (qH g rs p n):=by
 have hl:=SO g rs p n
 refine⟨?_,by omega,?_⟩
 ·unfold qH
  split
  ·rename_i h
   have hn:=cA.1 (l8.1 h).2
   split
   ·simp
   ·rename_i t s hs
    intro x hx
    have:=(CG n.toNat 0 _ _ _ _ (fun x hx=>by simp only[uF]at hx;omega) hs).2 x hx
    omega
  ·simp
 ·unfold qH
  split
  ·rename_i h
   have W:=eD (l8.1 h).1
   have gl:=bD W.cN
   split
   ·intro h;cases h
   ·rename_i t s hs
    intro _
    have:=(CG n.toNat 0 _ _ _ _ (fun x hx=>by simp only[uF]at hx;omega) hs).1
    simp at this
    show 1<=t.length
    omega
  ·intro h;cases h
theorem yn{τ:Type}{g:aE}{test:τ->St->Bool×τ}{Ei:Int}:∀(f:Nat)(n:Int)(t:τ)(s:St),0<=n->0<=(cF g test Ei f n t s).1/\(cF g test Ei f n t s).1<=n+f
 |0,n,t,s,h=>by rw[cF];exact⟨cL _,by show(0:Int)<=n+(0:Nat);omega⟩
 |f+1,n,t,s,h=>by
  have z:(0:Int)<=n+((f+1:Nat):Int):=by omega
  rw[cF]
  split
  ·split
   ·exact⟨h,by show n<=n+((f+1:Nat):Int);omega⟩
   ·split
    ·exact⟨cL _,z⟩
    ·have:=yn (g:=g) (test:=test) (Ei:=Ei) f (n+1) (test t s).2 (by assumption) (by omega)
     exact⟨this.1,by omega⟩
  ·split
   ·exact⟨cL _,z⟩
   ·have:=yn (g:=g) (test:=test) (Ei:=Ei) f (n+1) t (by assumption) (by omega)
    exact⟨this.1,by omega⟩
theorem agP(g:aE)(rs:aH)(p q:Int):NtB (pX g rs p q):=by
 unfold pX
 split
 ·have:=yn (g:=g) (test:=fun(_:Unit) s=>(decide (s.2=q),())) (Ei:=0) 2001 0 () (rs,p) (cL _)
  exact⟨this.1,by omega⟩
 ·exact⟨cL _,by decide⟩
theorem EP{α:Type}{M:Nat}:∀{cs:List (List α)},(∀c,c∈cs->c.length<=M)->(eQ cs).length<=M^cs.length
 |[],_=>by simp[eQ]
 |c::cs,h=>by
  have ih:=EP (cs:=cs) fun d hd=>h d (cK _ hd)
  have hc:=h c cE
  have e:(eQ (c::cs)).length=c.length*(eQ cs).length:=by
   rw[eQ,List.length_flatMap]
   have:∀l:List α,(l.map fun x=>((eQ cs).map (x:: ·)).length).sum=l.length*(eQ cs).length:=by
    intro l
    induction l with
    |nil=>simp
    |cons x l ih=>rw[bJ,List.sum_cons,ih,bB,List.length_cons,mm];omega
   exact this c
  rw[e,List.length_cons,Nat.pow_succ,qe]
  exact vm ih hc
theorem agQ(g:aE)(s:Int):NtB (uQ g s):=by
 unfold uQ
 split
 ·rename_i h
  unfold plB at h
  rw[bK,cA]at h
  have gl:=bD h.1
  have e:=OZ h.1 h.2.1 (by omega)
  have h1:(FK g s).length<=(uJ g s).length:=Bz _ _
  have h2:(uJ g s).length<=5^8:=by
   unfold uJ
   have:=EP (M:=5) (cs:=(List.range g.length).map (wZ g s)) fun c hc=>by
    obtain⟨q,hq,rfl⟩:=dN.1 hc
    have hq:=ko.1 hq
    unfold wZ
    split
    ·simp
    ·have:=(bL h.1 (bI hq)).1
     rw[bH hq]
     simp[IX]
     omega
   rw[bB,gh]at this
   exact cB this (Ah (by omega) gl.2)
  have h3:(5:Nat)^8=390625:=by decide
  exact⟨by show 0<=xu g s;omega,by show xu g s<=_;omega⟩
 ·exact⟨cL _,by decide⟩
theorem agR(g:aE)(s:Int):Mb (sE g s):=by
 unfold sE
 split
 ·rename_i h
  have gl:=bD (l8.1 (l8.1 h).1).1
  have e:=pq g s
  exact⟨fun x hx=>by have:=JI h x hx;omega,by show(nV g s).length<=_;omega,fun _=>by show 1<=(nV g s).length;omega⟩
 ·exact Mb.none
theorem agS(g:aE)(p a b:Int):(0<=(u7 g p a b).1.1/\(u7 g p a b).1.1<=100000)/\(0<=(u7 g p a b).1.2/\(u7 g p a b).1.2<=100000):=by
 unfold u7
 split
 ·rename_i h
  rw[bK,cA]at h
  have C:=RH h.1
  have d:=C.den
  have hp:p.toNat<g.length:=by omega
  have r:=C.aac hp
  rw[show((p.toNat:Nat):Int)=p by omega]at r
  have gp:=Ai (x:=C9 g a b p) (d:=lW g a b) (by omega)
  show(0<=(lX (C9 g a b p) (lW g a b)).1/\(lX (C9 g a b p) (lW g a b)).1<=100000)/\(0<=(lX (C9 g a b p) (lW g a b)).2/\(lX (C9 g a b p) (lW g a b)).2<=100000)
  unfold lX
  have k:∀x:Int,0<=x->x<=15625->0<=x/(Int.gcd (C9 g a b p) (lW g a b):Int)/\x/(Int.gcd (C9 g a b p) (lW g a b):Int)<=100000:=fun x h0 h1=>⟨Int.ediv_nonneg h0 (by omega),by have:=Int.ediv_le_self (Int.gcd (C9 g a b p) (lW g a b):Int) h0;omega⟩
  exact⟨k _ r.1 (by omega),k _ (by omega) (by omega)⟩
 ·exact⟨⟨cL _,by decide⟩,⟨cL _,by decide⟩⟩
theorem agT(n k:Int):Mb (sG n k):=by
 unfold sG
 split
 ·rename_i h
  obtain⟨A,B,C,l,hc⟩:=nW (k:=k.toNat) (n:=n.toNat) (by omega) (by omega)
  rw[hc]
  have hl:=jN hc
  have hm:∀{m A B C:Nat}{l:List Nat},m<=250->gq k.toNat m=some (A,B,C,l)->∀i,i∈l->i<=1000000:=by
   intro m
   induction m with
   |zero=>
    intro A B C l _ hc i hi
    rw[gq]at hc
    simp only[dD,fL]at hc
    rw[<-hc.2.2.2]at hi
    simp at hi
   |succ m ih=>
    intro A B C l hm hc i hi
    obtain⟨A0,B0,C0,l0,h0⟩:=nW (k:=k.toNat) (n:=m) (by omega) (by omega)
    obtain⟨j,hw,_,rfl⟩:=nX h0 hc
    rcases gG.1 hi with hi|hi
    ·exact ih (by omega) h0 i hi
    ·simp only[eO]at hi
     subst hi
     have key:∀(n A B C i:Nat){j B' C':Nat},i<=1000000->qz n A B C i=some (j,B',C')->j<=1000000:=by
      intro n
      induction n with
      |zero=>intro A B C i j B' C' _ h;cases h
      |succ n ih=>
       intro A B C i j B' C' hi h
       cases ht:A.testBit i with
       |false=>
        have:=yj h ht
        simp only[fL]at this
        omega
       |true=>
        obtain⟨h1,m,hm,h2⟩:=uV h ht
        obtain rfl:n=m:=by omega
        refine ih _ _ _ _ ?_ h2
        have:=Tl h1
        unfold nxG
        split
        ·omega
        ·split
         ·omega
         ·split<;>omega
     exact key _ _ _ _ _ (by omega) hw
  refine⟨fun x hx=> ?_,by simp,fun _=>by simp⟩
  have:l.getLastD 0<=1000000:=by
   cases r8:l.getLast? with
   |none=>rw[List.getLastD_eq_getLast?,r8];simp
   |some i=>rw[List.getLastD_eq_getLast?,r8];exact hm (by omega) hc i (List.mem_of_getLast? r8)
  simp only[aO,aS,aN]at hx
  rcases hx with rfl|rfl<;>omega
 ·exact Mb.none
theorem agU(b d k n:Int):NtB (CM b d k n):=by
 unfold CM
 split
 ·rename_i e
  obtain⟨B,D,N,rfl,rfl,rfl,q1,q2,q3,q4,q5⟩:=Aj e
  simp only[Int.toNat_natCast]
  obtain⟨c1,c2,c3,c4⟩:=tz (b:=B) (d:=D) (by omega) (by omega) N (rs:=List.replicate (bX B (D-1)) k) (by simp) (pu q4)
  have key:∀l:aH,(∀x,x∈l->0<=x/\x<=1)->0<=l.sum/\l.sum<=l.length:=by
   intro l
   induction l with
   |nil=>intro _;simp
   |cons x l ih=>
    intro h
    have:=ih fun y hy=>h y (cK _ hy)
    have:=h x cE
    simp only[List.sum_cons,List.length_cons]
    omega
  have:=key _ c4
  exact⟨this.1,by show List.sum _<=_;omega⟩
 ·exact⟨cL _,by decide⟩
theorem eA{s:ByteArray}{l:List UInt8}(h:(s.toList==(⟨l.toArray⟩:ByteArray).toList)=true):s.data.toList=l:=by
 rw[rU]at h
 exact ry h
theorem bM{s:ByteArray}{l:List UInt8}(h:(s.toList==(⟨l.toArray⟩:ByteArray).toList)=false):s.data.toList≠l:=by
 rw[rU]at h
 exact Ac h
theorem tG{h h':Heap}{b1:Nat}{p:Nat×List Value}{cs nB:List Value}(f:Fr (fun k=>k=b1) h h')(N:cC h' b1 nB):∀{L:List (Nat×List Value)},Vars h (L++[p,(b1,cs)])->Vars h' (L++[p,(b1,nB)])
 |[],V=>V.set (i:=1) rfl f N
 |(b,c)::L,V=>by
  have fH:b≠b1:=fun e=>V.ne (b1,cs) (by simp) e.symm
  refine .cons (V.head.fr f fun hk=>fH hk) (fun q hq=> ?_) (tG f N V.tail)
  have:∀q:Nat×List Value,q∈L++[p,(b1,cs)]->q.1≠b:=V.ne
  rcases gG.1 hq with hq|hq
  ·exact this q (gG.2 (.inl hq))
  ·simp only[aO,aS,aN]at hq
   rcases hq with rfl|rfl
   ·exact this q (by simp)
   ·exact fun e=>fH e.symm
theorem jo{h:Heap}{p q:Nat×List Value}:∀{L:List (Nat×List Value)},Vars h (L++[p,q])->Vars h [q]
 |[],V=>V.tail
 |_::_,V=>jo V.tail
theorem kH.same{lo:Nat}{h:Heap}(wm:lo<=h.size){b1:Nat}{g w:Sl}{d:Dk}{F F' Z:aK}(D:qL lo h b1 g w d false F F' Z){Y:Heap}{t:ByteArray}{ok:Bool}{a:tC}{tx:List UInt8}(f:Fr (fun k=>h.size<=k) h Y)(V:Vars Y [(b1,[g.v,w.v,VI d.2.2,VB false])])(h1:ok=true->a=some (d,tx)/\t=⟨tx.toArray⟩)(h2:ok=false->a=none):kH lo h b1 Z (some a) (.agg #[VS t,VB ok]) Y:=by
 refine⟨t,ok,g,w,d.2.2,false,rfl,V,f.mono fun k _ hk=> .inr hk,?_⟩
 cases ok with
 |false=>rw[h2 rfl];exact⟨rfl,rfl⟩
 |true=>
  obtain⟨e1,e2⟩:=h1 rfl
  rw[e1]
  exact⟨rfl,rfl,e2,rfl,F,F',D.fr f fun k hk=>hk⟩
theorem kH.J5{lo:Nat}{h:Heap}{b1 b2:Nat}{Z:aK}{g w:Sl}{p:Int}{Y:Heap}{t:ByteArray}{ok:Bool}(f:Fr (fun k=>k=b1\/h.size<=k) h Y)(V:Vars Y [(b1,[g.v,w.v,VI p,VB true])]):kH lo h b1 Z none (.agg #[VS t,VB ok]) Y:=⟨t,ok,g,w,p,true,rfl,V,f,rfl⟩
theorem mN{lo:Nat}{h:Heap}(GL:ji lo h)(wm:lo<=h.size){b1 b2:Nat}{g w:Sl}{d:Dk}{F F' Z:aK}(D:qL lo h b1 g w d false F F' Z){L0:List (Nat×List Value)}{fa:Heap}(qK:Fr (fun k=>h.size<=k) h fa)(eY:h.size<=b2)(hL:Vars fa (L0++[(b2,[VS (⟨#[]⟩:ByteArray),VB false]),(b1,[g.v,w.v,VI d.2.2,VB false])])){X:Heap}{t:Sl}{S:aK}{r:aH×Bool}(B:Mb r)(H:bE S X t r.1)(fX:Fr No fa X){K:aL}(HK:∀v Y,kH lo h b1 Z (some (Tu d r)) v Y->K v Y):
 aG aB 158 #[t.v,VB r.2] X fun rv h'=>∃t':ByteArray,∃Mc:Bool,rv= .agg #[VS t',VB Mc]/\Vars h' (L0++[(b2,[VS (⟨#[]⟩:ByteArray),VB false]),(b1,[g.v,w.v,VI d.2.2,VB false])])/\∀nD:Heap,Fr (In [b2]) h' nD->Vars nD (L0++[(b2,[VS t',VB Mc]),(b1,[g.v,w.v,VI d.2.2,VB false])])->K (.agg #[VS t',VB Mc]) nD:=by
 have FX:=qK.trans fX.aC
 refine XH (GL.next (FX.mono fun k _ hk=>by omega)).here r.2 H (fun x hx=>by have:=B.b x hx;omega) B.n _ fun h' f'=>⟨_,_,rfl,(hL.aC fX).aC f',fun nD f'' V=>HK _ _ (kH.same wm D (tx:=zL r.1) ((FX.trans f'.aC).trans (f''.mono fun k _ hk=>by simp only[In,eO]at hk;omega)) (jo V) (fun e=> ?_) fun e=> ?_)⟩
 ·unfold Tu
  rw[aJ e,YE (B.ne e)]
  exact⟨rfl,rfl⟩
 ·unfold Tu
  rw[aF (by rw[e];exact qm)]
theorem uX{lo:Nat}{h:Heap}(GL:ji lo h)(wm:lo<=h.size){b1 b2:Nat}{g w:Sl}{d:Dk}{F F' Z:aK}(D:qL lo h b1 g w d false F F' Z){L0:List (Nat×List Value)}{fa:Heap}(qK:Fr (fun k=>h.size<=k) h fa)(eY:h.size<=b2)(hL:Vars fa (L0++[(b2,[VS (⟨#[]⟩:ByteArray),VB false]),(b1,[g.v,w.v,VI d.2.2,VB false])])){X:Heap}{r:Int×Bool}(B:NtB r)(fX:Fr No fa X){K:aL}(HK:∀v Y,kH lo h b1 Z (some (YC d r)) v Y->K v Y):
 aG aB 116 #[VI r.1,VB r.2] X fun rv h'=>∃t':ByteArray,∃Mc:Bool,rv= .agg #[VS t',VB Mc]/\Vars h' (L0++[(b2,[VS (⟨#[]⟩:ByteArray),VB false]),(b1,[g.v,w.v,VI d.2.2,VB false])])/\∀nD:Heap,Fr (In [b2]) h' nD->Vars nD (L0++[(b2,[VS t',VB Mc]),(b1,[g.v,w.v,VI d.2.2,VB false])])->K (.agg #[VS t',VB Mc]) nD:=by
 have FX:=qK.trans fX.aC
 unfold NtB at B
 refine Ty (GL.next (FX.mono fun k _ hk=>by omega)).here r.2 (by omega) _ fun h' f'=>⟨_,_,rfl,(hL.aC fX).aC f',fun nD f'' V=>HK _ _ (kH.same wm D (tx:=Lib.itoa r.1) ((FX.trans f'.aC).trans (f''.mono fun k _ hk=>by simp only[In,eO]at hk;omega)) (jo V) (fun e=> ?_) fun e=> ?_)⟩
 ·unfold YC
  rw[aJ e]
  exact⟨rfl,rfl⟩
 ·unfold YC
  rw[aF (by rw[e];exact qm)]
theorem CU{lo:Nat}{h:Heap}(GL:ji lo h)(wm:lo<=h.size){b1 b2:Nat}{g w:Sl}{d:Dk}{F F' Z:aK}(D:qL lo h b1 g w d false F F' Z){L0:List (Nat×List Value)}{fa:Heap}(qK:Fr (fun k=>h.size<=k) h fa)(eY:h.size<=b2)(hL:Vars fa (L0++[(b2,[VS (⟨#[]⟩:ByteArray),VB false]),(b1,[g.v,w.v,VI d.2.2,VB false])]))(CS:b2<fa.size){X:Heap}{t:Sl}{r:St×Bool}(B:PP d.1 r)(H:cM X (Iv fa.size X.size) t r.1.1)(fX:Fr No fa X){K:aL}(HK:∀v Y,kH lo h b1 Z (some (EO d r)) v Y->K v Y):
 aG aB 155 #[VP b1 0,.agg #[t.v,VI r.1.2],VB r.2] X fun rv h'=>∃x4:Sl,∃x5:Sl,∃x6:Int,∃x7:Bool,∃t':ByteArray,∃Mc:Bool,rv= .agg #[VS t',VB Mc]/\Vars h' (L0++[(b2,[VS (⟨#[]⟩:ByteArray),VB false]),(b1,[x4.v,x5.v,VI x6,VB x7])])/\∀nD:Heap,Fr (In [b2]) h' nD->Vars nD (L0++[(b2,[VS t',VB Mc]),(b1,[x4.v,x5.v,VI x6,VB x7])])->K (.agg #[VS t',VB Mc]) nD:=by
 have FX:=qK.trans fX.aC
 have lb:=D.V.head.lt
 have zX:=FX.size
 have zM:=fX.size
 have U9:=qK.size
 have V:=hL.aC fX
 refine Hl (GL.next (FX.mono fun k _ hk=>by omega)) D.lb (by omega) (jo V) H.fW (fun k hk=>by have:=hk.1;omega) B.b B.n B.p _ fun h' f' V'=> ?_
 refine⟨g,(if r.2=true then t else w),(if r.2=true then r.1.2 else d.2.2),false,_,_,rfl,tG f' V'.head V,fun nD f'' V2=>HK _ _ ?_⟩
 have n2:∀{k:Nat},In [b2] k->k=b2:=fun hk=>by simpa[In]using hk
 have fB:Fr (fun k=>k=b1\/h.size<=k) h nD:=((FX.mono fun k _ hk=> .inr hk).trans (f'.mono fun k _ hk=> .inl hk)).trans (f''.mono fun k _ hk=> .inr (by have:=n2 hk;omega))
 refine⟨_,r.2,_,_,_,false,rfl,jo V2,fB,?_⟩
 have V3:=jo V2
 unfold EO
 cases hr:r.2 with
 |false=>rw[aF qm];exact⟨rfl,rfl⟩
 |true=>
  rw[hr]at V3
  have W:=B.ok hr
  have wl:1<=r.1.1.length:=by have:=bD W.cN;have h2:r.1.1.length=d.1.length:=W.len;omega
  rw[aJ rfl]
  have W2:=Ow.fr (Ow.fr H f' fun k hk aQ=>by have:=(H.aR hk).1.1;omega) f'' fun k hk aQ=>by have h1:=(H.aR hk).1.1;have:=n2 aQ;omega
  exact⟨rfl,rfl,by rw[tE wl],rfl,D.adI (n:=h.size) (aY _) V3 fB (W2.mono fun k _ hk=>by have:=hk.1;omega)⟩
set_option maxHeartbeats 4000000 in
theorem TA{lo:Nat}{h:Heap}(GL:ji lo h)(wm:lo<=h.size){b1:Nat}{g w:Sl}{d:Dk}{F F' Z:aK}(D:qL lo h b1 g w d false F F' Z)(ok:pz d)(s:ByteArray)(K:aL)(HK:∀v h',kH lo h b1 Z (kB d s.data.toList) v h'->K v h'):aG aB 113 #[VP b1 0,VS s] h K:=by
 have lb:=D.V.head.lt
 have ll:=D.lb
 have dl:=tD ok
 have WK:=eD ok
 refine aiB b1 g w d.2.2 false s h K D.V fun b2 h1 eY f1 cU=> ?_
 have f1:=f1.aM
 have z1:=f1.size
 refine⟨fun b3 x1 b4 x2 x3 h'=>x1=g/\x2=w/\x3=d.2.2/\Fr (fun k=>h.size<=k) h h',⟨fun b5 h2 TY f2 _ b6 h3 Zs f3 _ h4 f4 _ h5 f5 _=>⟨rfl,rfl,rfl,?_⟩,fun b5 h2 TY f2 _ b6 h3 Zs f3 _ h4 f4 _ h5 f5 _=>⟨rfl,rfl,rfl,?_⟩⟩,?_⟩
 ·have:=f2.size
  exact(((f1.aC.trans f2.aM.aC).trans f3.aM.aC).trans (f4.mono fun k _ hk=>by simp only[In,eO]at hk;omega)).trans (f5.mono fun k _ hk=>by simp only[In,eO]at hk;omega)
 ·have:=f2.size
  exact(((f1.aC.trans f2.aM.aC).trans f3.aM.aC).trans (f4.mono fun k _ hk=>by simp only[In,eO]at hk;omega)).trans (f5.mono fun k _ hk=>by simp only[In,eO]at hk;omega)
 rintro b3 _ b4 _ _ fa ⟨rfl,rfl,rfl,qK⟩ ft
 have zR:=D.fr qK fun k hk=>hk
 have zM:=qK.size
 have CS:=ft.tail.tail.head.lt
 have adK:=GL.next (qK.mono fun k _ hk=>by omega:Fr (fun k=>lo<=k) h fa)
 have Hx:=zR.G.rd
 have NP:bE _ fa _ d.2.1:=zR.W.rd
 have n2:∀{k:Nat},In [b2] k->k=b2:=fun hk=>by simpa[In]using hk
 unfold kB at HK
 refine⟨fun e=> ?_,fun e1=>⟨fun e=> ?_,fun e2=>⟨fun e=> ?_,fun e3=>⟨fun e=> ?_,fun e4=>⟨fun e=> ?_,fun e5 vC f26 uG=> ?_⟩⟩⟩⟩⟩
 ·rw[aJ (eA e)]at HK
  refine QV Hx NP d.2.2 _ fun t jq mD f11=>⟨t,_,_,rfl,ft.aC f11,CU GL wm D (L0:=[_,_]) qK eY ft CS (tF d.1 d.2.1 d.2.2 1) mD f11 HK⟩
 ·rw[aF (bM e1),aJ (eA e)]at HK
  have gg:=WK.cN
  refine rW Hx (kY gg) (bD gg).1 _ fun K1 f14=>⟨_,rfl,ft.aC f14,fun Vr f15 PA=>HK _ _ (kH.same wm D (tx:=wx d.1) ((qK.trans f14.aC).trans (f15.mono fun k _ hk=>by have:=n2 hk;omega)) (bR (L:=[_,_,_]) PA) (fun _=>⟨rfl,rfl⟩) fun e=>by cases e)⟩
 ·rw[aF (bM e1),aF (bM e2),aJ (eA e)]at HK
  have sm:=(iI WK).2
  refine yY adK.here NP (by omega) (ym ok) (by omega) _ fun K1 f14=>⟨_,rfl,ft.aC f14,fun Vr f15 PA=>HK _ _ (kH.same wm D (tx:=qD d.2) ((qK.trans f14.aC).trans (f15.mono fun k _ hk=>by have:=n2 hk;omega)) (bR (L:=[_,_,_]) PA) (fun _=>⟨rfl,by rw[tE (s:=(d.2.1,d.2.2)) dl.1]⟩) fun e=>by cases e)⟩
 ·rw[aF (bM e1),aF (bM e2),aF (bM e3),aJ (eA e)]at HK
  have pb:=YF d.1 d.2.1 d.2.2
  refine LY Hx NP d.2.2 _ fun h18 f18=>⟨_,_,_,rfl,ft.aC f18,?_⟩
  refine bC gH (fun k=>h18.size<=k) (fun _ h=>h) 2 (by omega) [VI (fG d.1 d.2.1 d.2.2).1,VI (fG d.1 d.2.1 d.2.2).2.1] rfl rfl fun x K3 n19 c19 o19 f19 m19 _=>⟨x,rfl,(ft.aC f18).aC f19,?_⟩
  have B:Mb ([(fG d.1 d.2.1 d.2.2).1,(fG d.1 d.2.1 d.2.2).2.1],(fG d.1 d.2.1 d.2.2).2.2):=⟨fun x hx=>by
   simp only[aO,aS,aN]at hx
   rcases hx with rfl|rfl<;>omega,by simp,fun _=>by simp⟩
  exact mN GL wm D (L0:=[_,_]) qK eY ft B (show bE _ K3 x [_,_]from o19.rd) (f18.aA f19) HK
 ·rw[aF (bM e1),aF (bM e2),aF (bM e3),aF (bM e4),aJ (eA e)]at HK
  refine yc Hx NP d.2.2 _ fun t Kn o22 f22=>⟨t,_,rfl,ft.aC f22,mN GL wm D (L0:=[_,_]) qK eY ft (agM d.1 d.2.1 d.2.2) o22 f22 HK⟩
 ·rw[aF (bM e1),aF (bM e2),aF (bM e3),aF (bM e4),aF (bM e5)]at HK
  exact HK _ _ (kH.J5 (b2:=b2) ((qK.mono fun k _ hk=> .inr hk).trans (f26.mono fun k _ hk=>by simp only[In,aO,aS,aN]at hk;omega)) (bR (L:=[_,_,_]) uG))
theorem qL.block{lo:Nat}{h fa:Heap}{b1 b2:Nat}{g w:Sl}{d:Dk}{cw:Bool}{F F' Z:aK}(D:qL lo h b1 g w d cw F F' Z)(qK:Fr (fun k=>h.size<=k) h fa)(eY:h.size<=b2)(CS:b2<fa.size):qL lo fa b1 g w d cw (fun k=>F k/\k<h.size) (fun k=>F' k/\k<h.size) (fun k=>Z k\/k=b2):=by
 have D1:=D.low.fr qK fun k hk=>hk
 refine⟨D1.V,D1.G,D1.W,fun k hk=>⟨(D.fl k hk.1).1,fun hx=> ?_⟩,fun k hk=>⟨(D.wl k hk.1).1,fun hx=> ?_⟩,D1.dj,D1.lb,.inl D.xb,fun k hk=> ?_⟩
 ·rcases hx with hx|hx
  ·exact(D.fl k hk.1).2 hx
  ·have:=hk.2;omega
 ·rcases hx with hx|hx
  ·exact(D.wl k hk.1).2 hx
  ·have:=hk.2;omega
 ·rcases hk with hk|hk
  ·exact D1.xh k hk
  ·omega
theorem ny{lo:Nat}{h fa jq:Heap}{b1 b2:Nat}{Z:aK}{o:Option tC}{v:Value}(qK:Fr (fun k=>h.size<=k) h fa)(eY:h.size<=b2){cs:List Value}{L0:List (Nat×List Value)}(hL:Vars fa (L0++[(b2,[VS (⟨#[]⟩:ByteArray),VB false]),(b1,cs)]))(wF:∀p,p∈L0->p.1<fa.size)(CS:b2<fa.size)(O:kH lo fa b1 (fun k=>Z k\/k=b2) o v jq){K:aL}(HK:∀v Y,kH lo h b1 Z o v Y->K v Y):
 ∃x4:Sl,∃x5:Sl,∃x6:Int,∃x7:Bool,∃t':ByteArray,∃Mc:Bool,v= .agg #[VS t',VB Mc]/\Vars jq (L0++[(b2,[VS (⟨#[]⟩:ByteArray),VB false]),(b1,[x4.v,x5.v,VI x6,VB x7])])/\∀nD:Heap,Fr (In [b2]) jq nD->Vars nD (L0++[(b2,[VS t',VB Mc]),(b1,[x4.v,x5.v,VI x6,VB x7])])->K (.agg #[VS t',VB Mc]) nD:=by
 obtain⟨t,ok,g,w,p,cw,rfl,V,f,M⟩:=O
 refine⟨g,w,p,cw,t,ok,rfl,?_,fun iC f12 Yh=>HK _ _ ?_⟩
 ·have f':Fr (fun k=>k=b1) fa jq:=f.mono fun k hk h2=>by rcases h2 with h2|h2;exact h2;omega
  exact tG f' V.head hL
 ·have n2:∀{k:Nat},In [b2] k->k=b2:=fun hk=>by simpa[In]using hk
  have fB:Fr (fun k=>k=b1\/h.size<=k) h iC:=((qK.mono fun k _ hk=> .inr hk).trans (f.mono fun k _ hk=>by have:=qK.size;omega)).trans (f12.mono fun k _ hk=> .inr (by have:=n2 hk;omega))
  refine⟨t,ok,g,w,p,cw,rfl,jo Yh,fB,?_⟩
  cases o with
  |none=>exact M
  |some a=>
   cases a with
   |none=>exact M
   |some r=>
    obtain⟨m1,m2,m3,m4,F,F',D⟩:=M
    have V13:=jo Yh
    rw[m1,m4]at V13
    refine⟨m1,m2,m3,m4,F,F',V13,D.G.fr f12 fun k _ hk aQ=>(D.fl k hk).2 (.inr (n2 aQ)),Ow.fr D.W f12 fun k hk aQ=>(D.wl k (D.W.aR hk).1).2 (.inr (n2 aQ)),fun k hk=>⟨(D.fl k hk).1,fun hx=>(D.fl k hk).2 (.inl hx)⟩,fun k hk=>⟨(D.wl k hk).1,fun hx=>(D.wl k hk).2 (.inl hx)⟩,D.dj,D.lb,?_,fun k hk=>fp (D.xh k (.inl hk)) f12.size⟩
    rcases D.xb with hx|hx
    ·exact hx
    ·exact absurd hx (fun e=>by
      have:=jo (L:=L0) hL
      have fH:∀{L:List (Nat×List Value)},Vars fa (L++[(b2,[VS (⟨#[]⟩:ByteArray),VB false]),(b1,cs)])->b1≠b2:=by
       intro L
       induction L with
       |nil=>intro V;exact V.ne (b1,cs) (by simp)
       |cons q L ih=>intro V;exact ih V.tail
      exact fH hL e)
set_option maxHeartbeats 4000000 in
theorem adL{lo:Nat}{h:Heap}(GL:ji lo h)(wm:lo<=h.size){b1:Nat}{g w:Sl}{d:Dk}{F F' Z:aK}(D:qL lo h b1 g w d false F F' Z)(ok:pz d)(s:ByteArray){n:Int}(hn:0<=n/\n<=999999)(K:aL)(HK:∀v h',kH lo h b1 Z (jv d s.data.toList n) v h'->K v h'):aG aB 114 #[VP b1 0,VS s,VI n] h K:=by
 have lb:=D.V.head.lt
 have ll:=D.lb
 refine aiD b1 g w d.2.2 false s n h K D.V fun b2 h1 eY f1 cU=> ?_
 have f1:=f1.aM
 have z1:=f1.size
 refine⟨fun b3 x1 b4 x2 x3 h'=>x1=g/\x2=w/\x3=d.2.2/\Fr (fun k=>h.size<=k) h h',⟨fun b5 h2 TY f2 _ b6 h3 Zs f3 _ h4 f4 _ h5 f5 _=>⟨rfl,rfl,rfl,?_⟩,fun b5 h2 TY f2 _ b6 h3 Zs f3 _ h4 f4 _ h5 f5 _=>⟨rfl,rfl,rfl,?_⟩⟩,?_⟩
 ·have:=f2.size
  exact(((f1.aC.trans f2.aM.aC).trans f3.aM.aC).trans (f4.mono fun k _ hk=>by simp only[In,eO]at hk;omega)).trans (f5.mono fun k _ hk=>by simp only[In,eO]at hk;omega)
 ·have:=f2.size
  exact(((f1.aC.trans f2.aM.aC).trans f3.aM.aC).trans (f4.mono fun k _ hk=>by simp only[In,eO]at hk;omega)).trans (f5.mono fun k _ hk=>by simp only[In,eO]at hk;omega)
 rintro b3 _ b4 _ _ fa ⟨rfl,rfl,rfl,qK⟩ ft
 have zR:=D.fr qK fun k hk=>hk
 have zM:=qK.size
 have CS:=ft.tail.tail.head.lt
 have adK:=GL.next (qK.mono fun k _ hk=>by omega:Fr (fun k=>lo<=k) h fa)
 have Hx:=zR.G.rd
 have NP:bE _ fa _ d.2.1:=zR.W.rd
 unfold jv at HK
 refine⟨fun e=> ?_,fun e1=>⟨fun e=> ?_,fun e2=>⟨fun e=> ?_,fun e3=>⟨fun e=> ?_,fun e4=>⟨fun e=> ?_,fun e5=>⟨fun e=> ?_,fun e6=>⟨fun e=> ?_,fun e7 vC f26 uG=> ?_⟩⟩⟩⟩⟩⟩⟩
 ·rw[aJ (eA e)]at HK
  have MS:=D.block qK eY CS
  exact agL adK (by omega) MS ok hn _ fun v jq O=>ny qK eY (L0:=[_,_]) ft (fun p hp=>by
   simp only[aO,aS,aN]at hp
   rcases hp with rfl|rfl
   ·exact ft.head.lt
   ·exact ft.tail.head.lt) CS O HK
 ·rw[aF (bM e1),aJ (eA e)]at HK
  exact MN Hx NP d.2.2 n _ fun t jq mD f11=>⟨t,_,_,rfl,ft.aC f11,CU GL wm D (L0:=[_,_]) qK eY ft CS (tF d.1 d.2.1 d.2.2 n) mD f11 HK⟩
 ·rw[aF (bM e1),aF (bM e2),aJ (eA e)]at HK
  exact BL Hx NP d.2.2 n _ fun t jq mD f11=>⟨t,_,rfl,ft.aC f11,mN GL wm D (L0:=[_,_]) qK eY ft (agN d.1 d.2.1 d.2.2 n) mD.rd f11 HK⟩
 ·rw[aF (bM e1),aF (bM e2),aF (bM e3),aJ (eA e)]at HK
  exact LS Hx NP d.2.2 n _ fun t jq mD f11=>⟨t,_,rfl,ft.aC f11,mN GL wm D (L0:=[_,_]) qK eY ft (agO d.1 d.2.1 d.2.2 n) mD.rd f11 HK⟩
 ·rw[aF (bM e1),aF (bM e2),aF (bM e3),aF (bM e4),aJ (eA e)]at HK
  exact Ot Hx NP d.2.2 n _ fun jq f11=>⟨_,_,rfl,ft.aC f11,uX GL wm D (L0:=[_,_]) qK eY ft (agP d.1 d.2.1 d.2.2 n) f11 HK⟩
 ·rw[aF (bM e1),aF (bM e2),aF (bM e3),aF (bM e4),aF (bM e5),aJ (eA e)]at HK
  exact Gg Hx n _ fun jq f11=>⟨_,_,rfl,ft.aC f11,uX GL wm D (L0:=[_,_]) qK eY ft (agQ d.1 n) f11 HK⟩
 ·rw[aF (bM e1),aF (bM e2),aF (bM e3),aF (bM e4),aF (bM e5),aF (bM e6),aJ (eA e)]at HK
  exact L2 Hx n _ fun t jq mD f11=>⟨t,_,rfl,ft.aC f11,mN GL wm D (L0:=[_,_]) qK eY ft (agR d.1 n) mD.rd f11 HK⟩
 ·rw[aF (bM e1),aF (bM e2),aF (bM e3),aF (bM e4),aF (bM e5),aF (bM e6),aF (bM e7)]at HK
  exact HK _ _ (kH.J5 (b2:=b2) ((qK.mono fun k _ hk=> .inr hk).trans (f26.mono fun k _ hk=>by simp only[In,aO,aS,aN]at hk;omega)) (bR (L:=[_,_,_]) uG))
set_option maxHeartbeats 4000000 in
theorem adM{lo:Nat}{h:Heap}(GL:ji lo h)(wm:lo<=h.size){b1:Nat}{g w:Sl}{d:Dk}{F F' Z:aK}(D:qL lo h b1 g w d false F F' Z)(ok:pz d)(s:ByteArray){m n:Int}(hm:0<=m/\m<=999999)(hn:0<=n/\n<=999999)(K:aL)(HK:∀v h',kH lo h b1 Z (yl d s.data.toList m n) v h'->K v h'):aG aB 115 #[VP b1 0,VS s,VI m,VI n] h K:=by
 have lb:=D.V.head.lt
 have ll:=D.lb
 unfold yl at HK
 have n1:∀{b2 k:Nat},In [b2] k->k=b2:=fun hk=>by simpa[In]using hk
 refine aiF b1 g w d.2.2 false s m n h K D.V ⟨fun e b2 h1 eY f1 cU=> ?_,fun e1=>⟨fun e b2 h1 eY f1 cU=> ?_,fun e2=>⟨fun e b2 h1 eY f1 cU=> ?_,fun e3=>⟨fun e b2 h1 eY f1 cU=> ?_,fun e4 b2 ZK eY f20 Rf=> ?_⟩⟩⟩⟩
 ·have f1:=f1.aM
  have z1:=f1.size
  rw[aJ (eA e)]at HK
  exact adJ (by omega) (D.block f1.aC eY cU.head.lt) m n _ fun v jq O=>ny f1.aC eY (L0:=[]) cU (fun p hp=>by simp at hp) cU.head.lt O HK
 ·have f1:=f1.aM
  have z1:=f1.size
  rw[aF (bM e1),aJ (eA e)]at HK
  exact XI (GL.no f1) (by omega) (D.block f1.aC eY cU.head.lt) ok hm hn _ fun v jq O=>ny f1.aC eY (L0:=[]) cU (fun p hp=>by simp at hp) cU.head.lt O HK
 ·have f1:=f1.aM
  have z1:=f1.size
  rw[aF (bM e1),aF (bM e2),aJ (eA e)]at HK
  have CS:=cU.head.lt
  have bd:=agS d.1 d.2.2 m n
  have G1:=D.G.rd.no f1
  refine⟨fun QZ b3 x9 QX h'=>QZ=(u7 d.1 d.2.2 m n).2/\x9=(u7 d.1 d.2.2 m n).1.1/\QX=(u7 d.1 d.2.2 m n).1.2/\Fr No h h',⟨?_,fun b5 h9 TY f9 gM=> ?_⟩,?_⟩
  ·exact yU G1 d.2.2 m n _ fun h6 f6=>⟨_,_,_,rfl,cU.aC f6,fun b4 h8 Kj f8 gZ=>⟨rfl,rfl,rfl,(f1.aA f6).aA f8.aM⟩⟩
  ·have f9:=f9.aM
   have z9:=f9.size
   exact yU (G1.no f9) d.2.2 m n _ fun fa f10=>⟨_,_,_,rfl,gM.aC f10,fun jq f11 iN=>⟨rfl,rfl,rfl,((f1.aA f9).aA f10).fresh f11 fun k hk=>by have:=n1 hk;omega⟩⟩
  rintro _ b3 _ _ iC ⟨rfl,rfl,rfl,F12⟩ qI
  have i1:=sH (n:=(u7 d.1 d.2.2 m n).1.1) (by omega) (by omega)
  have i2:=sH (n:=(u7 d.1 d.2.2 m n).1.2) (by omega) (by omega)
  refine kW (GL.no F12).here (by omega) (by omega) _ fun tO f13=>⟨_,rfl,qI.aC f13,by rw[cT];show _+1<=_;omega,kW ((GL.no F12).no f13).here (by omega) (by omega) _ fun K1 f14=>⟨_,rfl,(qI.aC f13).aC f14,?_,fun Vr f15 PA=>HK _ _ ?_⟩⟩
  ·rw[show(⟨#[47]⟩:ByteArray)=⟨[47].toArray⟩from rfl,gj,cT,cT,bT];show _+1+_<=_;omega
  ·have fY:=((F12.aA f13).aA f14).fresh f15 fun k hk=>by have:=n1 hk;omega
   refine kH.same wm D (tx:=Lib.itoa (u7 d.1 d.2.2 m n).1.1++47::Lib.itoa (u7 d.1 d.2.2 m n).1.2) fY.aC (bR (L:=[_,_]) PA) (fun e=> ?_) fun e=> ?_
   ·unfold chC
    rw[aJ e]
    exact⟨rfl,by rw[show(⟨#[47]⟩:ByteArray)=⟨[47].toArray⟩from rfl,gj,gj];simp⟩
   ·unfold chC
    rw[aF (by rw[e];exact qm)]
 ·have f1:=f1.aM
  have z1:=f1.size
  rw[aF (bM e1),aF (bM e2),aF (bM e3),aJ (eA e)]at HK
  exact Hh m n _ fun t jq mD f11=>⟨t,_,rfl,cU.aC f11,mN GL wm D (L0:=[]) f1.aC eY cU (agT m n) mD.rd f11 HK⟩
 ·rw[aF (bM e1),aF (bM e2),aF (bM e3),aF (bM e4)]at HK
  exact HK _ _ (kH.J5 (b2:=b2) (f20.mono fun k _ hk=> .inl (n1 hk)) (bR (L:=[_]) Rf))
set_option maxHeartbeats 4000000 in
theorem XL{lo:Nat}{h:Heap}(GL:ji lo h)(wm:lo<=h.size){b1:Nat}(yM:lo<=b1){g w:Sl}{p:Int}(hL:Vars h [(b1,[g.v,w.v,VI p,VB false])]){S:aK}{t:Sl}{ps:List ByteArray}(T:dK S h 1 t (ps.map VS))(hS:∀k,S k->k≠b1)(tK:∀q,q∈ps->q.size<=1000000)(hn:ps.length<=100000)(K:aL)
 (HN:jn lP (ps.map (·.data.toList))=none->∀(o:Sl) h',Vars h' [(b1,[g.v,w.v,VI p,VB true])]->Fr (fun k=>k=b1\/h.size<=k) h h'->K o.v h')
 (HY:∀ns,jn lP (ps.map (·.data.toList))=some ns->∀(o:Sl) h',cM h' (fun k=>h.size<=k) o ns->Fr No h h'->K o.v h'):aG aB 112 #[VP b1 0,t.v] h K:=by
 have lb:=hL.head.lt
 have T0:=dK.lt T
 have n1:∀{k:Nat},In [b1] k->k=b1:=fun hk=>by simpa[In]using hk
 refine aiz b1 g w p false t h K hL ?_
 refine bC gH (fun k=>h.size<=k) (fun _ h=>h) 0 (by omega) [] rfl rfl fun o h1 m1 c1 o1 f1 q1 _=>⟨o,rfl,hL.aC f1,?_⟩
 refine⟨fun n x i x1 x2 x3 x4 h'=>0<=i/\i+n=(ps.length:Int)/\x1=g/\x2=w/\x3=p/\∃r:aH,r.length=i.toNat/\cM h' (fun k=>h.size<=k) x r/\Fr (fun k=>k=b1\/h.size<=k) h h'/\(x4=false->Ez lP (ps.map (·.data.toList)) r i.toNat/\Fr (fun k=>h.size<=k) h h')/\(x4=true->∃(j:Nat)(hj:j<ps.length),lP (ps[j]).data.toList=none),
  ⟨ps.length,by omega,by omega,rfl,rfl,rfl,[],rfl,by show Ow _ _ _ _ _ _;simpa using o1,f1.aC,fun _=>⟨⟨rfl,fun j _ h'=>by simp at h'⟩,f1.aC⟩,fun h=>by cases h⟩,?_⟩
 rintro n x i x1 x2 x3 x4 h2 ⟨i0,i1,rfl,rfl,rfl,r,rl,o2,f2,hF,hT⟩ cR
 have z2:=f2.size
 have T2:=dK.fr T0 f2 fun k hk aQ=>by have:=hS k hk.1;have:=hk.2;rcases aQ with h|h<;>omega
 have tn:=dK.len T2
 rw[bB,fE]at tn
 have GL2:∀{X:Heap},Fr (fun k=>k=b1\/h.size<=k) h X->iG X:=fun f=>(GL.next (f.mono fun k _ hk=>by rcases hk with h|h<;>omega)).here
 refine⟨fun e=> ?_,fun e=> ?_⟩
 ·simp only[aT]at e
  have hi:i.toNat<ps.length:=by omega
  have cc:=T2.get (i:=i) i0 (by rw[bB];omega)
  rw[show(ps.map VS)[i.toNat]'(by rw[bB];exact hi)=VS ps[i.toNat]from bV _]at cc
  have hq:=tK _ (bI hi)
  refine⟨dK.bQ T2 i0 (by rw[bB];omega),_,cc,?_⟩
  obtain⟨ms,hm⟩:=Aa
  refine Rr (GL2 f2) (by omega) _ (fun v h3 ha f3=>⟨v,_,rfl,cR.aC f3,fun x5 x6 x7 x8 h'=>x5=x1/\x6=x2/\x7=x3/\Fr (fun k=>k=b1\/h2.size<=k) h2 h'/\((x8=x4/\Fr No h2 h'/\lP (ps[i.toNat]).data.toList=some v)\/(x8=true/\lP (ps[i.toNat]).data.toList=none)),?_,?_⟩) fun v ty q h3 hn f3=>⟨v,_,rfl,cR.aC f3,fun x5 x6 x7 x8 h'=>x5=x1/\x6=x2/\x7=x3/\Fr (fun k=>k=b1\/h2.size<=k) h2 h'/\((x8=x4/\Fr No h2 h'/\lP (ps[i.toNat]).data.toList=some v)\/(x8=true/\lP (ps[i.toNat]).data.toList=none)),?_,?_⟩
  ·have vr:=I7 ha
   have st:lP (ps[i.toNat]).data.toList=if 0<=v/\v<=999999/\Lib.itoa v=(ps[i.toNat]).data.toList then some v else none:=by unfold lP;rw[ha]
   refine Ex hm _ ⟨_,rfl,fun e=>by simp at e,fun _=> ?_⟩
   refine fV _ _ _ h3 _ ⟨_,rfl,cR.aC f3,fun e2 h7 f7 jQ=> ?_,fun e2=> ?_⟩
   ·exact⟨rfl,rfl,rfl,f3.aC.trans (f7.mono fun k _ hk=> .inl (n1 hk)),.inr ⟨rfl,by rw[st,aF (fun hh=>by simp at e2;omega)]⟩⟩
   ·have e2:0<=v/\v<=999999:=by simpa using e2
    refine kW (GL2 (f2.trans f3.aC)) vr.1 vr.2 _ fun h5 f5=>⟨_,rfl,(cR.aC f3).aC f5,?_⟩
    rw[rU]
    have e5:(⟨(Lib.itoa v).toArray⟩:ByteArray).data.toList=Lib.itoa v:=rfl
    rw[e5]
    refine⟨fun e3 h6 f6 kU=> ?_,fun e3=> ?_⟩
    ·have e3:=Ac (bU e3)
     exact⟨rfl,rfl,rfl,(f3.aA f5).aC.trans (f6.mono fun k _ hk=> .inl (n1 hk)),.inr ⟨rfl,by rw[st,aF (fun hh=>e3 hh.2.2)]⟩⟩
    ·have e3:=ry (bS e3)
     exact⟨rfl,rfl,rfl,(f3.aA f5).aC,.inl ⟨rfl,f3.aA f5,by rw[st,aJ ⟨e2.1,e2.2,e3⟩]⟩⟩
  rotate_left
  ·refine yR hm _ _ _ _ ⟨_,rfl,fun _ h8 f8 gZ=> ?_,fun e=>by simp at e⟩
   refine⟨rfl,rfl,rfl,f3.aC.trans (f8.mono fun k _ hk=> .inl (n1 hk)),.inr ⟨rfl,?_⟩⟩
   unfold lP
   split
   ·rename_i m Ki
    exact absurd Ki (hn m)
   ·rfl
  all_goals
   rintro _ _ _ x8 h9 ⟨rfl,rfl,rfl,f9,hc⟩ gM
   have z9:=f9.size
   have F9:Fr (fun k=>k=b1\/h.size<=k) h h9:=f2.trans (f9.mono fun k _ hk=>by omega)
   have o9:=Ow.fr o2 f9 fun k hk aQ=>by have:=o2.aR hk;omega
   refine oQ (F:=fun k=>h.size<=k) o9 (fun k hk=>by omega) gM (fun q hq=>by simp only[eO]at hq;subst hq;show¬h.size<=b1;omega) (by omega) _ fun t7 jq mD f11 iN=> ?_
   rw[aP (i+1) (by omega) (by omega)]
   refine⟨n-1,by omega,by omega,by omega,rfl,rfl,rfl,r++[v],by rw[bT,rl];simp;omega,mD,F9.trans (f11.mono fun k _ hk=> .inr hk),fun e8=> ?_,fun e8=> ?_⟩
   ·rcases hc with⟨rfl,fN,hv⟩|⟨rfl,_⟩
    ·obtain⟨SF,fF⟩:=hF e8
     refine⟨?_,(fF.trans fN.aC).trans f11⟩
     rw[show(i+1).toNat=i.toNat+1 by omega]
     exact SF.next (by rw[bB];exact hi) (by rw[bV];exact hv)
    ·cases e8
   ·rcases hc with⟨rfl,_,_⟩|⟨_,hv⟩
    ·exact hT e8
    ·exact⟨i.toNat,hi,hv⟩
 ·simp only[aW]at e
  cases x4 with
  |true=>
   obtain⟨j,hj,hv⟩:=hT rfl
   exact HN (pg j (by rw[bB];exact hj) (by rw[bV];exact hv)) x h2 cR f2
  |false=>
   obtain⟨SF,fF⟩:=hF rfl
   have hr:=Ab (f:=lP) (l:=ps.map (·.data.toList)) (r:=r) (by rw[SF.1,bB];omega) SF.2
   exact HY r hr x h2 o2 (fF.mono fun k hk aQ=>absurd aQ (by omega))
theorem XM{w:List UInt8}{n:Int}(h:lP w=some n):0<=n/\n<=999999:=by
 unfold lP at h
 split at h
 ·split at h
  ·rename_i hh
   have h:=bF h
   subst h
   exact⟨hh.1,hh.2.1⟩
  ·cases h
 ·cases h
theorem J6{ws:List (List UInt8)}{ns:aH}(h:jn lP ws=some ns):∀n,n∈ns->0<=n/\n<=999999:=fun n hn=>by
 obtain⟨hl,hg⟩:=pd h
 obtain⟨i,hi,rfl⟩:=vE hn
 exact XM (hg i (by omega) hi)
set_option maxHeartbeats 8000000 in
theorem XN{lo:Nat}{h:Heap}(GL:ji lo h)(wm:lo<=h.size){b1:Nat}{g w:Sl}{d:Dk}{F F' Z:aK}(D:qL lo h b1 g w d false F F' Z)(ok:pz d){S:aK}{t:Sl}{q0:ByteArray}{qs:List ByteArray}(T:dK S h 1 t ((q0::qs).map VS))(hS:∀k,S k->k≠b1)(tK:∀q,q∈q0::qs->q.size<=100000)(hn:(q0::qs).length<=10000)(K:aL)
 (HK:∀v h',kH lo h b1 Z (jD d (q0.data.toList::qs.map (·.data.toList))) v h'->K v h'):aG aB 80 #[VP b1 0,t.v] h K:=by
 have lb:=D.V.head.lt
 have ll:=D.lb
 have tn:=dK.len T
 rw[bB,List.length_cons,fE]at tn
 rw[List.length_cons]at hn
 have n1:∀{b2 k:Nat},In [b2] k->k=b2:=fun hk=>by simpa[In]using hk
 have c0:∀{X:Heap},Fr No h X->bG X (t.at 0 1)=some (VS q0):=fun f=>(T.no f).get (i:=0) (by omega) (by simp)
 have tlt:t.n<=t.c:=T.cap
 have T1:∀{X:Heap},Fr No h X->dK S X 1 (t.cut 1 1 t.n t.c) (qs.map VS):=fun f=>by
  have:=dK.cut (T.no f) (l:=1) (m:=t.n) (by omega) (aY _)
  have e:(((q0::qs).map VS).drop (1*1)).take ((t.n-1)*1)=qs.map VS:=by
   simp only[bJ,fE,vj,oq]
   exact cW (by rw[bB];omega)
  rw[e]at this
  exact this
 refine v80 b1 g w d.2.2 false t h K D.V ⟨fun e=>⟨dK.bQ T (by omega) (by simp),fun b2 h1 eY f1 cU=>⟨q0,c0 f1.aM,fun e2=> ?_,fun e2=>jP OR .i64 (l:=1) (by omega) (by omega) ⟨_,rfl,?_⟩⟩⟩,fun e=>jP OR .i64 (l:=1) (by omega) (by omega) ⟨_,rfl,fun b2 h1 eY f1 cU=> ?_⟩⟩
 ·have f1:=f1.aM
  have z1:=f1.size
  simp only[aT]at e
  obtain⟨q1,rfl⟩:∃q1,qs=[q1]:=by
   cases qs with
   |nil=>simp at tn;omega
   |cons a l=>cases l with
    |nil=>exact⟨a,rfl⟩
    |cons b l=>simp at tn;omega
  have cc:bG h1 (t.at 1 1)=some (VS q1):=(T.no f1).get (i:=1) (by omega) (by simp)
  unfold jD at HK
  rw[aJ ⟨rfl,eA e2⟩]at HK
  exact⟨dK.bQ T (by omega) (by simp),q1,cc,Tz (GL.no f1) (by omega) (D.block f1.aC eY cU.head.lt) (tK q1 (by simp)) _ fun v jq O=>ny f1.aC eY (L0:=[]) cU (fun p hp=>by simp at hp) cU.head.lt O HK⟩
 all_goals
  have f1:=f1.aM
  have z1:=f1.size
  have CS:=cU.head.lt
  have ee:jD d (q0.data.toList::qs.map (·.data.toList))=match jn lP (qs.map (·.data.toList))with
   |none=>none
   |some ns=>dC d q0.data.toList ns:=by
   unfold jD
   rw[aF]
   ·rfl
   ·rintro⟨h1,h2⟩
    first
    |exact bM e2 h2
    |(simp only[List.length_cons,bB]at h1;simp only[aW]at e;omega)
  rw[ee]at HK
  refine XL (GL.no f1) (by omega) D.lb (bR (L:=[_]) cU) (T1 f1) hS (fun q hq=>by have:=tK q (cK _ hq);omega) (by omega) _ (fun hno o h4 V4 f4=> ?_) fun ns hns o h4 o4 f4=> ?_
  ·rw[hno]at HK
   have f4':Fr (fun k=>k=b1) h1 h4:=f4.mono fun k hk h2=>by rcases h2 with h2|h2;exact h2;omega
   refine⟨g,w,d.2.2,true,o,rfl,tG (L:=[]) f4' V4.head cU,fun _ h5 f5 iU=> ?_,fun e=>by cases e⟩
   exact HK _ _ (kH.J5 (b2:=b2) ((f1.aC.trans (f4.mono fun k _ hk=>by omega)).trans (f5.mono fun k _ hk=> .inr (by have:=n1 hk;omega))) (bR (L:=[_]) iU))
  ·rw[hns]at HK
   have jZ:=f1.aA f4
   have z4:=f4.size
   have fi:=cU.aC f4
   have D4:=D.block jZ.aC eY (by omega:b2<h4.size)
   have GL4:=GL.no jZ
   have nr:=J6 hns
   have on:o.n=ns.length:=by have:=o4.rd.len;simpa using this.symm
   have NQ:bE o.own h4 o ns:=o4.rd
   have cq:=c0 jZ
   have i0:fq t 0:=dK.bQ T (by omega) (by simp)
   refine⟨g,w,d.2.2,false,o,rfl,fi,fun e=>(by cases e),fun _=>⟨fun h'=>h'=h4/\dC d q0.data.toList ns=none,⟨fun k0=> ?_,fun k0=>⟨fun k1=> ?_,fun k1=>⟨fun k2=> ?_,fun k2=>⟨fun k4=> ?_,fun k4=> ?_⟩⟩⟩⟩,?_⟩⟩
   ·simp only[aT]at k0
    obtain rfl:ns=[]:=pJ (by omega)
    exact⟨i0,q0,cq,TA GL4 (by omega) D4 ok q0 _ fun v jq O=>ny jZ.aC eY (L0:=[]) fi (fun p hp=>by simp at hp) (by omega) O HK⟩
   ·simp only[aT]at k1
    obtain⟨x,rfl⟩:∃x,ns=[x]:=List.length_eq_one_iff.1 (by omega)
    have hx:=nr x (by simp)
    exact⟨i0,q0,cq,NQ.bQ (by omega) (by simp),x,NQ.get (i:=0) (by omega) (by simp),adL GL4 (by omega) D4 ok q0 hx _ fun v jq O=>ny jZ.aC eY (L0:=[]) fi (fun p hp=>by simp at hp) (by omega) O HK⟩
   ·simp only[aT]at k2
    obtain⟨x,y,rfl⟩:∃x y,ns=[x,y]:=by
     match ns,(show ns.length=2 by omega)with
     |[x,y],_=>exact⟨x,y,rfl⟩
    have hx:=nr x (by simp)
    have hy:=nr y (by simp)
    exact⟨i0,q0,cq,NQ.bQ (by omega) (by simp),x,NQ.get (i:=0) (by omega) (by simp),NQ.bQ (by omega) (by simp),y,NQ.get (i:=1) (by omega) (by simp),adM GL4 (by omega) D4 ok q0 hx hy _ fun v jq O=>ny jZ.aC eY (L0:=[]) fi (fun p hp=>by simp at hp) (by omega) O HK⟩
   ·simp only[aT]at k4
    obtain⟨x,y,z,u,rfl⟩:∃x y z u,ns=[x,y,z,u]:=by
     match ns,(show ns.length=4 by omega)with
     |[x,y,z,u],_=>exact⟨x,y,z,u,rfl⟩
    refine⟨i0,q0,cq,fun e5=> ?_,fun e5=> ?_⟩
    ·have hw:=eA e5
     unfold dC at HK
     (try simp only at HK)
     rw[aJ (show q0.data.toList=CQ from hw)]at HK
     exact⟨NQ.bQ (by omega) (by simp),x,NQ.get (i:=0) (by omega) (by simp),NQ.bQ (by omega) (by simp),y,NQ.get (i:=1) (by omega) (by simp),NQ.bQ (by omega) (by simp),z,NQ.get (i:=2) (by omega) (by simp),NQ.bQ (by omega) (by simp),u,NQ.get (i:=3) (by omega) (by simp),JO x y z u _ fun iC f12=>⟨_,_,rfl,fi.aC f12,uX GL wm D (L0:=[]) jZ.aC eY fi (agU x y z u) f12 HK⟩⟩
    ·refine⟨rfl,?_⟩
     show(if q0.data.toList=CQ then _ else none)=none
     rw[aF (show¬q0.data.toList=CQ from bM e5)]
   ·simp only[aW]at k0 k1 k2 k4
    refine⟨rfl,?_⟩
    match ns,on with
    |[],on=>simp at on;omega
    |[_],on=>simp at on;omega
    |[_,_],on=>simp at on;omega
    |[_,_,_],_=>rfl
    |[_,_,_,_],on=>simp at on;omega
    |_::_::_::_::_::_,_=>rfl
   ·rintro Vr ⟨rfl,agV⟩ PA h17 f17 aol
    have HK:∀v h',kH lo h b1 Z (dC d q0.data.toList ns) v h'->K v h':=HK
    rw[agV]at HK
    exact HK _ _ (kH.J5 (b2:=b2) (jZ.aC.trans (f17.mono fun k _ hk=>by simp only[In,aO,aS,aN]at hk;omega)) (bR (L:=[_]) aol))
theorem nz{g:aE}{rs:aH}{p:Int}(W:iV g (rs,p)):fS g rs p=true:=by
 have l:=bD W.cN
 have wl:=W.len
 have w0:=W.lo
 have w1:=W.hi
 simp only at wl w0 w1
 unfold fS
 rw[W.cN,show jX 0 ((g.length:Int)-1) p=true by unfold jX;simp;omega,kk wl]
 simp only[fc]
 rw[j6]
 rintro⟨l,r⟩ hm
 obtain⟨i,hi,e⟩:=vE hm
 have jH:=hi
 rw[List.length_zip]at jH
 rw[List.getElem_zip]at e
 have:=W.TX i (by show i<rs.length;omega) (by omega)
 simp only[fL]at e
 obtain⟨rfl,rfl⟩:=e
 unfold Dh jX
 simp only[bK,aT]
 exact this
theorem TB{g:aE}(hg:aZ g=true):fS g (List.replicate g.length 0) 0=true:=by
 have gl:=bD hg
 refine nz ⟨hg,by simp,by simp,by show(0:Int)<g.length;omega,fun i h1 h2=> ?_⟩
 simp only[Af]
 omega
theorem NR{g:aE}{rs:aH}{a b:Int}(W:iV g (rs,a))(h0:0<=b)(h1:b<(g.length:Int)):iV g (rs,b):=⟨W.cN,W.len,h0,h1,W.TX⟩
theorem J7{g:aE}{rs:aH}{a c:Int}(W:iV g (rs,a)){p:Nat}(h:p<g.length)(c0:0<=c)(c1:c<=max ((g[p].length:Int)-1) 0):iV g (rs.set p c,a):=⟨W.cN,by simpa using W.len,W.lo,W.hi,fun i x y=>by
 have:=W.TX i (by simpa using x) y
 simp only[fQ]
 split
 ·subst_vars;exact⟨c0,c1⟩
 ·exact this⟩
theorem TC{g:aE}{rs:aH}{a p q:Int}(W:iV g (rs,a))(h:(jx g p q).2=true):iV (jx g p q).1 (rs,a):=by
 have hg:=Hn h
 unfold jx at h hg⊢
 split at h
 ·rename_i hc
  rw[aJ hc]at hg⊢
  have h:aZ (g.set p.toNat (g.getD p.toNat []++[q]))=true:=h
  have e:mb (g.set p.toNat (g.getD p.toNat []++[q]))=g.set p.toNat (g.getD p.toNat []++[q]):=by unfold mb;rw[aJ h]
  simp only at hg⊢
  rw[e]at hg⊢
  have wl:=W.len
  have w1:=W.hi
  simp only at wl w1
  refine⟨hg,by simpa using wl,W.lo,by simpa using w1,fun i x y=> ?_⟩
  have:=W.TX i x (by simpa using y)
  simp only[fQ]
  by_cases e1:p.toNat=i
  ·subst e1
   have hi:p.toNat<g.length:=by simpa using y
   rw[aJ rfl,bH hi,bT,List.length_singleton]
   simp only at this
   omega
  ·rw[aF e1];exact this
 ·cases h
theorem TD{d:Dk}{r:St×Bool}(hr:PP d.1 r){a:Dk×List UInt8}(h:EO d r=some a):pz a.1:=by
 unfold EO at h
 split at h
 ·rename_i e
  have h:=bF h
  subst h
  exact nz (hr.ok e)
 ·cases h
theorem adN{d:Dk}(ok:pz d){a:Dk×List UInt8}{p:Int}(h:XF d p=some a):pz a.1:=by
 have W:=eD ok
 unfold XF EO at h
 split at h
 ·rename_i e
  have h:=bF h
  subst h
  have:=cA.1 (l8.1 e).2
  exact nz (NR W this.1 (show p<(d.1.length:Int) by omega))
 ·cases h
theorem TE{d:Dk}(ok:pz d){a:Dk×List UInt8}{p k:Int}(h:Tw d p k=some a):pz a.1:=by
 have W:=eD ok
 unfold Tw EO at h
 split at h
 ·rename_i e
  have h:=bF h
  subst h
  simp only[bK]at e
  have h1:=cA.1 e.1.2
  have h2:=cA.1 e.2
  have hp:p.toNat<d.1.length:=by omega
  rw[bH hp]at h2
  exact nz (J7 W hp h2.1 (by omega))
 ·cases h
theorem lA{d:Dk}(ok:pz d){c:Bool}{t:List UInt8}{a:Dk×List UInt8}(h:(if c=true then some (d,t)else none)=some a):pz a.1:=by
 split at h
 ·have h:=bF h
  subst h
  exact ok
 ·cases h
theorem TF{d:Dk}(ok:pz d){w:List UInt8}{a:Dk×List UInt8}(h:kB d w=some (some a)):pz a.1:=by
 unfold kB at h
 split at h
 ·exact TD (tF _ _ _ _) (bF h)
 split at h
 ·have h:=bF (bF h);subst h;exact ok
 split at h
 ·have h:=bF (bF h);subst h;exact ok
 split at h
 ·exact lA ok (bF h)
 split at h
 ·exact lA ok (bF h)
 ·cases h
theorem adO{d:Dk}(ok:pz d){w:List UInt8}{n:Int}{a:Dk×List UInt8}(h:jv d w n=some (some a)):pz a.1:=by
 unfold jv at h
 split at h
 ·exact adN ok (bF h)
 split at h
 ·exact TD (tF _ _ _ _) (bF h)
 split at h
 ·exact lA ok (bF h)
 split at h
 ·exact lA ok (bF h)
 split at h
 ·exact lA ok (bF h)
 split at h
 ·exact lA ok (bF h)
 split at h
 ·exact lA ok (bF h)
 ·cases h
theorem adP{d:Dk}(ok:pz d){w:List UInt8}{p q:Int}{a:Dk×List UInt8}(h:yl d w p q=some (some a)):pz a.1:=by
 unfold yl at h
 split at h
 ·have h:=bF h
  unfold YD at h
  split at h
  ·rename_i e
   have h:=bF h
   subst h
   exact nz (TC (eD ok) e)
  ·cases h
 split at h
 ·exact TE ok (bF h)
 split at h
 ·exact lA ok (bF h)
 split at h
 ·exact lA ok (bF h)
 ·cases h
theorem vv{d:Dk}(ok:pz d){ws:List (List UInt8)}{a:Dk×List UInt8}(h:jD d ws=some (some a)):pz a.1:=by
 unfold jD at h
 split at h
 ·unfold gpC at h
  split at h
  ·rename_i g e
   have h:=bF (bF h)
   subst h
   exact TB (zY e).1
  ·cases h
 split at h
 ·cases h
 ·unfold dC at h
  split at h
  ·exact TF ok h
  ·exact adO ok h
  ·exact adP ok h
  ·split at h
   ·exact lA ok (bF h)
   ·cases h
  ·cases h
theorem wo{d:Dk}(ok:pz d)(s:List UInt8):pz (fm d s).1:=by
 unfold fm adF
 split
 ·exact ok
 ·exact ok
 ·rename_i e
  exact vv ok e
theorem NS{c:UInt8}:∀{l:List UInt8},(0<=Lib.indexByte l c)↔c∈l
 |[]=>by simp[Lib.indexByte]
 |x::l=>by
  have ih:=NS (c:=c) (l:=l)
  have hg:=Lib.indexByte_ge l c
  unfold Lib.indexByte
  by_cases e:x=c
  ·rw[aJ (ly.2 e)];subst e;simp
  ·rw[aF (fun h=>e (ly.1 h)),aO]
   have e':¬c=x:=fun h=>e h.symm
   simp only[e',false_or]
   split
   ·rename_i hm
    have:=ly.1 hm
    rw[<-ih,this]
   ·rename_i hm
    have hm:Lib.indexByte l c≠ -1:=fun h=>hm (ly.2 h)
    rw[<-ih];omega
theorem yp{S S':aK}{h:Heap}{g w:Sl}{d:Dk}(G:dE S h g d.1)(W:bE S' h w d.2.1)(ok:pz d)(K:aL)(HK:∀g' w' m h',h.size<=m/\m<=h'.size->ia h' (Iv h.size m) g' d.1->cM h' (Iv m h'.size) w' d.2.1->Fr No h h'->K (.agg #[g'.v,w'.v,VI d.2.2]) h'):aG aB 79 #[.agg #[g.v,w.v,VI d.2.2]] h K:=by
 have dl:=tD ok
 have gt:d.1.length+wV d.1<=1000000000:=by have:=sX (eD ok).cN;have:=bD (eD ok).cN;omega
 refine v79 g w d.2.2 h K fun b1 b2 h1 fw eY f1 cU=> ?_
 have f1:=f1.aM
 have z1:=f1.size
 have CS:=cU.head.lt
 refine IE (G.no f1) gt _ fun t h2 o2 f2=>⟨t,rfl,cU.aC f2,?_⟩
 have z2:=f2.size
 refine jR (dK.no W (f1.aA f2)) d.2.2 (by omega) _ fun u h3 o3 f3=>⟨u,_,rfl,(cU.aC f2).aC f3,fun h4 f4 _=> ?_⟩
 have z3:=f3.size
 have n2:∀{k:Nat},In [b2] k->k=b2:=fun hk=>by simpa[In]using hk
 refine HK t u h2.size h4 (by have:=f4.size;omega) ((dO.fr (dO.no o2 f3) f4 fun k _ hk aQ=>by have:=hk.1;have:=n2 aQ;omega).mono fun k _ hk=>⟨by have:=hk.1;omega,hk.2⟩) ((Ow.fr o3 f4 fun k hk aQ=>by have:=(o3.aR hk).1.1;have:=n2 aQ;omega).mono fun k hk hF=>⟨hF.1,by have:=hF.2;have:=f4.size;omega⟩) ?_
 exact((f1.aA f2).aA f3).fresh f4 fun k hk=>by have:=n2 hk;omega
structure Ho(n:Nat)(h:Heap)(g w:Sl)(d:Dk)(F F':aK):Prop where
 G:ia h F g d.1
 W:cM h F' w d.2.1
 fl:∀k,F k->n<=k
 wl:∀k,F' k->n<=k
 dj:∀k,F k->¬F' k
theorem Ho.no{n:Nat}{h h':Heap}{g w:Sl}{d:Dk}{F F':aK}(D:Ho n h g w d F F')(f:Fr No h h'):Ho n h' g w d F F':=⟨D.G.no f,Ow.no D.W f,D.fl,D.wl,D.dj⟩
theorem Ho.up{n m:Nat}{h:Heap}{g w:Sl}{d:Dk}{F F':aK}(D:Ho n h g w d F F')(hm:m<=n):Ho m h g w d F F':=⟨D.G,D.W,fun k hk=>cB hm (D.fl k hk),fun k hk=>cB hm (D.wl k hk),D.dj⟩
set_option maxHeartbeats 2000000 in
theorem CV{h:Heap}(GL:iG h){S S':aK}{g w:Sl}{d:Dk}(G:dE S h g d.1)(W:bE S' h w d.2.1)(ok:pz d){s:ByteArray}(hs:s.size<=3000)(K:aL)(HK:∀g' w' F F' h',Ho h.size h' g' w' (fm d s.data.toList).1 F F'->Fr No h h'->K (.tuple #[.agg #[g'.v,w'.v,VI (fm d s.data.toList).1.2.2],VS ⟨(fm d s.data.toList).2.toArray⟩]) h'):aG aB 44 #[.agg #[g.v,w.v,VI d.2.2],VS s] h K:=by
 refine v44 g w d.2.2 s h K fun b1 b2 h2 fw eY f2 cR=> ?_
 have f2:=f2.aM
 have z2:=f2.size
 have CS:b2<h2.size:=cR.head.lt
 refine yp (G.no f2) (dK.no W f2) ok _ fun g3 w3 m h3 hm G3 W3 f3=>⟨g3,w3,_,rfl,cR.aC f3,fun b3 h4 jY f4 fi=> ?_⟩
 have f4:=f4.aM
 have z3:=f3.size
 have z4:=f4.size
 have Zq:b3<h4.size:=fi.head.lt
 have jZ:=(f2.aA f3).aA f4
 refine zZ (GL.no jZ) (by omega) _ fun t ps h5 oZ T5 f5=>⟨t,rfl,fi.aC f5,?_⟩
 have z5:=f5.size
 have uE:=jZ.aA f5
 have hpl:ps.length=(iF 32 s.data.toList).length:=by rw[<-oZ,bB]
 have tK:s.data.toList.length=s.size:=Array.length_toList
 have hp1:∀q,q∈ps->q.size<=100000:=fun q hq=>by
  have h1:q.data.toList∈iF 32 s.data.toList:=by rw[<-oZ];exact List.mem_map_of_mem hq
  have h2:=Ad h1
  have h3:q.data.toList.length=q.size:=Array.length_toList
  omega
 have hp2:ps.length<=10000:=by have:=rQ 32 s.data.toList;omega
 obtain⟨q0,qs,rfl⟩:∃q0 qs,ps=q0::qs:=by
  cases ps with
  |nil=>exact absurd oZ.symm (yQ 32 _)
  |cons a l=>exact⟨a,l,rfl⟩
 have iU:=fi.aC f5
 have D:qL h.size h5 b3 g3 w3 d false (Iv h2.size m) (Iv m h3.size) (fun k=>k=b3\/k=b2):=by
  exact⟨.cons iU.head (by simp) .nil,(G3.no f4).no f5,Ow.no (Ow.no W3 f4) f5,fun k hk=>⟨by have:=hk.1;omega,fun hx=>by have h1:=hk.1;have h2:=hk.2;rcases hx with rfl|rfl<;>omega⟩,fun k hk=>⟨by have:=hk.1;omega,fun hx=>by have h1:=hk.1;have h2:=hk.2;rcases hx with rfl|rfl<;>omega⟩,fun k h1 h2=>by have:=h1.2;have:=h2.1;omega,by omega,.inl rfl,fun k hk=>by rcases hk with rfl|rfl<;>omega⟩
 refine XN (ji.of GL|>.no uE) (by omega) D ok T5 (fun k hk e=>by have:=hk.1;omega) hp1 hp2 _ fun v h6 O=> ?_
 rw[<-bJ (f:=fun q:ByteArray=>q.data.toList),oZ]at O
 obtain⟨tx,oo,g6,w6,p6,cw,rfl,V6,f6,M⟩:=O
 have f6b:Fr (fun k=>k=b3) h5 h6:=f6.mono fun k hk h2=>by rcases h2 with h2|h2;exact h2;omega
 have z6:=f6.size
 have kU:=iU.set (i:=0) rfl f6b V6.head
 have A7:Fr No h h6:=uE.fresh f6 fun k hk=>by rcases hk with rfl|hk<;>omega
 have n2:∀{k:Nat},In [b2] k->k=b2:=fun hk=>by simpa[In]using hk
 refine⟨g6,w6,p6,cw,tx,oo,rfl,kU,fun e1=>fun b4 h8 Kj f8 gZ=> ?_,fun e1=>⟨fun e2=>fun b4 h8 Kj f8 gZ=> ?_,fun e2=>fun b4 tO Kj f13 _=> ?_⟩⟩
 ·have f8:=f8.aM
  have z8:=f8.size
  have FB:=A7.aA f8
  have e:fm d s.data.toList=(d,[119,104,97,116]):=by
   unfold fm
   generalize jD d (iF 32 s.data.toList)=o at M
   match o,M with
   |none,_=>rfl
   |some none,M=>rw[M.1]at e1;cases e1
   |some (some r),M=>rw[M.1]at e1;cases e1
  rw[e]at HK
  refine yp (G.no FB) (dK.no W FB) ok _ fun g9 w9 m9 h9 hm9 G9 W9 f9=>⟨g9,w9,_,rfl,gZ.aC f9,fun fa f10 _=>HK _ _ (Iv h8.size m9) (Iv m9 h9.size) _ ⟨G9.fr f10 fun k _ hk aQ=>by have:=hk.1;have:=n2 aQ;omega,Ow.fr W9 f10 fun k hk aQ=>by have:=(W9.aR hk).1.1;have:=n2 aQ;omega,fun k hk=>by have:=hk.1;omega,fun k hk=>by have:=hk.1;omega,fun k h1 h2=>by have:=h1.2;have:=h2.1;omega⟩ ((FB.aA f9).fresh f10 fun k hk=>by have:=n2 hk;omega)⟩
 ·have f8:=f8.aM
  have z8:=f8.size
  have FB:=A7.aA f8
  have e:fm d s.data.toList=(d,[110,111]):=by
   unfold fm
   generalize jD d (iF 32 s.data.toList)=o at M
   match o,M with
   |none,M=>rw[show cw=true from M]at e1;cases e1
   |some none,_=>rfl
   |some (some r),M=>rw[M.2.1]at e2;cases e2
  rw[e]at HK
  refine yp (G.no FB) (dK.no W FB) ok _ fun g9 w9 m9 h9 hm9 G9 W9 f9=>⟨g9,w9,_,rfl,gZ.aC f9,fun fa f10 _=>HK _ _ (Iv h8.size m9) (Iv m9 h9.size) _ ⟨G9.fr f10 fun k _ hk aQ=>by have:=hk.1;have:=n2 aQ;omega,Ow.fr W9 f10 fun k hk aQ=>by have:=(W9.aR hk).1.1;have:=n2 aQ;omega,fun k hk=>by have:=hk.1;omega,fun k hk=>by have:=hk.1;omega,fun k h1 h2=>by have:=h1.2;have:=h2.1;omega⟩ ((FB.aA f9).fresh f10 fun k hk=>by have:=n2 hk;omega)⟩
 ·obtain⟨r,e,F,F',rfl,rfl,D6⟩:∃r,fm d s.data.toList=r/\∃F F',tx=⟨r.2.toArray⟩/\p6=r.1.2.2/\qL h.size h6 b3 g6 w6 r.1 false F F' (fun k=>k=b3\/k=b2):=by
   unfold fm
   generalize jD d (iF 32 s.data.toList)=o at M
   match o,M with
   |none,M=>rw[show cw=true from M]at e1;cases e1
   |some none,M=>rw[M.2]at e2;cases e2
   |some (some r),M=>
    obtain⟨_,_,m3,m4,F,F',D⟩:=M
    exact⟨r,rfl,F,F',m3,m4,D⟩
  subst e
  exact HK _ _ F F' _ ⟨D6.G.fr f13 fun k _ hk aQ=>(D6.fl k hk).2 (.inr (n2 aQ)),Ow.fr D6.W f13 fun k hk aQ=>(D6.wl k (D6.W.aR hk).1).2 (.inr (n2 aQ)),fun k hk=>(D6.fl k hk).1,fun k hk=>(D6.wl k hk).1,D6.dj⟩ (A7.fresh f13 fun k hk=>by have:=n2 hk;omega)
theorem J8{h:Heap}(s:ByteArray)(c:UInt8):u4 aB 43 #[VS s,VS ⟨#[c]⟩] h (VB (decide (c∈s.data.toList))):=by
 intro K HK
 refine⟨fun w hw=> .inr ⟨43,_,w,Go.Proofs.enters_of Tryz.func43 (by kernel_rfl) rfl _ _,rfl,?_⟩⟩
 subst hw
 refine(Tryz.strings_Contains_one s c w).mono ?_
 rintro e w' ⟨rfl,rfl⟩
 refine⟨_,rfl,?_⟩
 rw[vD.2 (NS (c:=c) (l:=s.data.toList))]
 exact⟨⟨rfl,rfl,rfl⟩,HK _ (Fr.refl _ _)⟩
theorem CW{h:Heap}(GL:iG h){S S':aK}{g w:Sl}{d:Dk}(G:dE S h g d.1)(W:bE S' h w d.2.1)(s:ByteArray)(K:aL)
 (HN:jU d s.data.toList=none->∀h',Fr No h h'->K (.tuple #[.agg #[aD.v,aD.v,VI 0],VS ⟨#[]⟩,VB false]) h')
 (HS:∀r,jU d s.data.toList=some r->∀g' w' F F' h',Ho h.size h' g' w' r.1 F F'->Fr No h h'->K (.tuple #[.agg #[g'.v,w'.v,VI r.1.2.2],VS ⟨r.2.toArray⟩,VB true]) h'):aG aB 11 #[.agg #[g.v,w.v,VI d.2.2],VS s] h K:=by
 refine v11 g w d.2.2 s h K fun b1 b2 h2 fw eY f2 cR=> ?_
 have f2:=f2.aM
 have z2:=f2.size
 have CS:b2<h2.size:=cR.head.lt
 have n2:∀{k:Nat},In [b2] k->k=b2:=fun hk=>by simpa[In]using hk
 have tK:s.data.toList.length=s.size:=Array.length_toList
 refine QN (G.no f2) (dK.no W f2) d.2.2 _ fun h3 f3=>⟨_,rfl,cR.aC f3,fun e=>fun jq f11 _=> ?_,fun e=>⟨fun e2=>fun fa f10 _=> ?_,fun e2=> ?_⟩⟩
 ·refine HN ?_ _ ((f2.aA f3).fresh f11 fun k hk=>by have:=n2 hk;omega)
  unfold jU
  rw[aF (fun h=>by rw[h.1]at e;cases e)]
 ·refine HN ?_ _ ((f2.aA f3).fresh f10 fun k hk=>by have:=n2 hk;omega)
  unfold jU
  simp only[aT]at e2
  rw[aF (fun h=>by have:=h.2.1;omega)]
 ·simp only[aW]at e2
  have iR:=f2.aA f3
  have z3:=f3.size
  have ok:pz d:=bS e
  refine J8 s 10 _ fun h4 f4=>⟨_,rfl,(cR.aC f3).aC f4,fun e3=>fun h5 f5 _=> ?_,fun e3=> ?_⟩
  ·refine HN ?_ _ ((iR.aA f4).fresh f5 fun k hk=>by have:=n2 hk;omega)
   unfold jU
   simp only[aT]at e3
   rw[aF (fun h=>h.2.2 e3)]
  ·have jZ:=iR.aA f4
   have z4:=f4.size
   simp only[aW]at e3
   refine CV (GL.no jZ) (G.no jZ) (dK.no W jZ) ok (by omega) _ fun g6 w6 F F' h6 D6 f6=>⟨g6,w6,_,_,rfl,((cR.aC f3).aC f4).aC f6,fun b3 h9 jY f9 _=> ?_⟩
   have z6:=f6.size
   refine HS _ ?_ g6 w6 F F' _ ⟨D6.G.fr f9 fun k _ hk aQ=>by have:=D6.fl k hk;have:=n2 aQ;omega,Ow.fr D6.W f9 fun k hk aQ=>by have:=D6.wl k (D6.W.aR hk).1;have:=n2 aQ;omega,fun k hk=>by have:=D6.fl k hk;omega,fun k hk=>by have:=D6.wl k hk;omega,D6.dj⟩ ((jZ.aA f6).fresh f9 fun k hk=>by have:=n2 hk;omega)
   unfold jU
   rw[aJ ⟨ok,by omega,e3⟩]
theorem EQ:∀{d:Dk}(_:pz d)(ss:List (List UInt8)),pz (iB d ss).1
 |_,ok,[]=>ok
 |_,ok,s::ss=>EQ (wo ok s) ss
theorem tH:pz kC:=by unfold pz kC;decide
theorem CX:∀(d:Dk)(ss:List (List UInt8)),(iB d ss).2.length=ss.length
 |_,[]=>rfl
 |d,s::ss=>by simp only[iB,List.length_cons,CX]
def nA(l:List UInt8):ByteArray:=⟨l.toArray⟩
structure wq(n:Nat)(B:aK)(h:Heap)(g w:Sl)(d:Dk)(t:Sl)(rs:List (List UInt8)):Prop where
 ex:∃F F' R,Ho n h g w d F F'/\C8 h R t (rs.map nA)/\(∀k,R k->n<=k/\¬F k/\¬F' k)/\(∀k,F k\/F' k\/R k->k<h.size/\¬B k)
theorem wq.of{n:Nat}{B:aK}{h:Heap}{g w:Sl}{d:Dk}{t:Sl}{rs:List (List UInt8)}{F F' R:aK}(D:Ho n h g w d F F')(O:C8 h R t (rs.map nA))(hR:∀k,R k->k<h.size->n<=k/\¬(F k/\k<h.size)/\¬(F' k/\k<h.size))(hB:∀k,F k\/F' k\/R k->k<h.size->¬B k):wq n B h g w d t rs:=
 ⟨fun k=>F k/\k<h.size,fun k=>F' k/\k<h.size,fun k=>R k/\k<h.size,⟨D.G.mono fun k hk hF=>⟨hF,hk⟩,Ow.mono D.W fun k hk hF=>⟨hF,(D.W.aR hk).2⟩,fun k hk=>D.fl k hk.1,fun k hk=>D.wl k hk.1,fun k h1 h2=>D.dj k h1.1 h2.1⟩,Ow.mono O fun k hk hF=>⟨hF,(O.aR hk).2⟩,fun k hk=>hR k hk.1 hk.2,fun k hk=>by
  rcases hk with hk|hk|hk
  ·exact⟨hk.2,hB k (.inl hk.1) hk.2⟩
  ·exact⟨hk.2,hB k (.inr (.inl hk.1)) hk.2⟩
  ·exact⟨hk.2,hB k (.inr (.inr hk.1)) hk.2⟩⟩
theorem wq.fr{n:Nat}{B:aK}{h h':Heap}{g w:Sl}{d:Dk}{t:Sl}{rs:List (List UInt8)}{T:aK}(R:wq n B h g w d t rs)(f:Fr T h h')(hT:∀k,T k->k<n\/h.size<=k\/B k):wq n B h' g w d t rs:=by
 obtain⟨F,F',Q,D,O,q1,q2⟩:=R
 have key:∀k,F k\/F' k\/Q k->n<=k->¬T k:=fun k hk hn hT2=>by
  have:=q2 k hk
  rcases hT k hT2 with h|h|h
  ·omega
  ·omega
  ·exact this.2 h
 exact⟨F,F',Q,⟨D.G.fr f fun k _ hk aQ=>key k (.inl hk) (D.fl k hk) aQ,Ow.fr D.W f fun k hk aQ=>key k (.inr (.inl (D.W.aR hk).1)) (D.wl k (D.W.aR hk).1) aQ,D.fl,D.wl,D.dj⟩,Ow.fr O f fun k hk aQ=>key k (.inr (.inr (O.aR hk).1)) (q1 k (O.aR hk).1).1 aQ,q1,fun k hk=>⟨fp (q2 k hk).1 f.size,(q2 k hk).2⟩⟩
theorem wq.to{n m:Nat}{B B':aK}{h:Heap}{g w:Sl}{d:Dk}{t:Sl}{rs:List (List UInt8)}(R:wq n B h g w d t rs)(hm:m<=n)(hB:∀k,B' k->B k\/h.size<=k):wq m B' h g w d t rs:=by
 obtain⟨F,F',Q,D,O,q1,q2⟩:=R
 exact⟨F,F',Q,D.up hm,O,fun k hk=>⟨cB hm (q1 k hk).1,(q1 k hk).2⟩,fun k hk=>⟨(q2 k hk).1,fun hb=>by
  rcases hB k hb with h|h
  ·exact(q2 k hk).2 h
  ·have:=(q2 k hk).1;omega⟩⟩
set_option maxHeartbeats 2000000 in
theorem Md{h:Heap}(GL:iG h){s:ByteArray}(hs:s.size<=1000000000)(K:aL)
 (HN:dQ s.data.toList=none->∀h',Fr No h h'->K (.tuple #[.agg #[aD.v,aD.v,VI 0],aD.v,VB false]) h')
 (HS:∀r,dQ s.data.toList=some r->∀g w t h',wq h.size No h' g w r.1 t r.2->Fr No h h'->K (.tuple #[.agg #[g.v,w.v,VI r.1.2.2],t.v,VB true]) h'):aG aB 67 #[VS s] h K:=by
 refine v67 s h K fun b1 h1 fw f1 cU=> ?_
 have f1:=f1.aM
 have z1:=f1.size
 have lb1:b1<h1.size:=cU.head.lt
 refine qw _ _ fun v h2 D=> ?_
 obtain⟨g,w,m,rfl,G2,W2,f2⟩:=D
 refine⟨g,w,0,rfl,cU.aC f2,?_⟩
 have z2:=f2.size
 have IK:=f1.aA f2
 refine bC OR (fun k=>h2.size<=k) (fun _ h=>h) 0 (by omega) [] rfl rfl fun o h3 n3 c3 o3 f3 m3 _=>⟨o,rfl,(cU.aC f2).aC f3,?_⟩
 have z3:=f3.size
 have iR:=IK.aA f3
 have n1:∀{k:Nat},In [b1] k->k=b1:=fun hk=>by simpa[In]using hk
 have tK:s.data.toList.length=s.size:=Array.length_toList
 have D2:Ho h1.size h2 g w kC (fun k=>(h1.size<=k/\k<m)/\k<h2.size) (fun k=>(h1.size<=k/\m<=k)/\k<h2.size):=⟨G2.mono fun k hk hF=>⟨hF,hk⟩,Ow.mono W2 fun k hk hF=>⟨hF,(W2.aR hk).2⟩,fun k hk=>hk.1.1,fun k hk=>hk.1.1,fun k a b=>by omega⟩
 have o3':C8 h3 (fun k=>h2.size<=k) o (([]:List (List UInt8)).map nA):=o3
 have R3:wq h1.size No h3 g w kC o []:=wq.of (D2.no f3) o3' (fun k hk _=>⟨by omega,by omega,by omega⟩) fun k _ _ hk=>hk
 refine⟨fun e=>fun b2 h6 eY f6 _=> ?_,fun e=>fun b2 h5 eY f5 iU=> ?_⟩
 ·have e1:=eA (l:=[]) e
  have:dQ s.data.toList=some (kC,[]):=by rw[e1];rfl
  refine HS _ this g w o h6 ?_ ((iR.fresh f6 fun k hk=>by have:=n1 hk;omega))
  exact(R3.fr f6 fun k hk=> .inl (by have:=n1 hk;omega)).to (by omega) fun k hk=> .inl hk
 have f5:=f5.aM
 have z5:=f5.size
 have uE:=iR.aA f5
 have CS:b2<h5.size:=iU.head.lt
 refine zZ (GL.no uE) hs _ fun t ps h7 oZ T7 f7=>⟨t,rfl,iU.aC f7,fun e2=>fun Ud f16 _=> ?_,fun e2=> ?_⟩
 ·refine HN ?_ _ ((uE.aA f7).fresh f16 fun k hk=>by have:=n1 hk;omega)
  simp only[aT]at e2
  unfold dQ
  rw[aF (fun h=>by have:=h.1;omega)]
 simp only[aW]at e2
 have Hw:=uE.aA f7
 have z7:=f7.size
 have hpl:ps.length=(iF 10 s.data.toList).length:=by rw[<-oZ,bB]
 have hp2:ps.length<=10000:=by have:=rQ 10 s.data.toList;omega
 have QR:1<=ps.length:=by
  have:=wX.2 (yQ 10 s.data.toList)
  omega
 have tn:=T7.len
 rw[bB,fE]at tn
 have e3:aX ((t.n:Int)-1)=((ps.length-1:Nat):Int):=by rw[aP]<;>omega
 rw[e3]
 have r8:(iF 10 s.data.toList).getLast?=some (ps[ps.length-1]'(by omega)).data.toList:=by
  rw[<-oZ,List.getLast?_eq_getElem?,bB,zT,dT (by omega)]
  rfl
 refine⟨dK.bQ T7 (by omega) (by simp;omega),ps[ps.length-1]'(by omega),?_,fun e4=>fun Vr f15 _=> ?_,fun e4=>⟨fun e5=>fun h8 f8 _=> ?_,fun e5=> ?_⟩⟩
 ·have:=T7.get (i:=((ps.length-1:Nat):Int)) (by omega) (by simp;omega)
  simpa using this
 ·refine HN ?_ _ (Hw.fresh f15 fun k hk=>by have:=n1 hk;omega)
  have e4:=bM (l:=[]) (bU e4)
  unfold dQ
  rw[r8,aF (fun h=>e4 (bF h.2.1))]
 ·refine HN ?_ _ (Hw.fresh f8 fun k hk=>by have:=n1 hk;omega)
  simp only[aT]at e5
  unfold dQ
  rw[aF (fun h=>by have:=h.2.2;omega)]
 have e4:=eA (l:=[]) (bS e4)
 simp only[aW]at e5
 have hP:dQ s.data.toList=some (iB kC ((ps.take (ps.length-1)).map (·.data.toList))):=by
  unfold dQ
  rw[aJ ⟨by omega,by rw[r8,e4],by omega⟩,List.dropLast_eq_take,<-oZ,bB,nQ]
 obtain⟨ls,XO⟩:∃ls,ls=ps.take (ps.length-1):=⟨_,rfl⟩
 rw[<-XO]at hP
 have ll:ls.length=ps.length-1:=by rw[XO,fD];omega
 have tc:t.n<=t.c:=T7.cap
 refine sQ OR .i64 (m:=((ps.length-1:Nat):Int)) (by omega) (by omega) ⟨_,rfl,?_⟩
 have T8:dK (fun k=>h5.size<=k/\k<h7.size) h7 1 (t.cut 1 0 (ps.length-1) t.c) (ls.map VS):=by
  have:=dK.cut T7 (l:=0) (m:=ps.length-1) (by omega) (by omega)
  rw[XO,nQ]
  simpa using this
 rw[show((ps.length-1:Nat):Int).toNat=ps.length-1 by omega]
 generalize t.cut 1 0 (ps.length-1) t.c=t8 at T8
 have tn8:=T8.len
 rw[bB,fE]at tn8
 have hq:∀q,q∈ls->q.size<=3000:=fun q hq=>by
  have h1:q∈ps:=by rw[XO]at hq;exact lR hq
  have h1:q.data.toList∈iF 10 s.data.toList:=by rw[<-oZ];exact List.mem_map_of_mem h1
  have h2:=Ad h1
  have h3:q.data.toList.length=q.size:=Array.length_toList
  omega
 obtain⟨R,hR⟩:∃R,R=iB kC (ls.map (·.data.toList)):=⟨_,rfl⟩
 rw[<-hR]at hP
 refine⟨fun n o i x1 x2 x3 h'=>∃d rs,0<=i/\i+n=(ls.length:Int)/\pz d/\x3=d.2.2/\wq h1.size (fun k=>k=b2\/h5.size<=k/\k<h7.size) h' x1 x2 d o rs/\rs.length=i.toNat/\R.1=(iB d ((ls.drop i.toNat).map (·.data.toList))).1/\R.2=rs++(iB d ((ls.drop i.toNat).map (·.data.toList))).2/\Fr No h h'/\Fr (fun k=>h1.size<=k/\¬(h5.size<=k/\k<h7.size)) h7 h',⟨ls.length,kC,[],by omega,by omega,tH,rfl,(R3.to (aY _) (fun k hk=> .inr (by omega))).fr (f5.aA f7) (fun k hk=>hk.elim),rfl,by rw[hR];rfl,by rw[hR];rfl,Hw,Fr.refl _ _⟩,?_⟩
 rintro n o9 i x1 x2 _ h9 ⟨d,rs,i0,i1,okd,rfl,RO,rl,q1,q2,f9,f79⟩ gM
 have z9:=f79.size
 have T9:=T8.fr f79 fun k hk aQ=>aQ.2 hk
 refine⟨fun e6=> ?_,fun e6=>fun K1 f14 _=> ?_⟩
 ·simp only[aT]at e6
  have il:i.toNat<ls.length:=by omega
  have hc:=T9.get (i:=i) i0 (by simp;omega)
  rw[bV]at hc
  obtain⟨F,F',Q,D,O,w1,w2⟩:=RO
  have n2:∀{k:Nat},In [b2] k->k=b2:=fun hk=>by simpa[In]using hk
  refine⟨dK.bQ T9 i0 (by simp;omega),_,hc,?_⟩
  have TG:(ls.drop i.toNat).map (·.data.toList)=ls[i.toNat].data.toList::(ls.drop (i.toNat+1)).map (·.data.toList):=by
   rw[kM il];rfl
  rw[TG,iB]at q1 q2
  simp only at q1 q2
  refine CV (GL.no f9) D.G.rd (Ow.rd D.W) okd (hq _ (bI il)) _ fun g10 w10 F2 F2' fa zR f10=>⟨g10,w10,_,_,rfl,gM.aC f10,fun jq f11 iN=> ?_⟩
  have TH:=wo okd ls[i.toNat].data.toList
  generalize fm d ls[i.toNat].data.toList=r at zR q1 q2 iN TH⊢
  have zM:=f10.size
  have Uc:=f11.size
  have MS:Ho h9.size jq g10 w10 r.1 (fun k=>F2 k/\k<fa.size) (fun k=>F2' k/\k<fa.size):=⟨(zR.G.mono fun k hk hF=>⟨hF,hk⟩).fr f11 fun k _ hk aQ=>by have:=zR.fl k hk.1;have:=n2 aQ;omega,Ow.fr (Ow.mono zR.W fun k hk hF=>⟨hF,(zR.W.aR hk).2⟩) f11 fun k hk aQ=>by have:=zR.wl k (zR.W.aR hk).1;have:=n2 aQ;omega,fun k hk=>zR.fl k hk.1,fun k hk=>zR.wl k hk.1,fun k h1 h2=>zR.dj k h1.1 h2.1⟩
  have O11:C8 jq (fun k=>Q k\/jq.size<=k) o9 (rs.map nA):=Ow.mono (Ow.fr (Ow.no O f10) f11 fun k hk aQ=>(w2 k (.inr (.inr (O.aR hk).1))).2 (.inl (n2 aQ))) fun k _ hF=> .inl hF
  refine pc (x:=nA r.2) O11 (fun k hk=> .inr hk) iN (fun p hp hk=> ?_) (by rw[bB];omega) _ fun t13 tO O13 f13 Fv=> ?_
  ·rcases aO.1 hp with rfl|hp
   ·rcases hk with hk|hk
    ·exact(w2 _ (.inr (.inr hk))).2 (.inl rfl)
    ·simp only at hk;omega
   ·obtain rfl:p=(b1,[aD.v,aD.v,VI 0]):=by simpa using hp
    rcases hk with hk|hk
    ·have:=(w1 _ hk).1;simp only at this;omega
    ·simp only at hk;omega
  have z13:=f13.size
  have eI:aX (i+1)=i+1:=by rw[aP]<;>omega
  rw[eI]
  have eT:(i+1).toNat=i.toNat+1:=by omega
  have agY:Fr No h tO:=by
   refine((f9.aA f10).fresh f11 fun k hk=>by have:=n2 hk;omega).fresh f13 fun k hk=> ?_
   rcases hk with hk|hk
   ·have:=(w1 _ hk).1;omega
   ·omega
  refine⟨n-1,by omega,r.1,rs++[r.2],by omega,by omega,TH,rfl,?_,by rw[eT,bT,rl];rfl,by rw[eT];exact q1,by rw[eT,gu];exact q2,agY,?_⟩
  ·have D13:Ho h1.size tO g10 w10 r.1 (fun k=>F2 k/\k<fa.size) (fun k=>F2' k/\k<fa.size):=by
    have key:∀k,h9.size<=k->k<fa.size->¬(Q k\/jq.size<=k):=fun k h1 h2 h3=>by
     rcases h3 with h3|h3
     ·have:=(w2 _ (.inr (.inr h3))).1;omega
     ·omega
    exact Ho.up ⟨MS.G.fr f13 fun k _ hk=>key k (MS.fl k hk) hk.2,Ow.fr MS.W f13 fun k hk=>key k (MS.wl k (MS.W.aR hk).1) (MS.W.aR hk).1.2,MS.fl,MS.wl,MS.dj⟩ (by omega)
   refine wq.of D13 (by rw[cQ];exact O13) (fun k hk aQ=> ?_) fun k hk aQ=> ?_
   ·rcases hk with hk|hk
    ·have h1:=(w1 _ hk).1
     have h2:=(w2 _ (.inr (.inr hk))).1
     exact⟨h1,fun hx=>by have:=zR.fl _ hx.1.1;omega,fun hx=>by have:=zR.wl _ hx.1.1;omega⟩
    ·exact⟨by omega,fun hx=>by have:=hx.1.2;omega,fun hx=>by have:=hx.1.2;omega⟩
   ·rcases hk with hk|hk|hk
    ·have:=zR.fl _ hk.1;omega
    ·have:=zR.wl _ hk.1;omega
    ·rcases hk with hk|hk
     ·exact(w2 _ (.inr (.inr hk))).2
     ·omega
  ·refine((f79.trans f10.aC).trans (f11.mono fun k _ hk=>by have:=n2 hk;omega)).trans (f13.mono fun k _ hk=> ?_)
   rcases hk with hk|hk
   ·exact⟨(w1 _ hk).1,fun hx=>(w2 _ (.inr (.inr hk))).2 (.inr hx)⟩
   ·omega
 ·simp only[aW]at e6
  have e7:ls.length<=i.toNat:=by omega
  rw[rT e7]at q1 q2
  have q1:R.1=d:=q1
  have q2:R.2=rs:=by rw[q2];exact gK rs
  have:=HS _ hP x1 x2 o9 K1 (by
   rw[q1,q2]
   exact(RO.fr f14 fun k hk=> .inl (by have:=n1 hk;omega)).to (by omega) fun k hk=>hk.elim) (f9.fresh f14 fun k hk=>by have:=n1 hk;omega)
  rw[q1]at this
  exact this
def noW:List UInt8:=[110,111]
def whW:List UInt8:=[119,104,97,116]
def gC:Nat->List (List UInt8)->aH
 |_,[]=>[]
 |i,r::rs=>if r=noW\/r=whW then((i+1:Nat):Int)::gC (i+1) rs else gC (i+1) rs
theorem ER:∀(i:Nat)(rs:List (List UInt8)),(gC i rs).length<=rs.length
 |_,[]=>aY _
 |i,r::rs=>by
  have:=ER (i+1) rs
  unfold gC
  split<;>simp only[List.length_cons]<;>omega
theorem yZ{s:List UInt8}{r:Dk×List (List UInt8)}(h:dQ s=some r):r.2.length<=50/\pz r.1:=by
 unfold dQ at h
 split at h
 ·rename_i hh
  have h:=bF h
  subst h
  rw[CX,List.length_dropLast]
  exact⟨by omega,EQ tH _⟩
 ·cases h
theorem PB{h3:Heap}{L:List (Nat×List Value)}{S:aK}{t:Sl}{rs:List (List UInt8)}(T:dK S h3 1 t ((rs.map nA).map VS))(hn:rs.length<=1000){lo:Nat}(yM:lo<=h3.size){o:Sl}(O:cM h3 (fun k=>lo<=k) o [])(nF:∀p,p∈L->p.1<lo)(hS:∀k,S k->k<lo){K:Sl->Heap->Prop}(HK:∀o' h',cM h' (fun k=>lo<=k) o' (gC 0 rs)->Fr (fun k=>lo<=k) h3 h'->K o' h'):
 ∃J:Nat->Sl->Int->Heap->Prop,(∃n0:Nat,J n0 o 0 h3)/\∀(n:Nat)(out:Sl)(i:Int)(h5:Heap),J n out i h5->Vars h5 L->
 ((decide (i<(t.n:Int)))=true->fq t i/\∃q:ByteArray,bG h5 (t.at i 1)=some (VS q)/\
   ((ByteArray.toList q==ByteArray.toList ({data:= #[110,111]}))=true->j5 aB (Instr.buildSlice mW 1 #[(0,(VI (aX (i+1))))]) h5 fun rv h8=>∃a:Sl,rv=a.v/\Vars h8 L/\j5 aB (cD mW mW mW out.v a.v) h8 fun Bb h9=>∃a2:Sl,Bb=a2.v/\Vars h9 L/\∃m:Nat,m<n/\J m a2 (aX (i+1)) h9)/\
   ((ByteArray.toList q==ByteArray.toList ({data:= #[110,111]}))=false->((ByteArray.toList q==ByteArray.toList ({data:= #[119,104,97,116]}))=true->j5 aB (Instr.buildSlice mW 1 #[(0,(VI (aX (i+1))))]) h5 fun rv h8=>∃a:Sl,rv=a.v/\Vars h8 L/\j5 aB (cD mW mW mW out.v a.v) h8 fun Bb h9=>∃a2:Sl,Bb=a2.v/\Vars h9 L/\∃m:Nat,m<n/\J m a2 (aX (i+1)) h9)/\
   ((ByteArray.toList q==ByteArray.toList ({data:= #[119,104,97,116]}))=false->∃m:Nat,m<n/\J m out (aX (i+1)) h5)))/\
 ((decide (i<(t.n:Int)))=false->K out h5):=by
 have tn:=T.len
 rw[bB,bB,fE]at tn
 refine⟨fun n out i h'=>0<=i/\i+n=(rs.length:Int)/\(∃xs,cM h' (fun k=>lo<=k) out xs/\xs.length<=i.toNat/\gC 0 rs=xs++gC i.toNat (rs.drop i.toNat))/\Fr (fun k=>lo<=k) h3 h',⟨rs.length,by omega,by omega,⟨[],O,by simp,rfl⟩,Fr.refl _ _⟩,?_⟩
 rintro n out i h5 ⟨i0,i1,⟨xs,O5,xl,hx⟩,f5⟩ hL
 have z5:=f5.size
 have T5:=T.fr f5 fun k hk aQ=>by have:=hS k hk;omega
 refine⟨fun e=> ?_,fun e=> ?_⟩
 ·simp only[aT]at e
  have il:i.toNat<rs.length:=by omega
  have hc:=T5.get (i:=i) i0 (by simp;omega)
  rw[bV,bV]at hc
  have eI:aX (i+1)=i+1:=by rw[aP]<;>omega
  have eT:(i+1).toNat=i.toNat+1:=by omega
  have eN:((i.toNat+1:Nat):Int)=i+1:=by omega
  rw[kM il,gC]at hx
  rw[eI]
  have key:(rs[i.toNat]=noW\/rs[i.toNat]=whW)->j5 aB (Instr.buildSlice mW 1 #[(0,(VI (i+1)))]) h5 fun rv h8=>∃a:Sl,rv=a.v/\Vars h8 L/\j5 aB (cD mW mW mW out.v a.v) h8 fun Bb h9=>∃a2:Sl,Bb=a2.v/\Vars h9 L/\∃m:Nat,m<n/\(0<=i+1/\i+1+m=(rs.length:Int)/\(∃xs,cM h9 (fun k=>lo<=k) a2 xs/\xs.length<=(i+1).toNat/\gC 0 rs=xs++gC (i+1).toNat (rs.drop (i+1).toNat))/\Fr (fun k=>lo<=k) h3 h9):=fun hh=>by
   rw[aJ hh,eN]at hx
   refine nT O5 (by omega) hL nF (by omega) _ fun a h9 O9 f9 _=>⟨n-1,by omega,by omega,by omega,⟨xs++[i+1],O9,by rw[bT,List.length_singleton];omega,?_⟩,f5.trans f9⟩
   rw[eT,hx,gu]
   rfl
  refine⟨dK.bQ T5 i0 (by simp;omega),_,hc,fun e1=>key (.inl ?_),fun e1=>⟨fun e2=>key (.inr ?_),fun e2=> ?_⟩⟩
  ·exact eA e1
  ·exact eA e2
  ·have h1:¬rs[i.toNat]=noW:=bM e1
   have h2:¬rs[i.toNat]=whW:=bM e2
   rw[aF (fun h=>h.elim h1 h2)]at hx
   exact⟨n-1,by omega,by omega,by omega,⟨xs,O5,by omega,by rw[eT];exact hx⟩,f5⟩
 ·simp only[aW]at e
  rw[rT (by omega)]at hx
  rw[show gC i.toNat []=[]from rfl,gK]at hx
  rw[<-hx]at O5
  exact HK _ _ O5 f5
theorem uk{h:Heap}(GL:iG h){s:ByteArray}(hs:s.size<=1000000000)(K:aL)
 (HK:∀t h',cM h' (fun k=>h.size<=k) t ((dQ s.data.toList).elim [] fun r=>gC 0 r.2)->Fr No h h'->K (.tuple #[t.v,VB (dQ s.data.toList).isSome]) h'):aG aB 28 #[VS s] h K:=by
 refine v28 s h K (Md GL hs _ (fun e h1 f1=> ?_) fun r e g w t h1 R f1=> ?_)
 ·refine⟨aD,aD,0,aD,false,rfl,.nil,fun _=>fun b1 h3 fw f3 _=> ?_,fun e2=>by cases e2⟩
  rw[e]at HK
  exact HK _ _ (Ow.nil ..) (f1.aA f3.aM)
 ·have sl:=(yZ e).1
  refine⟨g,w,r.1.2.2,t,true,rfl,.nil,fun e2=>(by cases e2),fun _=>fun b1 h3 fw f3 dA=> ?_⟩
  have f3:=f3.aM
  have z1:=f1.size
  have z3:=f3.size
  have lb:b1<h3.size:=dA.head.lt
  rw[e]at HK
  obtain⟨F,F',Q,D,O,w1,w2⟩:=R
  refine bC gH (fun k=>h3.size<=k) (fun _ h=>h) 0 (by omega) [] rfl rfl fun o h4 n4 c4 o4 f4 m4 _=>⟨o,rfl,dA.aC f4,?_⟩
  have z4:=f4.size
  have T:=(Ow.fW (Ow.no (Ow.no O f3) f4))
  refine PB (lo:=h3.size) T (by omega) (by omega) (by show Ow _ _ _ _ _ _;simpa using o4) (fun p hp=>by obtain rfl:p=_:=eO.1 hp;exact lb) (fun k hk=>by have:=(w2 k (.inr (.inr hk))).1;omega) fun o' h' O' f'=>HK _ _ (Ow.mono O' fun k _ hk=>by omega) ?_
  exact((f1.aA f3).aA f4).fresh f' fun k hk=>by omega
theorem J9{h:Heap}(GL:iG h){s:ByteArray}(hs:s.size<=1000000000)(K:aL)
 (HK:∀t h',C8 h' (fun k=>h.size<=k) t (((dQ s.data.toList).elim [] fun r=>r.2).map nA)->Fr No h h'->K (.tuple #[t.v,VB (dQ s.data.toList).isSome]) h'):aG aB 25 #[VS s] h K:=by
 refine v25 s h K (Md GL hs _ (fun e h1 f1=> ?_) fun r e g w t h1 R f1=> ?_)
 ·refine⟨aD,aD,0,aD,false,rfl,.nil,fun b1 h3 fw f3 _=> ?_⟩
  rw[e]at HK
  exact HK _ _ (Ow.nil ..) (f1.aA f3.aM)
 ·refine⟨g,w,r.1.2.2,t,true,rfl,.nil,fun b1 h3 fw f3 dA=> ?_⟩
  have f3:=f3.aM
  obtain⟨F,F',Q,D,O,w1,w2⟩:=R
  rw[e]at HK
  exact HK _ _ (Ow.mono (Ow.no O f3) fun k _ hk=>(w1 k hk).1) (f1.aA f3)
theorem Ka{h:Heap}(GL:iG h){s:ByteArray}(hs:s.size<=1000000000)(K:aL)
 (HN:dQ s.data.toList=none->∀h',Fr No h h'->K (.tuple #[.agg #[aD.v,aD.v,VI 0],VB false]) h')
 (HS:∀r,dQ s.data.toList=some r->∀g w F F' h',Ho h.size h' g w r.1 F F'->Fr No h h'->K (.tuple #[.agg #[g.v,w.v,VI r.1.2.2],VB true]) h'):aG aB 27 #[VS s] h K:=by
 refine v27 s h K fun b1 h1 fw f1 cU=> ?_
 have f1:=f1.aM
 have z1:=f1.size
 have lb:b1<h1.size:=cU.head.lt
 have n1:∀{k:Nat},In [b1] k->k=b1:=fun hk=>by simpa[In]using hk
 refine Md (GL.no f1) hs _ (fun e h2 f2=> ?_) fun r e g w t h2 R f2=> ?_
 ·exact⟨aD,aD,0,aD,false,rfl,cU.aC f2,fun b2 h5 eY f5 _=>HN e _ ((f1.aA f2).fresh f5 fun k hk=>by have:=n1 hk;omega)⟩
 ·refine⟨g,w,r.1.2.2,t,true,rfl,cU.aC f2,fun b2 h5 eY f5 _=> ?_⟩
  obtain⟨F,F',Q,D,O,w1,w2⟩:=(wq.fr R f5 fun k hk=> .inl (by have:=n1 hk;omega))
  exact HS r e g w F F' _ (D.up (by omega)) ((f1.aA f2).fresh f5 fun k hk=>by have:=n1 hk;omega)
theorem Kb{P:Program}{t:TypeId}(ht:P.underlying t=some .string){K:Value->Prop}(k k':IntKind)(s:ByteArray)(i j:Int)(h0:0<=i)(h1:i<=j)(h2:j<=s.size)(H:K (VS (s.extract i.toNat j.toNat))):pop P (Instr.sliceAt t (VS s) (some (.int k i)) (some (.int k' j)) none) K:=
 .mk' (fun w=>by rw[run_sliceAt_string w t _ _ _ _ ht,run_slice_string w t s k k' i j ht h0 h1 h2]) H
theorem XP{P:Program}{t:TypeId}(ht:P.underlying t=some .string){K:Value->Prop}(k:IntKind)(s:ByteArray)(m:Int)(h0:0<=m)(h1:m<=s.size)(H:K (VS (s.extract m.toNat s.size))):pop P (Instr.sliceAt t (VS s) (some (.int k m)) none none) K:=
 .mk' (fun w=>by rw[run_sliceAt_string w t _ _ _ _ ht,run_slice_string_l w t s ht k m h0 h1]) H
theorem Me(s:ByteArray)(i j:Nat):(s.extract i j).data.toList=(s.data.toList.drop i).take (j-i):=by
 rw[ByteArray.data_extract,Array.toList_extract,List.extract_eq_take_drop]
theorem uY{s:ByteArray}{i:Nat}(h:i<s.size)(h':i<s.data.toList.length):s[i]'h=s.data.toList[i]'h':=by
 rw[Array.getElem_toList];rfl
theorem ES{h:Heap}{s:ByteArray}(c:UInt8)(hs:s.size<=100000)(K:aL)(HK:∀(t:Sl)(ps:List ByteArray) h',ps.map (·.data.toList)=iF c s.data.toList->C8 h' (fun k=>h.size<=k) t ps->Fr No h h'->K t.v h'):aG aB 46 #[VS s,.int .u8 c.toNat] h K:=by
 have sl:=kX s
 refine v46 s c.toNat h K ?_
 refine⟨fun n out f i h'=>0<=f/\f<=i/\i+n=(s.size:Int)/\(∃ps:List ByteArray,C8 h' (fun k=>h.size<=k) out ps/\ps.map (·.data.toList)++iF c (s.data.toList.drop f.toNat)=iF c s.data.toList/\(ps.length:Int)<=f)/\c∉(s.data.toList.drop f.toNat).take (i.toNat-f.toNat)/\Fr (fun k=>h.size<=k) h h',⟨s.size,by omega,by omega,by omega,⟨[],Ow.nil _ _ _ _,rfl,by simp⟩,by simp,Fr.refl _ _⟩,?_⟩
 rintro n out f i h1 ⟨f0,f1,i1,⟨ps,O,hp,pl⟩,hc,F1⟩ _
 have z1:=F1.size
 have put:∀{x:ByteArray}(R:Sl->Heap->Prop),(∀t h',C8 h' (fun k=>h.size<=k) t (ps++[x])->Fr (fun k=>h.size<=k) h h'->R t h')->j5 aB (Instr.buildSlice Uf 1 #[(0,VS x)]) h1 fun rv h2=>∃t:Sl,rv=t.v/\Vars h2 []/\j5 aB (cD Uf Uf Uf out.v t.v) h2 fun Bb h3=>∃t2:Sl,Bb=t2.v/\Vars h3 []/\R t2 h3:=fun{x} R HR=>pc O (fun k hk=>by omega) .nil (fun q hq=>by cases hq) (by omega) R fun t h' o f _=>HR t h' o (F1.trans f)
 refine⟨fun e=> ?_,fun e=> ?_⟩
 ·simp only[aT]at e
  have il:i.toNat<s.data.toList.length:=by omega
  have e1:aX (i+1)=i+1:=by rw[aP]<;>omega
  have hd:s.data.toList.drop f.toNat=(s.data.toList.drop f.toNat).take (i.toNat-f.toNat)++s.data.toList[i.toNat]::s.data.toList.drop (i.toNat+1):=by
   have:=List.take_append_drop (i.toNat-f.toNat) (s.data.toList.drop f.toNat)
   rw[sR,show f.toNat+(i.toNat-f.toNat)=i.toNat by omega,kM il]at this
   exact this.symm
  rw[e1]
  refine⟨fun ag1 f' h'=>0<=f'/\f'<=i+1/\(∃ps:List ByteArray,C8 h' (fun k=>h.size<=k) ag1 ps/\ps.map (·.data.toList)++iF c (s.data.toList.drop f'.toNat)=iF c s.data.toList/\(ps.length:Int)<=f')/\c∉(s.data.toList.drop f'.toNat).take ((i+1).toNat-f'.toNat)/\Fr (fun k=>h.size<=k) h h',mF (by kernel_rfl) _ _ i (by omega) (by omega) ⟨_,rfl,fun e2=> ?_,fun e2=> ?_⟩,?_⟩
  ·simp only[aT]at e2
   rw[uY _ il]at e2
   have e2:s.data.toList[i.toNat]=c:=wk.1 (by omega)
   refine Kb (by kernel_rfl) _ _ s f i f0 f1 (by omega) ⟨_,rfl,put _ fun t h' o F=> ?_⟩
   refine⟨by omega,by omega,⟨_,o,?_,by rw[bT,List.length_singleton];omega⟩,?_,F⟩
   ·rw[hd,e2,FL _ hc]at hp
    rw[cQ,bJ,jb,Me,gu,show(i+1).toNat=i.toNat+1 by omega]
    exact hp
   ·rw[Nat.sub_self];simp
  ·simp only[aW]at e2
   rw[uY _ il]at e2
   have e2:c≠s.data.toList[i.toNat]:=fun h=>e2 (by rw[<-h])
   refine⟨f0,by omega,⟨ps,O,hp,pl⟩,?_,F1⟩
   rw[show(i+1).toNat-f.toNat=(i.toNat-f.toNat)+1 by omega,vL,gG]
   rintro(hx|hx)
   ·exact hc hx
   ·rw[List.getElem?_drop,show f.toNat+(i.toNat-f.toNat)=i.toNat by omega,dT il]at hx
    simp only[Option.toList_some,eO]at hx
    exact e2 hx
  ·rintro ag1 f' h4 ⟨a,b,q,c',F⟩ _
   exact⟨n-1,by omega,a,b,by omega,q,c',F⟩
 ·simp only[aW]at e
  refine XP (by kernel_rfl) _ s f f0 (by omega) ⟨_,rfl,put _ fun t h' o F=> ?_⟩
  refine HK t _ h' ?_ o (F.mono fun k hk h2=>by omega)
  have hx:(s.data.toList.drop f.toNat).take (i.toNat-f.toNat)=s.data.toList.drop f.toNat:=cW (by rw[q6];omega)
  rw[hx]at hc
  rw[zW hc]at hp
  rw[cQ,bJ,jb,Me,cW (by rw[q6];omega)]
  exact hp
theorem TI{h:Heap}(s:ByteArray)(K:aL)(HK:∀h',Fr No h h'->K (VI (match px s.data.toList with|some n=>(n:Int)|none=> -1)) h'):aG aB 124 #[VS s] h K:=by
 have sl:=kX s
 refine v124 s h K ?_
 refine eM _ _ _ _ _ ⟨_,rfl,.nil,fun e=> ?_,fun e=> ?_⟩
 ·have e:jX 1 6 (s.size:Int)=false:=bU e
  have:=HK h (Fr.refl _ _)
  unfold px at this
  rw[aF (fun hh=>by rw[cA.2 (show(1:Int)<=(s.size:Int)/\(s.size:Int)<=6 by omega)]at e;cases e)]at this
  exact this
 have e:=cA.1 (bS e)
 have l0:0<s.data.toList.length:=by omega
 have hh:s.data.toList.head?=some s.data.toList[0]:=by
  rw[List.head?_eq_getElem?,dT l0]
 refine mF (by kernel_rfl) _ _ 0 (by omega) (by show 0<s.size;omega) ⟨_,rfl,fun e2=>⟨fun e3=> ?_,fun e3=> ?_⟩,fun e2=> ?_⟩
 ·simp only[aT]at e2 e3
  have:=HK h (Fr.refl _ _)
  unfold px at this
  have e4:s[(0:Int).toNat]'(by show 0<s.size;omega)=s.data.toList[0]:=uY (i:=0) (by omega) l0
  rw[e4]at e2
  have h48:s.data.toList.head?=some 48:=by rw[hh];exact congrArg some (wk.1 (by show _=48;omega))
  rw[aF (fun h=>h.2.2 ⟨h48,by omega⟩)]at this
  exact this
 all_goals
  have hr:px s.data.toList=Lib.decFrom 0 s.data.toList:=by
   unfold px
   rw[aJ]
   refine⟨by omega,by omega,?_⟩
   rintro⟨h1,h2⟩
   rw[hh]at h1
   have h1:=bF h1
   have e4:s[(0:Int).toNat]'(by show 0<s.size;omega)=s.data.toList[0]:=uY (i:=0) (by omega) l0
   first
   |(simp only[aW]at e3;omega)
   |(simp only[aW]at e2;rw[e4,h1]at e2;exact e2 rfl)
  rw[hr]at HK
  refine⟨fun n x i h'=>0<=i/\i+n=(s.size:Int)/\0<=x/\x<10^i.toNat/\Lib.decFrom 0 s.data.toList=Lib.decFrom x.toNat (s.data.toList.drop i.toNat)/\h=h',⟨s.size,by omega,by omega,by omega,by show(0:Int)<1;omega,rfl,rfl⟩,?_⟩
  rintro n x i _ ⟨i0,i1,x0,x1,hx,rfl⟩ _
  refine⟨fun e5=> ?_,fun e5=> ?_⟩
  ·simp only[aT]at e5
   have il:i.toNat<s.data.toList.length:=by omega
   have ei:=uY (s:=s) (i:=i.toNat) (by omega) il
   rw[kM il,Lib.decFrom]at hx
   have bad:(s.data.toList[i.toNat].toNat<48\/57<s.data.toList[i.toNat].toNat)->K (VI (-1)) h:=fun hb=>by
    have:Lib.digitVal s.data.toList[i.toNat]=none:=by unfold Lib.digitVal;rw[aF (by omega)]
    rw[this]at hx
    simp only at hx
    have:=HK h (Fr.refl _ _)
    rw[hx]at this
    exact this
   refine mF (by kernel_rfl) _ _ i i0 (by omega) ⟨_,rfl,?_⟩
   rw[ei]
   refine⟨fun e6=>bad (.inl (by simp only[aT]at e6;omega)),fun e6=> ?_⟩
   refine mF (by kernel_rfl) _ _ i i0 (by omega) ⟨_,rfl,?_⟩
   rw[ei]
   refine⟨fun e7=>bad (.inr (by simp only[aT]at e7;omega)),fun e7=> ?_⟩
   refine mF (by kernel_rfl) _ _ i i0 (by omega) ⟨_,rfl,?_⟩
   rw[ei]
   simp only[aW]at e6 e7
   have hd:Lib.digitVal s.data.toList[i.toNat]=some (s.data.toList[i.toNat].toNat-48):=by unfold Lib.digitVal;rw[aJ (by omega)]
   rw[hd]at hx
   simp only at hx
   generalize hc:s.data.toList[i.toNat].toNat=c at*
   have w1:IntKind.u8.wrap ((c:Int)-48)=(c:Int)-48:=by show((c:Int)-48)%256=_;omega
   have w2:IntKind.i64.wrap ((c:Int)-48)=(c:Int)-48:=aP _ (by omega) (by omega)
   rw[w1]
   refine jy (show Tryz.prog.underlying _=some (.int .u8)from by kernel_rfl) (show Tryz.prog.underlying _=some (.int .i64)from by kernel_rfl) _ ⟨(c:Int)-48,by rw[w2],n-1,by omega,?_⟩
   have p10:(10:Int)^(i.toNat+1)=10^i.toNat*10:=Int.pow_succ ..
   have pb:(10:Int)^i.toNat<=1000000:=by
    have:=Ah (show 10>0 by omega) (show i.toNat<=6 by omega)
    have h2:((10^i.toNat:Nat):Int)<=((10^6:Nat):Int):=by omega
    simpa using h2
   rw[aP (i+1) (by omega) (by omega),aP (10*x) (by omega) (by omega),aP _ (by omega) (by omega)]
   refine⟨by omega,by omega,by omega,?_,?_,rfl⟩
   ·rw[show(i+1).toNat=i.toNat+1 by omega,p10];omega
   ·rw[show(i+1).toNat=i.toNat+1 by omega,hx]
    congr 1
    omega
  ·simp only[aW]at e5
   rw[rT (by omega)]at hx
   rw[show Lib.decFrom x.toNat []=some x.toNat from rfl]at hx
   have:=HK h (Fr.refl _ _)
   rw[hx]at this
   simp only at this
   rw[show((x.toNat:Nat):Int)=x by omega]at this
   exact this
def XQ:List (List UInt8):=[[115,116,101,112],[115,104,111,119],[119,97,108,107],[112,101,114,105,111,100],[99,121,99,108,101]]
def XR:List (List UInt8):=[[97,116],[114,117,110],[112,97,115,115],[118,105,115,105,116,115],[104,105,116],[116,114,101,101,115],[102,117,108,108]]
def XS:List (List UInt8):=[[97,100,100],[116,117,114,110],[99,104,97,110,99,101],[103,114,111,119]]
def fu(w:List UInt8):List UInt8:=if w∈XQ then[]else if w∈XR then[110]else if w∈XS then[110,110]else if w=CQ then[110,110,110,110]else if w=PO then[103]else[63]
def fW:List UInt8->List (List UInt8)->aE->aH->Option (aE×aH)
 |[],[],g,ns=>some (g,ns)
 |c::cs,w::ws,g,ns=>if c=110 then(match px w with|none=>none|some n=>fW cs ws g (ns++[(n:Int)]))else if c=103 then(match rS w with|none=>none|some g'=>fW cs ws g' ns)else none
 |_,_,_,_=>none
def Ko(ws:List (List UInt8)):Option (aE×aH):=if(fu (ws.headD [])).length+1=ws.length then fW (fu (ws.headD [])) ws.tail [] []else none
theorem PC(w:List UInt8):(fu w).length<=4:=by
 unfold fu
 repeat' split
 all_goals simp
theorem NT{s:ByteArray}{l:List UInt8}:(s.toList==(⟨l.toArray⟩:ByteArray).toList)=decide (s.data.toList=l):=by
 rw[rU]
set_option maxHeartbeats 2000000 in
theorem PD{h:Heap}(w:ByteArray):u4 aB 123 #[VS w] h (VS (nA (fu w.data.toList))):=by
 intro K HK
 have HK:=HK h (Fr.refl _ _)
 refine aiR w h K ?_
 have mA:w.data.toList∈XQ↔w.data.toList=[115,116,101,112]\/w.data.toList=[115,104,111,119]\/w.data.toList=[119,97,108,107]\/w.data.toList=[112,101,114,105,111,100]\/w.data.toList=[99,121,99,108,101]:=by simp only[XQ,aO,aS,aN]
 have mB:w.data.toList∈XR↔w.data.toList=[97,116]\/w.data.toList=[114,117,110]\/w.data.toList=[112,97,115,115]\/w.data.toList=[118,105,115,105,116,115]\/w.data.toList=[104,105,116]\/w.data.toList=[116,114,101,101,115]\/w.data.toList=[102,117,108,108]:=by simp only[XR,aO,aS,aN]
 have mC:w.data.toList∈XS↔w.data.toList=[97,100,100]\/w.data.toList=[116,117,114,110]\/w.data.toList=[99,104,97,110,99,101]\/w.data.toList=[103,114,111,119]:=by simp only[XS,aO,aS,aN]
 refine⟨fun x h'=>h=h'/\(x=true↔w.data.toList∈XQ),?_,?_⟩
 ·rw[mA]
  simp only[NT]
  refine⟨fun e=>⟨by trivial,?_⟩,fun e=>⟨fun e2=>⟨by trivial,?_⟩,fun e2=>⟨fun e3=>⟨by trivial,?_⟩,fun e3=>⟨fun e4=>⟨by trivial,?_⟩,fun e4=>⟨by trivial,?_⟩⟩⟩⟩⟩
  all_goals (simp only[aT,aW]at*;simp[*])
 rintro x _ ⟨rfl,hx⟩ _
 unfold fu at HK
 refine⟨fun e=> ?_,fun e=> ?_⟩
 ·rw[aJ (hx.1 e)]at HK;exact HK
 rw[aF (fun h=>by rw[hx.2 h]at e;cases e)]at HK
 refine⟨fun x h'=>h=h'/\(x=true↔w.data.toList∈XR),?_,?_⟩
 ·rw[mB]
  simp only[NT]
  refine⟨fun e=>⟨by trivial,?_⟩,fun e=>⟨fun e2=>⟨by trivial,?_⟩,fun e2=>⟨fun e3=>⟨by trivial,?_⟩,fun e3=>⟨fun e4=>⟨by trivial,?_⟩,fun e4=>⟨fun e5=>⟨by trivial,?_⟩,fun e5=>⟨fun e6=>⟨by trivial,?_⟩,fun e6=>⟨by trivial,?_⟩⟩⟩⟩⟩⟩⟩
  all_goals (simp only[aT,aW]at*;simp[*])
 rintro x2 _ ⟨rfl,hx2⟩ _
 refine⟨fun e=> ?_,fun e=> ?_⟩
 ·rw[aJ (hx2.1 e)]at HK;exact HK
 rw[aF (fun h=>by rw[hx2.2 h]at e;cases e)]at HK
 refine⟨fun x h'=>h=h'/\(x=true↔w.data.toList∈XS),?_,?_⟩
 ·rw[mC]
  simp only[NT]
  refine⟨fun e=>⟨by trivial,?_⟩,fun e=>⟨fun e2=>⟨by trivial,?_⟩,fun e2=>⟨fun e3=>⟨by trivial,?_⟩,fun e3=>⟨by trivial,?_⟩⟩⟩⟩
  all_goals (simp only[aT,aW]at*;simp[*])
 rintro x3 _ ⟨rfl,hx3⟩ _
 refine⟨fun e=> ?_,fun e=>⟨fun e2=> ?_,fun e2=>⟨fun e3=> ?_,fun e3=> ?_⟩⟩⟩
 ·rw[aJ (hx3.1 e)]at HK;exact HK
 all_goals rw[aF (fun h=>by rw[hx3.2 h]at e;cases e)]at HK
 ·rw[aJ (show w.data.toList=CQ from eA e2)]at HK;exact HK
 ·rw[aF (show¬w.data.toList=CQ from bM e2),aJ (show w.data.toList=PO from eA e3)]at HK;exact HK
 ·rw[aF (show¬w.data.toList=CQ from bM e2),aF (show¬w.data.toList=PO from bM e3)]at HK;exact HK
set_option maxHeartbeats 2000000 in
theorem TJ{h:Heap}(d1 d2:Sl)(d3:Int){s:ByteArray}(hs:s.size<=3000)(K:aL)
 (HN:Ko (iF 32 s.data.toList)=none->∀(w:ByteArray)(x1 x2:Sl)(x3:Int)(x4 x5:Sl) h',Fr No h h'->K (.tuple #[VS w,.agg #[x1.v,x2.v,VI x3,x4.v,x5.v],VB false]) h')
 (HS:∀r,Ko (iF 32 s.data.toList)=some r->∀(w:ByteArray)(x4 x5:Sl)(S4 S5:aK) h',w.data.toList=(iF 32 s.data.toList).headD []->dE S4 h' x4 r.1->bE S5 h' x5 r.2->(∀k,S4 k\/S5 k->h.size<=k)->Fr No h h'->K (.tuple #[VS w,.agg #[d1.v,d2.v,VI d3,x4.v,x5.v],VB true]) h'):
 aG aB 84 #[.agg #[d1.v,d2.v,VI d3],VS s] h K:=by
 refine v84 d1 d2 d3 s h K fun b1 b2 b3 h4 fw eY jY f4 fi=> ?_
 have f4:=f4.aM
 have z4:=f4.size
 have Zq:b3<h4.size:=fi.head.lt
 have CS:b2<h4.size:=fi.tail.head.lt
 have n2:∀{k:Nat},In [b2] k->k=b2:=fun hk=>by simpa[In]using hk
 have n3:∀{k:Nat},In [b3] k->k=b3:=fun hk=>by simpa[In]using hk
 refine ES 32 (by omega) _ fun t ps h5 oZ T5 f5=>⟨t,rfl,fi.aC f5,?_⟩
 have z5:=f5.size
 have uE:=f4.aA f5
 have T5:=T5.fW.lt
 have hpl:ps.length=(iF 32 s.data.toList).length:=by rw[<-oZ,bB]
 obtain⟨q0,qs,rfl⟩:∃q0 qs,ps=q0::qs:=by
  cases ps with
  |nil=>exact absurd oZ.symm (yQ 32 _)
  |cons a l=>exact⟨a,l,rfl⟩
 have tn:=T5.len
 rw[bB,List.length_cons,fE]at tn
 have NU:=T5.get (i:=0) (by omega) (by simp)
 refine⟨dK.bQ T5 (by omega) (by simp),q0,NU,PD q0 _ fun h6 f6=>⟨_,rfl,(fi.aC f5).aC f6,?_⟩⟩
 have z6:=f6.size
 have A7:=uE.aA f6
 have kU:=(fi.aC f5).aC f6
 have hb:=PC q0.data.toList
 have hR:Ko (iF 32 s.data.toList)=if(fu q0.data.toList).length=qs.length then fW (fu q0.data.toList) (qs.map (·.data.toList)) [] []else none:=by
  rw[<-oZ]
  unfold Ko
  simp only[bJ,List.headD_cons,List.length_cons,bB,List.tail_cons,Nat.add_right_cancel_iff]
 have hhd:(iF 32 s.data.toList).headD []=q0.data.toList:=by rw[<-oZ];rfl
 have ql:qs.length<=3001:=by have:=rQ 32 s.data.toList;have:=kX s;rw[List.length_cons]at hpl;omega
 have e0:aX ((t.n:Int)-1)=(qs.length:Int):=by rw[aP]<;>omega
 have tK:(nA (fu q0.data.toList)).size=(fu q0.data.toList).length:=cT _
 rw[e0,tK]
 refine⟨fun e=>fun h7 f7 _=> ?_,fun e=> ?_⟩
 ·refine HN ?_ _ _ _ _ _ _ _ (A7.fresh f7 fun k hk=>by have:=n2 hk;omega)
  simp only[gE,aW]at e
  rw[hR,aF (by omega)]
 have e:=bS e
 simp only[aT]at e
 have e:(fu q0.data.toList).length=qs.length:=by omega
 rw[aJ e]at hR
 have tc:t.n<=t.c:=T5.cap
 refine jP OR .i64 (l:=1) (by omega) (by omega) ⟨_,rfl,?_⟩
 have T6:dK (fun k=>h4.size<=k/\k<h5.size) h6 1 (t.cut 1 1 t.n t.c) (qs.map VS):=by
  have:=dK.cut (T5.no f6) (l:=1) (m:=t.n) (by omega) (aY _)
  have e:(((q0::qs).map VS).drop (1*1)).take ((t.n-1)*1)=qs.map VS:=by
   simp only[bJ,fE,vj,oq]
   exact cW (by rw[bB];omega)
  rw[e]at this
  exact this
 rw[show(1:Int).toNat=1 from rfl]
 have T5b:=T5.no f6
 generalize t.cut 1 1 t.n t.c=t8 at T6
 have tn8:=T6.len
 rw[bB,fE]at tn8
 obtain⟨R,hRe⟩:∃R,R=Ko (iF 32 s.data.toList):=⟨_,rfl⟩
 rw[<-hRe]at hR HN HS
 refine⟨fun n i x1 x2 x3 x4 x5 h'=>0<=i/\i+n=(qs.length:Int)/\x1=d1/\x2=d2/\x3=d3/\(∃g ns S4 F5,dE S4 h' x4 g/\cM h' F5 x5 ns/\(∀k,F5 k->h6.size<=k/\¬S4 k)/\(∀k,S4 k\/F5 k->h6.size<=k/\k<h'.size)/\ns.length<=i.toNat/\R=fW ((fu q0.data.toList).drop i.toNat) ((qs.map (·.data.toList)).drop i.toNat) g ns)/\Fr (fun k=>k=b3\/h6.size<=k) h6 h',⟨qs.length,by omega,by omega,rfl,rfl,rfl,⟨[],[],No,No,((dO.nil h6 No mW tI).rd.mono fun k hk=>hk.1),Ow.nil _ _ _ _,fun k hk=>hk.elim,fun k hk=>by rcases hk with hk|hk<;>exact hk.elim,by simp,hR⟩,Fr.refl _ _⟩,?_⟩
 rintro n i x1 x2 x3 x4 x5 h8 ⟨i0,i1,rfl,rfl,rfl,⟨g,ns,S4,F5,G,N,w1,w2,nl,hr⟩,F8⟩ gZ
 have z8:=F8.size
 have F08:Fr No h h8:=A7.fresh F8 fun k hk=>by rcases hk with rfl|hk<;>omega
 refine⟨fun e6=> ?_,fun e6=> ?_⟩
 ·simp only[aT]at e6
  have il:i.toNat<qs.length:=by omega
  have il2:i.toNat<(fu q0.data.toList).length:=by omega
  have T8:=T6.fr F8 fun k hk aQ=>by rcases aQ with rfl|aQ<;>omega
  have hc:=T8.get (i:=i) i0 (by simp;omega)
  rw[bV]at hc
  have eI:aX (i+1)=i+1:=by rw[aP]<;>omega
  have eT:(i+1).toNat=i.toNat+1:=by omega
  have ZT:=uY (s:=nA (fu q0.data.toList)) (i:=i.toNat) (by omega) (by rw[show(nA (fu q0.data.toList)).data.toList=fu q0.data.toList from rfl];omega)
  have ZT:(nA (fu q0.data.toList))[i.toNat]'(by omega)=(fu q0.data.toList)[i.toNat]:=ZT
  rw[kM il2,kM (show i.toNat<(qs.map (·.data.toList)).length by simp;omega),bV,fW]at hr
  generalize hcv:(fu q0.data.toList)[i.toNat]=c at hr ZT
  generalize hqv:qs[i.toNat]=q at hr hc
  refine⟨dK.bQ T8 i0 (by simp;omega),q,hc,?_⟩
  refine⟨fun ok y1 y2 y3 y4 y5 h'=>y1=x1/\y2=x2/\y3=x3/\Fr (fun k=>k=b3\/h6.size<=k) h6 h'/\(ok=false->R=none)/\(ok=true->∃g ns S4 F5,dE S4 h' y4 g/\cM h' F5 y5 ns/\(∀k,F5 k->h6.size<=k/\¬S4 k)/\(∀k,S4 k\/F5 k->h6.size<=k/\k<h'.size)/\ns.length<=i.toNat+1/\R=fW ((fu q0.data.toList).drop (i.toNat+1)) ((qs.map (·.data.toList)).drop (i.toNat+1)) g ns),mF (by kernel_rfl) _ _ i i0 (by omega) ⟨_,rfl,?_⟩,?_⟩
  ·rw[ZT]
   refine⟨fun e7=> ?_,fun e7=>⟨fun e8=> ?_,fun e8=> ?_⟩⟩
   ·simp only[aT]at e7
    have e7:c=110:=wk.1 (by show c.toNat=110;omega)
    rw[aJ e7]at hr
    refine TI q _ fun h9 f9=>⟨_,rfl,gZ.aC f9,?_⟩
    have z9:=f9.size
    refine oQ (F:=fun k=>F5 k\/h9.size<=k) (Ow.mono (Ow.no N f9) fun k _ hk=> .inl hk) (fun k hk=> .inr hk) (gZ.aC f9) (fun p hp hk=> ?_) (by omega) _ fun t5 jq mD f11 iN iC f12 _=> ?_
    ·have:p.1<h4.size:=by
      simp only[aO,aS,aN]at hp
      rcases hp with rfl|rfl|rfl
      ·exact Zq
      ·exact CS
      ·exact fi.tail.tail.head.lt
     rcases hk with hk|hk
     ·have:=(w1 _ hk).1;omega
     ·omega
    have Uc:=f11.size
    have z12:=f12.size
    refine⟨rfl,rfl,rfl,((F8.trans f9.aC).trans (f11.mono fun k _ hk=>by rcases hk with hk|hk;exact .inr (w1 _ hk).1;exact .inr (by omega))).trans (f12.mono fun k _ hk=> .inl (n3 hk)),fun e8=> ?_,fun e8=> ?_⟩
    ·simp only[aW]at e8
     cases YN:px q.data.toList with
     |none=>rw[YN]at hr;exact hr
     |some m=>rw[YN]at e8;exact absurd (Int.natCast_nonneg m) e8
    ·simp only[aT]at e8
     cases YN:px q.data.toList with
     |none=>rw[YN]at e8;exact absurd e8 (by decide)
     |some m=>
      rw[YN]at hr mD
      refine⟨g,ns++[(m:Int)],S4,fun k=>(F5 k\/h9.size<=k)/\k<iC.size,?_,?_,fun k hk=> ?_,fun k hk=> ?_,by rw[bT,List.length_singleton];omega,hr⟩
      ·refine((G.no f9).fr f11 fun k hk aQ=> ?_).fr f12 fun k hk aQ=> ?_
       ·rcases aQ with aQ|aQ
        ·exact(w1 _ aQ).2 hk
        ·have:=(w2 _ (.inl hk)).2;omega
       ·have:=(w2 _ (.inl hk)).1;have:=n3 aQ;omega
      ·exact Ow.mono (Ow.fr mD f12 fun k hk aQ=>by
        have h1:=(mD.aR hk).1
        have:=n3 aQ
        rcases h1 with h1|h1
        ·have:=(w1 _ h1).1;omega
        ·omega) fun k hk hF=>⟨hF,fp (mD.aR hk).2 z12⟩
      ·rcases hk.1 with hk|hk
       ·exact w1 _ hk
       ·exact⟨by omega,fun hx=>by have:=(w2 _ (.inl hx)).2;omega⟩
      ·rcases hk with hk|⟨hk,mX⟩
       ·have:=w2 _ (.inl hk);omega
       ·rcases hk with hk|hk
        ·have:=w2 _ (.inr hk);omega
        ·omega
   ·simp only[aT,aW]at e7 e8
    have e7:¬c=110:=fun h=>e7 (by rw[h];rfl)
    have e8:c=103:=wk.1 (by show c.toNat=103;omega)
    rw[aF e7,aJ e8]at hr
    refine OX _ fun t4 tO OY f13=>⟨_,_,rfl,gZ.aC f13,fun K1 f14 _=> ?_⟩
    have z13:=f13.size
    have z14:=f14.size
    refine⟨rfl,rfl,rfl,(F8.trans f13.aC).trans (f14.mono fun k _ hk=> .inl (n3 hk)),fun e9=> ?_,fun e9=> ?_⟩
    ·unfold tS at e9
     split at e9
     ·cases e9
     ·rename_i hp
      rw[hp]at hr
      exact hr
    ·unfold tS at e9 OY
     split at e9
     ·rename_i g' hp
      rw[hp]at hr OY
      refine⟨g',ns,Iv h8.size tO.size,F5,(OY.fr f14 fun k _ hk aQ=>by have:=hk.1;have:=n3 aQ;omega).rd.mono fun k hk=>hk.1,Ow.fr (Ow.no N f13) f14 fun k hk aQ=> ?_,fun k hk=>⟨(w1 _ hk).1,fun hx=> ?_⟩,fun k hk=> ?_,by omega,hr⟩
      ·have:=(w1 _ (N.aR hk).1).1;have:=n3 aQ;omega
      ·have:=(w2 _ (.inr hk)).2;have:=hx.1;omega
      ·rcases hk with hk|hk
       ·have:=hk.1;have:=hk.2;omega
       ·have:=w2 _ (.inr hk);omega
     ·cases e9
   ·simp only[aW]at e7 e8
    have e7:¬c=110:=fun h=>e7 (by rw[h];rfl)
    have e8:¬c=103:=fun h=>e8 (by rw[h];rfl)
    rw[aF e7,aF e8]at hr
    exact⟨rfl,rfl,rfl,F8,fun _=>hr,fun e=>by cases e⟩
  ·rintro ok y1 y2 y3 y4 y5 Vr ⟨rfl,rfl,rfl,F15,k1,k2⟩ _
   refine⟨fun e9=>fun Ud f16 _=> ?_,fun e9=> ?_⟩
   ·exact HN (k1 (bU e9)) _ _ _ _ _ _ _ ((A7.fresh F15 fun k hk=>by rcases hk with rfl|hk<;>omega).fresh f16 fun k hk=>by have:=n2 hk;omega)
   ·rw[eI]
    refine⟨n-1,by omega,by omega,by omega,rfl,rfl,rfl,?_,F15⟩
    rw[eT]
    exact k2 (bS e9)
 ·simp only[aW]at e6
  have T8:=(T5b.fr F8 fun k hk aQ=>by rcases aQ with rfl|aQ<;>omega)
  have hc:=T8.get (i:=0) (by omega) (by simp)
  rw[rT (by omega),rT (by simp;omega)]at hr
  refine⟨dK.bQ T8 (by omega) (by simp),q0,hc,fun h17 f17 _=> ?_⟩
  have z17:=f17.size
  refine HS _ hr q0 x4 x5 S4 (fun k=>F5 k/\k<h8.size) h17 hhd.symm (G.fr f17 fun k hk aQ=> ?_) ((Ow.fr N f17 fun k hk aQ=> ?_).fW.mono fun k hk=>⟨hk,(w2 _ (.inr hk)).2⟩) (fun k hk=> ?_) (F08.fresh f17 fun k hk=>by have:=n2 hk;omega)
  ·have:=(w2 _ (.inl hk)).1;have:=n2 aQ;omega
  ·have:=(w1 _ (N.aR hk).1).1;have:=n2 aQ;omega
  ·rcases hk with hk|hk
   ·have:=(w2 _ (.inl hk)).1;omega
   ·have:=(w2 _ (.inr hk.1)).1;omega
def Hy(Z:aK)(h:Heap)(g w:Sl)(d:Dk):Prop:=∃S S',dE S h g d.1/\bE S' h w d.2.1/\(∀k,S k\/S' k->¬Z k/\k<h.size)
theorem Hy.of{Z S S':aK}{h:Heap}{g w:Sl}{d:Dk}(G:dE S h g d.1)(W:bE S' h w d.2.1)(hS:∀k,S k\/S' k->k<h.size->¬Z k):Hy Z h g w d:=⟨fun k=>S k/\k<h.size,fun k=>S' k/\k<h.size,G.wH,dK.lt W,fun k hk=>by
 rcases hk with hk|hk
 ·exact⟨hS k (.inl hk.1) hk.2,hk.2⟩
 ·exact⟨hS k (.inr hk.1) hk.2,hk.2⟩⟩
theorem Hy.fr{Z T:aK}{h h':Heap}{g w:Sl}{d:Dk}(D:Hy Z h g w d)(f:Fr T h h')(hT:∀k,T k->Z k\/h.size<=k):Hy Z h' g w d:=by
 obtain⟨S,S',G,W,q⟩:=D
 have key:∀k,S k\/S' k->¬T k:=fun k hk h2=>by
  have:=q k hk
  rcases hT k h2 with h3|h3
  ·exact this.1 h3
  ·omega
 exact⟨S,S',G.fr f fun k hk=>key k (.inl hk),bE.fr W f fun k hk=>key k (.inr hk),fun k hk=>⟨(q k hk).1,fp (q k hk).2 f.size⟩⟩
def noR:List UInt8:=[110,111]
def tY(d:Dk)(a:tC):Dk×List UInt8:=adF d (some a)
theorem CY{h:Heap}{b1:Nat}{g w x4 x5 w1:Sl}{p0 p1:Int}{aI:aE}{rs:aH}{S S':aK}{ok:Bool}(V:Vars h [(b1,[g.v,w.v,VI p0,x4.v,x5.v])])(G:dE S h g aI)(W:bE S' h w1 rs)(hS:∀k,S k\/S' k->k≠b1)(K:aL)
 (HN:(ok&&fS aI rs p1)=false->∀h',Fr No h h'->K (VS ⟨noR.toArray⟩) h')
 (HS:ok=true->fS aI rs p1=true->∀h',Vars h' [(b1,[g.v,w1.v,VI p1,x4.v,x5.v])]->Fr (fun k=>k=b1) h h'->K (VS ⟨(qD (rs,p1)).toArray⟩) h'):aG aB 127 #[VP b1 0,.agg #[w1.v,VI p1],VB ok] h K:=by
 have lb:=V.head.lt
 refine v127 b1 g w p0 x4 x5 w1 p1 ok h K V ⟨fun e=>fun b2 h1 eY f1 _=> ?_,fun e=>fun b2 h1 eY f1 cU=> ?_⟩
 ·exact HN (by rw[bU e];rfl) _ f1.aM
 have f1:=f1.aM
 have e:=bS e
 refine gJ (G.no f1) (bE.no W f1) p1 _ fun h2 f2=>⟨_,rfl,cU.aC f2,fun e2=> ?_,fun e2=>fun h3 f3 dA=> ?_⟩
 ·exact HN (by rw[bU e2,Bool.and_false]) _ (f1.aA f2)
 have e2:=bS e2
 have n1:∀{k:Nat},In [b1] k->k=b1:=fun hk=>by simpa[In]using hk
 have ws:=iI (eD e2)
 have IK:=f1.aA f2
 have W3:=bE.fr (bE.no W IK) f3 fun k hk aQ=>hS k (.inr hk) (n1 aQ)
 refine J4 W3 (by have:=ws.2;simp only at this;omega) (fun x hx=>by have:=ws.1 x hx;omega) (by have:=ws.2.2.2;simp only at this;omega) _ fun h4 f4=>⟨_,rfl,dA.aC f4,?_⟩
 exact HS e e2 _ (bR (L:=[_]) (dA.aC f4)) ((IK.aC.trans (f3.mono fun k _ hk=>n1 hk)).trans f4.aC)
def zr(d:Dk)(w:List UInt8)(g4:aE)(ns:aH)(a:tC):Prop:=
 (w=PO/\aZ g4=true/\a=some ((g4,(List.replicate g4.length 0,0)),wx g4))\/(w=[97,100,100]/\∃p q:Int,ns=[p,q]/\a=YD d p q)\/(w=[97,116]/\∃n:Int,0<=n/\ns=[n]/\a=XF d n)\/(w=[116,117,114,110]/\∃p k:Int,0<=p/\0<=k/\ns=[p,k]/\a=Tw d p k)\/(w=[115,116,101,112]/\a=stC d)\/(w=[114,117,110]/\∃n:Int,ns=[n]/\a=rnC d n)
set_option maxHeartbeats 4000000 in
theorem XT{h:Heap}{Z:aK}(hZ:∀k,Z k->k<h.size){b1:Nat}(zb:Z b1){g w x4 x5:Sl}{d:Dk}(V:Vars h [(b1,[g.v,w.v,VI d.2.2,x4.v,x5.v])])(D:Hy Z h g w d)(ok:pz d){g4:aE}{ns:aH}{S4 S5:aK}(G4:dE S4 h x4 g4)(N5:bE S5 h x5 ns)(h45:∀k,S4 k\/S5 k->¬Z k){s:ByteArray}{a:tC}(M:zr d s.data.toList g4 ns a)(K:aL)
 (HK:∀(y1 y2 y4 y5:Sl) h',Hy Z h' y1 y2 (tY d a).1->Vars h' [(b1,[y1.v,y2.v,VI (tY d a).1.2.2,y4.v,y5.v])]->Fr (fun k=>k=b1\/h.size<=k) h h'->K (VS ⟨(tY d a).2.toArray⟩) h'):aG aB 85 #[VP b1 0,VS s] h K:=by
 have lb:=V.head.lt
 have dl:=tD ok
 have WK:=eD ok
 have wl:d.2.1.length=d.1.length:=WK.len
 have n1:∀{b k:Nat},In [b] k->k=b:=fun hk=>by simpa[In]using hk
 refine v85 b1 g w d.2.2 x4 x5 s h K V ?_
 refine⟨fun c2 y1 c3 y2 y3 h'=>g=y1/\w=y2/\d.2.2=y3/\Fr (fun k=>h.size<=k) h h',⟨fun c4 h1 hc4 f1 _ c5 h2 hc5 f2 _ h3 f3 _ h4 f4 _=>⟨rfl,rfl,rfl,?_⟩,fun c6 h1 hc6 f1 _ c7 h2 hc7 f2 _ h3 f3 _ h4 f4 _=>⟨rfl,rfl,rfl,?_⟩⟩,?_⟩
 ·have:=f1.size
  exact(((f1.aM.aC).trans f2.aM.aC).trans (f3.mono fun k _ hk=>by have:=n1 hk;omega)).trans (f4.mono fun k _ hk=>by have:=n1 hk;omega)
 ·have:=f1.size
  exact(((f1.aM.aC).trans f2.aM.aC).trans (f3.mono fun k _ hk=>by have:=n1 hk;omega)).trans (f4.mono fun k _ hk=>by have:=n1 hk;omega)
 rintro c2 _ c3 _ _ h9 ⟨rfl,rfl,rfl,F9⟩ gM
 have z9:=F9.size
 have D9:=D.fr F9 fun k hk=> .inr hk
 have G9:=G4.wH.fr F9 fun k hk aQ=>by have:=hk.2;omega
 have N9:=bE.fr (dK.lt N5) F9 fun k hk aQ=>by have:=hk.2;omega
 have keep:∀{h':Heap},Fr No h9 h'->(tY d a)=(d,noR)->K (VS ⟨noR.toArray⟩) h':=fun f e=>by
  have:=HK _ _ x4 x5 _ (by rw[e];exact D9.fr f fun k hk=>hk.elim) (by rw[e];exact bR (L:=[_,_]) (gM.aC f)) ((F9.mono fun k _ hk=> .inr hk).trans f.aC)
  rw[e]at this
  exact this
 have wd:∀{X:Heap}{t:Sl}{r:St×Bool}{S:aK},PP d.1 r->bE S X t r.1.1->(∀k,S k->k≠b1/\¬Z k)->Fr No h9 X->a=EO d r->aG aB 127 #[VP b1 0,.agg #[t.v,VI r.1.2],VB r.2] X fun rv Kn=>∃x6:Sl,∃x7:Sl,∃x8:Int,∃x9:Sl,∃QX:Sl,∃t84:ByteArray,rv=VS t84/\Vars Kn [(c3,[w.v,VI d.2.2]),(c2,[g.v]),(b1,[x6.v,x7.v,VI x8,x9.v,QX.v])]/\K (VS t84) Kn:=fun{X t r S} B T hS fX ea=>by
  obtain⟨Sg,Sw,G,W,q⟩:=D9.fr fX fun k hk=>hk.elim
  refine CY (bR (L:=[_,_]) (gM.aC fX)) G T (fun k hk=>by
   rcases hk with hk|hk
   ·exact fun e=>(q k (.inl hk)).1 (e▸zb)
   ·exact(hS k hk).1) _ (fun e h' f'=> ?_) fun e1 e2 h' V' f'=> ?_
  ·refine⟨g,w,d.2.2,x4,x5,_,rfl,(gM.aC fX).aC f',keep (fX.aA f') ?_⟩
   have:r.2=false:=by
    cases hr:r.2 with
    |false=>rfl
    |true=>rw[hr,fc]at e;rw[nz (B.ok hr)]at e;cases e
   rw[ea,EO,aF (by rw[this];exact qm)]
   rfl
  ·have e:tY d a=((d.1,r.1),qD r.1):=by rw[ea,EO,aJ e1];rfl
   refine⟨g,t,r.1.2,x4,x5,_,rfl,(gM.aC fX).set (i:=2) rfl f' V'.head,?_⟩
   have:=HK g t x4 x5 h' (by
    rw[e]
    exact Hy.of (G.fr f' fun k hk aQ=>(q k (.inl hk)).1 (aQ▸zb)) (bE.fr T f' fun k hk aQ=>(hS k hk).1 aQ) fun k hk _=>by
     rcases hk with hk|hk
     ·exact(q k (.inl hk)).1
     ·exact(hS k hk).2) (by rw[e];exact V') ((F9.mono fun k _ hk=> .inr hk).trans (fX.aC.trans (f'.mono fun k _ hk=> .inl hk)))
   rw[e]at this
   exact this
 have frs:∀{X:Heap}{S:aK},(∀k,S k->h9.size<=k)->∀k,S k->k≠b1/\¬Z k:=fun hS k hk=>by
  have:=hS k hk
  exact⟨by omega,fun hz=>by have:=hZ k hz;omega⟩
 refine⟨fun e=> ?_,fun e=>⟨fun e2=> ?_,fun e2=>⟨fun e3=> ?_,fun e3=>⟨fun e4=> ?_,fun e4=>⟨fun e5=> ?_,fun e5=> ?_⟩⟩⟩⟩⟩
 ·rcases M with⟨hw,M⟩|⟨hw,M⟩|⟨hw,M⟩|⟨hw,M⟩|⟨hw,M⟩|⟨hw,M⟩
  all_goals first|exact absurd (hw.symm.trans (eA e)) (by decide)|skip
  obtain⟨hg,ea⟩:=M
  have e0:tY d a=((g4,(List.replicate g4.length 0,0)),wx g4):=by rw[ea];rfl
  have gl:=bD hg
  have gn:=G9.len
  refine fO gH (fun k=>h9.size<=k) (fun _ h=>h) .i64 .i64 x4.n x4.n (aY _) (by omega) fun t fa U9 c10 nC f10 m10 _=>⟨t,rfl,gM.aC f10,fun jq f11 iN=> ?_⟩
  have zM:=f10.size
  have Vp:cM fa (fun k=>h9.size<=k) t (List.replicate g4.length 0):=by show Ow _ _ _ _ _ _;rw[gn]at nC;simpa using nC
  have hz:∀k,(S4 k/\k<h.size)->k≠b1:=fun k hk e=>h45 k (.inl hk.1) (e▸zb)
  have XD:=(G9.no f10).fr f11 fun k hk aQ=>hz k hk (n1 aQ)
  have T11:=Ow.fr Vp f11 fun k hk aQ=>by have:=(Vp.aR hk).1;have:=n1 aQ;omega
  refine rV XD (kY hg) _ fun iC f12=>⟨_,rfl,iN.aC f12,?_⟩
  have:=HK x4 t x4 x5 iC (by
   rw[e0]
   exact Hy.of (XD.no f12) (bE.no T11.fW f12) fun k hk _=>by
    rcases hk with hk|hk
    ·exact h45 k (.inl hk.1)
    ·exact fun hz=>by have:=hZ k hz;omega) (by rw[e0];exact bR (L:=[_,_]) (iN.aC f12)) ((((F9.mono fun k _ hk=> .inr hk).trans f10.aC).trans (f11.mono fun k _ hk=> .inl (n1 hk))).trans f12.aC)
  rw[e0]at this
  exact this
 ·rcases M with⟨hw,M⟩|⟨hw,M⟩|⟨hw,M⟩|⟨hw,M⟩|⟨hw,M⟩|⟨hw,M⟩
  all_goals first|exact absurd (hw.symm.trans (eA e2)) (by decide)|skip
  obtain⟨p,q,rfl,ea⟩:=M
  have NU:bG h9 (x5.at 0 1)=some (VI p):=N9.get (i:=0) (by omega) (by simp)
  have hc1:bG h9 (x5.at 1 1)=some (VI q):=N9.get (i:=1) (by omega) (by simp)
  obtain⟨Sg,Sw,G,W,qq⟩:=D9
  refine⟨fun bb c8 t h'=>bb=(jx d.1 p q).2/\ia h' (fun k=>h9.size<=k) t (jx d.1 p q).1/\Fr (fun k=>h9.size<=k) h9 h',⟨N9.bQ (by omega) (by simp),p,NU,N9.bQ (by omega) (by simp),q,hc1,?_,?_⟩,?_⟩
  ·refine rD G p q _ fun t tO OY f13=>⟨t,_,rfl,gM.aC f13,fun c9 Vr _ f15 _=>⟨rfl,(OY.no f15.aM).mono fun k _ hk=>hk.1,(f13.aA f15.aM).aC⟩⟩
  ·intro c10 Ud aon f16 Dm
   have f16:=f16.aM
   have z16:=f16.size
   refine⟨eJ hc1 f16 fun h=>h,eJ NU f16 fun h=>h,rD (G.no f16) p q _ fun t h17 o17 f17=>⟨t,_,rfl,Dm.aC f17,fun h18 f18 _=>⟨rfl,?_,?_⟩⟩⟩
   ·have l10:=Dm.head.lt
    exact(o17.fr f18 fun k _ hk aQ=>by have:=hk.1;have:=n1 aQ;omega).mono fun k _ hk=>by have:=hk.1;omega
   ·exact(f16.aA f17).aC.trans (f18.mono fun k _ hk=>by have:=n1 hk;omega)
  ·rintro _ c8 t K3 ⟨rfl,T19,YG⟩ wY
   have z19:=YG.size
   refine⟨fun e9=> ?_,fun e9 ZK f20 Rf=> ?_⟩
   ·have e0:tY d a=(d,noR):=by rw[ea,YD,aF (by rw[bU e9];exact qm)];rfl
    have:=HK g w x4 x5 K3 (by rw[e0];exact Hy.fr ⟨Sg,Sw,G,W,qq⟩ YG fun k hk=> .inr hk) (by rw[e0];exact bR (L:=[_,_,_]) wY) ((F9.mono fun k _ hk=> .inr hk).trans (YG.mono fun k _ hk=> .inr (by omega)))
    rw[e0]at this
    exact this
   ·have hb:=bS e9
    have e0:tY d a=(((jx d.1 p q).1,d.2),wx (jx d.1 p q).1):=by rw[ea,YD,aJ hb];rfl
    have T20:=T19.fr f20 fun k _ hk aQ=>by have:=n1 aQ;omega
    have W20:=bE.fr (bE.fr W YG fun k hk aQ=>by have:=(qq k (.inr hk)).2;omega) f20 fun k hk aQ=>(qq k (.inr hk)).1 (n1 aQ▸zb)
    refine rV T20.rd (kY (Hn hb)) _ fun ZL f21=>⟨_,rfl,Rf.aC f21,?_⟩
    have:=HK t w x4 x5 ZL (by
     rw[e0]
     exact Hy.of (T20.rd.no f21) (bE.no W20 f21) fun k hk _=>by
      rcases hk with hk|hk
      ·exact fun hz=>by have:=hZ k hz;have:=hk.1;omega
      ·exact(qq k (.inr hk)).1) (by rw[e0];exact bR (L:=[_,_,_]) (Rf.aC f21)) ((((F9.mono fun k _ hk=> .inr hk).trans (YG.mono fun k _ hk=> .inr (by omega))).trans (f20.mono fun k _ hk=> .inl (n1 hk))).trans f21.aC)
    rw[e0]at this
    exact this
 ·rcases M with⟨hw,M⟩|⟨hw,M⟩|⟨hw,M⟩|⟨hw,M⟩|⟨hw,M⟩|⟨hw,M⟩
  all_goals first|exact absurd (hw.symm.trans (eA e3)) (by decide)|skip
  obtain⟨n,n0,rfl,ea⟩:=M
  have NU:bG h9 (x5.at 0 1)=some (VI n):=N9.get (i:=0) (by omega) (by simp)
  obtain⟨Sg,Sw,G,W,qq⟩:=D9
  refine⟨N9.bQ (by omega) (by simp),n,NU,?_⟩
  by_cases hb:(aZ d.1&&jX 0 ((d.1.length:Int)-1) n)=true
  ·have hn:=cA.1 (l8.1 hb).2
   have B:=PP.of (NR WK n0 (show n<(d.1.length:Int) by omega)) true
   exact wd (t:=w) (r:=((d.2.1,n),true)) B W (fun k hk=>⟨fun e=>(qq k (.inr hk)).1 (e▸zb),(qq k (.inr hk)).1⟩) (Fr.refl _ _) (by rw[ea,XF,hb])
  ·refine CY (bR (L:=[_,_]) gM) G W (fun k hk e=>(qq k hk).1 (e▸zb)) _ (fun _ h' f'=>⟨g,w,d.2.2,x4,x5,_,rfl,gM.aC f',keep f' (by rw[ea,XF,EO,aF hb];rfl)⟩) fun _ e2=>absurd ?_ hb
   have W2:=eD e2
   have h1:=W2.lo
   have h2:=W2.hi
   simp only at h1 h2
   rw[W2.cN,fc]
   exact cA.2 ⟨h1,by omega⟩
 ·rcases M with⟨hw,M⟩|⟨hw,M⟩|⟨hw,M⟩|⟨hw,M⟩|⟨hw,M⟩|⟨hw,M⟩
  all_goals first|exact absurd (hw.symm.trans (eA e4)) (by decide)|skip
  obtain⟨p,k,p0,k0,rfl,ea⟩:=M
  have NU:bG h9 (x5.at 0 1)=some (VI p):=N9.get (i:=0) (by omega) (by simp)
  have hc1:bG h9 (x5.at 1 1)=some (VI k):=N9.get (i:=1) (by omega) (by simp)
  obtain⟨Sg,Sw,G,W,qq⟩:=D9
  refine⟨N9.bQ (by omega) (by simp),p,NU,dY G p _ fun Ug f23=>⟨_,rfl,gM.aC f23,fun e9=>keep f23 ?_,fun e9=> ?_⟩⟩
  ·rw[ea,Tw,EO,aF (by rw[bU e9,gI];exact qm)];rfl
  have e9:=bS e9
  have hp:=cA.1 (l8.1 e9).2
  have N23:=N9.no f23
  obtain⟨si,c1,r1⟩:=(G.no f23).get (i:=p) p0 (by omega)
  have rn:=r1.len
  have eg:d.1.getD p.toNat []=d.1[p.toNat]'(by omega):=bH (by omega)
  refine⟨N23.bQ (by omega) (by simp),k,eJ hc1 f23 fun h=>h,N23.bQ (by omega) (by simp),p,eJ NU f23 fun h=>h,(G.no f23).bQ p0 (by omega),si,c1,fun e10=>keep f23 ?_,fun e10=> ?_⟩
  ·simp only[aT]at e10
   rw[ea,Tw,EO,aF (fun hh=>by have:=cA.1 (l8.1 hh).2;rw[eg]at this;omega)];rfl
  simp only[aW]at e10
  refine sW (bE.no W f23) (by omega) _ fun t h24 o24 f24=>⟨t,rfl,(gM.aC f23).aC f24,?_⟩
  have f0:=f23.aA f24
  have N24:=N23.no f24
  have z23:=f23.size
  have z24:=f24.size
  refine⟨N24.bQ (by omega) (by simp),p,N24.get (i:=0) (by omega) (by simp),N24.bQ (by omega) (by simp),k,N24.get (i:=1) (by omega) (by simp),?_⟩
  refine iQ o24 p0 (by omega) (gM.aC f0) (fun q hq hk=> ?_) _ fun Kk O25 F25 Oy=> ?_
  ·have h1:=hk.1
   have:q.1<h9.size:=by
    simp only[aO,aS,aN]at hq
    rcases hq with rfl|rfl|rfl
    ·exact gM.head.lt
    ·exact gM.tail.head.lt
    ·exact gM.tail.tail.head.lt
   omega
  have z25:=F25.size
  have ag3:Fr (fun k=>h9.size<=k) h9 Kk:=f0.aC.trans (F25.mono fun k _ hk=>by have:=hk.1;omega)
  have QB:(aZ d.1&&jX 0 ((d.1.length:Int)-1) p&&jX 0 (((d.1.getD p.toNat []).length:Int)-1) k)=true:=by
   rw[e9,fc,eg]
   exact cA.2 ⟨k0,by omega⟩
  have WO:iV d.1 (d.2.1.set p.toNat k,d.2.2):=J7 WK (by omega) k0 (by omega)
  have e0:tY d a=((d.1,(d.2.1.set p.toNat k,d.2.2)),qD (d.2.1.set p.toNat k,d.2.2)):=by rw[ea,Tw,EO,aJ QB];rfl
  have G25:=G.fr ag3 fun k hk aQ=>by have:=(qq k (.inl hk)).2;omega
  refine CY (bR (L:=[_,_]) Oy) G25 O25.fW (fun k hk e=> ?_) _ (fun e h' f'=> ?_) fun _ _ h' V' f'=> ?_
  ·rcases hk with hk|hk
   ·exact(qq k (.inl hk)).1 (e▸zb)
   ·have:=hk.1;omega
  ·rw[nz WO]at e
   cases e
  ·refine⟨g,t,d.2.2,x4,x5,_,rfl,Oy.set (i:=2) rfl f' V'.head,?_⟩
   have:=HK g t x4 x5 h' (by
    rw[e0]
    refine Hy.of (G25.fr f' fun k hk aQ=>(qq k (.inl hk)).1 (aQ▸zb)) (Ow.fW (Ow.fr O25 f' fun k hk aQ=>by have:=(O25.aR hk).1.1;omega)) fun k hk _=> ?_
    rcases hk with hk|hk
    ·exact(qq k (.inl hk)).1
    ·exact fun hz=>by have:=hZ k hz;have:=hk.1;omega) (by rw[e0];exact V') (((F9.mono fun k _ hk=> .inr hk).trans (ag3.mono fun k _ hk=> .inr (by omega))).trans (f'.mono fun k _ hk=> .inl hk))
   rw[e0]at this
   exact this
 ·rcases M with⟨hw,M⟩|⟨hw,M⟩|⟨hw,M⟩|⟨hw,M⟩|⟨hw,M⟩|⟨hw,M⟩
  all_goals first|exact absurd (hw.symm.trans (eA e5)) (by decide)|skip
  obtain⟨Sg,Sw,G,W,qq⟩:=D9
  exact Di G W d.2.2 _ fun t Vc QY f27=>⟨t,_,_,rfl,gM.aC f27,wd (tF _ _ _ _) QY.fW (frs (X:=Vc) fun k hk=>hk.1) f27 M⟩
 ·rcases M with⟨hw,M⟩|⟨hw,M⟩|⟨hw,M⟩|⟨hw,M⟩|⟨hw,M⟩|⟨hw,M⟩
  all_goals first|exact absurd hw (bM e)|exact absurd hw (bM e2)|exact absurd hw (bM e3)|exact absurd hw (bM e4)|exact absurd hw (bM e5)|skip
  obtain⟨n,rfl,ea⟩:=M
  have NU:bG h9 (x5.at 0 1)=some (VI n):=N9.get (i:=0) (by omega) (by simp)
  obtain⟨Sg,Sw,G,W,qq⟩:=D9
  exact⟨N9.bQ (by omega) (by simp),n,NU,FA G W d.2.2 n _ fun t Vc QY f27=>⟨t,_,_,rfl,gM.aC f27,wd (tF _ _ _ _) QY.fW (frs (X:=Vc) fun k hk=>hk.1) f27 ea⟩⟩
def py(d:Dk)(w:List UInt8)(ns:aH)(a:tC):Prop:=
 (w=[115,104,111,119]/\a=some (d,wx d.1))\/(w=[119,97,108,107]/\a=some (d,qD d.2))\/(w=[112,97,115,115]/\∃n:Int,ns=[n]/\a=psC d n)\/(w=[118,105,115,105,116,115]/\∃n:Int,ns=[n]/\a=vsC d n)\/(w=[104,105,116]/\∃n:Int,ns=[n]/\a=htC d n)\/(w=[112,101,114,105,111,100]/\a=prC d)\/(w=[116,114,101,101,115]/\∃n:Int,ns=[n]/\a=tsC d n)\/(w=[99,121,99,108,101]/\a=cyC d)\/(w=[99,104,97,110,99,101]/\∃p q:Int,ns=[p,q]/\a=chC d p q)\/(w=[102,117,108,108]/\∃n:Int,ns=[n]/\a=flC d n)\/(w=CQ/\∃p q r s:Int,ns=[p,q,r,s]/\a=esC d p q r s)\/(w=[103,114,111,119]/\∃p q:Int,ns=[p,q]/\a=gwC d p q)
theorem kD(d:Dk){c:Prop} [Decidable c](t:List UInt8):tY d (if c then some (d,t)else none)=(d,if c then t else noR):=by
 by_cases h:c
 ·rw[aJ h,aJ h];rfl
 ·rw[aF h,aF h];rfl
theorem XU{d:Dk}{w:List UInt8}{ns:aH}{a:tC}(M:py d w ns a):(tY d a).1=d:=by
 rcases M with⟨_,rfl⟩|⟨_,rfl⟩|⟨_,n,_,rfl⟩|⟨_,n,_,rfl⟩|⟨_,n,_,rfl⟩|⟨_,rfl⟩|⟨_,n,_,rfl⟩|⟨_,rfl⟩|⟨_,p,q,_,rfl⟩|⟨_,n,_,rfl⟩|⟨_,p,q,r,s,_,rfl⟩|⟨_,p,q,_,rfl⟩
 ·rfl
 ·rfl
 ·exact congrArg Prod.fst (kD d _)
 ·exact congrArg Prod.fst (kD d _)
 ·exact congrArg Prod.fst (kD d _)
 ·exact congrArg Prod.fst (kD d _)
 ·exact congrArg Prod.fst (kD d _)
 ·exact congrArg Prod.fst (kD d _)
 ·exact congrArg Prod.fst (kD d _)
 ·exact congrArg Prod.fst (kD d _)
 ·exact congrArg Prod.fst (kD d _)
 ·exact congrArg Prod.fst (kD d _)
theorem tJ{d:Dk}{X h9:Heap}{L:List (Nat×List Value)}(hL:Vars X L){t:Sl}{S:aK}{r:aH×Bool}(B:Mb r)(H:bE S X t r.1)(fX:Fr No h9 X){K:aL}(HK:∀h',Fr No h9 h'->K (VS ⟨(tY d (Tu d r)).2.toArray⟩) h'):aG aB 131 #[t.v,VB r.2] X fun rv h'=>∃t':ByteArray,rv=VS t'/\Vars h' L/\K (VS t') h':=by
 refine Tx (fun _=>H) (fun _=>B.b) (fun _=>B.n) _ fun h' f'=>⟨_,rfl,hL.aC f',?_⟩
 have:=HK h' (fX.aA f')
 rw[Tu,kD]at this
 exact this
theorem Mf{d:Dk}{X h9:Heap}{L:List (Nat×List Value)}(hL:Vars X L){r:Int×Bool}(B:NtB r)(fX:Fr No h9 X){K:aL}(HK:∀h',Fr No h9 h'->K (VS ⟨(tY d (YC d r)).2.toArray⟩) h'):aG aB 134 #[VI r.1,VB r.2] X fun rv h'=>∃t':ByteArray,rv=VS t'/\Vars h' L/\K (VS t') h':=by
 refine Ma (fun _=>B) _ fun h' f'=>⟨_,rfl,hL.aC f',?_⟩
 have:=HK h' (fX.aA f')
 rw[YC,kD]at this
 exact this
set_option maxHeartbeats 4000000 in
theorem XV{h:Heap}{b1:Nat}{g w x4 x5:Sl}{d:Dk}{S S' S5:aK}(V:Vars h [(b1,[g.v,w.v,VI d.2.2,x4.v,x5.v])])(G:dE S h g d.1)(W:bE S' h w d.2.1)(ok:pz d){ns:aH}(N5:bE S5 h x5 ns){s:ByteArray}{a:tC}(M:py d s.data.toList ns a)(K:aL)
 (HK:∀h',Fr No h h'->K (VS ⟨(tY d a).2.toArray⟩) h'):aG aB 86 #[VP b1 0,VS s] h K:=by
 have dl:=tD ok
 have WK:=eD ok
 have ws:=iI WK
 simp only at ws
 have n1:∀{b k:Nat},In [b] k->k=b:=fun hk=>by simpa[In]using hk
 refine v86 b1 g w d.2.2 x4 x5 s h K V ?_
 refine⟨fun c2 y1 c3 y2 y3 h'=>g=y1/\w=y2/\d.2.2=y3/\Fr (fun k=>h.size<=k) h h',⟨fun c4 h1 hc4 f1 _ c5 h2 hc5 f2 _ h3 f3 _ h4 f4 _=>⟨rfl,rfl,rfl,?_⟩,fun c6 h1 hc6 f1 _ c7 h2 hc7 f2 _ h3 f3 _ h4 f4 _=>⟨rfl,rfl,rfl,?_⟩⟩,?_⟩
 ·have:=f1.size
  exact(((f1.aM.aC).trans f2.aM.aC).trans (f3.mono fun k _ hk=>by have:=n1 hk;omega)).trans (f4.mono fun k _ hk=>by have:=n1 hk;omega)
 ·have:=f1.size
  exact(((f1.aM.aC).trans f2.aM.aC).trans (f3.mono fun k _ hk=>by have:=n1 hk;omega)).trans (f4.mono fun k _ hk=>by have:=n1 hk;omega)
 rintro c2 _ c3 _ _ h9 ⟨rfl,rfl,rfl,F9⟩ hL
 have F9:Fr No h h9:=F9.mono fun k hk aQ=>by omega
 have G:=G.no F9
 have W:=bE.no W F9
 have N:=bE.no N5 F9
 have HK:∀h',Fr No h9 h'->K (VS ⟨(tY d a).2.toArray⟩) h':=fun h' f=>HK h' (F9.aA f)
 clear F9 N5 V
 refine⟨fun e=> ?_,fun e=>⟨fun e2=> ?_,fun e2=>⟨fun e3=> ?_,fun e3=>⟨fun e4=> ?_,fun e4=>⟨fun e5=> ?_,fun e5=>⟨fun e6=> ?_,fun e6=>⟨fun e7=> ?_,fun e7=>⟨fun e8=> ?_,fun e8=>⟨fun e9=> ?_,fun e9=>⟨fun e10=> ?_,fun e10=>⟨fun Yf=> ?_,fun Yf=> ?_⟩⟩⟩⟩⟩⟩⟩⟩⟩⟩⟩
 ·rcases M with⟨hw,M⟩|⟨hw,M⟩|⟨hw,M⟩|⟨hw,M⟩|⟨hw,M⟩|⟨hw,M⟩|⟨hw,M⟩|⟨hw,M⟩|⟨hw,M⟩|⟨hw,M⟩|⟨hw,M⟩|⟨hw,M⟩
  all_goals first|exact absurd (hw.symm.trans (eA e)) (by decide)|skip
  subst M
  exact rV G (kY WK.cN) _ fun h' f=>⟨_,rfl,hL.aC f,HK h' f⟩
 ·rcases M with⟨hw,M⟩|⟨hw,M⟩|⟨hw,M⟩|⟨hw,M⟩|⟨hw,M⟩|⟨hw,M⟩|⟨hw,M⟩|⟨hw,M⟩|⟨hw,M⟩|⟨hw,M⟩|⟨hw,M⟩|⟨hw,M⟩
  all_goals first|exact absurd (hw.symm.trans (eA e2)) (by decide)|skip
  subst M
  exact J4 W (by omega) (fun x hx=>by have:=ws.1 x hx;omega) (by omega) _ fun h' f=>⟨_,rfl,hL.aC f,HK h' f⟩
 ·rcases M with⟨hw,M⟩|⟨hw,M⟩|⟨hw,M⟩|⟨hw,M⟩|⟨hw,M⟩|⟨hw,M⟩|⟨hw,M⟩|⟨hw,M⟩|⟨hw,M⟩|⟨hw,M⟩|⟨hw,M⟩|⟨hw,M⟩
  all_goals first|exact absurd (hw.symm.trans (eA e3)) (by decide)|skip
  obtain⟨n,rfl,rfl⟩:=M
  exact⟨N.bQ (by omega) (by simp),n,N.get (i:=0) (by omega) (by simp),tQ G W d.2.2 n _ fun t X T f=>⟨t,_,rfl,hL.aC f,tJ (hL.aC f) (agN _ _ _ _) T f HK⟩⟩
 ·rcases M with⟨hw,M⟩|⟨hw,M⟩|⟨hw,M⟩|⟨hw,M⟩|⟨hw,M⟩|⟨hw,M⟩|⟨hw,M⟩|⟨hw,M⟩|⟨hw,M⟩|⟨hw,M⟩|⟨hw,M⟩|⟨hw,M⟩
  all_goals first|exact absurd (hw.symm.trans (eA e4)) (by decide)|skip
  obtain⟨n,rfl,rfl⟩:=M
  exact⟨N.bQ (by omega) (by simp),n,N.get (i:=0) (by omega) (by simp),zg G W d.2.2 n _ fun t X T f=>⟨t,_,rfl,hL.aC f,tJ (hL.aC f) (agO _ _ _ _) T f HK⟩⟩
 ·rcases M with⟨hw,M⟩|⟨hw,M⟩|⟨hw,M⟩|⟨hw,M⟩|⟨hw,M⟩|⟨hw,M⟩|⟨hw,M⟩|⟨hw,M⟩|⟨hw,M⟩|⟨hw,M⟩|⟨hw,M⟩|⟨hw,M⟩
  all_goals first|exact absurd (hw.symm.trans (eA e5)) (by decide)|skip
  obtain⟨n,rfl,rfl⟩:=M
  exact⟨N.bQ (by omega) (by simp),n,N.get (i:=0) (by omega) (by simp),A8 G W d.2.2 n _ fun X f=>⟨_,_,rfl,hL.aC f,Mf (hL.aC f) (agP _ _ _ _) f HK⟩⟩
 ·rcases M with⟨hw,M⟩|⟨hw,M⟩|⟨hw,M⟩|⟨hw,M⟩|⟨hw,M⟩|⟨hw,M⟩|⟨hw,M⟩|⟨hw,M⟩|⟨hw,M⟩|⟨hw,M⟩|⟨hw,M⟩|⟨hw,M⟩
  all_goals first|exact absurd (hw.symm.trans (eA e6)) (by decide)|skip
  subst M
  refine zo G W d.2.2 _ fun X f=>⟨_,_,_,rfl,hL.aC f,?_⟩
  refine bC gH (fun k=>X.size<=k) (fun _ h=>h) 2 (by omega) [VI _,VI _] rfl rfl fun t Y n2 c2 o2 f2 m2 _=>⟨t,rfl,(hL.aC f).aC f2,?_⟩
  have pb:=YF d.1 d.2.1 d.2.2
  have Zt:cM Y (fun k=>X.size<=k) t [(fG d.1 d.2.1 d.2.2).1,(fG d.1 d.2.1 d.2.2).2.1]:=o2
  refine tJ (r:=([(fG d.1 d.2.1 d.2.2).1,(fG d.1 d.2.1 d.2.2).2.1],(fG d.1 d.2.1 d.2.2).2.2)) ((hL.aC f).aC f2) ⟨fun x hx=> ?_,by simp,fun _=>by simp⟩ Zt.rd (f.aA f2) HK
  simp only[aO,aS,aN]at hx
  rcases hx with rfl|rfl<;>omega
 ·rcases M with⟨hw,M⟩|⟨hw,M⟩|⟨hw,M⟩|⟨hw,M⟩|⟨hw,M⟩|⟨hw,M⟩|⟨hw,M⟩|⟨hw,M⟩|⟨hw,M⟩|⟨hw,M⟩|⟨hw,M⟩|⟨hw,M⟩
  all_goals first|exact absurd (hw.symm.trans (eA e7)) (by decide)|skip
  obtain⟨n,rfl,rfl⟩:=M
  exact⟨N.bQ (by omega) (by simp),n,N.get (i:=0) (by omega) (by simp),vY G n _ fun X f=>⟨_,_,rfl,hL.aC f,Mf (hL.aC f) (agQ _ _) f HK⟩⟩
 ·rcases M with⟨hw,M⟩|⟨hw,M⟩|⟨hw,M⟩|⟨hw,M⟩|⟨hw,M⟩|⟨hw,M⟩|⟨hw,M⟩|⟨hw,M⟩|⟨hw,M⟩|⟨hw,M⟩|⟨hw,M⟩|⟨hw,M⟩
  all_goals first|exact absurd (hw.symm.trans (eA e8)) (by decide)|skip
  subst M
  exact yd G W d.2.2 _ fun t X T f=>⟨t,_,rfl,hL.aC f,tJ (hL.aC f) (agM _ _ _) T f HK⟩
 ·rcases M with⟨hw,M⟩|⟨hw,M⟩|⟨hw,M⟩|⟨hw,M⟩|⟨hw,M⟩|⟨hw,M⟩|⟨hw,M⟩|⟨hw,M⟩|⟨hw,M⟩|⟨hw,M⟩|⟨hw,M⟩|⟨hw,M⟩
  all_goals first|exact absurd (hw.symm.trans (eA e9)) (by decide)|skip
  obtain⟨p,q,rfl,rfl⟩:=M
  have NU:bG h9 (x5.at 0 1)=some (VI p):=N.get (i:=0) (by omega) (by simp)
  have hc1:bG h9 (x5.at 1 1)=some (VI q):=N.get (i:=1) (by omega) (by simp)
  refine⟨fun bb c8 u v h'=>bb=(u7 d.1 d.2.2 p q).2/\u=(u7 d.1 d.2.2 p q).1.1/\v=(u7 d.1 d.2.2 p q).1.2/\Fr No h9 h',⟨N.bQ (by omega) (by simp),p,NU,N.bQ (by omega) (by simp),q,hc1,?_,?_⟩,?_⟩
  ·exact pp G d.2.2 p q _ fun X f=>⟨_,_,_,rfl,hL.aC f,fun c9 Vr _ f15 _=>⟨rfl,rfl,rfl,f.aA f15.aM⟩⟩
  ·intro c10 Ud aon f16 Dm
   have f16:=f16.aM
   have z16:=f16.size
   exact⟨eJ hc1 f16 fun h=>h,eJ NU f16 fun h=>h,pp (G.no f16) d.2.2 p q _ fun X f=>⟨_,_,_,rfl,Dm.aC f,fun h18 f18 _=>⟨rfl,rfl,rfl,(f16.aA f).fresh f18 fun k hk=>by have:=n1 hk;omega⟩⟩⟩
  ·rintro _ c8 _ _ K3 ⟨rfl,rfl,rfl,YG⟩ wY
   have cb:=agS d.1 d.2.2 p q
   refine⟨fun e9=> ?_,fun e9=> ?_⟩
   ·have:=HK K3 YG
    rw[chC,kD,aF (by rw[bU e9];exact qm)]at this
    exact this
   ·have HK:∀h',Fr No h9 h'->K (VS ⟨(Lib.itoa (u7 d.1 d.2.2 p q).1.1++47::Lib.itoa (u7 d.1 d.2.2 p q).1.2).toArray⟩) h':=fun h' f=>by
     have:=HK h' f
     rw[chC,kD,aJ (bS e9)]at this
     exact this
    generalize (u7 d.1 d.2.2 p q).1.1=u at HK cb wY⊢
    generalize (u7 d.1 d.2.2 p q).1.2=v at HK cb wY⊢
    obtain⟨u,rfl⟩:∃m:Nat,u=(m:Int):=⟨u.toNat,by omega⟩
    obtain⟨v,rfl⟩:∃m:Nat,v=(m:Int):=⟨v.toNat,by omega⟩
    have dl1:=(iA 18 u (by omega)).2
    have dl2:=(iA 18 v (by omega)).2
    refine jO u (by omega) _ fun ZK f20=>⟨_,rfl,wY.aC f20,by rw[cT];show _+1<=_;omega,jO v (by omega) _ fun ZL f21=>⟨_,rfl,(wY.aC f20).aC f21,?_,?_⟩⟩
    ·rw[show(⟨#[47]⟩:ByteArray)=⟨[47].toArray⟩from rfl,gj,cT,cT,bT];show _+1+_<=_;omega
    ·rw[show(⟨#[47]⟩:ByteArray)=⟨[47].toArray⟩from rfl,gj,gj]
     have:=HK ZL ((YG.aA f20).aA f21)
     rw[Lib.itoa_nonneg,Lib.itoa_nonneg]at this
     simpa using this
 ·rcases M with⟨hw,M⟩|⟨hw,M⟩|⟨hw,M⟩|⟨hw,M⟩|⟨hw,M⟩|⟨hw,M⟩|⟨hw,M⟩|⟨hw,M⟩|⟨hw,M⟩|⟨hw,M⟩|⟨hw,M⟩|⟨hw,M⟩
  all_goals first|exact absurd (hw.symm.trans (eA e10)) (by decide)|skip
  obtain⟨n,rfl,rfl⟩:=M
  exact⟨N.bQ (by omega) (by simp),n,N.get (i:=0) (by omega) (by simp),zp G n _ fun t X T f=>⟨t,_,rfl,hL.aC f,tJ (hL.aC f) (agR _ _) T.rd f HK⟩⟩
 ·rcases M with⟨hw,M⟩|⟨hw,M⟩|⟨hw,M⟩|⟨hw,M⟩|⟨hw,M⟩|⟨hw,M⟩|⟨hw,M⟩|⟨hw,M⟩|⟨hw,M⟩|⟨hw,M⟩|⟨hw,M⟩|⟨hw,M⟩
  all_goals first|exact absurd (hw.symm.trans (eA Yf)) (by decide)|skip
  obtain⟨p,q,r,u,rfl,rfl⟩:=M
  exact⟨N.bQ (by omega) (by simp),p,N.get (i:=0) (by omega) (by simp),N.bQ (by omega) (by simp),q,N.get (i:=1) (by omega) (by simp),N.bQ (by omega) (by simp),r,N.get (i:=2) (by omega) (by simp),N.bQ (by omega) (by simp),u,N.get (i:=3) (by omega) (by simp),yh p q r u _ fun X f=>⟨_,_,rfl,hL.aC f,Mf (hL.aC f) (agU _ _ _ _) f HK⟩⟩
 ·rcases M with⟨hw,M⟩|⟨hw,M⟩|⟨hw,M⟩|⟨hw,M⟩|⟨hw,M⟩|⟨hw,M⟩|⟨hw,M⟩|⟨hw,M⟩|⟨hw,M⟩|⟨hw,M⟩|⟨hw,M⟩|⟨hw,M⟩
  all_goals first|exact absurd hw (bM e)|exact absurd hw (bM e2)|exact absurd hw (bM e3)|exact absurd hw (bM e4)|exact absurd hw (bM e5)|exact absurd hw (bM e6)|exact absurd hw (bM e7)|exact absurd hw (bM e8)|exact absurd hw (bM e9)|exact absurd hw (bM e10)|exact absurd hw (bM Yf)|skip
  obtain⟨p,q,rfl,rfl⟩:=M
  exact⟨N.bQ (by omega) (by simp),p,N.get (i:=0) (by omega) (by simp),N.bQ (by omega) (by simp),q,N.get (i:=1) (by omega) (by simp),wj p q _ fun t X T f=>⟨t,_,rfl,hL.aC f,tJ (hL.aC f) (agT _ _) T f HK⟩⟩
theorem Kc:∀(n:Nat)(ws:List (List UInt8))(acc:aH),ws.length=n->fW (List.replicate n 110) ws [] acc=(jn lP ws).map fun ns=>([],acc++ns)
 |0,[],acc,_=>by simp[fW,jn]
 |n+1,w::ws,acc,h=>by
  rw[List.replicate_succ,fW,aJ rfl,jn,Tt]
  cases hr:px w with
  |none=>rfl
  |some m=>
   simp only[Option.map_some]
   rw[Kc n ws _ (by simpa using h)]
   cases jn lP ws with
   |none=>rfl
   |some ns=>simp
 |0,_::_,_,h=>by cases h
 |_+1,[],_,h=>by cases h
theorem TK{α β:Type}{f:α->Option β}{l:List α}{r:List β}(h:jn f l=some r):r.length=l.length:=(pd h).1
theorem adT{d:Dk}{w:List UInt8}(h:w∈XQ)(ns:aH):(ns.length≠0->dC d w ns=none)/\(ns.length=0->∃a,dC d w ns=some a/\(zr d w [] ns a\/py d w ns a)):=by
 simp only[XQ,aO,aS,aN]at h
 constructor
 ·intro hn
  match ns,hn with
  |[],hn=>exact absurd rfl hn
  |[n],_=>rcases h with rfl|rfl|rfl|rfl|rfl<;>simp[dC,jv]
  |[p,q],_=>rcases h with rfl|rfl|rfl|rfl|rfl<;>simp[dC,yl]
  |[_,_,_],_=>rfl
  |[p,q,r,s],_=>rcases h with rfl|rfl|rfl|rfl|rfl<;>simp[dC,CQ]
  |_::_::_::_::_::_,_=>rfl
 ·intro hn
  obtain rfl:=qa.1 hn
  rcases h with rfl|rfl|rfl|rfl|rfl
  ·exact⟨stC d,by simp[dC,kB],.inl (.inr (.inr (.inr (.inr (.inl ⟨rfl,rfl⟩)))))⟩
  ·exact⟨some (d,wx d.1),by simp[dC,kB],.inr (.inl ⟨rfl,rfl⟩)⟩
  ·exact⟨some (d,qD d.2),by simp[dC,kB],.inr (.inr (.inl ⟨rfl,rfl⟩))⟩
  ·exact⟨prC d,by simp[dC,kB],.inr (.inr (.inr (.inr (.inr (.inr (.inl ⟨rfl,rfl⟩))))))⟩
  ·exact⟨cyC d,by simp[dC,kB],.inr (.inr (.inr (.inr (.inr (.inr (.inr (.inr (.inl ⟨rfl,rfl⟩))))))))⟩
theorem adU{d:Dk}{w:List UInt8}(h:w∈XR)(ns:aH)(h0:∀n,n∈ns->0<=n):(ns.length≠1->dC d w ns=none)/\(ns.length=1->∃a,dC d w ns=some a/\(zr d w [] ns a\/py d w ns a)):=by
 simp only[XR,aO,aS,aN]at h
 constructor
 ·intro hn
  match ns,hn with
  |[],_=>rcases h with rfl|rfl|rfl|rfl|rfl|rfl|rfl<;>simp[dC,kB]
  |[n],hn=>exact absurd rfl hn
  |[p,q],_=>rcases h with rfl|rfl|rfl|rfl|rfl|rfl|rfl<;>simp[dC,yl]
  |[_,_,_],_=>rfl
  |[p,q,r,s],_=>rcases h with rfl|rfl|rfl|rfl|rfl|rfl|rfl<;>simp[dC,CQ]
  |_::_::_::_::_::_,_=>rfl
 ·intro hn
  obtain⟨n,rfl⟩:=List.length_eq_one_iff.1 hn
  have n0:=h0 n (by simp)
  rcases h with rfl|rfl|rfl|rfl|rfl|rfl|rfl
  ·exact⟨XF d n,by simp[dC,jv],.inl (.inr (.inr (.inl ⟨rfl,n,n0,rfl,rfl⟩)))⟩
  ·exact⟨rnC d n,by simp[dC,jv],.inl (.inr (.inr (.inr (.inr (.inr ⟨rfl,n,rfl,rfl⟩)))))⟩
  ·exact⟨psC d n,by simp[dC,jv],.inr (.inr (.inr (.inl ⟨rfl,n,rfl,rfl⟩)))⟩
  ·exact⟨vsC d n,by simp[dC,jv],.inr (.inr (.inr (.inr (.inl ⟨rfl,n,rfl,rfl⟩))))⟩
  ·exact⟨htC d n,by simp[dC,jv],.inr (.inr (.inr (.inr (.inr (.inl ⟨rfl,n,rfl,rfl⟩)))))⟩
  ·exact⟨tsC d n,by simp[dC,jv],.inr (.inr (.inr (.inr (.inr (.inr (.inr (.inl ⟨rfl,n,rfl,rfl⟩)))))))⟩
  ·exact⟨flC d n,by simp[dC,jv],.inr (.inr (.inr (.inr (.inr (.inr (.inr (.inr (.inr (.inr (.inl ⟨rfl,n,rfl,rfl⟩))))))))))⟩
theorem adV{d:Dk}{w:List UInt8}(h:w∈XS)(ns:aH)(h0:∀n,n∈ns->0<=n):(ns.length≠2->dC d w ns=none)/\(ns.length=2->∃a,dC d w ns=some a/\(zr d w [] ns a\/py d w ns a)):=by
 simp only[XS,aO,aS,aN]at h
 constructor
 ·intro hn
  match ns,hn with
  |[],_=>rcases h with rfl|rfl|rfl|rfl<;>simp[dC,kB]
  |[n],hn=>rcases h with rfl|rfl|rfl|rfl<;>simp[dC,jv]
  |[p,q],hn=>exact absurd rfl hn
  |[_,_,_],_=>rfl
  |[p,q,r,s],_=>rcases h with rfl|rfl|rfl|rfl<;>simp[dC,CQ]
  |_::_::_::_::_::_,_=>rfl
 ·intro hn
  obtain⟨p,q,rfl⟩:∃p q,ns=[p,q]:=by
   match ns,hn with
   |[p,q],_=>exact⟨p,q,rfl⟩
  have p0:=h0 p (by simp)
  have q0:=h0 q (by simp)
  rcases h with rfl|rfl|rfl|rfl
  ·exact⟨YD d p q,by simp[dC,yl],.inl (.inr (.inl ⟨rfl,p,q,rfl,rfl⟩))⟩
  ·exact⟨Tw d p q,by simp[dC,yl],.inl (.inr (.inr (.inr (.inl ⟨rfl,p,q,p0,q0,rfl,rfl⟩))))⟩
  ·exact⟨chC d p q,by simp[dC,yl],.inr (.inr (.inr (.inr (.inr (.inr (.inr (.inr (.inr (.inl ⟨rfl,p,q,rfl,rfl⟩)))))))))⟩
  ·exact⟨gwC d p q,by simp[dC,yl],.inr (.inr (.inr (.inr (.inr (.inr (.inr (.inr (.inr (.inr (.inr (.inr ⟨rfl,p,q,rfl,rfl⟩)))))))))))⟩
theorem adW{d:Dk}(ns:aH):(ns.length≠4->dC d CQ ns=none)/\(ns.length=4->∃a,dC d CQ ns=some a/\(zr d CQ [] ns a\/py d CQ ns a)):=by
 constructor
 ·intro hn
  match ns,hn with
  |[],_=>simp[dC,kB,CQ]
  |[n],hn=>simp[dC,jv,CQ]
  |[p,q],hn=>simp[dC,yl,CQ]
  |[_,_,_],_=>rfl
  |[p,q,r,s],hn=>exact absurd rfl hn
  |_::_::_::_::_::_,_=>rfl
 ·intro hn
  obtain⟨p,q,r,s,rfl⟩:∃p q r s,ns=[p,q,r,s]:=by
   match ns,hn with
   |[p,q,r,s],_=>exact⟨p,q,r,s,rfl⟩
  exact⟨esC d p q r s,by simp[dC,CQ],.inr (.inr (.inr (.inr (.inr (.inr (.inr (.inr (.inr (.inr (.inr (.inl ⟨rfl,p,q,r,s,rfl,rfl⟩)))))))))))⟩
theorem adX{d:Dk}{w:List UInt8}(hA:w∉XQ)(hB:w∉XR)(hC:w∉XS)(hE:w≠CQ)(ns:aH):dC d w ns=none:=by
 simp only[XQ,XR,XS,aO,aS,aN,not_or]at hA hB hC
 match ns with
 |[]=>simp[dC,kB,hA]
 |[n]=>simp[dC,jv,hB]
 |[p,q]=>simp[dC,yl,hC]
 |[_,_,_]=>rfl
 |[p,q,r,s]=>simp[dC,hE]
 |_::_::_::_::_::_=>rfl
theorem wu{d:Dk}{w:List UInt8}{vs:List (List UInt8)}{m:Nat}(hs:fu w=List.replicate m 110)(hg:w≠PO)(H:∀ns:aH,(∀n,n∈ns->0<=n)->(ns.length≠m->dC d w ns=none)/\(ns.length=m->∃a,dC d w ns=some a/\(zr d w [] ns a\/py d w ns a))):(Ko (w::vs)=none->jD d (w::vs)=none)/\∀r,Ko (w::vs)=some r->∃a,jD d (w::vs)=some a/\(zr d w r.1 r.2 a\/py d w r.2 a):=by
 have he:jD d (w::vs)=match jn lP vs with|none=>none|some ns=>dC d w ns:=by
  unfold jD
  rw[aF (fun h=>hg h.2)]
  rfl
 have hr:Ko (w::vs)=if vs.length=m then(jn lP vs).map fun ns=>([],ns)else none:=by
  unfold Ko
  simp only[List.headD_cons,List.length_cons,List.tail_cons,hs,jd,Nat.add_right_cancel_iff]
  by_cases hm:vs.length=m
  ·rw[aJ hm.symm,aJ hm,Kc m vs [] hm]
   simp
  ·rw[aF (fun h=>hm h.symm),aF hm]
 rw[he,hr]
 cases ha:jn lP vs with
 |none=>
  refine⟨fun _=>rfl,fun r h=> ?_⟩
  split at h<;>cases h
 |some ns=>
  have hl:=TK ha
  have hn:=H ns fun n hn=>(J6 ha n hn).1
  by_cases hm:vs.length=m
  ·rw[aJ hm]
   refine⟨fun h=>(by cases h),fun r h=> ?_⟩
   obtain rfl:=(bF h).symm
   exact hn.2 (by omega)
  ·rw[aF hm]
   exact⟨fun _=>hn.1 (by omega),fun r h=>by cases h⟩
theorem PE(d:Dk){ws:List (List UInt8)}(hw:ws≠[]):(Ko ws=none->jD d ws=none)/\∀r,Ko ws=some r->∃a,jD d ws=some a/\(zr d (ws.headD []) r.1 r.2 a\/py d (ws.headD []) r.2 a):=by
 obtain⟨w,vs,rfl⟩:∃w vs,ws=w::vs:=by
  cases ws with
  |nil=>exact absurd rfl hw
  |cons a l=>exact⟨a,l,rfl⟩
 rw[List.headD_cons]
 by_cases hA:w∈XQ
 ·exact wu (m:=0) (by unfold fu;rw[aJ hA];rfl) (fun h=>by rw[h]at hA;revert hA;decide) fun ns _=>adT hA ns
 by_cases hB:w∈XR
 ·exact wu (m:=1) (by unfold fu;rw[aF hA,aJ hB];rfl) (fun h=>by rw[h]at hB;revert hB;decide) fun ns h=>adU hB ns h
 by_cases hC:w∈XS
 ·exact wu (m:=2) (by unfold fu;rw[aF hA,aF hB,aJ hC];rfl) (fun h=>by rw[h]at hC;revert hC;decide) fun ns h=>adV hC ns h
 by_cases hE:w=CQ
 ·subst hE
  exact wu (m:=4) (by decide) (by decide) fun ns _=>adW ns
 have hN:=adX (d:=d) hA hB hC hE
 by_cases hG:w=PO
 ·subst hG
  have hs:fu PO=[103]:=by decide
  match vs with
  |[]=>
   refine⟨fun _=> ?_,fun r h=> ?_⟩
   ·unfold jD
    rw[aF (fun h=>by simp at h)]
    exact hN []
   ·unfold Ko at h;rw[List.headD_cons,hs]at h;cases h
  |[v]=>
   have he:jD d [PO,v]=gpC v:=by unfold jD;rw[aJ ⟨rfl,rfl⟩];rfl
   have hr:Ko [PO,v]=match rS v with|none=>none|some g'=>some (g',[]):=by
    unfold Ko
    rw[List.headD_cons,hs,aJ (show([103]:List UInt8).length+1=[PO,v].length from rfl)]
    show fW [103] [v] [] []=_
    rw[fW,aF (by decide),aJ rfl]
    cases rS v<;>rfl
   rw[he,hr]
   unfold gpC
   cases hp:rS v with
   |none=>exact⟨fun _=>rfl,fun r h=>by cases h⟩
   |some g=>
    refine⟨fun h=>(by cases h),fun r h=> ?_⟩
    obtain rfl:=(bF h).symm
    exact⟨_,rfl,.inl (.inl ⟨rfl,(zY hp).1,rfl⟩)⟩
  |a::b::vs=>
   refine⟨fun _=> ?_,fun r h=> ?_⟩
   ·unfold jD
    rw[aF (fun h=>by simp at h)]
    show(match jn lP (a::b::vs)with|none=>none|some ns=>dC d PO ns)=none
    split
    ·rfl
    ·exact hN _
   ·unfold Ko at h;rw[List.headD_cons,hs,aF (by simp)]at h;cases h
 have hs:fu w=[63]:=by unfold fu;rw[aF hA,aF hB,aF hC,aF hE,aF hG]
 refine⟨fun _=> ?_,fun r h=> ?_⟩
 ·unfold jD
  rw[aF (fun h=>hG h.2)]
  show(match jn lP vs with|none=>none|some ns=>dC d w ns)=none
  split
  ·rfl
  ·exact hN _
 ·unfold Ko at h
  rw[List.headD_cons,hs]at h
  split at h
  ·rename_i hl
   match vs,hl with
   |[v],_=>rw[List.tail_cons,fW,aF (by decide),aF (by decide)]at h;cases h
  ·cases h
set_option maxHeartbeats 2000000 in
theorem TL{h:Heap}{g w:Sl}{d:Dk}{S S':aK}(G:dE S h g d.1)(W:bE S' h w d.2.1)(ok:pz d){s:ByteArray}(hs:s.size<=3000)(K:aL)(HK:∀(g' w':Sl)(T T':aK) h',dE T h' g' (fm d s.data.toList).1.1->bE T' h' w' (fm d s.data.toList).1.2.1->(∀k,T k\/T' k->(S k\/S' k\/h.size<=k)/\k<h'.size)->Fr No h h'->K (.tuple #[.agg #[g'.v,w'.v,VI (fm d s.data.toList).1.2.2],VS ⟨(fm d s.data.toList).2.toArray⟩]) h'):aG aB 47 #[.agg #[g.v,w.v,VI d.2.2],VS s] h K:=by
 refine v47 g w d.2.2 s h K fun b1 b2 h2 fw eY f2 cR=> ?_
 have f2:=f2.aM
 have z2:=f2.size
 have CS:b2<h2.size:=cR.head.lt
 have n1:∀{b k:Nat},In [b] k->k=b:=fun hk=>by simpa[In]using hk
 have vk:∀{X:Heap},h.size<=X.size->∀k,(S k/\k<h.size)\/(S' k/\k<h.size)->(S k\/S' k\/h.size<=k)/\k<X.size:=fun hz k hk=>by
  rcases hk with hk|hk
  ·exact⟨.inl hk.1,by omega⟩
  ·exact⟨.inr (.inl hk.1),by omega⟩
 obtain⟨x0,hx⟩:=PE d (yQ 32 s.data.toList)
 refine TJ g w d.2.2 hs _ (fun e w1 x1 x2 x3 x4 x5 h3 f3=> ?_) fun r e w1 x4 x5 S4 S5 h3 hw G4 N5 h45 f3=> ?_
 ·refine⟨w1,x1,x2,x3,x4,x5,false,rfl,cR.aC f3,fun _=>fun b3 h6 jY f6 _=> ?_,fun e=>by cases e⟩
  have el:fm d s.data.toList=(d,[119,104,97,116]):=by unfold fm;rw[x0 e];rfl
  rw[el]at HK
  have f:=(f2.aA f3).aC.trans f6
  exact HK g w _ _ h6 (G.wH.fr f fun k hk aQ=>by have:=n1 aQ;have:=hk.2;omega) (bE.fr (dK.lt W) f fun k hk aQ=>by have:=n1 aQ;have:=hk.2;omega) (vk f.size) ((f2.aA f3).fresh f6 fun k hk=>by have:=n1 hk;omega)
 ·obtain⟨a,ea,hM⟩:=hx r e
  have el:fm d s.data.toList=tY d a:=by unfold fm;rw[ea];rfl
  rw[el]at HK
  rw[<-hw]at hM
  refine⟨w1,g,w,d.2.2,x4,x5,true,rfl,cR.aC f3,fun e=>(by cases e),fun _=>fun b3 h5 jY f5 iU=> ?_⟩
  have f5:=f5.aM
  have uE:=(f2.aA f3).aA f5
  have z3:=f3.size
  have z5:=f5.size
  have wMA:(∃x,x=true/\zr d w1.data.toList r.1 r.2 a)\/(∃x,x=false/\py d w1.data.toList r.2 a):=hM.elim (fun h=> .inl ⟨_,rfl,h⟩) fun h=> .inr ⟨_,rfl,h⟩
  refine⟨fun x h'=>h5=h'/\(x=true->zr d w1.data.toList r.1 r.2 a)/\(x=false->py d w1.data.toList r.2 a),?_,?_⟩
  ·simp only[NT]
   have pos:∀{l:List UInt8},l∈[[103,114,97,112,104],[97,100,100],[97,116],[116,117,114,110],[115,116,101,112],[114,117,110]]->w1.data.toList=l->zr d w1.data.toList r.1 r.2 a:=fun{l} hl e=>hM.elim id fun A=>by
    exfalso
    unfold py at A
    rw[e]at A
    simp only[aO,aS,aN]at hl
    rcases hl with rfl|rfl|rfl|rfl|rfl|rfl<;>revert A<;>simp[CQ]
   have bt:∀{l:List UInt8},l∈[[103,114,97,112,104],[97,100,100],[97,116],[116,117,114,110],[115,116,101,112],[114,117,110]]->decide (w1.data.toList=l)=true->True/\(decide (w1.data.toList=l)=true->zr d w1.data.toList r.1 r.2 a)/\(decide (w1.data.toList=l)=false->py d w1.data.toList r.2 a):=fun{l} hl e=>⟨trivial,fun _=>pos hl (ry e),fun e2=>by rw[e]at e2;cases e2⟩
   refine⟨fun e=>bt (by simp) e,fun e=>⟨fun e2=>bt (by simp) e2,fun e2=>⟨fun e3=>bt (by simp) e3,fun e3=>⟨fun e4=>bt (by simp) e4,fun e4=>⟨fun e5=>bt (by simp) e5,fun e5=>⟨trivial,fun e6=>pos (by simp) (ry e6),fun e6=>hM.elim (fun M=> ?_) id⟩⟩⟩⟩⟩⟩
   exfalso
   simp only[aW]at e e2 e3 e4 e5 e6
   rcases M with⟨hw,_⟩|⟨hw,_⟩|⟨hw,_⟩|⟨hw,_⟩|⟨hw,_⟩|⟨hw,_⟩
   ·exact e hw
   ·exact e2 hw
   ·exact e3 hw
   ·exact e4 hw
   ·exact e5 hw
   ·exact e6 hw
  rintro x _ ⟨rfl,q1,q2⟩ jQ
  have Zq:b3<h5.size:=jQ.head.lt
  have V7:Vars h5 [(b3,[g.v,w.v,VI d.2.2,x4.v,x5.v])]:= .cons jQ.head (by simp) .nil
  refine⟨fun e1=> ?_,fun e1=> ?_⟩
  ·have D:Hy (fun k=>k=b3\/k=b2\/(k<h.size/\¬S k/\¬S' k)) h5 g w d:=Hy.of (G.wH.no uE) (bE.no (dK.lt W) uE) fun k hk _ hz=>by
    rcases hz with rfl|rfl|hz
    ·rcases hk with hk|hk<;>(have:=hk.2;omega)
    ·rcases hk with hk|hk<;>(have:=hk.2;omega)
    ·rcases hk with hk|hk
     ·exact hz.2.1 hk.1
     ·exact hz.2.2 hk.1
   refine XT (Z:=fun k=>k=b3\/k=b2\/(k<h.size/\¬S k/\¬S' k)) (fun k hk=>by rcases hk with rfl|rfl|hk<;>omega) (.inl rfl) V7 D ok (G4.wH.no f5) (bE.no (dK.lt N5) f5) (fun k hk hz=> ?_) (q1 e1) _ fun y1 y2 y4 y5 h8 D8 V8 f8=> ?_
   ·have hk:h2.size<=k/\k<h3.size:=by
     rcases hk with hk|hk
     ·exact⟨h45 k (.inl hk.1),hk.2⟩
     ·exact⟨h45 k (.inr hk.1),hk.2⟩
    rcases hz with rfl|rfl|hz<;>omega
   have f8b:Fr (fun k=>k=b3) h5 h8:=f8.mono fun k hk h2=>by rcases h2 with h2|h2;exact h2;omega
   refine⟨y1,y2,_,y4,y5,_,rfl,jQ.set (i:=0) rfl f8b V8.head,fun h9 f9 _=> ?_⟩
   obtain⟨T,T',A,B,q⟩:=D8.fr f9 fun k hk=> .inl (.inr (.inl (n1 hk)))
   exact HK y1 y2 _ _ h9 A B (fun k hk=>⟨by
    have:=(q k hk).1
    by_cases h1:S k
    ·exact .inl h1
    by_cases h2:S' k
    ·exact .inr (.inl h2)
    ·exact .inr (.inr (by
      rcases Nat.lt_or_ge k h.size with h3|h3
      ·exact absurd (.inr (.inr ⟨h3,h1,h2⟩)) this
      ·exact h3)),(q k hk).2⟩) ((uE.fresh f8 fun k hk=>by rcases hk with rfl|hk<;>omega).fresh f9 fun k hk=>by have:=n1 hk;omega)
  ·have A:=q2 e1
   have er:=XU A
   refine XV V7 (G.no uE) (bE.no W uE) ok (bE.no N5 f5) A _ fun fa f10=>⟨g,w,d.2.2,x4,x5,_,rfl,jQ.aC f10,fun jq f11 _=> ?_⟩
   have f:=(uE.aA f10).aC.trans f11
   have:=HK g w _ _ jq (by rw[er];exact G.wH.fr f fun k hk aQ=>by have:=n1 aQ;have:=hk.2;omega) (by rw[er];exact bE.fr (dK.lt W) f fun k hk aQ=>by have:=n1 aQ;have:=hk.2;omega) (vk f.size) ((uE.aA f10).fresh f11 fun k hk=>by have:=n1 hk;omega)
   rw[er]at this
   exact this
set_option maxHeartbeats 2000000 in
theorem XW{h:Heap}(s:ByteArray)(K:aL)
 (HN:dQ s.data.toList=none->∀h',Fr No h h'->K (.tuple #[.agg #[aD.v,aD.v,VI 0],aD.v,VB false]) h')
 (HS:∀r,dQ s.data.toList=some r->∀(g w t:Sl)(T T' T2:aK) h',dE T h' g r.1.1->bE T' h' w r.1.2.1->dK T2 h' 1 t ((r.2.map nA).map VS)->(∀k,T k\/T' k\/T2 k->k<h'.size)->Fr No h h'->K (.tuple #[.agg #[g.v,w.v,VI r.1.2.2],t.v,VB true]) h'):aG aB 68 #[VS s] h K:=by
 have tK:=kX s
 have n1:∀{b k:Nat},In [b] k->k=b:=fun hk=>by simpa[In]using hk
 refine v68 s h K ⟨fun e=>fun b1 h2 fw f2 _=> ?_,fun e=>fun b1 h1 fw f1 cU=> ?_⟩
 ·refine HN ?_ _ f2.aM
  simp only[aT]at e
  unfold dQ
  rw[aF (fun h=>by have:=h.1;omega)]
 simp only[aW]at e
 have f1:=f1.aM
 have z1:=f1.size
 have lb1:b1<h1.size:=cU.head.lt
 refine ES 10 (by omega) _ fun t ps h3 oZ T3 f3=>⟨t,rfl,cU.aC f3,?_⟩
 have z3:=f3.size
 have iR:=f1.aA f3
 have T3:=T3.fW.lt
 have hpl:ps.length=(iF 10 s.data.toList).length:=by rw[<-oZ,bB]
 have hp2:ps.length<=10000:=by have:=rQ 10 s.data.toList;omega
 have QR:1<=ps.length:=by
  have:=wX.2 (yQ 10 s.data.toList)
  omega
 have tn:=T3.len
 rw[bB,fE]at tn
 have e3:aX ((t.n:Int)-1)=((ps.length-1:Nat):Int):=by rw[aP]<;>omega
 rw[e3]
 have r8:(iF 10 s.data.toList).getLast?=some (ps[ps.length-1]'(by omega)).data.toList:=by
  rw[<-oZ,List.getLast?_eq_getElem?,bB,zT,dT (by omega)]
  rfl
 refine⟨dK.bQ T3 (by omega) (by simp;omega),ps[ps.length-1]'(by omega),?_,fun e4=>fun Vr f15 _=> ?_,fun e4=>⟨fun e5=>fun h8 f8 _=> ?_,fun e5=> ?_⟩⟩
 ·have:=T3.get (i:=((ps.length-1:Nat):Int)) (by omega) (by simp;omega)
  simpa using this
 ·refine HN ?_ _ (iR.fresh f15 fun k hk=>by have:=n1 hk;omega)
  have e4:=bM (l:=[]) (bU e4)
  unfold dQ
  rw[r8,aF (fun h=>e4 (bF h.2.1))]
 ·refine HN ?_ _ (iR.fresh f8 fun k hk=>by have:=n1 hk;omega)
  simp only[aT]at e5
  unfold dQ
  rw[aF (fun h=>by have:=h.2.2;omega)]
 have e4:=eA (l:=[]) (bS e4)
 simp only[aW]at e5
 have hP:dQ s.data.toList=some (iB kC ((ps.take (ps.length-1)).map (·.data.toList))):=by
  unfold dQ
  rw[aJ ⟨by omega,by rw[r8,e4],by omega⟩,List.dropLast_eq_take,<-oZ,bB,nQ]
 obtain⟨ls,XO⟩:∃ls,ls=ps.take (ps.length-1):=⟨_,rfl⟩
 rw[<-XO]at hP
 have ll:ls.length=ps.length-1:=by rw[XO,fD];omega
 have tc:t.n<=t.c:=T3.cap
 refine zf _ _ fun v h5 D=> ?_
 obtain⟨g,w,m,rfl,G5,W5,f5⟩:=D
 refine⟨g,w,0,rfl,(cU.aC f3).aC f5,?_⟩
 have z5:=f5.size
 refine sQ OR .i64 (m:=((ps.length-1:Nat):Int)) (by omega) (by omega) ⟨_,rfl,fun b2 h7 eY f7 jQ=> ?_⟩
 have f7:=f7.aM
 have z7:=f7.size
 have CS:b2<h7.size:=jQ.head.lt
 have Hw:=(iR.aA f5).aA f7
 have T8:dK (fun k=>h1.size<=k/\k<h3.size) h7 1 (t.cut 1 0 (ps.length-1) t.c) (ls.map VS):=by
  have:=dK.cut ((T3.no f5).no f7) (l:=0) (m:=ps.length-1) (by omega) (by omega)
  rw[XO,nQ]
  simpa using this
 rw[show((ps.length-1:Nat):Int).toNat=ps.length-1 by omega]
 generalize t.cut 1 0 (ps.length-1) t.c=t8 at T8
 have tn8:=T8.len
 rw[bB,fE]at tn8
 have hq:∀q,q∈ls->q.size<=3000:=fun q hq=>by
  have h1:q∈ps:=by rw[XO]at hq;exact lR hq
  have h1:q.data.toList∈iF 10 s.data.toList:=by rw[<-oZ];exact List.mem_map_of_mem h1
  have h2:=Ad h1
  have h3:q.data.toList.length=q.size:=Array.length_toList
  omega
 obtain⟨R,hR⟩:∃R,R=iB kC (ls.map (·.data.toList)):=⟨_,rfl⟩
 rw[<-hR]at hP
 have fin:∀{h':Heap},Fr (fun k=>k=b2\/h7.size<=k) h7 h'->Fr No h h':=fun f=>Hw.fresh f fun k hk=>by rcases hk with rfl|hk<;>omega
 refine⟨fun n o i x1 x2 x3 h'=>∃d rs,0<=i/\i+n=(ls.length:Int)/\pz d/\d.2.2=x3/\(∃T T' Q,dE T h' x1 d.1/\bE T' h' x2 d.2.1/\C8 h' Q o (rs.map nA)/\(∀k,Q k->h7.size<=k/\k<h'.size/\¬T k/\¬T' k)/\(∀k,T k\/T' k->k<h'.size/\k≠b2/\k≠b1))/\rs.length=i.toNat/\R.1=(iB d ((ls.drop i.toNat).map (·.data.toList))).1/\R.2=rs++(iB d ((ls.drop i.toNat).map (·.data.toList))).2/\Fr (fun k=>k=b2\/h7.size<=k) h7 h',⟨ls.length,kC,[],by omega,by omega,tH,rfl,⟨_,_,No,(G5.rd.no f7),bE.no (Ow.fW W5).lt f7,Ow.nil _ _ _ _,fun k hk=>hk.elim,fun k hk=> ?_⟩,rfl,by rw[hR];rfl,by rw[hR];rfl,Fr.refl _ _⟩,?_⟩
 ·rcases hk with hk|hk
  ·have:=hk.1;have:=hk.2;omega
  ·have:=hk.1;have:=hk.2;omega
 rintro n o9 i x1 x2 _ h9 ⟨d,rs,i0,i1,okd,rfl,⟨T,T',Q,G,W,O,w1,w2⟩,rl,q1,q2,f79⟩ gM
 have z9:=f79.size
 have T9:=T8.fr f79 fun k hk aQ=>by rcases aQ with rfl|aQ<;>omega
 refine⟨fun e6=> ?_,fun e6=>fun K1 f14 _=> ?_⟩
 ·simp only[aT]at e6
  have il:i.toNat<ls.length:=by omega
  have hc:=T9.get (i:=i) i0 (by simp;omega)
  rw[bV]at hc
  refine⟨dK.bQ T9 i0 (by simp;omega),_,hc,?_⟩
  have TG:(ls.drop i.toNat).map (·.data.toList)=ls[i.toNat].data.toList::(ls.drop (i.toNat+1)).map (·.data.toList):=by
   rw[kM il];rfl
  rw[TG,iB]at q1 q2
  simp only at q1 q2
  have G0:=G.wH
  have W0:=dK.lt W
  refine TL G W okd (hq _ (bI il)) _ fun g10 w10 A A' fa Hx NP wA f10=>⟨g10,w10,_,_,rfl,gM.aC f10,fun b3 iC jY f12 qI=> ?_⟩
  have TH:=wo okd ls[i.toNat].data.toList
  generalize fm d ls[i.toNat].data.toList=r at Hx NP q1 q2 qI TH⊢
  have zM:=f10.size
  have z12:=f12.size
  have q3:∀k,A k\/A' k->k<fa.size/\¬Q k/\k≠b2/\k≠b1:=fun k hk=>by
   obtain⟨h1,h2⟩:=wA k hk
   refine⟨h2,fun hQ=> ?_,?_⟩
   ·rcases h1 with h1|h1|h1
    ·exact(w1 k hQ).2.2.1 h1
    ·exact(w1 k hQ).2.2.2 h1
    ·have:=(w1 k hQ).2.1;omega
   ·rcases h1 with h1|h1|h1
    ·exact(w2 k (.inl h1)).2
    ·exact(w2 k (.inr h1)).2
    ·omega
  have G12:=Hx.fr f12 fun k hk aQ=>(q3 k (.inl hk)).2.2.1 (n1 aQ)
  have W12:=bE.fr NP f12 fun k hk aQ=>(q3 k (.inr hk)).2.2.1 (n1 aQ)
  have O12:C8 iC (fun k=>Q k\/(iC.size<=k)) o9 (rs.map nA):=Ow.mono (Ow.fr (Ow.no O f10) f12 fun k hk aQ=>by have:=(w1 k (O.aR hk).1).1;have:=n1 aQ;omega) fun k _ hk=> .inl hk
  have Zq:b3<iC.size:=qI.head.lt
  refine pc (x:=nA r.2) O12 (fun k hk=> .inr hk) qI (fun p hp hk=> ?_) (by rw[bB];omega) _ fun t14 K1 O14 f14 Ph=> ?_
  ·simp only[aO,aS,aN]at hp
   rcases hk with hk|hk
   ·have:=(w1 _ hk)
    rcases hp with rfl|rfl|rfl<;>(simp only at this;omega)
   ·rcases hp with rfl|rfl|rfl<;>(simp only at hk;omega)
  have z14:=f14.size
  have eI:aX (i+1)=i+1:=by rw[aP]<;>omega
  rw[eI]
  have eT:(i+1).toNat=i.toNat+1:=by omega
  refine⟨n-1,by omega,r.1,rs++[r.2],by omega,by omega,TH,rfl,⟨A,A',fun k=>(Q k\/iC.size<=k)/\k<K1.size,G12.fr f14 fun k hk aQ=> ?_,bE.fr W12 f14 fun k hk aQ=> ?_,Ow.mono (show C8 K1 (fun k=>Q k\/(iC.size<=k)) t14 ((rs++[r.2]).map nA) by rw[cQ];exact O14) fun k hk hF=>⟨hF,(O14.aR hk).2⟩,fun k hk=> ?_,fun k hk=> ?_⟩,by rw[eT,bT,rl];rfl,by rw[eT];exact q1,by rw[eT,gu];exact q2,?_⟩
  ·have:=q3 k (.inl hk)
   rcases aQ with h|h
   ·exact this.2.1 h
   ·omega
  ·have:=q3 k (.inr hk)
   rcases aQ with h|h
   ·exact this.2.1 h
   ·omega
  ·obtain⟨h1,h2⟩:=hk
   refine⟨?_,h2,fun ha=> ?_,fun ha=> ?_⟩
   ·rcases h1 with h1|h1
    ·exact(w1 k h1).1
    ·omega
   ·have:=q3 k (.inl ha)
    rcases h1 with h|h
    ·exact this.2.1 h
    ·omega
   ·have:=q3 k (.inr ha)
    rcases h1 with h|h
    ·exact this.2.1 h
    ·omega
  ·have:=q3 k hk
   exact⟨by omega,this.2.2⟩
  ·refine((f79.trans f10.aC).trans (f12.mono fun k _ hk=> .inl (n1 hk))).trans (f14.mono fun k _ hk=> ?_)
   rcases hk with hk|hk
   ·exact .inr (w1 k hk).1
   ·exact .inr (by omega)
 ·simp only[aW]at e6
  have e7:ls.length<=i.toNat:=by omega
  rw[rT e7]at q1 q2
  have q1:R.1=d:=q1
  have q2:R.2=rs:=by rw[q2];exact gK rs
  have:=HS _ hP x1 x2 o9 T T' Q K1 (by rw[q1];exact G.fr f14 fun k hk aQ=>(w2 k (.inl hk)).2.2 (n1 aQ)) (by rw[q1];exact bE.fr W f14 fun k hk aQ=>(w2 k (.inr hk)).2.2 (n1 aQ)) (by rw[q2];exact(Ow.fW O).fr f14 fun k hk aQ=>by have:=(w1 k hk).1;have:=n1 aQ;omega) (fun k hk=>by
   have:=f14.size
   rcases hk with hk|hk|hk
   ·have:=(w2 k (.inl hk)).1;omega
   ·have:=(w2 k (.inr hk)).1;omega
   ·have:=(w1 k hk).2.1;omega) ((fin f79).fresh f14 fun k hk=>by have:=n1 hk;omega)
  rw[q1]at this
  exact this
theorem yq{h:Heap}(s:ByteArray)(K:aL)
 (HK:∀(t:Sl)(T:aK) h',dK T h' 1 t ((((dQ s.data.toList).elim [] fun r=>r.2).map nA).map VS)->(∀k,T k->k<h'.size)->Fr No h h'->K (.tuple #[t.v,VB (dQ s.data.toList).isSome]) h'):aG aB 26 #[VS s] h K:=by
 refine v26 s h K (XW s _ (fun e h1 f1=> ?_) fun r e g w t T T' T2 h1 G W O q f1=> ?_)
 ·refine⟨aD,aD,0,aD,false,rfl,.nil,fun b1 h3 fw f3 _=> ?_⟩
  rw[e]at HK
  exact HK aD No _ (dK.nil _ _ _) (fun k hk=>hk.elim) (f1.aA f3.aM)
 ·refine⟨g,w,r.1.2.2,t,true,rfl,.nil,fun b1 h3 fw f3 dA=> ?_⟩
  have f3:=f3.aM
  rw[e]at HK
  exact HK t T2 _ (O.no f3) (fun k hk=>fp (q k (.inr (.inr hk))) f3.size) (f1.aA f3)
def ag4:Dk:=([],([],0))
theorem Ho.nil(n:Nat)(h:Heap):Ho n h aD aD ag4 No No:=⟨dO.nil _ _ _ _,Ow.nil _ _ _ _,fun k hk=>hk.elim,fun k hk=>hk.elim,fun k hk=>hk.elim⟩
noncomputable def XX(d:Dk)(s:List UInt8):Dk×(List UInt8×Bool):=(jU d s).elim (ag4,([],false)) fun r=>(r.1,(r.2,true))
theorem TM{X:Heap}(GX:iG X){S S':aK}{g w:Sl}{d:Dk}(G:dE S X g d.1)(W:bE S' X w d.2.1)(s:ByteArray)(K:aL)
 (HK:∀(g' w':Sl)(F F':aK) h',Ho X.size h' g' w' (XX d s.data.toList).1 F F'->Fr No X h'->K (.tuple #[.agg #[g'.v,w'.v,VI (XX d s.data.toList).1.2.2],VS ⟨(XX d s.data.toList).2.1.toArray⟩,VB (XX d s.data.toList).2.2]) h'):aG aB 11 #[.agg #[g.v,w.v,VI d.2.2],VS s] X K:=by
 refine CW GX G W s _ (fun e h' f=> ?_) fun r e g' w' F F' h' D f=> ?_
 ·unfold XX at HK
  rw[e]at HK
  exact HK aD aD No No h' (Ho.nil _ _) f
 ·unfold XX at HK
  rw[e]at HK
  exact HK g' w' F F' h' D f
end Go.Proofs.YtcnfcnoooecchaaGreatDoor
