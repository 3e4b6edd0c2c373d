import Derived.Test.YtcnfcnoooecchaaGreatDoorDeskLineK3
set_option linter.unusedVariables false
set_option linter.unusedSimpArgs false
namespace Go.Proofs.YtcnfcnoooecchaaGreatDoor
open Go Go.Mx
def jR(w:List UInt8):Option Int:=match Lib.atoiAll w with
 | .ok n=>if 0<=n/\n<=999999/\Lib.itoa n=w then some n else none
 |_=>none
def mT(w:List UInt8):Option Nat:=if 1<=w.length/\w.length<=6/\¬(w.head?=some 48/\1<w.length)then Lib.decFrom 0 w else none
theorem ku(c:UInt8):∀(l:List UInt8)(a:Nat),Lib.decFrom a (l++[c])=(Lib.decFrom a l).bind fun n=>(Lib.digitVal c).map fun d=>n*10+d
 |[],a=>by
  show Lib.decFrom a [c]=_
  unfold Lib.decFrom
  cases Lib.digitVal c<;>rfl
 |b::l,a=>by
  rw[List.cons_append]
  unfold Lib.decFrom
  cases Lib.digitVal b with
  |none=>rfl
  |some d=>exact ku c l _
theorem GF{d:Nat}(h:d<10):Lib.digitVal (UInt8.ofNat (48+d))=some d:=by
 have:∀d:Fin 10,Lib.digitVal (UInt8.ofNat (48+d.val))=some d.val:=by decide
 exact this ⟨d,h⟩
theorem BM{c:UInt8}{d:Nat}(h:Lib.digitVal c=some d):d<10/\c=UInt8.ofNat (48+d):=by
 unfold Lib.digitVal at h
 split at h
 ·rename_i hc
  have h:=Option.some.inj h
  refine⟨by omega,UInt8.toNat_inj.1 ?_⟩
  rw[UInt8.toNat_ofNat']
  omega
 ·cases h
theorem GG:∀u:Nat,Lib.decFrom 0 (Lib.decDigits u)=some u:=by
 intro u
 induction u using Nat.strongRecOn with
 |_ u ih=>
  by_cases h:u<10
  ·rw[Lib.decDigits,dif_pos h]
   have:=ku (UInt8.ofNat (48+u)) [] 0
   rw[List.nil_append]at this
   rw[this,GF h]
   simp[Lib.decFrom]
  ·rw[Lib.decDigits,dif_neg h,ku,ih (u/10) (by omega),GF (by omega)]
   simp only[Option.bind_some,Option.map_some,Option.some.injEq]
   omega
theorem gG:∀(k u:Nat),u<10^(k+1)->1<=(Lib.decDigits u).length/\(Lib.decDigits u).length<=k+1
 |0,u,h=>by rw[Lib.decDigits,dif_pos (by simpa using h)];simp
 |k+1,u,h=>by
  by_cases hu:u<10
  ·rw[Lib.decDigits,dif_pos hu];simp
  ·have:=gG k (u/10) (by rw[Nat.pow_succ]at h;omega)
   rw[Lib.decDigits,dif_neg hu,List.length_append,List.length_singleton]
   omega
theorem GH:∀u:Nat,(Lib.decDigits u).head?=some 48->u=0:=by
 intro u
 induction u using Nat.strongRecOn with
 |_ u ih=>
  intro h
  by_cases hu:u<10
  ·rw[Lib.decDigits,dif_pos hu]at h
   have:∀d:Fin 10,UInt8.ofNat (48+d.val)=48->d.val=0:=by decide
   exact this ⟨u,hu⟩ (by simpa using h)
  ·rw[Lib.decDigits,dif_neg hu]at h
   have hl:=(gG (u/10) (u/10) (by have:=Nat.lt_pow_self (n:=u/10+1) (show 1<10 by omega);omega)).1
   have:(Lib.decDigits (u/10)).head?=some 48:=by
    cases hd:Lib.decDigits (u/10)with
    |nil=>rw[hd]at hl;simp at hl
    |cons x l=>rw[hd]at h;simpa using h
   have:=ih (u/10) (by omega) this
   omega
theorem GI:∀(k:Nat)(w:List UInt8)(n:Nat),w.length=k->1<=w.length->¬(w.head?=some 48/\1<w.length)->Lib.decFrom 0 w=some n->Lib.decDigits n=w:=by
 intro k
 induction k with
 |zero=>intro w n h1 h2;omega
 |succ k ih=>
  intro w n h1 h2 h3 h4
  have hw:w≠[]:=fun e=>by rw[e]at h2;simp at h2
  have e:=List.dropLast_concat_getLast hw
  have el:(w.dropLast).length=k:=by rw[List.length_dropLast];omega
  rw[<-e,ku]at h4
  cases hm:Lib.decFrom 0 w.dropLast with
  |none=>rw[hm]at h4;cases h4
  |some m=>
   rw[hm]at h4
   cases hc:Lib.digitVal (w.getLast hw)with
   |none=>rw[hc]at h4;cases h4
   |some d=>
    rw[hc]at h4
    have h4:m*10+d=n:=by simpa using h4
    obtain⟨hd,ed⟩:=BM hc
    by_cases hk:k=0
    ·have:w.dropLast=[]:=List.length_eq_zero_iff.1 (by omega)
     rw[this]at hm e
     have hm:0=m:=by simpa[Lib.decFrom]using hm
     rw[Lib.decDigits,dif_pos (by omega),<-e,ed]
     congr 3;omega
    ·have hh:¬(w.dropLast.head?=some 48):=fun hh=>by
      refine h3 ⟨?_,by omega⟩
      cases hd:w.dropLast with
      |nil=>rw[hd]at el;simp at el;omega
      |cons x l=>rw[<-e,hd];rw[hd]at hh;simpa using hh
     have:=ih w.dropLast m el (by omega) (fun h=>hh h.1) hm
     have m0:m≠0:=fun h0=>by
      rw[h0,Lib.decDigits,dif_pos (by omega)]at this
      exact hh (by rw[<-this];rfl)
     rw[Lib.decDigits,dif_neg (by omega),show n/10=m by omega,this,show n%10=d by omega,<-ed]
     exact e
theorem Qj(w:List UInt8):jR w=(mT w).map fun n=>(n:Int):=by
 unfold jR
 cases hr:mT w with
 |some n=>
  unfold mT at hr
  split at hr
  ·rename_i hc
   have hd:=GI _ w n rfl hc.1 hc.2.2 hr
   have rO:=Lib.decFrom_lt w 0 n hr
   have hp:10^w.length<=10^6:=Nat.pow_le_pow_right (by decide) hc.2.1
   have ha:Lib.atoiAll w= .ok (n:Int):=by
    rw[Lib.atoiAll_short w (by omega)]
    cases w with
    |nil=>simp at hc
    |cons b r=>
     have hb:∃d,Lib.digitVal b=some d:=by
      unfold Lib.decFrom at hr
      cases hb:Lib.digitVal b with
      |none=>rw[hb]at hr;cases hr
      |some d=>exact⟨d,rfl⟩
     obtain⟨d,hb⟩:=hb
     obtain⟨d1,d2⟩:=BM hb
     have hx:(b==45)=false/\(b==43)=false:=by
      rw[d2]
      have:∀d:Fin 10,(UInt8.ofNat (48+d.val)==45)=false/\(UInt8.ofNat (48+d.val)==43)=false:=by decide
      exact this ⟨d,d1⟩
     unfold Lib.atoi Lib.decNat
     simp only[hx.1,hx.2,Bool.false_eq_true,if_false,List.isEmpty_cons,hr,Option.map_some,Lib.NumEnd.ofOption]
   rw[ha]
   (try simp only)
   rw[if_pos ⟨by omega,by have:(10:Nat)^6=1000000:=by decide
                          omega,by rw[Lib.itoa_nonneg,hd]⟩]
   rfl
  ·cases hr
 |none=>
  cases ha:Lib.atoiAll w with
  |ok n=>
   (try simp only)
   rw[if_neg]
   ·rfl
   ·rintro⟨h0,h1,h2⟩
    obtain⟨u,hu⟩:∃u:Nat,n=u:=⟨n.toNat,by omega⟩
    rw[hu,Lib.itoa_nonneg]at h2
    have hl:=gG 5 u (by have:(10:Nat)^(5+1)=1000000:=by decide
                        omega)
    unfold mT at hr
    rw[<-h2,if_pos ⟨hl.1,hl.2,fun h=>by
     have:=GH u h.1
     rw[this,Lib.decDigits,dif_pos (by omega)]at h
     simp at h⟩,GG]at hr
    cases hr
  |_=>rfl
def zL(l:List Int):List UInt8:=Lib.join (l.map Lib.itoa) [44]
def nX(s:St):List UInt8:=Lib.itoa s.2++58::zL s.1
abbrev Dk:=List (List Int)×St
abbrev p5:=Option (Dk×List UInt8)
def BN(d:Dk)(r:St×Bool):p5:=if r.2=true then some ((d.1,r.1),nX r.1)else none
def Qk(d:Dk)(r:List Int×Bool):p5:=if r.2=true then some (d,zL r.1)else none
def Vm(d:Dk)(r:Int×Bool):p5:=if r.2=true then some (d,Lib.itoa r.1)else none
def stC(d:Dk):p5:=BN d (dG d.1 d.2.1 d.2.2 1)
def prC(d:Dk):p5:=Qk d ([(dX d.1 d.2.1 d.2.2).1,(dX d.1 d.2.1 d.2.2).2.1],(dX d.1 d.2.1 d.2.2).2.2)
noncomputable def cyC(d:Dk):p5:=Qk d (rB d.1 d.2.1 d.2.2)
def Ut(d:Dk)(p:Int):p5:=BN d ((d.2.1,p),aM d.1&&iD 0 ((d.1.length:Int)-1) p)
def rnC(d:Dk)(n:Int):p5:=BN d (dG d.1 d.2.1 d.2.2 n)
def psC(d:Dk)(n:Int):p5:=Qk d (iO d.1 d.2.1 d.2.2 n)
def vsC(d:Dk)(n:Int):p5:=Qk d (od d.1 d.2.1 d.2.2 n)
def htC(d:Dk)(n:Int):p5:=Vm d (nA d.1 d.2.1 d.2.2 n)
def tsC(d:Dk)(n:Int):p5:=Vm d (rh d.1 n)
def flC(d:Dk)(n:Int):p5:=Qk d (pC d.1 n)
def Vn(d:Dk)(p q:Int):p5:=if(gS d.1 p q).2=true then some (((gS d.1 p q).1,d.2),uj (gS d.1 p q).1)else none
def Qm(d:Dk)(p k:Int):p5:=BN d ((d.2.1.set p.toNat k,d.2.2),aM d.1&&iD 0 ((d.1.length:Int)-1) p&&iD 0 (((d.1.getD p.toNat []).length:Int)-1) k)
def chC(d:Dk)(p q:Int):p5:=if(rH d.1 d.2.2 p q).2=true then some (d,Lib.itoa (rH d.1 d.2.2 p q).1.1++47::Lib.itoa (rH d.1 d.2.2 p q).1.2)else none
def gwC(d:Dk)(p q:Int):p5:=Qk d (pE p q)
def esC(d:Dk)(p q r s:Int):p5:=Vm d (zF p q r s)
def gpC(w:List UInt8):Option p5:=match pf w with
 |some g=>some (some ((g,(List.replicate g.length 0,0)),uj g))
 |none=>none
noncomputable def iW(d:Dk)(w:List UInt8):Option p5:=
 if w=[115,116,101,112]then some (stC d)else if w=[115,104,111,119]then some (some (d,uj d.1))else if w=[119,97,108,107]then some (some (d,nX d.2))
 else if w=[112,101,114,105,111,100]then some (prC d)else if w=[99,121,99,108,101]then some (cyC d)else none
def gQ(d:Dk)(w:List UInt8)(n:Int):Option p5:=
 if w=[97,116]then some (Ut d n)else if w=[114,117,110]then some (rnC d n)else if w=[112,97,115,115]then some (psC d n)else if w=[118,105,115,105,116,115]then some (vsC d n)
 else if w=[104,105,116]then some (htC d n)else if w=[116,114,101,101,115]then some (tsC d n)else if w=[102,117,108,108]then some (flC d n)else none
def u9(d:Dk)(w:List UInt8)(a b:Int):Option p5:=
 if w=[97,100,100]then some (Vn d a b)else if w=[116,117,114,110]then some (Qm d a b)else if w=[99,104,97,110,99,101]then some (chC d a b)else if w=[103,114,111,119]then some (gwC d a b)else none
def ML:List UInt8:=[103,114,97,112,104]
def zJ:List UInt8:=[101,115,99,97,112,101,115]
noncomputable def bW(d:Dk)(w:List UInt8)(ns:List Int):Option p5:=match ns with
 |[]=>iW d w
 |[a]=>gQ d w a
 |[a,b]=>u9 d w a b
 |[a,b,c,e]=>if w=zJ then some (esC d a b c e)else none
 |_=>none
noncomputable def gY(d:Dk)(ws:List (List UInt8)):Option p5:=
 if ws.length=2/\ws.headD []=ML then gpC (ws.getD 1 [])else match gK jR ws.tail with
 |none=>none
 |some ns=>bW d (ws.headD []) ns
def aaI(d:Dk)(a:Option p5):Dk×List UInt8:=match a with
 |none=>(d,[119,104,97,116])
 |some none=>(d,[110,111])
 |some (some r)=>r
noncomputable def gZ(d:Dk)(s:List UInt8):Dk×List UInt8:=aaI d (gY d (gU 32 s))
def p7(d:Dk):Prop:=eC d.1 d.2.1 d.2.2=true
noncomputable def dQ(d:Dk)(s:List UInt8):Option (Dk×List UInt8):=if eC d.1 d.2.1 d.2.2=true/\s.length<=3000/\10∉s then some (gZ d s)else none
theorem pF{n:Int}(h0: -9223372036854775808<=n)(h1:n<=9223372036854775807):(Lib.itoa n).length<=21:=Lib.itoa_length_le n h0 h1
theorem Eb{rs:List Int}(B:∀x,x∈rs-> -9223372036854775808<=x/\x<=9223372036854775807):(zL rs).length<=41*rs.length:=by
 have:=qY 44 (rs.map Lib.itoa) fun y hy=>by
  obtain⟨x,hx,rfl⟩:=List.mem_map.1 hy
  have:=pF (B x hx).1 (B x hx).2
  omega
 rw[List.length_map]at this
 exact this
theorem adK{d:Int}(h0:0<=d)(h1:d<10):IntKind.u8.wrap (48+d)=48+d:=by
 show(48+d)%256=48+d
 omega
theorem Ec{d:Nat}(h:d<10):strOfNums [48+(d:Int)]=⟨[UInt8.ofNat (48+d)].toArray⟩:=by
 apply ByteArray.ext
 apply Array.toList_inj.1
 rw[strOfNums_data]
 simp only[List.map_cons,List.map_nil,List.cons.injEq,and_true]
 have:(48+(d:Int)).toNat=48+d:=by omega
 rw[this]
theorem jy(n:Nat):n<=1000000000000000000->∀{h:Heap}(K:Value->Heap->Prop),(∀h',Fr No h h'->K (VS ⟨(Lib.decDigits n).toArray⟩) h')->aE Tryz.prog 73 #[VI n] h K:=by
 induction n using Nat.strongRecOn with
 |_ n ih=>
  intro hn h K HK
  by_cases hd:n<10
  ·exact Kp (by omega) (by omega) K (by rw[Int.toNat_natCast];exact HK)
  have ak1:Lib.decDigits n=Lib.decDigits (n/10)++[UInt8.ofNat (48+n%10)]:=by rw[Lib.decDigits,dif_neg hd]
  have hlen:(Lib.decDigits (n/10)).length<=19:=(gG 18 (n/10) (by omega)).2
  rw[ak1]at HK
  have et:Int.tmod (n:Int) 10=((n%10:Nat):Int):=by rw[Int.tmod_eq_emod_of_nonneg (by omega)];omega
  have ed:aL (Int.tdiv (n:Int) 10)=((n/10:Nat):Int):=by rw[Int.tdiv_eq_ediv_of_nonneg (by omega),aH _ (by omega) (by omega)];omega
  have ew:aL (48+Int.tmod (n:Int) 10)=48+((n%10:Nat):Int):=by rw[et,aH _ (by omega) (by omega)]
  have ap:(⟨(Lib.decDigits (n/10)).toArray⟩:ByteArray)++⟨[UInt8.ofNat (48+n%10)].toArray⟩=⟨(Lib.decDigits (n/10)++[UInt8.ofNat (48+n%10)]).toArray⟩:=eX _ _
  have conv:∀{X:Heap}{K:Value->Prop},K (.int .u8 (48+((n%10:Nat):Int)))->zS Tryz.prog (convert 3 5 (VI (aL (48+Int.tmod (n:Int) 10)))) X K:=fun HK=>by
   rw[ew]
   refine kP (show Tryz.prog.underlying _=some (.int .i64)from by kernel_rfl) (show Tryz.prog.underlying _=some (.int .u8)from by kernel_rfl) (48+((n%10:Nat):Int)) ?_
   rw[adK (by omega) (by omega)]
   exact HK
  refine v73 n h K ⟨fun e=>by simp only[decide_eq_true_eq]at e;omega,fun e=>conv ⟨_,rfl,?_,?_⟩⟩
  ·rw[ed]
   refine ih (n/10) (by omega) (by omega) _ fun h2 f2=>⟨_,rfl,.nil,?_,?_⟩
   ·obtain⟨v,hv,e⟩:=(conv (X:=h2) (K:=fun v=>v= .int .u8 (48+((n%10:Nat):Int))) rfl).out
    subst e
    exact hv
   refine aS WI (fun k=>h2.size<=k) (fun _ h=>h) 1 (by omega) [.int .u8 (48+((n%10:Nat):Int))] rfl rfl fun w h3 n3 c3 o3 f3 m3 _=>⟨w,rfl,.nil,?_⟩
   refine sP (bs:=[UInt8.ofNat (48+n%10)]) o3.fa (Ec (by omega)) ⟨_,rfl,?_,?_⟩
   ·rw[bZ,bZ];simp only[List.length_singleton];omega
   ·rw[ap];exact HK h3 (f2.aA f3)
  ·refine aS WI (fun k=>h.size<=k) (fun _ h=>h) 1 (by omega) [.int .u8 (48+((n%10:Nat):Int))] rfl rfl fun w h4 n4 c4 o4 f4 m4 _=>⟨w,rfl,.nil,?_⟩
   refine sP (bs:=[UInt8.ofNat (48+n%10)]) o4.fa (Ec (by omega)) ⟨_,rfl,?_⟩
   rw[ed]
   refine ih (n/10) (by omega) (by omega) _ fun h5 f5=>⟨_,rfl,.nil,?_,?_,?_⟩
   ·obtain⟨v,hv,e⟩:=(sP (h:=h5) (bs:=[UInt8.ofNat (48+n%10)]) (cY.no o4.fa f5) (Ec (d:=n%10) (by omega)) (K:=fun v=>v=VS ⟨[UInt8.ofNat (48+n%10)].toArray⟩) rfl).out
    subst e
    exact hv
   ·rw[bZ,bZ];simp only[List.length_singleton];omega
   ·rw[ap];exact HK h5 (f4.aA f5)
theorem Uu{n:Int}(h0: -1000000000000000000<=n)(h1:n<=1000000000000000000){h:Heap}(K:Value->Heap->Prop)(HK:∀h',Fr No h h'->K (VS ⟨(Lib.itoa n).toArray⟩) h'):aE Tryz.prog 225 #[VI n] h K:=by
 refine ahU n h K ⟨fun e=> ?_,fun e=> ?_⟩
 ·simp only[decide_eq_true_eq]at e
  obtain⟨u,hu⟩:∃u:Nat,n= -(u:Int):=⟨(-n).toNat,by omega⟩
  rw[aH _ (by omega) (by omega),show(0:Int)-n=((u:Nat):Int) by omega]
  refine jy u (by omega) _ fun h2 f2=>⟨_,rfl,.nil,?_,?_⟩
  ·have:=(gG 18 u (by omega)).2
   rw[show(⟨#[45]⟩:ByteArray)=⟨[45].toArray⟩from rfl,bZ,bZ];simp only[List.length_singleton];omega
  ·have:=HK h2 f2
   rw[hu,Lib.itoa_neg u (by omega)]at this
   rw[show(⟨#[45]⟩:ByteArray)=⟨[45].toArray⟩from rfl,eX]
   exact this
 ·simp only[decide_eq_false_iff_not]at e
  obtain⟨u,rfl⟩:∃u:Nat,n=(u:Int):=⟨n.toNat,by omega⟩
  rw[Lib.itoa_nonneg]at HK
  exact jy u (by omega) _ fun h2 f2=>⟨_,rfl,.nil,HK h2 f2⟩
theorem GJ{S:Nat->Prop}{h:Heap}{s:Sl}{rs:List Int}(H:aP S h s rs)(B:∀x,x∈rs-> -1000000000000000000<=x/\x<=1000000000000000000)(hn:rs.length<=1000)(K:Value->Heap->Prop)(HK:∀h',Fr No h h'->K (VS ⟨(zL rs).toArray⟩) h'):aE Tryz.prog 180 #[s.v] h K:=by
 have sn:=H.len
 have B':∀x,x∈rs-> -9223372036854775808<=x/\x<=9223372036854775807:=fun x hx=>by have:=B x hx;omega
 refine agV s h K ⟨fun m out i h'=>0<=i/\i+m=(rs.length:Int)/\out=(⟨(zL (rs.take i.toNat)).toArray⟩:ByteArray)/\Fr No h h',⟨rs.length,by omega,by omega,rfl,Fr.refl _ _⟩,?_⟩
 rintro m out i h3 ⟨i0,i1,rfl,f3⟩ cF
 have H3:=H.no f3
 refine⟨fun e2=> ?_,fun e2=> ?_⟩
 ·have hi:=H3.lt e2
  have wC:i.toNat<rs.length:=by omega
  have b:=B _ (List.getElem_mem wC)
  have hl1:=Eb (rs:=rs.take i.toNat) fun x hx=>B' x (List.mem_of_mem_take hx)
  rw[List.length_take]at hl1
  generalize hB:zL (rs.take i.toNat)++(if i.toNat=0 then[]else[44])=Q
  have Ql:Q.length<=41001:=by rw[<-hB,List.length_append];split<;>simp only[List.length_nil,List.length_cons]<;>omega
  have next:zL (rs.take (i.toNat+1))=Q++Lib.itoa rs[i.toNat]:=by rw[<-hB];unfold zL;rw[ug Lib.itoa [44] wC]
  refine⟨H3.bB i0 hi,_,H3.get i0 hi,fun x h'=>x=(⟨Q.toArray⟩:ByteArray)/\h'=h3,⟨fun e5=>⟨?_,?_,rfl⟩,fun e5=>⟨?_,rfl⟩⟩,?_⟩
  ·rw[bZ];show _+1<=_;omega
  ·simp only[decide_eq_true_eq]at e5
   rw[show(⟨#[44]⟩:ByteArray)=⟨[44].toArray⟩from rfl,eX,<-hB,if_neg (by omega)]
  ·simp only[decide_eq_false_iff_not]at e5
   rw[<-hB,if_pos (by omega),List.append_nil]
  rintro x h5 ⟨rfl,rfl⟩ ic
  refine Uu b.1 b.2 _ fun h6 f6=>⟨_,rfl,.nil,?_,?_⟩
  ·have:=pF (n:=rs[i.toNat]) (by omega) (by omega)
   rw[bZ,bZ];omega
  ·rw[eX,<-next,aH _ (by omega) (by omega)]
   exact⟨m-1,by omega,by omega,by omega,by rw[show(i+1).toNat=i.toNat+1 by omega],f3.aA f6⟩
 ·have hi:=H3.ge e2
  rw[List.take_of_length_le (by omega)]
  exact HK h3 f3
theorem GK{S:Nat->Prop}{h:Heap}{s:Sl}{rs:List Int}(H:aP S h s rs){p:Int}(hp:0<=p/\p<=1000000000000000000)(B:∀x,x∈rs-> -1000000000000000000<=x/\x<=1000000000000000000)(hn:rs.length<=1000)(K:Value->Heap->Prop)(HK:∀h',Fr No h h'->K (VS ⟨(nX (rs,p)).toArray⟩) h'):aE Tryz.prog 130 #[.agg #[s.v,VI p]] h K:=by
 refine v130 s p h K fun b1 h1 dM f1 bG=> ?_
 have f1:=f1.aF
 obtain⟨u,rfl⟩:∃u:Nat,p=(u:Int):=⟨p.toNat,by omega⟩
 have dl:=(gG 18 u (by omega)).2
 have zl:=Eb (rs:=rs) fun x hx=>by have:=B x hx;omega
 refine jy u (by omega) _ fun h2 f2=>⟨_,rfl,bG.aB f2,by rw[bZ];show _+1<=_;omega,GJ ((H.no f1).no f2) B hn _ fun h3 f3=>⟨_,rfl,(bG.aB f2).aB f3,?_,?_⟩⟩
 ·rw[show(⟨#[58]⟩:ByteArray)=⟨[58].toArray⟩from rfl,eX,bZ,bZ,List.length_append];show _+1+_<=_;omega
 ·rw[show(⟨#[58]⟩:ByteArray)=⟨[58].toArray⟩from rfl,eX,eX]
  have:=HK h3 ((f1.aA f2).aA f3)
  unfold nX at this
  rw[Lib.itoa_nonneg]at this
  simpa using this
theorem Ju{n:Int}{ok:Bool}(hn:ok=true->0<=n/\n<=1000000000000000000){h:Heap}(K:Value->Heap->Prop)(HK:∀h',Fr No h h'->K (VS ⟨(if ok=true then Lib.itoa n else[110,111]).toArray⟩) h'):aE Tryz.prog 134 #[VI n,VB ok] h K:=by
 refine afZ n ok h K ⟨fun e=> ?_,fun e=> ?_⟩
 ·have e:ok=false:=by simpa using e
  rw[if_neg (by rw[e];decide)]at HK
  exact HK h (Fr.refl _ _)
 ·have e:ok=true:=by simpa using e
  rw[if_pos e]at HK
  have:=hn e
  obtain⟨u,rfl⟩:∃u:Nat,n=(u:Int):=⟨n.toNat,by omega⟩
  rw[Lib.itoa_nonneg]at HK
  exact jy u (by omega) _ fun h2 f2=>⟨_,rfl,.nil,HK h2 f2⟩
theorem Qn{S:Nat->Prop}{h:Heap}{s:Sl}{rs:List Int}{ok:Bool}(H:ok=true->aP S h s rs)(B:ok=true->∀x,x∈rs-> -1000000000000000000<=x/\x<=1000000000000000000)(hn:ok=true->rs.length<=1000)(K:Value->Heap->Prop)(HK:∀h',Fr No h h'->K (VS ⟨(if ok=true then zL rs else[110,111]).toArray⟩) h'):aE Tryz.prog 131 #[s.v,VB ok] h K:=by
 refine v131 s ok h K ⟨fun e=> ?_,fun e=> ?_⟩
 ·have e:ok=false:=by simpa using e
  rw[if_neg (by rw[e];decide)]at HK
  exact HK h (Fr.refl _ _)
 ·have e:ok=true:=by simpa using e
  rw[if_pos e]at HK
  exact GJ (H e) (B e) (hn e) _ fun h2 f2=>⟨_,rfl,.nil,HK h2 f2⟩
def lZ(rs:List Int):List UInt8:=if rs.length=0 then[45]else zL rs
theorem aaJ{rs:List Int}(B:∀x,x∈rs-> -9223372036854775808<=x/\x<=9223372036854775807):(lZ rs).length<=41*rs.length+1:=by
 have:=Eb B
 unfold lZ
 split
 ·simp
 ·omega
theorem vI{S:Nat->Prop}{h:Heap}(GL:gV h){s:Sl}{rs:List Int}(H:aP S h s rs)(B:∀x,x∈rs-> -9223372036854775808<=x/\x<=9223372036854775807)(hn:rs.length<=1000)(K:Value->Heap->Prop)(HK:∀h',Fr No h h'->K (VS ⟨(lZ rs).toArray⟩) h'):aE Tryz.prog 89 #[s.v] h K:=by
 have sn:=aP.len H
 refine v89 s h K ⟨fun e=> ?_,fun e=> ?_⟩
 ·simp only[decide_eq_true_eq]at e
  have:=HK h (Fr.refl _ _)
  unfold lZ at this
  rw[if_pos (by omega)]at this
  exact this
 simp only[decide_eq_false_iff_not]at e
 refine aS SB (fun k=>h.size<=k) (fun _ h=>h) 0 (by omega) [] rfl rfl fun o h1 n1 c1 o1 f1 m1 _=>⟨o,rfl,.nil,?_⟩
 have z1:=f1.size
 have Sa:He h1 (fun k=>h.size<=k) o []:=o1
 have vB:∀{x:Heap},Fr (fun k=>h.size<=k) h x->Fr No h x:=fun f=>f.mono fun k hk aI=>absurd aI (by omega)
 refine⟨fun m x p h'=>0<=p/\p+m=(rs.length:Int)/\He h' (fun k=>h.size<=k) x ((rs.take p.toNat).map fun y=>(⟨(Lib.itoa y).toArray⟩:ByteArray))/\Fr (fun k=>h.size<=k) h h',⟨rs.length,by omega,by omega,by simpa using Sa,f1.aB⟩,?_⟩
 rintro m x p h2 ⟨p0,p1,o2,f2⟩ bP
 have z2:=f2.size
 have H2:=H.no (vB f2)
 refine⟨fun e2=> ?_,fun e2=> ?_⟩
 ·have hp:=H2.lt e2
  have bx:=B _ (List.getElem_mem (show p.toNat<rs.length by omega))
  refine⟨H2.bB p0 hp,_,H2.get p0 hp,jo (GL.no (vB f2)) bx.1 bx.2 _ fun h3 f3=>⟨_,rfl,.nil,?_⟩⟩
  refine sO (Ow.no o2 f3) (fun k hk=>by have:=f3.size;omega) .nil (fun q hq=>by cases hq) (by simp;omega) _ fun t h5 o5 f5 _=> ?_
  rw[H2.succ p0 hp]
  refine⟨m-1,by omega,by omega,by omega,?_,(f2.trans f3.aB).trans f5⟩
  rw[show(p+1).toNat=p.toNat+1 by omega,List.take_add_one,List.getElem?_eq_getElem (show p.toNat<rs.length by omega)]
  rw[List.map_append]
  exact o5
 ·have hp:=H2.ge e2
  rw[List.take_of_length_le (by omega)]at o2
  have hm:((rs.map fun y=>(⟨(Lib.itoa y).toArray⟩:ByteArray)).map (·.data.toList))=rs.map Lib.itoa:=by simp
  have WA:=Eb B
  unfold zL at WA
  refine Ik o2.fa (fun hh=>by have:=congrArg List.length hh;simp at this;simp[this]at sn;omega) (by simp;omega) (by rw[hm];show(Lib.join _ [44]).length<=_;omega) _ fun h3 f3=>⟨_,rfl,.nil,?_⟩
  have:=HK h3 ((vB f2).trans f3)
  unfold lZ zL at this
  rw[if_neg (by omega)]at this
  rw[hm]
  exact this
def zK(s:St):List UInt8:=Lib.itoa s.2++58::lZ s.1
theorem vJ{S:Nat->Prop}{h:Heap}(GL:gV h){s:Sl}{rs:List Int}(H:aP S h s rs){p:Int}(hp: -9223372036854775808<=p/\p<=9223372036854775807)(B:∀x,x∈rs-> -9223372036854775808<=x/\x<=9223372036854775807)(hn:rs.length<=1000)(K:Value->Heap->Prop)(HK:∀h',Fr No h h'->K (VS ⟨(zK (rs,p)).toArray⟩) h'):aE Tryz.prog 55 #[.agg #[s.v,VI p]] h K:=by
 refine v55 s p h K fun b1 h1 dM f1 bG=> ?_
 have f1:=f1.aF
 have dl:=pF hp.1 hp.2
 have zl:=aaJ B
 refine jo (GL.no f1) hp.1 hp.2 _ fun h2 f2=>⟨_,rfl,bG.aB f2,by rw[bZ];show _+1<=_;omega,vI ((GL.no f1).no f2) ((H.no f1).no f2) B hn _ fun h3 f3=>⟨_,rfl,(bG.aB f2).aB f3,?_,?_⟩⟩
 ·rw[show(⟨#[58]⟩:ByteArray)=⟨[58].toArray⟩from rfl,eX,bZ,bZ,List.length_append];show _+1+_<=_;omega
 ·rw[show(⟨#[58]⟩:ByteArray)=⟨[58].toArray⟩from rfl,eX,eX]
  have:=HK h3 ((f1.aA f2).aA f3)
  unfold zK at this
  simpa using this
theorem Uv{S:Nat->Prop}{h:Heap}(GL:gV h){s:Sl}{rs:List Int}(ok:Bool)(H:aP S h s rs)(B:∀x,x∈rs-> -9223372036854775808<=x/\x<=9223372036854775807)(hn:rs.length<=1000)(K:Value->Heap->Prop)(HK:∀h',Fr No h h'->K (.agg #[VS ⟨(lZ rs).toArray⟩,VB ok]) h'):aE Tryz.prog 158 #[s.v,VB ok] h K:=by
 refine agp s ok h K fun b1 h1 dM f1 bG=> ?_
 have f1:=f1.aF
 refine vI (GL.no f1) (H.no f1) B hn _ fun h2 f2=>⟨_,rfl,bG.aB f2,fun h3 f3 cF=>HK h3 ?_⟩
 exact(f1.aA f2).fresh f3 fun k hk=>by simp[In]at hk;omega
theorem Qo{h:Heap}(GL:gV h){n:Int}(ok:Bool)(hn: -9223372036854775808<=n/\n<=9223372036854775807)(K:Value->Heap->Prop)(HK:∀h',Fr No h h'->K (.agg #[VS ⟨(Lib.itoa n).toArray⟩,VB ok]) h'):aE Tryz.prog 116 #[VI n,VB ok] h K:=by
 refine afx n ok h K fun b1 h1 dM f1 bG=> ?_
 have f1:=f1.aF
 refine jo (GL.no f1) hn.1 hn.2 _ fun h2 f2=>⟨_,rfl,bG.aB f2,fun h3 f3 cF=>HK h3 ?_⟩
 exact(f1.aA f2).fresh f3 fun k hk=>by simp[In]at hk;omega
def fI(lo:Nat)(h:Heap):Prop:=∀X,Fr (fun k=>lo<=k) h X->gV X
theorem fI.here{lo:Nat}{h:Heap}(G:fI lo h):gV h:=G h (Fr.refl _ _)
theorem fI.next{lo:Nat}{h h':Heap}(G:fI lo h)(f:Fr (fun k=>lo<=k) h h'):fI lo h':=fun X fX=>G X (f.trans fX)
theorem fI.no{lo:Nat}{h h':Heap}(G:fI lo h)(f:Fr No h h'):fI lo h':=G.next f.aB
theorem fI.of{h:Heap}(G:gV h):fI h.size h:=fun X f=>G.no (f.mono fun k hk aI=>absurd aI (by omega))
theorem fI.up{lo lo':Nat}{h:Heap}(G:fI lo h)(hl:lo<=lo'):fI lo' h:=fun X f=>G X (f.mono fun k _ hk=>by omega)
structure oh(lo:Nat)(h:Heap)(b1:Nat)(g w:Sl)(d:Dk)(cw:Bool)(F F' Z:Nat->Prop):Prop where
 V:Vars h [(b1,[g.v,w.v,VI d.2.2,VB cw])]
 G:fM h F g d.1
 W:bK h F' w d.2.1
 fl:∀k,F k->lo<=k/\¬Z k
 wl:∀k,F' k->lo<=k/\¬Z k
 dj:∀k,F k->¬F' k
 lb:lo<=b1
 xb:Z b1
 xh:∀k,Z k->k<h.size
def jb(lo:Nat)(h:Heap)(b1:Nat)(Z:Nat->Prop)(o:Option p5)(v:Value)(h':Heap):Prop:=
 ∃(t:ByteArray)(ok:Bool)(g w:Sl)(p:Int)(cw:Bool),v= .agg #[VS t,VB ok]/\Vars h' [(b1,[g.v,w.v,VI p,VB cw])]/\Fr (fun k=>k=b1\/h.size<=k) h h'/\match o with
  |none=>cw=true
  |some none=>cw=false/\ok=false
  |some (some r)=>cw=false/\ok=true/\t=⟨r.2.toArray⟩/\p=r.1.2.2/\∃F F',oh lo h' b1 g w r.1 false F F' Z
theorem oh.no{lo:Nat}{h h':Heap}{b1:Nat}{g w:Sl}{d:Dk}{cw:Bool}{F F' Z:Nat->Prop}(D:oh lo h b1 g w d cw F F' Z)(f:Fr No h h'):oh lo h' b1 g w d cw F F' Z:=⟨D.V.aB f,D.G.no f,Ow.no D.W f,D.fl,D.wl,D.dj,D.lb,D.xb,fun k hk=>Nat.lt_of_lt_of_le (D.xh k hk) f.size⟩
theorem oh.f1{lo:Nat}{h:Heap}{b1:Nat}{g w:Sl}{d:Dk}{cw:Bool}{F F' Z:Nat->Prop}(D:oh lo h b1 g w d cw F F' Z){k:Nat}(hk:F k):k≠b1:=fun e=>(D.fl k hk).2 (e▸D.xb)
theorem oh.w1{lo:Nat}{h:Heap}{b1:Nat}{g w:Sl}{d:Dk}{cw:Bool}{F F' Z:Nat->Prop}(D:oh lo h b1 g w d cw F F' Z){k:Nat}(hk:F' k):k≠b1:=fun e=>(D.wl k hk).2 (e▸D.xb)
theorem oh.fr{lo:Nat}{h h':Heap}{b1:Nat}{g w:Sl}{d:Dk}{cw:Bool}{F F' Z:Nat->Prop}(D:oh lo h b1 g w d cw F F' Z){T:Nat->Prop}(f:Fr T h h')(hT:∀k,T k->h.size<=k):oh lo h' b1 g w d cw F F' Z:=D.no (f.mono fun k hk h2=>by have:=hT k h2;omega)
theorem aX{h:Heap}{b1:Nat}{cs:List Value}:∀{L:List (Nat×List Value)},Vars h (L++[(b1,cs)])->Vars h [(b1,cs)]
 |[],V=>V
 |_::_,V=>aX V.tail
theorem lK{d:Dk}(h:p7 d):1<=d.2.1.length/\d.2.1.length<=8:=by
 have W:=cG h
 have:=aO W.bE
 have h2:d.2.1.length=d.1.length:=W.len
 omega
theorem Vo{rs:List Int}(h:1<=rs.length):lZ rs=zL rs:=by unfold lZ;rw[if_neg (by omega)]
theorem p8{s:St}(h:1<=s.1.length):zK s=nX s:=by unfold zK nX;rw[Vo h]
theorem Ed{lo:Nat}{h:Heap}(GL:fI lo h){b1:Nat}(wy:lo<=b1)(tu:lo<=h.size){c1 c2 w1:Sl}{c3 p1:Int}{c4 ok:Bool}{S:Nat->Prop}{rs1:List Int}(hL:Vars h [(b1,[c1.v,c2.v,VI c3,VB c4])])(H:aP S h w1 rs1)(hS:∀k,S k->k≠b1)(B:∀x,x∈rs1-> -9223372036854775808<=x/\x<=9223372036854775807)(hn:rs1.length<=1000)(hp: -9223372036854775808<=p1/\p1<=9223372036854775807)(K:Value->Heap->Prop)
 (HK:∀h',Fr (fun k=>k=b1) h h'->Vars h' [(b1,[c1.v,(if ok=true then w1 else c2).v,VI (if ok=true then p1 else c3),VB c4])]->K (.agg #[VS ⟨(zK (rs1,p1)).toArray⟩,VB ok]) h'):aE Tryz.prog 155 #[VP b1 0,.agg #[w1.v,VI p1],VB ok] h K:=by
 have lb:=hL.head.lt
 refine agk b1 c1 c2 c3 c4 w1 p1 ok h K hL fun b2 b3 h2 dE ia f2 bP=> ?_
 have f2:=f2.aF
 have z2:=f2.size
 have l3:=bP.head.lt
 have l2:=bP.tail.head.lt
 refine⟨fun x1 x2 x3 x4 h'=>x1=c1/\x2=(if ok=true then w1 else c2)/\x3=(if ok=true then p1 else c3)/\x4=c4/\Fr (fun k=>k=b1) h2 h',⟨fun e h3 f3 cF=>⟨rfl,by rw[if_pos e],by rw[if_pos e],rfl,f3.mono fun k _ hk=>by simpa[In]using hk⟩,fun e=>⟨rfl,by rw[if_neg (by rw[e];decide)],by rw[if_neg (by rw[e];decide)],rfl,Fr.refl _ _⟩⟩,?_⟩
 rintro _ _ _ _ h4 ⟨rfl,rfl,rfl,rfl,f4⟩ dN
 have z4:=f4.size
 have F4:Fr (fun k=>k=b1) h h4:=f2.aB.trans f4
 have H4:=H.fr F4 fun k hk aI=>hS k hk aI
 refine vJ (GL.next (F4.mono fun k _ hk=>by omega)).here H4 hp B hn _ fun h5 f5=>⟨_,rfl,dN.aB f5,fun h6 f6 iN=> ?_⟩
 refine HK h6 ?_ (aX (L:=[_,_]) iN)
 exact(F4.trans f5.aB).B3 f6 fun k hk=>by simp only[In,List.mem_singleton]at hk;omega
theorem oh.low{lo:Nat}{h:Heap}{b1:Nat}{g w:Sl}{d:Dk}{cw:Bool}{F F' Z:Nat->Prop}(D:oh lo h b1 g w d cw F F' Z):oh lo h b1 g w d cw (fun k=>F k/\k<h.size) (fun k=>F' k/\k<h.size) Z:=⟨D.V,D.G.mono fun k hk hF=>⟨hF,hk⟩,Ow.mono D.W fun k hk hF=>⟨hF,(D.W.aG hk).2⟩,fun k hk=>D.fl k hk.1,fun k hk=>D.wl k hk.1,fun k h1 h2=>D.dj k h1.1 h2.1,D.lb,D.xb,D.xh⟩
theorem oh.aaL{lo n:Nat}{h h':Heap}{b1:Nat}{g w w1:Sl}{d:Dk}{cw:Bool}{F F' Z:Nat->Prop}(D:oh lo h b1 g w d cw F F' Z){rs1:List Int}{p1:Int}(hn:h.size<=n)(V':Vars h' [(b1,[g.v,w1.v,VI p1,VB false])])(f:Fr (fun k=>k=b1\/n<=k) h h')(W1:bK h' (fun k=>n<=k) w1 rs1):∃F F',oh lo h' b1 g w1 (d.1,(rs1,p1)) false F F' Z:=by
 have lb:=D.V.head.lt
 have ll:=D.lb
 refine⟨fun k=>F k/\k<h.size,fun k=>n<=k,V',?_,W1,fun k hk=>D.fl k hk.1,fun k hk=>⟨by omega,fun hx=>by have:=D.xh k hx;omega⟩,fun k h1 h2=>by omega,D.lb,D.xb,fun k hk=>Nat.lt_of_lt_of_le (D.xh k hk) f.size⟩
 exact D.low.G.fr f fun k _ hk aI=>by
  have:=D.f1 hk.1
  have:=hk.2
  rcases aI with h|h<;>omega
theorem oh.ak2{lo n:Nat}{h h':Heap}{b1:Nat}{g g1 w:Sl}{d:Dk}{cw:Bool}{F F' Z:Nat->Prop}(D:oh lo h b1 g w d cw F F' Z){adL:List (List Int)}(hn:h.size<=n)(V':Vars h' [(b1,[g1.v,w.v,VI d.2.2,VB false])])(f:Fr (fun k=>k=b1\/n<=k) h h')(G1:fM h' (fun k=>n<=k) g1 adL):∃F F',oh lo h' b1 g1 w (adL,d.2) false F F' Z:=by
 have lb:=D.V.head.lt
 have ll:=D.lb
 refine⟨fun k=>n<=k,fun k=>F' k/\k<h.size,V',G1,?_,fun k hk=>⟨by omega,fun hx=>by have:=D.xh k hx;omega⟩,fun k hk=>D.wl k hk.1,fun k h1 h2=>by omega,D.lb,D.xb,fun k hk=>Nat.lt_of_lt_of_le (D.xh k hk) f.size⟩
 exact Ow.fr D.low.W f fun k hk aI=>by
  have h1:=(D.low.W.aG hk).1
  have:=D.w1 h1.1
  have:=h1.2
  rcases aI with h|h<;>omega
theorem vc{d:Dk}(h:p7 d):∀x,x∈d.2.1-> -9223372036854775808<=x/\x<=9223372036854775807:=fun x hx=>by
 have:=(fV (cG h)).1 x hx
 omega
theorem adM{lo:Nat}{h:Heap}(GL:fI lo h)(tu:lo<=h.size){b1:Nat}{g w:Sl}{d:Dk}{F F' Z:Nat->Prop}(D:oh lo h b1 g w d false F F' Z)(ok:p7 d){a:Int}(ha:0<=a/\a<=999999)(K:Value->Heap->Prop)(HK:∀v h',jb lo h b1 Z (some (Ut d a)) v h'->K v h'):aE Tryz.prog 160 #[VP b1 0,VI a] h K:=by
 have lb:=D.V.head.lt
 have dl:=lK ok
 refine v160 b1 g w d.2.2 false a h K D.V fun b2 h1 dE f1 bG=> ?_
 have f1:=f1.aF
 have z1:=f1.size
 have vY:=bG.head.lt
 refine iy (cY.no D.W.rd f1) d.2.2 (by omega) _ fun t h2 o2 f2=>⟨t,_,rfl,bG.aB f2,fun b3 h5 ia f5 ic=> ?_⟩
 have f5:=f5.aF
 have z2:=f2.size
 have z5:=f5.size
 have RZ:=ic.head.lt
 refine fR _ fun x h6 o6 f6=>⟨x,rfl,ic.aB f6,?_⟩
 have z6:=f6.size
 have sE:=((f1.aA f2).aA f5).aA f6
 refine sx (D.G.rd.no sE) o6.rd _ fun h7 f7=>⟨_,rfl,(ic.aB f6).aB f7,?_⟩
 have z7:=f7.size
 have f07:=sE.aA f7
 have D7:=D.no f07
 obtain⟨bb,hb⟩:∃bb,bb=(aM d.1&&iD 0 ((d.1.length:Int)-1) a):=⟨_,rfl⟩
 have eb:(aM d.1&&[a].all (iD 0 ((d.1.length:Int)-1)))=bb:=by rw[hb];simp
 rw[eb]
 have W7:bK h7 (Iv h1.size h2.size) t d.2.1:=Ow.no (Ow.no (Ow.no o2 f5) f6) f7
 have j8:=(ic.aB f6).aB f7
 refine Ed (GL.no f07) D.lb (by omega) D7.V W7.fa (fun k hk=>by have:=hk.1;omega) (vc ok) (by omega) (by omega) _ fun h8 f8 V8=> ?_
 have z8:=f8.size
 refine⟨g,(if bb=true then t else w),(if bb=true then a else d.2.2),false,_,bb,rfl,j8.set (i:=2) rfl f8 V8.head,fun h9 f9 gh=>HK _ h9 ?_⟩
 have n9:∀{k:Nat},In [b2] k->k=b2:=fun hk=>by simpa[In]using hk
 have fB:Fr (fun k=>k=b1\/h.size<=k) h h9:=(f07.aB.trans (f8.mono fun k _ hk=> .inl hk)).trans (f9.mono fun k _ hk=> .inr (by have:=n9 hk;omega))
 refine⟨_,bb,_,_,_,false,rfl,aX (L:=[_,_]) gh,fB,?_⟩
 unfold Ut BN
 rw[<-hb]
 cases bb with
 |false=>exact⟨rfl,rfl⟩
 |true=>
  have W9:=Ow.fr (Ow.fr W7 f8 fun k hk aI=>by have:=(W7.aG hk).1.1;omega) f9 fun k hk aI=>by have h1:=(W7.aG hk).1.1;have:=n9 aI;omega
  exact⟨rfl,rfl,by rw[p8 (s:=(d.2.1,a)) dl.1],rfl,D.aaL (n:=h.size) (Nat.le_refl _) (aX (L:=[_,_]) gh) fB (W9.mono fun k _ hk=>by have:=hk.1;omega)⟩
set_option maxHeartbeats 1000000 in
theorem Uw{lo:Nat}{h:Heap}(GL:fI lo h)(tu:lo<=h.size){b1:Nat}{g w:Sl}{d:Dk}{F F' Z:Nat->Prop}(D:oh lo h b1 g w d false F F' Z)(ok:p7 d){a c:Int}(ha:0<=a/\a<=999999)(hc:0<=c/\c<=999999)(K:Value->Heap->Prop)(HK:∀v h',jb lo h b1 Z (some (Qm d a c)) v h'->K v h'):aE Tryz.prog 168 #[VP b1 0,VI a,VI c] h K:=by
 have lb:=D.V.head.lt
 have dl:=lK ok
 have WK:=cG ok
 have wl:d.2.1.length=d.1.length:=WK.len
 refine v168 b1 g w d.2.2 false a c h K D.V fun b2 h1 dE f1 bG=> ?_
 have f1:=f1.aF
 have z1:=f1.size
 have vY:=bG.head.lt
 refine fR _ fun x h2 o2 f2=>⟨x,rfl,bG.aB f2,?_⟩
 have z2:=f2.size
 have CE:=f1.aA f2
 refine sx (D.G.rd.no CE) o2.rd _ fun h3 f3=>⟨_,rfl,(bG.aB f2).aB f3,?_⟩
 have z3:=f3.size
 have gj:=CE.aA f3
 have cF:=(bG.aB f2).aB f3
 have D3:=D.no gj
 have eb:(aM d.1&&[a].all (iD 0 ((d.1.length:Int)-1)))=(aM d.1&&iD 0 ((d.1.length:Int)-1) a):=by simp
 rw[eb]
 have n2:∀{k:Nat},In [b2] k->k=b2:=fun hk=>by simpa[In]using hk
 have fail:(aM d.1&&iD 0 ((d.1.length:Int)-1) a&&iD 0 (((d.1.getD a.toNat []).length:Int)-1) c)=false->∀{X Y:Heap}{t:ByteArray},Fr No h3 X->Fr (In [b2]) X Y->Vars Y [(b2,[VS t,VB false]),(b1,[g.v,w.v,VI d.2.2,VB false])]->K (.agg #[VS ⟨#[]⟩,VB false]) Y:=fun e X Y t fX fY V=>by
  refine HK _ Y ⟨⟨#[]⟩,false,g,w,d.2.2,false,rfl,aX (L:=[_]) V,?_,?_⟩
  ·exact(gj.aA fX).aB.trans (fY.mono fun k _ hk=> .inr (by have:=n2 hk;omega))
  ·unfold Qm BN
   rw[if_neg (by rw[e];exact Bool.false_ne_true)]
   exact⟨rfl,rfl⟩
 refine⟨fun e iu f12 q6=> ?_,fun e=> ?_⟩
 ·have e:(aM d.1&&iD 0 ((d.1.length:Int)-1) a)=false:=aY e
  exact fail (by rw[e,Bool.false_and]) (Fr.refl _ _) f12 q6
 have e:(aM d.1&&iD 0 ((d.1.length:Int)-1) a)=true:=aV e
 have ea:=aZ.1 (Bool.and_eq_true_iff.1 e).2
 have hg:=(Bool.and_eq_true_iff.1 e).1
 obtain⟨si,c1,r1⟩:=D3.G.rd.get (i:=a) ha.1 (by omega)
 have rn:=r1.len
 have gk:=(aT hg (List.getElem_mem (show a.toNat<d.1.length by omega))).1
 have eg:d.1.getD a.toNat []=d.1[a.toNat]'(by omega):=aR (by omega)
 refine⟨D3.G.rd.bB ha.1 (by omega),si,c1,?_⟩
 rw[rn,aH _ (by omega) (by omega)]
 refine eO _ _ _ h3 _ ⟨_,rfl,cF,fun e2 h5 f5 ic=> ?_,fun e2=> ?_⟩
 ·refine fail ?_ (Fr.refl _ _) f5 ic
  rw[e,Bool.true_and,eg]
  exact aY e2
 have e2':iD 0 (((d.1[a.toNat]'(by omega)).length:Int)-1) c=true:=aV e2
 refine iy (cY.no D.W.rd gj) d.2.2 (by omega) _ fun t h6 o6 f6=>⟨t,_,rfl,cF.aB f6,?_⟩
 have z6:=f6.size
 have tn:t.n=d.2.1.length:=by have:=o6.rd.len;simpa using this.symm
 refine⟨o6.bB ha.1 (by omega),fun b3 h8 ia f8 fO=> ?_⟩
 have f8:=f8.aF
 have z8:=f8.size
 have W8:=Ow.no o6 f8
 obtain⟨w1,w2,w3⟩:=W8.eH (i:=a) ha.1 (by omega) (VI c)
 have off:∀p,p∈[(b3,[t.v,VI d.2.2]),(b2,[VS (⟨#[]⟩:ByteArray),VB false]),(b1,[g.v,w.v,VI d.2.2,VB false])]->¬t.own p.1:=fun p hp hk=>by
  have h1:=(o6.aG hk)
  have:=h1.1.1
  have:=h1.2
  simp only[List.mem_cons,List.not_mem_nil,or_false]at hp
  rcases hp with rfl|rfl|rfl
  ·simp only at*;omega
  ·simp only at*;omega
  ·simp only at*;omega
 refine⟨w1,fO.fr w3 off,fun h9 e9 gh=> ?_⟩
 subst e9
 have z9:=w3.size
 have W9:bK (Mx.cK h8 (t.at a 1) (VI c)) (Iv h3.size h6.size) t (d.2.1.set a.toNat c):=by show Ow _ _ _ _ _ _;rw[List.map_set];exact w2
 have MG:Fr (fun k=>k=b1\/h.size<=k) h (Mx.cK h8 (t.at a 1) (VI c)):=((gj.aA f6).aA f8).aB.trans (w3.mono fun k _ hk=> .inr (by have:=(o6.aG hk).1.1;omega))
 have ak3:Fr (fun k=>lo<=k) h (Mx.cK h8 (t.at a 1) (VI c)):=MG.mono fun k _ hk=>by have:=D.lb;rcases hk with h|h<;>omega
 have rb:∀x,x∈d.2.1.set a.toNat c-> -9223372036854775808<=x/\x<=9223372036854775807:=fun x hx=>by
  rcases List.mem_or_eq_of_mem_set hx with hx|rfl
  ·exact vc ok x hx
  ·omega
 have sm:=(fV WK).2
 refine Ed (GL.next ak3) D.lb (by omega) (aX (L:=[_,_]) gh) W9.fa (fun k hk=>by have:=hk.1;omega) rb (by rw[List.length_set];omega) (by omega) _ fun dY f10 V10=> ?_
 refine⟨g,t,d.2.2,false,_,true,rfl,gh.set (i:=2) rfl f10 V10.head,fun ie f11 jm=>HK _ ie ?_⟩
 have fB:Fr (fun k=>k=b1\/h.size<=k) h ie:=(MG.trans (f10.mono fun k _ hk=> .inl hk)).trans (f11.mono fun k _ hk=> .inr (by have:=n2 hk;omega))
 refine⟨_,true,g,t,d.2.2,false,rfl,aX (L:=[_,_]) jm,fB,?_⟩
 unfold Qm BN
 rw[if_pos (by rw[e,Bool.true_and,eg];exact e2')]
 have W11:=Ow.fr (Ow.fr W9 f10 fun k hk aI=>by have:=(W9.aG hk).1.1;omega) f11 fun k hk aI=>by have h1:=(W9.aG hk).1.1;have:=n2 aI;omega
 exact⟨rfl,rfl,by rw[p8 (s:=(d.2.1.set a.toNat c,d.2.2)) (by rw[List.length_set];exact dl.1)],rfl,D.aaL (n:=h.size) (Nat.le_refl _) (aX (L:=[_,_]) jm) fB (W11.mono fun k _ hk=>by have:=hk.1;omega)⟩
theorem Ux{h:Heap}{s:Sl}{sep:ByteArray}(hs:s.n=0)(K:Value->Heap->Prop)(HK:K (VS ⟨#[]⟩) h):aE Tryz.prog 90 #[s.v,VS sep] h K:=by
 refine⟨fun w hw=> .inr ⟨90,_,w,Go.Proofs.enters_of Tryz.func90 (by kernel_rfl) rfl _ _,rfl,?_⟩⟩
 subst hw
 have hv:s.v= .slice s.a 0 s.c:=by unfold Sl.v;rw[hs]
 rw[hv]
 refine(Tryz.strings_Join_none s.a s.c sep w).mono ?_
 rintro e w' ⟨rfl,rfl⟩
 exact⟨_,rfl,cO.refl _,HK⟩
theorem Ee{S:Nat->Prop}{h:Heap}{s:Sl}(H:bF S h s [])(K:Value->Heap->Prop)(HK:∀h',Fr No h h'->K (VS ⟨#[]⟩) h'):aE Tryz.prog 51 #[.agg #[s.v]] h K:=by
 have sn:s.n=0:=H.len
 refine v51 s h K fun b1 h1 dM f1 bG=> ?_
 have f1:=f1.aF
 refine aS SB (fun k=>h1.size<=k) (fun _ h=>h) 0 (by omega) [] rfl rfl fun o h2 n2 c2 o2 f2 m2 _=>⟨o,rfl,bG.aB f2,?_⟩
 refine⟨fun m x i h'=>x=o/\i=0/\h'=h2,⟨0,rfl,rfl,rfl⟩,?_⟩
 rintro m _ _ _ ⟨rfl,rfl,rfl⟩ cF
 refine⟨fun e=>by rw[sn]at e;simp at e,fun e=>Ux n2 _ ⟨_,rfl,cF,HK _ (f1.aA f2)⟩⟩
theorem Ef{g:List (List Int)}{p q:Int}(h:(gS g p q).2=true):aM (gS g p q).1=true:=by
 unfold gS at h⊢
 split at h
 ·rename_i hc
  rw[if_pos hc]
  unfold j7
  have h:aM (g.set p.toNat (g.getD p.toNat []++[q]))=true:=h
  (try simp only)
  rw[if_pos h]
  exact h
 ·cases h
theorem Uy{g:List (List Int)}{p q:Int}(h:(gS g p q).2=false):(gS g p q).1=[]:=by
 unfold gS at h⊢
 split
 ·rename_i hc
  rw[if_pos hc]at h
  have h:aM (g.set p.toNat (g.getD p.toNat []++[q]))=false:=h
  show j7 _=[]
  unfold j7
  rw[if_neg (by rw[h];exact Bool.false_ne_true)]
 ·rfl
theorem aaM{lo:Nat}{h:Heap}(tu:lo<=h.size){b1:Nat}{g w:Sl}{d:Dk}{F F' Z:Nat->Prop}(D:oh lo h b1 g w d false F F' Z)(a c:Int)(K:Value->Heap->Prop)(HK:∀v h',jb lo h b1 Z (some (Vn d a c)) v h'->K v h'):aE Tryz.prog 167 #[VP b1 0,VI a,VI c] h K:=by
 have lb:=D.V.head.lt
 refine v167 b1 g w d.2.2 false a c h K D.V fun b2 h1 dE f1 bG=> ?_
 have f1:=f1.aF
 have z1:=f1.size
 have vY:=bG.head.lt
 refine LC (D.G.rd.no f1) a c _ fun t h2 o2 f2=>⟨t,_,rfl,bG.aB f2,fun b3 h4 ia f4 dN=> ?_⟩
 have f4:=f4.aF
 have z2:=f2.size
 have z4:=f4.size
 have iE:=(f1.aA f2).aA f4
 have n1:∀{k:Nat},In [b1] k->k=b1:=fun hk=>by simpa[In]using hk
 have n2:∀{k:Nat},In [b2] k->k=b2:=fun hk=>by simpa[In]using hk
 obtain⟨bb,hb⟩:∃bb,bb=(gS d.1 a c).2:=⟨_,rfl⟩
 rw[<-hb]
 have G4:=o2.no f4
 refine⟨fun x1 x2 x3 x4 h'=>x1=(if bb=true then t else g)/\x2=w/\x3=d.2.2/\x4=false/\Fr (fun k=>k=b1) h4 h',⟨fun e h5 f5 ic=>⟨by rw[if_pos e],rfl,rfl,rfl,f5.mono fun k _ hk=>n1 hk⟩,fun e=>⟨by rw[if_neg (by rw[e];decide)],rfl,rfl,rfl,Fr.refl _ _⟩⟩,?_⟩
 rintro _ x2 _ _ h6 ⟨rfl,rfl,rfl,rfl,f6⟩ iN
 have z6:=f6.size
 have G6:=G4.fr f6 fun k _ hk aI=>by have:=hk.1;omega
 have fin:∀{tx:ByteArray}{h7:Heap},Fr No h6 h7->(bb=true->tx=⟨(uj (gS d.1 a c).1).toArray⟩)->Vars h7 [(b3,[t.v]),(b2,[VS (⟨#[]⟩:ByteArray),VB false]),(b1,[(if bb=true then t else g).v,x2.v,VI d.2.2,VB false])]/\∀h8:Heap,Fr (In [b2]) h7 h8->Vars h8 [(b3,[t.v]),(b2,[VS tx,VB bb]),(b1,[(if bb=true then t else g).v,x2.v,VI d.2.2,VB false])]->K (.agg #[VS tx,VB bb]) h8:=fun{tx h7} f7 htx=>⟨iN.aB f7,fun h8 f8 fO=>by
  have fB:Fr (fun k=>k=b1\/h.size<=k) h h8:=((iE.aB.trans (f6.mono fun k _ hk=> .inl hk)).trans f7.aB).trans (f8.mono fun k _ hk=> .inr (by have:=n2 hk;omega))
  refine HK _ h8 ⟨tx,bb,_,x2,d.2.2,false,rfl,aX (L:=[_,_]) fO,fB,?_⟩
  unfold Vn
  rw[<-hb]
  cases bb with
  |false=>exact⟨rfl,rfl⟩
  |true=>
   have G8:=(G6.no f7).fr f8 fun k _ hk aI=>by have:=hk.1;have:=n2 aI;omega
   exact⟨rfl,rfl,htx rfl,rfl,D.ak2 (n:=h.size) (Nat.le_refl _) (aX (L:=[_,_]) fO) fB (G8.mono fun k _ hk=>by have:=hk.1;omega)⟩⟩
 cases SY:bb with
 |true=>
  subst SY
  have gb:=Ef hb.symm
  refine pg G6.rd (jq gb) (aO gb).1 _ fun h7 f7=>⟨_,rfl,fin f7 fun _=>rfl⟩
 |false=>
  subst SY
  rw[Uy hb.symm]at G6
  refine Ee G6.rd _ fun h7 f7=>⟨_,rfl,fin f7 fun e=>by cases e⟩
theorem Qq{lo:Nat}{h:Heap}(GL:fI lo h)(tu:lo<=h.size){b1:Nat}{g w:Sl}{d:Dk}{F F' Z:Nat->Prop}(D:oh lo h b1 g w d false F F' Z){s:ByteArray}(hs:s.size<=100000)(K:Value->Heap->Prop)(HK:∀v h',jb lo h b1 Z (gpC s.data.toList) v h'->K v h'):aE Tryz.prog 111 #[VP b1 0,VS s] h K:=by
 have lb:=D.V.head.lt
 have ll:=D.lb
 refine afn b1 g w d.2.2 false s h K D.V fun b2 h1 dE f1 bG=> ?_
 have f1:=f1.aF
 have z1:=f1.size
 have vY:=bG.head.lt
 refine CQ (GL.no f1).here hs _ fun t h2 o2 f2=>⟨t,_,rfl,bG.aB f2,fun e b3 h6 ia f6 iN=> ?_,fun e b3 h4 ia f4 dN=> ?_⟩
 ·have CE:=f1.aA f2
  have z2:=f2.size
  refine HK _ h6 ⟨_,_,g,w,d.2.2,true,rfl,aX (L:=[_,_]) iN,CE.aB.trans (f6.mono fun k _ hk=>by simp only[In,List.mem_cons,List.not_mem_nil,or_false]at hk;omega),?_⟩
  have:pf s.data.toList=none:=by
   cases hp:pf s.data.toList with
   |none=>rfl
   |some x=>unfold qk at e;rw[hp]at e;cases e
  unfold gpC
  rw[this]
 obtain⟨x,hp⟩:∃x,pf s.data.toList=some x:=by
  cases hp:pf s.data.toList with
  |none=>unfold qk at e;rw[hp]at e;cases e
  |some x=>exact⟨x,rfl⟩
 have ep:(qk s).1=x:=by unfold qk;rw[hp]
 rw[ep]at o2
 obtain⟨gb,_⟩:=wH hp
 have gl:=aO gb
 have f4:=f4.aF
 have z2:=f2.size
 have z4:=f4.size
 have RZ:=dN.head.lt
 have iE:=(f1.aA f2).aA f4
 refine NX (o2.no f4) (by omega) _ fun u h7 G7 W7 f7=>⟨t,u,0,rfl,dN.aB f7,fun h8 f8 fO=> ?_⟩
 have z7:=f7.size
 have n1:∀{k:Nat},In [b1] k->k=b1:=fun hk=>by simpa[In]using hk
 have n2:∀{k:Nat},In [b2] k->k=b2:=fun hk=>by simpa[In]using hk
 have z8:=f8.size
 have G8:=G7.fr f8 fun k _ hk aI=>by have:=hk.1.1;have:=n1 aI;omega
 have W8:=Ow.fr W7 f8 fun k hk aI=>by have:=(W7.aG hk).1;have:=n1 aI;omega
 refine pg G8.rd (jq gb) gl.1 _ fun h9 f9=>⟨_,rfl,fO.aB f9,fun dY f10 dP=> ?_⟩
 have z9:=f9.size
 have fB:Fr (fun k=>k=b1\/h.size<=k) h dY:=(((iE.aB.trans f7.aB).trans (f8.mono fun k _ hk=>by have:=n1 hk;omega)).trans f9.aB).trans (f10.mono fun k _ hk=>by have:=n2 hk;omega)
 refine HK _ dY ⟨_,_,t,u,0,false,rfl,aX (L:=[_,_]) dP,fB,?_⟩
 unfold gpC
 rw[hp]
 refine⟨rfl,rfl,rfl,rfl,fun k=>Iv h1.size h2.size k,fun k=>h4.size<=k,aX (L:=[_,_]) dP,?_,?_,fun k hk=>⟨by have:=hk.1;omega,fun hx=>by have:=hk.1;have:=D.xh k hx;omega⟩,fun k hk=>⟨by omega,fun hx=>by have:=D.xh k hx;omega⟩,fun k hk aI=>by have:=hk.2;omega,D.lb,D.xb,fun k hk=>by have:=D.xh k hk;have:=fB.size;omega⟩
 ·exact((G8.no f9).fr f10 fun k _ hk aI=>by have:=hk.1.1;have:=n2 aI;omega).mono fun k _ hk=>hk.1
 ·exact Ow.fr (Ow.no W8 f9) f10 fun k hk aI=>by have:=(W8.aG hk).1;have:=n2 aI;omega
structure Jv(r:List Int×Bool):Prop where
 b:∀x,x∈r.1-> -1000000000000000000<=x/\x<=1000000000000000000
 n:r.1.length<=1000
 ne:r.2=true->1<=r.1.length
theorem Jv.none:Jv ([],false):=⟨fun x hx=>by simp at hx,by simp,fun h=>by cases h⟩
def NtB(r:Int×Bool):Prop:=0<=r.1/\r.1<=1000000000000000000
structure MM(g:List (List Int))(r:St×Bool):Prop where
 ok:r.2=true->gv g r.1
 b:∀x,x∈r.1.1-> -9223372036854775808<=x/\x<=9223372036854775807
 n:r.1.1.length<=1000
 p: -9223372036854775808<=r.1.2/\r.1.2<=9223372036854775807
theorem MM.of{g:List (List Int)}{s:St}(W:gv g s)(b:Bool):MM g (s,b):=by
 have sm:=fV W
 exact⟨fun _=>W,fun x hx=>by have:=sm.1 x hx;omega,by have:=sm.2.2.2;show s.1.length<=1000;omega,by have:=sm.2;show _<=s.2/\s.2<=_;omega⟩
theorem MM.none(g:List (List Int)):MM g (([],0),false):=⟨fun h=>(by cases h),fun x hx=>by simp at hx,by simp,by show(-9223372036854775808:Int)<=0/\(0:Int)<=9223372036854775807;omega⟩
theorem p9(g:List (List Int))(rs:List Int)(p n:Int):MM g (dG g rs p n):=by
 unfold dG
 split
 ·rename_i h
  have W:=cG (Bool.and_eq_true_iff.1 h).1
  split
  ·exact MM.none g
  ·rename_i s hs
   exact MM.of (J8 _ _ _ W _ _ hs) true
 ·exact MM.none g
theorem Vp(g:List (List Int))(rs:List Int)(p:Int):(0<=(dX g rs p).1/\(dX g rs p).1<=10000)/\(0<=(dX g rs p).2.1/\(dX g rs p).2.1<=10000):=by
 unfold dX
 split
 ·by_cases h:∃m k,sS g (rs,p) m k/\k<=2000
  ·obtain⟨m,k,R,hk⟩:=h
   have:=R.lt
   rw[FK R hk]
   exact⟨⟨by show(0:Int)<=m;omega,by show(m:Int)<=10000;omega⟩,⟨by show(0:Int)<=(k:Int)-m;omega,by show(k:Int)-m<=10000;omega⟩⟩
  ·rw[Ky fun m k R=>Nat.lt_of_not_le fun hk=>h ⟨m,k,R,hk⟩]
   exact⟨⟨Int.le_refl _,by decide⟩,⟨Int.le_refl _,by decide⟩⟩
 ·exact⟨⟨Int.le_refl _,by decide⟩,⟨Int.le_refl _,by decide⟩⟩
theorem adN(g:List (List Int))(rs:List Int)(p:Int):Jv (rB g rs p):=by
 unfold rB
 split
 ·rename_i h
  have W:=cG h
  have gl:=aO W.bE
  by_cases h0:cT g rs p g.length<0
  ·rw[zD h0];exact Jv.none
  ·have hn:0<=cT g rs p g.length:=by omega
   by_cases hL:∃t:Nat×Nat,vz g rs p t.1 t.2
   ·obtain⟨⟨i,d⟩,L⟩:=hL
    rw[zE hn L]
    obtain⟨i',d',e1,e2,e3⟩:=sG W W.lo W.hi hn
    have hd:i+d<=g.length:=by
     rcases Nat.lt_or_ge (i'+d') (i+d)with rO|hge
     ·exact absurd e3 (L.inj i' (i'+d') (by omega) rO)
     ·omega
    have d1:=L.d1
    refine⟨fun x hx=> ?_,by simp;omega,fun _=>by simp;omega⟩
    obtain⟨r,_,hr⟩:=List.mem_map.1 hx
    have hr:cT g rs p (i+r)=x:=hr
    have: -1<=cT g rs p (i+r)/\cT g rs p (i+r)<(g.length:Int):=kO W W.lo W.hi (i+r)
    omega
   ·unfold QW
    rw[dif_neg (fun h=>hL h.2)]
    exact Jv.none
 ·exact Jv.none
theorem adO(g:List (List Int))(rs:List Int)(p n:Int):Jv (iO g rs p n):=by
 have hl:=LJ g rs p n
 refine⟨?_,by omega,?_⟩
 ·unfold iO
  split
  ·rename_i h
   have W:=cG (Bool.and_eq_true_iff.1 h).1
   have gl:=aO W.bE
   have key:∀(m:Nat)(t:List Int)(s:St)(t':List Int)(s':St),gv g s->(∀x,x∈t->0<=x/\x<=8)->runT g nS m t s=some (t',s')->∀x,x∈t'->0<=x/\x<=8:=by
    intro m
    induction m with
    |zero=>
     intro t s t' s' _ ht h
     simp only[runT,Option.some.injEq,Prod.mk.injEq]at h
     rw[<-h.1];exact ht
    |succ m ih=>
     intro t s t' s' W ht h
     rw[runT]at h
     split at h
     ·cases h
     ·rename_i s2 hs
      have W2:=W.step hs
      refine ih _ _ _ _ W2 (fun x hx=> ?_) h
      simp only[nS,List.mem_append,List.mem_singleton]at hx
      rcases hx with hx|rfl
      ·exact ht x hx
      ·have:=W2.lo;have:=W2.hi;have:=(aO W2.bE).2;omega
   split
   ·simp
   ·rename_i t s hs
    intro x hx
    have:=key _ _ _ _ _ W (fun x hx=>by simp only[List.mem_singleton]at hx;subst hx;have:=W.lo;have:=W.hi;exact⟨W.lo,by have h2:x<(g.length:Int):=W.hi;omega⟩) hs x hx
    omega
  ·simp
 ·unfold iO
  split
  ·split
   ·intro h;cases h
   ·rename_i t s hs
    intro _
    have:=yx _ _ _ _ _ hs
    simp at this
    show 1<=t.length
    omega
  ·intro h;cases h
theorem adP(g:List (List Int))(rs:List Int)(p n:Int):Jv (od g rs p n):=by
 have hl:=PQ g rs p n
 refine⟨?_,by omega,?_⟩
 ·unfold od
  split
  ·rename_i h
   have hn:=aZ.1 (Bool.and_eq_true_iff.1 h).2
   split
   ·simp
   ·rename_i t s hs
    intro x hx
    have:=(zx n.toNat 0 _ _ _ _ (fun x hx=>by simp only[List.mem_replicate]at hx;omega) hs).2 x hx
    omega
  ·simp
 ·unfold od
  split
  ·rename_i h
   have W:=cG (Bool.and_eq_true_iff.1 h).1
   have gl:=aO W.bE
   split
   ·intro h;cases h
   ·rename_i t s hs
    intro _
    have:=(zx n.toNat 0 _ _ _ _ (fun x hx=>by simp only[List.mem_replicate]at hx;omega) hs).1
    simp at this
    show 1<=t.length
    omega
  ·intro h;cases h
theorem vd{τ:Type}{g:List (List Int)}{test:τ->St->Bool×τ}{Bd:Int}:∀(f:Nat)(n:Int)(t:τ)(s:St),0<=n->0<=(bH g test Bd f n t s).1/\(bH g test Bd f n t s).1<=n+f
 |0,n,t,s,h=>by rw[bH];exact⟨Int.le_refl _,by show(0:Int)<=n+(0:Nat);omega⟩
 |f+1,n,t,s,h=>by
  have z:(0:Int)<=n+((f+1:Nat):Int):=by omega
  rw[bH]
  split
  ·split
   ·exact⟨h,by show n<=n+((f+1:Nat):Int);omega⟩
   ·split
    ·exact⟨Int.le_refl _,z⟩
    ·have:=vd (g:=g) (test:=test) (Bd:=Bd) f (n+1) (test t s).2 (by assumption) (by omega)
     exact⟨this.1,by omega⟩
  ·split
   ·exact⟨Int.le_refl _,z⟩
   ·have:=vd (g:=g) (test:=test) (Bd:=Bd) f (n+1) t (by assumption) (by omega)
    exact⟨this.1,by omega⟩
theorem adQ(g:List (List Int))(rs:List Int)(p q:Int):NtB (nA g rs p q):=by
 unfold nA
 split
 ·have:=vd (g:=g) (test:=fun(_:Unit) s=>(decide (s.2=q),())) (Bd:=0) 2001 0 () (rs,p) (Int.le_refl _)
  exact⟨this.1,by omega⟩
 ·exact⟨Int.le_refl _,by decide⟩
theorem BO{α:Type}{M:Nat}:∀{cs:List (List α)},(∀c,c∈cs->c.length<=M)->(cZ cs).length<=M^cs.length
 |[],_=>by simp[cZ]
 |c::cs,h=>by
  have ih:=BO (cs:=cs) fun d hd=>h d (List.mem_cons_of_mem _ hd)
  have hc:=h c List.mem_cons_self
  have e:(cZ (c::cs)).length=c.length*(cZ cs).length:=by
   rw[cZ,List.length_flatMap]
   have:∀l:List α,(l.map fun x=>((cZ cs).map (x:: ·)).length).sum=l.length*(cZ cs).length:=by
    intro l
    induction l with
    |nil=>simp
    |cons x l ih=>rw[List.map_cons,List.sum_cons,ih,List.length_map,List.length_cons,Nat.add_mul];omega
   exact this c
  rw[e,List.length_cons,Nat.pow_succ,Nat.mul_comm]
  exact Nat.mul_le_mul ih hc
theorem adR(g:List (List Int))(s:Int):NtB (rh g s):=by
 unfold rh
 split
 ·rename_i h
  unfold Xn at h
  rw[Bool.and_eq_true,aZ]at h
  have gl:=aO h.1
  have e:=L7 h.1 h.2.1 (by omega)
  have h1:(CL g s).length<=(qW g s).length:=List.length_filter_le _ _
  have h2:(qW g s).length<=5^8:=by
   unfold qW
   have:=BO (M:=5) (cs:=(List.range g.length).map (uc g s)) fun c hc=>by
    obtain⟨q,hq,rfl⟩:=List.mem_map.1 hc
    have hq:=List.mem_range.1 hq
    unfold uc
    split
    ·simp
    ·have:=(aT h.1 (List.getElem_mem hq)).1
     rw[aR hq]
     simp[Fw]
     omega
   rw[List.length_map,List.length_range]at this
   exact Nat.le_trans this (Nat.pow_le_pow_right (by omega) gl.2)
  have h3:(5:Nat)^8=390625:=by decide
  exact⟨by show 0<=uo g s;omega,by show uo g s<=_;omega⟩
 ·exact⟨Int.le_refl _,by decide⟩
theorem adS(g:List (List Int))(s:Int):Jv (pC g s):=by
 unfold pC
 split
 ·rename_i h
  have gl:=aO (Bool.and_eq_true_iff.1 (Bool.and_eq_true_iff.1 h).1).1
  have e:=mP g s
  exact⟨fun x hx=>by have:=Gp h x hx;omega,by show(lH g s).length<=_;omega,fun _=>by show 1<=(lH g s).length;omega⟩
 ·exact Jv.none
theorem adT(g:List (List Int))(p a b:Int):(0<=(rH g p a b).1.1/\(rH g p a b).1.1<=100000)/\(0<=(rH g p a b).1.2/\(rH g p a b).1.2<=100000):=by
 unfold rH
 split
 ·rename_i h
  rw[Bool.and_eq_true,aZ]at h
  have C:=OX h.1
  have d:=C.den
  have hp:p.toNat<g.length:=by omega
  have r:=C.Xa hp
  rw[show((p.toNat:Nat):Int)=p by omega]at r
  have gp:=wM (x:=zR g a b p) (d:=jT g a b) (by omega)
  show(0<=(jZ (zR g a b p) (jT g a b)).1/\(jZ (zR g a b p) (jT g a b)).1<=100000)/\(0<=(jZ (zR g a b p) (jT g a b)).2/\(jZ (zR g a b p) (jT g a b)).2<=100000)
  unfold jZ
  have k:∀x:Int,0<=x->x<=15625->0<=x/(Int.gcd (zR g a b p) (jT g a b):Int)/\x/(Int.gcd (zR g a b p) (jT g a b):Int)<=100000:=fun x h0 h1=>⟨Int.ediv_nonneg h0 (by omega),by have:=Int.ediv_le_self (Int.gcd (zR g a b p) (jT g a b):Int) h0;omega⟩
  exact⟨k _ r.1 (by omega),k _ (by omega) (by omega)⟩
 ·exact⟨⟨Int.le_refl _,by decide⟩,⟨Int.le_refl _,by decide⟩⟩
theorem adU(n k:Int):Jv (pE n k):=by
 unfold pE
 split
 ·rename_i h
  obtain⟨A,B,C,l,hc⟩:=lI (k:=k.toNat) (n:=n.toNat) (by omega) (by omega)
  rw[hc]
  have hl:=ik hc
  have hm:∀{m A B C:Nat}{l:List Nat},m<=250->eY k.toNat m=some (A,B,C,l)->∀i,i∈l->i<=1000000:=by
   intro m
   induction m with
   |zero=>
    intro A B C l _ hc i hi
    rw[eY]at hc
    simp only[Option.some.injEq,Prod.mk.injEq]at hc
    rw[<-hc.2.2.2]at hi
    simp at hi
   |succ m ih=>
    intro A B C l hm hc i hi
    obtain⟨A0,B0,C0,l0,h0⟩:=lI (k:=k.toNat) (n:=m) (by omega) (by omega)
    obtain⟨j,hw,_,rfl⟩:=lJ h0 hc
    rcases List.mem_append.1 hi with hi|hi
    ·exact ih (by omega) h0 i hi
    ·simp only[List.mem_singleton]at hi
     subst hi
     have key:∀(n A B C i:Nat){j B' C':Nat},i<=1000000->nU n A B C i=some (j,B',C')->j<=1000000:=by
      intro n
      induction n with
      |zero=>intro A B C i j B' C' _ h;cases h
      |succ n ih=>
       intro A B C i j B' C' hi h
       cases ht:A.testBit i with
       |false=>
        have:=u6 h ht
        simp only[Prod.mk.injEq]at this
        omega
       |true=>
        obtain⟨h1,m,hm,h2⟩:=rC h ht
        obtain rfl:n=m:=by omega
        refine ih _ _ _ _ ?_ h2
        have:=Qe h1
        unfold nxG
        split
        ·omega
        ·split
         ·omega
         ·split<;>omega
     exact key _ _ _ _ _ (by omega) hw
  refine⟨fun x hx=> ?_,by simp,fun _=>by simp⟩
  have:l.getLastD 0<=1000000:=by
   cases FN:l.getLast? with
   |none=>rw[List.getLastD_eq_getLast?,FN];simp
   |some i=>rw[List.getLastD_eq_getLast?,FN];exact hm (by omega) hc i (List.mem_of_getLast? FN)
  simp only[List.mem_cons,List.not_mem_nil,or_false]at hx
  rcases hx with rfl|rfl<;>omega
 ·exact Jv.none
theorem adV(b d k n:Int):NtB (zF b d k n):=by
 unfold zF
 split
 ·rename_i e
  obtain⟨B,D,N,rfl,rfl,rfl,q1,q2,q3,q4,q5⟩:=wN e
  simp only[Int.toNat_natCast]
  obtain⟨c1,c2,c3,c4⟩:=pZ (b:=B) (d:=D) (by omega) (by omega) N (rs:=List.replicate (bC B (D-1)) k) (by simp) (mR q4)
  have key:∀l:List Int,(∀x,x∈l->0<=x/\x<=1)->0<=l.sum/\l.sum<=l.length:=by
   intro l
   induction l with
   |nil=>intro _;simp
   |cons x l ih=>
    intro h
    have:=ih fun y hy=>h y (List.mem_cons_of_mem _ hy)
    have:=h x List.mem_cons_self
    simp only[List.sum_cons,List.length_cons]
    omega
  have:=key _ c4
  exact⟨this.1,by show List.sum _<=_;omega⟩
 ·exact⟨Int.le_refl _,by decide⟩
theorem dU{s:ByteArray}{l:List UInt8}(h:(s.toList==(⟨l.toArray⟩:ByteArray).toList)=true):s.data.toList=l:=by
 rw[qZ]at h
 exact of_decide_eq_true h
theorem aW{s:ByteArray}{l:List UInt8}(h:(s.toList==(⟨l.toArray⟩:ByteArray).toList)=false):s.data.toList≠l:=by
 rw[qZ]at h
 exact of_decide_eq_false h
theorem qa{h h':Heap}{b1:Nat}{p:Nat×List Value}{cs lS:List Value}(f:Fr (fun k=>k=b1) h h')(N:dB h' b1 lS):∀{L:List (Nat×List Value)},Vars h (L++[p,(b1,cs)])->Vars h' (L++[p,(b1,lS)])
 |[],V=>V.set (i:=1) rfl f N
 |(b,c)::L,V=>by
  have eA:b≠b1:=fun e=>V.ne (b1,cs) (by simp) e.symm
  refine .cons (V.head.fr f fun hk=>eA hk) (fun q hq=> ?_) (qa f N V.tail)
  have:∀q:Nat×List Value,q∈L++[p,(b1,cs)]->q.1≠b:=V.ne
  rcases List.mem_append.1 hq with hq|hq
  ·exact this q (List.mem_append.2 (.inl hq))
  ·simp only[List.mem_cons,List.not_mem_nil,or_false]at hq
   rcases hq with rfl|rfl
   ·exact this q (by simp)
   ·exact fun e=>eA e.symm
theorem gL{h:Heap}{p q:Nat×List Value}:∀{L:List (Nat×List Value)},Vars h (L++[p,q])->Vars h [q]
 |[],V=>V.tail
 |_::_,V=>gL V.tail
theorem jb.same{lo:Nat}{h:Heap}(tu:lo<=h.size){b1:Nat}{g w:Sl}{d:Dk}{F F' Z:Nat->Prop}(D:oh lo h b1 g w d false F F' Z){Y:Heap}{t:ByteArray}{ok:Bool}{a:p5}{tx:List UInt8}(f:Fr (fun k=>h.size<=k) h Y)(V:Vars Y [(b1,[g.v,w.v,VI d.2.2,VB false])])(h1:ok=true->a=some (d,tx)/\t=⟨tx.toArray⟩)(h2:ok=false->a=none):jb lo h b1 Z (some a) (.agg #[VS t,VB ok]) Y:=by
 refine⟨t,ok,g,w,d.2.2,false,rfl,V,f.mono fun k _ hk=> .inr hk,?_⟩
 cases ok with
 |false=>rw[h2 rfl];exact⟨rfl,rfl⟩
 |true=>
  obtain⟨e1,e2⟩:=h1 rfl
  rw[e1]
  exact⟨rfl,rfl,e2,rfl,F,F',D.fr f fun k hk=>hk⟩
theorem jb.GM{lo:Nat}{h:Heap}{b1 b2:Nat}{Z:Nat->Prop}{g w:Sl}{p:Int}{Y:Heap}{t:ByteArray}{ok:Bool}(f:Fr (fun k=>k=b1\/h.size<=k) h Y)(V:Vars Y [(b1,[g.v,w.v,VI p,VB true])]):jb lo h b1 Z none (.agg #[VS t,VB ok]) Y:=⟨t,ok,g,w,p,true,rfl,V,f,rfl⟩
theorem kD{lo:Nat}{h:Heap}(GL:fI lo h)(tu:lo<=h.size){b1 b2:Nat}{g w:Sl}{d:Dk}{F F' Z:Nat->Prop}(D:oh lo h b1 g w d false F F' Z){L0:List (Nat×List Value)}{dY:Heap}(og:Fr (fun k=>h.size<=k) h dY)(dE:h.size<=b2)(hL:Vars dY (L0++[(b2,[VS (⟨#[]⟩:ByteArray),VB false]),(b1,[g.v,w.v,VI d.2.2,VB false])])){X:Heap}{t:Sl}{S:Nat->Prop}{r:List Int×Bool}(B:Jv r)(H:aP S X t r.1)(fX:Fr No dY X){K:Value->Heap->Prop}(HK:∀v Y,jb lo h b1 Z (some (Qk d r)) v Y->K v Y):
 aE Tryz.prog 158 #[t.v,VB r.2] X fun rv h'=>∃t':ByteArray,∃Jw:Bool,rv= .agg #[VS t',VB Jw]/\Vars h' (L0++[(b2,[VS (⟨#[]⟩:ByteArray),VB false]),(b1,[g.v,w.v,VI d.2.2,VB false])])/\∀lg:Heap,Fr (In [b2]) h' lg->Vars lg (L0++[(b2,[VS t',VB Jw]),(b1,[g.v,w.v,VI d.2.2,VB false])])->K (.agg #[VS t',VB Jw]) lg:=by
 have FX:=og.trans fX.aB
 refine Uv (GL.next (FX.mono fun k _ hk=>by omega)).here r.2 H (fun x hx=>by have:=B.b x hx;omega) B.n _ fun h' f'=>⟨_,_,rfl,(hL.aB fX).aB f',fun lg f'' V=>HK _ _ (jb.same tu D (tx:=zL r.1) ((FX.trans f'.aB).trans (f''.mono fun k _ hk=>by simp only[In,List.mem_singleton]at hk;omega)) (gL V) (fun e=> ?_) fun e=> ?_)⟩
 ·unfold Qk
  rw[if_pos e,Vo (B.ne e)]
  exact⟨rfl,rfl⟩
 ·unfold Qk
  rw[if_neg (by rw[e];exact Bool.false_ne_true)]
theorem rF{lo:Nat}{h:Heap}(GL:fI lo h)(tu:lo<=h.size){b1 b2:Nat}{g w:Sl}{d:Dk}{F F' Z:Nat->Prop}(D:oh lo h b1 g w d false F F' Z){L0:List (Nat×List Value)}{dY:Heap}(og:Fr (fun k=>h.size<=k) h dY)(dE:h.size<=b2)(hL:Vars dY (L0++[(b2,[VS (⟨#[]⟩:ByteArray),VB false]),(b1,[g.v,w.v,VI d.2.2,VB false])])){X:Heap}{r:Int×Bool}(B:NtB r)(fX:Fr No dY X){K:Value->Heap->Prop}(HK:∀v Y,jb lo h b1 Z (some (Vm d r)) v Y->K v Y):
 aE Tryz.prog 116 #[VI r.1,VB r.2] X fun rv h'=>∃t':ByteArray,∃Jw:Bool,rv= .agg #[VS t',VB Jw]/\Vars h' (L0++[(b2,[VS (⟨#[]⟩:ByteArray),VB false]),(b1,[g.v,w.v,VI d.2.2,VB false])])/\∀lg:Heap,Fr (In [b2]) h' lg->Vars lg (L0++[(b2,[VS t',VB Jw]),(b1,[g.v,w.v,VI d.2.2,VB false])])->K (.agg #[VS t',VB Jw]) lg:=by
 have FX:=og.trans fX.aB
 unfold NtB at B
 refine Qo (GL.next (FX.mono fun k _ hk=>by omega)).here r.2 (by omega) _ fun h' f'=>⟨_,_,rfl,(hL.aB fX).aB f',fun lg f'' V=>HK _ _ (jb.same tu D (tx:=Lib.itoa r.1) ((FX.trans f'.aB).trans (f''.mono fun k _ hk=>by simp only[In,List.mem_singleton]at hk;omega)) (gL V) (fun e=> ?_) fun e=> ?_)⟩
 ·unfold Vm
  rw[if_pos e]
  exact⟨rfl,rfl⟩
 ·unfold Vm
  rw[if_neg (by rw[e];exact Bool.false_ne_true)]
theorem zM{lo:Nat}{h:Heap}(GL:fI lo h)(tu:lo<=h.size){b1 b2:Nat}{g w:Sl}{d:Dk}{F F' Z:Nat->Prop}(D:oh lo h b1 g w d false F F' Z){L0:List (Nat×List Value)}{dY:Heap}(og:Fr (fun k=>h.size<=k) h dY)(dE:h.size<=b2)(hL:Vars dY (L0++[(b2,[VS (⟨#[]⟩:ByteArray),VB false]),(b1,[g.v,w.v,VI d.2.2,VB false])]))(vY:b2<dY.size){X:Heap}{t:Sl}{r:St×Bool}(B:MM d.1 r)(H:bK X (Iv dY.size X.size) t r.1.1)(fX:Fr No dY X){K:Value->Heap->Prop}(HK:∀v Y,jb lo h b1 Z (some (BN d r)) v Y->K v Y):
 aE Tryz.prog 155 #[VP b1 0,.agg #[t.v,VI r.1.2],VB r.2] X fun rv h'=>∃x4:Sl,∃x5:Sl,∃x6:Int,∃x7:Bool,∃t':ByteArray,∃Jw:Bool,rv= .agg #[VS t',VB Jw]/\Vars h' (L0++[(b2,[VS (⟨#[]⟩:ByteArray),VB false]),(b1,[x4.v,x5.v,VI x6,VB x7])])/\∀lg:Heap,Fr (In [b2]) h' lg->Vars lg (L0++[(b2,[VS t',VB Jw]),(b1,[x4.v,x5.v,VI x6,VB x7])])->K (.agg #[VS t',VB Jw]) lg:=by
 have FX:=og.trans fX.aB
 have lb:=D.V.head.lt
 have zX:=FX.size
 have Ad:=fX.size
 have U1:=og.size
 have V:=hL.aB fX
 refine Ed (GL.next (FX.mono fun k _ hk=>by omega)) D.lb (by omega) (gL V) H.fa (fun k hk=>by have:=hk.1;omega) B.b B.n B.p _ fun h' f' V'=> ?_
 refine⟨g,(if r.2=true then t else w),(if r.2=true then r.1.2 else d.2.2),false,_,_,rfl,qa f' V'.head V,fun lg f'' V2=>HK _ _ ?_⟩
 have n2:∀{k:Nat},In [b2] k->k=b2:=fun hk=>by simpa[In]using hk
 have fB:Fr (fun k=>k=b1\/h.size<=k) h lg:=((FX.mono fun k _ hk=> .inr hk).trans (f'.mono fun k _ hk=> .inl hk)).trans (f''.mono fun k _ hk=> .inr (by have:=n2 hk;omega))
 refine⟨_,r.2,_,_,_,false,rfl,gL V2,fB,?_⟩
 have V3:=gL V2
 unfold BN
 cases hr:r.2 with
 |false=>rw[if_neg Bool.false_ne_true];exact⟨rfl,rfl⟩
 |true=>
  rw[hr]at V3
  have W:=B.ok hr
  have wl:1<=r.1.1.length:=by have:=aO W.bE;have h2:r.1.1.length=d.1.length:=W.len;omega
  rw[if_pos rfl]
  have W2:=Ow.fr (Ow.fr H f' fun k hk aI=>by have:=(H.aG hk).1.1;omega) f'' fun k hk aI=>by have h1:=(H.aG hk).1.1;have:=n2 aI;omega
  exact⟨rfl,rfl,by rw[p8 wl],rfl,D.aaL (n:=h.size) (Nat.le_refl _) V3 fB (W2.mono fun k _ hk=>by have:=hk.1;omega)⟩
set_option maxHeartbeats 4000000 in
theorem Qs{lo:Nat}{h:Heap}(GL:fI lo h)(tu:lo<=h.size){b1:Nat}{g w:Sl}{d:Dk}{F F' Z:Nat->Prop}(D:oh lo h b1 g w d false F F' Z)(ok:p7 d)(s:ByteArray)(K:Value->Heap->Prop)(HK:∀v h',jb lo h b1 Z (iW d s.data.toList) v h'->K v h'):aE Tryz.prog 113 #[VP b1 0,VS s] h K:=by
 have lb:=D.V.head.lt
 have ll:=D.lb
 have dl:=lK ok
 have WK:=cG ok
 refine afr b1 g w d.2.2 false s h K D.V fun b2 h1 dE f1 bG=> ?_
 have f1:=f1.aF
 have z1:=f1.size
 refine⟨fun b3 x1 b4 x2 x3 h'=>x1=g/\x2=w/\x3=d.2.2/\Fr (fun k=>h.size<=k) h h',⟨fun b5 h2 Og f2 _ b6 h3 Wp f3 _ h4 f4 _ h5 f5 _=>⟨rfl,rfl,rfl,?_⟩,fun b5 h2 Og f2 _ b6 h3 Wp f3 _ h4 f4 _ h5 f5 _=>⟨rfl,rfl,rfl,?_⟩⟩,?_⟩
 ·have:=f2.size
  exact(((f1.aB.trans f2.aF.aB).trans f3.aF.aB).trans (f4.mono fun k _ hk=>by simp only[In,List.mem_singleton]at hk;omega)).trans (f5.mono fun k _ hk=>by simp only[In,List.mem_singleton]at hk;omega)
 ·have:=f2.size
  exact(((f1.aB.trans f2.aF.aB).trans f3.aF.aB).trans (f4.mono fun k _ hk=>by simp only[In,List.mem_singleton]at hk;omega)).trans (f5.mono fun k _ hk=>by simp only[In,List.mem_singleton]at hk;omega)
 rintro b3 _ b4 _ _ dY ⟨rfl,rfl,rfl,og⟩ dP
 have Ek:=D.fr og fun k hk=>hk
 have Ad:=og.size
 have vY:=dP.tail.tail.head.lt
 have aaN:=GL.next (og.mono fun k _ hk=>by omega:Fr (fun k=>lo<=k) h dY)
 have Hh:=Ek.G.rd
 have MN:aP _ dY _ d.2.1:=Ek.W.rd
 have n2:∀{k:Nat},In [b2] k->k=b2:=fun hk=>by simpa[In]using hk
 unfold iW at HK
 refine⟨fun e=> ?_,fun e1=>⟨fun e=> ?_,fun e2=>⟨fun e=> ?_,fun e3=>⟨fun e=> ?_,fun e4=>⟨fun e=> ?_,fun e5 vy f26 tY=> ?_⟩⟩⟩⟩⟩
 ·rw[if_pos (dU e)]at HK
  refine Oe Hh MN d.2.2 _ fun t ie lV f11=>⟨t,_,_,rfl,dP.aB f11,zM GL tu D (L0:=[_,_]) og dE dP vY (p9 d.1 d.2.1 d.2.2 1) lV f11 HK⟩
 ·rw[if_neg (aW e1),if_pos (dU e)]at HK
  have gg:=WK.bE
  refine pg Hh (jq gg) (aO gg).1 _ fun Xf f14=>⟨_,rfl,dP.aB f14,fun QX f15 GN=>HK _ _ (jb.same tu D (tx:=uj d.1) ((og.trans f14.aB).trans (f15.mono fun k _ hk=>by have:=n2 hk;omega)) (aX (L:=[_,_,_]) GN) (fun _=>⟨rfl,rfl⟩) fun e=>by cases e)⟩
 ·rw[if_neg (aW e1),if_neg (aW e2),if_pos (dU e)]at HK
  have sm:=(fV WK).2
  refine vJ aaN.here MN (by omega) (vc ok) (by omega) _ fun Xf f14=>⟨_,rfl,dP.aB f14,fun QX f15 GN=>HK _ _ (jb.same tu D (tx:=nX d.2) ((og.trans f14.aB).trans (f15.mono fun k _ hk=>by have:=n2 hk;omega)) (aX (L:=[_,_,_]) GN) (fun _=>⟨rfl,by rw[p8 (s:=(d.2.1,d.2.2)) dl.1]⟩) fun e=>by cases e)⟩
 ·rw[if_neg (aW e1),if_neg (aW e2),if_neg (aW e3),if_pos (dU e)]at HK
  have pb:=Vp d.1 d.2.1 d.2.2
  refine Jj Hh MN d.2.2 _ fun h18 f18=>⟨_,_,_,rfl,dP.aB f18,?_⟩
  refine aS fL (fun k=>h18.size<=k) (fun _ h=>h) 2 (by omega) [VI (dX d.1 d.2.1 d.2.2).1,VI (dX d.1 d.2.1 d.2.2).2.1] rfl rfl fun x KP n19 c19 o19 f19 m19 _=>⟨x,rfl,(dP.aB f18).aB f19,?_⟩
  have B:Jv ([(dX d.1 d.2.1 d.2.2).1,(dX d.1 d.2.1 d.2.2).2.1],(dX d.1 d.2.1 d.2.2).2.2):=⟨fun x hx=>by
   simp only[List.mem_cons,List.not_mem_nil,or_false]at hx
   rcases hx with rfl|rfl<;>omega,by simp,fun _=>by simp⟩
  exact kD GL tu D (L0:=[_,_]) og dE dP B (show aP _ KP x [_,_]from o19.rd) (f18.aA f19) HK
 ·rw[if_neg (aW e1),if_neg (aW e2),if_neg (aW e3),if_neg (aW e4),if_pos (dU e)]at HK
  refine uW Hh MN d.2.2 _ fun t Hf o22 f22=>⟨t,_,rfl,dP.aB f22,kD GL tu D (L0:=[_,_]) og dE dP (adN d.1 d.2.1 d.2.2) o22 f22 HK⟩
 ·rw[if_neg (aW e1),if_neg (aW e2),if_neg (aW e3),if_neg (aW e4),if_neg (aW e5)]at HK
  exact HK _ _ (jb.GM (b2:=b2) ((og.mono fun k _ hk=> .inr hk).trans (f26.mono fun k _ hk=>by simp only[In,List.mem_cons,List.not_mem_nil,or_false]at hk;omega)) (aX (L:=[_,_,_]) tY))
theorem oh.block{lo:Nat}{h dY:Heap}{b1 b2:Nat}{g w:Sl}{d:Dk}{cw:Bool}{F F' Z:Nat->Prop}(D:oh lo h b1 g w d cw F F' Z)(og:Fr (fun k=>h.size<=k) h dY)(dE:h.size<=b2)(vY:b2<dY.size):oh lo dY b1 g w d cw (fun k=>F k/\k<h.size) (fun k=>F' k/\k<h.size) (fun k=>Z k\/k=b2):=by
 have D1:=D.low.fr og fun k hk=>hk
 refine⟨D1.V,D1.G,D1.W,fun k hk=>⟨(D.fl k hk.1).1,fun hx=> ?_⟩,fun k hk=>⟨(D.wl k hk.1).1,fun hx=> ?_⟩,D1.dj,D1.lb,.inl D.xb,fun k hk=> ?_⟩
 ·rcases hx with hx|hx
  ·exact(D.fl k hk.1).2 hx
  ·have:=hk.2;omega
 ·rcases hx with hx|hx
  ·exact(D.wl k hk.1).2 hx
  ·have:=hk.2;omega
 ·rcases hk with hk|hk
  ·exact D1.xh k hk
  ·omega
theorem lc{lo:Nat}{h dY ie:Heap}{b1 b2:Nat}{Z:Nat->Prop}{o:Option p5}{v:Value}(og:Fr (fun k=>h.size<=k) h dY)(dE:h.size<=b2){cs:List Value}{L0:List (Nat×List Value)}(hL:Vars dY (L0++[(b2,[VS (⟨#[]⟩:ByteArray),VB false]),(b1,cs)]))(rO:∀p,p∈L0->p.1<dY.size)(vY:b2<dY.size)(O:jb lo dY b1 (fun k=>Z k\/k=b2) o v ie){K:Value->Heap->Prop}(HK:∀v Y,jb lo h b1 Z o v Y->K v Y):
 ∃x4:Sl,∃x5:Sl,∃x6:Int,∃x7:Bool,∃t':ByteArray,∃Jw:Bool,v= .agg #[VS t',VB Jw]/\Vars ie (L0++[(b2,[VS (⟨#[]⟩:ByteArray),VB false]),(b1,[x4.v,x5.v,VI x6,VB x7])])/\∀lg:Heap,Fr (In [b2]) ie lg->Vars lg (L0++[(b2,[VS t',VB Jw]),(b1,[x4.v,x5.v,VI x6,VB x7])])->K (.agg #[VS t',VB Jw]) lg:=by
 obtain⟨t,ok,g,w,p,cw,rfl,V,f,M⟩:=O
 refine⟨g,w,p,cw,t,ok,rfl,?_,fun iu f12 V12=>HK _ _ ?_⟩
 ·have f':Fr (fun k=>k=b1) dY ie:=f.mono fun k hk h2=>by rcases h2 with h2|h2;exact h2;omega
  exact qa f' V.head hL
 ·have n2:∀{k:Nat},In [b2] k->k=b2:=fun hk=>by simpa[In]using hk
  have fB:Fr (fun k=>k=b1\/h.size<=k) h iu:=((og.mono fun k _ hk=> .inr hk).trans (f.mono fun k _ hk=>by have:=og.size;omega)).trans (f12.mono fun k _ hk=> .inr (by have:=n2 hk;omega))
  refine⟨t,ok,g,w,p,cw,rfl,gL V12,fB,?_⟩
  cases o with
  |none=>exact M
  |some a=>
   cases a with
   |none=>exact M
   |some r=>
    obtain⟨m1,m2,m3,m4,F,F',D⟩:=M
    have V13:=gL V12
    rw[m1,m4]at V13
    refine⟨m1,m2,m3,m4,F,F',V13,D.G.fr f12 fun k _ hk aI=>(D.fl k hk).2 (.inr (n2 aI)),Ow.fr D.W f12 fun k hk aI=>(D.wl k (D.W.aG hk).1).2 (.inr (n2 aI)),fun k hk=>⟨(D.fl k hk).1,fun hx=>(D.fl k hk).2 (.inl hx)⟩,fun k hk=>⟨(D.wl k hk).1,fun hx=>(D.wl k hk).2 (.inl hx)⟩,D.dj,D.lb,?_,fun k hk=>Nat.lt_of_lt_of_le (D.xh k (.inl hk)) f12.size⟩
    rcases D.xb with hx|hx
    ·exact hx
    ·exact absurd hx (fun e=>by
      have:=gL (L:=L0) hL
      have eA:∀{L:List (Nat×List Value)},Vars dY (L++[(b2,[VS (⟨#[]⟩:ByteArray),VB false]),(b1,cs)])->b1≠b2:=by
       intro L
       induction L with
       |nil=>intro V;exact V.ne (b1,cs) (by simp)
       |cons q L ih=>intro V;exact ih V.tail
      exact eA hL e)
set_option maxHeartbeats 4000000 in
theorem aaO{lo:Nat}{h:Heap}(GL:fI lo h)(tu:lo<=h.size){b1:Nat}{g w:Sl}{d:Dk}{F F' Z:Nat->Prop}(D:oh lo h b1 g w d false F F' Z)(ok:p7 d)(s:ByteArray){n:Int}(hn:0<=n/\n<=999999)(K:Value->Heap->Prop)(HK:∀v h',jb lo h b1 Z (gQ d s.data.toList n) v h'->K v h'):aE Tryz.prog 114 #[VP b1 0,VS s,VI n] h K:=by
 have lb:=D.V.head.lt
 have ll:=D.lb
 refine aft b1 g w d.2.2 false s n h K D.V fun b2 h1 dE f1 bG=> ?_
 have f1:=f1.aF
 have z1:=f1.size
 refine⟨fun b3 x1 b4 x2 x3 h'=>x1=g/\x2=w/\x3=d.2.2/\Fr (fun k=>h.size<=k) h h',⟨fun b5 h2 Og f2 _ b6 h3 Wp f3 _ h4 f4 _ h5 f5 _=>⟨rfl,rfl,rfl,?_⟩,fun b5 h2 Og f2 _ b6 h3 Wp f3 _ h4 f4 _ h5 f5 _=>⟨rfl,rfl,rfl,?_⟩⟩,?_⟩
 ·have:=f2.size
  exact(((f1.aB.trans f2.aF.aB).trans f3.aF.aB).trans (f4.mono fun k _ hk=>by simp only[In,List.mem_singleton]at hk;omega)).trans (f5.mono fun k _ hk=>by simp only[In,List.mem_singleton]at hk;omega)
 ·have:=f2.size
  exact(((f1.aB.trans f2.aF.aB).trans f3.aF.aB).trans (f4.mono fun k _ hk=>by simp only[In,List.mem_singleton]at hk;omega)).trans (f5.mono fun k _ hk=>by simp only[In,List.mem_singleton]at hk;omega)
 rintro b3 _ b4 _ _ dY ⟨rfl,rfl,rfl,og⟩ dP
 have Ek:=D.fr og fun k hk=>hk
 have Ad:=og.size
 have vY:=dP.tail.tail.head.lt
 have aaN:=GL.next (og.mono fun k _ hk=>by omega:Fr (fun k=>lo<=k) h dY)
 have Hh:=Ek.G.rd
 have MN:aP _ dY _ d.2.1:=Ek.W.rd
 unfold gQ at HK
 refine⟨fun e=> ?_,fun e1=>⟨fun e=> ?_,fun e2=>⟨fun e=> ?_,fun e3=>⟨fun e=> ?_,fun e4=>⟨fun e=> ?_,fun e5=>⟨fun e=> ?_,fun e6=>⟨fun e=> ?_,fun e7 vy f26 tY=> ?_⟩⟩⟩⟩⟩⟩⟩
 ·rw[if_pos (dU e)]at HK
  have D11:=D.block og dE vY
  exact adM aaN (by omega) D11 ok hn _ fun v ie O=>lc og dE (L0:=[_,_]) dP (fun p hp=>by
   simp only[List.mem_cons,List.not_mem_nil,or_false]at hp
   rcases hp with rfl|rfl
   ·exact dP.head.lt
   ·exact dP.tail.head.lt) vY O HK
 ·rw[if_neg (aW e1),if_pos (dU e)]at HK
  exact J9 Hh MN d.2.2 n _ fun t ie lV f11=>⟨t,_,_,rfl,dP.aB f11,zM GL tu D (L0:=[_,_]) og dE dP vY (p9 d.1 d.2.1 d.2.2 n) lV f11 HK⟩
 ·rw[if_neg (aW e1),if_neg (aW e2),if_pos (dU e)]at HK
  exact yy Hh MN d.2.2 n _ fun t ie lV f11=>⟨t,_,rfl,dP.aB f11,kD GL tu D (L0:=[_,_]) og dE dP (adO d.1 d.2.1 d.2.2 n) lV.rd f11 HK⟩
 ·rw[if_neg (aW e1),if_neg (aW e2),if_neg (aW e3),if_pos (dU e)]at HK
  exact Jc Hh MN d.2.2 n _ fun t ie lV f11=>⟨t,_,rfl,dP.aB f11,kD GL tu D (L0:=[_,_]) og dE dP (adP d.1 d.2.1 d.2.2 n) lV.rd f11 HK⟩
 ·rw[if_neg (aW e1),if_neg (aW e2),if_neg (aW e3),if_neg (aW e4),if_pos (dU e)]at HK
  exact LD Hh MN d.2.2 n _ fun ie f11=>⟨_,_,rfl,dP.aB f11,rF GL tu D (L0:=[_,_]) og dE dP (adQ d.1 d.2.1 d.2.2 n) f11 HK⟩
 ·rw[if_neg (aW e1),if_neg (aW e2),if_neg (aW e3),if_neg (aW e4),if_neg (aW e5),if_pos (dU e)]at HK
  exact De Hh n _ fun ie f11=>⟨_,_,rfl,dP.aB f11,rF GL tu D (L0:=[_,_]) og dE dP (adR d.1 n) f11 HK⟩
 ·rw[if_neg (aW e1),if_neg (aW e2),if_neg (aW e3),if_neg (aW e4),if_neg (aW e5),if_neg (aW e6),if_pos (dU e)]at HK
  exact Jm Hh n _ fun t ie lV f11=>⟨t,_,rfl,dP.aB f11,kD GL tu D (L0:=[_,_]) og dE dP (adS d.1 n) lV.rd f11 HK⟩
 ·rw[if_neg (aW e1),if_neg (aW e2),if_neg (aW e3),if_neg (aW e4),if_neg (aW e5),if_neg (aW e6),if_neg (aW e7)]at HK
  exact HK _ _ (jb.GM (b2:=b2) ((og.mono fun k _ hk=> .inr hk).trans (f26.mono fun k _ hk=>by simp only[In,List.mem_cons,List.not_mem_nil,or_false]at hk;omega)) (aX (L:=[_,_,_]) tY))
set_option maxHeartbeats 4000000 in
theorem aaP{lo:Nat}{h:Heap}(GL:fI lo h)(tu:lo<=h.size){b1:Nat}{g w:Sl}{d:Dk}{F F' Z:Nat->Prop}(D:oh lo h b1 g w d false F F' Z)(ok:p7 d)(s:ByteArray){m n:Int}(hm:0<=m/\m<=999999)(hn:0<=n/\n<=999999)(K:Value->Heap->Prop)(HK:∀v h',jb lo h b1 Z (u9 d s.data.toList m n) v h'->K v h'):aE Tryz.prog 115 #[VP b1 0,VS s,VI m,VI n] h K:=by
 have lb:=D.V.head.lt
 have ll:=D.lb
 unfold u9 at HK
 have n1:∀{b2 k:Nat},In [b2] k->k=b2:=fun hk=>by simpa[In]using hk
 refine afv b1 g w d.2.2 false s m n h K D.V ⟨fun e b2 h1 dE f1 bG=> ?_,fun e1=>⟨fun e b2 h1 dE f1 bG=> ?_,fun e2=>⟨fun e b2 h1 dE f1 bG=> ?_,fun e3=>⟨fun e b2 h1 dE f1 bG=> ?_,fun e4 b2 h20 dE f20 Uz=> ?_⟩⟩⟩⟩
 ·have f1:=f1.aF
  have z1:=f1.size
  rw[if_pos (dU e)]at HK
  exact aaM (by omega) (D.block f1.aB dE bG.head.lt) m n _ fun v ie O=>lc f1.aB dE (L0:=[]) bG (fun p hp=>by simp at hp) bG.head.lt O HK
 ·have f1:=f1.aF
  have z1:=f1.size
  rw[if_neg (aW e1),if_pos (dU e)]at HK
  exact Uw (GL.no f1) (by omega) (D.block f1.aB dE bG.head.lt) ok hm hn _ fun v ie O=>lc f1.aB dE (L0:=[]) bG (fun p hp=>by simp at hp) bG.head.lt O HK
 ·have f1:=f1.aF
  have z1:=f1.size
  rw[if_neg (aW e1),if_neg (aW e2),if_pos (dU e)]at HK
  have vY:=bG.head.lt
  have bd:=adT d.1 d.2.2 m n
  have G1:=D.G.rd.no f1
  refine⟨fun Oj b3 x9 Oh h'=>Oj=(rH d.1 d.2.2 m n).2/\x9=(rH d.1 d.2.2 m n).1.1/\Oh=(rH d.1 d.2.2 m n).1.2/\Fr No h h',⟨?_,fun b5 h9 Og f9 gh=> ?_⟩,?_⟩
  ·exact vF G1 d.2.2 m n _ fun h6 f6=>⟨_,_,_,rfl,bG.aB f6,fun b4 h8 Fi f8 fO=>⟨rfl,rfl,rfl,(f1.aA f6).aA f8.aF⟩⟩
  ·have f9:=f9.aF
   have z9:=f9.size
   exact vF (G1.no f9) d.2.2 m n _ fun dY f10=>⟨_,_,_,rfl,gh.aB f10,fun ie f11 jm=>⟨rfl,rfl,rfl,((f1.aA f9).aA f10).fresh f11 fun k hk=>by have:=n1 hk;omega⟩⟩
  rintro _ b3 _ _ iu ⟨rfl,rfl,rfl,F12⟩ q6
  have i1:=pF (n:=(rH d.1 d.2.2 m n).1.1) (by omega) (by omega)
  have i2:=pF (n:=(rH d.1 d.2.2 m n).1.2) (by omega) (by omega)
  refine jo (GL.no F12).here (by omega) (by omega) _ fun sD f13=>⟨_,rfl,q6.aB f13,by rw[bZ];show _+1<=_;omega,jo ((GL.no F12).no f13).here (by omega) (by omega) _ fun Xf f14=>⟨_,rfl,(q6.aB f13).aB f14,?_,fun QX f15 GN=>HK _ _ ?_⟩⟩
  ·rw[show(⟨#[47]⟩:ByteArray)=⟨[47].toArray⟩from rfl,eX,bZ,bZ,List.length_append];show _+1+_<=_;omega
  ·have fY:=((F12.aA f13).aA f14).fresh f15 fun k hk=>by have:=n1 hk;omega
   refine jb.same tu D (tx:=Lib.itoa (rH d.1 d.2.2 m n).1.1++47::Lib.itoa (rH d.1 d.2.2 m n).1.2) fY.aB (aX (L:=[_,_]) GN) (fun e=> ?_) fun e=> ?_
   ·unfold chC
    rw[if_pos e]
    exact⟨rfl,by rw[show(⟨#[47]⟩:ByteArray)=⟨[47].toArray⟩from rfl,eX,eX];simp⟩
   ·unfold chC
    rw[if_neg (by rw[e];exact Bool.false_ne_true)]
 ·have f1:=f1.aF
  have z1:=f1.size
  rw[if_neg (aW e1),if_neg (aW e2),if_neg (aW e3),if_pos (dU e)]at HK
  exact Ea m n _ fun t ie lV f11=>⟨t,_,rfl,bG.aB f11,kD GL tu D (L0:=[]) f1.aB dE bG (adU m n) lV.rd f11 HK⟩
 ·rw[if_neg (aW e1),if_neg (aW e2),if_neg (aW e3),if_neg (aW e4)]at HK
  exact HK _ _ (jb.GM (b2:=b2) (f20.mono fun k _ hk=> .inl (n1 hk)) (aX (L:=[_]) Uz))
set_option maxHeartbeats 4000000 in
theorem UA{lo:Nat}{h:Heap}(GL:fI lo h)(tu:lo<=h.size){b1:Nat}(wy:lo<=b1){g w:Sl}{p:Int}(hL:Vars h [(b1,[g.v,w.v,VI p,VB false])]){S:Nat->Prop}{t:Sl}{ps:List ByteArray}(T:cY S h 1 t (ps.map VS))(hS:∀k,S k->k≠b1)(qd:∀q,q∈ps->q.size<=1000000)(hn:ps.length<=100000)(K:Value->Heap->Prop)
 (HN:gK jR (ps.map (·.data.toList))=none->∀(o:Sl) h',Vars h' [(b1,[g.v,w.v,VI p,VB true])]->Fr (fun k=>k=b1\/h.size<=k) h h'->K o.v h')
 (HY:∀ns,gK jR (ps.map (·.data.toList))=some ns->∀(o:Sl) h',bK h' (fun k=>h.size<=k) o ns->Fr No h h'->K o.v h'):aE Tryz.prog 112 #[VP b1 0,t.v] h K:=by
 have lb:=hL.head.lt
 have T0:=cY.lt T
 have n1:∀{k:Nat},In [b1] k->k=b1:=fun hk=>by simpa[In]using hk
 refine afp b1 g w p false t h K hL ?_
 refine aS fL (fun k=>h.size<=k) (fun _ h=>h) 0 (by omega) [] rfl rfl fun o h1 m1 c1 o1 f1 q1 _=>⟨o,rfl,hL.aB f1,?_⟩
 refine⟨fun n x i x1 x2 x3 x4 h'=>0<=i/\i+n=(ps.length:Int)/\x1=g/\x2=w/\x3=p/\∃r:List Int,r.length=i.toNat/\bK h' (fun k=>h.size<=k) x r/\Fr (fun k=>k=b1\/h.size<=k) h h'/\(x4=false->Bx jR (ps.map (·.data.toList)) r i.toNat/\Fr (fun k=>h.size<=k) h h')/\(x4=true->∃(j:Nat)(hj:j<ps.length),jR (ps[j]).data.toList=none),
  ⟨ps.length,by omega,by omega,rfl,rfl,rfl,[],rfl,by show Ow _ _ _ _ _ _;simpa using o1,f1.aB,fun _=>⟨⟨rfl,fun j _ h'=>by simp at h'⟩,f1.aB⟩,fun h=>by cases h⟩,?_⟩
 rintro n x i x1 x2 x3 x4 h2 ⟨i0,i1,rfl,rfl,rfl,r,rl,o2,f2,hF,hT⟩ bP
 have z2:=f2.size
 have T2:=cY.fr T0 f2 fun k hk aI=>by have:=hS k hk.1;have:=hk.2;rcases aI with h|h<;>omega
 have tn:=cY.len T2
 rw[List.length_map,Nat.mul_one]at tn
 have GL2:∀{X:Heap},Fr (fun k=>k=b1\/h.size<=k) h X->gV X:=fun f=>(GL.next (f.mono fun k _ hk=>by rcases hk with h|h<;>omega)).here
 refine⟨fun e=> ?_,fun e=> ?_⟩
 ·simp only[decide_eq_true_eq]at e
  have hi:i.toNat<ps.length:=by omega
  have cc:=T2.get (i:=i) i0 (by rw[List.length_map];omega)
  rw[show(ps.map VS)[i.toNat]'(by rw[List.length_map];exact hi)=VS ps[i.toNat]from List.getElem_map _]at cc
  have hq:=qd _ (List.getElem_mem hi)
  refine⟨cY.bB T2 i0 (by rw[List.length_map];omega),_,cc,?_⟩
  obtain⟨ms,hm⟩:=wI
  refine OJ (GL2 f2) (by omega) _ (fun v h3 ha f3=>⟨v,_,rfl,bP.aB f3,fun x5 x6 x7 x8 h'=>x5=x1/\x6=x2/\x7=x3/\Fr (fun k=>k=b1\/h2.size<=k) h2 h'/\((x8=x4/\Fr No h2 h'/\jR (ps[i.toNat]).data.toList=some v)\/(x8=true/\jR (ps[i.toNat]).data.toList=none)),?_,?_⟩) fun v ty q h3 hn f3=>⟨v,_,rfl,bP.aB f3,fun x5 x6 x7 x8 h'=>x5=x1/\x6=x2/\x7=x3/\Fr (fun k=>k=b1\/h2.size<=k) h2 h'/\((x8=x4/\Fr No h2 h'/\jR (ps[i.toNat]).data.toList=some v)\/(x8=true/\jR (ps[i.toNat]).data.toList=none)),?_,?_⟩
  ·have vr:=FD ha
   have st:jR (ps[i.toNat]).data.toList=if 0<=v/\v<=999999/\Lib.itoa v=(ps[i.toNat]).data.toList then some v else none:=by unfold jR;rw[ha]
   refine Bv hm _ ⟨_,rfl,fun e=>by simp at e,fun _=> ?_⟩
   refine eO _ _ _ h3 _ ⟨_,rfl,bP.aB f3,fun e2 h7 f7 j8=> ?_,fun e2=> ?_⟩
   ·exact⟨rfl,rfl,rfl,f3.aB.trans (f7.mono fun k _ hk=> .inl (n1 hk)),.inr ⟨rfl,by rw[st,if_neg (fun hh=>by simp at e2;omega)]⟩⟩
   ·have e2:0<=v/\v<=999999:=by simpa using e2
    refine jo (GL2 (f2.trans f3.aB)) vr.1 vr.2 _ fun h5 f5=>⟨_,rfl,(bP.aB f3).aB f5,?_⟩
    rw[qZ]
    have e5:(⟨(Lib.itoa v).toArray⟩:ByteArray).data.toList=Lib.itoa v:=rfl
    rw[e5]
    refine⟨fun e3 h6 f6 iN=> ?_,fun e3=> ?_⟩
    ·have e3:=of_decide_eq_false (aY e3)
     exact⟨rfl,rfl,rfl,(f3.aA f5).aB.trans (f6.mono fun k _ hk=> .inl (n1 hk)),.inr ⟨rfl,by rw[st,if_neg (fun hh=>e3 hh.2.2)]⟩⟩
    ·have e3:=of_decide_eq_true (aV e3)
     exact⟨rfl,rfl,rfl,(f3.aA f5).aB,.inl ⟨rfl,f3.aA f5,by rw[st,if_pos ⟨e2.1,e2.2,e3⟩]⟩⟩
  rotate_left
  ·refine vC hm _ _ _ _ ⟨_,rfl,fun _ h8 f8 fO=> ?_,fun e=>by simp at e⟩
   refine⟨rfl,rfl,rfl,f3.aB.trans (f8.mono fun k _ hk=> .inl (n1 hk)),.inr ⟨rfl,?_⟩⟩
   unfold jR
   split
   ·rename_i m HA
    exact absurd HA (hn m)
   ·rfl
  all_goals
   rintro _ _ _ x8 h9 ⟨rfl,rfl,rfl,f9,hc⟩ gh
   have z9:=f9.size
   have F9:Fr (fun k=>k=b1\/h.size<=k) h h9:=f2.trans (f9.mono fun k _ hk=>by omega)
   have o9:=Ow.fr o2 f9 fun k hk aI=>by have:=o2.aG hk;omega
   refine mv (F:=fun k=>h.size<=k) o9 (fun k hk=>by omega) gh (fun q hq=>by simp only[List.mem_singleton]at hq;subst hq;show¬h.size<=b1;omega) (by omega) _ fun t7 ie lV f11 jm=> ?_
   rw[aH (i+1) (by omega) (by omega)]
   refine⟨n-1,by omega,by omega,by omega,rfl,rfl,rfl,r++[v],by rw[List.length_append,rl];simp;omega,lV,F9.trans (f11.mono fun k _ hk=> .inr hk),fun e8=> ?_,fun e8=> ?_⟩
   ·rcases hc with⟨rfl,fN,hv⟩|⟨rfl,_⟩
    ·obtain⟨SF,fF⟩:=hF e8
     refine⟨?_,(fF.trans fN.aB).trans f11⟩
     rw[show(i+1).toNat=i.toNat+1 by omega]
     exact SF.next (by rw[List.length_map];exact hi) (by rw[List.getElem_map];exact hv)
    ·cases e8
   ·rcases hc with⟨rfl,_,_⟩|⟨_,hv⟩
    ·exact hT e8
    ·exact⟨i.toNat,hi,hv⟩
 ·simp only[decide_eq_false_iff_not]at e
  cases x4 with
  |true=>
   obtain⟨j,hj,hv⟩:=hT rfl
   exact HN (mK j (by rw[List.length_map];exact hj) (by rw[List.getElem_map];exact hv)) x h2 bP f2
  |false=>
   obtain⟨SF,fF⟩:=hF rfl
   have hr:=wJ (f:=jR) (l:=ps.map (·.data.toList)) (r:=r) (by rw[SF.1,List.length_map];omega) SF.2
   exact HY r hr x h2 o2 (fF.mono fun k hk aI=>absurd aI (by omega))
theorem UB{w:List UInt8}{n:Int}(h:jR w=some n):0<=n/\n<=999999:=by
 unfold jR at h
 split at h
 ·split at h
  ·rename_i hh
   have h:=Option.some.inj h
   subst h
   exact⟨hh.1,hh.2.1⟩
  ·cases h
 ·cases h
theorem GO{ws:List (List UInt8)}{ns:List Int}(h:gK jR ws=some ns):∀n,n∈ns->0<=n/\n<=999999:=fun n hn=>by
 obtain⟨hl,hg⟩:=mH h
 obtain⟨i,hi,rfl⟩:=List.getElem_of_mem hn
 exact UB (hg i (by omega) hi)
set_option maxHeartbeats 8000000 in
theorem UC{lo:Nat}{h:Heap}(GL:fI lo h)(tu:lo<=h.size){b1:Nat}{g w:Sl}{d:Dk}{F F' Z:Nat->Prop}(D:oh lo h b1 g w d false F F' Z)(ok:p7 d){S:Nat->Prop}{t:Sl}{q0:ByteArray}{qs:List ByteArray}(T:cY S h 1 t ((q0::qs).map VS))(hS:∀k,S k->k≠b1)(qd:∀q,q∈q0::qs->q.size<=100000)(hn:(q0::qs).length<=10000)(K:Value->Heap->Prop)
 (HK:∀v h',jb lo h b1 Z (gY d (q0.data.toList::qs.map (·.data.toList))) v h'->K v h'):aE Tryz.prog 80 #[VP b1 0,t.v] h K:=by
 have lb:=D.V.head.lt
 have ll:=D.lb
 have tn:=cY.len T
 rw[List.length_map,List.length_cons,Nat.mul_one]at tn
 rw[List.length_cons]at hn
 have n1:∀{b2 k:Nat},In [b2] k->k=b2:=fun hk=>by simpa[In]using hk
 have c0:∀{X:Heap},Fr No h X->aQ X (t.at 0 1)=some (VS q0):=fun f=>(T.no f).get (i:=0) (by omega) (by simp)
 have tlt:t.n<=t.c:=T.cap
 have T1:∀{X:Heap},Fr No h X->cY S X 1 (t.cut 1 1 t.n t.c) (qs.map VS):=fun f=>by
  have:=cY.cut (T.no f) (l:=1) (m:=t.n) (by omega) (Nat.le_refl _)
  have e:(((q0::qs).map VS).drop (1*1)).take ((t.n-1)*1)=qs.map VS:=by
   simp only[List.map_cons,Nat.mul_one,List.drop_succ_cons,List.drop_zero]
   exact List.take_of_length_le (by rw[List.length_map];omega)
  rw[e]at this
  exact this
 refine v80 b1 g w d.2.2 false t h K D.V ⟨fun e=>⟨cY.bB T (by omega) (by simp),fun b2 h1 dE f1 bG=>⟨q0,c0 f1.aF,fun e2=> ?_,fun e2=>iq SB .i64 (l:=1) (by omega) (by omega) ⟨_,rfl,?_⟩⟩⟩,fun e=>iq SB .i64 (l:=1) (by omega) (by omega) ⟨_,rfl,fun b2 h1 dE f1 bG=> ?_⟩⟩
 ·have f1:=f1.aF
  have z1:=f1.size
  simp only[decide_eq_true_eq]at e
  obtain⟨q1,rfl⟩:∃q1,qs=[q1]:=by
   cases qs with
   |nil=>simp at tn;omega
   |cons a l=>cases l with
    |nil=>exact⟨a,rfl⟩
    |cons b l=>simp at tn;omega
  have cc:aQ h1 (t.at 1 1)=some (VS q1):=(T.no f1).get (i:=1) (by omega) (by simp)
  unfold gY at HK
  rw[if_pos ⟨rfl,dU e2⟩]at HK
  exact⟨cY.bB T (by omega) (by simp),q1,cc,Qq (GL.no f1) (by omega) (D.block f1.aB dE bG.head.lt) (qd q1 (by simp)) _ fun v ie O=>lc f1.aB dE (L0:=[]) bG (fun p hp=>by simp at hp) bG.head.lt O HK⟩
 all_goals
  have f1:=f1.aF
  have z1:=f1.size
  have vY:=bG.head.lt
  have ee:gY d (q0.data.toList::qs.map (·.data.toList))=match gK jR (qs.map (·.data.toList))with
   |none=>none
   |some ns=>bW d q0.data.toList ns:=by
   unfold gY
   rw[if_neg]
   ·rfl
   ·rintro⟨h1,h2⟩
    first
    |exact aW e2 h2
    |(simp only[List.length_cons,List.length_map]at h1;simp only[decide_eq_false_iff_not]at e;omega)
  rw[ee]at HK
  refine UA (GL.no f1) (by omega) D.lb (aX (L:=[_]) bG) (T1 f1) hS (fun q hq=>by have:=qd q (List.mem_cons_of_mem _ hq);omega) (by omega) _ (fun hno o h4 V4 f4=> ?_) fun ns hns o h4 o4 f4=> ?_
  ·rw[hno]at HK
   have f4':Fr (fun k=>k=b1) h1 h4:=f4.mono fun k hk h2=>by rcases h2 with h2|h2;exact h2;omega
   refine⟨g,w,d.2.2,true,o,rfl,qa (L:=[]) f4' V4.head bG,fun _ h5 f5 ic=> ?_,fun e=>by cases e⟩
   exact HK _ _ (jb.GM (b2:=b2) ((f1.aB.trans (f4.mono fun k _ hk=>by omega)).trans (f5.mono fun k _ hk=> .inr (by have:=n1 hk;omega))) (aX (L:=[_]) ic))
  ·rw[hns]at HK
   have iE:=f1.aA f4
   have z4:=f4.size
   have dN:=bG.aB f4
   have D4:=D.block iE.aB dE (by omega:b2<h4.size)
   have GL4:=GL.no iE
   have nr:=GO hns
   have on:o.n=ns.length:=by have:=o4.rd.len;simpa using this.symm
   have K0:aP o.own h4 o ns:=o4.rd
   have cq:=c0 iE
   have i0:dW t 0:=cY.bB T (by omega) (by simp)
   refine⟨g,w,d.2.2,false,o,rfl,dN,fun e=>(by cases e),fun _=>⟨fun h'=>h'=h4/\bW d q0.data.toList ns=none,⟨fun k0=> ?_,fun k0=>⟨fun k1=> ?_,fun k1=>⟨fun k2=> ?_,fun k2=>⟨fun k4=> ?_,fun k4=> ?_⟩⟩⟩⟩,?_⟩⟩
   ·simp only[decide_eq_true_eq]at k0
    obtain rfl:ns=[]:=List.eq_nil_of_length_eq_zero (by omega)
    exact⟨i0,q0,cq,Qs GL4 (by omega) D4 ok q0 _ fun v ie O=>lc iE.aB dE (L0:=[]) dN (fun p hp=>by simp at hp) (by omega) O HK⟩
   ·simp only[decide_eq_true_eq]at k1
    obtain⟨x,rfl⟩:∃x,ns=[x]:=List.length_eq_one_iff.1 (by omega)
    have hx:=nr x (by simp)
    exact⟨i0,q0,cq,K0.bB (by omega) (by simp),x,K0.get (i:=0) (by omega) (by simp),aaO GL4 (by omega) D4 ok q0 hx _ fun v ie O=>lc iE.aB dE (L0:=[]) dN (fun p hp=>by simp at hp) (by omega) O HK⟩
   ·simp only[decide_eq_true_eq]at k2
    obtain⟨x,y,rfl⟩:∃x y,ns=[x,y]:=by
     match ns,(show ns.length=2 by omega)with
     |[x,y],_=>exact⟨x,y,rfl⟩
    have hx:=nr x (by simp)
    have hy:=nr y (by simp)
    exact⟨i0,q0,cq,K0.bB (by omega) (by simp),x,K0.get (i:=0) (by omega) (by simp),K0.bB (by omega) (by simp),y,K0.get (i:=1) (by omega) (by simp),aaP GL4 (by omega) D4 ok q0 hx hy _ fun v ie O=>lc iE.aB dE (L0:=[]) dN (fun p hp=>by simp at hp) (by omega) O HK⟩
   ·simp only[decide_eq_true_eq]at k4
    obtain⟨x,y,z,u,rfl⟩:∃x y z u,ns=[x,y,z,u]:=by
     match ns,(show ns.length=4 by omega)with
     |[x,y,z,u],_=>exact⟨x,y,z,u,rfl⟩
    refine⟨i0,q0,cq,fun e5=> ?_,fun e5=> ?_⟩
    ·have hw:=dU e5
     unfold bW at HK
     (try simp only at HK)
     rw[if_pos (show q0.data.toList=zJ from hw)]at HK
     exact⟨K0.bB (by omega) (by simp),x,K0.get (i:=0) (by omega) (by simp),K0.bB (by omega) (by simp),y,K0.get (i:=1) (by omega) (by simp),K0.bB (by omega) (by simp),z,K0.get (i:=2) (by omega) (by simp),K0.bB (by omega) (by simp),u,K0.get (i:=3) (by omega) (by simp),Gv x y z u _ fun iu f12=>⟨_,_,rfl,dN.aB f12,rF GL tu D (L0:=[]) iE.aB dE dN (adV x y z u) f12 HK⟩⟩
    ·refine⟨rfl,?_⟩
     show(if q0.data.toList=zJ then _ else none)=none
     rw[if_neg (show¬q0.data.toList=zJ from aW e5)]
   ·simp only[decide_eq_false_iff_not]at k0 k1 k2 k4
    refine⟨rfl,?_⟩
    match ns,on with
    |[],on=>simp at on;omega
    |[_],on=>simp at on;omega
    |[_,_],on=>simp at on;omega
    |[_,_,_],_=>rfl
    |[_,_,_,_],on=>simp at on;omega
    |_::_::_::_::_::_,_=>rfl
   ·rintro QX ⟨rfl,adW⟩ GN Xh f17 ak6
    have HK:∀v h',jb lo h b1 Z (bW d q0.data.toList ns) v h'->K v h':=HK
    rw[adW]at HK
    exact HK _ _ (jb.GM (b2:=b2) (iE.aB.trans (f17.mono fun k _ hk=>by simp only[In,List.mem_cons,List.not_mem_nil,or_false]at hk;omega)) (aX (L:=[_]) ak6))
theorem ld{g:List (List Int)}{rs:List Int}{p:Int}(W:gv g (rs,p)):eC g rs p=true:=by
 have l:=aO W.bE
 have wl:=W.len
 have w0:=W.lo
 have w1:=W.hi
 simp only at wl w0 w1
 unfold eC
 rw[W.bE,show iD 0 ((g.length:Int)-1) p=true by unfold iD;simp;omega,decide_eq_true wl]
 simp only[Bool.true_and]
 rw[List.all_eq_true]
 rintro⟨l,r⟩ hm
 obtain⟨i,hi,e⟩:=List.getElem_of_mem hm
 have gH:=hi
 rw[List.length_zip]at gH
 rw[List.getElem_zip]at e
 have:=W.QQ i (by show i<rs.length;omega) (by omega)
 simp only[Prod.mk.injEq]at e
 obtain⟨rfl,rfl⟩:=e
 unfold Ab iD
 simp only[Bool.and_eq_true,decide_eq_true_eq]
 exact this
theorem Qt{g:List (List Int)}(hg:aM g=true):eC g (List.replicate g.length 0) 0=true:=by
 have gl:=aO hg
 refine ld ⟨hg,by simp,by simp,by show(0:Int)<g.length;omega,fun i h1 h2=> ?_⟩
 simp only[List.getElem_replicate]
 omega
theorem K1{g:List (List Int)}{rs:List Int}{a b:Int}(W:gv g (rs,a))(h0:0<=b)(h1:b<(g.length:Int)):gv g (rs,b):=⟨W.bE,W.len,h0,h1,W.QQ⟩
theorem GP{g:List (List Int)}{rs:List Int}{a c:Int}(W:gv g (rs,a)){p:Nat}(h:p<g.length)(c0:0<=c)(c1:c<=max ((g[p].length:Int)-1) 0):gv g (rs.set p c,a):=⟨W.bE,by simpa using W.len,W.lo,W.hi,fun i x y=>by
 have:=W.QQ i (by simpa using x) y
 simp only[List.getElem_set]
 split
 ·subst_vars;exact⟨c0,c1⟩
 ·exact this⟩
theorem Qu{g:List (List Int)}{rs:List Int}{a p q:Int}(W:gv g (rs,a))(h:(gS g p q).2=true):gv (gS g p q).1 (rs,a):=by
 have hg:=Ef h
 unfold gS at h hg⊢
 split at h
 ·rename_i hc
  rw[if_pos hc]at hg⊢
  have h:aM (g.set p.toNat (g.getD p.toNat []++[q]))=true:=h
  have e:j7 (g.set p.toNat (g.getD p.toNat []++[q]))=g.set p.toNat (g.getD p.toNat []++[q]):=by unfold j7;rw[if_pos h]
  simp only at hg⊢
  rw[e]at hg⊢
  have wl:=W.len
  have w1:=W.hi
  simp only at wl w1
  refine⟨hg,by simpa using wl,W.lo,by simpa using w1,fun i x y=> ?_⟩
  have:=W.QQ i x (by simpa using y)
  simp only[List.getElem_set]
  by_cases e1:p.toNat=i
  ·subst e1
   have hi:p.toNat<g.length:=by simpa using y
   rw[if_pos rfl,aR hi,List.length_append,List.length_singleton]
   simp only at this
   omega
  ·rw[if_neg e1];exact this
 ·cases h
theorem Qv{d:Dk}{r:St×Bool}(hr:MM d.1 r){a:Dk×List UInt8}(h:BN d r=some a):p7 a.1:=by
 unfold BN at h
 split at h
 ·rename_i e
  have h:=Option.some.inj h
  subst h
  exact ld (hr.ok e)
 ·cases h
theorem aaQ{d:Dk}(ok:p7 d){a:Dk×List UInt8}{p:Int}(h:Ut d p=some a):p7 a.1:=by
 have W:=cG ok
 unfold Ut BN at h
 split at h
 ·rename_i e
  have h:=Option.some.inj h
  subst h
  have:=aZ.1 (Bool.and_eq_true_iff.1 e).2
  exact ld (K1 W this.1 (show p<(d.1.length:Int) by omega))
 ·cases h
theorem Qw{d:Dk}(ok:p7 d){a:Dk×List UInt8}{p k:Int}(h:Qm d p k=some a):p7 a.1:=by
 have W:=cG ok
 unfold Qm BN at h
 split at h
 ·rename_i e
  have h:=Option.some.inj h
  subst h
  simp only[Bool.and_eq_true]at e
  have h1:=aZ.1 e.1.2
  have h2:=aZ.1 e.2
  have hp:p.toNat<d.1.length:=by omega
  rw[aR hp]at h2
  exact ld (GP W hp h2.1 (by omega))
 ·cases h
theorem jE{d:Dk}(ok:p7 d){c:Bool}{t:List UInt8}{a:Dk×List UInt8}(h:(if c=true then some (d,t)else none)=some a):p7 a.1:=by
 split at h
 ·have h:=Option.some.inj h
  subst h
  exact ok
 ·cases h
theorem Qx{d:Dk}(ok:p7 d){w:List UInt8}{a:Dk×List UInt8}(h:iW d w=some (some a)):p7 a.1:=by
 unfold iW at h
 split at h
 ·exact Qv (p9 _ _ _ _) (Option.some.inj h)
 split at h
 ·have h:=Option.some.inj (Option.some.inj h);subst h;exact ok
 split at h
 ·have h:=Option.some.inj (Option.some.inj h);subst h;exact ok
 split at h
 ·exact jE ok (Option.some.inj h)
 split at h
 ·exact jE ok (Option.some.inj h)
 ·cases h
theorem aaR{d:Dk}(ok:p7 d){w:List UInt8}{n:Int}{a:Dk×List UInt8}(h:gQ d w n=some (some a)):p7 a.1:=by
 unfold gQ at h
 split at h
 ·exact aaQ ok (Option.some.inj h)
 split at h
 ·exact Qv (p9 _ _ _ _) (Option.some.inj h)
 split at h
 ·exact jE ok (Option.some.inj h)
 split at h
 ·exact jE ok (Option.some.inj h)
 split at h
 ·exact jE ok (Option.some.inj h)
 split at h
 ·exact jE ok (Option.some.inj h)
 split at h
 ·exact jE ok (Option.some.inj h)
 ·cases h
theorem aaS{d:Dk}(ok:p7 d){w:List UInt8}{p q:Int}{a:Dk×List UInt8}(h:u9 d w p q=some (some a)):p7 a.1:=by
 unfold u9 at h
 split at h
 ·have h:=Option.some.inj h
  unfold Vn at h
  split at h
  ·rename_i e
   have h:=Option.some.inj h
   subst h
   exact ld (Qu (cG ok) e)
  ·cases h
 split at h
 ·exact Qw ok (Option.some.inj h)
 split at h
 ·exact jE ok (Option.some.inj h)
 split at h
 ·exact jE ok (Option.some.inj h)
 ·cases h
theorem sd{d:Dk}(ok:p7 d){ws:List (List UInt8)}{a:Dk×List UInt8}(h:gY d ws=some (some a)):p7 a.1:=by
 unfold gY at h
 split at h
 ·unfold gpC at h
  split at h
  ·rename_i g e
   have h:=Option.some.inj (Option.some.inj h)
   subst h
   exact Qt (wH e).1
  ·cases h
 split at h
 ·cases h
 ·unfold bW at h
  split at h
  ·exact Qx ok h
  ·exact aaR ok h
  ·exact aaS ok h
  ·split at h
   ·exact jE ok (Option.some.inj h)
   ·cases h
  ·cases h
theorem GQ{d:Dk}(ok:p7 d)(s:List UInt8):p7 (gZ d s).1:=by
 unfold gZ aaI
 split
 ·exact ok
 ·exact ok
 ·rename_i e
  exact sd ok e
theorem Eg{c:UInt8}:∀{l:List UInt8},(0<=Lib.indexByte l c)↔c∈l
 |[]=>by simp[Lib.indexByte]
 |x::l=>by
  have ih:=Eg (c:=c) (l:=l)
  have hg:=Lib.indexByte_ge l c
  unfold Lib.indexByte
  by_cases e:x=c
  ·rw[if_pos (beq_iff_eq.2 e)];subst e;simp
  ·rw[if_neg (fun h=>e (beq_iff_eq.1 h)),List.mem_cons]
   have e':¬c=x:=fun h=>e h.symm
   simp only[e',false_or]
   split
   ·rename_i hm
    have:=beq_iff_eq.1 hm
    rw[<-ih,this]
   ·rename_i hm
    have hm:Lib.indexByte l c≠ -1:=fun h=>hm (beq_iff_eq.2 h)
    rw[<-ih];omega
theorem ve{S S':Nat->Prop}{h:Heap}{g w:Sl}{d:Dk}(G:bF S h g d.1)(W:aP S' h w d.2.1)(ok:p7 d)(K:Value->Heap->Prop)(HK:∀g' w' m h',h.size<=m/\m<=h'.size->fM h' (Iv h.size m) g' d.1->bK h' (Iv m h'.size) w' d.2.1->Fr No h h'->K (.agg #[g'.v,w'.v,VI d.2.2]) h'):aE Tryz.prog 79 #[.agg #[g.v,w.v,VI d.2.2]] h K:=by
 have dl:=lK ok
 have gt:d.1.length+dO d.1<=1000000000:=by have:=mu (cG ok).bE;have:=aO (cG ok).bE;omega
 refine v79 g w d.2.2 h K fun b1 b2 h1 dM dE f1 bG=> ?_
 have f1:=f1.aF
 have z1:=f1.size
 have vY:=bG.head.lt
 refine Fg (G.no f1) gt _ fun t h2 o2 f2=>⟨t,rfl,bG.aB f2,?_⟩
 have z2:=f2.size
 refine iy (cY.no W (f1.aA f2)) d.2.2 (by omega) _ fun u h3 o3 f3=>⟨u,_,rfl,(bG.aB f2).aB f3,fun h4 f4 _=> ?_⟩
 have z3:=f3.size
 have n2:∀{k:Nat},In [b2] k->k=b2:=fun hk=>by simpa[In]using hk
 refine HK t u h2.size h4 (by have:=f4.size;omega) ((dD.fr (dD.no o2 f3) f4 fun k _ hk aI=>by have:=hk.1;have:=n2 aI;omega).mono fun k _ hk=>⟨by have:=hk.1;omega,hk.2⟩) ((Ow.fr o3 f4 fun k hk aI=>by have:=(o3.aG hk).1.1;have:=n2 aI;omega).mono fun k hk hF=>⟨hF.1,by have:=hF.2;have:=f4.size;omega⟩) ?_
 exact((f1.aA f2).aA f3).fresh f4 fun k hk=>by have:=n2 hk;omega
structure K3(n:Nat)(h:Heap)(g w:Sl)(d:Dk)(F F':Nat->Prop):Prop where
 G:fM h F g d.1
 W:bK h F' w d.2.1
 fl:∀k,F k->n<=k
 wl:∀k,F' k->n<=k
 dj:∀k,F k->¬F' k
theorem K3.no{n:Nat}{h h':Heap}{g w:Sl}{d:Dk}{F F':Nat->Prop}(D:K3 n h g w d F F')(f:Fr No h h'):K3 n h' g w d F F':=⟨D.G.no f,Ow.no D.W f,D.fl,D.wl,D.dj⟩
theorem K3.up{n m:Nat}{h:Heap}{g w:Sl}{d:Dk}{F F':Nat->Prop}(D:K3 n h g w d F F')(hm:m<=n):K3 m h g w d F F':=⟨D.G,D.W,fun k hk=>Nat.le_trans hm (D.fl k hk),fun k hk=>Nat.le_trans hm (D.wl k hk),D.dj⟩
set_option maxHeartbeats 2000000 in
theorem Jx{h:Heap}(GL:gV h){S S':Nat->Prop}{g w:Sl}{d:Dk}(G:bF S h g d.1)(W:aP S' h w d.2.1)(ok:p7 d){s:ByteArray}(hs:s.size<=3000)(K:Value->Heap->Prop)(HK:∀g' w' F F' h',K3 h.size h' g' w' (gZ d s.data.toList).1 F F'->Fr No h h'->K (.tuple #[.agg #[g'.v,w'.v,VI (gZ d s.data.toList).1.2.2],VS ⟨(gZ d s.data.toList).2.toArray⟩]) h'):aE Tryz.prog 44 #[.agg #[g.v,w.v,VI d.2.2],VS s] h K:=by
 refine v44 g w d.2.2 s h K fun b1 b2 h2 dM dE f2 bP=> ?_
 have f2:=f2.aF
 have z2:=f2.size
 have vY:b2<h2.size:=bP.head.lt
 refine ve (G.no f2) (cY.no W f2) ok _ fun g3 w3 m h3 hm G3 W3 f3=>⟨g3,w3,_,rfl,bP.aB f3,fun b3 h4 ia f4 dN=> ?_⟩
 have f4:=f4.aF
 have z3:=f3.size
 have z4:=f4.size
 have RZ:b3<h4.size:=dN.head.lt
 have iE:=(f2.aA f3).aA f4
 refine CP (GL.no iE) (by omega) _ fun t ps h5 qj T5 f5=>⟨t,rfl,dN.aB f5,?_⟩
 have z5:=f5.size
 have tX:=iE.aA f5
 have hpl:ps.length=(gU 32 s.data.toList).length:=by rw[<-qj,List.length_map]
 have qd:s.data.toList.length=s.size:=Array.length_toList
 have hp1:∀q,q∈ps->q.size<=100000:=fun q hq=>by
  have h1:q.data.toList∈gU 32 s.data.toList:=by rw[<-qj];exact List.mem_map_of_mem hq
  have h2:=Kt h1
  have h3:q.data.toList.length=q.size:=Array.length_toList
  omega
 have hp2:ps.length<=10000:=by have:=ui 32 s.data.toList;omega
 obtain⟨q0,qs,rfl⟩:∃q0 qs,ps=q0::qs:=by
  cases ps with
  |nil=>exact absurd qj.symm (Bu 32 _)
  |cons a l=>exact⟨a,l,rfl⟩
 have ic:=dN.aB f5
 have D:oh h.size h5 b3 g3 w3 d false (Iv h2.size m) (Iv m h3.size) (fun k=>k=b3\/k=b2):=by
  exact⟨.cons ic.head (by simp) .nil,(G3.no f4).no f5,Ow.no (Ow.no W3 f4) f5,fun k hk=>⟨by have:=hk.1;omega,fun hx=>by have h1:=hk.1;have h2:=hk.2;rcases hx with rfl|rfl<;>omega⟩,fun k hk=>⟨by have:=hk.1;omega,fun hx=>by have h1:=hk.1;have h2:=hk.2;rcases hx with rfl|rfl<;>omega⟩,fun k h1 h2=>by have:=h1.2;have:=h2.1;omega,by omega,.inl rfl,fun k hk=>by rcases hk with rfl|rfl<;>omega⟩
 refine UC (fI.of GL|>.no tX) (by omega) D ok T5 (fun k hk e=>by have:=hk.1;omega) hp1 hp2 _ fun v h6 O=> ?_
 rw[<-List.map_cons (f:=fun q:ByteArray=>q.data.toList),qj]at O
 obtain⟨tx,oo,g6,w6,p6,cw,rfl,V6,f6,M⟩:=O
 have f6b:Fr (fun k=>k=b3) h5 h6:=f6.mono fun k hk h2=>by rcases h2 with h2|h2;exact h2;omega
 have z6:=f6.size
 have iN:=ic.set (i:=0) rfl f6b V6.head
 have sE:Fr No h h6:=tX.fresh f6 fun k hk=>by rcases hk with rfl|hk<;>omega
 have n2:∀{k:Nat},In [b2] k->k=b2:=fun hk=>by simpa[In]using hk
 refine⟨g6,w6,p6,cw,tx,oo,rfl,iN,fun e1=>fun b4 h8 Fi f8 fO=> ?_,fun e1=>⟨fun e2=>fun b4 h8 Fi f8 fO=> ?_,fun e2=>fun b4 sD Fi f13 _=> ?_⟩⟩
 ·have f8:=f8.aF
  have z8:=f8.size
  have Fk:=sE.aA f8
  have e:gZ d s.data.toList=(d,[119,104,97,116]):=by
   unfold gZ
   generalize gY d (gU 32 s.data.toList)=o at M
   match o,M with
   |none,_=>rfl
   |some none,M=>rw[M.1]at e1;cases e1
   |some (some r),M=>rw[M.1]at e1;cases e1
  rw[e]at HK
  refine ve (G.no Fk) (cY.no W Fk) ok _ fun g9 w9 m9 h9 hm9 G9 W9 f9=>⟨g9,w9,_,rfl,fO.aB f9,fun dY f10 _=>HK _ _ (Iv h8.size m9) (Iv m9 h9.size) _ ⟨G9.fr f10 fun k _ hk aI=>by have:=hk.1;have:=n2 aI;omega,Ow.fr W9 f10 fun k hk aI=>by have:=(W9.aG hk).1.1;have:=n2 aI;omega,fun k hk=>by have:=hk.1;omega,fun k hk=>by have:=hk.1;omega,fun k h1 h2=>by have:=h1.2;have:=h2.1;omega⟩ ((Fk.aA f9).fresh f10 fun k hk=>by have:=n2 hk;omega)⟩
 ·have f8:=f8.aF
  have z8:=f8.size
  have Fk:=sE.aA f8
  have e:gZ d s.data.toList=(d,[110,111]):=by
   unfold gZ
   generalize gY d (gU 32 s.data.toList)=o at M
   match o,M with
   |none,M=>rw[show cw=true from M]at e1;cases e1
   |some none,_=>rfl
   |some (some r),M=>rw[M.2.1]at e2;cases e2
  rw[e]at HK
  refine ve (G.no Fk) (cY.no W Fk) ok _ fun g9 w9 m9 h9 hm9 G9 W9 f9=>⟨g9,w9,_,rfl,fO.aB f9,fun dY f10 _=>HK _ _ (Iv h8.size m9) (Iv m9 h9.size) _ ⟨G9.fr f10 fun k _ hk aI=>by have:=hk.1;have:=n2 aI;omega,Ow.fr W9 f10 fun k hk aI=>by have:=(W9.aG hk).1.1;have:=n2 aI;omega,fun k hk=>by have:=hk.1;omega,fun k hk=>by have:=hk.1;omega,fun k h1 h2=>by have:=h1.2;have:=h2.1;omega⟩ ((Fk.aA f9).fresh f10 fun k hk=>by have:=n2 hk;omega)⟩
 ·obtain⟨r,e,F,F',rfl,rfl,D6⟩:∃r,gZ d s.data.toList=r/\∃F F',tx=⟨r.2.toArray⟩/\p6=r.1.2.2/\oh h.size h6 b3 g6 w6 r.1 false F F' (fun k=>k=b3\/k=b2):=by
   unfold gZ
   generalize gY d (gU 32 s.data.toList)=o at M
   match o,M with
   |none,M=>rw[show cw=true from M]at e1;cases e1
   |some none,M=>rw[M.2]at e2;cases e2
   |some (some r),M=>
    obtain⟨_,_,m3,m4,F,F',D⟩:=M
    exact⟨r,rfl,F,F',m3,m4,D⟩
  subst e
  exact HK _ _ F F' _ ⟨D6.G.fr f13 fun k _ hk aI=>(D6.fl k hk).2 (.inr (n2 aI)),Ow.fr D6.W f13 fun k hk aI=>(D6.wl k (D6.W.aG hk).1).2 (.inr (n2 aI)),fun k hk=>(D6.fl k hk).1,fun k hk=>(D6.wl k hk).1,D6.dj⟩ (sE.fresh f13 fun k hk=>by have:=n2 hk;omega)
theorem GS{h:Heap}(s:ByteArray)(c:UInt8):pO Tryz.prog 43 #[VS s,VS ⟨#[c]⟩] h (VB (decide (c∈s.data.toList))):=by
 intro K HK
 refine⟨fun w hw=> .inr ⟨43,_,w,Go.Proofs.enters_of Tryz.func43 (by kernel_rfl) rfl _ _,rfl,?_⟩⟩
 subst hw
 refine(Tryz.strings_Contains_one s c w).mono ?_
 rintro e w' ⟨rfl,rfl⟩
 refine⟨_,rfl,?_⟩
 rw[decide_eq_decide.2 (Eg (c:=c) (l:=s.data.toList))]
 exact⟨⟨rfl,rfl,rfl⟩,HK _ (Fr.refl _ _)⟩
theorem zN{h:Heap}(GL:gV h){S S':Nat->Prop}{g w:Sl}{d:Dk}(G:bF S h g d.1)(W:aP S' h w d.2.1)(s:ByteArray)(K:Value->Heap->Prop)
 (HN:dQ d s.data.toList=none->∀h',Fr No h h'->K (.tuple #[.agg #[aC.v,aC.v,VI 0],VS ⟨#[]⟩,VB false]) h')
 (HS:∀r,dQ d s.data.toList=some r->∀g' w' F F' h',K3 h.size h' g' w' r.1 F F'->Fr No h h'->K (.tuple #[.agg #[g'.v,w'.v,VI r.1.2.2],VS ⟨r.2.toArray⟩,VB true]) h'):aE Tryz.prog 11 #[.agg #[g.v,w.v,VI d.2.2],VS s] h K:=by
 refine v11 g w d.2.2 s h K fun b1 b2 h2 dM dE f2 bP=> ?_
 have f2:=f2.aF
 have z2:=f2.size
 have vY:b2<h2.size:=bP.head.lt
 have n2:∀{k:Nat},In [b2] k->k=b2:=fun hk=>by simpa[In]using hk
 have qd:s.data.toList.length=s.size:=Array.length_toList
 refine NV (G.no f2) (cY.no W f2) d.2.2 _ fun h3 f3=>⟨_,rfl,bP.aB f3,fun e=>fun ie f11 _=> ?_,fun e=>⟨fun e2=>fun dY f10 _=> ?_,fun e2=> ?_⟩⟩
 ·refine HN ?_ _ ((f2.aA f3).fresh f11 fun k hk=>by have:=n2 hk;omega)
  unfold dQ
  rw[if_neg (fun h=>by rw[h.1]at e;cases e)]
 ·refine HN ?_ _ ((f2.aA f3).fresh f10 fun k hk=>by have:=n2 hk;omega)
  unfold dQ
  simp only[decide_eq_true_eq]at e2
  rw[if_neg (fun h=>by have:=h.2.1;omega)]
 ·simp only[decide_eq_false_iff_not]at e2
  have gj:=f2.aA f3
  have z3:=f3.size
  have ok:p7 d:=aV e
  refine GS s 10 _ fun h4 f4=>⟨_,rfl,(bP.aB f3).aB f4,fun e3=>fun h5 f5 _=> ?_,fun e3=> ?_⟩
  ·refine HN ?_ _ ((gj.aA f4).fresh f5 fun k hk=>by have:=n2 hk;omega)
   unfold dQ
   simp only[decide_eq_true_eq]at e3
   rw[if_neg (fun h=>h.2.2 e3)]
  ·have iE:=gj.aA f4
   have z4:=f4.size
   simp only[decide_eq_false_iff_not]at e3
   refine Jx (GL.no iE) (G.no iE) (cY.no W iE) ok (by omega) _ fun g6 w6 F F' h6 D6 f6=>⟨g6,w6,_,_,rfl,((bP.aB f3).aB f4).aB f6,fun b3 h9 ia f9 _=> ?_⟩
   have z6:=f6.size
   refine HS _ ?_ g6 w6 F F' _ ⟨D6.G.fr f9 fun k _ hk aI=>by have:=D6.fl k hk;have:=n2 aI;omega,Ow.fr D6.W f9 fun k hk aI=>by have:=D6.wl k (D6.W.aG hk).1;have:=n2 aI;omega,fun k hk=>by have:=D6.fl k hk;omega,fun k hk=>by have:=D6.wl k hk;omega,D6.dj⟩ ((iE.aA f6).fresh f9 fun k hk=>by have:=n2 hk;omega)
   unfold dQ
   rw[if_pos ⟨ok,by omega,e3⟩]
def Jy(l:List UInt8):ByteArray:=⟨l.toArray⟩
structure Qy(n:Nat)(B:Nat->Prop)(h:Heap)(g w:Sl)(d:Dk)(t:Sl)(rs:List (List UInt8)):Prop where
 ex:∃F F' R,K3 n h g w d F F'/\He h R t (rs.map Jy)/\(∀k,R k->n<=k/\¬F k/\¬F' k)/\(∀k,F k\/F' k\/R k->k<h.size/\¬B k)
theorem Qy.of{n:Nat}{B:Nat->Prop}{h:Heap}{g w:Sl}{d:Dk}{t:Sl}{rs:List (List UInt8)}{F F' R:Nat->Prop}(D:K3 n h g w d F F')(O:He h R t (rs.map Jy))(hR:∀k,R k->k<h.size->n<=k/\¬(F k/\k<h.size)/\¬(F' k/\k<h.size))(hB:∀k,F k\/F' k\/R k->k<h.size->¬B k):Qy n B h g w d t rs:=
 ⟨fun k=>F k/\k<h.size,fun k=>F' k/\k<h.size,fun k=>R k/\k<h.size,⟨D.G.mono fun k hk hF=>⟨hF,hk⟩,Ow.mono D.W fun k hk hF=>⟨hF,(D.W.aG hk).2⟩,fun k hk=>D.fl k hk.1,fun k hk=>D.wl k hk.1,fun k h1 h2=>D.dj k h1.1 h2.1⟩,Ow.mono O fun k hk hF=>⟨hF,(O.aG hk).2⟩,fun k hk=>hR k hk.1 hk.2,fun k hk=>by
  rcases hk with hk|hk|hk
  ·exact⟨hk.2,hB k (.inl hk.1) hk.2⟩
  ·exact⟨hk.2,hB k (.inr (.inl hk.1)) hk.2⟩
  ·exact⟨hk.2,hB k (.inr (.inr hk.1)) hk.2⟩⟩
theorem Qy.fr{n:Nat}{B:Nat->Prop}{h h':Heap}{g w:Sl}{d:Dk}{t:Sl}{rs:List (List UInt8)}{T:Nat->Prop}(R:Qy n B h g w d t rs)(f:Fr T h h')(hT:∀k,T k->k<n\/h.size<=k\/B k):Qy n B h' g w d t rs:=by
 obtain⟨F,F',Q,D,O,q1,q2⟩:=R
 have key:∀k,F k\/F' k\/Q k->n<=k->¬T k:=fun k hk hn hT2=>by
  have:=q2 k hk
  rcases hT k hT2 with h|h|h
  ·omega
  ·omega
  ·exact this.2 h
 exact⟨F,F',Q,⟨D.G.fr f fun k _ hk aI=>key k (.inl hk) (D.fl k hk) aI,Ow.fr D.W f fun k hk aI=>key k (.inr (.inl (D.W.aG hk).1)) (D.wl k (D.W.aG hk).1) aI,D.fl,D.wl,D.dj⟩,Ow.fr O f fun k hk aI=>key k (.inr (.inr (O.aG hk).1)) (q1 k (O.aG hk).1).1 aI,q1,fun k hk=>⟨Nat.lt_of_lt_of_le (q2 k hk).1 f.size,(q2 k hk).2⟩⟩
theorem Qz{P:Program}{t:TypeId}(ht:P.underlying t=some .string){K:Value->Prop}(k k':IntKind)(s:ByteArray)(i j:Int)(h0:0<=i)(h1:i<=j)(h2:j<=s.size)(H:K (VS (s.extract i.toNat j.toNat))):pop P (Instr.sliceAt t (VS s) (some (.int k i)) (some (.int k' j)) none) K:=
 .mk' (fun w=>by rw[run_sliceAt_string w t _ _ _ _ ht,run_slice_string w t s k k' i j ht h0 h1 h2]) H
theorem UD{P:Program}{t:TypeId}(ht:P.underlying t=some .string){K:Value->Prop}(k:IntKind)(s:ByteArray)(m:Int)(h0:0<=m)(h1:m<=s.size)(H:K (VS (s.extract m.toNat s.size))):pop P (Instr.sliceAt t (VS s) (some (.int k m)) none none) K:=
 .mk' (fun w=>by rw[run_sliceAt_string w t _ _ _ _ ht,run_slice_string_l w t s ht k m h0 h1]) H
theorem QA(s:ByteArray)(i j:Nat):(s.extract i j).data.toList=(s.data.toList.drop i).take (j-i):=by
 rw[ByteArray.data_extract,Array.toList_extract,List.extract_eq_take_drop]
theorem vf{s:ByteArray}{i:Nat}(h:i<s.size)(h':i<s.data.toList.length):s[i]'h=s.data.toList[i]'h':=by
 rw[Array.getElem_toList];rfl
theorem BP{h:Heap}{s:ByteArray}(c:UInt8)(hs:s.size<=100000)(K:Value->Heap->Prop)(HK:∀(t:Sl)(ps:List ByteArray) h',ps.map (·.data.toList)=gU c s.data.toList->He h' (fun k=>h.size<=k) t ps->Fr No h h'->K t.v h'):aE Tryz.prog 46 #[VS s,.int .u8 c.toNat] h K:=by
 have sl:=jX s
 refine v46 s c.toNat h K ?_
 refine⟨fun n out f i h'=>0<=f/\f<=i/\i+n=(s.size:Int)/\(∃ps:List ByteArray,He h' (fun k=>h.size<=k) out ps/\ps.map (·.data.toList)++gU c (s.data.toList.drop f.toNat)=gU c s.data.toList/\(ps.length:Int)<=f)/\c∉(s.data.toList.drop f.toNat).take (i.toNat-f.toNat)/\Fr (fun k=>h.size<=k) h h',⟨s.size,by omega,by omega,by omega,⟨[],Ow.nil _ _ _ _,rfl,by simp⟩,by simp,Fr.refl _ _⟩,?_⟩
 rintro n out f i h1 ⟨f0,f1,i1,⟨ps,O,hp,pl⟩,hc,F1⟩ _
 have z1:=F1.size
 have put:∀{x:ByteArray}(R:Sl->Heap->Prop),(∀t h',He h' (fun k=>h.size<=k) t (ps++[x])->Fr (fun k=>h.size<=k) h h'->R t h')->kE Tryz.prog (Instr.buildSlice SA 1 #[(0,VS x)]) h1 fun rv h2=>∃t:Sl,rv=t.v/\Vars h2 []/\kE Tryz.prog (bR SA SA SA out.v t.v) h2 fun Ia h3=>∃t2:Sl,Ia=t2.v/\Vars h3 []/\R t2 h3:=fun{x} R HR=>sO O (fun k hk=>by omega) .nil (fun q hq=>by cases hq) (by omega) R fun t h' o f _=>HR t h' o (F1.trans f)
 refine⟨fun e=> ?_,fun e=> ?_⟩
 ·simp only[decide_eq_true_eq]at e
  have il:i.toNat<s.data.toList.length:=by omega
  have e1:aL (i+1)=i+1:=by rw[aH]<;>omega
  have hd:s.data.toList.drop f.toNat=(s.data.toList.drop f.toNat).take (i.toNat-f.toNat)++s.data.toList[i.toNat]::s.data.toList.drop (i.toNat+1):=by
   have:=List.take_append_drop (i.toNat-f.toNat) (s.data.toList.drop f.toNat)
   rw[List.drop_drop,show f.toNat+(i.toNat-f.toNat)=i.toNat by omega,List.drop_eq_getElem_cons il]at this
   exact this.symm
  rw[e1]
  refine⟨fun adX f' h'=>0<=f'/\f'<=i+1/\(∃ps:List ByteArray,He h' (fun k=>h.size<=k) adX ps/\ps.map (·.data.toList)++gU c (s.data.toList.drop f'.toNat)=gU c s.data.toList/\(ps.length:Int)<=f')/\c∉(s.data.toList.drop f'.toNat).take ((i+1).toNat-f'.toNat)/\Fr (fun k=>h.size<=k) h h',nG (by kernel_rfl) _ _ i (by omega) (by omega) ⟨_,rfl,fun e2=> ?_,fun e2=> ?_⟩,?_⟩
  ·simp only[decide_eq_true_eq]at e2
   rw[vf _ il]at e2
   have e2:s.data.toList[i.toNat]=c:=UInt8.toNat_inj.1 (by omega)
   refine Qz (by kernel_rfl) _ _ s f i f0 f1 (by omega) ⟨_,rfl,put _ fun t h' o F=> ?_⟩
   refine⟨by omega,by omega,⟨_,o,?_,by rw[List.length_append,List.length_singleton];omega⟩,?_,F⟩
   ·rw[hd,e2,Il _ hc]at hp
    rw[List.map_append,List.map_cons,List.map_nil,QA,List.append_assoc,show(i+1).toNat=i.toNat+1 by omega]
    exact hp
   ·rw[Nat.sub_self];simp
  ·simp only[decide_eq_false_iff_not]at e2
   rw[vf _ il]at e2
   have e2:c≠s.data.toList[i.toNat]:=fun h=>e2 (by rw[<-h])
   refine⟨f0,by omega,⟨ps,O,hp,pl⟩,?_,F1⟩
   rw[show(i+1).toNat-f.toNat=(i.toNat-f.toNat)+1 by omega,List.take_add_one,List.mem_append]
   rintro(hx|hx)
   ·exact hc hx
   ·rw[List.getElem?_drop,show f.toNat+(i.toNat-f.toNat)=i.toNat by omega,List.getElem?_eq_getElem il]at hx
    simp only[Option.toList_some,List.mem_singleton]at hx
    exact e2 hx
  ·rintro adX f' h4 ⟨a,b,q,c',F⟩ _
   exact⟨n-1,by omega,a,b,by omega,q,c',F⟩
 ·simp only[decide_eq_false_iff_not]at e
  refine UD (by kernel_rfl) _ s f f0 (by omega) ⟨_,rfl,put _ fun t h' o F=> ?_⟩
  refine HK t _ h' ?_ o (F.mono fun k hk h2=>by omega)
  have hx:(s.data.toList.drop f.toNat).take (i.toNat-f.toNat)=s.data.toList.drop f.toNat:=List.take_of_length_le (by rw[List.length_drop];omega)
  rw[hx]at hc
  rw[CM hc]at hp
  rw[List.map_append,List.map_cons,List.map_nil,QA,List.take_of_length_le (by rw[List.length_drop];omega)]
  exact hp
theorem QB{h:Heap}(s:ByteArray)(K:Value->Heap->Prop)(HK:∀h',Fr No h h'->K (VI (match mT s.data.toList with|some n=>(n:Int)|none=> -1)) h'):aE Tryz.prog 124 #[VS s] h K:=by
 have sl:=jX s
 refine v124 s h K ?_
 refine cX _ _ _ _ _ ⟨_,rfl,.nil,fun e=> ?_,fun e=> ?_⟩
 ·have e:iD 1 6 (s.size:Int)=false:=aY e
  have:=HK h (Fr.refl _ _)
  unfold mT at this
  rw[if_neg (fun hh=>by rw[aZ.2 (show(1:Int)<=(s.size:Int)/\(s.size:Int)<=6 by omega)]at e;cases e)]at this
  exact this
 have e:=aZ.1 (aV e)
 have l0:0<s.data.toList.length:=by omega
 have hh:s.data.toList.head?=some s.data.toList[0]:=by
  rw[List.head?_eq_getElem?,List.getElem?_eq_getElem l0]
 refine nG (by kernel_rfl) _ _ 0 (by omega) (by show 0<s.size;omega) ⟨_,rfl,fun e2=>⟨fun e3=> ?_,fun e3=> ?_⟩,fun e2=> ?_⟩
 ·simp only[decide_eq_true_eq]at e2 e3
  have:=HK h (Fr.refl _ _)
  unfold mT at this
  have e4:s[(0:Int).toNat]'(by show 0<s.size;omega)=s.data.toList[0]:=vf (i:=0) (by omega) l0
  rw[e4]at e2
  have h48:s.data.toList.head?=some 48:=by rw[hh];exact congrArg some (UInt8.toNat_inj.1 (by show _=48;omega))
  rw[if_neg (fun h=>h.2.2 ⟨h48,by omega⟩)]at this
  exact this
 all_goals
  have hr:mT s.data.toList=Lib.decFrom 0 s.data.toList:=by
   unfold mT
   rw[if_pos]
   refine⟨by omega,by omega,?_⟩
   rintro⟨h1,h2⟩
   rw[hh]at h1
   have h1:=Option.some.inj h1
   have e4:s[(0:Int).toNat]'(by show 0<s.size;omega)=s.data.toList[0]:=vf (i:=0) (by omega) l0
   first
   |(simp only[decide_eq_false_iff_not]at e3;omega)
   |(simp only[decide_eq_false_iff_not]at e2;rw[e4,h1]at e2;exact e2 rfl)
  rw[hr]at HK
  refine⟨fun n x i h'=>0<=i/\i+n=(s.size:Int)/\0<=x/\x<10^i.toNat/\Lib.decFrom 0 s.data.toList=Lib.decFrom x.toNat (s.data.toList.drop i.toNat)/\h=h',⟨s.size,by omega,by omega,by omega,by show(0:Int)<1;omega,rfl,rfl⟩,?_⟩
  rintro n x i _ ⟨i0,i1,x0,x1,hx,rfl⟩ _
  refine⟨fun e5=> ?_,fun e5=> ?_⟩
  ·simp only[decide_eq_true_eq]at e5
   have il:i.toNat<s.data.toList.length:=by omega
   have ei:=vf (s:=s) (i:=i.toNat) (by omega) il
   rw[List.drop_eq_getElem_cons il,Lib.decFrom]at hx
   have bad:(s.data.toList[i.toNat].toNat<48\/57<s.data.toList[i.toNat].toNat)->K (VI (-1)) h:=fun hb=>by
    have:Lib.digitVal s.data.toList[i.toNat]=none:=by unfold Lib.digitVal;rw[if_neg (by omega)]
    rw[this]at hx
    simp only at hx
    have:=HK h (Fr.refl _ _)
    rw[hx]at this
    exact this
   refine nG (by kernel_rfl) _ _ i i0 (by omega) ⟨_,rfl,?_⟩
   rw[ei]
   refine⟨fun e6=>bad (.inl (by simp only[decide_eq_true_eq]at e6;omega)),fun e6=> ?_⟩
   refine nG (by kernel_rfl) _ _ i i0 (by omega) ⟨_,rfl,?_⟩
   rw[ei]
   refine⟨fun e7=>bad (.inr (by simp only[decide_eq_true_eq]at e7;omega)),fun e7=> ?_⟩
   refine nG (by kernel_rfl) _ _ i i0 (by omega) ⟨_,rfl,?_⟩
   rw[ei]
   simp only[decide_eq_false_iff_not]at e6 e7
   have hd:Lib.digitVal s.data.toList[i.toNat]=some (s.data.toList[i.toNat].toNat-48):=by unfold Lib.digitVal;rw[if_pos (by omega)]
   rw[hd]at hx
   simp only at hx
   generalize hc:s.data.toList[i.toNat].toNat=c at*
   have w1:IntKind.u8.wrap ((c:Int)-48)=(c:Int)-48:=by show((c:Int)-48)%256=_;omega
   have w2:IntKind.i64.wrap ((c:Int)-48)=(c:Int)-48:=aH _ (by omega) (by omega)
   rw[w1]
   refine kP (show Tryz.prog.underlying _=some (.int .u8)from by kernel_rfl) (show Tryz.prog.underlying _=some (.int .i64)from by kernel_rfl) _ ⟨(c:Int)-48,by rw[w2],n-1,by omega,?_⟩
   have p10:(10:Int)^(i.toNat+1)=10^i.toNat*10:=Int.pow_succ ..
   have pb:(10:Int)^i.toNat<=1000000:=by
    have:=Nat.pow_le_pow_right (show 10>0 by omega) (show i.toNat<=6 by omega)
    have h2:((10^i.toNat:Nat):Int)<=((10^6:Nat):Int):=by omega
    simpa using h2
   rw[aH (i+1) (by omega) (by omega),aH (10*x) (by omega) (by omega),aH _ (by omega) (by omega)]
   refine⟨by omega,by omega,by omega,?_,?_,rfl⟩
   ·rw[show(i+1).toNat=i.toNat+1 by omega,p10];omega
   ·rw[show(i+1).toNat=i.toNat+1 by omega,hx]
    congr 1
    omega
  ·simp only[decide_eq_false_iff_not]at e5
   rw[List.drop_eq_nil_of_le (by omega)]at hx
   rw[show Lib.decFrom x.toNat []=some x.toNat from rfl]at hx
   have:=HK h (Fr.refl _ _)
   rw[hx]at this
   simp only at this
   rw[show((x.toNat:Nat):Int)=x by omega]at this
   exact this
def UE:List (List UInt8):=[[115,116,101,112],[115,104,111,119],[119,97,108,107],[112,101,114,105,111,100],[99,121,99,108,101]]
def UF:List (List UInt8):=[[97,116],[114,117,110],[112,97,115,115],[118,105,115,105,116,115],[104,105,116],[116,114,101,101,115],[102,117,108,108]]
def UG:List (List UInt8):=[[97,100,100],[116,117,114,110],[99,104,97,110,99,101],[103,114,111,119]]
def dR(w:List UInt8):List UInt8:=if w∈UE then[]else if w∈UF then[110]else if w∈UG then[110,110]else if w=zJ then[110,110,110,110]else if w=ML then[103]else[63]
def fa:List UInt8->List (List UInt8)->List (List Int)->List Int->Option (List (List Int)×List Int)
 |[],[],g,ns=>some (g,ns)
 |c::cs,w::ws,g,ns=>if c=110 then(match mT w with|none=>none|some n=>fa cs ws g (ns++[(n:Int)]))else if c=103 then(match pf w with|none=>none|some g'=>fa cs ws g' ns)else none
 |_,_,_,_=>none
def Hj(ws:List (List UInt8)):Option (List (List Int)×List Int):=if(dR (ws.headD [])).length+1=ws.length then fa (dR (ws.headD [])) ws.tail [] []else none
theorem MA(w:List UInt8):(dR w).length<=4:=by
 unfold dR
 repeat' split
 all_goals simp
theorem K4{s:ByteArray}{l:List UInt8}:(s.toList==(⟨l.toArray⟩:ByteArray).toList)=decide (s.data.toList=l):=by
 rw[qZ]
set_option maxHeartbeats 2000000 in
theorem MB{h:Heap}(w:ByteArray):pO Tryz.prog 123 #[VS w] h (VS (Jy (dR w.data.toList))):=by
 intro K HK
 have HK:=HK h (Fr.refl _ _)
 refine afH w h K ?_
 have mA:w.data.toList∈UE↔w.data.toList=[115,116,101,112]\/w.data.toList=[115,104,111,119]\/w.data.toList=[119,97,108,107]\/w.data.toList=[112,101,114,105,111,100]\/w.data.toList=[99,121,99,108,101]:=by simp only[UE,List.mem_cons,List.not_mem_nil,or_false]
 have mB:w.data.toList∈UF↔w.data.toList=[97,116]\/w.data.toList=[114,117,110]\/w.data.toList=[112,97,115,115]\/w.data.toList=[118,105,115,105,116,115]\/w.data.toList=[104,105,116]\/w.data.toList=[116,114,101,101,115]\/w.data.toList=[102,117,108,108]:=by simp only[UF,List.mem_cons,List.not_mem_nil,or_false]
 have mC:w.data.toList∈UG↔w.data.toList=[97,100,100]\/w.data.toList=[116,117,114,110]\/w.data.toList=[99,104,97,110,99,101]\/w.data.toList=[103,114,111,119]:=by simp only[UG,List.mem_cons,List.not_mem_nil,or_false]
 refine⟨fun x h'=>h=h'/\(x=true↔w.data.toList∈UE),?_,?_⟩
 ·rw[mA]
  simp only[K4]
  refine⟨fun e=>⟨by trivial,?_⟩,fun e=>⟨fun e2=>⟨by trivial,?_⟩,fun e2=>⟨fun e3=>⟨by trivial,?_⟩,fun e3=>⟨fun e4=>⟨by trivial,?_⟩,fun e4=>⟨by trivial,?_⟩⟩⟩⟩⟩
  all_goals (simp only[decide_eq_true_eq,decide_eq_false_iff_not]at*;simp[*])
 rintro x _ ⟨rfl,hx⟩ _
 unfold dR at HK
 refine⟨fun e=> ?_,fun e=> ?_⟩
 ·rw[if_pos (hx.1 e)]at HK;exact HK
 rw[if_neg (fun h=>by rw[hx.2 h]at e;cases e)]at HK
 refine⟨fun x h'=>h=h'/\(x=true↔w.data.toList∈UF),?_,?_⟩
 ·rw[mB]
  simp only[K4]
  refine⟨fun e=>⟨by trivial,?_⟩,fun e=>⟨fun e2=>⟨by trivial,?_⟩,fun e2=>⟨fun e3=>⟨by trivial,?_⟩,fun e3=>⟨fun e4=>⟨by trivial,?_⟩,fun e4=>⟨fun e5=>⟨by trivial,?_⟩,fun e5=>⟨fun e6=>⟨by trivial,?_⟩,fun e6=>⟨by trivial,?_⟩⟩⟩⟩⟩⟩⟩
  all_goals (simp only[decide_eq_true_eq,decide_eq_false_iff_not]at*;simp[*])
 rintro x2 _ ⟨rfl,hx2⟩ _
 refine⟨fun e=> ?_,fun e=> ?_⟩
 ·rw[if_pos (hx2.1 e)]at HK;exact HK
 rw[if_neg (fun h=>by rw[hx2.2 h]at e;cases e)]at HK
 refine⟨fun x h'=>h=h'/\(x=true↔w.data.toList∈UG),?_,?_⟩
 ·rw[mC]
  simp only[K4]
  refine⟨fun e=>⟨by trivial,?_⟩,fun e=>⟨fun e2=>⟨by trivial,?_⟩,fun e2=>⟨fun e3=>⟨by trivial,?_⟩,fun e3=>⟨by trivial,?_⟩⟩⟩⟩
  all_goals (simp only[decide_eq_true_eq,decide_eq_false_iff_not]at*;simp[*])
 rintro x3 _ ⟨rfl,hx3⟩ _
 refine⟨fun e=> ?_,fun e=>⟨fun e2=> ?_,fun e2=>⟨fun e3=> ?_,fun e3=> ?_⟩⟩⟩
 ·rw[if_pos (hx3.1 e)]at HK;exact HK
 all_goals rw[if_neg (fun h=>by rw[hx3.2 h]at e;cases e)]at HK
 ·rw[if_pos (show w.data.toList=zJ from dU e2)]at HK;exact HK
 ·rw[if_neg (show¬w.data.toList=zJ from aW e2),if_pos (show w.data.toList=ML from dU e3)]at HK;exact HK
 ·rw[if_neg (show¬w.data.toList=zJ from aW e2),if_neg (show¬w.data.toList=ML from aW e3)]at HK;exact HK
set_option maxHeartbeats 2000000 in
theorem QC{h:Heap}(d1 d2:Sl)(d3:Int){s:ByteArray}(hs:s.size<=3000)(K:Value->Heap->Prop)
 (HN:Hj (gU 32 s.data.toList)=none->∀(w:ByteArray)(x1 x2:Sl)(x3:Int)(x4 x5:Sl) h',Fr No h h'->K (.tuple #[VS w,.agg #[x1.v,x2.v,VI x3,x4.v,x5.v],VB false]) h')
 (HS:∀r,Hj (gU 32 s.data.toList)=some r->∀(w:ByteArray)(x4 x5:Sl)(S4 S5:Nat->Prop) h',w.data.toList=(gU 32 s.data.toList).headD []->bF S4 h' x4 r.1->aP S5 h' x5 r.2->(∀k,S4 k\/S5 k->h.size<=k)->Fr No h h'->K (.tuple #[VS w,.agg #[d1.v,d2.v,VI d3,x4.v,x5.v],VB true]) h'):
 aE Tryz.prog 84 #[.agg #[d1.v,d2.v,VI d3],VS s] h K:=by
 refine v84 d1 d2 d3 s h K fun b1 b2 b3 h4 dM dE ia f4 dN=> ?_
 have f4:=f4.aF
 have z4:=f4.size
 have RZ:b3<h4.size:=dN.head.lt
 have vY:b2<h4.size:=dN.tail.head.lt
 have n2:∀{k:Nat},In [b2] k->k=b2:=fun hk=>by simpa[In]using hk
 have n3:∀{k:Nat},In [b3] k->k=b3:=fun hk=>by simpa[In]using hk
 refine BP 32 (by omega) _ fun t ps h5 qj T5 f5=>⟨t,rfl,dN.aB f5,?_⟩
 have z5:=f5.size
 have tX:=f4.aA f5
 have T5:=T5.fa.lt
 have hpl:ps.length=(gU 32 s.data.toList).length:=by rw[<-qj,List.length_map]
 obtain⟨q0,qs,rfl⟩:∃q0 qs,ps=q0::qs:=by
  cases ps with
  |nil=>exact absurd qj.symm (Bu 32 _)
  |cons a l=>exact⟨a,l,rfl⟩
 have tn:=T5.len
 rw[List.length_map,List.length_cons,Nat.mul_one]at tn
 have K5:=T5.get (i:=0) (by omega) (by simp)
 refine⟨cY.bB T5 (by omega) (by simp),q0,K5,MB q0 _ fun h6 f6=>⟨_,rfl,(dN.aB f5).aB f6,?_⟩⟩
 have z6:=f6.size
 have sE:=tX.aA f6
 have iN:=(dN.aB f5).aB f6
 have hb:=MA q0.data.toList
 have hR:Hj (gU 32 s.data.toList)=if(dR q0.data.toList).length=qs.length then fa (dR q0.data.toList) (qs.map (·.data.toList)) [] []else none:=by
  rw[<-qj]
  unfold Hj
  simp only[List.map_cons,List.headD_cons,List.length_cons,List.length_map,List.tail_cons,Nat.add_right_cancel_iff]
 have hhd:(gU 32 s.data.toList).headD []=q0.data.toList:=by rw[<-qj];rfl
 have ql:qs.length<=3001:=by have:=ui 32 s.data.toList;have:=jX s;rw[List.length_cons]at hpl;omega
 have e0:aL ((t.n:Int)-1)=(qs.length:Int):=by rw[aH]<;>omega
 have qd:(Jy (dR q0.data.toList)).size=(dR q0.data.toList).length:=bZ _
 rw[e0,qd]
 refine⟨fun e=>fun h7 f7 _=> ?_,fun e=> ?_⟩
 ·refine HN ?_ _ _ _ _ _ _ _ (sE.fresh f7 fun k hk=>by have:=n2 hk;omega)
  simp only[Bool.not_eq_true',decide_eq_false_iff_not]at e
  rw[hR,if_neg (by omega)]
 have e:=aV e
 simp only[decide_eq_true_eq]at e
 have e:(dR q0.data.toList).length=qs.length:=by omega
 rw[if_pos e]at hR
 have tc:t.n<=t.c:=T5.cap
 refine iq SB .i64 (l:=1) (by omega) (by omega) ⟨_,rfl,?_⟩
 have T6:cY (fun k=>h4.size<=k/\k<h5.size) h6 1 (t.cut 1 1 t.n t.c) (qs.map VS):=by
  have:=cY.cut (T5.no f6) (l:=1) (m:=t.n) (by omega) (Nat.le_refl _)
  have e:(((q0::qs).map VS).drop (1*1)).take ((t.n-1)*1)=qs.map VS:=by
   simp only[List.map_cons,Nat.mul_one,List.drop_succ_cons,List.drop_zero]
   exact List.take_of_length_le (by rw[List.length_map];omega)
  rw[e]at this
  exact this
 rw[show(1:Int).toNat=1 from rfl]
 have T5b:=T5.no f6
 generalize t.cut 1 1 t.n t.c=t8 at T6
 have tn8:=T6.len
 rw[List.length_map,Nat.mul_one]at tn8
 obtain⟨R,hRe⟩:∃R,R=Hj (gU 32 s.data.toList):=⟨_,rfl⟩
 rw[<-hRe]at hR HN HS
 refine⟨fun n i x1 x2 x3 x4 x5 h'=>0<=i/\i+n=(qs.length:Int)/\x1=d1/\x2=d2/\x3=d3/\(∃g ns S4 F5,bF S4 h' x4 g/\bK h' F5 x5 ns/\(∀k,F5 k->h6.size<=k/\¬S4 k)/\(∀k,S4 k\/F5 k->h6.size<=k/\k<h'.size)/\ns.length<=i.toNat/\R=fa ((dR q0.data.toList).drop i.toNat) ((qs.map (·.data.toList)).drop i.toNat) g ns)/\Fr (fun k=>k=b3\/h6.size<=k) h6 h',⟨qs.length,by omega,by omega,rfl,rfl,rfl,⟨[],[],No,No,((dD.nil h6 No sv tI).rd.mono fun k hk=>hk.1),Ow.nil _ _ _ _,fun k hk=>hk.elim,fun k hk=>by rcases hk with hk|hk<;>exact hk.elim,by simp,hR⟩,Fr.refl _ _⟩,?_⟩
 rintro n i x1 x2 x3 x4 x5 h8 ⟨i0,i1,rfl,rfl,rfl,⟨g,ns,S4,F5,G,N,w1,w2,nl,hr⟩,F8⟩ fO
 have z8:=F8.size
 have F08:Fr No h h8:=sE.fresh F8 fun k hk=>by rcases hk with rfl|hk<;>omega
 refine⟨fun e6=> ?_,fun e6=> ?_⟩
 ·simp only[decide_eq_true_eq]at e6
  have il:i.toNat<qs.length:=by omega
  have il2:i.toNat<(dR q0.data.toList).length:=by omega
  have T8:=T6.fr F8 fun k hk aI=>by rcases aI with rfl|aI<;>omega
  have hc:=T8.get (i:=i) i0 (by simp;omega)
  rw[List.getElem_map]at hc
  have eI:aL (i+1)=i+1:=by rw[aH]<;>omega
  have eT:(i+1).toNat=i.toNat+1:=by omega
  have WR:=vf (s:=Jy (dR q0.data.toList)) (i:=i.toNat) (by omega) (by rw[show(Jy (dR q0.data.toList)).data.toList=dR q0.data.toList from rfl];omega)
  have WR:(Jy (dR q0.data.toList))[i.toNat]'(by omega)=(dR q0.data.toList)[i.toNat]:=WR
  rw[List.drop_eq_getElem_cons il2,List.drop_eq_getElem_cons (show i.toNat<(qs.map (·.data.toList)).length by simp;omega),List.getElem_map,fa]at hr
  generalize hcv:(dR q0.data.toList)[i.toNat]=c at hr WR
  generalize hqv:qs[i.toNat]=q at hr hc
  refine⟨cY.bB T8 i0 (by simp;omega),q,hc,?_⟩
  refine⟨fun ok y1 y2 y3 y4 y5 h'=>y1=x1/\y2=x2/\y3=x3/\Fr (fun k=>k=b3\/h6.size<=k) h6 h'/\(ok=false->R=none)/\(ok=true->∃g ns S4 F5,bF S4 h' y4 g/\bK h' F5 y5 ns/\(∀k,F5 k->h6.size<=k/\¬S4 k)/\(∀k,S4 k\/F5 k->h6.size<=k/\k<h'.size)/\ns.length<=i.toNat+1/\R=fa ((dR q0.data.toList).drop (i.toNat+1)) ((qs.map (·.data.toList)).drop (i.toNat+1)) g ns),nG (by kernel_rfl) _ _ i i0 (by omega) ⟨_,rfl,?_⟩,?_⟩
  ·rw[WR]
   refine⟨fun e7=> ?_,fun e7=>⟨fun e8=> ?_,fun e8=> ?_⟩⟩
   ·simp only[decide_eq_true_eq]at e7
    have e7:c=110:=UInt8.toNat_inj.1 (by show c.toNat=110;omega)
    rw[if_pos e7]at hr
    refine QB q _ fun h9 f9=>⟨_,rfl,fO.aB f9,?_⟩
    have z9:=f9.size
    refine mv (F:=fun k=>F5 k\/h9.size<=k) (Ow.mono (Ow.no N f9) fun k _ hk=> .inl hk) (fun k hk=> .inr hk) (fO.aB f9) (fun p hp hk=> ?_) (by omega) _ fun t5 ie lV f11 jm iu f12 _=> ?_
    ·have:p.1<h4.size:=by
      simp only[List.mem_cons,List.not_mem_nil,or_false]at hp
      rcases hp with rfl|rfl|rfl
      ·exact RZ
      ·exact vY
      ·exact dN.tail.tail.head.lt
     rcases hk with hk|hk
     ·have:=(w1 _ hk).1;omega
     ·omega
    have Se:=f11.size
    have z12:=f12.size
    refine⟨rfl,rfl,rfl,((F8.trans f9.aB).trans (f11.mono fun k _ hk=>by rcases hk with hk|hk;exact .inr (w1 _ hk).1;exact .inr (by omega))).trans (f12.mono fun k _ hk=> .inl (n3 hk)),fun e8=> ?_,fun e8=> ?_⟩
    ·simp only[decide_eq_false_iff_not]at e8
     cases Vw:mT q.data.toList with
     |none=>rw[Vw]at hr;exact hr
     |some m=>rw[Vw]at e8;exact absurd (Int.natCast_nonneg m) e8
    ·simp only[decide_eq_true_eq]at e8
     cases Vw:mT q.data.toList with
     |none=>rw[Vw]at e8;exact absurd e8 (by decide)
     |some m=>
      rw[Vw]at hr lV
      refine⟨g,ns++[(m:Int)],S4,fun k=>(F5 k\/h9.size<=k)/\k<iu.size,?_,?_,fun k hk=> ?_,fun k hk=> ?_,by rw[List.length_append,List.length_singleton];omega,hr⟩
      ·refine((G.no f9).fr f11 fun k hk aI=> ?_).fr f12 fun k hk aI=> ?_
       ·rcases aI with aI|aI
        ·exact(w1 _ aI).2 hk
        ·have:=(w2 _ (.inl hk)).2;omega
       ·have:=(w2 _ (.inl hk)).1;have:=n3 aI;omega
      ·exact Ow.mono (Ow.fr lV f12 fun k hk aI=>by
        have h1:=(lV.aG hk).1
        have:=n3 aI
        rcases h1 with h1|h1
        ·have:=(w1 _ h1).1;omega
        ·omega) fun k hk hF=>⟨hF,Nat.lt_of_lt_of_le (lV.aG hk).2 z12⟩
      ·rcases hk.1 with hk|hk
       ·exact w1 _ hk
       ·exact⟨by omega,fun hx=>by have:=(w2 _ (.inl hx)).2;omega⟩
      ·rcases hk with hk|⟨hk,HZ⟩
       ·have:=w2 _ (.inl hk);omega
       ·rcases hk with hk|hk
        ·have:=w2 _ (.inr hk);omega
        ·omega
   ·simp only[decide_eq_true_eq,decide_eq_false_iff_not]at e7 e8
    have e7:¬c=110:=fun h=>e7 (by rw[h];rfl)
    have e8:c=103:=UInt8.toNat_inj.1 (by show c.toNat=103;omega)
    rw[if_neg e7,if_pos e8]at hr
    refine L5 _ fun t4 sD L6 f13=>⟨_,_,rfl,fO.aB f13,fun Xf f14 _=> ?_⟩
    have z13:=f13.size
    have z14:=f14.size
    refine⟨rfl,rfl,rfl,(F8.trans f13.aB).trans (f14.mono fun k _ hk=> .inl (n3 hk)),fun e9=> ?_,fun e9=> ?_⟩
    ·unfold qk at e9
     split at e9
     ·cases e9
     ·rename_i hp
      rw[hp]at hr
      exact hr
    ·unfold qk at e9 L6
     split at e9
     ·rename_i g' hp
      rw[hp]at hr L6
      refine⟨g',ns,Iv h8.size sD.size,F5,(L6.fr f14 fun k _ hk aI=>by have:=hk.1;have:=n3 aI;omega).rd.mono fun k hk=>hk.1,Ow.fr (Ow.no N f13) f14 fun k hk aI=> ?_,fun k hk=>⟨(w1 _ hk).1,fun hx=> ?_⟩,fun k hk=> ?_,by omega,hr⟩
      ·have:=(w1 _ (N.aG hk).1).1;have:=n3 aI;omega
      ·have:=(w2 _ (.inr hk)).2;have:=hx.1;omega
      ·rcases hk with hk|hk
       ·have:=hk.1;have:=hk.2;omega
       ·have:=w2 _ (.inr hk);omega
     ·cases e9
   ·simp only[decide_eq_false_iff_not]at e7 e8
    have e7:¬c=110:=fun h=>e7 (by rw[h];rfl)
    have e8:¬c=103:=fun h=>e8 (by rw[h];rfl)
    rw[if_neg e7,if_neg e8]at hr
    exact⟨rfl,rfl,rfl,F8,fun _=>hr,fun e=>by cases e⟩
  ·rintro ok y1 y2 y3 y4 y5 QX ⟨rfl,rfl,rfl,F15,k1,k2⟩ _
   refine⟨fun e9=>fun Mh f16 _=> ?_,fun e9=> ?_⟩
   ·exact HN (k1 (aY e9)) _ _ _ _ _ _ _ ((sE.fresh F15 fun k hk=>by rcases hk with rfl|hk<;>omega).fresh f16 fun k hk=>by have:=n2 hk;omega)
   ·rw[eI]
    refine⟨n-1,by omega,by omega,by omega,rfl,rfl,rfl,?_,F15⟩
    rw[eT]
    exact k2 (aV e9)
 ·simp only[decide_eq_false_iff_not]at e6
  have T8:=(T5b.fr F8 fun k hk aI=>by rcases aI with rfl|aI<;>omega)
  have hc:=T8.get (i:=0) (by omega) (by simp)
  rw[List.drop_eq_nil_of_le (by omega),List.drop_eq_nil_of_le (by simp;omega)]at hr
  refine⟨cY.bB T8 (by omega) (by simp),q0,hc,fun Xh f17 _=> ?_⟩
  have z17:=f17.size
  refine HS _ hr q0 x4 x5 S4 (fun k=>F5 k/\k<h8.size) Xh hhd.symm (G.fr f17 fun k hk aI=> ?_) ((Ow.fr N f17 fun k hk aI=> ?_).fa.mono fun k hk=>⟨hk,(w2 _ (.inr hk)).2⟩) (fun k hk=> ?_) (F08.fresh f17 fun k hk=>by have:=n2 hk;omega)
  ·have:=(w2 _ (.inl hk)).1;have:=n2 aI;omega
  ·have:=(w1 _ (N.aG hk).1).1;have:=n2 aI;omega
  ·rcases hk with hk|hk
   ·have:=(w2 _ (.inl hk)).1;omega
   ·have:=(w2 _ (.inr hk.1)).1;omega
def K6(Z:Nat->Prop)(h:Heap)(g w:Sl)(d:Dk):Prop:=∃S S',bF S h g d.1/\aP S' h w d.2.1/\(∀k,S k\/S' k->¬Z k/\k<h.size)
theorem K6.of{Z S S':Nat->Prop}{h:Heap}{g w:Sl}{d:Dk}(G:bF S h g d.1)(W:aP S' h w d.2.1)(hS:∀k,S k\/S' k->k<h.size->¬Z k):K6 Z h g w d:=⟨fun k=>S k/\k<h.size,fun k=>S' k/\k<h.size,G.zY,cY.lt W,fun k hk=>by
 rcases hk with hk|hk
 ·exact⟨hS k (.inl hk.1) hk.2,hk.2⟩
 ·exact⟨hS k (.inr hk.1) hk.2,hk.2⟩⟩
theorem K6.fr{Z T:Nat->Prop}{h h':Heap}{g w:Sl}{d:Dk}(D:K6 Z h g w d)(f:Fr T h h')(hT:∀k,T k->Z k\/h.size<=k):K6 Z h' g w d:=by
 obtain⟨S,S',G,W,q⟩:=D
 have key:∀k,S k\/S' k->¬T k:=fun k hk h2=>by
  have:=q k hk
  rcases hT k h2 with h3|h3
  ·exact this.1 h3
  ·omega
 exact⟨S,S',G.fr f fun k hk=>key k (.inl hk),aP.fr W f fun k hk=>key k (.inr hk),fun k hk=>⟨(q k hk).1,Nat.lt_of_lt_of_le (q k hk).2 f.size⟩⟩
def noR:List UInt8:=[110,111]
def qv(d:Dk)(a:p5):Dk×List UInt8:=aaI d (some a)
theorem zO{h:Heap}{b1:Nat}{g w x4 x5 w1:Sl}{p0 p1:Int}{aD:List (List Int)}{rs:List Int}{S S':Nat->Prop}{ok:Bool}(V:Vars h [(b1,[g.v,w.v,VI p0,x4.v,x5.v])])(G:bF S h g aD)(W:aP S' h w1 rs)(hS:∀k,S k\/S' k->k≠b1)(K:Value->Heap->Prop)
 (HN:(ok&&eC aD rs p1)=false->∀h',Fr No h h'->K (VS ⟨noR.toArray⟩) h')
 (HS:ok=true->eC aD rs p1=true->∀h',Vars h' [(b1,[g.v,w1.v,VI p1,x4.v,x5.v])]->Fr (fun k=>k=b1) h h'->K (VS ⟨(nX (rs,p1)).toArray⟩) h'):aE Tryz.prog 127 #[VP b1 0,.agg #[w1.v,VI p1],VB ok] h K:=by
 have lb:=V.head.lt
 refine v127 b1 g w p0 x4 x5 w1 p1 ok h K V ⟨fun e=>fun b2 h1 dE f1 _=> ?_,fun e=>fun b2 h1 dE f1 bG=> ?_⟩
 ·exact HN (by rw[aY e];rfl) _ f1.aF
 have f1:=f1.aF
 have e:=aV e
 refine eK (G.no f1) (aP.no W f1) p1 _ fun h2 f2=>⟨_,rfl,bG.aB f2,fun e2=> ?_,fun e2=>fun h3 f3 cF=> ?_⟩
 ·exact HN (by rw[aY e2,Bool.and_false]) _ (f1.aA f2)
 have e2:=aV e2
 have n1:∀{k:Nat},In [b1] k->k=b1:=fun hk=>by simpa[In]using hk
 have ws:=fV (cG e2)
 have CE:=f1.aA f2
 have W3:=aP.fr (aP.no W CE) f3 fun k hk aI=>hS k (.inr hk) (n1 aI)
 refine GK W3 (by have:=ws.2;simp only at this;omega) (fun x hx=>by have:=ws.1 x hx;omega) (by have:=ws.2.2.2;simp only at this;omega) _ fun h4 f4=>⟨_,rfl,cF.aB f4,?_⟩
 exact HS e e2 _ (aX (L:=[_]) (cF.aB f4)) ((CE.aB.trans (f3.mono fun k _ hk=>n1 hk)).trans f4.aB)
def vZ(d:Dk)(w:List UInt8)(g4:List (List Int))(ns:List Int)(a:p5):Prop:=
 (w=ML/\aM g4=true/\a=some ((g4,(List.replicate g4.length 0,0)),uj g4))\/(w=[97,100,100]/\∃p q:Int,ns=[p,q]/\a=Vn d p q)\/(w=[97,116]/\∃n:Int,0<=n/\ns=[n]/\a=Ut d n)\/(w=[116,117,114,110]/\∃p k:Int,0<=p/\0<=k/\ns=[p,k]/\a=Qm d p k)\/(w=[115,116,101,112]/\a=stC d)\/(w=[114,117,110]/\∃n:Int,ns=[n]/\a=rnC d n)
set_option maxHeartbeats 4000000 in
theorem UH{h:Heap}{Z:Nat->Prop}(hZ:∀k,Z k->k<h.size){b1:Nat}(zb:Z b1){g w x4 x5:Sl}{d:Dk}(V:Vars h [(b1,[g.v,w.v,VI d.2.2,x4.v,x5.v])])(D:K6 Z h g w d)(ok:p7 d){g4:List (List Int)}{ns:List Int}{S4 S5:Nat->Prop}(G4:bF S4 h x4 g4)(N5:aP S5 h x5 ns)(h45:∀k,S4 k\/S5 k->¬Z k){s:ByteArray}{a:p5}(M:vZ d s.data.toList g4 ns a)(K:Value->Heap->Prop)
 (HK:∀(y1 y2 y4 y5:Sl) h',K6 Z h' y1 y2 (qv d a).1->Vars h' [(b1,[y1.v,y2.v,VI (qv d a).1.2.2,y4.v,y5.v])]->Fr (fun k=>k=b1\/h.size<=k) h h'->K (VS ⟨(qv d a).2.toArray⟩) h'):aE Tryz.prog 85 #[VP b1 0,VS s] h K:=by
 have lb:=V.head.lt
 have dl:=lK ok
 have WK:=cG ok
 have wl:d.2.1.length=d.1.length:=WK.len
 have n1:∀{b k:Nat},In [b] k->k=b:=fun hk=>by simpa[In]using hk
 refine v85 b1 g w d.2.2 x4 x5 s h K V ?_
 refine⟨fun c2 y1 c3 y2 y3 h'=>g=y1/\w=y2/\d.2.2=y3/\Fr (fun k=>h.size<=k) h h',⟨fun c4 h1 hc4 f1 _ c5 h2 hc5 f2 _ h3 f3 _ h4 f4 _=>⟨rfl,rfl,rfl,?_⟩,fun c6 h1 hc6 f1 _ c7 h2 hc7 f2 _ h3 f3 _ h4 f4 _=>⟨rfl,rfl,rfl,?_⟩⟩,?_⟩
 ·have:=f1.size
  exact(((f1.aF.aB).trans f2.aF.aB).trans (f3.mono fun k _ hk=>by have:=n1 hk;omega)).trans (f4.mono fun k _ hk=>by have:=n1 hk;omega)
 ·have:=f1.size
  exact(((f1.aF.aB).trans f2.aF.aB).trans (f3.mono fun k _ hk=>by have:=n1 hk;omega)).trans (f4.mono fun k _ hk=>by have:=n1 hk;omega)
 rintro c2 _ c3 _ _ h9 ⟨rfl,rfl,rfl,F9⟩ gh
 have z9:=F9.size
 have D9:=D.fr F9 fun k hk=> .inr hk
 have G9:=G4.zY.fr F9 fun k hk aI=>by have:=hk.2;omega
 have N9:=aP.fr (cY.lt N5) F9 fun k hk aI=>by have:=hk.2;omega
 have keep:∀{h':Heap},Fr No h9 h'->(qv d a)=(d,noR)->K (VS ⟨noR.toArray⟩) h':=fun f e=>by
  have:=HK _ _ x4 x5 _ (by rw[e];exact D9.fr f fun k hk=>hk.elim) (by rw[e];exact aX (L:=[_,_]) (gh.aB f)) ((F9.mono fun k _ hk=> .inr hk).trans f.aB)
  rw[e]at this
  exact this
 have wd:∀{X:Heap}{t:Sl}{r:St×Bool}{S:Nat->Prop},MM d.1 r->aP S X t r.1.1->(∀k,S k->k≠b1/\¬Z k)->Fr No h9 X->a=BN d r->aE Tryz.prog 127 #[VP b1 0,.agg #[t.v,VI r.1.2],VB r.2] X fun rv Hf=>∃x6:Sl,∃x7:Sl,∃x8:Int,∃x9:Sl,∃Oh:Sl,∃t84:ByteArray,rv=VS t84/\Vars Hf [(c3,[w.v,VI d.2.2]),(c2,[g.v]),(b1,[x6.v,x7.v,VI x8,x9.v,Oh.v])]/\K (VS t84) Hf:=fun{X t r S} B T hS fX ea=>by
  obtain⟨Sg,Sw,G,W,q⟩:=D9.fr fX fun k hk=>hk.elim
  refine zO (aX (L:=[_,_]) (gh.aB fX)) G T (fun k hk=>by
   rcases hk with hk|hk
   ·exact fun e=>(q k (.inl hk)).1 (e▸zb)
   ·exact(hS k hk).1) _ (fun e h' f'=> ?_) fun e1 e2 h' V' f'=> ?_
  ·refine⟨g,w,d.2.2,x4,x5,_,rfl,(gh.aB fX).aB f',keep (fX.aA f') ?_⟩
   have:r.2=false:=by
    cases hr:r.2 with
    |false=>rfl
    |true=>rw[hr,Bool.true_and]at e;rw[ld (B.ok hr)]at e;cases e
   rw[ea,BN,if_neg (by rw[this];exact Bool.false_ne_true)]
   rfl
  ·have e:qv d a=((d.1,r.1),nX r.1):=by rw[ea,BN,if_pos e1];rfl
   refine⟨g,t,r.1.2,x4,x5,_,rfl,(gh.aB fX).set (i:=2) rfl f' V'.head,?_⟩
   have:=HK g t x4 x5 h' (by
    rw[e]
    exact K6.of (G.fr f' fun k hk aI=>(q k (.inl hk)).1 (aI▸zb)) (aP.fr T f' fun k hk aI=>(hS k hk).1 aI) fun k hk _=>by
     rcases hk with hk|hk
     ·exact(q k (.inl hk)).1
     ·exact(hS k hk).2) (by rw[e];exact V') ((F9.mono fun k _ hk=> .inr hk).trans (fX.aB.trans (f'.mono fun k _ hk=> .inl hk)))
   rw[e]at this
   exact this
 have frs:∀{X:Heap}{S:Nat->Prop},(∀k,S k->h9.size<=k)->∀k,S k->k≠b1/\¬Z k:=fun hS k hk=>by
  have:=hS k hk
  exact⟨by omega,fun hz=>by have:=hZ k hz;omega⟩
 refine⟨fun e=> ?_,fun e=>⟨fun e2=> ?_,fun e2=>⟨fun e3=> ?_,fun e3=>⟨fun e4=> ?_,fun e4=>⟨fun e5=> ?_,fun e5=> ?_⟩⟩⟩⟩⟩
 ·rcases M with⟨hw,M⟩|⟨hw,M⟩|⟨hw,M⟩|⟨hw,M⟩|⟨hw,M⟩|⟨hw,M⟩
  all_goals first|exact absurd (hw.symm.trans (dU e)) (by decide)|skip
  obtain⟨hg,ea⟩:=M
  have e0:qv d a=((g4,(List.replicate g4.length 0,0)),uj g4):=by rw[ea];rfl
  have gl:=aO hg
  have gn:=G9.len
  refine dK fL (fun k=>h9.size<=k) (fun _ h=>h) .i64 .i64 x4.n x4.n (Nat.le_refl _) (by omega) fun t dY U1 c10 mV f10 m10 _=>⟨t,rfl,gh.aB f10,fun ie f11 jm=> ?_⟩
  have Ad:=f10.size
  have adZ:bK dY (fun k=>h9.size<=k) t (List.replicate g4.length 0):=by show Ow _ _ _ _ _ _;rw[gn]at mV;simpa using mV
  have hz:∀k,(S4 k/\k<h.size)->k≠b1:=fun k hk e=>h45 k (.inl hk.1) (e▸zb)
  have Ur:=(G9.no f10).fr f11 fun k hk aI=>hz k hk (n1 aI)
  have T11:=Ow.fr adZ f11 fun k hk aI=>by have:=(adZ.aG hk).1;have:=n1 aI;omega
  refine sR Ur (jq hg) _ fun iu f12=>⟨_,rfl,jm.aB f12,?_⟩
  have:=HK x4 t x4 x5 iu (by
   rw[e0]
   exact K6.of (Ur.no f12) (aP.no T11.fa f12) fun k hk _=>by
    rcases hk with hk|hk
    ·exact h45 k (.inl hk.1)
    ·exact fun hz=>by have:=hZ k hz;omega) (by rw[e0];exact aX (L:=[_,_]) (jm.aB f12)) ((((F9.mono fun k _ hk=> .inr hk).trans f10.aB).trans (f11.mono fun k _ hk=> .inl (n1 hk))).trans f12.aB)
  rw[e0]at this
  exact this
 ·rcases M with⟨hw,M⟩|⟨hw,M⟩|⟨hw,M⟩|⟨hw,M⟩|⟨hw,M⟩|⟨hw,M⟩
  all_goals first|exact absurd (hw.symm.trans (dU e2)) (by decide)|skip
  obtain⟨p,q,rfl,ea⟩:=M
  have K5:aQ h9 (x5.at 0 1)=some (VI p):=N9.get (i:=0) (by omega) (by simp)
  have hc1:aQ h9 (x5.at 1 1)=some (VI q):=N9.get (i:=1) (by omega) (by simp)
  obtain⟨Sg,Sw,G,W,qq⟩:=D9
  refine⟨fun bb c8 t h'=>bb=(gS d.1 p q).2/\fM h' (fun k=>h9.size<=k) t (gS d.1 p q).1/\Fr (fun k=>h9.size<=k) h9 h',⟨N9.bB (by omega) (by simp),p,K5,N9.bB (by omega) (by simp),q,hc1,?_,?_⟩,?_⟩
  ·refine oT G p q _ fun t sD L6 f13=>⟨t,_,rfl,gh.aB f13,fun c9 QX _ f15 _=>⟨rfl,(L6.no f15.aF).mono fun k _ hk=>hk.1,(f13.aA f15.aF).aB⟩⟩
  ·intro c10 Mh ak7 f16 zB
   have f16:=f16.aF
   have z16:=f16.size
   refine⟨dJ hc1 f16 fun h=>h,dJ K5 f16 fun h=>h,oT (G.no f16) p q _ fun t Xh o17 f17=>⟨t,_,rfl,zB.aB f17,fun h18 f18 _=>⟨rfl,?_,?_⟩⟩⟩
   ·have l10:=zB.head.lt
    exact(o17.fr f18 fun k _ hk aI=>by have:=hk.1;have:=n1 aI;omega).mono fun k _ hk=>by have:=hk.1;omega
   ·exact(f16.aA f17).aB.trans (f18.mono fun k _ hk=>by have:=n1 hk;omega)
  ·rintro _ c8 t KP ⟨rfl,T19,Vq⟩ zC
   have z19:=Vq.size
   refine⟨fun e9=> ?_,fun e9 h20 f20 Uz=> ?_⟩
   ·have e0:qv d a=(d,noR):=by rw[ea,Vn,if_neg (by rw[aY e9];exact Bool.false_ne_true)];rfl
    have:=HK g w x4 x5 KP (by rw[e0];exact K6.fr ⟨Sg,Sw,G,W,qq⟩ Vq fun k hk=> .inr hk) (by rw[e0];exact aX (L:=[_,_,_]) zC) ((F9.mono fun k _ hk=> .inr hk).trans (Vq.mono fun k _ hk=> .inr (by omega)))
    rw[e0]at this
    exact this
   ·have hb:=aV e9
    have e0:qv d a=(((gS d.1 p q).1,d.2),uj (gS d.1 p q).1):=by rw[ea,Vn,if_pos hb];rfl
    have T20:=T19.fr f20 fun k _ hk aI=>by have:=n1 aI;omega
    have W20:=aP.fr (aP.fr W Vq fun k hk aI=>by have:=(qq k (.inr hk)).2;omega) f20 fun k hk aI=>(qq k (.inr hk)).1 (n1 aI▸zb)
    refine sR T20.rd (jq (Ef hb)) _ fun Xk f21=>⟨_,rfl,Uz.aB f21,?_⟩
    have:=HK t w x4 x5 Xk (by
     rw[e0]
     exact K6.of (T20.rd.no f21) (aP.no W20 f21) fun k hk _=>by
      rcases hk with hk|hk
      ·exact fun hz=>by have:=hZ k hz;have:=hk.1;omega
      ·exact(qq k (.inr hk)).1) (by rw[e0];exact aX (L:=[_,_,_]) (Uz.aB f21)) ((((F9.mono fun k _ hk=> .inr hk).trans (Vq.mono fun k _ hk=> .inr (by omega))).trans (f20.mono fun k _ hk=> .inl (n1 hk))).trans f21.aB)
    rw[e0]at this
    exact this
 ·rcases M with⟨hw,M⟩|⟨hw,M⟩|⟨hw,M⟩|⟨hw,M⟩|⟨hw,M⟩|⟨hw,M⟩
  all_goals first|exact absurd (hw.symm.trans (dU e3)) (by decide)|skip
  obtain⟨n,n0,rfl,ea⟩:=M
  have K5:aQ h9 (x5.at 0 1)=some (VI n):=N9.get (i:=0) (by omega) (by simp)
  obtain⟨Sg,Sw,G,W,qq⟩:=D9
  refine⟨N9.bB (by omega) (by simp),n,K5,?_⟩
  by_cases hb:(aM d.1&&iD 0 ((d.1.length:Int)-1) n)=true
  ·have hn:=aZ.1 (Bool.and_eq_true_iff.1 hb).2
   have B:=MM.of (K1 WK n0 (show n<(d.1.length:Int) by omega)) true
   exact wd (t:=w) (r:=((d.2.1,n),true)) B W (fun k hk=>⟨fun e=>(qq k (.inr hk)).1 (e▸zb),(qq k (.inr hk)).1⟩) (Fr.refl _ _) (by rw[ea,Ut,hb])
  ·refine zO (aX (L:=[_,_]) gh) G W (fun k hk e=>(qq k hk).1 (e▸zb)) _ (fun _ h' f'=>⟨g,w,d.2.2,x4,x5,_,rfl,gh.aB f',keep f' (by rw[ea,Ut,BN,if_neg hb];rfl)⟩) fun _ e2=>absurd ?_ hb
   have W2:=cG e2
   have h1:=W2.lo
   have h2:=W2.hi
   simp only at h1 h2
   rw[W2.bE,Bool.true_and]
   exact aZ.2 ⟨h1,by omega⟩
 ·rcases M with⟨hw,M⟩|⟨hw,M⟩|⟨hw,M⟩|⟨hw,M⟩|⟨hw,M⟩|⟨hw,M⟩
  all_goals first|exact absurd (hw.symm.trans (dU e4)) (by decide)|skip
  obtain⟨p,k,p0,k0,rfl,ea⟩:=M
  have K5:aQ h9 (x5.at 0 1)=some (VI p):=N9.get (i:=0) (by omega) (by simp)
  have hc1:aQ h9 (x5.at 1 1)=some (VI k):=N9.get (i:=1) (by omega) (by simp)
  obtain⟨Sg,Sw,G,W,qq⟩:=D9
  refine⟨N9.bB (by omega) (by simp),p,K5,cR G p _ fun Mf f23=>⟨_,rfl,gh.aB f23,fun e9=>keep f23 ?_,fun e9=> ?_⟩⟩
  ·rw[ea,Qm,BN,if_neg (by rw[aY e9,Bool.false_and];exact Bool.false_ne_true)];rfl
  have e9:=aV e9
  have hp:=aZ.1 (Bool.and_eq_true_iff.1 e9).2
  have N23:=N9.no f23
  obtain⟨si,c1,r1⟩:=(G.no f23).get (i:=p) p0 (by omega)
  have rn:=r1.len
  have eg:d.1.getD p.toNat []=d.1[p.toNat]'(by omega):=aR (by omega)
  refine⟨N23.bB (by omega) (by simp),k,dJ hc1 f23 fun h=>h,N23.bB (by omega) (by simp),p,dJ K5 f23 fun h=>h,(G.no f23).bB p0 (by omega),si,c1,fun e10=>keep f23 ?_,fun e10=> ?_⟩
  ·simp only[decide_eq_true_eq]at e10
   rw[ea,Qm,BN,if_neg (fun hh=>by have:=aZ.1 (Bool.and_eq_true_iff.1 hh).2;rw[eg]at this;omega)];rfl
  simp only[decide_eq_false_iff_not]at e10
  refine lE (aP.no W f23) (by omega) _ fun t h24 o24 f24=>⟨t,rfl,(gh.aB f23).aB f24,?_⟩
  have f0:=f23.aA f24
  have N24:=N23.no f24
  have z23:=f23.size
  have z24:=f24.size
  refine⟨N24.bB (by omega) (by simp),p,N24.get (i:=0) (by omega) (by simp),N24.bB (by omega) (by simp),k,N24.get (i:=1) (by omega) (by simp),?_⟩
  refine gq o24 p0 (by omega) (gh.aB f0) (fun q hq hk=> ?_) _ fun Ka O25 F25 R5=> ?_
  ·have h1:=hk.1
   have:q.1<h9.size:=by
    simp only[List.mem_cons,List.not_mem_nil,or_false]at hq
    rcases hq with rfl|rfl|rfl
    ·exact gh.head.lt
    ·exact gh.tail.head.lt
    ·exact gh.tail.tail.head.lt
   omega
  have z25:=F25.size
  have ad0:Fr (fun k=>h9.size<=k) h9 Ka:=f0.aB.trans (F25.mono fun k _ hk=>by have:=hk.1;omega)
  have NJ:(aM d.1&&iD 0 ((d.1.length:Int)-1) p&&iD 0 (((d.1.getD p.toNat []).length:Int)-1) k)=true:=by
   rw[e9,Bool.true_and,eg]
   exact aZ.2 ⟨k0,by omega⟩
  have WO:gv d.1 (d.2.1.set p.toNat k,d.2.2):=GP WK (by omega) k0 (by omega)
  have e0:qv d a=((d.1,(d.2.1.set p.toNat k,d.2.2)),nX (d.2.1.set p.toNat k,d.2.2)):=by rw[ea,Qm,BN,if_pos NJ];rfl
  have G25:=G.fr ad0 fun k hk aI=>by have:=(qq k (.inl hk)).2;omega
  refine zO (aX (L:=[_,_]) R5) G25 O25.fa (fun k hk e=> ?_) _ (fun e h' f'=> ?_) fun _ _ h' V' f'=> ?_
  ·rcases hk with hk|hk
   ·exact(qq k (.inl hk)).1 (e▸zb)
   ·have:=hk.1;omega
  ·rw[ld WO]at e
   cases e
  ·refine⟨g,t,d.2.2,x4,x5,_,rfl,R5.set (i:=2) rfl f' V'.head,?_⟩
   have:=HK g t x4 x5 h' (by
    rw[e0]
    refine K6.of (G25.fr f' fun k hk aI=>(qq k (.inl hk)).1 (aI▸zb)) (Ow.fa (Ow.fr O25 f' fun k hk aI=>by have:=(O25.aG hk).1.1;omega)) fun k hk _=> ?_
    rcases hk with hk|hk
    ·exact(qq k (.inl hk)).1
    ·exact fun hz=>by have:=hZ k hz;have:=hk.1;omega) (by rw[e0];exact V') (((F9.mono fun k _ hk=> .inr hk).trans (ad0.mono fun k _ hk=> .inr (by omega))).trans (f'.mono fun k _ hk=> .inl hk))
   rw[e0]at this
   exact this
 ·rcases M with⟨hw,M⟩|⟨hw,M⟩|⟨hw,M⟩|⟨hw,M⟩|⟨hw,M⟩|⟨hw,M⟩
  all_goals first|exact absurd (hw.symm.trans (dU e5)) (by decide)|skip
  obtain⟨Sg,Sw,G,W,qq⟩:=D9
  exact Ae G W d.2.2 _ fun t R9 Oi f27=>⟨t,_,_,rfl,gh.aB f27,wd (p9 _ _ _ _) Oi.fa (frs (X:=R9) fun k hk=>hk.1) f27 M⟩
 ·rcases M with⟨hw,M⟩|⟨hw,M⟩|⟨hw,M⟩|⟨hw,M⟩|⟨hw,M⟩|⟨hw,M⟩
  all_goals first|exact absurd hw (aW e)|exact absurd hw (aW e2)|exact absurd hw (aW e3)|exact absurd hw (aW e4)|exact absurd hw (aW e5)|skip
  obtain⟨n,rfl,ea⟩:=M
  have K5:aQ h9 (x5.at 0 1)=some (VI n):=N9.get (i:=0) (by omega) (by simp)
  obtain⟨Sg,Sw,G,W,qq⟩:=D9
  exact⟨N9.bB (by omega) (by simp),n,K5,Cz G W d.2.2 n _ fun t R9 Oi f27=>⟨t,_,_,rfl,gh.aB f27,wd (p9 _ _ _ _) Oi.fa (frs (X:=R9) fun k hk=>hk.1) f27 ea⟩⟩
def mU(d:Dk)(w:List UInt8)(ns:List Int)(a:p5):Prop:=
 (w=[115,104,111,119]/\a=some (d,uj d.1))\/(w=[119,97,108,107]/\a=some (d,nX d.2))\/(w=[112,97,115,115]/\∃n:Int,ns=[n]/\a=psC d n)\/(w=[118,105,115,105,116,115]/\∃n:Int,ns=[n]/\a=vsC d n)\/(w=[104,105,116]/\∃n:Int,ns=[n]/\a=htC d n)\/(w=[112,101,114,105,111,100]/\a=prC d)\/(w=[116,114,101,101,115]/\∃n:Int,ns=[n]/\a=tsC d n)\/(w=[99,121,99,108,101]/\a=cyC d)\/(w=[99,104,97,110,99,101]/\∃p q:Int,ns=[p,q]/\a=chC d p q)\/(w=[102,117,108,108]/\∃n:Int,ns=[n]/\a=flC d n)\/(w=zJ/\∃p q r s:Int,ns=[p,q,r,s]/\a=esC d p q r s)\/(w=[103,114,111,119]/\∃p q:Int,ns=[p,q]/\a=gwC d p q)
theorem iX(d:Dk){c:Prop} [Decidable c](t:List UInt8):qv d (if c then some (d,t)else none)=(d,if c then t else noR):=by
 by_cases h:c
 ·rw[if_pos h,if_pos h];rfl
 ·rw[if_neg h,if_neg h];rfl
theorem UI{d:Dk}{w:List UInt8}{ns:List Int}{a:p5}(M:mU d w ns a):(qv d a).1=d:=by
 rcases M with⟨_,rfl⟩|⟨_,rfl⟩|⟨_,n,_,rfl⟩|⟨_,n,_,rfl⟩|⟨_,n,_,rfl⟩|⟨_,rfl⟩|⟨_,n,_,rfl⟩|⟨_,rfl⟩|⟨_,p,q,_,rfl⟩|⟨_,n,_,rfl⟩|⟨_,p,q,r,s,_,rfl⟩|⟨_,p,q,_,rfl⟩
 ·rfl
 ·rfl
 ·exact congrArg Prod.fst (iX d _)
 ·exact congrArg Prod.fst (iX d _)
 ·exact congrArg Prod.fst (iX d _)
 ·exact congrArg Prod.fst (iX d _)
 ·exact congrArg Prod.fst (iX d _)
 ·exact congrArg Prod.fst (iX d _)
 ·exact congrArg Prod.fst (iX d _)
 ·exact congrArg Prod.fst (iX d _)
 ·exact congrArg Prod.fst (iX d _)
 ·exact congrArg Prod.fst (iX d _)
theorem qb{d:Dk}{X h9:Heap}{L:List (Nat×List Value)}(hL:Vars X L){t:Sl}{S:Nat->Prop}{r:List Int×Bool}(B:Jv r)(H:aP S X t r.1)(fX:Fr No h9 X){K:Value->Heap->Prop}(HK:∀h',Fr No h9 h'->K (VS ⟨(qv d (Qk d r)).2.toArray⟩) h'):aE Tryz.prog 131 #[t.v,VB r.2] X fun rv h'=>∃t':ByteArray,rv=VS t'/\Vars h' L/\K (VS t') h':=by
 refine Qn (fun _=>H) (fun _=>B.b) (fun _=>B.n) _ fun h' f'=>⟨_,rfl,hL.aB f',?_⟩
 have:=HK h' (fX.aA f')
 rw[Qk,iX]at this
 exact this
theorem Jz{d:Dk}{X h9:Heap}{L:List (Nat×List Value)}(hL:Vars X L){r:Int×Bool}(B:NtB r)(fX:Fr No h9 X){K:Value->Heap->Prop}(HK:∀h',Fr No h9 h'->K (VS ⟨(qv d (Vm d r)).2.toArray⟩) h'):aE Tryz.prog 134 #[VI r.1,VB r.2] X fun rv h'=>∃t':ByteArray,rv=VS t'/\Vars h' L/\K (VS t') h':=by
 refine Ju (fun _=>B) _ fun h' f'=>⟨_,rfl,hL.aB f',?_⟩
 have:=HK h' (fX.aA f')
 rw[Vm,iX]at this
 exact this
set_option maxHeartbeats 4000000 in
theorem UJ{h:Heap}{b1:Nat}{g w x4 x5:Sl}{d:Dk}{S S' S5:Nat->Prop}(V:Vars h [(b1,[g.v,w.v,VI d.2.2,x4.v,x5.v])])(G:bF S h g d.1)(W:aP S' h w d.2.1)(ok:p7 d){ns:List Int}(N5:aP S5 h x5 ns){s:ByteArray}{a:p5}(M:mU d s.data.toList ns a)(K:Value->Heap->Prop)
 (HK:∀h',Fr No h h'->K (VS ⟨(qv d a).2.toArray⟩) h'):aE Tryz.prog 86 #[VP b1 0,VS s] h K:=by
 have dl:=lK ok
 have WK:=cG ok
 have ws:=fV WK
 simp only at ws
 have n1:∀{b k:Nat},In [b] k->k=b:=fun hk=>by simpa[In]using hk
 refine v86 b1 g w d.2.2 x4 x5 s h K V ?_
 refine⟨fun c2 y1 c3 y2 y3 h'=>g=y1/\w=y2/\d.2.2=y3/\Fr (fun k=>h.size<=k) h h',⟨fun c4 h1 hc4 f1 _ c5 h2 hc5 f2 _ h3 f3 _ h4 f4 _=>⟨rfl,rfl,rfl,?_⟩,fun c6 h1 hc6 f1 _ c7 h2 hc7 f2 _ h3 f3 _ h4 f4 _=>⟨rfl,rfl,rfl,?_⟩⟩,?_⟩
 ·have:=f1.size
  exact(((f1.aF.aB).trans f2.aF.aB).trans (f3.mono fun k _ hk=>by have:=n1 hk;omega)).trans (f4.mono fun k _ hk=>by have:=n1 hk;omega)
 ·have:=f1.size
  exact(((f1.aF.aB).trans f2.aF.aB).trans (f3.mono fun k _ hk=>by have:=n1 hk;omega)).trans (f4.mono fun k _ hk=>by have:=n1 hk;omega)
 rintro c2 _ c3 _ _ h9 ⟨rfl,rfl,rfl,F9⟩ hL
 have F9:Fr No h h9:=F9.mono fun k hk aI=>by omega
 have G:=G.no F9
 have W:=aP.no W F9
 have N:=aP.no N5 F9
 have HK:∀h',Fr No h9 h'->K (VS ⟨(qv d a).2.toArray⟩) h':=fun h' f=>HK h' (F9.aA f)
 clear F9 N5 V
 refine⟨fun e=> ?_,fun e=>⟨fun e2=> ?_,fun e2=>⟨fun e3=> ?_,fun e3=>⟨fun e4=> ?_,fun e4=>⟨fun e5=> ?_,fun e5=>⟨fun e6=> ?_,fun e6=>⟨fun e7=> ?_,fun e7=>⟨fun e8=> ?_,fun e8=>⟨fun e9=> ?_,fun e9=>⟨fun e10=> ?_,fun e10=>⟨fun Wj=> ?_,fun Wj=> ?_⟩⟩⟩⟩⟩⟩⟩⟩⟩⟩⟩
 ·rcases M with⟨hw,M⟩|⟨hw,M⟩|⟨hw,M⟩|⟨hw,M⟩|⟨hw,M⟩|⟨hw,M⟩|⟨hw,M⟩|⟨hw,M⟩|⟨hw,M⟩|⟨hw,M⟩|⟨hw,M⟩|⟨hw,M⟩
  all_goals first|exact absurd (hw.symm.trans (dU e)) (by decide)|skip
  subst M
  exact sR G (jq WK.bE) _ fun h' f=>⟨_,rfl,hL.aB f,HK h' f⟩
 ·rcases M with⟨hw,M⟩|⟨hw,M⟩|⟨hw,M⟩|⟨hw,M⟩|⟨hw,M⟩|⟨hw,M⟩|⟨hw,M⟩|⟨hw,M⟩|⟨hw,M⟩|⟨hw,M⟩|⟨hw,M⟩|⟨hw,M⟩
  all_goals first|exact absurd (hw.symm.trans (dU e2)) (by decide)|skip
  subst M
  exact GK W (by omega) (fun x hx=>by have:=ws.1 x hx;omega) (by omega) _ fun h' f=>⟨_,rfl,hL.aB f,HK h' f⟩
 ·rcases M with⟨hw,M⟩|⟨hw,M⟩|⟨hw,M⟩|⟨hw,M⟩|⟨hw,M⟩|⟨hw,M⟩|⟨hw,M⟩|⟨hw,M⟩|⟨hw,M⟩|⟨hw,M⟩|⟨hw,M⟩|⟨hw,M⟩
  all_goals first|exact absurd (hw.symm.trans (dU e3)) (by decide)|skip
  obtain⟨n,rfl,rfl⟩:=M
  exact⟨N.bB (by omega) (by simp),n,N.get (i:=0) (by omega) (by simp),qi G W d.2.2 n _ fun t X T f=>⟨t,_,rfl,hL.aB f,qb (hL.aB f) (adO _ _ _ _) T f HK⟩⟩
 ·rcases M with⟨hw,M⟩|⟨hw,M⟩|⟨hw,M⟩|⟨hw,M⟩|⟨hw,M⟩|⟨hw,M⟩|⟨hw,M⟩|⟨hw,M⟩|⟨hw,M⟩|⟨hw,M⟩|⟨hw,M⟩|⟨hw,M⟩
  all_goals first|exact absurd (hw.symm.trans (dU e4)) (by decide)|skip
  obtain⟨n,rfl,rfl⟩:=M
  exact⟨N.bB (by omega) (by simp),n,N.get (i:=0) (by omega) (by simp),vP G W d.2.2 n _ fun t X T f=>⟨t,_,rfl,hL.aB f,qb (hL.aB f) (adP _ _ _ _) T f HK⟩⟩
 ·rcases M with⟨hw,M⟩|⟨hw,M⟩|⟨hw,M⟩|⟨hw,M⟩|⟨hw,M⟩|⟨hw,M⟩|⟨hw,M⟩|⟨hw,M⟩|⟨hw,M⟩|⟨hw,M⟩|⟨hw,M⟩|⟨hw,M⟩
  all_goals first|exact absurd (hw.symm.trans (dU e5)) (by decide)|skip
  obtain⟨n,rfl,rfl⟩:=M
  exact⟨N.bB (by omega) (by simp),n,N.get (i:=0) (by omega) (by simp),xR G W d.2.2 n _ fun X f=>⟨_,_,rfl,hL.aB f,Jz (hL.aB f) (adQ _ _ _ _) f HK⟩⟩
 ·rcases M with⟨hw,M⟩|⟨hw,M⟩|⟨hw,M⟩|⟨hw,M⟩|⟨hw,M⟩|⟨hw,M⟩|⟨hw,M⟩|⟨hw,M⟩|⟨hw,M⟩|⟨hw,M⟩|⟨hw,M⟩|⟨hw,M⟩
  all_goals first|exact absurd (hw.symm.trans (dU e6)) (by decide)|skip
  subst M
  refine vV G W d.2.2 _ fun X f=>⟨_,_,_,rfl,hL.aB f,?_⟩
  refine aS fL (fun k=>X.size<=k) (fun _ h=>h) 2 (by omega) [VI _,VI _] rfl rfl fun t Y n2 c2 o2 f2 m2 _=>⟨t,rfl,(hL.aB f).aB f2,?_⟩
  have pb:=Vp d.1 d.2.1 d.2.2
  have MF:bK Y (fun k=>X.size<=k) t [(dX d.1 d.2.1 d.2.2).1,(dX d.1 d.2.1 d.2.2).2.1]:=o2
  refine qb (r:=([(dX d.1 d.2.1 d.2.2).1,(dX d.1 d.2.1 d.2.2).2.1],(dX d.1 d.2.1 d.2.2).2.2)) ((hL.aB f).aB f2) ⟨fun x hx=> ?_,by simp,fun _=>by simp⟩ MF.rd (f.aA f2) HK
  simp only[List.mem_cons,List.not_mem_nil,or_false]at hx
  rcases hx with rfl|rfl<;>omega
 ·rcases M with⟨hw,M⟩|⟨hw,M⟩|⟨hw,M⟩|⟨hw,M⟩|⟨hw,M⟩|⟨hw,M⟩|⟨hw,M⟩|⟨hw,M⟩|⟨hw,M⟩|⟨hw,M⟩|⟨hw,M⟩|⟨hw,M⟩
  all_goals first|exact absurd (hw.symm.trans (dU e7)) (by decide)|skip
  obtain⟨n,rfl,rfl⟩:=M
  exact⟨N.bB (by omega) (by simp),n,N.get (i:=0) (by omega) (by simp),tf G n _ fun X f=>⟨_,_,rfl,hL.aB f,Jz (hL.aB f) (adR _ _) f HK⟩⟩
 ·rcases M with⟨hw,M⟩|⟨hw,M⟩|⟨hw,M⟩|⟨hw,M⟩|⟨hw,M⟩|⟨hw,M⟩|⟨hw,M⟩|⟨hw,M⟩|⟨hw,M⟩|⟨hw,M⟩|⟨hw,M⟩|⟨hw,M⟩
  all_goals first|exact absurd (hw.symm.trans (dU e8)) (by decide)|skip
  subst M
  exact uX G W d.2.2 _ fun t X T f=>⟨t,_,rfl,hL.aB f,qb (hL.aB f) (adN _ _ _) T f HK⟩
 ·rcases M with⟨hw,M⟩|⟨hw,M⟩|⟨hw,M⟩|⟨hw,M⟩|⟨hw,M⟩|⟨hw,M⟩|⟨hw,M⟩|⟨hw,M⟩|⟨hw,M⟩|⟨hw,M⟩|⟨hw,M⟩|⟨hw,M⟩
  all_goals first|exact absurd (hw.symm.trans (dU e9)) (by decide)|skip
  obtain⟨p,q,rfl,rfl⟩:=M
  have K5:aQ h9 (x5.at 0 1)=some (VI p):=N.get (i:=0) (by omega) (by simp)
  have hc1:aQ h9 (x5.at 1 1)=some (VI q):=N.get (i:=1) (by omega) (by simp)
  refine⟨fun bb c8 u v h'=>bb=(rH d.1 d.2.2 p q).2/\u=(rH d.1 d.2.2 p q).1.1/\v=(rH d.1 d.2.2 p q).1.2/\Fr No h9 h',⟨N.bB (by omega) (by simp),p,K5,N.bB (by omega) (by simp),q,hc1,?_,?_⟩,?_⟩
  ·exact mO G d.2.2 p q _ fun X f=>⟨_,_,_,rfl,hL.aB f,fun c9 QX _ f15 _=>⟨rfl,rfl,rfl,f.aA f15.aF⟩⟩
  ·intro c10 Mh ak7 f16 zB
   have f16:=f16.aF
   have z16:=f16.size
   exact⟨dJ hc1 f16 fun h=>h,dJ K5 f16 fun h=>h,mO (G.no f16) d.2.2 p q _ fun X f=>⟨_,_,_,rfl,zB.aB f,fun h18 f18 _=>⟨rfl,rfl,rfl,(f16.aA f).fresh f18 fun k hk=>by have:=n1 hk;omega⟩⟩⟩
  ·rintro _ c8 _ _ KP ⟨rfl,rfl,rfl,Vq⟩ zC
   have cb:=adT d.1 d.2.2 p q
   refine⟨fun e9=> ?_,fun e9=> ?_⟩
   ·have:=HK KP Vq
    rw[chC,iX,if_neg (by rw[aY e9];exact Bool.false_ne_true)]at this
    exact this
   ·have HK:∀h',Fr No h9 h'->K (VS ⟨(Lib.itoa (rH d.1 d.2.2 p q).1.1++47::Lib.itoa (rH d.1 d.2.2 p q).1.2).toArray⟩) h':=fun h' f=>by
     have:=HK h' f
     rw[chC,iX,if_pos (aV e9)]at this
     exact this
    generalize (rH d.1 d.2.2 p q).1.1=u at HK cb zC⊢
    generalize (rH d.1 d.2.2 p q).1.2=v at HK cb zC⊢
    obtain⟨u,rfl⟩:∃m:Nat,u=(m:Int):=⟨u.toNat,by omega⟩
    obtain⟨v,rfl⟩:∃m:Nat,v=(m:Int):=⟨v.toNat,by omega⟩
    have dl1:=(gG 18 u (by omega)).2
    have dl2:=(gG 18 v (by omega)).2
    refine jy u (by omega) _ fun h20 f20=>⟨_,rfl,zC.aB f20,by rw[bZ];show _+1<=_;omega,jy v (by omega) _ fun Xk f21=>⟨_,rfl,(zC.aB f20).aB f21,?_,?_⟩⟩
    ·rw[show(⟨#[47]⟩:ByteArray)=⟨[47].toArray⟩from rfl,eX,bZ,bZ,List.length_append];show _+1+_<=_;omega
    ·rw[show(⟨#[47]⟩:ByteArray)=⟨[47].toArray⟩from rfl,eX,eX]
     have:=HK Xk ((Vq.aA f20).aA f21)
     rw[Lib.itoa_nonneg,Lib.itoa_nonneg]at this
     simpa using this
 ·rcases M with⟨hw,M⟩|⟨hw,M⟩|⟨hw,M⟩|⟨hw,M⟩|⟨hw,M⟩|⟨hw,M⟩|⟨hw,M⟩|⟨hw,M⟩|⟨hw,M⟩|⟨hw,M⟩|⟨hw,M⟩|⟨hw,M⟩
  all_goals first|exact absurd (hw.symm.trans (dU e10)) (by decide)|skip
  obtain⟨n,rfl,rfl⟩:=M
  exact⟨N.bB (by omega) (by simp),n,N.get (i:=0) (by omega) (by simp),vW G n _ fun t X T f=>⟨t,_,rfl,hL.aB f,qb (hL.aB f) (adS _ _) T.rd f HK⟩⟩
 ·rcases M with⟨hw,M⟩|⟨hw,M⟩|⟨hw,M⟩|⟨hw,M⟩|⟨hw,M⟩|⟨hw,M⟩|⟨hw,M⟩|⟨hw,M⟩|⟨hw,M⟩|⟨hw,M⟩|⟨hw,M⟩|⟨hw,M⟩
  all_goals first|exact absurd (hw.symm.trans (dU Wj)) (by decide)|skip
  obtain⟨p,q,r,u,rfl,rfl⟩:=M
  exact⟨N.bB (by omega) (by simp),p,N.get (i:=0) (by omega) (by simp),N.bB (by omega) (by simp),q,N.get (i:=1) (by omega) (by simp),N.bB (by omega) (by simp),r,N.get (i:=2) (by omega) (by simp),N.bB (by omega) (by simp),u,N.get (i:=3) (by omega) (by simp),u3 p q r u _ fun X f=>⟨_,_,rfl,hL.aB f,Jz (hL.aB f) (adV _ _ _ _) f HK⟩⟩
 ·rcases M with⟨hw,M⟩|⟨hw,M⟩|⟨hw,M⟩|⟨hw,M⟩|⟨hw,M⟩|⟨hw,M⟩|⟨hw,M⟩|⟨hw,M⟩|⟨hw,M⟩|⟨hw,M⟩|⟨hw,M⟩|⟨hw,M⟩
  all_goals first|exact absurd hw (aW e)|exact absurd hw (aW e2)|exact absurd hw (aW e3)|exact absurd hw (aW e4)|exact absurd hw (aW e5)|exact absurd hw (aW e6)|exact absurd hw (aW e7)|exact absurd hw (aW e8)|exact absurd hw (aW e9)|exact absurd hw (aW e10)|exact absurd hw (aW Wj)|skip
  obtain⟨p,q,rfl,rfl⟩:=M
  exact⟨N.bB (by omega) (by simp),p,N.get (i:=0) (by omega) (by simp),N.bB (by omega) (by simp),q,N.get (i:=1) (by omega) (by simp),tt p q _ fun t X T f=>⟨t,_,rfl,hL.aB f,qb (hL.aB f) (adU _ _) T f HK⟩⟩
theorem GU:∀(n:Nat)(ws:List (List UInt8))(acc:List Int),ws.length=n->fa (List.replicate n 110) ws [] acc=(gK jR ws).map fun ns=>([],acc++ns)
 |0,[],acc,_=>by simp[fa,gK]
 |n+1,w::ws,acc,h=>by
  rw[List.replicate_succ,fa,if_pos rfl,gK,Qj]
  cases hr:mT w with
  |none=>rfl
  |some m=>
   simp only[Option.map_some]
   rw[GU n ws _ (by simpa using h)]
   cases gK jR ws with
   |none=>rfl
   |some ns=>simp
 |0,_::_,_,h=>by cases h
 |_+1,[],_,h=>by cases h
theorem QD{α β:Type}{f:α->Option β}{l:List α}{r:List β}(h:gK f l=some r):r.length=l.length:=(mH h).1
theorem aaV{d:Dk}{w:List UInt8}(h:w∈UE)(ns:List Int):(ns.length≠0->bW d w ns=none)/\(ns.length=0->∃a,bW d w ns=some a/\(vZ d w [] ns a\/mU d w ns a)):=by
 simp only[UE,List.mem_cons,List.not_mem_nil,or_false]at h
 constructor
 ·intro hn
  match ns,hn with
  |[],hn=>exact absurd rfl hn
  |[n],_=>rcases h with rfl|rfl|rfl|rfl|rfl<;>simp[bW,gQ]
  |[p,q],_=>rcases h with rfl|rfl|rfl|rfl|rfl<;>simp[bW,u9]
  |[_,_,_],_=>rfl
  |[p,q,r,s],_=>rcases h with rfl|rfl|rfl|rfl|rfl<;>simp[bW,zJ]
  |_::_::_::_::_::_,_=>rfl
 ·intro hn
  obtain rfl:=List.length_eq_zero_iff.1 hn
  rcases h with rfl|rfl|rfl|rfl|rfl
  ·exact⟨stC d,by simp[bW,iW],.inl (.inr (.inr (.inr (.inr (.inl ⟨rfl,rfl⟩)))))⟩
  ·exact⟨some (d,uj d.1),by simp[bW,iW],.inr (.inl ⟨rfl,rfl⟩)⟩
  ·exact⟨some (d,nX d.2),by simp[bW,iW],.inr (.inr (.inl ⟨rfl,rfl⟩))⟩
  ·exact⟨prC d,by simp[bW,iW],.inr (.inr (.inr (.inr (.inr (.inr (.inl ⟨rfl,rfl⟩))))))⟩
  ·exact⟨cyC d,by simp[bW,iW],.inr (.inr (.inr (.inr (.inr (.inr (.inr (.inr (.inl ⟨rfl,rfl⟩))))))))⟩
theorem aaW{d:Dk}{w:List UInt8}(h:w∈UF)(ns:List Int)(h0:∀n,n∈ns->0<=n):(ns.length≠1->bW d w ns=none)/\(ns.length=1->∃a,bW d w ns=some a/\(vZ d w [] ns a\/mU d w ns a)):=by
 simp only[UF,List.mem_cons,List.not_mem_nil,or_false]at h
 constructor
 ·intro hn
  match ns,hn with
  |[],_=>rcases h with rfl|rfl|rfl|rfl|rfl|rfl|rfl<;>simp[bW,iW]
  |[n],hn=>exact absurd rfl hn
  |[p,q],_=>rcases h with rfl|rfl|rfl|rfl|rfl|rfl|rfl<;>simp[bW,u9]
  |[_,_,_],_=>rfl
  |[p,q,r,s],_=>rcases h with rfl|rfl|rfl|rfl|rfl|rfl|rfl<;>simp[bW,zJ]
  |_::_::_::_::_::_,_=>rfl
 ·intro hn
  obtain⟨n,rfl⟩:=List.length_eq_one_iff.1 hn
  have n0:=h0 n (by simp)
  rcases h with rfl|rfl|rfl|rfl|rfl|rfl|rfl
  ·exact⟨Ut d n,by simp[bW,gQ],.inl (.inr (.inr (.inl ⟨rfl,n,n0,rfl,rfl⟩)))⟩
  ·exact⟨rnC d n,by simp[bW,gQ],.inl (.inr (.inr (.inr (.inr (.inr ⟨rfl,n,rfl,rfl⟩)))))⟩
  ·exact⟨psC d n,by simp[bW,gQ],.inr (.inr (.inr (.inl ⟨rfl,n,rfl,rfl⟩)))⟩
  ·exact⟨vsC d n,by simp[bW,gQ],.inr (.inr (.inr (.inr (.inl ⟨rfl,n,rfl,rfl⟩))))⟩
  ·exact⟨htC d n,by simp[bW,gQ],.inr (.inr (.inr (.inr (.inr (.inl ⟨rfl,n,rfl,rfl⟩)))))⟩
  ·exact⟨tsC d n,by simp[bW,gQ],.inr (.inr (.inr (.inr (.inr (.inr (.inr (.inl ⟨rfl,n,rfl,rfl⟩)))))))⟩
  ·exact⟨flC d n,by simp[bW,gQ],.inr (.inr (.inr (.inr (.inr (.inr (.inr (.inr (.inr (.inr (.inl ⟨rfl,n,rfl,rfl⟩))))))))))⟩
theorem aaX{d:Dk}{w:List UInt8}(h:w∈UG)(ns:List Int)(h0:∀n,n∈ns->0<=n):(ns.length≠2->bW d w ns=none)/\(ns.length=2->∃a,bW d w ns=some a/\(vZ d w [] ns a\/mU d w ns a)):=by
 simp only[UG,List.mem_cons,List.not_mem_nil,or_false]at h
 constructor
 ·intro hn
  match ns,hn with
  |[],_=>rcases h with rfl|rfl|rfl|rfl<;>simp[bW,iW]
  |[n],hn=>rcases h with rfl|rfl|rfl|rfl<;>simp[bW,gQ]
  |[p,q],hn=>exact absurd rfl hn
  |[_,_,_],_=>rfl
  |[p,q,r,s],_=>rcases h with rfl|rfl|rfl|rfl<;>simp[bW,zJ]
  |_::_::_::_::_::_,_=>rfl
 ·intro hn
  obtain⟨p,q,rfl⟩:∃p q,ns=[p,q]:=by
   match ns,hn with
   |[p,q],_=>exact⟨p,q,rfl⟩
  have p0:=h0 p (by simp)
  have q0:=h0 q (by simp)
  rcases h with rfl|rfl|rfl|rfl
  ·exact⟨Vn d p q,by simp[bW,u9],.inl (.inr (.inl ⟨rfl,p,q,rfl,rfl⟩))⟩
  ·exact⟨Qm d p q,by simp[bW,u9],.inl (.inr (.inr (.inr (.inl ⟨rfl,p,q,p0,q0,rfl,rfl⟩))))⟩
  ·exact⟨chC d p q,by simp[bW,u9],.inr (.inr (.inr (.inr (.inr (.inr (.inr (.inr (.inr (.inl ⟨rfl,p,q,rfl,rfl⟩)))))))))⟩
  ·exact⟨gwC d p q,by simp[bW,u9],.inr (.inr (.inr (.inr (.inr (.inr (.inr (.inr (.inr (.inr (.inr (.inr ⟨rfl,p,q,rfl,rfl⟩)))))))))))⟩
theorem aaY{d:Dk}(ns:List Int):(ns.length≠4->bW d zJ ns=none)/\(ns.length=4->∃a,bW d zJ ns=some a/\(vZ d zJ [] ns a\/mU d zJ ns a)):=by
 constructor
 ·intro hn
  match ns,hn with
  |[],_=>simp[bW,iW,zJ]
  |[n],hn=>simp[bW,gQ,zJ]
  |[p,q],hn=>simp[bW,u9,zJ]
  |[_,_,_],_=>rfl
  |[p,q,r,s],hn=>exact absurd rfl hn
  |_::_::_::_::_::_,_=>rfl
 ·intro hn
  obtain⟨p,q,r,s,rfl⟩:∃p q r s,ns=[p,q,r,s]:=by
   match ns,hn with
   |[p,q,r,s],_=>exact⟨p,q,r,s,rfl⟩
  exact⟨esC d p q r s,by simp[bW,zJ],.inr (.inr (.inr (.inr (.inr (.inr (.inr (.inr (.inr (.inr (.inr (.inl ⟨rfl,p,q,r,s,rfl,rfl⟩)))))))))))⟩
theorem aaZ{d:Dk}{w:List UInt8}(hA:w∉UE)(hB:w∉UF)(hC:w∉UG)(hE:w≠zJ)(ns:List Int):bW d w ns=none:=by
 simp only[UE,UF,UG,List.mem_cons,List.not_mem_nil,or_false,not_or]at hA hB hC
 match ns with
 |[]=>simp[bW,iW,hA]
 |[n]=>simp[bW,gQ,hB]
 |[p,q]=>simp[bW,u9,hC]
 |[_,_,_]=>rfl
 |[p,q,r,s]=>simp[bW,hE]
 |_::_::_::_::_::_=>rfl
theorem tz{d:Dk}{w:List UInt8}{vs:List (List UInt8)}{m:Nat}(hs:dR w=List.replicate m 110)(hg:w≠ML)(H:∀ns:List Int,(∀n,n∈ns->0<=n)->(ns.length≠m->bW d w ns=none)/\(ns.length=m->∃a,bW d w ns=some a/\(vZ d w [] ns a\/mU d w ns a))):(Hj (w::vs)=none->gY d (w::vs)=none)/\∀r,Hj (w::vs)=some r->∃a,gY d (w::vs)=some a/\(vZ d w r.1 r.2 a\/mU d w r.2 a):=by
 have he:gY d (w::vs)=match gK jR vs with|none=>none|some ns=>bW d w ns:=by
  unfold gY
  rw[if_neg (fun h=>hg h.2)]
  rfl
 have hr:Hj (w::vs)=if vs.length=m then(gK jR vs).map fun ns=>([],ns)else none:=by
  unfold Hj
  simp only[List.headD_cons,List.length_cons,List.tail_cons,hs,List.length_replicate,Nat.add_right_cancel_iff]
  by_cases hm:vs.length=m
  ·rw[if_pos hm.symm,if_pos hm,GU m vs [] hm]
   simp
  ·rw[if_neg (fun h=>hm h.symm),if_neg hm]
 rw[he,hr]
 cases ha:gK jR vs with
 |none=>
  refine⟨fun _=>rfl,fun r h=> ?_⟩
  split at h<;>cases h
 |some ns=>
  have hl:=QD ha
  have hn:=H ns fun n hn=>(GO ha n hn).1
  by_cases hm:vs.length=m
  ·rw[if_pos hm]
   refine⟨fun h=>(by cases h),fun r h=> ?_⟩
   obtain rfl:=(Option.some.inj h).symm
   exact hn.2 (by omega)
  ·rw[if_neg hm]
   exact⟨fun _=>hn.1 (by omega),fun r h=>by cases h⟩
theorem MC(d:Dk){ws:List (List UInt8)}(hw:ws≠[]):(Hj ws=none->gY d ws=none)/\∀r,Hj ws=some r->∃a,gY d ws=some a/\(vZ d (ws.headD []) r.1 r.2 a\/mU d (ws.headD []) r.2 a):=by
 obtain⟨w,vs,rfl⟩:∃w vs,ws=w::vs:=by
  cases ws with
  |nil=>exact absurd rfl hw
  |cons a l=>exact⟨a,l,rfl⟩
 rw[List.headD_cons]
 by_cases hA:w∈UE
 ·exact tz (m:=0) (by unfold dR;rw[if_pos hA];rfl) (fun h=>by rw[h]at hA;revert hA;decide) fun ns _=>aaV hA ns
 by_cases hB:w∈UF
 ·exact tz (m:=1) (by unfold dR;rw[if_neg hA,if_pos hB];rfl) (fun h=>by rw[h]at hB;revert hB;decide) fun ns h=>aaW hB ns h
 by_cases hC:w∈UG
 ·exact tz (m:=2) (by unfold dR;rw[if_neg hA,if_neg hB,if_pos hC];rfl) (fun h=>by rw[h]at hC;revert hC;decide) fun ns h=>aaX hC ns h
 by_cases hE:w=zJ
 ·subst hE
  exact tz (m:=4) (by decide) (by decide) fun ns _=>aaY ns
 have hN:=aaZ (d:=d) hA hB hC hE
 by_cases hG:w=ML
 ·subst hG
  have hs:dR ML=[103]:=by decide
  match vs with
  |[]=>
   refine⟨fun _=> ?_,fun r h=> ?_⟩
   ·unfold gY
    rw[if_neg (fun h=>by simp at h)]
    exact hN []
   ·unfold Hj at h;rw[List.headD_cons,hs]at h;cases h
  |[v]=>
   have he:gY d [ML,v]=gpC v:=by unfold gY;rw[if_pos ⟨rfl,rfl⟩];rfl
   have hr:Hj [ML,v]=match pf v with|none=>none|some g'=>some (g',[]):=by
    unfold Hj
    rw[List.headD_cons,hs,if_pos (show([103]:List UInt8).length+1=[ML,v].length from rfl)]
    show fa [103] [v] [] []=_
    rw[fa,if_neg (by decide),if_pos rfl]
    cases pf v<;>rfl
   rw[he,hr]
   unfold gpC
   cases hp:pf v with
   |none=>exact⟨fun _=>rfl,fun r h=>by cases h⟩
   |some g=>
    refine⟨fun h=>(by cases h),fun r h=> ?_⟩
    obtain rfl:=(Option.some.inj h).symm
    exact⟨_,rfl,.inl (.inl ⟨rfl,(wH hp).1,rfl⟩)⟩
  |a::b::vs=>
   refine⟨fun _=> ?_,fun r h=> ?_⟩
   ·unfold gY
    rw[if_neg (fun h=>by simp at h)]
    show(match gK jR (a::b::vs)with|none=>none|some ns=>bW d ML ns)=none
    split
    ·rfl
    ·exact hN _
   ·unfold Hj at h;rw[List.headD_cons,hs,if_neg (by simp)]at h;cases h
 have hs:dR w=[63]:=by unfold dR;rw[if_neg hA,if_neg hB,if_neg hC,if_neg hE,if_neg hG]
 refine⟨fun _=> ?_,fun r h=> ?_⟩
 ·unfold gY
  rw[if_neg (fun h=>hG h.2)]
  show(match gK jR vs with|none=>none|some ns=>bW d w ns)=none
  split
  ·rfl
  ·exact hN _
 ·unfold Hj at h
  rw[List.headD_cons,hs]at h
  split at h
  ·rename_i hl
   match vs,hl with
   |[v],_=>rw[List.tail_cons,fa,if_neg (by decide),if_neg (by decide)]at h;cases h
  ·cases h
set_option maxHeartbeats 2000000 in
theorem QE{h:Heap}{g w:Sl}{d:Dk}{S S':Nat->Prop}(G:bF S h g d.1)(W:aP S' h w d.2.1)(ok:p7 d){s:ByteArray}(hs:s.size<=3000)(K:Value->Heap->Prop)(HK:∀(g' w':Sl)(T T':Nat->Prop) h',bF T h' g' (gZ d s.data.toList).1.1->aP T' h' w' (gZ d s.data.toList).1.2.1->(∀k,T k\/T' k->(S k\/S' k\/h.size<=k)/\k<h'.size)->Fr No h h'->K (.tuple #[.agg #[g'.v,w'.v,VI (gZ d s.data.toList).1.2.2],VS ⟨(gZ d s.data.toList).2.toArray⟩]) h'):aE Tryz.prog 47 #[.agg #[g.v,w.v,VI d.2.2],VS s] h K:=by
 refine v47 g w d.2.2 s h K fun b1 b2 h2 dM dE f2 bP=> ?_
 have f2:=f2.aF
 have z2:=f2.size
 have vY:b2<h2.size:=bP.head.lt
 have n1:∀{b k:Nat},In [b] k->k=b:=fun hk=>by simpa[In]using hk
 have rU:∀{X:Heap},h.size<=X.size->∀k,(S k/\k<h.size)\/(S' k/\k<h.size)->(S k\/S' k\/h.size<=k)/\k<X.size:=fun hz k hk=>by
  rcases hk with hk|hk
  ·exact⟨.inl hk.1,by omega⟩
  ·exact⟨.inr (.inl hk.1),by omega⟩
 obtain⟨x0,hx⟩:=MC d (Bu 32 s.data.toList)
 refine QC g w d.2.2 hs _ (fun e w1 x1 x2 x3 x4 x5 h3 f3=> ?_) fun r e w1 x4 x5 S4 S5 h3 hw G4 N5 h45 f3=> ?_
 ·refine⟨w1,x1,x2,x3,x4,x5,false,rfl,bP.aB f3,fun _=>fun b3 h6 ia f6 _=> ?_,fun e=>by cases e⟩
  have el:gZ d s.data.toList=(d,[119,104,97,116]):=by unfold gZ;rw[x0 e];rfl
  rw[el]at HK
  have f:=(f2.aA f3).aB.trans f6
  exact HK g w _ _ h6 (G.zY.fr f fun k hk aI=>by have:=n1 aI;have:=hk.2;omega) (aP.fr (cY.lt W) f fun k hk aI=>by have:=n1 aI;have:=hk.2;omega) (rU f.size) ((f2.aA f3).fresh f6 fun k hk=>by have:=n1 hk;omega)
 ·obtain⟨a,ea,hM⟩:=hx r e
  have el:gZ d s.data.toList=qv d a:=by unfold gZ;rw[ea];rfl
  rw[el]at HK
  rw[<-hw]at hM
  refine⟨w1,g,w,d.2.2,x4,x5,true,rfl,bP.aB f3,fun e=>(by cases e),fun _=>fun b3 h5 ia f5 ic=> ?_⟩
  have f5:=f5.aF
  have tX:=(f2.aA f3).aA f5
  have z3:=f3.size
  have z5:=f5.size
  have wMA:(∃x,x=true/\vZ d w1.data.toList r.1 r.2 a)\/(∃x,x=false/\mU d w1.data.toList r.2 a):=hM.elim (fun h=> .inl ⟨_,rfl,h⟩) fun h=> .inr ⟨_,rfl,h⟩
  refine⟨fun x h'=>h5=h'/\(x=true->vZ d w1.data.toList r.1 r.2 a)/\(x=false->mU d w1.data.toList r.2 a),?_,?_⟩
  ·simp only[K4]
   have pos:∀{l:List UInt8},l∈[[103,114,97,112,104],[97,100,100],[97,116],[116,117,114,110],[115,116,101,112],[114,117,110]]->w1.data.toList=l->vZ d w1.data.toList r.1 r.2 a:=fun{l} hl e=>hM.elim id fun A=>by
    exfalso
    unfold mU at A
    rw[e]at A
    simp only[List.mem_cons,List.not_mem_nil,or_false]at hl
    rcases hl with rfl|rfl|rfl|rfl|rfl|rfl<;>revert A<;>simp[zJ]
   have bt:∀{l:List UInt8},l∈[[103,114,97,112,104],[97,100,100],[97,116],[116,117,114,110],[115,116,101,112],[114,117,110]]->decide (w1.data.toList=l)=true->True/\(decide (w1.data.toList=l)=true->vZ d w1.data.toList r.1 r.2 a)/\(decide (w1.data.toList=l)=false->mU d w1.data.toList r.2 a):=fun{l} hl e=>⟨trivial,fun _=>pos hl (of_decide_eq_true e),fun e2=>by rw[e]at e2;cases e2⟩
   refine⟨fun e=>bt (by simp) e,fun e=>⟨fun e2=>bt (by simp) e2,fun e2=>⟨fun e3=>bt (by simp) e3,fun e3=>⟨fun e4=>bt (by simp) e4,fun e4=>⟨fun e5=>bt (by simp) e5,fun e5=>⟨trivial,fun e6=>pos (by simp) (of_decide_eq_true e6),fun e6=>hM.elim (fun M=> ?_) id⟩⟩⟩⟩⟩⟩
   exfalso
   simp only[decide_eq_false_iff_not]at e e2 e3 e4 e5 e6
   rcases M with⟨hw,_⟩|⟨hw,_⟩|⟨hw,_⟩|⟨hw,_⟩|⟨hw,_⟩|⟨hw,_⟩
   ·exact e hw
   ·exact e2 hw
   ·exact e3 hw
   ·exact e4 hw
   ·exact e5 hw
   ·exact e6 hw
  rintro x _ ⟨rfl,q1,q2⟩ j8
  have RZ:b3<h5.size:=j8.head.lt
  have V7:Vars h5 [(b3,[g.v,w.v,VI d.2.2,x4.v,x5.v])]:= .cons j8.head (by simp) .nil
  refine⟨fun e1=> ?_,fun e1=> ?_⟩
  ·have D:K6 (fun k=>k=b3\/k=b2\/(k<h.size/\¬S k/\¬S' k)) h5 g w d:=K6.of (G.zY.no tX) (aP.no (cY.lt W) tX) fun k hk _ hz=>by
    rcases hz with rfl|rfl|hz
    ·rcases hk with hk|hk<;>(have:=hk.2;omega)
    ·rcases hk with hk|hk<;>(have:=hk.2;omega)
    ·rcases hk with hk|hk
     ·exact hz.2.1 hk.1
     ·exact hz.2.2 hk.1
   refine UH (Z:=fun k=>k=b3\/k=b2\/(k<h.size/\¬S k/\¬S' k)) (fun k hk=>by rcases hk with rfl|rfl|hk<;>omega) (.inl rfl) V7 D ok (G4.zY.no f5) (aP.no (cY.lt N5) f5) (fun k hk hz=> ?_) (q1 e1) _ fun y1 y2 y4 y5 h8 D8 V8 f8=> ?_
   ·have hk:h2.size<=k/\k<h3.size:=by
     rcases hk with hk|hk
     ·exact⟨h45 k (.inl hk.1),hk.2⟩
     ·exact⟨h45 k (.inr hk.1),hk.2⟩
    rcases hz with rfl|rfl|hz<;>omega
   have f8b:Fr (fun k=>k=b3) h5 h8:=f8.mono fun k hk h2=>by rcases h2 with h2|h2;exact h2;omega
   refine⟨y1,y2,_,y4,y5,_,rfl,j8.set (i:=0) rfl f8b V8.head,fun h9 f9 _=> ?_⟩
   obtain⟨T,T',A,B,q⟩:=D8.fr f9 fun k hk=> .inl (.inr (.inl (n1 hk)))
   exact HK y1 y2 _ _ h9 A B (fun k hk=>⟨by
    have:=(q k hk).1
    by_cases h1:S k
    ·exact .inl h1
    by_cases h2:S' k
    ·exact .inr (.inl h2)
    ·exact .inr (.inr (by
      rcases Nat.lt_or_ge k h.size with h3|h3
      ·exact absurd (.inr (.inr ⟨h3,h1,h2⟩)) this
      ·exact h3)),(q k hk).2⟩) ((tX.fresh f8 fun k hk=>by rcases hk with rfl|hk<;>omega).fresh f9 fun k hk=>by have:=n1 hk;omega)
  ·have A:=q2 e1
   have er:=UI A
   refine UJ V7 (G.no tX) (aP.no W tX) ok (aP.no N5 f5) A _ fun dY f10=>⟨g,w,d.2.2,x4,x5,_,rfl,j8.aB f10,fun ie f11 _=> ?_⟩
   have f:=(tX.aA f10).aB.trans f11
   have:=HK g w _ _ ie (by rw[er];exact G.zY.fr f fun k hk aI=>by have:=n1 aI;have:=hk.2;omega) (by rw[er];exact aP.fr (cY.lt W) f fun k hk aI=>by have:=n1 aI;have:=hk.2;omega) (rU f.size) ((tX.aA f10).fresh f11 fun k hk=>by have:=n1 hk;omega)
   rw[er]at this
   exact this
theorem UK{h:Heap}{g w:Sl}{d:Dk}{S S':Nat->Prop}(G:bF S h g d.1)(W:aP S' h w d.2.1)(ok:p7 d)(K:Value->Heap->Prop)(HK:∀(g' w':Sl)(T T':Nat->Prop) h',bF T h' g' d.1->aP T' h' w' d.2.1->(∀k,T k\/T' k->h.size<=k/\k<h'.size)->Fr No h h'->K (.agg #[g'.v,w'.v,VI d.2.2]) h'):aE Tryz.prog 48 #[.agg #[g.v,w.v,VI d.2.2]] h K:=by
 have dl:=lK ok
 have gl:=aO (cG ok).bE
 have wl:d.2.1.length=d.1.length:=(cG ok).len
 have n1:∀{b k:Nat},In [b] k->k=b:=fun hk=>by simpa[In]using hk
 refine v48 g w d.2.2 h K fun b1 b2 b3 h3 dM dE ia f3 cF=> ?_
 have f3:=f3.aF
 have z3:=f3.size
 have RZ:b3<h3.size:=cF.head.lt
 have vY:b2<h3.size:=cF.tail.head.lt
 have lb1:b1<h3.size:=cF.tail.tail.head.lt
 have fin:∀{h':Heap},Fr (fun k=>k=b3\/h3.size<=k) h3 h'->Fr No h h':=fun f=>f3.fresh f fun k hk=>by rcases hk with rfl|hk<;>omega
 refine⟨fun n i x1 x2 x3 h'=>0<=i/\i+n=(d.1.length:Int)/\fM h' (fun k=>h3.size<=k) x1 (d.1.take i.toNat)/\Fr (fun k=>k=b3\/h3.size<=k) h3 h',⟨d.1.length,by omega,by omega,dD.nil _ _ _ _,Fr.refl _ _⟩,?_⟩
 rintro n i x1 x2 x3 h4 ⟨i0,i1,X,F4⟩ dN
 have z4:=F4.size
 have G4:=G.no (fin F4)
 have W4:=aP.no W (fin F4)
 have gn:=G4.len
 refine⟨fun e=> ?_,fun e=> ?_⟩
 ·have il:=G4.lt e
  obtain⟨si,c1,r1⟩:=G4.get i0 il
  have il2:i.toNat<d.1.length:=by omega
  have rl:=(aT (cG ok).bE (List.getElem_mem il2)).1
  refine⟨G4.bB i0 il,si,c1,lE r1 (by omega) _ fun t h5 o5 f5=>⟨t,rfl,dN.aB f5,?_⟩⟩
  have z5:=f5.size
  refine sK (F:=fun k=>h3.size<=k) (m:=h4.size) ((dD.no (X.mono fun k hk hF=>⟨hF,hk⟩) f5)) (Ow.mono o5 fun k _ hk=>hk.1) (fun k hk=>by omega) (by omega) (dN.aB f5) (fun p hp hk=> ?_) (by rw[List.length_take];omega) _ fun t2 h7 o7 f7 V7 h8 f8 _=> ?_
  ·have:p.1<h3.size:=by
    simp only[List.mem_cons,List.not_mem_nil,or_false]at hp
    rcases hp with rfl|rfl|rfl
    ·exact RZ
    ·exact vY
    ·exact lb1
   omega
  have eI:aL (i+1)=i+1:=G4.succ i0 il
  rw[eI]
  refine⟨n-1,by omega,by omega,by omega,?_,((F4.trans f5.aB).trans (f7.mono fun k _ hk=> .inr hk)).trans (f8.mono fun k _ hk=> .inl (n1 hk))⟩
  rw[show(i+1).toNat=i.toNat+1 by omega,List.take_add_one,List.getElem?_eq_getElem il2]
  exact o7.fr f8 fun k _ hk aI=>by have:=n1 aI;omega
 ·have il:=G4.ge e
  rw[List.take_of_length_le (by omega)]at X
  refine lE W4 (by omega) _ fun t h9 o9 f9=>⟨t,rfl,dN.aB f9,fun ie f11 _=> ?_⟩
  have z9:=f9.size
  have Se:=f11.size
  have n23:∀{k:Nat},In [b2,b3] k->k=b2\/k=b3:=fun hk=>by simpa[In]using hk
  refine HK x1 t (fun k=>h3.size<=k/\k<ie.size) (fun k=>h3.size<=k/\k<ie.size) ie ((dD.fr (dD.no X f9) f11 fun k _ hk aI=>by rcases n23 aI with h|h<;>omega).rd.mono fun k hk=>hk) ((Ow.fr o9 f11 fun k hk aI=>by have:=(o9.aG hk).1.1;rcases n23 aI with h|h<;>omega).fa.mono fun k hk=>⟨by have:=hk.1;omega,by have:=hk.2;omega⟩) (fun k hk=>by rcases hk with hk|hk<;>omega) (((fin F4).aA f9).fresh f11 fun k hk=>by rcases n23 hk with h|h<;>omega)
theorem QF{c:UInt8}{l:List UInt8}:1<(gU c l).length↔c∈l:=by
 rw[<-Eg]
 by_cases h:0<=Lib.indexByte l c
 ·obtain⟨i,hi⟩:=Int.eq_ofNat_of_zero_le h
  rw[Im hi,List.length_cons]
  have:=List.length_pos_iff.2 (Bu c (l.drop (i+1)))
  omega
 ·have:=Lib.indexByte_ge l c
  rw[CN (by omega),List.length_singleton]
  omega
theorem v7{h:Heap}{S S':Nat->Prop}{g w:Sl}{d:Dk}(G:bF S h g d.1)(W:aP S' h w d.2.1)(s:ByteArray)(K:Value->Heap->Prop)
 (HN:dQ d s.data.toList=none->∀h',Fr No h h'->K (.tuple #[.agg #[aC.v,aC.v,VI 0],VS ⟨#[]⟩,VB false]) h')
 (HS:∀r,dQ d s.data.toList=some r->∀(g' w':Sl)(T T':Nat->Prop) h',bF T h' g' r.1.1->aP T' h' w' r.1.2.1->(∀k,T k\/T' k->h.size<=k/\k<h'.size)->Fr No h h'->K (.tuple #[.agg #[g'.v,w'.v,VI r.1.2.2],VS ⟨r.2.toArray⟩,VB true]) h'):aE Tryz.prog 12 #[.agg #[g.v,w.v,VI d.2.2],VS s] h K:=by
 refine v12 g w d.2.2 s h K fun b1 b2 h2 dM dE f2 bP=> ?_
 have f2:=f2.aF
 have z2:=f2.size
 have vY:b2<h2.size:=bP.head.lt
 have n2:∀{k:Nat},In [b2] k->k=b2:=fun hk=>by simpa[In]using hk
 have qd:=jX s
 refine Ac (G.no f2) (cY.no W f2) d.2.2 _ fun h3 f3=>⟨_,rfl,bP.aB f3,fun e=>fun ie f11 _=> ?_,fun e=>⟨fun e2=>fun dY f10 _=> ?_,fun e2=> ?_⟩⟩
 ·refine HN ?_ _ ((f2.aA f3).fresh f11 fun k hk=>by have:=n2 hk;omega)
  unfold dQ
  rw[if_neg (fun h=>by rw[h.1]at e;cases e)]
 ·refine HN ?_ _ ((f2.aA f3).fresh f10 fun k hk=>by have:=n2 hk;omega)
  unfold dQ
  simp only[decide_eq_true_eq]at e2
  rw[if_neg (fun h=>by have:=h.2.1;omega)]
 ·simp only[decide_eq_false_iff_not]at e2
  have gj:=f2.aA f3
  have z3:=f3.size
  have ok:p7 d:=aV e
  refine BP 10 (by omega) _ fun t ps h4 qj O4 f4=>⟨t,rfl,(bP.aB f3).aB f4,fun e3=>fun h5 f5 _=> ?_,fun e3=> ?_⟩
  all_goals
   have tn:=O4.rd.len
   rw[List.length_map,Nat.mul_one]at tn
   have hpl:ps.length=(gU 10 s.data.toList).length:=by rw[<-qj,List.length_map]
   have z4:=f4.size
  ·refine HN ?_ _ ((gj.aA f4).fresh f5 fun k hk=>by have:=n2 hk;omega)
   unfold dQ
   simp only[decide_eq_true_eq]at e3
   rw[if_neg (fun h=>h.2.2 (QF.1 (by omega)))]
  ·have iE:=gj.aA f4
   simp only[decide_eq_false_iff_not]at e3
   have e3:10∉s.data.toList:=fun h=>e3 (by have:=QF.2 h;omega)
   refine QE (G.no iE) (cY.no W iE) ok (by omega) _ fun g6 w6 T T' h6 G6 W6 _ f6=>⟨g6,w6,_,_,rfl,((bP.aB f3).aB f4).aB f6,fun b3 h8 ia f8 fO=> ?_⟩
   have f8:=f8.aF
   have z6:=f6.size
   have z8:=f8.size
   have hP:dQ d s.data.toList=some (gZ d s.data.toList):=by unfold dQ;rw[if_pos ⟨ok,by omega,e3⟩]
   refine UK (G6.no f8) (aP.no W6 f8) (GQ ok _) _ fun g9 w9 T9 T9' h9 G9 W9 q9 f9=>⟨g9,w9,_,rfl,fO.aB f9,fun dY f10 _=> ?_⟩
   have z9:=f9.size
   have Ad:=f10.size
   exact HS _ hP g9 w9 T9 T9' _ (G9.fr f10 fun k hk aI=>by have:=(q9 k (.inl hk)).1;have:=n2 aI;omega) (aP.fr W9 f10 fun k hk aI=>by have:=(q9 k (.inr hk)).1;have:=n2 aI;omega) (fun k hk=>by have:=q9 k hk;omega) ((((iE.aA f6).aA f8).aA f9).fresh f10 fun k hk=>by have:=n2 hk;omega)
def ad1:Dk:=([],([],0))
theorem K3.nil(n:Nat)(h:Heap):K3 n h aC aC ad1 No No:=⟨dD.nil _ _ _ _,Ow.nil _ _ _ _,fun k hk=>hk.elim,fun k hk=>hk.elim,fun k hk=>hk.elim⟩
theorem JA{d:Dk}(h:p7 d):dO d.1<=1000/\d.2.1.length<=1000:=by
 have:=mu (cG h).bE
 have:=lK h
 omega
noncomputable def GV(d:Dk)(s:List UInt8):Dk×(List UInt8×Bool):=(dQ d s).elim (ad1,([],false)) fun r=>(r.1,(r.2,true))
theorem MD(d:Dk)(s:List UInt8):dO (GV d s).1.1<=1000/\(GV d s).1.2.1.length<=1000:=by
 unfold GV dQ
 by_cases h:eC d.1 d.2.1 d.2.2=true/\s.length<=3000/\10∉s
 ·rw[if_pos h];exact JA (GQ h.1 s)
 ·rw[if_neg h];exact⟨by decide,by decide⟩
theorem QG{X:Heap}{S S':Nat->Prop}{g w:Sl}{d:Dk}(G:bF S X g d.1)(W:aP S' X w d.2.1)(s:ByteArray)(K:Value->Heap->Prop)
 (HK:∀(g' w':Sl)(T T':Nat->Prop) h',bF T h' g' (GV d s.data.toList).1.1->aP T' h' w' (GV d s.data.toList).1.2.1->(∀k,T k\/T' k->X.size<=k/\k<h'.size)->Fr No X h'->K (.tuple #[.agg #[g'.v,w'.v,VI (GV d s.data.toList).1.2.2],VS ⟨(GV d s.data.toList).2.1.toArray⟩,VB (GV d s.data.toList).2.2]) h'):aE Tryz.prog 12 #[.agg #[g.v,w.v,VI d.2.2],VS s] X K:=by
 refine v7 G W s _ (fun e h' f=> ?_) fun r e g' w' T T' h' G' W' q f=> ?_
 ·unfold GV at HK
  rw[e]at HK
  exact HK aC aC No No h' ((dD.nil h' No sv tI).rd.mono fun k hk=>hk.1) (cY.nil _ _ _) (fun k hk=>by rcases hk with hk|hk<;>exact hk.elim) f
 ·unfold GV at HK
  rw[e]at HK
  exact HK g' w' T T' h' G' W' q f
theorem GW{X:Heap}(GX:gV X){S S':Nat->Prop}{g w:Sl}{d:Dk}(G:bF S X g d.1)(W:aP S' X w d.2.1)(s:ByteArray)(K:Value->Heap->Prop)
 (HK:∀(g' w':Sl)(F F':Nat->Prop) h',K3 X.size h' g' w' (GV d s.data.toList).1 F F'->Fr No X h'->K (.tuple #[.agg #[g'.v,w'.v,VI (GV d s.data.toList).1.2.2],VS ⟨(GV d s.data.toList).2.1.toArray⟩,VB (GV d s.data.toList).2.2]) h'):aE Tryz.prog 11 #[.agg #[g.v,w.v,VI d.2.2],VS s] X K:=by
 refine zN GX G W s _ (fun e h' f=> ?_) fun r e g' w' F F' h' D f=> ?_
 ·unfold GV at HK
  rw[e]at HK
  exact HK aC aC No No h' (K3.nil _ _) f
 ·unfold GV at HK
  rw[e]at HK
  exact HK g' w' F F' h' D f
theorem Ao{S S':Nat->Prop}{h:Heap}(GL:gV h){g w:Sl}{aD:List (List Int)}{rs:List Int}(G:bF S h g aD)(W:aP S' h w rs)(p:Int)(s:ByteArray)(_:s.size<=maxLen)(K:Value->Heap->Prop)(HK:∀h',Fr No h h'->K (VB true) h'):aE Tryz.prog 4 #[.agg #[g.v,w.v,VI p],VS s] h K:=by
 refine v4 g w p s h K ⟨fun _=>fun b1 h1 dM f1 bG=>HK _ f1.aF,fun _=>fun b1 h1 dM f1 bG=> ?_⟩
 have f1:=f1.aF
 refine NZ (G.no f1) (cY.no W f1) p _ (by omega) (by omega) _ fun h2 r f2 hr=>⟨r,rfl,bG.aB f2,fun e=>HK _ (f1.aA f2),fun e=> ?_⟩
 simp only[decide_eq_false_iff_not]at e
 have c1:aD.length<=1000000000000:=by omega
 have c2:dO aD<=1000000000000:=by omega
 have c3:rs.length<=1000000000000:=by omega
 have c4:dO aD<=100000000000:=by omega
 have CE:=f1.aA f2
 obtain⟨R,hR⟩:∃R,R=GV (aD,(rs,p)) s.data.toList:=⟨_,rfl⟩
 have sm:=MD (aD,(rs,p)) s.data.toList
 rw[<-hR]at sm
 refine sB (G.no CE) (aP.no W CE) p c1 c2 c3 _ fun g3 w3 m3 h3 G3 W3 f3=>⟨g3,w3,p,rfl,(bG.aB f2).aB f3,?_⟩
 have gj:=CE.aA f3
 refine QG (d:=(aD,(rs,p))) G3.rd (Ow.rd W3) s _ fun g4 w4 T T' h4 G4 W4 q4 f4=> ?_
 rw[<-hR]at G4 W4⊢
 refine⟨g4,w4,_,_,_,rfl,((bG.aB f2).aB f3).aB f4,fun b2 h6 dE f6 iN=> ?_⟩
 have f6:=f6.aF
 have sE:=(gj.aA f4).aA f6
 refine sB (G.no sE) (aP.no W sE) p c1 c2 c3 _ fun g7 w7 m7 h7 G7 W7 f7=>⟨g7,w7,p,rfl,iN.aB f7,fun b3 h9 ia f9 gh=> ?_⟩
 have f9:=f9.aF
 have MG:=(sE.aA f7).aA f9
 have z6:=sE.size
 have z7:=f7.size
 have z9:=f9.size
 have RZ:b3<h9.size:=gh.head.lt
 refine GW (d:=(aD,(rs,p))) (GL.no MG) (G7.rd.no f9) (aP.no (Ow.rd W7) f9) s _ fun g10 w10 F F' dY Ek f10=> ?_
 rw[<-hR]at Ek⊢
 refine⟨g10,w10,_,_,_,rfl,gh.aB f10,fun b4 iu Fi f12 q6=> ?_⟩
 have f12:=f12.aF
 have Ad:=f10.size
 have z12:=f12.size
 have lb4:b4<iu.size:=q6.head.lt
 have ad2:=f10.aA f12
 have ad3:=(f7.aA f9).aA ad2
 have aa0:=f6.aA ad3
 refine sA (Ek.G.rd.no f12) (G4.no aa0) (aP.no (Ow.rd Ek.W) f12) (aP.no W4 aa0) R.1.2.2 R.1.2.2 _ fun sD f13=>⟨_,rfl,q6.aB f13,fun e=>(by simp at e),fun _=>⟨fun e=>(by rw[beq_self_eq_true]at e;cases e),fun _=>⟨fun e=>(by rw[beq_self_eq_true]at e;cases e),fun _=> ?_⟩⟩⟩
 have aa1:=(sE.aA ad3).aA f13
 refine sB (G.no aa1) (aP.no W aa1) p c1 c2 c3 _ fun g14 w14 m14 Xf G14 W14 f14=>⟨g14,w14,p,rfl,(q6.aB f13).aB f14,?_⟩
 have aa2:=((f9.aA ad2).aA f13).aA f14
 refine sA (G7.rd.no aa2) G14.rd (aP.no (Ow.rd W7) aa2) (Ow.rd W14) p p _ fun QX f15=>⟨_,rfl,((q6.aB f13).aB f14).aB f15,fun e=>(by simp at e),fun _=> ?_⟩
 have ad4:=aa2.aA f15
 have G15:fM QX (fun k=>(h6.size<=k/\k<m7)/\k<h7.size) g7 aD:=(G7.mono fun k hk hF=>⟨hF,hk⟩).no ad4
 have W15:bK QX (fun k=>(h6.size<=k/\m7<=k)/\k<h7.size) w7 rs:=Ow.no (Ow.mono W7 fun k hk hF=>⟨hF,(W7.aG hk).2⟩) ad4
 have GN:=((q6.aB f13).aB f14).aB f15
 refine xP G15 W15 (fun k a b=>by omega) p 1 (by omega) (by omega) c4 c3 _ fun Mh G16 W16 f16=> ?_
 have F16:Fr (fun k=>h6.size<=k/\k<h7.size) QX Mh:=f16.mono fun k _ hk=>by rcases hk with hk|hk<;>exact⟨hk.1.1,hk.2⟩
 have ald:∀q,q∈[(b4,[g10.v,w10.v,VI R.1.2.2]),(b3,[g7.v,w7.v,VI p]),(b2,[g4.v,w4.v,VI R.1.2.2]),(b1,[g.v,w.v,VI p])]->¬(h6.size<=q.1/\q.1<h7.size):=fun q hq=>by
  have vY:b2<h6.size:=iN.head.lt
  have lb1:b1<h6.size:=iN.tail.head.lt
  simp only[List.mem_cons,List.not_mem_nil,or_false]at hq
  rcases hq with rfl|rfl|rfl|rfl<;>(simp only;omega)
 have zB:=GN.fr F16 fun q hq=>ald q hq
 refine⟨_,rfl,zB,fun e=> ?_,fun _=> ?_⟩
 ·simp only[decide_eq_true_eq]at e;omega
 have Vr:=(f13.aA f14).aA f15
 have QH:=f12.aA Vr
 have z15:=QH.size
 have Hh:fM Mh (fun k=>F k/\k<dY.size) g10 R.1.1:=((Ek.G.mono fun k hk hF=>⟨hF,hk⟩).no QH).fr F16 fun k _ hk aI=>by have:=Ek.fl k hk.1;omega
 have MN:bK Mh (fun k=>F' k/\k<dY.size) w10 R.1.2.1:=Ow.fr (Ow.no (Ow.mono Ek.W fun k hk hF=>⟨hF,(Ek.W.aG hk).2⟩) QH) F16 fun k hk aI=>by have:=Ek.wl k (Ek.W.aG hk).1;omega
 have ql:∀k,T k\/T' k->k<h6.size:=fun k hk=>by have:=(q4 k hk).2;have:=f6.size;omega
 have ad5:=aa0.aA Vr
 have G4':bF T Mh g4 R.1.1:=(G4.no ad5).fr F16 fun k hk aI=>by have:=ql k (.inl hk);omega
 have W4':aP T' Mh w4 R.1.2.1:=aP.fr (aP.no W4 ad5) F16 fun k hk aI=>by have:=ql k (.inr hk);omega
 have ale:=aa1.aA (f14.aA f15)
 have Ms:Fr No h Mh:=ale.fresh F16 fun k hk=>by omega
 refine sA Hh.rd G4' (Ow.rd MN) W4' R.1.2.2 R.1.2.2 _ fun Xh f17=>⟨_,rfl,zB.aB f17,fun e=>(by simp at e),fun _=>⟨fun e=>(by rw[beq_self_eq_true]at e;cases e),fun _=>⟨fun e=>(by rw[beq_self_eq_true]at e;cases e),fun _=> ?_⟩⟩⟩
 refine xP (Hh.no f17) (Ow.no MN f17) (fun k a b=>Ek.dj k a.1 b.1) R.1.2.2 1 (by omega) (by omega) (by omega) (by omega) _ fun h18 G18 W18 f18=> ?_
 have F18:Fr (fun k=>h9.size<=k/\k<dY.size) Xh h18:=f18.mono fun k _ hk=>by
  rcases hk with hk|hk
  ·exact⟨Ek.fl k hk.1,hk.2⟩
  ·exact⟨Ek.wl k hk.1,hk.2⟩
 have Jt:=(zB.aB f17).fr F18 fun q hq hk=>by
  have vY:b2<h6.size:=iN.head.lt
  have lb1:b1<h6.size:=iN.tail.head.lt
  simp only[List.mem_cons,List.not_mem_nil,or_false]at hq
  rcases hq with rfl|rfl|rfl|rfl<;>(simp only at hk;omega)
 refine⟨_,rfl,Jt,?_⟩
 have ad6:Fr No h h18:=(Ms.aA f17).fresh F18 fun k hk=>by omega
 refine xQ R.1.2.2 1 G18.rd (Ow.rd W18) (by omega) (by omega) (by omega) (by omega) _ fun KP f19=>⟨_,rfl,Jt.aB f19,fun e=> ?_,fun _=>⟨fun e=> ?_,fun _=> ?_⟩⟩
 ·simp only[decide_eq_true_eq]at e;omega
 ·simp at e
 have Ji:=ad6.aA f19
 refine sB (G.no Ji) (aP.no W Ji) p c1 c2 c3 _ fun g20 w20 m20 h20 G20 W20 f20=>⟨g20,w20,p,rfl,(Jt.aB f19).aB f20,?_⟩
 have alf:=Ji.aA f20
 refine GW (d:=(aD,(rs,p))) (GL.no alf) G20.rd (Ow.rd W20) s _ fun g21 w21 A A' Xk D21 f21=> ?_
 rw[<-hR]at D21⊢
 refine⟨g21,w21,_,_,_,rfl,((Jt.aB f19).aB f20).aB f21,fun b5 Mf Og f23 SS=> ?_⟩
 have f23:=f23.aF
 have QI:=((f19.aA f20).aA f21).aA f23
 have alh:bF T Mf g4 R.1.1:=((G4'.no f17).fr F18 fun k hk aI=>by have:=ql k (.inl hk);omega).no QI
 have ali:aP T' Mf w4 R.1.2.1:=aP.no (aP.fr (aP.no W4' f17) F18 fun k hk aI=>by have:=ql k (.inr hk);omega) QI
 refine sA (D21.G.rd.no f23) alh (aP.no (Ow.rd D21.W) f23) ali R.1.2.2 R.1.2.2 _ fun h24 f24=>⟨_,rfl,SS.aB f24,fun e=>(by simp at e),fun _=>⟨fun e=>(by rw[beq_self_eq_true]at e;cases e),fun _=>⟨fun e=>(by rw[beq_self_eq_true]at e;cases e),fun _=> ?_⟩⟩⟩
 have QJ:=QI.aA f24
 refine xQ R.1.2.2 1 (G18.rd.no QJ) (aP.no (Ow.rd W18) QJ) (by omega) (by omega) (by omega) (by omega) _ fun Ka f25=>⟨_,rfl,(SS.aB f24).aB f25,fun e=> ?_,fun _=>⟨fun e=> ?_,fun _=> ?_⟩⟩
 ·simp only[decide_eq_true_eq]at e;omega
 ·simp at e
 exact HK _ ((ad6.aA QJ).aA f25)
end Go.Proofs.YtcnfcnoooecchaaGreatDoor
