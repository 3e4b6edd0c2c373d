import Derived.Test.YtcnfcnoooecchaaGreatDoorDeskScriptsK4
set_option linter.unusedVariables false
set_option linter.unusedSimpArgs false
namespace Go.Proofs.YtcnfcnoooecchaaGreatDoor
open Go Go.Mx
theorem adY{d:Dk}(ok:pz d){s:List UInt8}(h1:s.length<=3000)(h2:10∉s):XX d s=((fm d s).1,((fm d s).2,true)):=by
 unfold XX jU
 rw[aJ ⟨ok,h1,h2⟩]
 rfl
theorem XY{S S':aK}{h:Heap}{a b:Sl}{xs:aE}(H:dE S h a xs)(H':dE S' h b xs)(K:aL)(HK:K (VB true) h):aG aB 17 #[a.v,b.v] h K:=by
 refine v17 a b h K ⟨fun e=> ?_,fun e=> ?_⟩
 ·have e1:=bU e
  rw[H.len,H'.len]at e1
  simp at e1
 ·refine⟨fun n i h'=>h=h'/\0<=i/\i+n=(xs.length:Int),⟨xs.length,rfl,by omega,by omega⟩,?_⟩
  rintro n i hh ⟨rfl,h0,h1⟩ hL
  refine⟨fun e=> ?_,fun e=>HK⟩
  have hi:=H.lt e
  obtain⟨si,c1,r1⟩:=H.get h0 hi
  obtain⟨sj,c2,r2⟩:=H'.get h0 hi
  refine⟨H.bQ h0 hi,si,c1,H'.bQ h0 hi,sj,c2,MT r1 r2 _ ⟨_,rfl,.nil,fun e=>by simp at e,fun _=> ?_⟩⟩
  rw[H.succ h0 hi]
  exact⟨n-1,by omega,rfl,by omega,by omega⟩
theorem XZ{S S' T T':aK}{h:Heap}{a b c d:Sl}{e:Dk}(G:dE S h a e.1)(G':dE S' h b e.1)(W:bE T h c e.2.1)(W':bE T' h d e.2.1):u4 aB 13 #[.agg #[a.v,c.v,VI e.2.2],.agg #[b.v,d.v,VI e.2.2]] h (VB true):=by
 intro K HK
 refine v13 a c e.2.2 b d e.2.2 h K fun b1 b2 h2 fw eY f2 cR=> ?_
 have f2:=f2.aM
 refine XY (G.no f2) (G'.no f2) _ ⟨_,rfl,cR,fun _=>⟨fun _=> ?_,fun x=>by simp at x⟩,fun x=>by cases x⟩
 refine MT (bE.no W f2) (bE.no W' f2) _ ⟨_,rfl,cR,?_⟩
 rw[kk rfl]
 exact HK _ f2
theorem Kd{S S':aK}{h:Heap}{a b:Sl}{xs:List ByteArray}(H:dK S h 1 a (xs.map VS))(H':dK S' h 1 b (xs.map VS)):u4 aB 29 #[a.v,b.v] h (VB true):=by
 intro K HK
 have an:=H.len
 have bn:=H'.len
 rw[bB,fE]at an bn
 have ab:=H.PF
 refine v29 a b h K ⟨fun e=> ?_,fun e=> ?_⟩
 ·simp only[gE,aW]at e;omega
 refine⟨fun n i h'=>h=h'/\0<=i/\i+n=(xs.length:Int),⟨xs.length,rfl,by omega,by omega⟩,?_⟩
 rintro n i _ ⟨rfl,i0,i1⟩ _
 refine⟨fun e=> ?_,fun e=>HK h (Fr.refl _ _)⟩
 simp only[aT]at e
 have c1:=H.get (i:=i) i0 (by simp;omega)
 have c2:=H'.get (i:=i) i0 (by simp;omega)
 rw[bV]at c1 c2
 have eI:aX (i+1)=i+1:=by have:=oM ab;rw[aP]<;>omega
 refine⟨dK.bQ H i0 (by simp;omega),_,c1,dK.bQ H' i0 (by simp;omega),_,c2,fun e2=> ?_,fun e2=> ?_⟩
 ·rw[beq_self_eq_true]at e2;cases e2
 ·rw[eI]
  exact⟨n-1,by omega,rfl,by omega,by omega⟩
theorem aoq{a n b:Nat}{h:Heap}{c:Sl}{i sd:Int}(V:cC h b [c.v,VI i,.int .u64 sd])(hb:a<=b)(D:iE a n h c i)(hn:n<=100000000000){S:aK}{s:Sl}{xs:List ByteArray}(R:dK S h 1 s (xs.map VS))(hS:¬S b)(fH:xs≠[])(K:aL)(HK:∀(x:ByteArray)(i' uf:Int) h',x∈xs->cC h' b [c.v,VI i',.int .u64 uf]->iE a (n+2) h' c i'->Fr (In [b]) h h'->K (VS x) h'):aG aB 76 #[VP b 0,s.v] h K:=by
 refine v76 b c i sd s h K (.cons V (by simp) .nil) ?_
 have hl:=R.len
 rw[bB,fE]at hl
 have hp:=wX.2 fH
 refine iO V hb D hn _ _ fun x i1 PJ h1 x0 x1 V1 D1 f1=>⟨c,i1,PJ,x,rfl,.cons V1 (by simp) .nil,?_⟩
 have R1:=dK.fr R f1 fun k hk aQ=>by simp[In]at aQ;subst aQ;exact hS hk
 have hx:x<(xs.length:Int):=by have:=x1 (by omega);omega
 have g:=R1.get (i:=x) x0 (by rw[bB];omega)
 rw[bV]at g
 exact⟨dK.bQ R1 x0 (by rw[bB];omega),_,g,HK _ i1 PJ h1 (bI _) V1 D1 f1⟩
theorem uZ{a n b:Nat}{h:Heap}{c:Sl}{i sd:Int}(V:cC h b [c.v,VI i,.int .u64 sd])(hb:a<=b)(D:iE a n h c i)(hn:n<=100000000){N:Nat}(hN:N<=1000){parts:Array (Nat×Value)}(xs:List ByteArray)(hl:(xs.map VS).length=N*1)(hf:Instr.fill (fun i=>some (i*1,1)) (List.replicate N [VS ⟨#[]⟩]).flatten.toArray parts.toList=some (xs.map VS).toArray)(fH:xs≠[]){M:Nat}(hM:∀x,x∈xs->x.size<=M){k:Sl->Int->Int->ByteArray->Heap->Prop}(HK:∀(x:ByteArray)(i' uf:Int) h',x.size<=M->cC h' b [c.v,VI i',.int .u64 uf]->iE a (n+2) h' c i'->Fr (In [b]) h h'->k c i' uf x h'):
 j5 aB (Instr.buildSlice Uf N parts) h fun rv h2=>∃t:Sl,rv=t.v/\Vars h2 [(b,[c.v,VI i,.int .u64 sd])]/\aG aB 76 #[VP b 0,t.v] h2 fun rv h3=>∃x1:Sl,∃x2:Int,∃x3:Int,∃t1:ByteArray,rv=VS t1/\Vars h3 [(b,[x1.v,VI x2,.int .u64 x3])]/\k x1 x2 x3 t1 h3:=by
 have lb:=V.lt
 have hL:Vars h [(b,[c.v,VI i,.int .u64 sd])]:= .cons V (by simp) .nil
 refine bC OR (fun k=>h.size<=k) (fun _ h=>h) N hN (xs.map VS) hl hf fun u h2 n2 c2 o2 f2 m2 _=>⟨u,rfl,hL.aC f2,?_⟩
 exact aoq (hL.aC f2).head hb (D.no f2) (by omega) o2.fW (by omega) fH _ fun x i' uf h' hx V' D' f'=>⟨c,i',uf,x,rfl,.cons V' (by simp) .nil,HK x i' uf h' (hM x hx) V' D' (f2.aC.trans f')⟩
theorem u3{x:Int}(h0:0<=x)(h1:x<100){h:Heap}(K:aL)(HK:∀(t:ByteArray) h',t.size<=2->Fr No h h'->K (VS t) h'):aG aB 73 #[VI x] h K:=by
 obtain⟨m,rfl⟩:∃m:Nat,x=(m:Int):=⟨x.toNat,by omega⟩
 refine jO m (by omega) K fun h' f=>HK _ h' ?_ f
 rw[cT]
 have:=(iA 1 m (by omega)).2
 omega
theorem jt{h h':Heap}{b:Nat}{cs:List Value}(V:cC h b cs)(f:Fr No h h'):cC h' b cs:=((Vars.cons V (by simp) .nil:Vars h [(b,cs)]).aC f).head
theorem TN{a n b:Nat}{h:Heap}{c:Sl}{i sd:Int}(V:cC h b [c.v,VI i,.int .u64 sd])(hb:a<=b)(D:iE a n h c i)(hn:n<=10000000)(K:aL)(HK:∀(x:ByteArray)(i' uf:Int) h',x.size<=400->cC h' b [c.v,VI i',.int .u64 uf]->iE a (n+200) h' c i'->Fr (In [b]) h h'->K (VS x) h'):aG aB 41 #[VP b 0] h K:=by
 refine v41 b c i sd h K (.cons V (by simp) .nil) ?_
 refine iO V hb D (by omega) 5 _ fun p i1 PJ h1 p0 p1 V1 D1 f1=>⟨c,i1,PJ,p,rfl,.cons V1 (by simp) .nil,?_⟩
 refine u3 p0 (by have:=p1 (by omega);omega) _ fun tp h2 lp f2=>⟨tp,rfl,.cons (jt V1 f2) (by simp) .nil,?_⟩
 refine iO (jt V1 f2) hb (D1.no f2) (by omega) 5 _ fun q i3 sd3 h3 q0 q1 V3 D3 f3=>⟨c,i3,sd3,q,rfl,.cons V3 (by simp) .nil,?_⟩
 refine u3 q0 (by have:=q1 (by omega);omega) _ fun tq h4 lq f4=>⟨tq,rfl,.cons (jt V3 f4) (by simp) .nil,?_⟩
 refine iO (jt V3 f4) hb (D3.no f4) (by omega) 12 _ fun r i5 YH h5 r0 r1 V D f5=>⟨c,i5,YH,r,rfl,.cons V (by simp) .nil,?_⟩
 have f:Fr (In [b]) h h5:=((((f1.trans f2.aC).trans f3).trans f4.aC).trans f5)
 have hL:Vars h5 [(b,[c.v,VI i5,.int .u64 YH])]:= .cons V (by simp) .nil
 clear f1 f2 f3 f4 f5 V1 V3 D1 D3 p1 q1
 refine⟨fun _=> ?_,fun _=>⟨fun _=> ?_,fun _=>⟨fun _ h'=>h5=h',⟨fun _=>rfl,fun _=>rfl⟩,?_⟩⟩⟩
 ·refine IM V hb D (by omega) (by omega) (by omega) _ fun t aI i2 K0 h2 o2 G2 x0 x1 V2 D2 f2=>⟨c,i2,K0,t,rfl,.cons V2 (by simp) .nil,?_⟩
  have lit:Rt aI:=⟨by omega,fun l hl=>⟨by have:=(G2 l hl).1;omega,fun x hx=>by have:=(G2 l hl).2 x hx;omega⟩⟩
  have tl:=Nk lit
  have ts:(⟨(wx aI).toArray⟩:ByteArray).size<=328:=by rw[cT];exact tl
  refine rV o2.rd lit _ fun h3 f3=>⟨_,rfl,.cons (jt V2 f3) (by simp) .nil,by show(6:Nat)+_<=_;omega,?_⟩
  refine HK _ i2 K0 h3 ?_ (jt V2 f3) ((D2.no f3).up (by omega)) ((f.trans f2).trans f3.aC)
  rw[fM]
  show(6:Nat)+_<=_
  omega
 ·refine uZ V hb D (by omega) (by omega) [⟨#[97,100,100,32]⟩,⟨#[116,117,114,110,32]⟩] rfl rfl (by simp) (M:=10) (by decide) fun x i6 Mg h6 hx V6 D6 f6=> ?_
  have s1:(⟨#[32]⟩:ByteArray).size=1:=rfl
  simp only[fM,s1]
  refine⟨by omega,by omega,by omega,HK _ i6 Mg h6 ?_ V6 (D6.up (by omega)) (f.trans f6)⟩
  simp only[fM,s1]
  omega
 rintro y1 _ rfl _
 refine⟨fun _=> ?_,fun _=>⟨fun _ h'=>h5=h',⟨fun _=>rfl,fun _=>rfl⟩,?_⟩⟩
 ·refine⟨by show(3:Nat)+_<=_;omega,iO V hb D (by omega) 30 _ fun u i6 Mg h6 u0 u1 V6 D6 f6=>⟨c,i6,Mg,u,rfl,.cons V6 (by simp) .nil,u3 u0 (by have:=u1 (by omega);omega) _ fun tu h7 lu f7=>⟨tu,rfl,.cons (jt V6 f7) (by simp) .nil,by show(4:Nat)+_<=_;omega,?_⟩⟩⟩
  refine uZ (jt V6 f7) hb (D6.no f7) (by omega) (by omega) [⟨#[115,116,101,112]⟩,⟨#[115,116,101,112]⟩,⟨#[97,116,32]⟩++tp,⟨#[114,117,110,32]⟩++tu] rfl rfl (by simp) (M:=10) ?_ fun x i8 sd8 h8 hx V8 D8 f8=>HK _ i8 sd8 h8 (by omega) V8 (D8.up (by omega)) (((f.trans f6).trans f7.aC).trans f8)
  intro x hx
  simp only[aO,aS,aN]at hx
  rcases hx with rfl|rfl|rfl|rfl
  ·decide
  ·decide
  ·rw[fM];show(3:Nat)+_<=_;omega
  ·rw[fM];show(4:Nat)+_<=_;omega
 rintro y2 _ rfl _
 refine⟨fun _=> ?_,fun _=>⟨fun _ h'=>h5=h',⟨fun _=>rfl,fun _=>rfl⟩,?_⟩⟩
 ·exact uZ V hb D (by omega) (by omega) [⟨#[115,104,111,119]⟩,⟨#[119,97,108,107]⟩,⟨#[112,101,114,105,111,100]⟩,⟨#[99,121,99,108,101]⟩] rfl rfl (by simp) (M:=10) (by decide) fun x i6 Mg h6 hx V6 D6 f6=>HK _ i6 Mg h6 (by omega) V6 (D6.up (by omega)) (f.trans f6)
 rintro y3 _ rfl _
 refine⟨fun _=> ?_,fun _=>⟨fun _=> ?_,fun _=>⟨fun _=> ?_,fun _=>⟨fun _=> ?_,fun _=> ?_⟩⟩⟩⟩
 ·refine uZ V hb D (by omega) (by omega) [⟨#[112,97,115,115,32]⟩,⟨#[118,105,115,105,116,115,32]⟩,⟨#[104,105,116,32]⟩] rfl rfl (by simp) (M:=10) (by decide) fun x i6 Mg h6 hx V6 D6 f6=> ?_
  refine iO V6 hb D6 (by omega) 9 _ fun u i7 sd7 h7 u0 u1 V7 D7 f7=>⟨c,i7,sd7,u,rfl,.cons V7 (by simp) .nil,u3 u0 (by have:=u1 (by omega);omega) _ fun tu h8 lu f8=>⟨tu,rfl,.cons (jt V7 f8) (by simp) .nil,by omega,?_⟩⟩
  exact HK _ i7 sd7 h8 (by rw[fM];omega) (jt V7 f8) ((D7.no f8).up (by omega)) (((f.trans f6).trans f7).trans f8.aC)
 ·exact uZ V hb D (by omega) (by omega) [⟨#[116,114,101,101,115,32]⟩,⟨#[102,117,108,108,32]⟩] rfl rfl (by simp) (M:=10) (by decide) fun x i6 Mg h6 hx V6 D6 f6=>⟨by omega,HK _ i6 Mg h6 (by rw[fM];omega) V6 (D6.up (by omega)) (f.trans f6)⟩
 ·have s1:(⟨#[32]⟩:ByteArray).size=1:=rfl
  have s7:(⟨#[99,104,97,110,99,101,32]⟩:ByteArray).size=7:=rfl
  simp only[fM,s1,s7]
  refine⟨by omega,by omega,by omega,HK _ i5 YH h5 ?_ V (D.up (by omega)) f⟩
  simp only[fM,s1,s7]
  omega
 ·refine iO V hb D (by omega) 30 _ fun u i6 Mg h6 u0 u1 V6 D6 f6=>⟨c,i6,Mg,u,rfl,.cons V6 (by simp) .nil,u3 u0 (by have:=u1 (by omega);omega) _ fun tu h7 lu f7=>⟨tu,rfl,.cons (jt V6 f7) (by simp) .nil,by show(14:Nat)+_<=_;omega,?_⟩⟩
  refine iO (jt V6 f7) hb (D6.no f7) (by omega) 40 _ fun v i8 sd8 h8 v0 v1 V8 D8 f8=>⟨c,i8,sd8,v,rfl,.cons V8 (by simp) .nil,u3 v0 (by have:=v1 (by omega);omega) _ fun tv h9 lv f9=>⟨tv,rfl,.cons (jt V8 f9) (by simp) .nil,by show(5:Nat)+_<=_;omega,by rw[fM];show(5:Nat)+_+1<=_;omega,?_⟩⟩
  refine iO (jt V8 f9) hb (D8.no f9) (by omega) 5 _ fun w i10 ZH fa w0 w1 Kl zR f10=>⟨c,i10,ZH,w,rfl,.cons Kl (by simp) .nil,u3 w0 (by have:=w1 (by omega);omega) _ fun tw jq lw f11=>⟨tw,rfl,.cons (jt Kl f11) (by simp) .nil,by rw[fM,fM];show(5:Nat)+_+1+_<=_;omega,?_⟩⟩
  have ff:Fr (In [b]) h jq:=(((((f.trans f6).trans f7.aC).trans f8).trans f9.aC).trans f10).trans f11.aC
  refine uZ (jt Kl f11) hb (zR.no f11) (by omega) (by omega) [⟨#[101,115,99,97,112,101,115,32,50,32,51,32,48,32]⟩++tu,⟨#[103,114,111,119,32]⟩++tv++⟨#[32]⟩++tw] rfl rfl (by simp) (M:=30) ?_ fun x i12 ZI iC hx Yh D12 f12=>HK _ i12 ZI iC (by omega) Yh (D12.up (by omega)) (ff.trans f12)
  intro x hx
  simp only[aO,aS,aN]at hx
  rcases hx with rfl|rfl
  ·rw[fM];show(14:Nat)+_<=_;omega
  ·rw[fM,fM,fM];show(5:Nat)+_+1+_<=_;omega
 ·exact uZ V hb D (by omega) (by omega) [⟨#[102,108,121]⟩,⟨#[]⟩,⟨#[115,104,111,119,32]⟩,⟨#[103,114,97,112,104,32]⟩,⟨#[103,114,97,112,104,32,45]⟩,⟨#[103,114,97,112,104,32,48]⟩,⟨#[103,114,97,112,104,32,53]⟩,⟨#[97,116,32,57]⟩,⟨#[116,117,114,110,32,48,32,57]⟩,⟨#[114,117,110,32,50,48,48,49]⟩,⟨#[114,117,110,32,120]⟩,⟨#[112,97,115,115,32,50,48,49]⟩,⟨#[115,116,101,112,32,49]⟩,⟨#[101,115,99,97,112,101,115,32,52,32,49,32,48,32,48]⟩,⟨#[103,114,111,119,32,48,32,48]⟩,⟨#[99,104,97,110,99,101,32,49,32,49]⟩] rfl rfl (by simp) (M:=20) (by decide) fun x i6 Mg h6 hx V6 D6 f6=>HK _ i6 Mg h6 (by omega) V6 (D6.up (by omega)) (f.trans f6)
theorem Hq{P:Program}{t:TypeId}(ht:P.underlying t=some .string){K:Value->Prop}(k:IntKind)(s:ByteArray)(m:Int)(h0:0<=m)(h1:m<=s.size)(H:K (VS (s.extract 0 m.toNat))):pop P (Instr.sliceAt t (VS s) none (some (.int k m)) none) K:=
 .mk' (fun w=>by rw[run_sliceAt_string w t _ _ _ _ ht,run_slice_string_h w t s ht k m h0 h1]) H
theorem Hr{P:Program}{t:TypeId}(ht:P.underlying t=some .string){K:Value->Prop}(k:IntKind)(s:ByteArray)(m:Int)(h0:0<=m)(h1:m<=s.size)(H:K (VS (s.extract m.toNat s.size))):pop P (Instr.sliceAt t (VS s) (some (.int k m)) none none) K:=
 .mk' (fun w=>by rw[run_sliceAt_string w t _ _ _ _ ht,run_slice_string_l w t s ht k m h0 h1]) H
theorem TO{a n b:Nat}{h:Heap}{c:Sl}{i sd:Int}(V:cC h b [c.v,VI i,.int .u64 sd])(hb:a<=b)(D:iE a n h c i)(hn:n<=1000000){M:Nat}(hM:M<=100000){t wd:ByteArray}(ht:t.size<=M)(hw1:1<=wd.size)(hw2:wd.size<=100)(K:aL)(HK:∀(x:ByteArray)(i' uf:Int) h',x.size<=M+10->cC h' b [c.v,VI i',.int .u64 uf]->iE a (n+100) h' c i'->Fr (fun k=>k=b\/h.size<=k) h h'->K (VS x) h'):aG aB 101 #[VP b 0,VS t,VS wd] h K:=by
 have lb:=V.lt
 have bQ:∀{x y:Heap},Fr (In [b]) x y->Fr (fun k=>k=b\/h.size<=k) x y:=fun f=>f.mono fun k _ hk=> .inl (by simpa[In]using hk)
 refine aim b c i sd t wd h K (.cons V (by simp) .nil) ?_
 refine iO V hb D (by omega) 2 _ fun r i2 K0 h2 r0 r1 V2 D2 f2=>⟨c,i2,K0,r,rfl,.cons V2 (by simp) .nil,?_⟩
 have hr:=r1 (by omega)
 rw[aP (1+r) (by omega) (by omega)]
 refine⟨fun m t' k d i' uf h'=>m=k.toNat/\0<=k/\k<=2/\d=c/\(t'.size:Int)+k<=(M:Int)+2/\iE a (n+2+10*(2-k).toNat) h' c i'/\Fr (fun k=>k=b\/h.size<=k) h h'/\h.size<=h'.size,⟨(1+r).toNat,rfl,by omega,by omega,rfl,by omega,D2.up (by omega),bQ f2,f2.size⟩,?_⟩
 rintro m t' k d i3 sd3 h3 ⟨rfl,k0,k1,rfl,t1,D3,f3,z3⟩ dA
 have fin:K (VS t') h3:=HK t' i3 sd3 h3 (by omega) dA.head (D3.up (by omega)) f3
 refine⟨fun e1=>⟨fun e2=> ?_,fun _=>fin⟩,fun _=>fin⟩
 simp only[aT]at e1 e2
 refine⟨fun x d' i' uf h'=>d'=d/\(x.size:Int)+k<=(M:Int)+3/\iE a (n+2+10*(2-k).toNat+10) h' d i'/\Fr (fun k=>k=b\/h.size<=k) h h'/\h.size<=h'.size,?_,?_⟩
 ·refine iO dA.head hb D3 (by omega) _ _ fun p i4 sd4 h4 p0 p1 V4 D4 f4=>⟨d,i4,sd4,p,rfl,.cons V4 (by simp) .nil,?_⟩
  have p1:=p1 (by omega)
  refine iO V4 hb D4 (by omega) _ _ fun q i5 YH h5 q0 q1 V5 D5 f5=>⟨d,i5,YH,q,rfl,.cons V5 (by simp) .nil,?_⟩
  have q1:=q1 (by omega)
  refine mF (by kernel_rfl) _ _ q q0 (by omega) ⟨_,rfl,?_⟩
  refine bC VE (fun k=>h5.size<=k) (fun _ h=>h) 1 (by omega) [.int .u8 _] rfl rfl fun w h6 n6 c6 o6 f6 m6 _=>⟨w,rfl,(Vars.cons V5 (by simp) .nil).aC f6,?_⟩
  have adZ:∀x:Int,(strOfNums [x]).data.toList.length=1:=fun x=>by rw[strOfNums_data];rfl
  refine rP (bs:=(strOfNums [((wd[q.toNat]'(by omega)).toNat:Int)]).data.toList) o6.fW (by simp) ⟨_,rfl,?_⟩
  have adZ:=adZ ((wd[q.toNat]'(by omega)).toNat:Int)
  generalize hW:(⟨((strOfNums [((wd[q.toNat]'(by omega)).toNat:Int)]).data.toList).toArray⟩:ByteArray)=W
  have Wl:W.size=1:=by rw[<-hW,cT];exact adZ
  have V6:=(Vars.cons V5 (by simp) .nil).aC f6
  refine iO V6.head hb (D5.no f6) (by omega) _ _ fun y i7 sd7 h7 y0 y1 V7 D7 f7=>⟨d,i7,sd7,y,rfl,.cons V7 (by simp) .nil,?_⟩
  have z4:=f4.size
  have z5:=f5.size
  have z6:=f6.size
  have z7:=f7.size
  have fr:Fr (fun k=>k=b\/h.size<=k) h h7:=(((f3.trans (bQ f4)).trans (bQ f5)).trans f6.aC).trans (bQ f7)
  have done:∀x:ByteArray,(x.size:Int)+k<=(M:Int)+3->d=d/\(x.size:Int)+k<=(M:Int)+3/\iE a (n+2+10*(2-k).toNat+10) h7 d i7/\Fr (fun k=>k=b\/h.size<=k) h h7/\h.size<=h7.size:=fun x hx=>⟨rfl,hx,D7.up (by omega),fr,by omega⟩
  refine⟨fun _=> ?_,fun _=>⟨fun _=> ?_,fun _=> ?_⟩⟩
  ·refine Hq (by kernel_rfl) _ _ p p0 (by omega) ⟨_,rfl,?_⟩
   have s1:(t'.extract 0 p.toNat).size=p.toNat:=by rw[yt];omega
   refine⟨by rw[s1,Wl];omega,Hr (by kernel_rfl) _ _ p p0 (by omega) ⟨_,rfl,?_⟩⟩
   have s2:(t'.extract p.toNat t'.size).size=t'.size-p.toNat:=by rw[yt];omega
   refine⟨by rw[fM,s1,s2,Wl];omega,done _ ?_⟩
   rw[fM,fM,s1,s2,Wl];omega
  ·refine Hq (by kernel_rfl) _ _ p p0 (by omega) ⟨_,rfl,?_⟩
   have s1:(t'.extract 0 p.toNat).size=p.toNat:=by rw[yt];omega
   rw[aP (p+1) (by omega) (by omega)]
   refine⟨by rw[s1,Wl];omega,Hr (by kernel_rfl) _ _ (p+1) (by omega) (by omega) ⟨_,rfl,?_⟩⟩
   have s2:(t'.extract (p+1).toNat t'.size).size=t'.size-(p+1).toNat:=by rw[yt];omega
   refine⟨by rw[fM,s1,s2,Wl];omega,done _ ?_⟩
   rw[fM,fM,s1,s2,Wl];omega
  ·refine Hq (by kernel_rfl) _ _ p p0 (by omega) ⟨_,rfl,?_⟩
   have s1:(t'.extract 0 p.toNat).size=p.toNat:=by rw[yt];omega
   rw[aP (p+1) (by omega) (by omega)]
   refine Hr (by kernel_rfl) _ _ (p+1) (by omega) (by omega) ⟨_,rfl,?_⟩
   have s2:(t'.extract (p+1).toNat t'.size).size=t'.size-(p+1).toNat:=by rw[yt];omega
   refine⟨by rw[s1,s2];omega,done _ ?_⟩
   rw[fM,s1,s2];omega
 ·rintro x d' i8 sd8 h8 ⟨rfl,hx,D8,f8,z8⟩ gZ
  rw[aP (k-1) (by omega) (by omega)]
  exact⟨(k-1).toNat,by omega,rfl,by omega,by omega,rfl,by omega,D8.up (by omega),f8,z8⟩
theorem Mh{a n b:Nat}{h:Heap}{c:Sl}{i sd:Int}(V:cC h b [c.v,VI i,.int .u64 sd])(hb:a<=b)(D:iE a n h c i)(hn:n<=100000)(K:aL)(HK:∀(x:ByteArray)(i' uf:Int) h',x.size<=100000->cC h' b [c.v,VI i',.int .u64 uf]->Fr (fun k=>k=b\/h.size<=k) h h'->K (VS x) h'):aG aB 66 #[VP b 0] h K:=by
 have lb:=V.lt
 have hL:Vars h [(b,[c.v,VI i,.int .u64 sd])]:= .cons V (by simp) .nil
 have bQ:∀{x y:Heap},Fr (In [b]) x y->Fr (fun k=>k=b\/h.size<=k) x y:=fun f=>f.mono fun k _ hk=> .inl (by simpa[In]using hk)
 refine v66 b c i sd h K hL ?_
 refine bC gH (fun k=>h.size<=k) (fun _ h=>h) 7 (by omega) [VI 0,VI 1,VI 5,VI 10,VI 20,VI 50,VI 51] rfl rfl fun u h1 n1 c1 o1 f1 m1 _=>⟨u,rfl,hL.aC f1,?_⟩
 have r1:bE (fun k=>h.size<=k) h1 u [0,1,5,10,20,50,51]:=o1.fW
 refine Vm (hL.aC f1).head hb (D.no f1) (by omega) r1 (by omega) (by simp) _ fun q i2 K0 h2 hq V2 D2 f2=>⟨c,i2,K0,q,rfl,.cons V2 (by simp) .nil,?_⟩
 have q1:0<=q/\q<=51:=by
  simp only[aO,aS,aN]at hq
  omega
 refine⟨fun m s k d i' uf h'=>m=k.toNat/\0<=k/\k<=51/\d=c/\(s.size:Int)+401*k<=401*51/\iE a (n+2+200*(51-k).toNat) h' c i'/\Fr (fun k=>k=b\/h.size<=k) h h',⟨q.toNat,rfl,by omega,by omega,rfl,by show(0:Int)+_<=_;omega,D2.up (by omega),f1.aC.trans (bQ f2)⟩,?_⟩
 rintro m s k d i3 sd3 h3 ⟨rfl,k0,k1,rfl,s1,D3,f3⟩ dA
 refine⟨fun e=> ?_,fun e=> ?_⟩
 ·simp only[aT]at e
  refine TN dA.head hb D3 (by omega) _ fun x i4 sd4 h4 hx V4 D4 f4=>⟨d,i4,sd4,x,rfl,.cons V4 (by simp) .nil,?_⟩
  have sx:(x++(⟨#[10]⟩:ByteArray)).size=x.size+1:=fM
  rw[aP (k-1) (by omega) (by omega)]
  refine⟨by show _+(1:Nat)<=_;omega,by omega,(k-1).toNat,by omega,rfl,by omega,by omega,rfl,?_,D4.up (by omega),f3.trans (bQ f4)⟩
  rw[fM,sx]
  omega
 ·refine IL dA.head hb D3 (by omega) 12 _ fun y i5 YH h5 V5 D5 f5=>⟨d,i5,YH,y,rfl,.cons V5 (by simp) .nil,fun _=> ?_,fun _=>HK s i5 YH h5 (by omega) V5 (f3.trans (bQ f5))⟩
  have s4:(s++(⟨#[115,104,111,119]⟩:ByteArray)).size=s.size+4:=fM
  refine⟨by show _+(4:Nat)<=_;omega,TO V5 hb D5 (by omega) (M:=30000) (by omega) (by omega) (by decide) (by decide) _ fun x i6 Mg h6 x6 V6 D6 f6=>⟨d,i6,Mg,x,rfl,.cons V6 (by simp) .nil,?_⟩⟩
  have z:=(f3.trans (bQ f5)).size
  exact HK x i6 Mg h6 (by omega) V6 ((f3.trans (bQ f5)).trans (f6.mono fun k _ hk=>hk.imp id fun h=>by omega))
theorem zt{S:aK}{h:Heap}{code:Sl}{vs:List Value}(C:dK S h 1 code vs)(B:∀v,v∈vs->∃m:Int,v=Value.int .u8 m/\0<=m/\m<=255)(K:aL)(HK:∀(s:ByteArray) h',s.size<=100000->Fr No h h'->K (VS s) h'):aG aB 24 #[code.v] h K:=by
 refine v24 code h K fun b1 h1 fw f1 cU=> ?_
 have f1:=f1.aM
 have z1:=f1.size
 have l1:b1<h1.size:=cU.head.lt
 have D1:iE h.size 0 h1 code 0:=⟨⟨vs,((dK.lt C).mono fun k hk=>hk.2).no f1,B⟩,by omega,by omega⟩
 refine Mh cU.head fw D1 (by omega) _ fun x i2 K0 h2 x2 V2 f2=>⟨code,i2,K0,x,rfl,.cons V2 (by simp) .nil,HK x h2 x2 ?_⟩
 exact f1.fresh f2 fun k hk=>by rcases hk with rfl|hk<;>omega
structure Ke(d:Dk)(line rest:List UInt8)(c b:Nat)(fin:Dk)(lg:List (List UInt8))(iH:aH):Prop where
 ok:pz d
 nl:10∉line
 len:(line++rest).length<=3000
 last:(iF 10 (line++rest)).getLast?=some []
 lines:iB d (iF 10 (line++rest)).dropLast=(fin,lg.drop c)
 fl:gC c (lg.drop c)=iH.drop b
 cl:c<=lg.length
 bl:b<=iH.length
theorem Ke.aor{d:Dk}{line rest:List UInt8}{x:UInt8}{c b:Nat}{fin:Dk}{lg:List (List UInt8)}{iH:aH}(I:Ke d line (x::rest) c b fin lg iH)(hx:x≠10):Ke d (line++[x]) rest c b fin lg iH:=by
 have e:(line++[x])++rest=line++x::rest:=by simp
 refine⟨I.ok,fun h=> ?_,e▸I.len,e▸I.last,e▸I.lines,I.fl,I.cl,I.bl⟩
 rcases gG.1 h with h|h
 ·exact I.nl h
 ·simp only[aO,aS,aN]at h
  exact hx h.symm
theorem Ke.line{d:Dk}{line rest:List UInt8}{c b:Nat}{fin:Dk}{lg:List (List UInt8)}{iH:aH}(I:Ke d line (10::rest) c b fin lg iH):
 lg.drop c=(fm d line).2::lg.drop (c+1)/\c<lg.length/\(∀b',gC (c+1) (lg.drop (c+1))=iH.drop b'->b'<=iH.length->Ke (fm d line).1 [] rest (c+1) b' fin lg iH):=by
 have hs:=FL rest I.nl
 have fH:=yQ 10 rest
 have hd:(line::iF 10 rest).dropLast=line::(iF 10 rest).dropLast:=List.dropLast_cons_of_ne_nil fH
 have h1:=I.lines
 rw[hs,hd]at h1
 unfold iB at h1
 have h2:=(pT h1).1
 have h3:=(pT h1).2
 have cl:c<lg.length:=by
  have:=congrArg List.length h3
  simp only[List.length_cons,q6]at this
  omega
 have h4:lg.drop (c+1)=(iB (fm d line).1 (iF 10 rest).dropLast).2:=by
  rw[<-sR,<-h3,vj,oq]
 refine⟨by rw[h4];exact h3.symm,cl,fun b' hb hl=>⟨wo I.ok _,by simp,?_,?_,?_,hb,cl,hl⟩⟩
 ·have:=I.len
  simp only[bT,List.length_cons,List.length_nil]at this⊢
  omega
 ·have:=I.last
  rw[hs]at this
  rw[List.nil_append]
  rwa [List.getLast?_cons_of_ne_nil fH]at this
 ·rw[List.nil_append,h4]
  exact Prod.ext h2 rfl
theorem Ke.fail{d:Dk}{line rest:List UInt8}{c b:Nat}{fin:Dk}{lg:List (List UInt8)}{iH:aH}(I:Ke d line (10::rest) c b fin lg iH)(h:(fm d line).2=noW\/(fm d line).2=whW):
 iH.drop b=((c+1:Nat):Int)::iH.drop (b+1)/\b<iH.length/\gC (c+1) (lg.drop (c+1))=iH.drop (b+1):=by
 have h1:=I.fl
 rw[I.line.1]at h1
 unfold gC at h1
 rw[aJ h]at h1
 have hl:b<iH.length:=by
  have:=congrArg List.length h1
  simp only[List.length_cons,q6]at this
  omega
 have h2:iH.drop (b+1)=gC (c+1) (lg.drop (c+1)):=by
  rw[<-sR,<-h1,vj,oq]
 exact⟨by rw[h2];exact h1.symm,hl,h2.symm⟩
theorem Ke.aos{d:Dk}{line rest:List UInt8}{c b:Nat}{fin:Dk}{lg:List (List UInt8)}{iH:aH}(I:Ke d line (10::rest) c b fin lg iH)(h:¬((fm d line).2=noW\/(fm d line).2=whW)):gC (c+1) (lg.drop (c+1))=iH.drop b:=by
 have h1:=I.fl
 rw[I.line.1]at h1
 unfold gC at h1
 rwa [aF h]at h1
theorem Ke.done{d:Dk}{line:List UInt8}{c b:Nat}{fin:Dk}{lg:List (List UInt8)}{iH:aH}(I:Ke d line [] c b fin lg iH):c=lg.length/\b=iH.length/\d=fin:=by
 have h:=I.lines
 have hl:=I.last
 rw[gK,zW I.nl]at h hl
 have h1:=(pT (show(d,([]:List (List UInt8)))=(fin,lg.drop c)from h)).1
 have h2:=(pT (show(d,([]:List (List UInt8)))=(fin,lg.drop c)from h)).2
 have h3:=I.fl
 rw[<-h2]at h3
 have h4:=congrArg List.length h2
 have h5:=congrArg List.length (show([]:aH)=iH.drop b from h3)
 have:=I.cl
 have:=I.bl
 simp only[List.length_nil,q6]at h4 h5
 exact⟨by omega,by omega,h1⟩
theorem Ke.first{s:List UInt8}{r:Dk×List (List UInt8)}(h:dQ s=some r):Ke kC [] s 0 0 r.1 r.2 (gC 0 r.2):=by
 unfold dQ at h
 split at h
 ·rename_i hh
  have h:=bF h
  subst h
  exact⟨tH,by simp,hh.1,hh.2.1,rfl,rfl,Nat.zero_le _,Nat.zero_le _⟩
 ·cases h
theorem yu{h:Heap}(GL:iG h){S0 S1:aK}{s0 s1:Sl}{x0 x1:List Value}(G0:dK S0 h 1 s0 x0)(B0:∀v,v∈x0->∃m:Int,v=Value.int .u8 m/\0<=m/\m<=255)(G1:dK S1 h 1 s1 x1)(B1:∀v,v∈x1->∃m:Int,v=Value.int .u8 m/\0<=m/\m<=255):u4 aB 5 #[s0.v,s1.v] h (VB true):=by
 intro K HK
 refine v5 s0 s1 h K ?_
 refine afz s0 s1 h _ fun b0=>⟨b0,rfl,.nil,fun _=>HK h (Fr.refl _ _),fun _=> ?_⟩
 refine zt G0 B0 _ fun s h2 hs f2=>⟨s,rfl,.nil,?_⟩
 have tt:∀{b:Bool},(!(b==b))=true->False:=fun e=>by rw[beq_self_eq_true]at e;cases e
 refine J9 (GL.no f2) (by omega) _ fun t3 h3 O3 f3=>⟨t3,_,rfl,.nil,?_⟩
 refine yq s _ fun t4 T4 h4 O4 q4 f4=>⟨t4,_,rfl,.nil,?_⟩
 have jZ:=(f2.aA f3).aA f4
 refine Ka (GL.no jZ) (by omega) _ (fun e h5 f5=> ?_) fun r e g5 w5 F5 F5' h5 D5 f5=> ?_
 ·rw[e]at O3 O4⊢
  refine⟨aD,aD,0,false,rfl,.nil,fun b1 h7 fw f7 jQ=> ?_⟩
  have f7:=f7.aM
  have Hw:=(jZ.aA f5).aA f7
  refine uk (GL.no Hw) (by omega) _ fun t8 h8 O8 f8=>⟨t8,_,rfl,jQ.aC f8,?_⟩
  rw[e]
  have f38:=((f4.aA f5).aA f7).aA f8
  refine⟨fun e=>(tt e).elim,fun _=>Kd (O3.rd.no f38) (O4.no ((f5.aA f7).aA f8)) _ fun h9 f9=>⟨_,rfl,(jQ.aC f8).aC f9,fun e=>(by cases e),fun _=>⟨fun e=>(tt e).elim,fun _=>⟨fun e=>(tt e).elim,fun _=>⟨fun _=>HK _ ((Hw.aA f8).aA f9),fun e=>by cases e⟩⟩⟩⟩⟩
 rw[e]at O3 O4⊢
 refine⟨g5,w5,r.1.2.2,true,rfl,.nil,fun b1 h7 fw f7 jQ=> ?_⟩
 have f7:=f7.aM
 have Hw:=(jZ.aA f5).aA f7
 refine uk (GL.no Hw) (by omega) _ fun t8 h8 O8 f8=>⟨t8,_,rfl,jQ.aC f8,?_⟩
 rw[e]at O8⊢
 have f48:=(f5.aA f7).aA f8
 refine⟨fun e=>(tt e).elim,fun _=>Kd ((O3.rd.no f4).no f48) (O4.no f48) _ fun h9 f9=>⟨_,rfl,(jQ.aC f8).aC f9,fun e=>(by cases e),fun _=>⟨fun e=>(tt e).elim,fun _=>⟨fun e=>(tt e).elim,fun _=>⟨fun e=>(by cases e),fun _=> ?_⟩⟩⟩⟩⟩
 have PH:=(Hw.aA f8).aA f9
 have z2:=f2.size
 have z3:=f3.size
 have z4:=f4.size
 have z5:=f5.size
 have z7:=f7.size
 have z8:=f8.size
 have z9:=f9.size
 have R9:dK (fun k=>k<h9.size) h9 1 t3 ((r.2.map nA).map VS):=dK.mono (dK.lt (((O3.rd.no f4).no f48).no f9)) fun k hk=>hk.2
 have L9:bE (fun k=>k<h9.size) h9 t8 (gC 0 r.2):=dK.mono (dK.lt (bE.no (Ow.rd O8) f9)) fun k hk=>hk.2
 have D9:=((D5.no f7).no f8).no f9
 have gM:=(jQ.aC f8).aC f9
 have lb1:b1<h9.size:=gM.head.lt
 have Gf:dE (fun k=>k<h9.size) h9 g5 r.1.1:=D9.G.rd.wH.mono fun k hk=>hk.2
 have Wf:bE (fun k=>k<h9.size) h9 w5 r.1.2.1:=dK.mono (dK.lt (Ow.rd D9.W)) fun k hk=>hk.2
 clear O3 O4 O8 D5 D9 jQ
 refine qw h9 _ ?_
 rintro _ fa ⟨g10,w10,m10,rfl,Hx,NP,f10⟩
 refine⟨g10,w10,0,rfl,gM.aC f10,fun b2 iC eY f12 qI=> ?_⟩
 have f12:=f12.aM
 have zM:=f10.size
 have z12:=f12.size
 have CS:b2<iC.size:=qI.head.lt
 have TP:=f10.aA f12
 have aot:=PH.aA TP
 have n2:∀{k:Nat},In [b2] k->k=b2:=fun hk=>by simpa[In]using hk
 have Yk:=R9.no TP
 have L12:=bE.no L9 TP
 have Gf:=Gf.no TP
 have Wf:=bE.no Wf TP
 have off:∀k,k<h9.size->¬In [b2] k:=fun k hk aQ=>by have:=n2 aQ;omega
 have sl:s.data.toList.length=s.size:=Array.length_toList
 have rn:t3.n=r.2.length:=by have:=R9.len;rw[bB,bB,fE]at this;exact this.symm
 have ln:t8.n=(gC 0 r.2).length:=bE.len L9
 have rl:=(yZ e).1
 have fl:=ER 0 r.2
 refine⟨fun n line c b i x1 x2 x3 h'=>∃(d:Dk)(c' b':Nat),x3=d.2.2/\c=(c':Int)/\b=(b':Int)/\0<=i/\i+n=(s.size:Int)/\Hy (fun k=>k=b2) h' x1 x2 d/\Fr (In [b2]) iC h'/\Ke d line.data.toList (s.data.toList.drop i.toNat) c' b' r.1 r.2 (gC 0 r.2),⟨s.size,kC,0,0,rfl,rfl,rfl,by omega,by omega,Hy.of (Hx.rd.wH.no f12) (bE.no (dK.lt (Ow.rd NP)) f12) (fun k hk _ e=>by rcases hk with hk|hk<;>(have:=hk.2;omega)),Fr.refl _ _,Ke.first e⟩,?_⟩
 rintro n line c b i x1 x2 x3 tO ⟨d,c',b',rfl,rfl,rfl,i0,i1,D,f13,I⟩ Fv
 have z13:=f13.size
 have R13:=Yk.fr f13 off
 have L13:=bE.fr L12 f13 off
 have ag5:Fr No h tO:=aot.fresh f13 fun k hk=>by have:=n2 hk;omega
 refine⟨fun e1=> ?_,fun e1=> ?_⟩
 ·simp only[aT]at e1
  have it:i.toNat<s.data.toList.length:=by omega
  have hd:s.data.toList.drop i.toNat=s.data.toList[i.toNat]::s.data.toList.drop (i+1).toNat:=by rw[show(i+1).toNat=i.toNat+1 by omega];exact kM it
  have hb:s[i.toNat]'(by omega)=s.data.toList[i.toNat]:=uY (by omega) it
  rw[hd]at I
  have wi:aX (i+1)=i+1:=aP _ (by omega) (by omega)
  have li:=I.len
  have lz:=kX line
  simp only[bT,List.length_cons]at li
  rw[wi]
  refine⟨fun line c b x1 x2 x3 h'=>∃(d:Dk)(c' b':Nat),x3=d.2.2/\c=(c':Int)/\b=(b':Int)/\Hy (fun k=>k=b2) h' x1 x2 d/\Fr (In [b2]) iC h'/\Ke d line.data.toList (s.data.toList.drop (i+1).toNat) c' b' r.1 r.2 (gC 0 r.2),?_,?_⟩
  ·refine mF (by kernel_rfl) _ _ i i0 (by omega) ⟨_,rfl,fun e2=> ?_,fun e2=> ?_⟩
   ·have e2:=bU e2
    simp only[aW]at e2
    refine Kb (by kernel_rfl) _ _ s i (i+1) i0 (by omega) (by omega) ⟨_,rfl,?_,d,c',b',rfl,rfl,rfl,D,f13,?_⟩
    ·rw[yt];omega
    ·have ex:(s.extract i.toNat (i+1).toNat).data.toList=[s.data.toList[i.toNat]]:=by
      rw[Me,show(i+1).toNat-i.toNat=1 by omega,kM it,List.take_succ_cons,List.take_zero]
     rw[ByteArray.data_append,Array.toList_append,ex]
     refine I.aor fun e3=>e2 ?_
     rw[hb,e3]
     rfl
   ·have e2:=bS e2
    simp only[aT]at e2
    have e3:s.data.toList[i.toNat]=10:=by
     rw[hb]at e2
     exact wk.1 (by have:(10:UInt8).toNat=10:=rfl;omega)
    rw[e3]at I
    obtain⟨S,S',Gd,Wd,qd⟩:=D
    refine TM (d:=d) (GL.no ag5) Gd Wd line _ fun g14 w14 F F' K1 D14 f14=> ?_
    rw[show XX d line.data.toList=_ from adY I.ok (by omega) I.nl]at D14⊢
    obtain⟨hr,cl,Z8⟩:=I.line
    have hrc:r.2[c']=(fm d line.data.toList).2:=by rw[kM cl]at hr;exact(List.cons.inj hr).1
    have z14:=f14.size
    have c0:((r.2.map nA).map VS).length=r.2.length:=by rw[bB,bB]
    refine⟨g14,w14,_,_,_,rfl,Fv.aC f14,fun e=>(by cases e),fun _=>⟨fun e=> ?_,fun _=>⟨dK.bQ (R13.no f14) (by omega) (by omega),fun b3 Ud jY f16 Dm=> ?_⟩⟩⟩
    ·simp only[aT]at e;omega
    have f16:=f16.aM
    have TQ:=f14.aA f16
    have c1:=(R13.no TQ).get (i:=(c':Int)) (by omega) (by omega)
    have L16:=bE.no L13 TQ
    have c2:((r.2.map nA).map VS)[(c':Int).toNat]'(by omega)=VS (nA (fm d line.data.toList).2):=by
     rw[bV,bV]
     exact congrArg (fun x=>VS (nA x)) hrc
    rw[c2]at c1
    have wc:aX ((c':Int)+1)=(c':Int)+1:=aP _ (by omega) (by omega)
    rw[wc]
    refine⟨_,c1,fun e=>(by have e:=bU e;rw[rU]at e;exact absurd rfl (Ac e)),fun _=>⟨fun x h'=>Ud=h'/\∃b'':Nat,x=(b'':Int)/\b''<=(gC 0 r.2).length/\gC (c'+1) (r.2.drop (c'+1))=(gC 0 r.2).drop b'',⟨fun e=> ?_,fun e4=>⟨fun e=> ?_,fun e=> ?_⟩⟩,?_⟩⟩
    rotate_left 2
    ·refine⟨rfl,b',rfl,I.bl,I.aos fun hf=> ?_⟩
     rcases hf with hf|hf
     ·exact bM e4 hf
     ·exact bM e hf
    ·rintro x _ ⟨rfl,b'',rfl,bl,ff⟩ _ h18 f18 adA
     have w1:∀k,F k->¬In [b2] k:=fun k hk aQ=>by have:=n2 aQ;have:=D14.fl k hk;omega
     have w2:∀k,F' k->¬In [b2] k:=fun k hk aQ=>by have:=n2 aQ;have:=D14.wl k hk;omega
     refine⟨(fm d line.data.toList).1,c'+1,b'',rfl,by omega,rfl,Hy.of ((D14.G.rd.no f16).fr f18 fun k hk=>w1 k hk.1) (bE.fr (bE.no (Ow.rd D14.W) f16) f18 fun k hk=>w2 k (D14.W.aR hk).1) (fun k hk _ e=> ?_),(f13.trans TQ.aC).trans f18,Z8 b'' ff bl⟩
     rcases hk with hk|hk
     ·exact w1 k hk.1 (by simp[In,e])
     ·exact w2 k (D14.W.aR hk).1 (by simp[In,e])
    all_goals
     obtain⟨fd,fn,ff⟩:=I.fail (by first|exact .inl (eA e)|exact .inr (eA e))
     have fb:(gC 0 r.2)[b']=((c'+1:Nat):Int):=by rw[kM fn]at fd;exact(List.cons.inj fd).1
     refine⟨fun e=> ?_,fun _=>⟨dK.bQ L16 (by omega) (by rw[bB];omega),_,bE.get L16 (i:=(b':Int)) (by omega) (by omega),fun e=> ?_,fun _=>⟨rfl,b'+1,?_,by omega,ff⟩⟩⟩
     ·simp only[aT]at e;omega
     ·have e:=bU e
      simp only[aW]at e
      exact absurd (show(gC 0 r.2)[(b':Int).toNat]=_ from fb) (by omega)
     ·rw[aP]<;>omega
  ·rintro line c b x1 x2 x3 K3 ⟨d,c',b',rfl,rfl,rfl,D,f19,I⟩ wY
   exact⟨n-1,by omega,d,c',b',rfl,rfl,rfl,by omega,by omega,D,f19,I⟩
 ·simp only[aW]at e1
  rw[jK (by omega)]at I
  obtain⟨hc,hb,hd⟩:=I.done
  subst hd
  obtain⟨S,S',Gd,Wd,qd⟩:=D
  refine⟨fun _=>⟨fun _=> ?_,fun e=> ?_⟩,fun e=> ?_⟩
  ·exact XZ (e:=r.1) Gd (Gf.fr f13 off) Wd (bE.fr Wf f13 off) _ fun ZK f20=>⟨_,rfl,Fv.aC f20,HK _ (ag5.aA f20)⟩
  ·simp only[aW]at e;omega
  ·simp only[aW]at e;omega
end Go.Proofs.YtcnfcnoooecchaaGreatDoor
