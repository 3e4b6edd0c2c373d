import Derived.Test.YtcnfcnoooecchaaGreatDoorM6
set_option linter.unusedVariables false
set_option linter.unusedSimpArgs false
set_option linter.constructorNameAsVariable false
namespace Go.Mx
theorem nM:∀l:List Nat,j5 l=l.length
 |[]=>rfl
 |_::l=>by simp[j5,nM l]
theorem mq:∀l:List Lf,Am l=l.length
 |[]=>rfl
 |_::l=>by simp[Am,mq l]
theorem gC{a b:Nat}:Nat.blt a b=true↔a<b:=by rw[Nat.blt_eq]
theorem lF:∀(ρ y:List Nat)(i:Nat),i<ρ.length->gh (ρ++y) i=gh ρ i
 |[],_,_,h=>by simp at h
 |_::_,_,0,_=>rfl
 |_::ρ,y,i+1,h=>by simp only[List.cons_append,gh];exact lF ρ y i (by simpa using h)
theorem u6:∀(ρ:List Nat)(b:Nat)(y:List Nat),gh (ρ++b::y) ρ.length=b
 |[],_,_=>rfl
 |_::ρ,b,y=>by simp only[List.cons_append,List.length_cons,gh];exact u6 ρ b y
theorem DB{ρ y:List Nat}:∀{l:List Nat},(∀i,i∈l->i<ρ.length)->yk (ρ++y) l=yk ρ l
 |[],_=>rfl
 |i::l,h=>by simp only[yk];rw[lF _ _ _ (h i (by simp)),DB fun j hj=>h j (by simp[hj])]
theorem Y3{ρ y:List Nat}{c:Cp}(h:P5 ρ.length c=true):c.v' (ρ++y)=c.v' ρ:=by
 cases c with
 |p id off=>simp only[Cp.v'];rw[lF _ _ _ (gC.1 h)]
 |v x=>rfl
theorem ER{ρ y:List Nat}:∀{cs:List Cp},qi ρ.length cs=true->HB (ρ++y) cs=HB ρ cs
 |[],_=>rfl
 |c::cs,h=>by
  simp only[qi,bD]at h
  simp only[HB];rw[Y3 h.1,ER h.2]
theorem Km{ρ y:List Nat}{x:Lf}(h:x.ok ρ.length=true):x.v (ρ++y)=x.v ρ:=by
 cases x<;>try rfl
 case p id off=>simp only[Lf.v];rw[lF _ _ _ (gC.1 h)]
 case e x i sz off=>cases off<;>rfl
 case f fn fs cs=>
  simp only[Lf.ok,bD]at h
  simp only[Lf.v];rw[ER h.1,ER h.2]
theorem jK{ρ y:List Nat}:∀{xs:List Lf},cZ ρ.length xs=true->eQ (ρ++y) xs=eQ ρ xs
 |[],_=>rfl
 |x::xs,h=>by
  simp only[cZ,bD]at h
  simp only[eQ];rw[Km h.1,jK h.2]
theorem Qe{ρ y:List Nat}{x:Av}(h:x.ok ρ.length=true):x.v (ρ++y)=x.v ρ:=by
 cases x with
 |l x=>exact Km h
 |a xs=>simp only[Av.v];rw[jK h]
theorem Mc{ρ y:List Nat}:∀{xs:List Av},qj ρ.length xs=true->X1 (ρ++y) xs=X1 ρ xs
 |[],_=>rfl
 |x::xs,h=>by
  simp only[qj,bD]at h
  simp only[X1];rw[Qe h.1,Mc h.2]
theorem ES{ρ y:List Nat}{x:Tv}(h:x.ok ρ.length=true):x.val (ρ++y)=x.val ρ:=by
 cases x with
 |v x=>exact Qe h
 |t xs=>simp only[Tv.val];rw[Mc h]
theorem zh{ρ y:List Nat}:∀{L:List (Nat×List Lf)},uK ρ.length L=true->mn (ρ++y) L=mn ρ L
 |[],_=>rfl
 |(i,xs)::L,h=>by
  simp only[uK,bD]at h
  simp only[mn];rw[lF _ _ _ (gC.1 h.1.1),jK h.1.2,zh h.2]
theorem aeR{m n:Nat}{c:Cp}(h:P5 m c=true)(hm:m<=n):P5 n c=true:=by
 cases c with
 |p id off=>exact gC.2 (fQ (gC.1 h) hm)
 |v x=>rfl
theorem Kn{m n:Nat}(hm:m<=n):∀{cs:List Cp},qi m cs=true->qi n cs=true
 |[],_=>rfl
 |c::cs,h=>by
  simp only[qi,bD]at h⊢
  exact⟨aeR h.1 hm,Kn hm h.2⟩
theorem X8{m n:Nat}{x:Lf}(h:x.ok m=true)(hm:m<=n):x.ok n=true:=by
 cases x<;>try rfl
 case p id off=>exact gC.2 (fQ (gC.1 h) hm)
 case f fn fs cs=>
  simp only[Lf.ok,bD]at h⊢
  exact⟨Kn hm h.1,Kn hm h.2⟩
theorem ET{m n:Nat}(hm:m<=n):∀{xs:List Lf},cZ m xs=true->cZ n xs=true
 |[],_=>rfl
 |x::xs,h=>by
  simp only[cZ,bD]at h⊢
  exact⟨X8 h.1 hm,ET hm h.2⟩
theorem X9{m n:Nat}{x:Av}(h:x.ok m=true)(hm:m<=n):x.ok n=true:=by
 cases x with
 |l x=>exact X8 h hm
 |a xs=>exact ET hm h
theorem Qf{m n:Nat}(hm:m<=n):∀{xs:List Av},qj m xs=true->qj n xs=true
 |[],_=>rfl
 |x::xs,h=>by
  simp only[qj,bD]at h⊢
  exact⟨X9 h.1 hm,Qf hm h.2⟩
theorem aeS{m n:Nat}{x:Tv}(h:x.ok m=true)(hm:m<=n):x.ok n=true:=by
 cases x with
 |v x=>exact X9 h hm
 |t xs=>exact Qf hm h
theorem UT{m n:Nat}(hm:m<=n):∀{L:List (Nat×List Lf)},uK m L=true->uK n L=true
 |[],_=>rfl
 |(i,xs)::L,h=>by
  simp only[uK,bD]at h⊢
  exact⟨⟨gC.2 (fQ (gC.1 h.1.1) hm),ET hm h.1.2⟩,UT hm h.2⟩
theorem Ao{s:Sh}{Q:Lf->Prop}(h:exS s Q):∃x,Q x/\(∀m,x.ok m=true)/\x.fact:=by
 cases s<;>(obtain⟨x,hx⟩:=h;exact⟨_,hx,fun _=>rfl,trivial⟩)
theorem qW:∀{ss:List Sh}{Q:List Lf->Prop},exL ss Q->∃xs,Q xs/\(∀m,cZ m xs=true)/\dP xs
 |[],Q,h=>⟨[],h,fun _=>rfl,trivial⟩
 |s::ss,Q,h=>by
  obtain⟨x,h1,h2,h3⟩:=Ao h
  obtain⟨xs,h4,h5,h6⟩:=qW h1
  exact⟨x::xs,h4,fun m=>by simp[cZ,h2 m,h5 m],h3,h6⟩
theorem HP{s:As}{Q:Av->Prop}(h:exA s Q):∃x,Q x/\(∀m,x.ok m=true)/\x.fact:=by
 cases s with
 |l s=>obtain⟨x,h1,h2,h3⟩:=Ao h;exact⟨.l x,h1,h2,h3⟩
 |a ss=>obtain⟨xs,h1,h2,h3⟩:=qW h;exact⟨.a xs,h1,h2,h3⟩
theorem DC:∀{ss:List As}{Q:List Av->Prop},YT ss Q->∃xs,Q xs/\(∀m,qj m xs=true)/\ze xs
 |[],Q,h=>⟨[],h,fun _=>rfl,trivial⟩
 |s::ss,Q,h=>by
  obtain⟨x,h1,h2,h3⟩:=HP h
  obtain⟨xs,h4,h5,h6⟩:=DC h1
  exact⟨x::xs,h4,fun m=>by simp[qj,h2 m,h5 m],h3,h6⟩
theorem u7{s:Ts}{Q:Tv->Prop}(h:CE s Q):∃x,Q x/\(∀m,x.ok m=true)/\x.fact:=by
 cases s with
 |v s=>obtain⟨x,h1,h2,h3⟩:=HP h;exact⟨.v x,h1,h2,h3⟩
 |t ss=>obtain⟨xs,h1,h2,h3⟩:=DC h;exact⟨.t xs,h1,h2,h3⟩
structure Inv(s:St)(ρ:List Nat)(th:Heap):Prop where
 vars:Vars th (mn ρ s.L)
 len:ρ.length=s.m
 ext:∃x:List Nat,ρ=s.ρ++x/\x.length=s.nw/\∀b,b∈x->s.h.size<=b
 fr:Fr (In (yk ρ s.so)) s.h th
 cln:s.d=false->s.nw=0/\s.so=[]/\th=s.h
 so:∀i,i∈s.so->i<s.ρ.length
 wk:uK s.m s.L=true
 zi:qS s.L
structure Cl(s:St)(ρ:List Nat)(th:Heap):Prop where
 vars:Vars th (mn ρ s.L)
 len:ρ.length=s.m
 r:s.ρ=ρ
 h:s.h=th
 nw:s.nw=0
 so:s.so=[]
 d:s.d=false
 wk:uK s.m s.L=true
 zi:qS s.L
theorem Cl.inv{s:St}{ρ:List Nat}{th:Heap}(C:Cl s ρ th):Inv s ρ th:=
 ⟨C.vars,C.len,⟨[],by simp[C.r],by simp[C.nw],by simp⟩,by rw[C.h,C.so];exact Fr.refl _ _,fun _=>⟨C.nw,C.so,C.h.symm⟩,by simp[C.so],C.wk,C.zi⟩
theorem Inv.cl{s:St}{ρ:List Nat}{th:Heap}(I:Inv s ρ th)(hd:s.d=false):Cl s ρ th:=by
 obtain⟨h1,h2,h3⟩:=I.cln hd
 obtain⟨x,e1,e2,_⟩:=I.ext
 have:x=[]:=pG (by omega)
 subst this
 exact⟨I.vars,I.len,by simpa using e1.symm,h3.symm,h1,h2,hd,I.wk,I.zi⟩
structure Rel(ρ:List Nat)(m:Nat)(E:List (Nat×Option Tv))(A:bP):Prop where
 get:∀t x,sY E t=some x->x.ok m=true/\x.fact/\oe A t=x.val ρ
theorem Rel.ext{ρ y:List Nat}{m n:Nat}{E:List (Nat×Option Tv)}{A:bP}(R:Rel ρ m E A)(hm:ρ.length=m)(hn:m<=n):Rel (ρ++y) n E A:=
 ⟨fun t x h=>by
  obtain⟨h1,h2,h3⟩:=R.get t x h
  exact⟨aeS h1 hn,h2,by rw[ES (by rw[hm];exact h1)];exact h3⟩⟩
theorem Md:∀{n:Nat}{ρ:List Nat}{k:List Nat->Prop},qB n ρ k->∀x:List Nat,x.length=n->k (ρ++x)
 |0,ρ,k,h,x,hx=>by
  obtain rfl:=pG hx
  simpa[qB]using h
 |n+1,ρ,k,h,[],hx=>by simp at hx
 |n+1,ρ,k,h,b::x,hx=>by
  have:=Md (h b) x (by simpa using hx)
  simpa using this
theorem DE{h:Heap}:∀{l:List Nat}{Q:Prop},YU h l Q->(∀b,b∈l->h.size<=b)->Q
 |[],Q,H,_=>H
 |b::l,Q,H,hb=>DE (H (hb b (by simp))) fun c hc=>hb c (by simp[hc])
theorem HQ:∀(a b:List Nat),UO a (a++b)=b
 |[],b=>rfl
 |_::a,b=>HQ a b
theorem ka{s:St}{ρ:List Nat}{th:Heap}{k:St->Prop}(I:Inv s ρ th)(H:sync s k):∃s',Cl s' ρ th/\s'.E=s.E/\s'.L=s.L/\s'.m=s.m/\s'.md=s.md/\k s':=by
 unfold sync at H
 cases hd:s.d with
 |false=>
  rw[hd]at H
  exact⟨s,I.cl hd,rfl,rfl,rfl,rfl,H⟩
 |true=>
  rw[hd]at H
  obtain⟨x,e1,e2,e3⟩:=I.ext
  have h1:=Md H x e2 th
  rw[<-e1]at h1
  have h2:UO s.ρ ρ=x:=by rw[e1];exact HQ _ _
  rw[h2]at h1
  have h3:=DE h1 e3 I.fr I.vars
  exact⟨{s with ρ:=ρ,nw:=0,so:=[],d:=false,h:=th},⟨I.vars,I.len,rfl,rfl,rfl,rfl,rfl,I.wk,I.zi⟩,rfl,rfl,rfl,rfl,h3⟩
theorem Qg(ρ:List Nat)(v:Value):(P6 v).v ρ=v:=by cases v<;>rfl
theorem Me(m:Nat)(v:Value):(P6 v).ok m=true:=by cases v<;>rfl
theorem DF(v:Value):(P6 v).fact:=by cases v<;>first|rfl|trivial
theorem kT{ρ:List Nat}{m:Nat}{E:List (Nat×Option Tv)}{A:bP}(R:Rel ρ m E A){x:Operand}{y:Tv}(h:Ak E x=some y):y.ok m=true/\y.fact/\gG A x=y.val ρ:=by
 cases x with
 |tmp t=>exact R.get t y h
 |const v=>
  simp only[Ak,dC]at h
  subst h
  exact⟨Me m v,DF v,(Qg ρ v).symm⟩
 |global g=>
  simp only[Ak,dC]at h
  subst h
  exact⟨rfl,trivial,rfl⟩
 |func f=>
  simp only[Ak,dC]at h
  subst h
  exact⟨rfl,trivial,rfl⟩
theorem gY{ρ:List Nat}{m:Nat}{E:List (Nat×Option Tv)}{A:bP}(R:Rel ρ m E A){x:Operand}{y:Lf}(h:lf E x=some y):y.ok m=true/\y.fact/\gG A x=y.v ρ:=by
 unfold lf at h
 split at h
 ·rename_i z hz
  have h:=bI h
  subst h
  exact kT R hz
 ·cases h
theorem nN{s:St}{ρ:List Nat}{th:Heap}{A:bP}(I:Inv s ρ th)(R:Rel ρ s.m s.E A):∀{l:List Operand},Kh (j5 s.ρ) s.E l=true->∀x,x∈l->gG A x=GZ s.ρ s.E x
 |[],_,x,hx=>by simp at hx
 |y::l,h,x,hx=>by
  simp only[Kh,bD]at h
  rcases aO.1 hx with rfl|hx
  ·cases hy:Ak s.E x with
   |none=>rw[hy]at h;simp at h
   |some z=>
    rw[hy]at h
    obtain⟨e,e1,_,_⟩:=I.ext
    rw[(kT R hy).2.2]
    unfold GZ
    rw[hy,e1]
    exact ES (by rw[<-nM];exact h.1)
  ·exact nN I R h.2 x hx
structure Nx(s:St)(ρ:List Nat)(s':St)(kG:List Nat):Prop where
 m:s.m<=s'.m
 md:∃new,s'.md=new++s.md/\∀id,gf new id=false->id<s.m->dQ s'.L id=dQ s.L id
 r:∃y,kG=ρ++y
theorem ij{s s':St}{ρ:List Nat}(hm:s'.m=s.m)(hL:s'.L=s.L)(lG:s'.md=s.md):Nx s ρ s' ρ:=⟨by omega,⟨[],by simp[lG],fun _ _ _=>by rw[hL]⟩,⟨[],by simp⟩⟩
theorem Nx.refl(s:St)(ρ:List Nat):Nx s ρ s ρ:=ij rfl rfl rfl
theorem HU:∀{a b:List Nat}{i:Nat},gf (a++b) i=(gf a i||gf b i)
 |[],b,i=>rfl
 |x::a,b,i=>by simp only[List.cons_append,gf];rw[HU,Bool.or_assoc]
theorem Nx.trans{s1 s2 s3:St}{ρ1 JZ ρ3:List Nat}(h:Nx s1 ρ1 s2 JZ)(k:Nx s2 JZ s3 ρ3):Nx s1 ρ1 s3 ρ3:=by
 obtain⟨m1,⟨n1,a1,b1⟩,⟨y1,c1⟩⟩:=h
 obtain⟨m2,⟨n2,a2,b2⟩,⟨y2,c2⟩⟩:=k
 refine⟨by omega,⟨n2++n1,by rw[a2,a1,gX],fun id hid hm=> ?_⟩,⟨y1++y2,by rw[c2,c1,gX]⟩⟩
 rw[HU,Bool.or_eq_false_iff]at hid
 rw[b2 id hid.1 (by omega),b1 id hid.2 hm]
def kb(A:bP)(s:St)(ρ:List Nat)(k:St->Tv->Prop)(v:Value)(h':Heap):Prop:=
 ∃s' x kG,Inv s' kG h'/\Rel kG s'.m s'.E A/\v=x.val kG/\x.ok s'.m=true/\x.fact/\Nx s ρ s' kG/\k s' x
theorem bZ{A:bP}{s:St}{ρ:List Nat}{k:St->Tv->Prop}{h:Heap}{x:Tv}{v:Value}(I:Inv s ρ h)(R:Rel ρ s.m s.E A)(hv:v=x.val ρ)(ho:x.ok s.m=true)(hf:x.fact)(hk:k s x):kb A s ρ k v h:=
 ⟨s,x,ρ,I,R,hv,ho,hf,Nx.refl _ _,hk⟩
theorem ke{A:bP}{s s':St}{ρ:List Nat}{k:St->Tv->Prop}{h:Heap}{x:Tv}{v:Value}(I:Inv s' ρ h)(R:Rel ρ s'.m s'.E A)(N:Nx s ρ s' ρ)(hv:v=x.val ρ)(ho:x.ok s'.m=true)(hf:x.fact)(hk:k s' x):kb A s ρ k v h:=
 ⟨s',x,ρ,I,R,hv,ho,hf,N,hk⟩
theorem dU{P:Program}{e:Operand->Value}{op:Op}{ty:TypeId}{h:Heap}{K:aL}{q:Sem Value}(h1:iU op=none)(h2:mO op=none)(h3:lA e ty op=some q)(H:pop P q fun v=>K v h):gM P e op ty h K:=by
 unfold gM;simp only[h1,h2,h3];exact H
theorem kf{P:Program}{A:bP}{s:St}{ρ:List Nat}{h:Heap}{op:Op}{ty:TypeId}{rt:Option Ts}{k:St->Tv->Prop}(I:Inv s ρ h)(R:Rel ρ s.m s.E A)(H:oq P s op ty rt k):gM P (gG A) op ty h (kb A s ρ k):=by
 unfold oq at H
 cases h1:iU op with
 |some x=>rw[h1]at H;exact H.elim
 |none=>
 cases h2:mO op with
 |some x=>rw[h1,h2]at H;exact H.elim
 |none=>
 rw[h1,h2]at H
 simp only at H
 cases h3:lA gO 0 op with
 |some q0=>
  rw[h3]at H
  simp only at H
  split at H
  ·rename_i hd
   have hc:lA (gG A) ty op=lA (GZ s.ρ s.E) ty op:=tT fun x hx=>nN I R hd x (by simpa using hx)
   split at H
   ·rename_i q hq
    refine dU h1 h2 (by rw[hc];exact hq) (H.mono fun rv hr=> ?_)
    unfold exR at hr
    cases rt with
    |none=>exact bZ (x:= .v (.l (.r rv))) I R rfl rfl trivial hr
    |some t=>
     obtain⟨x,⟨e1,e2⟩,e3,e4⟩:=u7 hr
     obtain⟨z,e5,_,_⟩:=I.ext
     exact bZ I R (by rw[e1,e5,ES (e3 _)]) (e3 _) e4 e2
   ·exact H.elim
  ·exact H.elim
 |none=>
  rw[h3]at H
  simp only at H
  obtain⟨s',C,hE,hL,hm,lG,H⟩:=ka I H
  have I':=C.inv
  have R':Rel ρ s'.m s'.E A:=by rw[hE,hm];exact R
  have hp:∀e,lA e ty op=none:=fun e=>by
   have:=nI gO e 0 ty op
   rw[h3]at this
   cases hh:lA e ty op with
   |none=>rfl
   |some _=>rw[hh]at this;cases this
  split at H
  ·rename_i hd
   have hcr:qv (gG A) op=qv (GZ s'.ρ s'.E) op:=pC fun x hx=>nN I' R' hd x (by simpa using hx)
   have hce:Hd (gG A) ty op=Hd (GZ s'.ρ s'.E) ty op:=zN fun x hx=>nN I' R' hd x (by simpa using hx)
   have hcu:He (gG A) op=He (GZ s'.ρ s'.E) op:=zO fun x hx=>nN I' R' hd x (by simpa using hx)
   unfold gM
   simp only[h1,h2,hp,hcr,hce,hcu]
   split at H
   ·rename_i q hq
    simp only[hq]
    rw[<-C.h]
    refine H.mono fun rv hr=> ?_
    unfold exR at hr
    cases rt with
    |none=>rw[C.h];exact ke (x:= .v (.l (.r rv))) I' R' (ij hm hL lG) rfl rfl trivial hr
    |some t=>
     obtain⟨x,⟨e1,e2⟩,e3,e4⟩:=u7 hr
     rw[C.h]
     exact ke I' R' (ij hm hL lG) (by rw[e1,C.r]) (e3 _) e4 e2
   ·rename_i hq
    simp only[hq]
    split at H
    ·rename_i q ju
     simp only[ju]
     rw[<-C.h]
     refine H.mono fun rv h' hr=> ?_
     unfold oq.aeM at hr
     cases rt with
     |none=>
      obtain⟨e2,e5⟩:=hr
      rw[C.r]at e2
      have C':Cl {s' with h:=h'} ρ h':=⟨e2,C.len,C.r,rfl,C.nw,C.so,C.d,C.wk,C.zi⟩
      exact ke (s':={s' with h:=h'}) (x:= .v (.l (.r rv))) C'.inv R' (ij hm hL lG) rfl rfl trivial e5
     |some t=>
      obtain⟨x,⟨e1,e2,e5⟩,e3,e4⟩:=u7 hr
      rw[C.r]at e2
      have C':Cl {s' with h:=h'} ρ h':=⟨e2,C.len,C.r,rfl,C.nw,C.so,C.d,C.wk,C.zi⟩
      exact ke (s':={s' with h:=h'}) C'.inv R' (ij hm hL lG) (by rw[e1,C.r]) (e3 _) e4 e5
    ·rename_i ju
     simp only[ju]
     split at H
     ·rename_i q hq3
      simp only[hq3]
      rw[<-C.h]
      refine⟨fun w hw=> ?_⟩
      obtain⟨w',a1,a2,a3,a4⟩:=H.out w hw
      rw[C.r]at a3
      have C':Cl {s' with h:=w'.heap} ρ w'.heap:=⟨a3,C.len,C.r,rfl,C.nw,C.so,C.d,C.wk,C.zi⟩
      exact⟨w',a1,a2,ke (s':={s' with h:=w'.heap}) (x:= .v (.l .u)) C'.inv R' (ij hm hL lG) rfl rfl trivial a4⟩
     ·exact H.elim
  ·exact H.elim
theorem pK{ids:List Nat}:∀{L:List (Nat×List Lf)}{Q:List (Nat×List Lf)->Prop},sC ids L Q->∃L',Q L'/\(∀m,uK m L=true->uK m L'=true)/\(qS L->qS L')/\∀id,gf ids id=false->dQ L' id=dQ L id
 |[],Q,h=>⟨[],h,fun _ h=>h,fun h=>h,fun _ _=>rfl⟩
 |(i,xs)::L,Q,h=>by
  unfold sC at h
  cases hi:gf ids i with
  |true=>
   rw[hi]at h
   obtain⟨ys,h1,h2,h3⟩:=qW h
   obtain⟨L',h4,h5,h6,h7⟩:=pK h1
   refine⟨(i,ys)::L',h4,fun m hm=> ?_,fun hf=>⟨h3,h6 hf.2⟩,fun id hid=> ?_⟩
   ·simp only[uK,bD]at hm⊢
    exact⟨⟨hm.1.1,h2 m⟩,h5 m hm.2⟩
   ·unfold dQ
    cases hb:Nat.beq i id with
    |true=>have:=ft hb;subst this;rw[hi]at hid;cases hid
    |false=>exact h7 id hid
  |false=>
   rw[hi]at h
   obtain⟨L',h4,h5,h6,h7⟩:=pK h
   refine⟨(i,xs)::L',h4,fun m hm=> ?_,fun hf=>⟨hf.1,h6 hf.2⟩,fun id hid=> ?_⟩
   ·simp only[uK,bD]at hm⊢
    exact⟨hm.1,h5 m hm.2⟩
   ·unfold dQ
    cases Nat.beq i id with
    |true=>rfl
    |false=>exact h7 id hid
theorem UU{P:Program}{A:bP}{s:St}{ρ:List Nat}{h:Heap}{f:Operand}{args:List Operand}{ty:TypeId}{k:St->Tv->Prop}(I:Inv s ρ h)(R:Rel ρ s.m s.E A)(H:P9 P s f args ty k):iQ P (gG A f) (pw (gG A) args) h (kb A s ρ k):=by
 unfold P9 at H
 obtain⟨s',C,hE,hL,hm,lG,H⟩:=ka I H
 have I':=C.inv
 have R':Rel ρ s'.m s'.E A:=by rw[hE,hm];exact R
 split at H
 ·exact H.elim
 ·rename_i hd
  have hf:=nN I' R' hd f (by simp)
  have ha:pw (gG A) args=pw (GZ s'.ρ s'.E) args:=kO args fun x hx=>nN I' R' hd x (by simp[hx])
  have key:∀rv h',(sC (iX s'.E (args++[f])) s'.L fun L'=>match iy P ty with
   |some t=>CE t fun x=>rv=x.val s'.ρ/\Vars h' (mn s'.ρ L')/\k {s' with L:=L',md:=iX s'.E (args++[f])++s'.md,h:=h'} x
   |none=>Vars h' (mn s'.ρ L')/\k {s' with L:=L',md:=iX s'.E (args++[f])++s'.md,h:=h'} (.v (.l (.r rv))))->kb A s ρ k rv h':=fun rv h' hq=>by
   obtain⟨L',q1,q2,q3,q4⟩:=pK hq
   have fin:∀x:Tv,Vars h' (mn s'.ρ L')->rv=x.val ρ->(∀m,x.ok m=true)->x.fact->k {s' with L:=L',md:=iX s'.E (args++[f])++s'.md,h:=h'} x->kb A s ρ k rv h':=fun x v1 v2 v3 v4 v5=>by
    rw[C.r]at v1
    have C':Cl {s' with L:=L',md:=iX s'.E (args++[f])++s'.md,h:=h'} ρ h':=⟨v1,C.len,C.r,rfl,C.nw,C.so,C.d,q2 _ C.wk,q3 C.zi⟩
    exact ke (s':={s' with L:=L',md:=iX s'.E (args++[f])++s'.md,h:=h'}) C'.inv R' ((ij hm hL lG).trans ⟨aW _,⟨iX s'.E (args++[f]),rfl,fun id hid _=>q4 id hid⟩,⟨[],by simp⟩⟩) v2 (v3 _) v4 v5
   split at q1
   ·obtain⟨x,⟨e1,e2,e5⟩,e3,e4⟩:=u7 q1
    exact fin x e2 (by rw[e1,C.r]) e3 e4 e5
   ·exact fin (.v (.l (.r rv))) q1.1 rfl (fun _=>rfl) trivial q1.2
  rw[hf,ha,<-C.h]
  cases f with
  |func n=>
   show aG P n ((#[]:Array Value).toList++pw (GZ s'.ρ s'.E) args++(#[]:Array Value).toList).toArray s'.h _
   rw[show((#[]:Array Value).toList++pw (GZ s'.ρ s'.E) args++(#[]:Array Value).toList:List Value)=pw (GZ s'.ρ s'.E) args by simp]
   exact zJ (fun rv h' hq=>key rv h' hq) H
  |tmp t=>exact px (fun rv h' hq=>key rv h' hq) H
  |const v=>exact px (fun rv h' hq=>key rv h' hq) H
  |global g=>exact px (fun rv h' hq=>key rv h' hq) H
theorem HV{ρ:List Nat}{m:Nat}{E:List (Nat×Option Tv)}{A:bP}(R:Rel ρ m E A){c:Operand}{x:Bool}{kn:Option (Bool×Bool)}(hc:lf E c=some (.b x kn)){v:Bool}(hx:x=v):Rel ρ m (flag E c v) A:=by
 unfold flag
 split
 ·rename_i t
  split
  ·rename_i y sv hy
   have hy':lf E (.tmp t)=some (.b y sv):=by unfold lf Ak;simp only[hy]
   rw[hc]at hy'
   simp only[dC,Lf.b.injEq]at hy'
   obtain⟨rfl,rfl⟩:=hy'
   refine⟨fun t' z hz=> ?_⟩
   unfold sY at hz
   cases hb:Nat.beq t t' with
   |true=>
    rw[hb]at hz
    simp only[dC]at hz
    subst hz
    have:=ft hb
    subst this
    exact⟨rfl,hx,(R.get t _ hy).2.2⟩
   |false=>rw[hb]at hz;exact R.get t' z hz
  ·exact R
 ·exact R
theorem Ap{s:St}{ρ:List Nat}{h:Heap}{A:bP}{c:Operand}{x:Bool}{kn:Option (Bool×Bool)}{yes no:St->Prop}(I:Inv s ρ h)(R:Rel ρ s.m s.E A)(hc:lf s.E c=some (.b x kn))(H:brB x kn s c yes no):
 (x=true->∃s',Inv s' ρ h/\Rel ρ s'.m s'.E A/\s'.m=s.m/\s'.L=s.L/\s'.md=s.md/\yes s')/\(x=false->∃s',Inv s' ρ h/\Rel ρ s'.m s'.E A/\s'.m=s.m/\s'.L=s.L/\s'.md=s.md/\no s'):=by
 have hf:=(gY R hc).2.1
 unfold brB at H
 split at H
 ·rename_i l
  have hx:x=true:=hf
  exact⟨fun _=>⟨s,I,R,rfl,rfl,rfl,H⟩,fun e=>(by rw[hx]at e;cases e)⟩
 ·rename_i l
  have hx:x=false:=hf
  exact⟨fun e=>(by rw[hx]at e;cases e),fun _=>⟨s,I,R,rfl,rfl,rfl,H⟩⟩
 ·have I':∀v,Inv {s with E:=flag s.E c v} ρ h:=fun v=>⟨I.vars,I.len,I.ext,I.fr,I.cln,I.so,I.wk,I.zi⟩
  exact⟨fun e=>⟨_,I' true,HV R hc e,rfl,rfl,rfl,H.1 e⟩,fun e=>⟨_,I' false,HV R hc e,rfl,rfl,rfl,H.2 e⟩⟩
theorem zj:∀{cs:List Lf}{o n:Nat}{ys:List Lf},nC cs o n=some ys->ys=(cs.drop o).take n/\ys.length=n
 |cs,0,0,ys,h=>by
  simp only[nC,dC]at h
  subst h
  simp
 |x::xs,0,n+1,ys,h=>by
  simp only[nC]at h
  split at h
  ·rename_i r hr
   have h:=bI h
   subst h
   obtain⟨e1,e2⟩:=zj hr
   simp only[qR]at e1
   simp[<-e1,e2]
  ·cases h
 |x::xs,o+1,n,ys,h=>by
  simp only[nC]at h
  obtain⟨e1,e2⟩:=zj h
  exact⟨by rw[e1];rfl,e2⟩
 |[],o+1,n,ys,h=>by cases n<;>simp[nC]at h
 |[],0,n+1,ys,h=>by simp[nC]at h
theorem fS(ρ:List Nat):∀xs:List Lf,eQ ρ xs=xs.map (Lf.v ρ)
 |[]=>rfl
 |x::xs=>by simp[eQ,fS ρ xs]
theorem wm{ρ:List Nat}{cs:List Lf}{o n:Nat}{ys:List Lf}(h:nC cs o n=some ys):Kc (eQ ρ cs) o n=eQ ρ ys/\(eQ ρ ys).length=n:=by
 obtain⟨e1,e2⟩:=zj h
 rw[pI,fS,fS,e1,List.map_take,List.map_drop]
 refine⟨rfl,?_⟩
 rw[<-List.map_drop,<-List.map_take,bG,<-e1,e2]
theorem dW{m:Nat}:∀{xs:List Lf},cZ m xs=true↔∀x,x∈xs->x.ok m=true
 |[]=>by simp[cZ]
 |x::xs=>by simp[cZ,dW (xs:=xs)]
theorem dA:∀{xs:List Lf},dP xs↔∀x,x∈xs->x.fact
 |[]=>by simp[dP]
 |x::xs=>by simp[dP,dA (xs:=xs)]
theorem sD{m:Nat}{cs:List Lf}{o n:Nat}{ys:List Lf}(h:nC cs o n=some ys)(hc:cZ m cs=true)(hf:dP cs):cZ m ys=true/\dP ys:=by
 obtain⟨e1,_⟩:=zj h
 have hm:∀x,x∈ys->x∈cs:=fun x hx=>by rw[e1]at hx;exact wo (ov hx)
 exact⟨dW.2 fun x hx=>dW.1 hc x (hm x hx),dA.2 fun x hx=>dA.1 hf x (hm x hx)⟩
theorem mV{m:Nat}:∀{L:List (Nat×List Lf)}{id:Nat}{cs:List Lf},dQ L id=some cs->uK m L=true->qS L->id<m/\cZ m cs=true/\dP cs
 |[],id,cs,h,_,_=>by simp[dQ]at h
 |(i,xs)::L,id,cs,h,ho,hf=>by
  simp only[uK,bD]at ho
  unfold dQ at h
  cases hb:Nat.beq i id with
  |true=>
   rw[hb]at h
   have h:=bI h
   subst h
   have:=ft hb
   subst this
   exact⟨gC.1 ho.1.1,ho.1.2,hf.1⟩
  |false=>rw[hb]at h;exact mV h ho.2 hf.2
theorem mJ{ρ:List Nat}:∀{L:List (Nat×List Lf)}{id:Nat}{cs:List Lf},dQ L id=some cs->∃i,qK (mn ρ L) i=some (gh ρ id,eQ ρ cs)/\∀nA,EJ (mn ρ L) i (eQ ρ nA)=mn ρ (yH L id nA)
 |[],id,cs,h=>by simp[dQ]at h
 |(j,xs)::L,id,cs,h=>by
  unfold dQ at h
  unfold yH
  cases hb:Nat.beq j id with
  |true=>
   rw[hb]at h
   have h:=bI h
   subst h
   have:=ft hb
   subst this
   exact⟨0,rfl,fun _=>rfl⟩
  |false=>
   rw[hb]at h
   obtain⟨i,h1,h2⟩:=mJ (ρ:=ρ) h
   exact⟨i+1,h1,fun nA=>by simp only[mn,EJ];rw[h2]⟩
theorem DG:∀{L:List (Nat×List Lf)}{id:Nat}{cs ys:List Lf},dQ L id=some cs->∀j,dQ (yH L id ys) j=if id=j then some ys else dQ L j
 |[],id,cs,ys,h,j=>by simp[dQ]at h
 |(i,xs)::L,id,cs,ys,h,j=>by
  unfold dQ at h
  unfold yH
  cases hb:Nat.beq i id with
  |true=>
   have:=ft hb
   subst this
   simp only[dQ]
   cases hj:Nat.beq i j with
   |true=>rw[aJ (ft hj)]
   |false=>rw[aF (fun e=>by subst e;simp at hj)]
  |false=>
   rw[hb]at h
   simp only[dQ]
   cases hj:Nat.beq i j with
   |true=>
    have:=ft hj
    subst this
    rw[aF (fun e=>by subst e;simp at hb)]
   |false=>exact DG h j
theorem Mf{m:Nat}:∀{L:List (Nat×List Lf)}{id:Nat}{ys:List Lf},uK m L=true->qS L->cZ m ys=true->dP ys->uK m (yH L id ys)=true/\qS (yH L id ys)
 |[],id,ys,_,_,_,_=>⟨rfl,trivial⟩
 |(i,xs)::L,id,ys,ho,hf,h1,h2=>by
  simp only[uK,bD]at ho
  unfold yH
  cases Nat.beq i id with
  |true=>exact⟨by simp[uK,ho.1.1,h1,ho.2],h2,hf.2⟩
  |false=>
   obtain⟨a,b⟩:=Mf (id:=id) ho.2 hf.2 h1 h2
   exact⟨by simp[uK,ho.1.1,ho.1.2,a],hf.1,b⟩
theorem UW{P:Program}{A:bP}{s:St}{ρ:List Nat}{h:Heap}{t:TypeId}{x:Operand}{k:St->Tv->Prop}{raw:Prop}(I:Inv s ρ h)(R:Rel ρ s.m s.E A)(H:loadT P s t (lf s.E x) k raw)(hr:raw->CI P (Instr.loadAt t (gG A x)) h fun v=>kb A s ρ k v h):CI P (Instr.loadAt t (gG A x)) h fun v=>kb A s ρ k v h:=by
 unfold loadT at H
 split at H
 ·rename_i id off hx
  have hv:=(gY R hx).2.2
  rw[hv]
  split at H
  ·rename_i cs hf
   obtain⟨o1,o2,o3⟩:=mV hf I.wk I.zi
   obtain⟨i,hi,_⟩:=mJ (ρ:=ρ) hf
   split at H
   ·rename_i h1
    split at H
    ·rename_i y hy
     obtain⟨c1,c2⟩:=sD hy o2 o3
     obtain⟨e1,e2⟩:=wm (ρ:=ρ) hy
     refine L6 h1 I.vars i hi off (v:=y.v ρ) ?_ (bZ (x:= .v (.l y)) I R rfl (dW.1 c1 y (by simp)) (dA.1 c2 y (by simp)) H)
     rw[pI]at e1
     have:=congrArg (·[0]?) e1
     simpa[eQ,List.getElem?_take,List.getElem?_drop]using this
    ·exact H.elim
   ·rename_i h1
    split at H
    ·rename_i n h2
     split at H
     ·rename_i ys hy
      obtain⟨c1,c2⟩:=sD hy o2 o3
      obtain⟨e1,e2⟩:=wm (ρ:=ρ) hy
      exact Hs h2 I.vars i hi off e1 e2 (bZ (x:= .v (.a ys)) I R rfl c1 c2 H)
     ·exact H.elim
    ·exact H.elim
  ·exact H.elim
 ·rename_i z j sz off hx
  have hv:=(gY R hx).2.2
  have ha:gG A x= .pointer (some (loadT.TQ z j sz off)):=by rw[hv];cases off<;>rfl
  rw[ha]
  obtain⟨s',C,hE,hL,hm,lG,H⟩:=ka I H
  have R':Rel ρ s'.m s'.E A:=by rw[hE,hm];exact R
  split at H
  ·rename_i h1
   split at H
   ·rename_i sh hs
    obtain⟨y,⟨e1,e2⟩,e3,e4⟩:=Ao H
    rw[C.h]at e1
    rw[C.r]at e1
    exact L4 h1 (y.v ρ) e1 (ke (x:= .v (.l y)) C.inv R' (ij hm hL lG) rfl (e3 _) e4 e2)
   ·exact H.elim
  ·split at H
   ·rename_i n ss h2 _
    obtain⟨ys,e1,e3,e4⟩:=qW H
    split at e1
    ·rename_i hn
     obtain⟨e1,e2⟩:=e1
     rw[C.h,C.r]at e1
     have hlen:(eQ ρ ys).length=n:=by rw[fS,bG,<-mq];exact ft hn
     exact L5 h2 (eQ ρ ys) hlen e1 (ke (x:= .v (.a ys)) C.inv R' (ij hm hL lG) rfl (e3 _) e4 e2)
    ·exact e1.elim
   ·exact H.elim
 ·exact hr H
theorem wq{ρ:List Nat}{x:Lf}(h:zf x=true):gW (x.v ρ)=true:=by
 cases x<;>try rfl
 case e x i sz off=>cases off<;>rfl
 case r v=>exact h
 case u=>cases h
theorem Aq{ρ:List Nat}:∀{xs:List Lf},uY xs=true->(eQ ρ xs).all gW=true
 |[],_=>rfl
 |x::xs,h=>by
  simp only[uY,bD]at h
  simp only[eQ,List.all_cons,bD]
  exact⟨wq h.1,Aq h.2⟩
theorem EU{ρ:List Nat}{w:Tv}{vs:List Lf}(h:Al w=some vs):(w.val ρ).cells=(eQ ρ vs).toArray/\(eQ ρ vs).all gW=true:=by
 unfold Al at h
 split at h
 ·rename_i x
  split at h
  ·rename_i hp
   have h:=bI h
   subst h
   have h1:=wq (ρ:=ρ) hp
   exact⟨(qO h1).1,by simp[eQ,h1]⟩
  ·cases h
 ·rename_i xs
  split at h
  ·rename_i hp
   have h:=bI h
   subst h
   exact⟨rfl,Aq hp⟩
  ·cases h
 ·cases h
theorem Ar{m:Nat}{w:Tv}{vs:List Lf}(h:Al w=some vs)(ho:w.ok m=true)(hf:w.fact):cZ m vs=true/\dP vs:=by
 unfold Al at h
 split at h
 ·split at h
  ·have h:=bI h
   subst h
   have ho:Lf.ok m _=true:=ho
   exact⟨by simp[cZ,ho],hf,trivial⟩
  ·cases h
 ·split at h
  ·have h:=bI h
   subst h
   exact⟨ho,hf⟩
  ·cases h
 ·cases h
theorem sE{ρ:List Nat}{m:Nat}:∀{cs:List Lf}{o:Nat}{vs nA:List Lf},lm cs o vs=some nA->eQ ρ nA=kP (eQ ρ cs) o (eQ ρ vs)/\o+vs.length<=cs.length/\(cZ m cs=true->cZ m vs=true->cZ m nA=true)/\(dP cs->dP vs->dP nA)
 |cs,0,[],nA,h=>by
  have:cs=nA:=by cases cs<;>simpa[lm]using h
  subst this
  exact⟨by cases cs<;>rfl,by simp,fun h _=>h,fun h _=>h⟩
 |c::cs,0,v::vs,nA,h=>by
  simp only[lm]at h
  split at h
  ·rename_i r hr
   have h:=bI h
   subst h
   obtain⟨e1,e2,e3,e4⟩:=sE (ρ:=ρ) (m:=m) hr
   refine⟨by simp only[eQ,kP];rw[e1],by simp only[List.length_cons];omega,fun a b=> ?_,fun a b=>⟨b.1,e4 a.2 b.2⟩⟩
   simp only[cZ,bD]at a b⊢
   exact⟨b.1,e3 a.2 b.2⟩
  ·cases h
 |c::cs,o+1,vs,nA,h=>by
  simp only[lm]at h
  split at h
  ·rename_i r hr
   have h:=bI h
   subst h
   obtain⟨e1,e2,e3,e4⟩:=sE (ρ:=ρ) (m:=m) hr
   refine⟨?_,by simp only[List.length_cons];omega,fun a b=> ?_,fun a b=>⟨a.1,e4 a.2 b⟩⟩
   ·simp only[eQ]
    rw[e1]
    cases vs with
    |nil=>
     cases hh:eQ ρ cs<;>simp[eQ,kP]
    |cons v vs=>simp only[eQ,kP]
   ·simp only[cZ,bD]at a⊢
    exact⟨a.1,e3 a.2 b⟩
  ·cases h
 |[],o+1,vs,nA,h=>by simp[lm]at h
 |[],0,v::vs,nA,h=>by simp[lm]at h
theorem Qh{ρ y:List Nat}{i:Nat}(h1:ρ.length<=i)(h2:i<(ρ++y).length):gh (ρ++y) i∈y:=by
 induction ρ generalizing i with
 |nil=>
  simp only[List.nil_append]at h2⊢
  induction y generalizing i with
  |nil=>simp at h2
  |cons b y ih=>
   cases i with
   |zero=>simp[gh]
   |succ i=>simp only[gh];exact cO _ (ih (by simp) (by simpa using h2))
 |cons b ρ ih=>
  cases i with
  |zero=>simp at h1
  |succ i=>
   simp only[List.cons_append,gh]
   exact ih (by simpa using h1) (by simpa using h2)
theorem Qi{P:Program}{A:bP}{s:St}{ρ:List Nat}{h:Heap}{t:TypeId}{x v:Operand}{k:St->Tv->Prop}{raw:Prop}(I:Inv s ρ h)(R:Rel ρ s.m s.E A)(H:storeT P s t (lf s.E x) (Ak s.E v) k raw)
 (hr:raw->Hc P (Instr.storeAt t (gG A x) (gG A v)) h (kb A s ρ k)):Hc P (Instr.storeAt t (gG A x) (gG A v)) h (kb A s ρ k):=by
 unfold storeT at H
 split at H
 ·rename_i id off hx
  have hv:=(gY R hx).2.2
  rw[hv]
  split at H
  ·rename_i cs w hf hw
   obtain⟨w1,w2,w3⟩:=kT R hw
   rw[w3]
   obtain⟨o1,o2,o3⟩:=mV hf I.wk I.zi
   obtain⟨i,hi,dR⟩:=mJ (ρ:=ρ) hf
   split at H
   ·rename_i vs n Pt tJ
    obtain⟨f1,f2⟩:=EU (ρ:=ρ) Pt
    obtain⟨g1,g2⟩:=Ar Pt w1 w2
    split at H
    ·rename_i hn
     split at H
     ·rename_i nA PT
      obtain⟨e1,e2,e3,e4⟩:=sE (ρ:=ρ) (m:=s.m) PT
      have hl:(eQ ρ vs).length=n:=by rw[fS,bG,<-mq];exact ft hn
      refine UJ tJ I.vars i hi off (eQ ρ vs) f1 hl f2 (by rw[fS,fS,bG,bG];exact e2) (L':=mn ρ (yH s.L id nA)) (by rw[<-e1];exact dR nA) fun h1 fr1 V1=> ?_
      obtain⟨p1,p2⟩:=Mf (id:=id) I.wk I.zi (e3 o2 g1) (e4 o3 g2)
      obtain⟨y,y1,y2,y3⟩:=I.ext
      have I1:Inv {s with L:=yH s.L id nA,so:=(match Nat.blt id (j5 s.ρ)with|true=>id::s.so|false=>s.so),md:=id::s.md,d:=true} ρ h1:=by
       refine⟨V1,I.len,I.ext,?_,(fun e=>by cases e),?_,p1,p2⟩
       ·show Fr (In (yk ρ (match Nat.blt id (j5 s.ρ)with|true=>id::s.so|false=>s.so))) s.h h1
        cases hb:Nat.blt id (j5 s.ρ)with
        |true=>exact Fr.uU I.fr fr1
        |false=>
         have hge:s.ρ.length<=id:=by
          rw[<-nM]
          exact Nat.le_of_not_lt fun wc=>by rw[<-Nat.blt_eq]at wc;rw[hb]at wc;cases wc
         have Y4:=Qh (y:=y) hge (by rw[<-y1,I.len];exact o1)
         rw[<-y1]at Y4
         exact Fr.new I.fr (y3 _ Y4) fr1
       ·show∀i,i∈(match Nat.blt id (j5 s.ρ)with|true=>id::s.so|false=>s.so)->i<s.ρ.length
        intro j hj
        cases hb:Nat.blt id (j5 s.ρ)with
        |true=>
         rw[hb]at hj
         rcases aO.1 hj with rfl|hj
         ·rw[<-nM];exact gC.1 hb
         ·exact I.so j hj
        |false=>rw[hb]at hj;exact I.so j hj
      refine ke (x:= .v (.l .u)) I1 R ⟨aW _,⟨[id],rfl,fun j hj _=> ?_⟩,⟨[],by simp⟩⟩ rfl rfl trivial H
      show dQ (yH s.L id nA) j=_
      rw[DG hf]
      rw[aF]
      intro e
      subst e
      simp[gf]at hj
     ·exact H.elim
    ·exact H.elim
   ·exact H.elim
  ·exact H.elim
 ·rename_i z j sz off hx
  have hv:=(gY R hx).2.2
  have ha:gG A x= .pointer (some (loadT.TQ z j sz off)):=by rw[hv];cases off<;>rfl
  split at H
  ·rename_i y hw
   obtain⟨w1,w2,w3⟩:=kT R hw
   split at H
   ·rename_i hp tJ
    obtain⟨s',C,hE,hL,hm,lG,H⟩:=ka I H
    have R':Rel ρ s'.m s'.E A:=by rw[hE,hm];exact R
    split at H
    ·obtain⟨q1,q2,q3⟩:=H
     rw[C.h]at q1
     rw[C.h,C.r]at q2
     rw[ha,w3]
     refine PU (v:=y.v ρ) tJ q1 (wq hp) fun h1 e1=> ?_
     have q2':Vars h1 (mn ρ s'.L):=by rw[e1];exact q2
     have C':Cl {s' with h:=h1} ρ h1:=⟨q2',C.len,C.r,rfl,C.nw,C.so,C.d,C.wk,C.zi⟩
     exact ke (s':={s' with h:=h1}) (x:= .v (.l .u)) C'.inv R' (ij hm hL lG) rfl rfl trivial (q3 h1 (by rw[C.h,C.r];exact e1) (by rw[C.r];exact q2'))
    ·exact H.elim
   ·exact hr H
  ·exact hr H
 ·exact hr H
theorem Qj{s:St}{ρ:List Nat}{h h1:Heap}{A:bP}{cs:List Lf}{b:Nat}(I:Inv s ρ h)(R:Rel ρ s.m s.E A)(hb:h.size<=b)(f:Fr No h h1)(V:Vars h1 ((b,eQ ρ cs)::mn ρ s.L))(ho:cZ s.m cs=true)(hf:dP cs):
 Inv {s with L:=(s.m,cs)::s.L,m:=s.m+1,nw:=s.nw+1,d:=true} (ρ++[b]) h1/\Rel (ρ++[b]) (s.m+1) s.E A/\gh (ρ++[b]) s.m=b:=by
 have hl:gh (ρ++[b]) s.m=b:=by rw[<-I.len];exact u6 ρ b []
 obtain⟨y,y1,y2,y3⟩:=I.ext
 refine⟨⟨?_,by simp[I.len],⟨y++[b],by rw[y1];simp,by simp[y2],fun c hc=> ?_⟩,?_,(fun e=>by cases e),I.so,?_,⟨hf,I.zi⟩⟩,R.ext I.len (by omega),hl⟩
 ·show Vars h1 ((gh (ρ++[b]) s.m,eQ (ρ++[b]) cs)::mn (ρ++[b]) s.L)
  rw[hl,jK (by rw[I.len];exact ho),zh (by rw[I.len];exact I.wk)]
  exact V
 ·rcases gI.1 hc with hc|hc
  ·exact y3 c hc
  ·simp only[aO,aR,aN]at hc
   subst hc
   exact dD I.fr.size hb
 ·show Fr (In (yk (ρ++[b]) s.so)) s.h h1
  rw[DB fun i hi=>by have:=I.so i hi;rw[y1,cB];omega]
  exact Fr.no' I.fr f
 ·simp[uK,ET (Nat.le_succ _) ho,UT (Nat.le_succ _) I.wk]
theorem EV(ρ:List Nat):∀vs:List Value,eQ ρ (Aj vs)=vs/\(∀m,cZ m (Aj vs)=true)/\dP (Aj vs)
 |[]=>⟨rfl,fun _=>rfl,trivial⟩
 |v::vs=>by
  obtain⟨h1,h2,h3⟩:=EV ρ vs
  exact⟨by simp only[Aj,eQ];rw[Qg,h1],fun m=>by simp[Aj,cZ,Me,h2 m],DF v,h3⟩
theorem ue{m id:Nat}{cs:List Lf}{L:List (Nat×List Lf)}(h:id<m):dQ ((m,cs)::L) id=dQ L id:=by
 have e:dQ ((m,cs)::L) id=match Nat.beq m id with|true=>some cs|false=>dQ L id:=rfl
 rw[e]
 cases hb:Nat.beq m id with
 |true=>have:=ft hb;omega
 |false=>rfl
theorem DH{s:St}{ρ:List Nat}{h h1:Heap}{A:bP}{cs:List Lf}{b:Nat}{k:St->Tv->Prop}(I:Inv s ρ h)(R:Rel ρ s.m s.E A)(hb:h.size<=b)(f:Fr No h h1)(V:Vars h1 ((b,eQ ρ cs)::mn ρ s.L))(ho:cZ s.m cs=true)(hf:dP cs)(H:YY s cs k):kb A s ρ k (VP b 0) h1:=by
 obtain⟨I1,R1,hl⟩:=Qj I R hb f V ho hf
 refine⟨_,.v (.l (.p s.m 0)),ρ++[b],I1,R1,?_,?_,trivial,⟨Nat.le_succ _,⟨[],rfl,fun id _ hid=>ue hid⟩,⟨[b],rfl⟩⟩,H⟩
 ·show VP b 0=VP (gh (ρ++[b]) s.m) 0
  rw[hl]
 ·exact gC.2 (pL _)
theorem EW{ρ:List Nat}{xs:List Lf}{o:Nat}{y:Lf}(h:nC xs o 1=some [y]):(eQ ρ xs).toArray[o]?=some (y.v ρ):=by
 obtain⟨e1,e2⟩:=wm (ρ:=ρ) h
 rw[pI]at e1
 have:=congrArg (·[0]?) e1
 simpa[eQ,List.getElem?_take,List.getElem?_drop]using this
theorem Qk{P:Program}{t:TypeId}{fs:Array Field}{i:Nat}{f:Field}{K:Value->Prop}{cs:Array Value}{v:Value}(h1:P.underlying t=some (.struct fs))(h2:fs[i]?=some f)(h3:jt P f.type=true)(h4:cs[f.offset]?=some v)(H:K v):pop P (Instr.field t (.agg cs) i) K:=
 .mk' (fun w=>by
  unfold Instr.field
  rw[aV (dE h1 w)]
  simp only[h2]
  rw[aV (show(asAgg (.agg cs)).run P w= .ok cs w from rfl)]
  unfold part
  rw[aV (Dp h3 w).1]
  simp only[h4,vX,gB]
  rfl) H
theorem Qm{P:Program}{t:TypeId}{fs:Array Field}{i:Nat}{f:Field}{n:Nat}{K:Value->Prop}{cs:Array Value}(h1:P.underlying t=some (.struct fs))(h2:fs[i]?=some f)(h3:tX P f.type=some n)(H:K (.agg (cs.extract f.offset (f.offset+n)))):pop P (Instr.field t (.agg cs) i) K:=
 .mk' (fun w=>by
  unfold Instr.field
  rw[aV (dE h1 w)]
  simp only[h2]
  rw[aV (show(asAgg (.agg cs)).run P w= .ok cs w from rfl)]
  unfold part
  rw[aV (sx h3 w).1]
  simp only[jJ]
  rw[aV (sx h3 w).2]
  rfl) H
theorem UX{ρ:List Nat}{xs ys:List Lf}{o n:Nat}(h:nC xs o n=some ys):(eQ ρ xs).toArray.extract o (o+n)=(eQ ρ ys).toArray:=by
 obtain⟨e1,e2⟩:=wm (ρ:=ρ) h
 rw[pI]at e1
 rw[<-e1]
 apply Array.ext'
 simp
def jL(P:Program):List Field->List (Nat×Nat)
 |[]=>[]
 |f::fs=>(f.offset,(nL P f.type).getD 0)::jL P fs
theorem yn(P:Program):∀(fs:List Field)(i:Nat),(jL P fs)[i]?=fs[i]?.map fun f=>(f.offset,(nL P f.type).getD 0)
 |[],i=>by simp[jL]
 |f::fs,0=>by simp[jL]
 |f::fs,i+1=>by simp only[jL,List.getElem?_cons_succ];exact yn P fs i
theorem run_places{P:Program}{w:World}:∀{fs:List Field},uZ P fs=true->(fs.mapM (fun f=>do pure (f.offset,<-sizeOf f.type):Field->Sem (Nat×Nat))).run P w= .ok (jL P fs) w
 |[],_=>rfl
 |f::fs,h=>by
  simp only[uZ,bD]at h
  cases hs:nL P f.type with
  |none=>rw[hs]at h;simp at h
  |some n=>
   rw[List.mapM_cons]
   have h1:((do pure (f.offset,<-sizeOf f.type):Sem (Nat×Nat))).run P w= .ok (f.offset,n) w:=by
    rw[aV (mU hs w)]
    rfl
   rw[aV h1,aV (run_places h.2)]
   simp only[jL,hs,Option.getD_some]
   rfl
theorem yp:∀(vs:List Value)(o i:Nat)(cs:Array Value),o+i+vs.length<=cs.size->((vs.zipIdx i).foldl (fun(cs:Array Value)(p:Value×Nat)=>cs.setIfInBounds (o+p.2) p.1) cs).toList=kP cs.toList (o+i) vs
 |[],o,i,cs,h=>by
  simp only[List.zipIdx_nil,List.foldl_nil]
  cases cs.toList<;>simp[kP]
 |v::vs,o,i,cs,h=>by
  simp only[List.length_cons]at h
  simp only[List.zipIdx_cons,List.foldl_cons]
  rw[yp vs o (i+1) _ (by simp;omega),Array.toList_setIfInBounds,oK _ _ _ (by simp;omega),oK _ _ _ (by simp;omega)]
  have e1:(cs.toList.set (o+i) v).take (o+(i+1))=cs.toList.take (o+i)++[v]:=by
   rw[show o+(i+1)=(o+i)+1 by omega,og (by simp;omega),List.take_set_of_le (aW _)]
   simp
  have e2:(cs.toList.set (o+i) v).drop (o+(i+1)+vs.length)=cs.toList.drop (o+i+(v::vs).length):=by
   rw[List.drop_set_of_lt (by omega)]
   congr 1
   simp;omega
  rw[e1,e2]
  simp
theorem Mg{P:Program}{fs:Array Field}{ρ:List Nat}{m:Nat}{E:List (Nat×Option Tv)}{A:bP}(R:Rel ρ m E A):∀{ps:List (Nat×Operand)}{cs nA:List Lf},HG P fs E cs ps=some nA->
 Instr.fill ((jL P fs.toList).toArray[·]?) (eQ ρ cs).toArray (ps.map fun p=>(p.1,gG A p.2))=some (eQ ρ nA).toArray/\(cZ m cs=true->cZ m nA=true)/\(dP cs->dP nA)
 |[],cs,nA,h=>by
  simp only[HG,dC]at h
  subst h
  exact⟨rfl,fun h=>h,fun h=>h⟩
 |(i,x)::ps,cs,nA,h=>by
  simp only[HG]at h
  split at h
  ·rename_i f w hf hw
   obtain⟨w1,w2,w3⟩:=kT R hw
   split at h
   ·rename_i vs n Pt tJ
    obtain⟨f1,f2⟩:=EU (ρ:=ρ) Pt
    obtain⟨g1,g2⟩:=Ar Pt w1 w2
    split at h
    ·rename_i hn
     split at h
     ·rename_i c2 PT
      obtain⟨e1,e2,e3,e4⟩:=sE (ρ:=ρ) (m:=m) PT
      obtain⟨i1,i2,i3⟩:=Mg R h
      have hl:(eQ ρ vs).length=n:=by rw[fS,bG,<-mq];exact ft hn
      have JY:(eQ ρ cs).length=cs.length:=by rw[fS,bG]
      have hvs:(eQ ρ vs).length=vs.length:=by rw[fS,bG]
      refine⟨?_,fun a=>i2 (e3 a g1),fun a=>i3 (e4 a g2)⟩
      rw[bK]
      unfold Instr.fill
      have hp:(jL P fs.toList).toArray[i]?=some (f.offset,n):=by
       rw[List.getElem?_toArray,yn]
       have:fs.toList[i]?=some f:=by simpa using hf
       rw[this,Option.map_some,tJ]
       rfl
      simp only[hp,w3,f1]
      have Qn:¬((decide ((eQ ρ vs).toArray.size≠n)||decide (f.offset+(eQ ρ vs).toArray.size>(eQ ρ cs).toArray.size))=true):=by
       simp only[List.size_toArray,Bool.or_eq_true,aT,not_or]
       omega
      rw[aF Qn]
      have aeT:((eQ ρ vs).toArray.zipIdx.foldl (fun(cs:Array Value)(p:Value×Nat)=>cs.setIfInBounds (f.offset+p.2) p.1) (eQ ρ cs).toArray)=(eQ ρ c2).toArray:=by
       apply Array.ext'
       rw[show((eQ ρ vs).toArray.zipIdx)=((eQ ρ vs).zipIdx 0).toArray by simp,List.foldl_toArray]
       rw[yp _ f.offset 0 _ (by simp;omega),e1,Nat.add_zero]
      exact(congrArg (fun z=>Instr.fill ((jL P fs.toList).toArray[·]?) z (ps.map fun p=>(p.1,gG A p.2))) aeT).trans i1
     ·cases h
    ·cases h
   ·cases h
  ·cases h
theorem NX{P:Program}{t:TypeId}{fs:Array Field}{z:Value}{K:Value->Prop}{ps:List (Nat×Value)}{cs:Array Value}(h1:P.underlying t=some (.struct fs))(h2:qN P t=some z)(h3:uZ P fs.toList=true)(h4:Instr.fill ((jL P fs.toList).toArray[·]?) z.cells ps=some cs)(H:K (.agg cs)):pop P (Instr.build t ps.toArray) K:=
 .mk' (fun w=>by
  unfold Instr.build
  have hz:(zeroValue t).run P w= .ok z w:=by
   unfold qN at h2
   cases hi:P.info? t with
   |none=>rw[hi]at h2;simp at h2
   |some i=>
    rw[hi]at h2
    simp only[Option.bind_some]at h2
    unfold zeroValue
    rw[aV (fA hi w)]
    simp[h2,pure,Sem.run]
  rw[aV hz,aV (dE h1 w)]
  simp only
  have hm:(fs.mapM (fun f=>do pure (f.offset,<-sizeOf f.type):Field->Sem (Nat×Nat))).run P w= .ok (jL P fs.toList).toArray w:=by
   rw[Array.mapM_eq_mapM_toList]
   show((List.toArray<$>(fs.toList.mapM (fun f=>do pure (f.offset,<-sizeOf f.type):Field->Sem (Nat×Nat))):Sem (Array (Nat×Nat)))).run P w=_
   rw[map_eq_pure_bind,aV (run_places h3)]
   rfl
  rw[aV hm]
  simp only[h4]
  rfl) H
theorem _root_.Array.nO{α:Type}{a:Array α}{x:α}(h:a.toList=[x]):a= #[x]:=by
 cases a with
 |mk l=>simp only at h;subst h;rfl
theorem Y5{P:Program}{s:St}{o:BinOp}{kd:IntKind}{a b:Int}{YW:Bool}{t:TypeId}{x y:Operand}{K:Lf->Prop}{raw:Prop}{G:Value->Prop}(gi:∀z,K (.i kd z)->G (.int kd z))(gb:∀z,K (.b z none)->G (.bool z))(hc:YW=true->b≠0)(H:YV P s o kd a b YW K raw)(hr:raw->pop P (od o t x y (.int kd a) (.int kd b)) G):pop P (od o t x y (.int kd a) (.int kd b)) G:=by
 cases o<;>simp only[YV]at H
 case add=>exact Uq (t:=t) kd a b (gi _ H)
 case sub=>exact Ur (t:=t) kd a b (gi _ H)
 case mul=>exact Us (t:=t) kd a b (gi _ H)
 case quo=>
  cases YW with
  |true=>exact L2 (t:=t) kd a b (hc rfl) (gi _ H)
  |false=>exact L2 (t:=t) kd a b H.1 (gi _ H.2)
 case rem=>
  cases YW with
  |true=>exact L3 (t:=t) kd a b (hc rfl) (gi _ H)
  |false=>exact L3 (t:=t) kd a b H.1 (gi _ H.2)
 case lss=>exact Ut (t:=t) kd a b (gb _ H)
 case leq=>exact Uu (t:=t) kd a b (gb _ H)
 case gtr=>exact Uv (t:=t) kd a b (gb _ H)
 case geq=>exact Uw (t:=t) kd a b (gb _ H)
 case eql=>exact Ux (t:=t) kd x y a b (gb _ H)
 case neq=>exact Uy (t:=t) kd x y a b (gb _ H)
 all_goals exact hr H
theorem Qo{y:Operand}{k:IntKind}{b:Int}{A:bP}(h:P7 y=true)(e:gG A y= .int k b):b≠0:=by
 unfold P7 at h
 split at h
 ·simp only[gG,Value.int.injEq]at e
  obtain⟨_,rfl⟩:=e
  intro h0
  cases h0
 ·simp only[gG,Value.int.injEq]at e
  obtain⟨_,rfl⟩:=e
  intro h0
  cases h0
 ·cases h
theorem Y6{P:Program}{A:bP}{s:St}{ρ:List Nat}{h:Heap}{o:BinOp}{t:TypeId}{x y:Operand}{k:St->Tv->Prop}{raw:Prop}(I:Inv s ρ h)(R:Rel ρ s.m s.E A)(H:YX P s o t y (lf s.E x) (lf s.E y) (P8 s k) raw)
 (hr:raw->pop P (od o t x y (gG A x) (gG A y)) fun v=>kb A s ρ k v h):pop P (od o t x y (gG A x) (gG A y)) fun v=>kb A s ρ k v h:=by
 have gi:∀kd z,P8 s k (.i kd z)->kb A s ρ k (.int kd z) h:=fun kd z h3=>bZ (x:= .v (.l (.i kd z))) I R rfl rfl trivial h3
 have gb:∀z,P8 s k (.b z none)->kb A s ρ k (.bool z) h:=fun z h3=>bZ (x:= .v (.l (.b z none))) I R rfl rfl trivial h3
 have gs:∀z,P8 s k (.s z)->kb A s ρ k (.string z) h:=fun z h3=>bZ (x:= .v (.l (.s z))) I R rfl rfl trivial h3
 unfold YX at H
 split at H
 ·rename_i kd a kd' b hx hy
  split at H
  ·rename_i hk
   obtain rfl:=qX hk
   have e1:=(gY R hx).2.2
   have e2:=(gY R hy).2.2
   rw[e1,e2]at hr⊢
   exact Y5 (gi _) gb (fun hc=>Qo hc e2) H hr
  ·exact hr H
 ·rename_i a _ b _ hx hy
  have e1:=(gY R hx).2.2
  have e2:=(gY R hy).2.2
  split at H
  ·rename_i ht
   split at H
   ·rw[e1,e2]
    exact Uz ht x y a b (gb _ H)
   ·rw[e1,e2]
    exact UA ht x y a b (gb _ H)
   ·exact hr H
  ·exact hr H
 ·rename_i a b hx hy
  have e1:=(gY R hx).2.2
  have e2:=(gY R hy).2.2
  split at H
  ·rw[e1,e2]
   exact PR (t:=t) a b H.1 (gs _ H.2)
  ·rw[e1,e2]
   exact UF x y a b (gb _ H)
  ·rw[e1,e2]
   exact UG x y a b (gb _ H)
  ·exact hr H
 ·exact hr H
theorem Ko{ρ:List Nat}{m:Nat}{E:List (Nat×Option Tv)}{A:bP}(R:Rel ρ m E A):∀{l:List Operand}{cs:List Cp},Dy E l=some cs->pw (gG A) l=HB ρ cs/\qi m cs=true
 |[],cs,h=>by
  simp only[Dy,dC]at h
  subst h
  exact⟨rfl,rfl⟩
 |x::l,cs,h=>by
  simp only[Dy]at h
  split at h
  ·rename_i c nA hc JY
   have h:=bI h
   subst h
   obtain⟨i1,i2⟩:=Ko R JY
   have key:gG A x=c.v' ρ/\P5 m c=true:=by
    unfold aeO at hc
    split at hc
    all_goals first
     |(rename_i hx
       have h:=bI hc
       subst h
       obtain⟨a1,a2,a3⟩:=kT R hx
       exact⟨a3,a1⟩)
     |(rename_i hx
       have h:=bI hc
       subst h
       obtain⟨a1,a2,a3⟩:=kT R hx
       exact⟨a3,rfl⟩)
     |cases hc
   exact⟨by simp only[pw,HB];rw[key.1,i1],by simp[qi,key.2,i2]⟩
  ·cases h
theorem Mh{ρ:List Nat}{m:Nat}:∀{xs:List Av}{i:Nat}{y:Av},NW xs i=some y->(X1 ρ xs).toArray[i]?=some (y.v ρ)/\(qj m xs=true->y.ok m=true)/\(ze xs->y.fact)
 |[],i,y,h=>by simp[NW]at h
 |x::xs,0,y,h=>by
  simp only[NW,dC]at h
  subst h
  exact⟨by simp[X1],fun a=>by simp only[qj,bD]at a;exact a.1,fun a=>a.1⟩
 |x::xs,i+1,y,h=>by
  simp only[NW]at h
  obtain⟨h1,h2,h3⟩:=Mh (ρ:=ρ) (m:=m) h
  exact⟨by simpa[X1]using h1,fun a=>by simp only[qj,bD]at a;exact h2 a.2,fun a=>h3 a.2⟩
theorem Qq{P:Program}{A:bP}{s:St}{ρ:List Nat}{h:Heap}{x:Operand}{v:Option Addr}{e:TypeId}{k:St->Tv->Prop}(I:Inv s ρ h)(R:Rel ρ s.m s.E A)(hx:gG A x= .pointer v)(H:HH P s x v e k):pop P (PJ (gG A x)) fun v=>kb A s ρ k v h:=by
 unfold HH at H
 obtain⟨s',C,hE,hL,hm,lG,b,H⟩:=ka I H
 have R':Rel ρ s'.m s'.E A:=by rw[hE,hm];exact R
 obtain⟨ys,⟨hv,hV,hk⟩,y1,y2⟩:=qW H
 rw[C.r,C.h]at hV
 rw[hx,hv]
 have hl:gh (ρ++[b]) s'.m=b:=by rw[<-C.len];exact u6 ρ b []
 have Rx:=R'.ext (y:=[b]) (n:=s'.m+1) C.len (by omega)
 refine zc _ ⟨_,.v (.l (.p s'.m 0)),ρ++[b],((⟨?_,by simp[C.len],by rw[C.r],C.h,C.nw,C.so,C.d,?_,⟨y2,C.zi⟩⟩:Cl {s' with E:=HH.YZ s'.E x s'.m,L:=(s'.m,ys)::s'.L,ρ:=s'.ρ++[b],m:=s'.m+1} (ρ++[b]) h)).inv,?_,?_,?_,trivial,(ij hm hL lG).trans ⟨Nat.le_succ _,⟨[],rfl,fun id _ hid=>ue hid⟩,⟨[b],rfl⟩⟩,hk⟩
 ·show Vars h ((gh (ρ++[b]) s'.m,eQ (ρ++[b]) ys)::mn (ρ++[b]) s'.L)
  rw[hl,jK (y1 _),zh (by rw[C.len];exact C.wk)]
  exact hV
 ·simp[uK,y1,UT (Nat.le_succ _) C.wk]
 ·show Rel (ρ++[b]) (s'.m+1) (HH.YZ s'.E x s'.m) A
  cases x with
  |tmp t=>
   refine⟨fun t' z hz=> ?_⟩
   have hz:(match Nat.beq t t' with|true=>some (.v (.l (.p s'.m 0)))|false=>sY s'.E t')=some z:=hz
   cases hb:Nat.beq t t' with
   |true=>
    rw[hb]at hz
    have hz:=bI hz
    subst hz
    have:=ft hb
    subst this
    refine⟨gC.2 (pL _),trivial,?_⟩
    show oe A t=VP (gh (ρ++[b]) s'.m) 0
    rw[hl]
    rw[hv]at hx
    exact hx
   |false=>rw[hb]at hz;exact Rx.get t' z hz
  |const c=>exact Rx
  |global g=>exact Rx
  |func f=>exact Rx
 ·show VP b 0=VP (gh (ρ++[b]) s'.m) 0
  rw[hl]
 ·exact gC.2 (pL _)
theorem vc{P:Program}{A:bP}{s:St}{ρ:List Nat}{h:Heap}{op:Op}{ty:TypeId}{k:St->Tv->Prop}(I:Inv s ρ h)(R:Rel ρ s.m s.E A)(H:HI P s op ty k):gM P (gG A) op ty h (kb A s ρ k):=by
 unfold HI at H
 split at H
 ·--move
  rename_i x
  split at H
  ·rename_i y hy
   obtain⟨h1,h2,h3⟩:=kT R hy
   exact bZ I R h3 h1 h2 H
  ·exact H.elim
 ·rename_i x
  split at H
  ·rename_i y hy
   obtain⟨h1,h2,h3⟩:=kT R hy
   exact bZ I R h3 h1 h2 H
  ·exact H.elim
 ·--call
  exact UU I R H
 ·--len
  rename_i args ats
  split at H
  ·rename_i x t hx ht
   split at H
   ·rename_i z e hz hu
    have e1:=(gY R hz).2.2
    refine dU (q:=Builtin.len_ ats ty (pw (gG A) args.toList).toArray) rfl rfl rfl ?_
    rw[hx,Array.nO ht]
    simp only[pw,e1]
    exact UE z ty e hu (bZ (x:= .v (.l (.i .i64 (z.n:Int)))) I R rfl rfl trivial H)
   ·rename_i z hz hu
    have e1:=(gY R hz).2.2
    refine dU (q:=Builtin.len_ ats ty (pw (gG A) args.toList).toArray) rfl rfl rfl ?_
    rw[hx,Array.nO ht]
    simp only[pw,e1]
    exact PQ z ty hu (bZ (x:= .v (.l (.i .i64 (z.size:Int)))) I R rfl rfl trivial H)
   ·exact kf I R H
  ·exact kf I R H
 ·--binOp
  rename_i o t x y _
  have hr:∀q,(gM P (gG A) (.binOp o t x y q) ty h (kb A s ρ k)↔pop P (od o t x y (gG A x) (gG A y)) fun v=>kb A s ρ k v h):=fun q=>Iff.rfl
  rw[hr]
  exact Y6 I R H fun Qs=>(hr _).1 (kf I R Qs)
 ·--unOp
  rename_i o t x
  split at H
  ·rename_i z kn hz
   obtain⟨f1,f2,e1⟩:=gY R hz
   refine dU (q:=Op.unary .not (gG A x)) rfl rfl rfl ?_
   rw[e1]
   refine UB z (bZ (x:= .v (.l (.b (!z) (UP kn)))) I R rfl rfl ?_ H)
   show Lf.fact (.b (!z) (UP kn))
   unfold UP
   split
   ·rename_i v
    have:z=v:=f2
    subst this
    rfl
   ·trivial
  ·rename_i kd z hz
   have e1:=(gY R hz).2.2
   refine dU (q:=Op.unary .neg (gG A x)) rfl rfl rfl ?_
   rw[e1]
   exact UC kd z (bZ (x:= .v (.l (.i kd (kd.wrap (0-z))))) I R rfl rfl trivial H)
  ·exact kf I R H
 ·--pick
  rename_i c a b
  split at H
  ·rename_i z kn hz
   have e1:=(gY R hz).2.2
   obtain⟨b1,b2⟩:=Ap I R hz H
   refine dU (q:=LZ (gG A c) (gG A a) (gG A b)) rfl rfl rfl ?_
   rw[e1]
   have fin:∀(s':St)(w:Operand),Inv s' ρ h->Rel ρ s'.m s'.E A->s'.m=s.m->s'.L=s.L->s'.md=s.md->(match Ak s.E w with|some y=>k s' y|none=>False)->kb A s ρ k (gG A w) h:=fun s' w I' R' hm hL lG hq=>by
    split at hq
    ·rename_i y hy
     obtain⟨g1,g2,g3⟩:=kT R hy
     exact ke I' R' (ij hm hL lG) g3 (by rw[hm];exact g1) g2 hq
    ·exact hq.elim
   refine NR (fun e=> ?_) (fun e=> ?_)
   ·obtain⟨s',I',R',hm,hL,lG,hq⟩:=b1 e
    exact fin s' a I' R' hm hL lG hq
   ·obtain⟨s',I',R',hm,hL,lG,hq⟩:=b2 e
    exact fin s' b I' R' hm hL lG hq
  ·exact kf I R H
 ·--nilCheck
  rename_i x
  split at H
  ·rename_i id off hz
   obtain⟨g1,g2,e1⟩:=gY R hz
   refine dU (q:=PJ (gG A x)) rfl rfl rfl ?_
   rw[e1]
   exact zc _ (bZ (x:= .v (.l (.p id off))) I R rfl g1 trivial H)
  ·rename_i z i sz off hz
   obtain⟨g1,g2,e1⟩:=gY R hz
   refine dU (q:=PJ (gG A x)) rfl rfl rfl ?_
   rw[e1]
   cases off with
   |none=>exact zc _ (bZ (x:= .v (.l (.e z i sz none))) I R rfl g1 trivial H)
   |some o=>exact zc _ (bZ (x:= .v (.l (.e z i sz (some o)))) I R rfl g1 trivial H)
  ·rename_i v e hz
   obtain⟨g1,g2,e1⟩:=gY R hz
   refine dU (q:=PJ (gG A x)) rfl rfl rfl ?_
   exact Qq I R (by rw[e1];rfl) H
  ·exact kf I R H
 ·--makeFunc
  rename_i fn first cap
  split at H
  ·rename_i fs cs h1 h2
   obtain⟨a1,a2⟩:=Ko R h1
   obtain⟨b1,b2⟩:=Ko R h2
   refine dU (q:=Instr.makeFunc fn (pw (gG A) first.toList).toArray (pw (gG A) cap.toList).toArray) rfl rfl rfl ?_
   rw[a1,b1]
   exact PS fn _ _ (bZ (x:= .v (.l (.f fn fs cs))) I R rfl (by show(qi _ fs&&qi _ cs)=true;rw[a2,b2];rfl) trivial H)
  ·exact H.elim
 ·--fieldAddr
  rename_i t x i
  split at H
  ·rename_i id off o hz ho
   obtain⟨g1,g2,e1⟩:=gY R hz
   refine dU (q:=Instr.fieldAt t (gG A x) i) rfl rfl rfl ?_
   rw[e1]
   exact NO i ho _ _ (bZ (x:= .v (.l (.p id (off+o)))) I R rfl g1 trivial H)
  ·rename_i z j sz o hz ho
   obtain⟨g1,g2,e1⟩:=gY R hz
   refine dU (q:=Instr.fieldAt t (gG A x) i) rfl rfl rfl ?_
   rw[e1]
   exact Kg i ho _ (bZ (x:= .v (.l (.e z j sz (some o)))) I R rfl rfl trivial H)
  ·exact kf I R H
 ·--indexAddr
  rename_i t x ix
  split at H
  ·rename_i z kd j e hz hj hu
   have e1:=(gY R hz).2.2
   have e2:=(gY R hj).2.2
   split at H
   ·rename_i sz tJ
    refine dU (q:=Instr.indexAt t (gG A x) (gG A ix)) rfl rfl rfl ?_
    rw[e1,e2]
    exact NQ hu tJ kd z j H.1 (bZ (x:= .v (.l (.e z j sz none))) I R rfl rfl trivial H.2)
   ·exact H.elim
  ·exact kf I R H
 ·--extract
  rename_i t ix
  split at H
  ·rename_i xs hx
   obtain⟨g1,g2,g3⟩:=kT R hx
   split at H
   ·rename_i y hy
    obtain⟨a1,a2,a3⟩:=Mh (ρ:=ρ) (m:=s.m) hy
    refine dU (q:=Instr.extract (gG A t) ix) rfl rfl rfl ?_
    rw[g3]
    exact UD a1 (bZ (x:= .v y) I R rfl (a2 g1) (a3 g2) H)
   ·exact H.elim
  ·exact kf I R H
 ·--field
  rename_i t x i
  split at H
  ·rename_i xs fs hx hu
   obtain⟨g1,g2,g3⟩:=kT R hx
   split at H
   ·rename_i f hf
    refine dU (q:=Instr.field t (gG A x) i) rfl rfl rfl ?_
    rw[g3]
    split at H
    ·rename_i h1
     split at H
     ·rename_i y hy
      obtain⟨c1,c2⟩:=sD hy g1 g2
      exact Qk hu hf h1 (EW hy) (bZ (x:= .v (.l y)) I R rfl (dW.1 c1 y (by simp)) (dA.1 c2 y (by simp)) H)
     ·exact H.elim
    ·split at H
     ·rename_i n h2
      split at H
      ·rename_i ys hy
       obtain⟨c1,c2⟩:=sD hy g1 g2
       exact Qm hu hf h2 (bZ (x:= .v (.a ys)) I R (by rw[UX hy];rfl) c1 c2 H)
      ·exact H.elim
     ·exact H.elim
   ·exact H.elim
  ·exact kf I R H
 ·--build
  rename_i t parts
  split at H
  ·rename_i fs zs hu hz
   split at H
   ·rename_i cs hs Pt
    unfold L9 at hz
    split at hz
    ·rename_i z hz0
     have hz:=bI hz
     obtain⟨o1,o2,o3⟩:=EV ρ z.cells.toList
     rw[hz]at o1 o2 o3
     obtain⟨f1,f2,f3⟩:=Mg R Pt
     rw[o1]at f1
     refine dU (q:=Instr.build t (parts.toList.map fun p=>(p.1,gG A p.2)).toArray) rfl rfl rfl ?_
     exact NX hu hz0 hs f1 (bZ (x:= .v (.a cs)) I R rfl (f2 (o2 _)) (f3 o3) H)
    ·cases hz
   ·exact H.elim
  ·exact kf I R H
 ·--load
  rename_i t x
  have hr:(gM P (gG A) (.load t x) ty h (kb A s ρ k)↔CI P (Instr.loadAt t (gG A x)) h fun v=>kb A s ρ k v h):=Iff.rfl
  rw[hr]
  exact UW I R H fun Qs=>hr.1 (kf I R Qs)
 ·--store
  rename_i t x v
  have hr:(gM P (gG A) (.store t x v) ty h (kb A s ρ k)↔Hc P (Instr.storeAt t (gG A x) (gG A v)) h (kb A s ρ k)):=Iff.rfl
  rw[hr]
  exact Qi I R H fun Qs=>hr.1 (kf I R Qs)
 ·--box
  rename_i t v
  split at H
  ·rename_i y hy
   obtain⟨g1,g2,g3⟩:=kT R hy
   split at H
   ·rename_i cs Pt
    obtain⟨f1,f2⟩:=EU (ρ:=ρ) Pt
    obtain⟨o1,o2⟩:=Ar Pt g1 g2
    show lQ P (Instr.box t (gG A v)) h _
    rw[g3]
    exact UI t _ f1 I.vars fun b h1 hb f V=>DH I R hb f V o1 o2 H
   ·exact H.elim
  ·exact H.elim
 ·--alloc
  rename_i t
  split at H
  ·rename_i cs hz
   unfold L9 at hz
   split at hz
   ·rename_i z hz0
    have hz:=bI hz
    obtain⟨o1,o2,o3⟩:=EV ρ z.cells.toList
    rw[hz]at o1 o2 o3
    show lQ P (Instr.alloc t true (.tuple #[])) h _
    exact NP t hz0 (cs:=eQ ρ cs) (by rw[o1]) I.vars fun b h1 hb f V=>DH I R hb f V (o2 _) o3 H
   ·cases hz
  ·exact H.elim
 all_goals exact kf I R H
theorem pM{P:Program}{ops:List Oper}{A:bP}{h:Heap}{o:Oper}{k k':aL}(H:nK P ops A h o k)(hk:∀v h,k v h->k' v h):nK P ops A h o k':=by
 unfold nK at*
 cases hg:o.guard with
 |none=>rw[hg]at H;simp only[mT]at H⊢;exact kN hk H
 |some p=>
  obtain⟨j,want⟩:=p
  rw[hg]at H
  obtain⟨b,hb,h1,h2⟩:=H
  exact⟨b,hb,fun e=>by have:=h1 e;rw[mT]at this⊢;exact kN hk this,fun e=>hk _ _ (h2 e)⟩
theorem HW{P:Program}{ops:List Oper}{A:bP}{h:Heap}{o:Oper}{k:aL}(hq:(xZ o.op||CD o.op)=true)(H:nK P ops A h o k):nK P ops A h o fun v h'=>h'=h/\PK P ops A h o v/\k v h':=by
 unfold nK at*
 cases hg:o.guard with
 |none=>
  rw[hg]at H
  simp only[mT]at H⊢
  obtain⟨v,h1,h2⟩:=(iV hq).1 H
  exact(iV hq).2 ⟨v,h1,rfl,by unfold PK;rw[hg];exact h1,h2⟩
 |some p=>
  obtain⟨j,want⟩:=p
  rw[hg]at H
  obtain⟨b,hb,h1,h2⟩:=H
  refine⟨b,hb,fun e=> ?_,fun e=>⟨rfl,by unfold PK;rw[hg];exact⟨b,hb,fun e'=>absurd e' e,fun _=>rfl⟩,h2 e⟩⟩
  have h1:=h1 e
  rw[mT]at h1⊢
  obtain⟨v,h3,h4⟩:=(iV hq).1 h1
  exact(iV hq).2 ⟨v,h3,rfl,by unfold PK;rw[hg];exact⟨b,hb,fun _=>h3,fun e'=>absurd e e'⟩,h4⟩
theorem zk{A:bP}{s s1:St}{ρ:List Nat}{k:St->Tv->Prop}{v:Value}{h:Heap}(hm:s1.m=s.m)(hL:s1.L=s.L)(lG:s1.md=s.md)(H:kb A s1 ρ k v h):kb A s ρ k v h:=by
 obtain⟨s',x,kG,a1,a2,a3,a4,a5,a6,a7⟩:=H
 exact⟨s',x,kG,a1,a2,a3,a4,a5,(ij hm hL lG).trans a6,a7⟩
theorem At{P:Program}{ops:List Oper}{A:bP}{s:St}{ρ:List Nat}{h:Heap}{o:Oper}{k:St->Tv->Prop}(I:Inv s ρ h)(R:Rel ρ s.m s.E A)(H:HJ P ops s o k):nK P ops A h o (kb A s ρ k):=by
 unfold HJ at H
 unfold nK
 cases hg:o.guard with
 |none=>rw[hg]at H;simp only[mT];exact vc I R H
 |some p=>
  obtain⟨j,want⟩:=p
  rw[hg]at H
  simp only at H⊢
  have skip:k s (.v (.l .u))->kK ops A j=undef->J5 (ND (kK ops A j) want) want (zW P A o.op o.type h) h (kb A s ρ k):=fun hk hu=>by
   rw[hu]
   exact⟨!want,rfl,fun e=>absurd e (by cases want<;>decide),fun _=>bZ (x:= .v (.l .u)) I R rfl rfl trivial hk⟩
  cases ht:zK ops j with
  |none=>
   rw[ht]at H
   exact skip H (by unfold kK;rw[ht])
  |some t=>
   rw[ht]at H
   simp only at H
   split at H
   ·rename_i x kn hx
    have hlf:lf s.E (.tmp t)=some (.b x kn):=by unfold lf Ak;simp only[hx]
    have hv:kK ops A j= .bool x:=by unfold kK;rw[ht];exact(R.get t _ hx).2.2
    obtain⟨b1,b2⟩:=Ap I R hlf H
    rw[hv]
    refine⟨x,rfl,fun e=> ?_,fun e=> ?_⟩
    ·rw[mT]
     cases want with
     |true=>
      obtain⟨s',I',R',hm,hL,lG,hq⟩:=b1 e
      exact kN (fun v h=>zk hm hL lG) (vc I' R' hq)
     |false=>
      obtain⟨s',I',R',hm,hL,lG,hq⟩:=b2 e
      exact kN (fun v h=>zk hm hL lG) (vc I' R' hq)
    ·cases want with
     |true=>
      obtain⟨s',I',R',hm,hL,lG,hq⟩:=b2 (by simpa using e)
      exact zk hm hL lG (bZ (x:= .v (.l .u)) I' R' rfl rfl trivial hq)
     |false=>
      obtain⟨s',I',R',hm,hL,lG,hq⟩:=b1 (by simpa using e)
      exact zk hm hL lG (bZ (x:= .v (.l .u)) I' R' rfl rfl trivial hq)
   ·rename_i hx
    exact skip H (by unfold kK;rw[ht];exact(R.get t _ hx).2.2)
   ·exact H.elim
def To(s0:St)(vU:List Nat)(K:St->Prop)(K':bP->Heap->Prop):Prop:=∀s ρ A h,Inv s ρ h->Rel ρ s.m s.E A->Nx s0 vU s ρ->K s->K' A h
theorem vd{n:Nat}{s:St}{ρ:List Nat}{h:Heap}{A:bP}{dst:Option Tmp}{x:Tv}{v:Value}(I:Inv s ρ h)(R:Rel ρ s.m s.E A)(hv:v=x.val ρ)(ho:x.ok s.m=true)(hf:x.fact):
 Inv (yI n s dst x) ρ h/\Rel ρ (yI n s dst x).m (yI n s dst x).E (zV n A dst v)/\(yI n s dst x).m=s.m/\(yI n s dst x).L=s.L/\(yI n s dst x).md=s.md:=by
 unfold yI zV
 cases dst with
 |none=>exact⟨I,R,rfl,rfl,rfl⟩
 |some d=>
  simp only
  cases hb:Nat.blt d n with
  |false=>exact⟨I,R,rfl,rfl,rfl⟩
  |true=>
   refine⟨⟨I.vars,I.len,I.ext,I.fr,I.cln,I.so,I.wk,I.zi⟩,⟨fun t y hy=> ?_⟩,rfl,rfl,rfl⟩
   simp only[sY]at hy
   simp only[oe]
   cases hd:Nat.beq d t with
   |true=>
    rw[hd]at hy
    have hy:=bI hy
    subst hy
    exact⟨ho,hf,hv⟩
   |false=>rw[hd]at hy;exact R.get t y hy
theorem Qt{P:Program}{n:Nat}{ops:List Oper}{s0:St}{vU:List Nat}{K:St->Prop}{K':bP->Heap->Prop}(hK:To s0 vU K K'):∀{l:List Oper}{s:St}{ρ:List Nat}{A:bP}{h:Heap},Inv s ρ h->Rel ρ s.m s.E A->Nx s0 vU s ρ->tIn P n ops l s K->Dn P n ops l A h K'
 |[],s,ρ,A,h,I,R,N,H=>hK s ρ A h I R N H
 |o::os,s,ρ,A,h,I,R,N,H=>by
  simp only[tIn]at H
  simp only[Dn]
  refine pM (At I R H) fun v h' ⟨s',x,kG,a1,a2,a3,a4,a5,a6,a7⟩=> ?_
  rw[jA]
  obtain⟨b1,b2,b3,b4,b5⟩:=vd (n:=n) (dst:=o.dst) a1 a2 a3 a4 a5
  exact Qt hK b1 b2 ((N.trans a6).trans (ij b3 b4 b5)) a7
theorem wu(a b:List Nat):u5 b (a++b)=a:=by
 unfold u5
 rw[nM,nM,cB,Nat.add_sub_cancel]
 induction a with
 |nil=>rfl
 |cons x a ih=>simp only[List.length_cons,List.cons_append,u5.takeN];rw[ih]
def Qu(P:Program)(p:Heap->Prop)(t:Ht)(s:St)(ρ:List Nat):Prop:=
 match t with
 | .X5=>∀g,p g
 | .bad=>True
 | .au id off t ys=>∃sb UY,Nx sb UY s ρ/\id<sb.m/\dQ s.L id=dQ sb.L id/\∀s' kG g,Inv s' kG g->Nx sb UY s' kG->dQ s'.L id=dQ sb.L id->p g
 | .ce a v=>∀g,bF g a=some v->p g
 | .cs a vs=>∀g,pJ g a vs->p g
 | .se q v=>∀g,(∀w:World,w.heap=g->q.run P w= .ok v w)->p g
inductive J1(P:Program)(s:St)(ρ:List Nat):mg->List (Nat×Ht)->Prop where
 |nil:J1 P s ρ [] []
 |cons {i:Nat} {p:Heap->Prop} {t:Ht} {S:mg} {T:List (Nat×Ht)}:Qu P p t s ρ->J1 P s ρ S T->J1 P s ρ ((i,p)::S) ((i,t)::T)
theorem J1.keep{P:Program}{s:St}{ρ:List Nat}{bf:List Nat}:∀{S:mg}{T:List (Nat×Ht)},J1 P s ρ S T->J1 P s ρ (tF bf S) (Dz bf T)
 |_,_,.nil=> .nil
 |_,_,.cons (i:=i) h1 h2=>by
  simp only[tF,Dz]
  cases gf bf i with
  |true=>exact h2.keep
  |false=>exact .cons h1 h2.keep
theorem J1.step{P:Program}{s s':St}{ρ kG:List Nat}(N:Nx s ρ s' kG):∀{S:mg}{T:List (Nat×Ht)},J1 P s ρ S T->qU (u5 s.md s'.md) T=true->J1 P s' kG S T
 |_,_,.nil,_=> .nil
 |_,_,.cons (t:=t) h1 h2,ha=>by
  cases t with
  |au id off ty ys=>
   simp only[qU,bD,gV]at ha
   refine .cons ?_ (h2.step N ha.2)
   obtain⟨sb,UY,c1,c2,c3,c4⟩:=h1
   refine⟨sb,UY,c1.trans N,c2,?_,c4⟩
   obtain⟨new,d1,d2⟩:=N.md
   rw[d1,wu]at ha
   rw[d2 id ha.1 (by have:=c1.m;omega),c3]
  |X5=>exact .cons h1 (h2.step N ha)
  |bad=>exact .cons h1 (h2.step N ha)
  |ce a v=>exact .cons h1 (h2.step N ha)
  |cs a vs=>exact .cons h1 (h2.step N ha)
  |se q v=>exact .cons h1 (h2.step N ha)
theorem J1.tell{P:Program}{s:St}{ρ:List Nat}{g:Heap}{K:Prop}{K':Prop}(I:Inv s ρ g):∀{S:mg}{T:List (Nat×Ht)},J1 P s ρ S T->DA P g K T->(K->K')->PF g K' S
 |_,_,.nil,H,hk=>hk H
 |_,_,.cons (t:=t) h1 h2,H,hk=>by
  cases t with
  |X5=>exact⟨h1 g,h2.tell I H hk⟩
  |bad=>exact H.elim
  |au id off ty ys=>
   obtain⟨sb,UY,c1,c2,c3,c4⟩:=h1
   exact⟨c4 s ρ g I c1 c3,h2.tell I H hk⟩
  |ce a v=>exact⟨h1 g H.1,h2.tell I H.2 hk⟩
  |cs a vs=>exact⟨h1 g H.1,h2.tell I H.2 hk⟩
  |se q v=>exact⟨h1 g H.1,h2.tell I H.2 hk⟩
theorem Mi{P:Program}{s:St}{ρ:List Nat}{g:Heap}(I:Inv s ρ g){id off:Nat}{cs:List Lf}(hf:dQ s.L id=some cs){t:TypeId}(h1:jt P t=true){y:Lf}(hy:nC cs off 1=some [y]):∀w:World,w.heap=g->(Instr.loadAt t (VP (gh ρ id) off)).run P w= .ok (y.v ρ) w:=by
 obtain⟨i,hi,_⟩:=mJ (ρ:=ρ) hf
 have:=EW (ρ:=ρ) hy
 exact NS h1 I.vars i hi off (by simpa using this)
theorem HX{P:Program}{s:St}{ρ:List Nat}{g:Heap}(I:Inv s ρ g){id off n:Nat}{cs:List Lf}(hf:dQ s.L id=some cs){t:TypeId}(h1:tX P t=some n){ys:List Lf}(hy:nC cs off n=some ys):∀w:World,w.heap=g->(Instr.loadAt t (VP (gh ρ id) off)).run P w= .ok (.agg (eQ ρ ys).toArray) w:=by
 obtain⟨i,hi,_⟩:=mJ (ρ:=ρ) hf
 obtain⟨e1,e2⟩:=wm (ρ:=ρ) hy
 exact Ke h1 I.vars i hi off e1 e2
def wAt(h:Heap):World:={heap:=h,tape:=fun _ _=>0,drawn:=0,os:=default,output:= #[]}
theorem Kp{s:St}{ρ:List Nat}{h:Heap}(I:Inv s ρ h){x:Tv}(hx:x.ok (j5 s.ρ)=true):x.val ρ=x.val s.ρ:=by
 obtain⟨y,e,_,_⟩:=I.ext
 rw[e]
 exact ES (by rw[<-nM];exact hx)
theorem HZ{P:Program}{A:bP}{s:St}{ρ:List Nat}{h:Heap}{op:Op}{ty:TypeId}{x:Tv}{v:Value}(I:Inv s ρ h)(R:Rel ρ s.m s.E A)(hq:CD op=true)(hv:v=x.val ρ):Qu P (fun g=>Yx P (gG A) op ty g v) (u4.Ma P s op x) s ρ:=by
 unfold u4.Ma
 split
 ·rename_i q hd hx hr
  intro g hg
  simp only[CD,bD]at hq
  have h1:iU op=none:=by simpa using hq.1
  have h2:lA (gG A) ty op=none:=by
   have:=nI gO (gG A) 0 ty op
   have h3:(lA gO 0 op).isSome=false:=by simpa using hq.2.2.1
   rw[h3]at this
   cases hp:lA (gG A) ty op with
   |none=>rfl
   |some _=>rw[hp]at this;cases this
  have hc:qv (gG A) op=qv (GZ s.ρ s.E) op:=pC fun y hy=>nN I R hd y (by simpa using hy)
  unfold Yx
  simp only[h1,h2,hc,hr]
  rw[hv,Kp I hx]
  exact hg
 ·trivial
theorem H6{P:Program}{A:bP}{s:St}{ρ:List Nat}{h:Heap}{op:Op}{ty:TypeId}{x:Tv}{v:Value}(I:Inv s ρ h)(R:Rel ρ s.m s.E A)(hq:CD op=true)(hv:v=x.val ρ)(hy:Yx P (gG A) op ty h v):Qu P (fun g=>Yx P (gG A) op ty g v) (u4 P s op x) s ρ:=by
 unfold u4
 split
 ·rename_i t a
  split
  ·rename_i id off hz
   have hp:gG A a=VP (gh ρ id) off:=(gY R hz).2.2
   have hy:∀w:World,w.heap=h->(Instr.loadAt t (gG A a)).run P w= .ok v w:=hy
   rw[hp]at hy
   have aeV:∀g,(∀w:World,w.heap=g->(Instr.loadAt t (VP (gh ρ id) off)).run P w= .ok v w)->Yx P (gG A) (.load t a) ty g v:=fun g hg=>by
    show∀w:World,w.heap=g->(Instr.loadAt t (gG A a)).run P w= .ok v w
    rw[hp]
    exact hg
   split
   ·rename_i cs hf
    have hid:=(mV hf I.wk I.zi).1
    have JY:=(mV hf I.wk I.zi).2.1
    have later:∀s' kG g,Inv s' kG g->Nx s ρ s' kG->gh kG id=gh ρ id/\eQ kG cs=eQ ρ cs:=fun s' kG g I' N=>by
     obtain⟨y,hy⟩:=N.r
     rw[hy]
     exact⟨lF _ _ _ (by rw[I.len];exact hid),jK (by rw[I.len];exact JY)⟩
    split
    ·rename_i h1
     split
     ·rename_i y Kq
      have e0:=Mi I hf h1 Kq (wAt h) rfl
      rw[hy (wAt h) rfl]at e0
      have ev:v=y.v ρ:=by simpa using e0
      refine⟨s,ρ,Nx.refl _ _,hid,rfl,fun s' kG g I' N hf'=>aeV g fun w hw=> ?_⟩
      have e1:=Mi I' (hf'.trans hf) h1 Kq w hw
      obtain⟨l1,l2⟩:=later s' kG g I' N
      rw[l1]at e1
      rw[e1,ev]
      have yo:y.ok ρ.length=true:=by
       rw[I.len]
       exact dW.1 (sD Kq JY (mV hf I.wk I.zi).2.2).1 y (by simp)
      obtain⟨z,hz⟩:=N.r
      rw[hz,Km yo]
     ·trivial
    ·split
     ·rename_i n h2
      split
      ·rename_i ys Kq
       have e0:=HX I hf h2 Kq (wAt h) rfl
       rw[hy (wAt h) rfl]at e0
       have ev:v= .agg (eQ ρ ys).toArray:=by simpa using e0
       refine⟨s,ρ,Nx.refl _ _,hid,rfl,fun s' kG g I' N hf'=>aeV g fun w hw=> ?_⟩
       have e1:=HX I' (hf'.trans hf) h2 Kq w hw
       obtain⟨l1,l2⟩:=later s' kG g I' N
       rw[l1]at e1
       rw[e1,ev]
       have yo:cZ ρ.length ys=true:=by
        rw[I.len]
        exact(sD Kq JY (mV hf I.wk I.zi).2.2).1
       obtain⟨z,hz⟩:=N.r
       rw[hz,jK yo]
      ·trivial
     ·trivial
   ·trivial
  ·rename_i z i sz off hz
   have hv0:=(gY R hz).2.2
   have ha:gG A a= .pointer (some (loadT.TQ z i sz off)):=by rw[hv0];cases off<;>rfl
   split
   ·rename_i z' hx
    split
    ·rename_i h1
     intro g hg
     show∀w:World,w.heap=g->(Instr.loadAt t (gG A a)).run P w= .ok v w
     rw[ha,hv,Kp I hx]
     exact Dt h1 hg
    ·trivial
   ·rename_i zs hx
    split
    ·rename_i n h2
     split
     ·rename_i hn
      intro g hg
      show∀w:World,w.heap=g->(Instr.loadAt t (gG A a)).run P w= .ok v w
      rw[ha,hv,Kp I hx]
      exact Du h2 (eQ s.ρ zs) (by rw[fS,bG,<-mq];exact ft hn) hg
     ·trivial
    ·trivial
   ·trivial
  ·exact HZ I R hq hv
 ·exact HZ I R hq hv
theorem UZ{P:Program}{ops:List Oper}{A:bP}{s:St}{ρ:List Nat}{h:Heap}{o:Oper}{x:Tv}{v:Value}(I:Inv s ρ h)(R:Rel ρ s.m s.E A)(hq:CD o.op=true)(hv:v=x.val ρ)(hy:PK P ops A h o v):Qu P (fun g=>PK P ops A g o v) (Ki P ops s o x) s ρ:=by
 unfold Ki
 unfold PK at hy⊢
 cases hg:o.guard with
 |none=>rw[hg]at hy;exact H6 I R hq hv hy
 |some p=>
  obtain⟨j,want⟩:=p
  rw[hg]at hy
  simp only at hy⊢
  obtain⟨b,hb,h1,h2⟩:=hy
  have skip:b≠want->∀g,∃b:Bool,ND (kK ops A j) want= .bool b/\(b=want->Yx P (gG A) o.op o.type g v)/\(b≠want->v=undef):=fun fL g=>⟨b,hb,fun e=>absurd e fL,h2⟩
  have Qv:kK ops A j=undef->b≠want:=fun e=>by
   rw[e]at hb
   have:b= !want:=by
    have:ND undef want= .bool (!want):=rfl
    rw[this]at hb
    simpa using hb.symm
   rw[this]
   cases want<;>decide
  have yes:b=want->Qu P (fun g=>∃b:Bool,ND (kK ops A j) want= .bool b/\(b=want->Yx P (gG A) o.op o.type g v)/\(b≠want->v=undef)) (u4 P s o.op x) s ρ:=fun e=>by
   have:=H6 (x:=x) I R hq hv (h1 e)
   have up:∀g,Yx P (gG A) o.op o.type g v->∃b:Bool,ND (kK ops A j) want= .bool b/\(b=want->Yx P (gG A) o.op o.type g v)/\(b≠want->v=undef):=fun g hx=>⟨b,hb,fun _=>hx,h2⟩
   generalize u4 P s o.op x=t at this⊢
   cases t with
   |X5=>exact fun g=>up g (this g)
   |bad=>trivial
   |au id off t ys=>
    obtain⟨sb,UY,c1,c2,c3,c4⟩:=this
    exact⟨sb,UY,c1,c2,c3,fun s' kG g a b c=>up g (c4 s' kG g a b c)⟩
   |ce a u=>exact fun g hg=>up g (this g hg)
   |cs a us=>exact fun g hg=>up g (this g hg)
   |se q u=>exact fun g hg=>up g (this g hg)
  cases ht:zK ops j with
  |none=>exact skip (Qv (by unfold kK;rw[ht]))
  |some t=>
   simp only
   split
   ·rename_i z c l hx
    obtain⟨r1,r2,r3⟩:=R.get t _ hx
    have hz:z=c:=r2
    have hgv:kK ops A j= .bool z:=by unfold kK;rw[ht];exact r3
    have hbz:b=z:=by
     rw[hgv]at hb
     have:ND (.bool z) want= .bool z:=rfl
     rw[this]at hb
     simpa using hb.symm
    split
    ·exact yes (by rw[hbz,hz])
    ·exact yes (by rw[hbz,hz])
    ·rename_i n1 n2
     refine skip fun e=> ?_
     rw[hbz,hz]at e
     cases c<;>cases want<;>first|exact n1 rfl rfl|exact n2 rfl rfl|cases e
   ·rename_i hx
    exact skip (Qv (by unfold kK;rw[ht];exact(R.get t _ hx).2.2))
   ·trivial
theorem DI{f g:Nat->Oper->Prop}(hfg:∀i o,f i o->g i o):∀{l:List (Nat×Oper)},J7 f l->J7 g l
 |[],_=>trivial
 |[(i,o)],h=>hfg i o h
 |(i,o)::p::r,h=>⟨hfg i o h.1,DI hfg h.2⟩
theorem tK:∀{l:List (Nat×Oper)}{i:Nat}{o:Oper},eD l=some (i,o)->(xZ o.op||CD o.op)=true
 |[],_,_,h=>by simp[eD]at h
 |(j,o')::r,i,o,h=>by
  unfold eD at h
  cases hq:(xZ o'.op||CD o'.op)with
  |true=>
   rw[hq]at h
   simp only[dC,fH]at h
   obtain⟨rfl,rfl⟩:=h
   exact hq
  |false=>rw[hq]at h;exact tK h
theorem J1.eq{P:Program}{s s':St}{ρ:List Nat}(hm:s'.m=s.m)(hL:s'.L=s.L)(lG:s'.md=s.md):∀{S:mg}{T:List (Nat×Ht)},J1 P s ρ S T->J1 P s' ρ S T
 |_,_,.nil=> .nil
 |_,_,.cons (t:=t) h1 h2=>by
  cases t with
  |au id off ty ys=>
   obtain⟨sb,UY,c1,c2,c3,c4⟩:=h1
   exact .cons ⟨sb,UY,c1.trans (ij hm hL lG),c2,by rw[hL];exact c3,c4⟩ (h2.eq hm hL lG)
  |X5=>exact .cons h1 (h2.eq hm hL lG)
  |bad=>exact .cons h1 (h2.eq hm hL lG)
  |ce a v=>exact .cons h1 (h2.eq hm hL lG)
  |cs a vs=>exact .cons h1 (h2.eq hm hL lG)
  |se q v=>exact .cons h1 (h2.eq hm hL lG)
theorem qY{P:Program}{n:Nat}{ops:List Oper}{s0:St}{vU:List Nat}{K:St->Prop}{K':bP->Heap->Prop}(hK:To s0 vU K K'):∀{m:Nat}{l:List Bool}{s:St}{ρ:List Nat}{A:bP}{h:Heap}{S:mg}{T:List (Nat×Ht)},Inv s ρ h->Rel ρ s.m s.E A->Nx s0 vU s ρ->J1 P s ρ S T->yl P n ops K m l s T->lk P n ops K' m l A h S
 |0,l,s,ρ,A,h,S,T,I,R,N,G,H=>by
  simp only[yl]at H
  simp only[lk]
  cases hr:bW ops 0 l with
  |nil=>rw[hr]at H;exact hK s ρ A h I R N H
  |cons a b=>rw[hr]at H;exact H.elim
 |m+1,l,s,ρ,A,h,S,T,I,R,N,G,H=>by
  simp only[yl]at H
  simp only[lk]
  cases hq:eD (bW ops 0 l)with
  |some q=>
   obtain⟨i,o⟩:=q
   rw[hq]at H
   simp only at H⊢
   have hqu:=tK hq
   have st:=HW hqu (At I R H)
   rw[uQ]
   cases hp:xZ o.op with
   |true=>
    refine pM st fun v h' ⟨hh,hY,s',x,kG,a1,a2,a3,a4,a5,a6,a7⟩=> ?_
    rw[jA]
    obtain⟨b1,b2,b3,b4,b5⟩:=vd (n:=n) (dst:=o.dst) a1 a2 a3 a4 a5
    cases U0:qU (u5 s.md s'.md) T with
    |true=>
     simp only[U0,hp]at a7
     exact qY hK b1 b2 ((N.trans a6).trans (ij b3 b4 b5)) ((G.step a6 U0).eq b3 b4 b5) a7
    |false=>simp only[U0]at a7
   |false=>
    have hR:CD o.op=true:=by rw[hp,Bool.false_or]at hqu;exact hqu
    refine pM st fun v h' ⟨hh,hY,s',x,kG,a1,a2,a3,a4,a5,a6,a7⟩=> ?_
    rw[jA]
    obtain⟨b1,b2,b3,b4,b5⟩:=vd (n:=n) (dst:=o.dst) a1 a2 a3 a4 a5
    cases U0:qU (u5 s.md s'.md) T with
    |true=>
     simp only[U0,hp]at a7
     have aeW:=UZ (P:=P) (ops:=ops) (x:=x) a1 a2 hR a3 (by rw[hh];exact hY)
     exact qY hK b1 b2 ((N.trans a6).trans (ij b3 b4 b5)) ((J1.cons aeW (G.step a6 U0)).eq b3 b4 b5) a7
    |false=>simp only[U0]at a7
  |none=>
   rw[hq]at H
   simp only at H⊢
   cases hr:bW ops 0 l with
   |nil=>rw[hr]at H;exact hK s ρ A h I R N H
   |cons a b=>
    rw[hr]at H
    simp only at H⊢
    refine DI (fun i o H=> ?_) H
    rw[uQ]
    refine pM (At I R H) fun v h' ⟨s',x,kG,a1,a2,a3,a4,a5,a6,a7⟩=> ?_
    rw[jA]
    have G2:=G.keep (bf:=ya ops o)
    generalize Dz (ya ops o) T=T2 at G2 a7
    unfold nH
    generalize tF (ya ops o) S=S2 at G2⊢
    cases T2 with
    |nil=>
     cases G2
     obtain⟨b1,b2,b3,b4,b5⟩:=vd (n:=n) (dst:=o.dst) a1 a2 a3 a4 a5
     exact qY hK b1 b2 ((N.trans a6).trans (ij b3 b4 b5)) .nil a7
    |cons e T3=>
     simp only at a7
     split at a7
     ·rename_i U0
      obtain⟨s2,C,hE,hL,hm,lG,a8⟩:=ka a1 a7
      have R2:Rel kG s2.m s2.E A:=by rw[hE,hm];exact a2
      have N2:=ij (ρ:=kG) hm hL lG
      have G3:=(G2.step a6 U0).eq hm hL lG
      obtain⟨b1,b2,b3,b4,b5⟩:=vd (n:=n) (dst:=o.dst) C.inv R2 a3 (by rw[hm];exact a4) a5
      rw[C.h]at a8
      exact G3.tell C.inv a8 fun a9=>qY hK b1 b2 (((N.trans a6).trans N2).trans (ij b3 b4 b5)) (G3.eq b3 b4 b5) a9
     ·exact a7.elim
theorem Y7{P:Program}{n:Nat}{ops:List Oper}{draw:Bool}{s0:St}{vU:List Nat}{K:St->Prop}{K':bP->Heap->Prop}(hK:To s0 vU K K'){s:St}{ρ:List Nat}{A:bP}{h:Heap}(I:Inv s ρ h)(R:Rel ρ s.m s.E A)(N:Nx s0 vU s ρ)(H:Y0 P n ops draw s K):PL P n ops draw A h K':=by
 unfold Y0 at H
 unfold PL
 cases draw with
 |false=>exact Qt hK I R N H
 |true=>
  simp only at H⊢
  cases hp:gU ops ops 0 with
  |true=>rw[hp]at H;exact qY hK I R N .nil H
  |false=>rw[hp]at H;exact H.elim
def Qw:(sig:List Sh)->Ha sig->List Lf->(Heap->Prop)->Prop
 |[],J,[],J0=>J=J0
 | .i k::r,J,.i k' x::vs,J0=>k=k'/\Qw r (J x) vs J0
 | .b::r,J,.b x none::vs,J0=>Qw r (J x) vs J0
 | .s::r,J,.s x::vs,J0=>Qw r (J x) vs J0
 | .sl::r,J,.sl x::vs,J0=>Qw r (J x) vs J0
 | .r::r,J,.r x::vs,J0=>Qw r (J x) vs J0
 | .q e::r,J,.q x e'::vs,J0=>e=e'/\Qw r (J x) vs J0
 | .m::r,J,.m x::vs,J0=>Qw r (J x) vs J0
 | .n::r,J,.q (some ⟨b,0,none⟩) 0::vs,J0=>Qw r (J b) vs J0
 |_,_,_,_=>False
theorem Mj{x:Lf}{b:Nat}(h:Kj x=some b)(ρ:List Nat):x.v ρ=VP b 0:=by
 unfold Kj at h
 split at h
 ·have h:=bI h
  subst h
  rfl
 ·cases h
theorem mr:∀{sig:List Sh}{J:Ha sig}{Q:List Lf->(Heap->Prop)->Prop}{xs:List Lf}{J0:Heap->Prop},yJ sig J Q->Qw sig J xs J0->Q xs J0
 |[],J,Q,[],J0,h,ha=>by
  have ha:J=J0:=ha
  subst ha
  exact h
 | .i k::r,J,Q,.i k' x::xs,J0,h,ha=>by
   obtain⟨rfl,ha⟩:=ha
   exact mr (sig:=r) (J:=J x) (Q:=fun vs J'=>Q (.i k x::vs) J') (h x) ha
 | .b::r,J,Q,.b x none::xs,J0,h,ha=>mr (sig:=r) (J:=J x) (Q:=fun vs J'=>Q (.b x none::vs) J') (h x) ha
 | .s::r,J,Q,.s x::xs,J0,h,ha=>mr (sig:=r) (J:=J x) (Q:=fun vs J'=>Q (.s x::vs) J') (h x) ha
 | .sl::r,J,Q,.sl x::xs,J0,h,ha=>mr (sig:=r) (J:=J x) (Q:=fun vs J'=>Q (.sl x::vs) J') (h x) ha
 | .r::r,J,Q,.r x::xs,J0,h,ha=>mr (sig:=r) (J:=J x) (Q:=fun vs J'=>Q (.r x::vs) J') (h x) ha
 | .q e::r,J,Q,.q x e'::xs,J0,h,ha=>by
   obtain⟨rfl,ha⟩:=ha
   exact mr (sig:=r) (J:=J x) (Q:=fun vs J'=>Q (.q x e::vs) J') (h x) ha
 | .m::r,J,Q,.m x::xs,J0,h,ha=>mr (sig:=r) (J:=J x) (Q:=fun vs J'=>Q (.m x::vs) J') (h x) ha
 | .n::r,J,Q,.q (some ⟨b,0,none⟩) 0::xs,J0,h,ha=>mr (sig:=r) (J:=J b) (Q:=fun vs J'=>Q (.q (some ⟨b,0,none⟩) 0::vs) J') (h b) ha
theorem mu{ρ:List Nat}{h:Heap}:∀{sig:List Sh}{J:Ha sig}{vs:List Lf},ud ρ sig J vs h->∃xs J0,Qw sig J xs J0/\J0 h/\(∀m,cZ m xs=true)/\dP xs/\eQ ρ xs=eQ ρ vs
 |[],J,[],hj=>⟨[],J,rfl,hj,fun _=>rfl,trivial,rfl⟩
 | .i k::r,J,.i k' x::vs,hj=>by
   simp only[ud]at hj
   split at hj
   ·rename_i hk
    obtain rfl:=qX hk
    obtain⟨xs,J0,h1,h2,h3,h4,h5⟩:=mu hj
    exact⟨.i k x::xs,J0,⟨rfl,h1⟩,h2,fun m=>by simp[cZ,Lf.ok,h3 m],⟨trivial,h4⟩,by simp only[eQ,h5]⟩
   ·exact hj.elim
 | .b::r,J,.b x kn::vs,hj=>by
   obtain⟨xs,J0,h1,h2,h3,h4,h5⟩:=mu (sig:=r) (J:=J x) (vs:=vs) hj
   exact⟨.b x none::xs,J0,h1,h2,fun m=>by simp[cZ,Lf.ok,h3 m],⟨trivial,h4⟩,by simp only[eQ,h5];rfl⟩
 | .s::r,J,.s x::vs,hj=>by
   obtain⟨xs,J0,h1,h2,h3,h4,h5⟩:=mu (sig:=r) (J:=J x) (vs:=vs) hj
   exact⟨.s x::xs,J0,h1,h2,fun m=>by simp[cZ,Lf.ok,h3 m],⟨trivial,h4⟩,by simp only[eQ,h5]⟩
 | .sl::r,J,.sl x::vs,hj=>by
   obtain⟨xs,J0,h1,h2,h3,h4,h5⟩:=mu (sig:=r) (J:=J x) (vs:=vs) hj
   exact⟨.sl x::xs,J0,h1,h2,fun m=>by simp[cZ,Lf.ok,h3 m],⟨trivial,h4⟩,by simp only[eQ,h5]⟩
 | .r::r,J,x::vs,hj=>by
   obtain⟨xs,J0,h1,h2,h3,h4,h5⟩:=mu (sig:=r) (J:=J (x.v ρ)) (vs:=vs) (by cases x<;>exact hj)
   exact⟨.r (x.v ρ)::xs,J0,h1,h2,fun m=>by simp[cZ,Lf.ok,h3 m],⟨trivial,h4⟩,by simp only[eQ,h5];rfl⟩
 | .q e::r,J,.q x e'::vs,hj=>by
   obtain⟨xs,J0,h1,h2,h3,h4,h5⟩:=mu (sig:=r) (J:=J x) (vs:=vs) hj
   exact⟨.q x e::xs,J0,⟨rfl,h1⟩,h2,fun m=>by simp[cZ,Lf.ok,h3 m],⟨trivial,h4⟩,by simp only[eQ,h5];rfl⟩
 | .m::r,J,.m x::vs,hj=>by
   obtain⟨xs,J0,h1,h2,h3,h4,h5⟩:=mu (sig:=r) (J:=J x) (vs:=vs) hj
   exact⟨.m x::xs,J0,h1,h2,fun m=>by simp[cZ,Lf.ok,h3 m],⟨trivial,h4⟩,by simp only[eQ,h5]⟩
 | .n::r,J,x::vs,hj=>by
   have hj:(match Kj x with|some b=>ud ρ r (J b) vs h|none=>False):=by cases x<;>exact hj
   cases hb:Kj x with
   |none=>rw[hb]at hj;exact hj.elim
   |some b=>
    rw[hb]at hj
    obtain⟨xs,J0,h1,h2,h3,h4,h5⟩:=mu (sig:=r) (J:=J b) (vs:=vs) hj
    exact⟨.q (some ⟨b,0,none⟩) 0::xs,J0,h1,h2,fun m=>by simp[cZ,Lf.ok,h3 m],⟨trivial,h4⟩,by simp only[eQ,h5,Mj hb];rfl⟩
theorem pN:∀{ss:List Sh}{vs:List Lf}{K:List Lf->List Lf->Prop},ym ss vs K->K (vs.take ss.length) (vs.drop ss.length)
 |[],vs,K,h=>by simpa[ym]using h
 |s::ss,x::vs,K,h=>by
  simp only[ym]at h
  have:=pN h
  simpa using this
 |s::ss,[],K,h=>by simp[ym]at h
def NY:As->List Lf->Av
 | .l _,x::_=> .l x
 | .l _,[]=> .l .u
 | .a ss,vs=> .a (vs.take ss.length)
theorem Kr{sh:As}{vs:List Lf}{K:Av->List Lf->Prop}(h:X7 sh vs K):K (NY sh vs) (vs.drop (X6 sh).length):=by
 cases sh with
 |l x=>
  cases vs with
  |nil=>exact h.elim
  |cons y vs=>exact h
 |a ss=>
  have:=pN h
  exact this
def eI(n:Nat):List It->List Lf->List (Nat×Option Tv)->List (Nat×Option Tv)
 |[],_,E=>E
 |x::r,vs,E=>eI n r (vs.drop (X6 x.sh).length) (Kk n E x.t (some (.v (NY x.sh vs))))
theorem DJ{n:Nat}:∀{qV:List It}{vs:List Lf}{E:List (Nat×Option Tv)}{K:List Lf->List (Nat×Option Tv)->Prop},Y1 n qV vs E K->K (vs.drop (sZ qV).length) (eI n qV vs E)
 |[],vs,E,K,h=>h
 |x::r,vs,E,K,h=>by
  have:=DJ (Kr h)
  simp only[sZ,cB]
  rw[<-List.drop_drop]
  exact this
def l2(ch:List Nat):List (Nat×List Lf)->List Lf->List (Nat×List Lf)
 |[],_=>[]
 |(i,xs)::L,vs=>match gf ch i with
  |true=>(i,vs.take (qT xs).length)::l2 ch L (vs.drop (qT xs).length)
  |false=>(i,xs)::l2 ch L vs
theorem wv{ch:List Nat}:∀{L:List (Nat×List Lf)}{vs:List Lf}{K:List (Nat×List Lf)->List Lf->Prop},Qa ch L vs K->K (l2 ch L vs) (vs.drop (CN ch L).length)
 |[],vs,K,h=>h
 |(i,xs)::L,vs,K,h=>by
  unfold Qa at h
  unfold l2 CN
  cases hi:gf ch i with
  |true=>
   rw[hi]at h
   have:=wv (pN h)
   simp only[cB]
   rw[<-List.drop_drop]
   exact this
  |false=>rw[hi]at h;exact wv h
theorem Au(ρ:List Nat)(xs:List Lf)(n:Nat):eQ ρ (xs.take n)=(eQ ρ xs).take n:=by rw[fS,fS,List.map_take]
theorem oN(ρ:List Nat)(xs:List Lf)(n:Nat):eQ ρ (xs.drop n)=(eQ ρ xs).drop n:=by rw[fS,fS,List.map_drop]
theorem kU(ρ:List Nat)(xs ys:List Lf):eQ ρ (xs++ys)=eQ ρ xs++eQ ρ ys:=by rw[fS,fS,fS,cV]
theorem iz(ρ:List Nat)(xs:List Lf):(eQ ρ xs).length=xs.length:=by rw[fS,bG]
theorem mv:∀xs:List Lf,(qT xs).length=xs.length
 |[]=>rfl
 |_::xs=>by simp[qT,mv xs]
theorem EX:∀ss:List Sh,HM.CM ss=ss.length
 |[]=>rfl
 |_::ss=>by simp[HM.CM,EX ss]
def avV:As->List Value->Value
 | .l _,v::_=>v
 | .l _,[]=>undef
 | .a ss,vs=> .agg (vs.take ss.length).toArray
theorem Y8(ρ:List Nat)(sh:As)(xs:List Lf):(NY sh xs).v ρ=avV sh (eQ ρ xs):=by
 cases sh with
 |l x=>cases xs<;>rfl
 |a ss=>simp only[NY,avV,Av.v,Au]
theorem U1{m:Nat}{sh:As}{xs:List Lf}(h:cZ m xs=true)(hf:dP xs):(NY sh xs).ok m=true/\(NY sh xs).fact:=by
 cases sh with
 |l x=>
  cases xs with
  |nil=>exact⟨rfl,trivial⟩
  |cons y ys=>
   simp only[cZ,bD]at h
   exact⟨h.1,hf.1⟩
 |a ss=>exact⟨dW.2 fun x hx=>dW.1 h x (ov hx),dA.2 fun x hx=>dA.1 hf x (ov hx)⟩
def U2:List It->List Value->List Value
 |[],_=>[]
 |x::r,vs=>avV x.sh vs::U2 r (vs.drop (X6 x.sh).length)
def wx(n:Nat)(j:Nat->Value):List Nat->bP->bP
 |[],A=>A
 |t::ts,A=>wx n j ts (zV n A (some t) (j t))
def qk(n:Nat):List Nat->List Value->bP->bP
 |[],_,A=>A
 |_::_,[],A=>A
 |t::ts,v::vs,A=>qk n ts vs (zV n A (some t) v)
theorem Aw{α:Sort _}{n:Nat}{j:Nat->Value}{k:bP->α}:∀(L:List Nat)(A:bP),tW n j L A k=k (wx n j L A)
 |[],A=>rfl
 |t::ts,A=>by simp only[tW,wx,jA];exact Aw ts _
theorem EY{α:Sort _}{n:Nat}{k:bP->α}:∀(L:List Nat)(vs:List Value)(A:bP),uS n L vs A k=k (qk n L vs A)
 |[],_,A=>rfl
 |_::_,[],A=>rfl
 |t::ts,v::vs,A=>by simp only[uS,qk,jA];exact EY ts vs _
theorem Ax{ρ:List Nat}{m n:Nat}{E:List (Nat×Option Tv)}{A:bP}(R:Rel ρ m E A){t:Nat}{x:Option Tv}{v:Value}(hx:∀y,x=some y->y.ok m=true/\y.fact/\v=y.val ρ):Rel ρ m (Kk n E t x) (zV n A (some t) v):=by
 unfold Kk zV
 simp only
 cases hb:Nat.blt t n with
 |false=>exact R
 |true=>
  refine⟨fun t' y hy=> ?_⟩
  simp only[sY]at hy
  simp only[oe]
  cases hd:Nat.beq t t' with
  |true=>rw[hd]at hy;exact hx y hy
  |false=>rw[hd]at hy;exact R.get t' y hy
theorem DK{ρ:List Nat}{m n:Nat}{j:Nat->Value}:∀{ts:List Nat}{E:List (Nat×Option Tv)}{A:bP},Rel ρ m E A->Rel ρ m (HL n ts E) (wx n j ts A)
 |[],E,A,R=>R
 |t::ts,E,A,R=>by
  simp only[HL,wx]
  exact DK (Ax R fun y hy=>by cases hy)
theorem Qx{ρ:List Nat}{m n:Nat}:∀{qV:List It}{xs:List Lf}{E:List (Nat×Option Tv)}{A:bP},Rel ρ m E A->cZ m xs=true->dP xs->Rel ρ m (eI n qV xs E) (qk n (oM qV) (U2 qV (eQ ρ xs)) A)
 |[],xs,E,A,R,_,_=>R
 |x::r,xs,E,A,R,ho,hf=>by
  simp only[eI,oM,U2,qk]
  rw[<-oN]
  obtain⟨h1,h2⟩:=U1 (sh:=x.sh) ho hf
  refine Qx (Ax R fun y hy=> ?_) (dW.2 fun z hz=>dW.1 ho z (wo hz)) (dA.2 fun z hz=>dA.1 hf z (wo hz))
  have hy:=bI hy
  subst hy
  exact⟨h1,h2,(Y8 ρ x.sh xs).symm⟩
theorem wy{ρ:List Nat}{m:Nat}{E:List (Nat×Option Tv)}{A:bP}(R:Rel ρ m E A):∀{qV:List It}{K:List Lf->Prop},HM E qV K->∃vs,K vs/\vs.length=(sZ qV).length/\∀rest,fo A (oM qV)=U2 qV (eQ ρ (vs++rest))
 |[],K,h=>⟨[],h,rfl,fun _=>rfl⟩
 |x::r,K,h=>by
  unfold HM at h
  split at h
  ·rename_i y sh hy hs
   obtain⟨vs,h1,h2,h3⟩:=wy R h
   refine⟨y::vs,h1,by simp[sZ,hs,X6,h2,Nat.add_comm],fun rest=> ?_⟩
   simp only[oM,fo,U2,hs,avV,X6,List.cons_append,eQ]
   rw[(R.get _ _ hy).2.2,h3 rest]
   rfl
  ·rename_i ys ss hy hs
   split at h
   ·rename_i hn
    have hl:ys.length=ss.length:=by rw[<-mq,<-EX];exact ft hn
    obtain⟨vs,h1,h2,h3⟩:=wy R h
    refine⟨ys++vs,h1,by simp[sZ,hs,X6,h2,hl],fun rest=> ?_⟩
    simp only[oM,fo,U2,hs,avV,X6]
    rw[(R.get _ _ hy).2.2,h3 rest,gX,kU ρ ys (vs++rest)]
    rw[uW (by rw[iz,hl]),ve (by rw[iz,hl])]
    rfl
   ·exact h.elim
  ·exact h.elim
theorem EZ{ch:List Nat}(ρ:List Nat):∀(L:List (Nat×List Lf))(xs:List Lf),(mn ρ (l2 ch L xs)).map (·.1)=(mn ρ L).map (·.1)
 |[],_=>rfl
 |(i,ys)::L,xs=>by
  unfold l2
  cases gf ch i with
  |true=>simp only[mn,bK];rw[EZ ρ L]
  |false=>simp only[mn,bK];rw[EZ ρ L]
theorem H8{ch:List Nat}{m:Nat}:∀{L:List (Nat×List Lf)}{xs:List Lf},uK m L=true->qS L->cZ m xs=true->dP xs->uK m (l2 ch L xs)=true/\qS (l2 ch L xs)
 |[],_,_,_,_,_=>⟨rfl,trivial⟩
 |(i,ys)::L,xs,h1,h2,h3,h4=>by
  simp only[uK,bD]at h1
  unfold l2
  cases gf ch i with
  |true=>
   obtain⟨a,b⟩:=H8 (ch:=ch) h1.2 h2.2 (dW.2 fun z hz=>dW.1 h3 z (wo (i:=(qT ys).length) hz)) (dA.2 fun z hz=>dA.1 h4 z (wo (i:=(qT ys).length) hz))
   refine⟨?_,dA.2 fun z hz=>dA.1 h4 z (ov hz),b⟩
   simp only[uK,bD]
   exact⟨⟨h1.1.1,dW.2 fun z hz=>dW.1 h3 z (ov hz)⟩,a⟩
  |false=>
   obtain⟨a,b⟩:=H8 (ch:=ch) h1.2 h2.2 h3 h4
   exact⟨by simp[uK,h1.1.1,h1.1.2,a],h2.1,b⟩
theorem E0{ch:List Nat}:∀{L:List (Nat×List Lf)}{xs:List Lf}{id:Nat},gf ch id=false->dQ (l2 ch L xs) id=dQ L id
 |[],_,_,_=>rfl
 |(i,ys)::L,xs,id,h=>by
  unfold l2
  cases hi:gf ch i with
  |true=>
   simp only[dQ]
   cases hb:Nat.beq i id with
   |true=>have:=ft hb;subst this;rw[hi]at h;cases h
   |false=>exact E0 h
  |false=>
   simp only[dQ]
   cases Nat.beq i id with
   |true=>rfl
   |false=>exact E0 h
theorem wz{ρ:List Nat}{ch:List Nat}{L':List (Nat×List Lf)}:∀{L0:List (Nat×List Lf)}{K:List Lf->Prop},Qb L' ch L0 K->∃vs,K vs/\vs.length=(CN ch L0).length/\∀xs tl,eQ ρ xs=eQ ρ vs++tl->∀p,p∈l2 ch L0 xs->(gf ch p.1=true/\∃cs,dQ L' p.1=some cs/\eQ ρ p.2=eQ ρ cs)\/(gf ch p.1=false/\p∈L0)
 |[],K,h=>⟨[],h,rfl,fun xs _ _ p hp=>by simp[l2]at hp⟩
 |(i,ys)::L0,K,h=>by
  unfold Qb at h
  unfold CN
  cases hi:gf ch i with
  |true=>
   rw[hi]at h
   simp only at h
   split at h
   ·rename_i cs JY
    split at h
    ·rename_i hn
     have hl:cs.length=ys.length:=by rw[<-mq,<-mq];exact ft hn
     obtain⟨vs,h1,h2,h3⟩:=wz (ρ:=ρ) h
     refine⟨cs++vs,h1,by simp only[cB,mv];omega,fun xs tl hxs p hp=> ?_⟩
     unfold l2 at hp
     rw[hi]at hp
     rw[kU,gX]at hxs
     rcases aO.1 hp with rfl|hp
     ·refine .inl ⟨hi,cs,JY,?_⟩
      simp only
      rw[Au,hxs,mv,uW (by rw[iz,hl])]
     ·rcases h3 (xs.drop (qT ys).length) tl (by rw[oN,hxs,mv,ve (by rw[iz,hl])]) p hp with h3|h3
      ·exact .inl h3
      ·exact .inr ⟨h3.1,cO _ h3.2⟩
    ·exact h.elim
   ·exact h.elim
  |false=>
   rw[hi]at h
   obtain⟨vs,h1,h2,h3⟩:=wz (ρ:=ρ) h
   refine⟨vs,h1,h2,fun xs tl hxs p hp=> ?_⟩
   unfold l2 at hp
   rw[hi]at hp
   rcases aO.1 hp with rfl|hp
   ·exact .inr ⟨hi,by simp⟩
   ·rcases h3 xs tl hxs p hp with h3|h3
    ·exact .inl h3
    ·exact .inr ⟨h3.1,cO _ h3.2⟩
theorem Vars.sub{h h0:Heap}{VL:List (Nat×List Value)}(H:Vars h VL):∀{V0 VQ:List (Nat×List Value)},Vars h0 V0->VQ.map (·.1)=V0.map (·.1)->(∀q,q∈VQ->q∈VL)->Vars h VQ
 |[],[],_,_,_=> .nil
 |(b,cs)::V0,(b',nA)::VQ,.cons hv hn hl,hk,hm=>by
  simp only[bK,qZ]at hk
  obtain⟨rfl,hk⟩:=hk
  refine .cons (H.mem _ (hm (b',nA) (by simp))) (fun p hp e=> ?_) (H.sub hl hk fun q hq=>hm q (by simp[hq]))
  have:p.1∈V0.map (·.1):=by rw[<-hk];exact dL.2 ⟨p,hp,rfl⟩
  obtain⟨q,hq,hqe⟩:=dL.1 this
  exact hn q hq (hqe.trans e)
 |[],_::_,_,hk,_=>by simp at hk
 |_::_,[],_,hk,_=>by simp at hk
theorem mw{ρ:List Nat}:∀{L:List (Nat×List Lf)}{q:Nat×List Value},q∈mn ρ L↔∃p,p∈L/\q=(gh ρ p.1,eQ ρ p.2)
 |[],q=>by simp[mn]
 |(i,xs)::L,q=>by
  simp only[mn,aO,mw (L:=L)]
  constructor
  ·rintro(rfl|⟨p,h1,h2⟩)
   ·exact⟨(i,xs),.inl rfl,rfl⟩
   ·exact⟨p,.inr h1,h2⟩
  ·rintro⟨p,(rfl|h1),h2⟩
   ·exact .inl h2
   ·exact .inr ⟨p,h1,h2⟩
theorem mK:∀{L:List (Nat×List Lf)}{id:Nat}{cs:List Lf},dQ L id=some cs->(id,cs)∈L
 |[],id,cs,h=>by simp[dQ]at h
 |(i,xs)::L,id,cs,h=>by
  unfold dQ at h
  cases hb:Nat.beq i id with
  |true=>
   rw[hb]at h
   have:=ft hb
   subst this
   have h:=bI h
   subst h
   simp
  |false=>rw[hb]at h;exact cO _ (mK h)
theorem pO{ρ:List Nat}{h:Heap}:∀{L:List (Nat×List Lf)}{id:Nat}{cs:List Lf},Vars h (mn ρ L)->(id,cs)∈L->dQ L id=some cs
 |(i,xs)::L,id,cs,V,hm=>by
  unfold dQ
  rcases aO.1 hm with e|hm
  ·simp only[fH]at e
   obtain⟨rfl,rfl⟩:=e
   simp
  ·cases hb:Nat.beq i id with
   |true=>
    have:=ft hb
    subst this
    exact absurd rfl (V.ne (gh ρ i,eQ ρ cs) (mw.2 ⟨(i,cs),hm,rfl⟩))
   |false=>exact pO V.tail hm
theorem uf{f:List Value->Prop}:∀{n:Nat},(∀vs,f vs)->mh n f
 |0,h=>h []
 |n+1,h=>fun v=>uf (n:=n) fun vs=>h (v::vs)
theorem Ay:∀(qV:List It)(vs:List Value),(U2 qV vs).length=(oM qV).length
 |[],_=>rfl
 |x::r,vs=>by simp only[U2,oM,List.length_cons,Ay r]
theorem vf(A:bP):∀a b:List Nat,fo A (a++b)=fo A a++fo A b
 |[],b=>rfl
 |x::a,b=>by simp only[List.cons_append,fo,vf A a b]
theorem DL{n:Nat}:∀{a:List Nat}{va:List Value}{b:List Nat}{vb:List Value}{A:bP},va.length=a.length->qk n (a++b) (va++vb) A=qk n b vb (qk n a va A)
 |[],[],b,vb,A,_=>rfl
 |t::a,v::va,b,vb,A,h=>by
  simp only[List.cons_append,qk]
  exact DL (by simpa using h)
 |[],_::_,_,_,_,h=>by simp at h
 |_::_,[],_,_,_,h=>by simp at h
def Y9:List (Nat×List Sh)->List Value->List Value
 |[],_=>[]
 |(_,ss)::r,v::vs=>v::Y9 r (vs.drop ss.length)
 |_::r,[]=>undef::Y9 r []
def Za:Value->Nat
 | .pointer (some a)=>a.block
 |_=>0
def yq:List (Nat×List Sh)->List Value->List (Nat×List Value)->List (Nat×List Value)
 |[],_,V=>V
 |(_,ss)::r,v::vs,V=>yq r (vs.drop ss.length) ((Za v,vs.take ss.length)::V)
 |_::r,[],V=>yq r [] V
theorem DM{ρ:List Nat}{h:Heap}:∀{L:List (Nat×List Lf)}{i j:Nat}{c d:List Lf},Vars h (mn ρ L)->(i,c)∈L->(j,d)∈L->i≠j->gh ρ i≠gh ρ j
 |(k,xs)::L,i,j,c,d,V,hi,hj,fL=>by
  rcases aO.1 hi with e1|hi
  ·rcases aO.1 hj with e2|hj
   ·simp only[fH]at e1 e2
    exact absurd (e1.1.trans e2.1.symm) fL
   ·simp only[fH]at e1
    have:=V.ne (gh ρ j,eQ ρ d) (mw.2 ⟨(j,d),hj,rfl⟩)
    rw[e1.1]
    exact fun e=>this e.symm
  ·rcases aO.1 hj with e2|hj
   ·simp only[fH]at e2
    have:=V.ne (gh ρ i,eQ ρ c) (mw.2 ⟨(i,c),hi,rfl⟩)
    rw[e2.1]
    exact this
   ·exact DM V.tail hi hj fL
theorem DN{m0:Nat}{s:St}{ρ:List Nat}{h:Heap}{A:bP}(hr:s.ρ=ρ)(I:Vars h (mn ρ s.L))(R:Rel ρ s.m s.E A):∀{nv:List (Nat×List Sh)}{ids:List Nat}{K:List Lf->Prop},UR m0 s ids nv K->
 ∃vs,K vs/\fo A (ou nv)=Y9 nv (eQ ρ vs)/\∀V,Vars h V->(∀q,q∈V->∃p,p∈s.L/\(p.1<m0\/gf ids p.1=true)/\q=(gh ρ p.1,eQ ρ p.2))->Vars h (yq nv (eQ ρ vs) V)
 |[],ids,K,H=>⟨[],H,rfl,fun V hV _=>hV⟩
 |(t,ss)::r,ids,K,H=>by
  unfold UR at H
  split at H
  ·rename_i id hid
   split at H
   ·rename_i h1 h2
    split at H
    ·rename_i cs JY
     split at H
     ·rename_i hn
      have hl:cs.length=ss.length:=by rw[<-mq,<-EX];exact ft hn
      obtain⟨vs,k1,k2,k3⟩:=DN hr I R H
      refine⟨_,k1,?_,fun V hV hq=> ?_⟩
      ·simp only[ou,fo,eQ,Y9,kU]
       rw[k2,ve (by rw[iz,hl]),(R.get _ _ hid).2.2,hr]
       rfl
      ·simp only[eQ,yq,kU]
       rw[ve (by rw[iz,hl]),uW (by rw[iz,hl])]
       have hm:=mK JY
       have hb:Za ((Lf.q (some ⟨gh s.ρ id,0,none⟩) 0).v ρ)=gh ρ id:=by rw[hr];rfl
       rw[hb]
       refine k3 _ (.cons (I.mem _ (mw.2 ⟨(id,cs),hm,rfl⟩)) (fun q hqV e=> ?_) hV) fun q hqV=> ?_
       ·obtain⟨p,p1,p2,p3⟩:=hq q hqV
        have fL:p.1≠id:=fun e=>by
         subst e
         rcases p2 with p2|p2
         ·rw[<-Nat.blt_eq]at p2;rw[h1]at p2;cases p2
         ·rw[h2]at p2;cases p2
        rw[p3]at e
        exact DM I p1 hm fL e
       ·rcases aO.1 hqV with rfl|hqV
        ·exact⟨(id,cs),hm,.inr (by simp[gf]),rfl⟩
        ·obtain⟨p,p1,p2,p3⟩:=hq q hqV
         refine⟨p,p1,?_,p3⟩
         rcases p2 with p2|p2
         ·exact .inl p2
         ·exact .inr (by simp[gf,p2])
     ·exact H.elim
    ·exact H.elim
   ·exact H.elim
  ·exact H.elim
def JV(a:An)(s:St)(ρ:List Nat)(J:Ha (Qc a s.L))(vs:List Value)(h:Heap):Prop:=
 ∃xs J0,Qw _ J xs J0/\J0 h/\(∀m,cZ m xs=true)/\dP xs/\vs=U2 a.qV (eQ ρ xs)++Y9 a.nv (eQ ρ ((xs.drop (sZ a.qV).length).drop (CN a.ch s.L).length))/\
  Vars h (yq a.nv (eQ ρ ((xs.drop (sZ a.qV).length).drop (CN a.ch s.L).length)) (mn ρ (l2 a.ch s.L (xs.drop (sZ a.qV).length))))
theorem Az{m:Nat}{ch:List Nat}:∀{l:List Nat},Mb m ch l=true->∀i,i<m->gf ch i=false->gf l i=false
 |[],_,_,_,_=>rfl
 |j::l,h,i,hi,hc=>by
  simp only[Mb,bD,Bool.or_eq_true,gV]at h
  simp only[gf,Bool.or_eq_false_iff]
  refine⟨?_,Az h.2 i hi hc⟩
  cases hb:Nat.beq j i with
  |false=>rfl
  |true=>
   have:=ft hb
   subst this
   rcases h.1 with h1|h1
   ·rw[h1]at hc;cases hc
   ·rw[<-Nat.blt_eq]at hi;rw[h1]at hi;cases hi
theorem E2{m:Nat}:∀{L:List (Nat×List Lf)},uK m L=true->∀p,p∈L->p.1<m/\cZ m p.2=true
 |[],_,p,hp=>by simp at hp
 |(i,ys)::L,hL,p,hp=>by
  simp only[uK,bD]at hL
  rcases aO.1 hp with rfl|hp
  ·exact⟨gC.1 hL.1.1,hL.1.2⟩
  ·exact E2 hL.2 p hp
theorem kg{m n:Nat}{xs:List Lf}(h:cZ m xs=true):cZ m (xs.drop n)=true:=dW.2 fun z hz=>dW.1 h z (wo hz)
theorem kV{n:Nat}{xs:List Lf}(h:dP xs):dP (xs.drop n):=dA.2 fun z hz=>dA.1 h z (wo hz)
theorem E3{a:An}{s:St}{ρ:List Nat}{h:Heap}(C:Cl s ρ h){J:Ha (Qc a s.L)}{s':St}{kG:List Nat}{A:bP}{h':Heap}(I':Inv s' kG h')(R':Rel kG s'.m s'.E A)(N:Nx s ρ s' kG)
 (H:act a s s' fun vs=>ud s'.ρ _ J vs s'.h) (hr:s'.ρ=kG) (hh:s'.h=h'):JV a s ρ J (fo A (oM a.qV++ou a.nv)) h':=by
 unfold act at H
 split at H
 ·rename_i ho
  obtain⟨vs1,H1,hl,hv⟩:=wy R' H
  obtain⟨vs2,H2,hl2,hp⟩:=wz (ρ:=kG) H1
  obtain⟨vs3,H3,hv3,hN⟩:=DN hr I'.vars R' H2
  rw[hr,hh]at H3
  obtain⟨xs,J0,k1,k2,k3,k4,k5⟩:=mu H3
  obtain⟨y,hy⟩:=N.r
  have same:∀zs:List Lf,(∀m,cZ m zs=true)->eQ kG zs=eQ ρ zs:=fun zs hz=>by rw[hy];exact jK (hz _)
  have hd:eQ kG (xs.drop (sZ a.qV).length)=eQ kG vs2++eQ kG vs3:=by
   rw[oN,k5,kU,ve (by rw[iz,hl]),kU]
  have hd3:eQ ρ ((xs.drop (sZ a.qV).length).drop (CN a.ch s.L).length)=eQ kG vs3:=by
   rw[<-same _ fun m=>kg (kg (k3 m)),oN,hd,ve (by rw[iz,hl2])]
  refine⟨xs,J0,k1,k2,k3,k4,?_,?_⟩
  ·rw[vf,hv (vs2++vs3),<-k5,same _ k3,hd3,hv3]
  ·rw[hd3]
   refine hN _ ?_ ?_
   ·refine I'.vars.sub C.vars (EZ ρ s.L _) fun q hq=> ?_
    obtain⟨p,p1,p2⟩:=mw.1 hq
    have Qy:=E2 (H8 (ch:=a.ch) C.wk C.zi (kg (n:=(sZ a.qV).length) (k3 s.m)) (kV k4)).1 p p1
    have e1:gh ρ p.1=gh kG p.1:=by rw[hy];exact(lF _ _ _ (by rw[C.len];exact Qy.1)).symm
    have e2:eQ ρ p.2=eQ kG p.2:=by rw[hy];exact(jK (by rw[C.len];exact Qy.2)).symm
    rw[p2,e1,e2]
    rcases hp _ _ hd p p1 with⟨q1,cs,q2,q3⟩|⟨q1,q2⟩
    ·rw[q3]
     exact mw.2 ⟨(p.1,cs),mK q2,rfl⟩
    ·obtain⟨new,n1,n2⟩:=N.md
     rw[n1,wu]at ho
     have hf:=n2 p.1 (Az ho p.1 Qy.1 q1) Qy.1
     rw[pO C.vars q2]at hf
     exact mw.2 ⟨(p.1,p.2),mK hf,rfl⟩
   ·intro q hq
    obtain⟨p,p1,p2⟩:=mw.1 hq
    have Qy:=E2 (H8 (ch:=a.ch) C.wk C.zi (kg (n:=(sZ a.qV).length) (k3 s.m)) (kV k4)).1 p p1
    have e1:gh ρ p.1=gh kG p.1:=by rw[hy];exact(lF _ _ _ (by rw[C.len];exact Qy.1)).symm
    have e2:eQ ρ p.2=eQ kG p.2:=by rw[hy];exact(jK (by rw[C.len];exact Qy.2)).symm
    rw[p2,e1,e2]
    rcases hp _ _ hd p p1 with⟨q1,cs,q2,q3⟩|⟨q1,q2⟩
    ·rw[q3]
     exact⟨(p.1,cs),mK q2,.inl Qy.1,rfl⟩
    ·obtain⟨new,n1,n2⟩:=N.md
     rw[n1,wu]at ho
     have hf:=n2 p.1 (Az ho p.1 Qy.1 q1) Qy.1
     rw[pO C.vars q2]at hf
     exact⟨(p.1,p.2),mK hf,.inl Qy.1,rfl⟩
 ·exact H.elim
theorem Mk{n:Nat}{h:Heap}:∀{nv:List (Nat×List Sh)}{vs:List Lf}{s:St}{ρ:List Nat}{A:bP}{K:St->Prop},(Vars h (mn ρ s.L)->Cl s ρ h)->Rel ρ s.m s.E A->(∀m,cZ m vs=true)->dP vs->
 Vars h (yq nv (eQ ρ vs) (mn ρ s.L))->UQ n nv vs s K->∃s2 JZ,Cl s2 JZ h/\Rel JZ s2.m s2.E (qk n (ou nv) (Y9 nv (eQ ρ vs)) A)/\s.m<=s2.m/\s2.md=s.md/\(∀id,id<s.m->dQ s2.L id=dQ s.L id)/\(∃y,JZ=ρ++y)/\K s2
 |[],vs,s,ρ,A,K,C,R,_,_,V,H=>⟨s,ρ,C V,R,aW _,rfl,fun _ _=>rfl,⟨[],by simp⟩,H⟩
 |(t,ss)::r,[],s,ρ,A,K,C,R,_,_,V,H=>H.elim
 |(t,ss)::r,x::vs,s,ρ,A,K,C,R,ho,hf,V,H=>by
  unfold UQ at H
  cases hb:Kj x with
  |none=>rw[hb]at H;exact H.elim
  |some b=>
   rw[hb]at H
   have H:=pN H
   have hx:=Mj hb ρ
   simp only[eQ,yq,hx]at V
   rw[<-oN,<-Au]at V
   have hvs:∀m,cZ m vs=true:=fun m=>by have:=ho m;simp only[cZ,bD]at this;exact this.2
   have hV0:∀{nv:List (Nat×List Sh)}{vs:List Value}{V:List (Nat×List Value)},Vars h (yq nv vs V)->Vars h V:=by
    intro nv
    induction nv with
    |nil=>intro vs V h;exact h
    |cons p r ih=>
     intro vs V h
     cases vs with
     |nil=>exact ih h
     |cons v vs=>exact(ih h).tail
   have C0:=C (hV0 V).tail
   have ht:∀m,cZ m (vs.take ss.length)=true:=fun m=>dW.2 fun z hz=>dW.1 (hvs m) z (ov hz)
   have hl:gh (ρ++[b]) s.m=b:=by rw[<-C0.len];exact u6 ρ b []
   have eL:mn (ρ++[b]) ((s.m,vs.take ss.length)::s.L)=(Za (VP b 0),eQ ρ (vs.take ss.length))::mn ρ s.L:=by
    show(gh (ρ++[b]) s.m,eQ (ρ++[b]) (vs.take ss.length))::mn (ρ++[b]) s.L=_
    rw[hl,jK (ht _),zh (by rw[C0.len];exact C0.wk)]
    rfl
   have ed:eQ (ρ++[b]) (vs.drop ss.length)=eQ ρ (vs.drop ss.length):=jK (kg (hvs _))
   have Rx:=R.ext (y:=[b]) (n:=s.m+1) C0.len (by omega)
   obtain⟨s2,JZ,c1,c2,c3,c4,c5,⟨y,c6⟩,c7⟩:=Mk (s:={s with E:=Kk n s.E t (some (.v (.l (.p s.m 0)))),L:=(s.m,vs.take ss.length)::s.L,ρ:=s.ρ++[b],m:=s.m+1}) (ρ:=ρ++[b]) (A:=zV n A (some t) (VP b 0)) (fun W=>⟨W,by simp[C0.len],by rw[C0.r],C0.h,C0.nw,C0.so,C0.d,by
    have e1:=ht (s.m+1)
    have e2:=UT (Nat.le_succ s.m) C0.wk
    simp only[uK,bD]
    exact⟨⟨gC.2 (pL _),e1⟩,e2⟩,⟨dA.2 fun z hz=>dA.1 hf.2 z (ov hz),C0.zi⟩⟩)
    (Ax Rx fun y hy=>by
     have hy:=bI hy
     subst hy
     refine⟨gC.2 (pL _),trivial,?_⟩
     show VP b 0=VP (gh (ρ++[b]) s.m) 0
     rw[hl]) (fun m=>kg (hvs m)) (kV hf.2) (by rw[eL,ed];exact V) H
   refine⟨s2,JZ,c1,?_,by have:s.m+1<=s2.m:=c3
                         omega,c4,fun id hid=> ?_,⟨b::y,by rw[c6];simp⟩,c7⟩
   ·rw[ed]at c2
    simp only[ou,eQ,Y9,hx,qk]
    rw[<-oN]
    exact c2
   ·rw[c5 id (Nat.lt_succ_of_lt hid)]
    exact ue hid
theorem Ml{n:Nat}{a:An}{ws:List Nat}{s:St}{ρ:List Nat}{h:Heap}(C:Cl s ρ h){A:bP}(R:Rel ρ s.m s.E A){J:Ha (Qc a s.L)}{Q:St->Prop}{vs:List Value}{h':Heap}(hj:JV a s ρ J vs h')
 (H:yJ _ J fun vs J'=>∀h':Heap,J' h'->bld n a ws vs {s with h:=h'} fun s2=>Vars h' (mn s2.ρ s2.L)->Q s2) (j:Nat->Value):
 ∃s2 JZ,Inv s2 JZ h'/\Rel JZ s2.m s2.E (qk n (oM a.qV++ou a.nv) vs (wx n j ws A))/\Nx s ρ s2 JZ/\Q s2:=by
 obtain⟨xs,J0,k1,k2,k3,k4,k5,k6⟩:=hj
 have h1:=mr H k1 h' k2
 unfold bld at h1
 have h2:=wv (DJ h1)
 obtain⟨o1,o2⟩:=H8 (ch:=a.ch) C.wk C.zi (kg (n:=(sZ a.qV).length) (k3 s.m)) (kV k4)
 rw[k5,DL (Ay _ _)]
 obtain⟨s2,JZ,c1,c2,c3,c4,c5,c6,c7⟩:=Mk (h:=h') (s:={s with h:=h',E:=eI n a.qV xs (HL n ws s.E),L:=l2 a.ch s.L (xs.drop (sZ a.qV).length),md:=a.ch++s.md}) (ρ:=ρ) (fun V=>⟨V,C.len,C.r,rfl,C.nw,C.so,C.d,o1,o2⟩) (Qx (DK (n:=n) (j:=j) (ts:=ws) R) (k3 _) k4) (fun m=>kg (kg (k3 m))) (kV (kV k4)) k6 h2
 exact⟨s2,JZ,c1.inv,c2,⟨c3,⟨a.ch,c4,fun id hid hm=>(c5 id hm).trans (E0 hid)⟩,c6⟩,c7 (by rw[c1.r];exact c1.vars)⟩
def Ya(an:Nat->Option An)(p:Nat):Option (List Nat):=
 match an p with
 |some a=>some (oM a.qV++ou a.nv)
 |none=>none
theorem To.up{s0 s:St}{vU ρ:List Nat}{K:St->Prop}{K':bP->Heap->Prop}(N:Nx s0 vU s ρ)(h:To s0 vU K K'):To s ρ K K':=fun s' kG A h' I R N' k=>h s' kG A h' I R (N.trans N') k
theorem Zb{P:Program}{n:Nat}{an:Nat->Option An}:∀(c:Code){p:Nat}{kn:St->Prop}{kx:Nat->St->Prop}{kr:St->Prop}{sv:bP->Heap->Prop}{uO:Nat->bP->Heap->Prop}{yi:bP->Heap->Prop}{s0 s:St}{vU ρ:List Nat}{A:bP}{h:Heap},Inv s ρ h->Rel ρ s.m s.E A->Nx s0 vU s ρ->
 To s0 vU kn sv->(∀i,To s0 vU (kx i) (uO i))->To s0 vU kr yi->Kl P n an c p kn kx kr s->EH P n (Ya an) c p sv uO yi A h:=by
 intro c
 induction c with
 |skip=>intro p kn kx kr sv uO yi s0 s vU ρ A h I R N tn tx tr H;exact tn s ρ A h I R N H
 |region id ops draw=>intro p kn kx kr sv uO yi s0 s vU ρ A h I R N tn tx tr H;exact Y7 tn I R N H
 |seq a b Uo Up=>
  intro p kn kx kr sv uO yi s0 s vU ρ A h I R N tn tx tr H
  simp only[Kl]at H
  simp only[EH]
  cases Yb:an p with
  |none=>
   rw[Yb]at H
   rw[show Ya an p=none by unfold Ya;rw[Yb]]
   exact Uo I R N (fun s' kG A' h' I' R' N' k=>Up I' R' N' tn tx tr k) tx tr H
  |some a'=>
   rw[Yb]at H
   rw[show Ya an p=some (oM a'.qV++ou a'.nv) by unfold Ya;rw[Yb]]
   simp only at H⊢
   obtain⟨s1,C,hE,hL,hm,lG,J,H1,H2⟩:=ka I H
   have R1:Rel ρ s1.m s1.E A:=by rw[hE,hm];exact R
   have N1:=N.trans (ij (ρ:=ρ) hm hL lG)
   refine⟨JV a' s1 ρ J,?_,fun vZ=>uf fun vs h' hj=> ?_⟩
   ·refine Uo C.inv R1 (Nx.refl s1 ρ) (fun s' kG A' h' I' R' N' k=> ?_) (fun i=>(tx i).up N1) (tr.up N1) H1
    obtain⟨s2,C2,hE2,cC,J2,aia,k2⟩:=ka I' k
    have R2:Rel kG s2.m s2.E A':=by rw[hE2,J2];exact R'
    exact E3 C C2.inv R2 (N'.trans (ij J2 cC aia)) k2 C2.r C2.h
   ·rw[Aw,EY]
    obtain⟨s2,JZ,I2,R2,N2,q⟩:=Ml C R1 hj H2 vZ
    exact Up I2 R2 (N1.trans N2) tn tx tr q
 |cond c a b Uo Up=>
  intro p kn kx kr sv uO yi s0 s vU ρ A h I R N tn tx tr H
  simp only[Kl]at H
  simp only[EH]
  split at H
  ·rename_i x kn0 hx
   obtain⟨b1,b2⟩:=Ap I R hx H
   rw[(gY R hx).2.2]
   refine UH (fun e=> ?_) (fun e=> ?_)
   ·obtain⟨s',I',R',hm,hL,lG,q⟩:=b1 e
    exact Uo I' R' (N.trans (ij hm hL lG)) tn tx tr q
   ·obtain⟨s',I',R',hm,hL,lG,q⟩:=b2 e
    exact Up I' R' (N.trans (ij hm hL lG)) tn tx tr q
  ·exact H.elim
 |block id c ih=>
  intro p kn kx kr sv uO yi s0 s vU ρ A h I R N tn tx tr H
  simp only[Kl]at H
  simp only[EH]
  refine ih I R N tn (fun i s' kG A' h' I' R' N' k=> ?_) tr H
  cases hb:Nat.beq i id with
  |true=>simp only[hb]at k⊢;exact tn s' kG A' h' I' R' N' k
  |false=>simp only[hb]at k⊢;exact tx i s' kG A' h' I' R' N' k
 |loop c ih=>
  intro p kn kx kr sv uO yi s0 s vU ρ A h I R N tn tx tr H
  simp only[Kl]at H
  simp only[EH]
  cases Yb:an p with
  |none=>rw[Yb]at H;exact H.elim
  |some a'=>
   rw[Yb]at H
   rw[show Ya an p=some (oM a'.qV++ou a'.nv) by unfold Ya;rw[Yb]]
   simp only at H⊢
   obtain⟨s1,C,hE,hL,hm,lG,J,⟨n0,H1⟩,H2⟩:=ka I H
   have R1:Rel ρ s1.m s1.E A:=by rw[hE,hm];exact R
   have N1:=N.trans (ij (ρ:=ρ) hm hL lG)
   refine Kf (J:=fun n vs h'=>JV a' s1 ρ (J n) vs h') n0 (E3 C C.inv R1 (Nx.refl s1 ρ) H1 C.r C.h) fun Iv μ hI vZ=>uf fun vs h' hi=> ?_
   rw[Aw,EY]
   obtain⟨m0,hj,hn⟩:=hI vs h' hi
   obtain⟨s2,JZ,I2,R2,N2,q⟩:=Ml C R1 hj (H2 m0) vZ
   refine ih I2 R2 N2 (fun s' kG A' nB I' R' N' k=> ?_) (fun i=>(tx i).up N1) (tr.up N1) q
   obtain⟨s3,C3,hE3,dI,hm3,aib,m,wc,k3⟩:=ka I' k
   have R3:Rel kG s3.m s3.E A':=by rw[hE3,hm3];exact R'
   exact hn _ _ ⟨m,wc,E3 C C3.inv R3 (N'.trans (ij hm3 dI aib)) k3 C3.r C3.h⟩
 |exit id=>intro p kn kx kr sv uO yi s0 s vU ρ A h I R N tn tx tr H;exact tx id s ρ A h I R N H
 |ret=>intro p kn kx kr sv uO yi s0 s vU ρ A h I R N tn tx tr H;exact tr s ρ A h I R N H
 |label l=>intro p kn kx kr sv uO yi s0 s vU ρ A h I R N tn tx tr H;exact tn s ρ A h I R N H
 |_=>intro p kn kx kr sv uO yi s0 s vU ρ A h I R N tn tx tr H;exact H.elim
def Zc:Lf->Bool
 | .b _ (some _)=>false
 |_=>true
def H9:List Lf->Bool
 |[]=>true
 |x::xs=>Zc x&&H9 xs
def ae0:Tv->Bool
 | .v (.l x)=>Zc x
 | .v (.a xs)=>H9 xs
 | .t _=>false
def Mm:List Tv->Bool
 |[]=>true
 |x::xs=>ae0 x&&Mm xs
def nkL:List (Nat×List Lf)->Bool
 |[]=>true
 |(_,xs)::L=>H9 xs&&nkL L
theorem Mn{x:Lf}(h:Zc x=true):x.fact:=by
 cases x<;>try trivial
 case b x kn=>cases kn with
  |none=>trivial
  |some _=>cases h
theorem AA:∀{xs:List Lf},H9 xs=true->dP xs
 |[],_=>trivial
 |x::xs,h=>by
  simp only[H9,bD]at h
  exact⟨Mn h.1,AA h.2⟩
theorem U3{x:Tv}(h:ae0 x=true):x.fact:=by
 cases x with
 |v x=>cases x with
  |l x=>exact Mn h
  |a xs=>exact AA h
 |t xs=>cases h
theorem Qz:∀{L:List (Nat×List Lf)},nkL L=true->qS L
 |[],_=>trivial
 |(i,xs)::L,h=>by
  simp only[nkL,bD]at h
  exact⟨AA h.1,Qz h.2⟩
def QA(args:List Tv)(L:List (Nat×List Lf))(ρ:List Nat):Bool:=HO (j5 ρ) args&&(uK (j5 ρ) L&&(Mm args&&nkL L))
theorem Mo{ρ:List Nat}{m:Nat}:∀{args:List Tv}{i t:Nat}{x:Tv},HO m args=true->Mm args=true->sY (US.Qd args i) t=some x->x.ok m=true/\x.fact/\oe (uT (wj ρ args) i) t=x.val ρ
 |[],_,_,_,_,_,h=>by simp[US.Qd,sY]at h
 |y::args,i,t,x,h1,h2,h=>by
  simp only[HO,bD]at h1
  simp only[Mm,bD]at h2
  simp only[US.Qd,sY]at h
  simp only[wj,uT,oe]
  cases hb:Nat.beq i t with
  |true=>
   rw[hb]at h
   have h:=bI h
   subst h
   exact⟨h1.1,U3 h2.1,rfl⟩
  |false=>rw[hb]at h;exact Mo h1.2 h2.2 h
theorem E4{P:Program}{K:aL}:∀{rs:List ResultVar}{acc:List Tv}{s:St}{ρ:List Nat}{A:bP}{h:Heap},Inv s ρ h->Rel ρ s.m s.E A->yK P K rs acc s->EF P (oe A) h K rs (wj ρ acc)
 |[],acc,s,ρ,A,h,I,R,H=>by
  simp only[yK]at H
  obtain⟨s',C,_,_,_,_,H⟩:=ka I H
  split at H
  ·rw[C.r,C.h]at H
   exact H
  ·exact H.elim
 | .tmp t::rs,acc,s,ρ,A,h,I,R,H=>by
   simp only[yK]at H
   simp only[EF]
   split at H
   ·rename_i x hx
    have:=E4 I R H
    simp only[wj]at this
    rw[(R.get t x hx).2.2]
    exact this
   ·exact H.elim
 | .cell a t::rs,acc,s,ρ,A,h,I,R,H=>by
   simp only[yK]at H
   simp only[EF]
   split at H
   ·rename_i id off hx
    have hv:oe A a=VP (gh ρ id) off:=(gY R hx).2.2
    rw[hv]
    split at H
    ·rename_i cs hf
     obtain⟨i,hi,_⟩:=mJ (ρ:=ρ) hf
     split at H
     ·rename_i h1
      split at H
      ·rename_i y hy
       have:=EW (ρ:=ρ) hy
       exact L6 h1 I.vars i hi off (v:=y.v ρ) (by simpa using this) (E4 (acc:= .v (.l y)::acc) I R H)
      ·exact H.elim
     ·split at H
      ·rename_i n h2
       split at H
       ·rename_i ys hy
        obtain⟨e1,e2⟩:=wm (ρ:=ρ) hy
        exact Hs h2 I.vars i hi off e1 e2 (E4 (acc:= .v (.a ys)::acc) I R H)
       ·exact H.elim
      ·exact H.elim
    ·exact H.elim
   ·exact H.elim
theorem E5{P:Program}(hm:P.follows .mixedOrders=true){f:FuncId}{fn:Func}{c:Code}(hf:P.funcs[f]?=some fn)(hb:fn.body=some c)(hn:(fn.name== "runtime.NumGoroutine")=false)
 (an:Nat->Option An) {args:List Tv} {L:List (Nat×List Lf)} {ρ:List Nat} {h:Heap} {K:aL} (m n:Nat) (hk:fn.ntmps-(wj ρ args).length=m) (PP:(wj ρ args).length+m=n) (rs:List ResultVar) (hr:fn.results.toList=rs)
 (ha:QA args L ρ=true) (V:Vars h (mn ρ L))
 (H:Kl P n an c 1 (fun s=>yK P K rs [] s) (fun _ _=>False) (fun s=>yK P K rs [] s) (US args L ρ h)):aG P f (wj ρ args).toArray h K:=by
 simp only[QA,bD]at ha
 obtain⟨a1,a2,a3,a4⟩:=ha
 refine EI hm hf hb hn (Ya an) m n hk PP rs hr ?_
 have C:Cl (US args L ρ h) ρ h:=⟨V,(nM ρ).symm,rfl,rfl,rfl,rfl,rfl,a2,Qz a4⟩
 have R:Rel ρ (US args L ρ h).m (US args L ρ h).E (uT (wj ρ args) 0):=⟨fun t x hx=>Mo a1 a3 hx⟩
 have tr:To (US args L ρ h) ρ (fun s=>yK P K rs [] s) (fun A h=>PO P A h K rs):=fun s ρ A h I R _ k=>E4 I R k
 exact Zb c C.inv R (Nx.refl _ _) tr (fun i s ρ A h _ _ _ k=>k.elim) tr H
end Go.Mx
