import Derived.Test.YtcnfcnoooecchaaGreatDoorM6
set_option linter.unusedVariables false
set_option linter.unusedSimpArgs false
set_option linter.constructorNameAsVariable false
namespace Go.Mx
theorem nO:∀l:List Nat,jW l=l.length
 |[]=>rfl
 |_::l=>by simp[jW,nO l]
theorem mq:∀l:List Lf,AP l=l.length
 |[]=>rfl
 |_::l=>by simp[AP,mq l]
theorem gA{a b:Nat}:Nat.blt a b=true↔a<b:=by rw[Nat.blt_eq]
theorem lH:∀(ρ y:List Nat)(i:Nat),i<ρ.length->gf (ρ++y) i=gf ρ i
 |[],_,_,h=>by simp at h
 |_::_,_,0,_=>rfl
 |_::ρ,y,i+1,h=>by simp only[List.cons_append,gf];exact lH ρ y i (by simpa using h)
theorem vt:∀(ρ:List Nat)(b:Nat)(y:List Nat),gf (ρ++b::y) ρ.length=b
 |[],_,_=>rfl
 |_::ρ,b,y=>by simp only[List.cons_append,List.length_cons,gf];exact vt ρ b y
theorem DR{ρ y:List Nat}:∀{l:List Nat},(∀i,i∈l->i<ρ.length)->yG (ρ++y) l=yG ρ l
 |[],_=>rfl
 |i::l,h=>by simp only[yG];rw[lH _ _ _ (h i (by simp)),DR fun j hj=>h j (by simp[hj])]
theorem Y5{ρ y:List Nat}{c:Cp}(h:Qh ρ.length c=true):c.v' (ρ++y)=c.v' ρ:=by
 cases c with
 |p id off=>simp only[Cp.v'];rw[lH _ _ _ (gA.1 h)]
 |v x=>rfl
theorem Fb{ρ y:List Nat}:∀{cs:List Cp},qp ρ.length cs=true->H9 (ρ++y) cs=H9 ρ cs
 |[],_=>rfl
 |c::cs,h=>by
  simp only[qp,bK]at h
  simp only[H9];rw[Y5 h.1,Fb h.2]
theorem KI{ρ y:List Nat}{x:Lf}(h:x.ok ρ.length=true):x.v (ρ++y)=x.v ρ:=by
 cases x<;>try rfl
 case p id off=>simp only[Lf.v];rw[lH _ _ _ (gA.1 h)]
 case e x i sz off=>cases off<;>rfl
 case f fn fs cs=>
  simp only[Lf.ok,bK]at h
  simp only[Lf.v];rw[Fb h.1,Fb h.2]
theorem jF{ρ y:List Nat}:∀{xs:List Lf},cY ρ.length xs=true->eW (ρ++y) xs=eW ρ xs
 |[],_=>rfl
 |x::xs,h=>by
  simp only[cY,bK]at h
  simp only[eW];rw[KI h.1,jF h.2]
theorem Qt{ρ y:List Nat}{x:Av}(h:x.ok ρ.length=true):x.v (ρ++y)=x.v ρ:=by
 cases x with
 |l x=>exact KI h
 |a xs=>simp only[Av.v];rw[jF h]
theorem Mw{ρ y:List Nat}:∀{xs:List Av},qt ρ.length xs=true->X4 (ρ++y) xs=X4 ρ xs
 |[],_=>rfl
 |x::xs,h=>by
  simp only[qt,bK]at h
  simp only[X4];rw[Qt h.1,Mw h.2]
theorem Fc{ρ y:List Nat}{x:Tv}(h:x.ok ρ.length=true):x.val (ρ++y)=x.val ρ:=by
 cases x with
 |v x=>exact Qt h
 |t xs=>simp only[Tv.val];rw[Mw h]
theorem zE{ρ y:List Nat}:∀{L:List (Nat×List Lf)},u6 ρ.length L=true->mn (ρ++y) L=mn ρ L
 |[],_=>rfl
 |(i,xs)::L,h=>by
  simp only[u6,bK]at h
  simp only[mn];rw[lH _ _ _ (gA.1 h.1.1),jF h.1.2,zE h.2]
theorem aeR{m n:Nat}{c:Cp}(h:Qh m c=true)(hm:m<=n):Qh n c=true:=by
 cases c with
 |p id off=>exact gA.2 (fp (gA.1 h) hm)
 |v x=>rfl
theorem KJ{m n:Nat}(hm:m<=n):∀{cs:List Cp},qp m cs=true->qp n cs=true
 |[],_=>rfl
 |c::cs,h=>by
  simp only[qp,bK]at h⊢
  exact⟨aeR h.1 hm,KJ hm h.2⟩
theorem Yb{m n:Nat}{x:Lf}(h:x.ok m=true)(hm:m<=n):x.ok n=true:=by
 cases x<;>try rfl
 case p id off=>exact gA.2 (fp (gA.1 h) hm)
 case f fn fs cs=>
  simp only[Lf.ok,bK]at h⊢
  exact⟨KJ hm h.1,KJ hm h.2⟩
theorem Fe{m n:Nat}(hm:m<=n):∀{xs:List Lf},cY m xs=true->cY n xs=true
 |[],_=>rfl
 |x::xs,h=>by
  simp only[cY,bK]at h⊢
  exact⟨Yb h.1 hm,Fe hm h.2⟩
theorem Yc{m n:Nat}{x:Av}(h:x.ok m=true)(hm:m<=n):x.ok n=true:=by
 cases x with
 |l x=>exact Yb h hm
 |a xs=>exact Fe hm h
theorem Qu{m n:Nat}(hm:m<=n):∀{xs:List Av},qt m xs=true->qt n xs=true
 |[],_=>rfl
 |x::xs,h=>by
  simp only[qt,bK]at h⊢
  exact⟨Yc h.1 hm,Qu hm h.2⟩
theorem aeS{m n:Nat}{x:Tv}(h:x.ok m=true)(hm:m<=n):x.ok n=true:=by
 cases x with
 |v x=>exact Yc h hm
 |t xs=>exact Qu hm h
theorem UX{m n:Nat}(hm:m<=n):∀{L:List (Nat×List Lf)},u6 m L=true->u6 n L=true
 |[],_=>rfl
 |(i,xs)::L,h=>by
  simp only[u6,bK]at h⊢
  exact⟨⟨gA.2 (fp (gA.1 h.1.1) hm),Fe hm h.1.2⟩,UX hm h.2⟩
theorem AQ{s:Sh}{Q:Lf->Prop}(h:exS s Q):∃x,Q x/\(∀m,x.ok m=true)/\x.fact:=by
 cases s<;>(obtain⟨x,hx⟩:=h;exact⟨_,hx,fun _=>rfl,trivial⟩)
theorem rm:∀{ss:List Sh}{Q:List Lf->Prop},exL ss Q->∃xs,Q xs/\(∀m,cY m xs=true)/\dL xs
 |[],Q,h=>⟨[],h,fun _=>rfl,trivial⟩
 |s::ss,Q,h=>by
  obtain⟨x,h1,h2,h3⟩:=AQ h
  obtain⟨xs,h4,h5,h6⟩:=rm h1
  exact⟨x::xs,h4,fun m=>by simp[cY,h2 m,h5 m],h3,h6⟩
theorem Il{s:As}{Q:Av->Prop}(h:exA s Q):∃x,Q x/\(∀m,x.ok m=true)/\x.fact:=by
 cases s with
 |l s=>obtain⟨x,h1,h2,h3⟩:=AQ h;exact⟨.l x,h1,h2,h3⟩
 |a ss=>obtain⟨xs,h1,h2,h3⟩:=rm h;exact⟨.a xs,h1,h2,h3⟩
theorem DS:∀{ss:List As}{Q:List Av->Prop},YV ss Q->∃xs,Q xs/\(∀m,qt m xs=true)/\zB xs
 |[],Q,h=>⟨[],h,fun _=>rfl,trivial⟩
 |s::ss,Q,h=>by
  obtain⟨x,h1,h2,h3⟩:=Il h
  obtain⟨xs,h4,h5,h6⟩:=DS h1
  exact⟨x::xs,h4,fun m=>by simp[qt,h2 m,h5 m],h3,h6⟩
theorem vu{s:Ts}{Q:Tv->Prop}(h:C7 s Q):∃x,Q x/\(∀m,x.ok m=true)/\x.fact:=by
 cases s with
 |v s=>obtain⟨x,h1,h2,h3⟩:=Il h;exact⟨.v x,h1,h2,h3⟩
 |t ss=>obtain⟨xs,h1,h2,h3⟩:=DS h;exact⟨.t xs,h1,h2,h3⟩
structure Inv(s:St)(ρ:List Nat)(th:Heap):Prop where
 vars:Vars th (mn ρ s.L)
 len:ρ.length=s.m
 ext:∃x:List Nat,ρ=s.ρ++x/\x.length=s.nw/\∀b,b∈x->s.h.size<=b
 fr:Fr (In (yG ρ s.so)) s.h th
 cln:s.d=false->s.nw=0/\s.so=[]/\th=s.h
 so:∀i,i∈s.so->i<s.ρ.length
 wL:u6 s.m s.L=true
 zF:ra s.L
structure Cl(s:St)(ρ:List Nat)(th:Heap):Prop where
 vars:Vars th (mn ρ s.L)
 len:ρ.length=s.m
 r:s.ρ=ρ
 h:s.h=th
 nw:s.nw=0
 so:s.so=[]
 d:s.d=false
 wL:u6 s.m s.L=true
 zF:ra s.L
theorem Cl.inv{s:St}{ρ:List Nat}{th:Heap}(C:Cl s ρ th):Inv s ρ th:=
 ⟨C.vars,C.len,⟨[],by simp[C.r],by simp[C.nw],by simp⟩,by rw[C.h,C.so];exact Fr.refl _ _,fun _=>⟨C.nw,C.so,C.h.symm⟩,by simp[C.so],C.wL,C.zF⟩
theorem Inv.cl{s:St}{ρ:List Nat}{th:Heap}(I:Inv s ρ th)(hd:s.d=false):Cl s ρ th:=by
 obtain⟨h1,h2,h3⟩:=I.cln hd
 obtain⟨x,e1,e2,_⟩:=I.ext
 have:x=[]:=pJ (by omega)
 subst this
 exact⟨I.vars,I.len,by simpa using e1.symm,h3.symm,h1,h2,hd,I.wL,I.zF⟩
structure Rel(ρ:List Nat)(m:Nat)(E:List (Nat×Option Tv))(A:bP):Prop where
 get:∀t x,tL E t=some x->x.ok m=true/\x.fact/\oe A t=x.val ρ
theorem Rel.ext{ρ y:List Nat}{m n:Nat}{E:List (Nat×Option Tv)}{A:bP}(R:Rel ρ m E A)(hm:ρ.length=m)(hn:m<=n):Rel (ρ++y) n E A:=
 ⟨fun t x h=>by
  obtain⟨h1,h2,h3⟩:=R.get t x h
  exact⟨aeS h1 hn,h2,by rw[Fc (by rw[hm];exact h1)];exact h3⟩⟩
theorem My:∀{n:Nat}{ρ:List Nat}{k:List Nat->Prop},qB n ρ k->∀x:List Nat,x.length=n->k (ρ++x)
 |0,ρ,k,h,x,hx=>by
  obtain rfl:=pJ hx
  simpa[qB]using h
 |n+1,ρ,k,h,[],hx=>by simp at hx
 |n+1,ρ,k,h,b::x,hx=>by
  have:=My (h b) x (by simpa using hx)
  simpa using this
theorem DT{h:Heap}:∀{l:List Nat}{Q:Prop},YW h l Q->(∀b,b∈l->h.size<=b)->Q
 |[],Q,H,_=>H
 |b::l,Q,H,hb=>DT (H (hb b (by simp))) fun c hc=>hb c (by simp[hc])
theorem Im:∀(a b:List Nat),UR a (a++b)=b
 |[],b=>rfl
 |_::a,b=>Im a b
theorem ka{s:St}{ρ:List Nat}{th:Heap}{k:St->Prop}(I:Inv s ρ th)(H:sync s k):∃s',Cl s' ρ th/\s'.E=s.E/\s'.L=s.L/\s'.m=s.m/\s'.md=s.md/\k s':=by
 unfold sync at H
 cases hd:s.d with
 |false=>
  rw[hd]at H
  exact⟨s,I.cl hd,rfl,rfl,rfl,rfl,H⟩
 |true=>
  rw[hd]at H
  obtain⟨x,e1,e2,e3⟩:=I.ext
  have h1:=My H x e2 th
  rw[<-e1]at h1
  have h2:UR s.ρ ρ=x:=by rw[e1];exact Im _ _
  rw[h2]at h1
  have h3:=DT h1 e3 I.fr I.vars
  exact⟨{s with ρ:=ρ,nw:=0,so:=[],d:=false,h:=th},⟨I.vars,I.len,rfl,rfl,rfl,rfl,rfl,I.wL,I.zF⟩,rfl,rfl,rfl,rfl,h3⟩
theorem Qv(ρ:List Nat)(v:Value):(Qi v).v ρ=v:=by cases v<;>rfl
theorem Mz(m:Nat)(v:Value):(Qi v).ok m=true:=by cases v<;>rfl
theorem DU(v:Value):(Qi v).fact:=by cases v<;>first|rfl|trivial
theorem kQ{ρ:List Nat}{m:Nat}{E:List (Nat×Option Tv)}{A:bP}(R:Rel ρ m E A){x:Operand}{y:Tv}(h:AN E x=some y):y.ok m=true/\y.fact/\gD A x=y.val ρ:=by
 cases x with
 |tmp t=>exact R.get t y h
 |const v=>
  simp only[AN,dD]at h
  subst h
  exact⟨Mz m v,DU v,(Qv ρ v).symm⟩
 |global g=>
  simp only[AN,dD]at h
  subst h
  exact⟨rfl,trivial,rfl⟩
 |func f=>
  simp only[AN,dD]at h
  subst h
  exact⟨rfl,trivial,rfl⟩
theorem gT{ρ:List Nat}{m:Nat}{E:List (Nat×Option Tv)}{A:bP}(R:Rel ρ m E A){x:Operand}{y:Lf}(h:lf E x=some y):y.ok m=true/\y.fact/\gD A x=y.v ρ:=by
 unfold lf at h
 split at h
 ·rename_i z hz
  have h:=bF h
  subst h
  exact kQ R hz
 ·cases h
theorem nP{s:St}{ρ:List Nat}{th:Heap}{A:bP}(I:Inv s ρ th)(R:Rel ρ s.m s.E A):∀{l:List Operand},KC (jW s.ρ) s.E l=true->∀x,x∈l->gD A x=Hs s.ρ s.E x
 |[],_,x,hx=>by simp at hx
 |y::l,h,x,hx=>by
  simp only[KC,bK]at h
  rcases aO.1 hx with rfl|hx
  ·cases hy:AN s.E x with
   |none=>rw[hy]at h;simp at h
   |some z=>
    rw[hy]at h
    obtain⟨e,e1,_,_⟩:=I.ext
    rw[(kQ R hy).2.2]
    unfold Hs
    rw[hy,e1]
    exact Fc (by rw[<-nO];exact h.1)
  ·exact nP I R h.2 x hx
structure Nx(s:St)(ρ:List Nat)(s':St)(kE:List Nat):Prop where
 m:s.m<=s'.m
 md:∃new,s'.md=new++s.md/\∀id,ga new id=false->id<s.m->dM s'.L id=dM s.L id
 r:∃y,kE=ρ++y
theorem hJ{s s':St}{ρ:List Nat}(hm:s'.m=s.m)(hL:s'.L=s.L)(lI:s'.md=s.md):Nx s ρ s' ρ:=⟨by omega,⟨[],by simp[lI],fun _ _ _=>by rw[hL]⟩,⟨[],by simp⟩⟩
theorem Nx.refl(s:St)(ρ:List Nat):Nx s ρ s ρ:=hJ rfl rfl rfl
theorem Io:∀{a b:List Nat}{i:Nat},ga (a++b) i=(ga a i||ga b i)
 |[],b,i=>rfl
 |x::a,b,i=>by simp only[List.cons_append,ga];rw[Io,Bool.or_assoc]
theorem Nx.trans{s1 s2 s3:St}{ρ1 Kg ρ3:List Nat}(h:Nx s1 ρ1 s2 Kg)(k:Nx s2 Kg s3 ρ3):Nx s1 ρ1 s3 ρ3:=by
 obtain⟨m1,⟨n1,a1,b1⟩,⟨y1,c1⟩⟩:=h
 obtain⟨m2,⟨n2,a2,b2⟩,⟨y2,c2⟩⟩:=k
 refine⟨by omega,⟨n2++n1,by rw[a2,a1,gu],fun id hid hm=> ?_⟩,⟨y1++y2,by rw[c2,c1,gu]⟩⟩
 rw[Io,Bool.or_eq_false_iff]at hid
 rw[b2 id hid.1 (by omega),b1 id hid.2 hm]
def kb(A:bP)(s:St)(ρ:List Nat)(k:St->Tv->Prop)(v:Value)(h':Heap):Prop:=
 ∃s' x kE,Inv s' kE h'/\Rel kE s'.m s'.E A/\v=x.val kE/\x.ok s'.m=true/\x.fact/\Nx s ρ s' kE/\k s' x
theorem bZ{A:bP}{s:St}{ρ:List Nat}{k:St->Tv->Prop}{h:Heap}{x:Tv}{v:Value}(I:Inv s ρ h)(R:Rel ρ s.m s.E A)(hv:v=x.val ρ)(ho:x.ok s.m=true)(hf:x.fact)(hk:k s x):kb A s ρ k v h:=
 ⟨s,x,ρ,I,R,hv,ho,hf,Nx.refl _ _,hk⟩
theorem ke{A:bP}{s s':St}{ρ:List Nat}{k:St->Tv->Prop}{h:Heap}{x:Tv}{v:Value}(I:Inv s' ρ h)(R:Rel ρ s'.m s'.E A)(N:Nx s ρ s' ρ)(hv:v=x.val ρ)(ho:x.ok s'.m=true)(hf:x.fact)(hk:k s' x):kb A s ρ k v h:=
 ⟨s',x,ρ,I,R,hv,ho,hf,N,hk⟩
theorem dU{P:Program}{e:Operand->Value}{op:Op}{ty:TypeId}{h:Heap}{K:aL}{q:Sem Value}(h1:iX op=none)(h2:mO op=none)(h3:lD e ty op=some q)(H:pop P q fun v=>K v h):gL P e op ty h K:=by
 unfold gL;simp only[h1,h2,h3];exact H
theorem kf{P:Program}{A:bP}{s:St}{ρ:List Nat}{h:Heap}{op:Op}{ty:TypeId}{rt:Option Ts}{k:St->Tv->Prop}(I:Inv s ρ h)(R:Rel ρ s.m s.E A)(H:ou P s op ty rt k):gL P (gD A) op ty h (kb A s ρ k):=by
 unfold ou at H
 cases h1:iX op with
 |some x=>rw[h1]at H;exact H.elim
 |none=>
 cases h2:mO op with
 |some x=>rw[h1,h2]at H;exact H.elim
 |none=>
 rw[h1,h2]at H
 simp only at H
 cases h3:lD gN 0 op with
 |some q0=>
  rw[h3]at H
  simp only at H
  split at H
  ·rename_i hd
   have hc:lD (gD A) ty op=lD (Hs s.ρ s.E) ty op:=uq fun x hx=>nP I R hd x (by simpa using hx)
   split at H
   ·rename_i q hq
    refine dU h1 h2 (by rw[hc];exact hq) (H.mono fun rv hr=> ?_)
    unfold exR at hr
    cases rt with
    |none=>exact bZ (x:= .v (.l (.r rv))) I R rfl rfl trivial hr
    |some t=>
     obtain⟨x,⟨e1,e2⟩,e3,e4⟩:=vu hr
     obtain⟨z,e5,_,_⟩:=I.ext
     exact bZ I R (by rw[e1,e5,Fc (e3 _)]) (e3 _) e4 e2
   ·exact H.elim
  ·exact H.elim
 |none=>
  rw[h3]at H
  simp only at H
  obtain⟨s',C,hE,hL,hm,lI,H⟩:=ka I H
  have I':=C.inv
  have R':Rel ρ s'.m s'.E A:=by rw[hE,hm];exact R
  have hp:∀e,lD e ty op=none:=fun e=>by
   have:=nK gN e 0 ty op
   rw[h3]at this
   cases hh:lD e ty op with
   |none=>rfl
   |some _=>rw[hh]at this;cases this
  split at H
  ·rename_i hd
   have hcr:qE (gD A) op=qE (Hs s'.ρ s'.E) op:=pF fun x hx=>nP I' R' hd x (by simpa using hx)
   have hce:HA (gD A) ty op=HA (Hs s'.ρ s'.E) ty op:=Ao fun x hx=>nP I' R' hd x (by simpa using hx)
   have hcu:HB (gD A) op=HB (Hs s'.ρ s'.E) op:=Ap fun x hx=>nP I' R' hd x (by simpa using hx)
   unfold gL
   simp only[h1,h2,hp,hcr,hce,hcu]
   split at H
   ·rename_i q hq
    simp only[hq]
    rw[<-C.h]
    refine H.mono fun rv hr=> ?_
    unfold exR at hr
    cases rt with
    |none=>rw[C.h];exact ke (x:= .v (.l (.r rv))) I' R' (hJ hm hL lI) rfl rfl trivial hr
    |some t=>
     obtain⟨x,⟨e1,e2⟩,e3,e4⟩:=vu hr
     rw[C.h]
     exact ke I' R' (hJ hm hL lI) (by rw[e1,C.r]) (e3 _) e4 e2
   ·rename_i hq
    simp only[hq]
    split at H
    ·rename_i q js
     simp only[js]
     rw[<-C.h]
     refine H.mono fun rv h' hr=> ?_
     unfold ou.aeM at hr
     cases rt with
     |none=>
      obtain⟨e2,e5⟩:=hr
      rw[C.r]at e2
      have C':Cl {s' with h:=h'} ρ h':=⟨e2,C.len,C.r,rfl,C.nw,C.so,C.d,C.wL,C.zF⟩
      exact ke (s':={s' with h:=h'}) (x:= .v (.l (.r rv))) C'.inv R' (hJ hm hL lI) rfl rfl trivial e5
     |some t=>
      obtain⟨x,⟨e1,e2,e5⟩,e3,e4⟩:=vu hr
      rw[C.r]at e2
      have C':Cl {s' with h:=h'} ρ h':=⟨e2,C.len,C.r,rfl,C.nw,C.so,C.d,C.wL,C.zF⟩
      exact ke (s':={s' with h:=h'}) C'.inv R' (hJ hm hL lI) (by rw[e1,C.r]) (e3 _) e4 e5
    ·rename_i js
     simp only[js]
     split at H
     ·rename_i q hq3
      simp only[hq3]
      rw[<-C.h]
      refine⟨fun w hw=> ?_⟩
      obtain⟨w',a1,a2,a3,a4⟩:=H.out w hw
      rw[C.r]at a3
      have C':Cl {s' with h:=w'.heap} ρ w'.heap:=⟨a3,C.len,C.r,rfl,C.nw,C.so,C.d,C.wL,C.zF⟩
      exact⟨w',a1,a2,ke (s':={s' with h:=w'.heap}) (x:= .v (.l .u)) C'.inv R' (hJ hm hL lI) rfl rfl trivial a4⟩
     ·exact H.elim
  ·exact H.elim
theorem pN{ids:List Nat}:∀{L:List (Nat×List Lf)}{Q:List (Nat×List Lf)->Prop},sS ids L Q->∃L',Q L'/\(∀m,u6 m L=true->u6 m L'=true)/\(ra L->ra L')/\∀id,ga ids id=false->dM L' id=dM L id
 |[],Q,h=>⟨[],h,fun _ h=>h,fun h=>h,fun _ _=>rfl⟩
 |(i,xs)::L,Q,h=>by
  unfold sS at h
  cases hi:ga ids i with
  |true=>
   rw[hi]at h
   obtain⟨ys,h1,h2,h3⟩:=rm h
   obtain⟨L',h4,h5,h6,h7⟩:=pN h1
   refine⟨(i,ys)::L',h4,fun m hm=> ?_,fun hf=>⟨h3,h6 hf.2⟩,fun id hid=> ?_⟩
   ·simp only[u6,bK]at hm⊢
    exact⟨⟨hm.1.1,h2 m⟩,h5 m hm.2⟩
   ·unfold dM
    cases hb:Nat.beq i id with
    |true=>have:=fo hb;subst this;rw[hi]at hid;cases hid
    |false=>exact h7 id hid
  |false=>
   rw[hi]at h
   obtain⟨L',h4,h5,h6,h7⟩:=pN h
   refine⟨(i,xs)::L',h4,fun m hm=> ?_,fun hf=>⟨hf.1,h6 hf.2⟩,fun id hid=> ?_⟩
   ·simp only[u6,bK]at hm⊢
    exact⟨hm.1,h5 m hm.2⟩
   ·unfold dM
    cases Nat.beq i id with
    |true=>rfl
    |false=>exact h7 id hid
theorem UY{P:Program}{A:bP}{s:St}{ρ:List Nat}{h:Heap}{f:Operand}{args:List Operand}{ty:TypeId}{k:St->Tv->Prop}(I:Inv s ρ h)(R:Rel ρ s.m s.E A)(H:Qm P s f args ty k):iW P (gD A f) (pA (gD A) args) h (kb A s ρ k):=by
 unfold Qm at H
 obtain⟨s',C,hE,hL,hm,lI,H⟩:=ka I H
 have I':=C.inv
 have R':Rel ρ s'.m s'.E A:=by rw[hE,hm];exact R
 split at H
 ·exact H.elim
 ·rename_i hd
  have hf:=nP I' R' hd f (by simp)
  have ha:pA (gD A) args=pA (Hs s'.ρ s'.E) args:=kK args fun x hx=>nP I' R' hd x (by simp[hx])
  have key:∀rv h',(sS (ja s'.E (args++[f])) s'.L fun L'=>match ij P ty with
   |some t=>C7 t fun x=>rv=x.val s'.ρ/\Vars h' (mn s'.ρ L')/\k {s' with L:=L',md:=ja s'.E (args++[f])++s'.md,h:=h'} x
   |none=>Vars h' (mn s'.ρ L')/\k {s' with L:=L',md:=ja s'.E (args++[f])++s'.md,h:=h'} (.v (.l (.r rv))))->kb A s ρ k rv h':=fun rv h' hq=>by
   obtain⟨L',q1,q2,q3,q4⟩:=pN hq
   have fin:∀x:Tv,Vars h' (mn s'.ρ L')->rv=x.val ρ->(∀m,x.ok m=true)->x.fact->k {s' with L:=L',md:=ja s'.E (args++[f])++s'.md,h:=h'} x->kb A s ρ k rv h':=fun x v1 v2 v3 v4 v5=>by
    rw[C.r]at v1
    have C':Cl {s' with L:=L',md:=ja s'.E (args++[f])++s'.md,h:=h'} ρ h':=⟨v1,C.len,C.r,rfl,C.nw,C.so,C.d,q2 _ C.wL,q3 C.zF⟩
    exact ke (s':={s' with L:=L',md:=ja s'.E (args++[f])++s'.md,h:=h'}) C'.inv R' ((hJ hm hL lI).trans ⟨aY _,⟨ja s'.E (args++[f]),rfl,fun id hid _=>q4 id hid⟩,⟨[],by simp⟩⟩) v2 (v3 _) v4 v5
   split at q1
   ·obtain⟨x,⟨e1,e2,e5⟩,e3,e4⟩:=vu q1
    exact fin x e2 (by rw[e1,C.r]) e3 e4 e5
   ·exact fin (.v (.l (.r rv))) q1.1 rfl (fun _=>rfl) trivial q1.2
  rw[hf,ha,<-C.h]
  cases f with
  |func n=>
   show aG P n ((#[]:Array Value).toList++pA (Hs s'.ρ s'.E) args++(#[]:Array Value).toList).toArray s'.h _
   rw[show((#[]:Array Value).toList++pA (Hs s'.ρ s'.E) args++(#[]:Array Value).toList:List Value)=pA (Hs s'.ρ s'.E) args by simp]
   exact Ak (fun rv h' hq=>key rv h' hq) H
  |tmp t=>exact pB (fun rv h' hq=>key rv h' hq) H
  |const v=>exact pB (fun rv h' hq=>key rv h' hq) H
  |global g=>exact pB (fun rv h' hq=>key rv h' hq) H
theorem Ip{ρ:List Nat}{m:Nat}{E:List (Nat×Option Tv)}{A:bP}(R:Rel ρ m E A){c:Operand}{x:Bool}{kn:Option (Bool×Bool)}(hc:lf E c=some (.b x kn)){v:Bool}(hx:x=v):Rel ρ m (flag E c v) A:=by
 unfold flag
 split
 ·rename_i t
  split
  ·rename_i y sN hy
   have hy':lf E (.tmp t)=some (.b y sN):=by unfold lf AN;simp only[hy]
   rw[hc]at hy'
   simp only[dD,Lf.b.injEq]at hy'
   obtain⟨rfl,rfl⟩:=hy'
   refine⟨fun t' z hz=> ?_⟩
   unfold tL at hz
   cases hb:Nat.beq t t' with
   |true=>
    rw[hb]at hz
    simp only[dD]at hz
    subst hz
    have:=fo hb
    subst this
    exact⟨rfl,hx,(R.get t _ hy).2.2⟩
   |false=>rw[hb]at hz;exact R.get t' z hz
  ·exact R
 ·exact R
theorem AR{s:St}{ρ:List Nat}{h:Heap}{A:bP}{c:Operand}{x:Bool}{kn:Option (Bool×Bool)}{yes no:St->Prop}(I:Inv s ρ h)(R:Rel ρ s.m s.E A)(hc:lf s.E c=some (.b x kn))(H:brB x kn s c yes no):
 (x=true->∃s',Inv s' ρ h/\Rel ρ s'.m s'.E A/\s'.m=s.m/\s'.L=s.L/\s'.md=s.md/\yes s')/\(x=false->∃s',Inv s' ρ h/\Rel ρ s'.m s'.E A/\s'.m=s.m/\s'.L=s.L/\s'.md=s.md/\no s'):=by
 have hf:=(gT R hc).2.1
 unfold brB at H
 split at H
 ·rename_i l
  have hx:x=true:=hf
  exact⟨fun _=>⟨s,I,R,rfl,rfl,rfl,H⟩,fun e=>(by rw[hx]at e;cases e)⟩
 ·rename_i l
  have hx:x=false:=hf
  exact⟨fun e=>(by rw[hx]at e;cases e),fun _=>⟨s,I,R,rfl,rfl,rfl,H⟩⟩
 ·have I':∀v,Inv {s with E:=flag s.E c v} ρ h:=fun v=>⟨I.vars,I.len,I.ext,I.fr,I.cln,I.so,I.wL,I.zF⟩
  exact⟨fun e=>⟨_,I' true,Ip R hc e,rfl,rfl,rfl,H.1 e⟩,fun e=>⟨_,I' false,Ip R hc e,rfl,rfl,rfl,H.2 e⟩⟩
theorem zG:∀{cs:List Lf}{o n:Nat}{ys:List Lf},nE cs o n=some ys->ys=(cs.drop o).take n/\ys.length=n
 |cs,0,0,ys,h=>by
  simp only[nE,dD]at h
  subst h
  simp
 |x::xs,0,n+1,ys,h=>by
  simp only[nE]at h
  split at h
  ·rename_i r hr
   have h:=bF h
   subst h
   obtain⟨e1,e2⟩:=zG hr
   simp only[oq]at e1
   simp[<-e1,e2]
  ·cases h
 |x::xs,o+1,n,ys,h=>by
  simp only[nE]at h
  obtain⟨e1,e2⟩:=zG h
  exact⟨by rw[e1];rfl,e2⟩
 |[],o+1,n,ys,h=>by cases n<;>simp[nE]at h
 |[],0,n+1,ys,h=>by simp[nE]at h
theorem fR(ρ:List Nat):∀xs:List Lf,eW ρ xs=xs.map (Lf.v ρ)
 |[]=>rfl
 |x::xs=>by simp[eW,fR ρ xs]
theorem wM{ρ:List Nat}{cs:List Lf}{o n:Nat}{ys:List Lf}(h:nE cs o n=some ys):Kw (eW ρ cs) o n=eW ρ ys/\(eW ρ ys).length=n:=by
 obtain⟨e1,e2⟩:=zG h
 rw[pL,fR,fR,e1,nQ,List.map_drop]
 refine⟨rfl,?_⟩
 rw[<-List.map_drop,<-nQ,bB,<-e1,e2]
theorem dW{m:Nat}:∀{xs:List Lf},cY m xs=true↔∀x,x∈xs->x.ok m=true
 |[]=>by simp[cY]
 |x::xs=>by simp[cY,dW (xs:=xs)]
theorem cZ:∀{xs:List Lf},dL xs↔∀x,x∈xs->x.fact
 |[]=>by simp[dL]
 |x::xs=>by simp[dL,cZ (xs:=xs)]
theorem sT{m:Nat}{cs:List Lf}{o n:Nat}{ys:List Lf}(h:nE cs o n=some ys)(hc:cY m cs=true)(hf:dL cs):cY m ys=true/\dL ys:=by
 obtain⟨e1,_⟩:=zG h
 have hm:∀x,x∈ys->x∈cs:=fun x hx=>by rw[e1]at hx;exact wN (lR hx)
 exact⟨dW.2 fun x hx=>dW.1 hc x (hm x hx),cZ.2 fun x hx=>cZ.1 hf x (hm x hx)⟩
theorem mV{m:Nat}:∀{L:List (Nat×List Lf)}{id:Nat}{cs:List Lf},dM L id=some cs->u6 m L=true->ra L->id<m/\cY m cs=true/\dL cs
 |[],id,cs,h,_,_=>by simp[dM]at h
 |(i,xs)::L,id,cs,h,ho,hf=>by
  simp only[u6,bK]at ho
  unfold dM at h
  cases hb:Nat.beq i id with
  |true=>
   rw[hb]at h
   have h:=bF h
   subst h
   have:=fo hb
   subst this
   exact⟨gA.1 ho.1.1,ho.1.2,hf.1⟩
  |false=>rw[hb]at h;exact mV h ho.2 hf.2
theorem mK{ρ:List Nat}:∀{L:List (Nat×List Lf)}{id:Nat}{cs:List Lf},dM L id=some cs->∃i,qT (mn ρ L) i=some (gf ρ id,eW ρ cs)/\∀nB,E2 (mn ρ L) i (eW ρ nB)=mn ρ (za L id nB)
 |[],id,cs,h=>by simp[dM]at h
 |(j,xs)::L,id,cs,h=>by
  unfold dM at h
  unfold za
  cases hb:Nat.beq j id with
  |true=>
   rw[hb]at h
   have h:=bF h
   subst h
   have:=fo hb
   subst this
   exact⟨0,rfl,fun _=>rfl⟩
  |false=>
   rw[hb]at h
   obtain⟨i,h1,h2⟩:=mK (ρ:=ρ) h
   exact⟨i+1,h1,fun nB=>by simp only[mn,E2];rw[h2]⟩
theorem DV:∀{L:List (Nat×List Lf)}{id:Nat}{cs ys:List Lf},dM L id=some cs->∀j,dM (za L id ys) j=if id=j then some ys else dM L j
 |[],id,cs,ys,h,j=>by simp[dM]at h
 |(i,xs)::L,id,cs,ys,h,j=>by
  unfold dM at h
  unfold za
  cases hb:Nat.beq i id with
  |true=>
   have:=fo hb
   subst this
   simp only[dM]
   cases hj:Nat.beq i j with
   |true=>rw[aJ (fo hj)]
   |false=>rw[aF (fun e=>by subst e;simp at hj)]
  |false=>
   rw[hb]at h
   simp only[dM]
   cases hj:Nat.beq i j with
   |true=>
    have:=fo hj
    subst this
    rw[aF (fun e=>by subst e;simp at hb)]
   |false=>exact DV h j
theorem MA{m:Nat}:∀{L:List (Nat×List Lf)}{id:Nat}{ys:List Lf},u6 m L=true->ra L->cY m ys=true->dL ys->u6 m (za L id ys)=true/\ra (za L id ys)
 |[],id,ys,_,_,_,_=>⟨rfl,trivial⟩
 |(i,xs)::L,id,ys,ho,hf,h1,h2=>by
  simp only[u6,bK]at ho
  unfold za
  cases Nat.beq i id with
  |true=>exact⟨by simp[u6,ho.1.1,h1,ho.2],h2,hf.2⟩
  |false=>
   obtain⟨a,b⟩:=MA (id:=id) ho.2 hf.2 h1 h2
   exact⟨by simp[u6,ho.1.1,ho.1.2,a],hf.1,b⟩
theorem UZ{P:Program}{A:bP}{s:St}{ρ:List Nat}{h:Heap}{t:TypeId}{x:Operand}{k:St->Tv->Prop}{raw:Prop}(I:Inv s ρ h)(R:Rel ρ s.m s.E A)(H:loadT P s t (lf s.E x) k raw)(hr:raw->Da P (Instr.loadAt t (gD A x)) h fun v=>kb A s ρ k v h):Da P (Instr.loadAt t (gD A x)) h fun v=>kb A s ρ k v h:=by
 unfold loadT at H
 split at H
 ·rename_i id off hx
  have hv:=(gT R hx).2.2
  rw[hv]
  split at H
  ·rename_i cs hf
   obtain⟨o1,o2,o3⟩:=mV hf I.wL I.zF
   obtain⟨i,hi,_⟩:=mK (ρ:=ρ) hf
   split at H
   ·rename_i h1
    split at H
    ·rename_i y hy
     obtain⟨c1,c2⟩:=sT hy o2 o3
     obtain⟨e1,e2⟩:=wM (ρ:=ρ) hy
     refine Mq h1 I.vars i hi off (v:=y.v ρ) ?_ (bZ (x:= .v (.l y)) I R rfl (dW.1 c1 y (by simp)) (cZ.1 c2 y (by simp)) H)
     rw[pL]at e1
     have:=congrArg (·[0]?) e1
     simpa[eW,List.getElem?_take,List.getElem?_drop]using this
    ·exact H.elim
   ·rename_i h1
    split at H
    ·rename_i n h2
     split at H
     ·rename_i ys hy
      obtain⟨c1,c2⟩:=sT hy o2 o3
      obtain⟨e1,e2⟩:=wM (ρ:=ρ) hy
      exact HU h2 I.vars i hi off e1 e2 (bZ (x:= .v (.a ys)) I R rfl c1 c2 H)
     ·exact H.elim
    ·exact H.elim
  ·exact H.elim
 ·rename_i z j sz off hx
  have hv:=(gT R hx).2.2
  have ha:gD A x= .pointer (some (loadT.TV z j sz off)):=by rw[hv];cases off<;>rfl
  rw[ha]
  obtain⟨s',C,hE,hL,hm,lI,H⟩:=ka I H
  have R':Rel ρ s'.m s'.E A:=by rw[hE,hm];exact R
  split at H
  ·rename_i h1
   split at H
   ·rename_i sh hs
    obtain⟨y,⟨e1,e2⟩,e3,e4⟩:=AQ H
    rw[C.h]at e1
    rw[C.r]at e1
    exact Mo h1 (y.v ρ) e1 (ke (x:= .v (.l y)) C.inv R' (hJ hm hL lI) rfl (e3 _) e4 e2)
   ·exact H.elim
  ·split at H
   ·rename_i n ss h2 _
    obtain⟨ys,e1,e3,e4⟩:=rm H
    split at e1
    ·rename_i hn
     obtain⟨e1,e2⟩:=e1
     rw[C.h,C.r]at e1
     have hlen:(eW ρ ys).length=n:=by rw[fR,bB,<-mq];exact fo hn
     exact Mp h2 (eW ρ ys) hlen e1 (ke (x:= .v (.a ys)) C.inv R' (hJ hm hL lI) rfl (e3 _) e4 e2)
    ·exact e1.elim
   ·exact H.elim
 ·exact hr H
theorem wO{ρ:List Nat}{x:Lf}(h:zC x=true):gQ (x.v ρ)=true:=by
 cases x<;>try rfl
 case e x i sz off=>cases off<;>rfl
 case r v=>exact h
 case u=>cases h
theorem AU{ρ:List Nat}:∀{xs:List Lf},vn xs=true->(eW ρ xs).all gQ=true
 |[],_=>rfl
 |x::xs,h=>by
  simp only[vn,bK]at h
  simp only[eW,List.all_cons,bK]
  exact⟨wO h.1,AU h.2⟩
theorem Ff{ρ:List Nat}{w:Tv}{vs:List Lf}(h:AO w=some vs):(w.val ρ).cells=(eW ρ vs).toArray/\(eW ρ vs).all gQ=true:=by
 unfold AO at h
 split at h
 ·rename_i x
  split at h
  ·rename_i hp
   have h:=bF h
   subst h
   have h1:=wO (ρ:=ρ) hp
   exact⟨(qX h1).1,by simp[eW,h1]⟩
  ·cases h
 ·rename_i xs
  split at h
  ·rename_i hp
   have h:=bF h
   subst h
   exact⟨rfl,AU hp⟩
  ·cases h
 ·cases h
theorem AV{m:Nat}{w:Tv}{vs:List Lf}(h:AO w=some vs)(ho:w.ok m=true)(hf:w.fact):cY m vs=true/\dL vs:=by
 unfold AO at h
 split at h
 ·split at h
  ·have h:=bF h
   subst h
   have ho:Lf.ok m _=true:=ho
   exact⟨by simp[cY,ho],hf,trivial⟩
  ·cases h
 ·split at h
  ·have h:=bF h
   subst h
   exact⟨ho,hf⟩
  ·cases h
 ·cases h
theorem sU{ρ:List Nat}{m:Nat}:∀{cs:List Lf}{o:Nat}{vs nB:List Lf},lr cs o vs=some nB->eW ρ nB=kL (eW ρ cs) o (eW ρ vs)/\o+vs.length<=cs.length/\(cY m cs=true->cY m vs=true->cY m nB=true)/\(dL cs->dL vs->dL nB)
 |cs,0,[],nB,h=>by
  have:cs=nB:=by cases cs<;>simpa[lr]using h
  subst this
  exact⟨by cases cs<;>rfl,by simp,fun h _=>h,fun h _=>h⟩
 |c::cs,0,v::vs,nB,h=>by
  simp only[lr]at h
  split at h
  ·rename_i r hr
   have h:=bF h
   subst h
   obtain⟨e1,e2,e3,e4⟩:=sU (ρ:=ρ) (m:=m) hr
   refine⟨by simp only[eW,kL];rw[e1],by simp only[List.length_cons];omega,fun a b=> ?_,fun a b=>⟨b.1,e4 a.2 b.2⟩⟩
   simp only[cY,bK]at a b⊢
   exact⟨b.1,e3 a.2 b.2⟩
  ·cases h
 |c::cs,o+1,vs,nB,h=>by
  simp only[lr]at h
  split at h
  ·rename_i r hr
   have h:=bF h
   subst h
   obtain⟨e1,e2,e3,e4⟩:=sU (ρ:=ρ) (m:=m) hr
   refine⟨?_,by simp only[List.length_cons];omega,fun a b=> ?_,fun a b=>⟨a.1,e4 a.2 b⟩⟩
   ·simp only[eW]
    rw[e1]
    cases vs with
    |nil=>
     cases hh:eW ρ cs<;>simp[eW,kL]
    |cons v vs=>simp only[eW,kL]
   ·simp only[cY,bK]at a⊢
    exact⟨a.1,e3 a.2 b⟩
  ·cases h
 |[],o+1,vs,nB,h=>by simp[lr]at h
 |[],0,v::vs,nB,h=>by simp[lr]at h
theorem Qw{ρ y:List Nat}{i:Nat}(h1:ρ.length<=i)(h2:i<(ρ++y).length):gf (ρ++y) i∈y:=by
 induction ρ generalizing i with
 |nil=>
  simp only[List.nil_append]at h2⊢
  induction y generalizing i with
  |nil=>simp at h2
  |cons b y ih=>
   cases i with
   |zero=>simp[gf]
   |succ i=>simp only[gf];exact cK _ (ih (by simp) (by simpa using h2))
 |cons b ρ ih=>
  cases i with
  |zero=>simp at h1
  |succ i=>
   simp only[List.cons_append,gf]
   exact ih (by simpa using h1) (by simpa using h2)
theorem Qx{P:Program}{A:bP}{s:St}{ρ:List Nat}{h:Heap}{t:TypeId}{x v:Operand}{k:St->Tv->Prop}{raw:Prop}(I:Inv s ρ h)(R:Rel ρ s.m s.E A)(H:storeT P s t (lf s.E x) (AN s.E v) k raw)
 (hr:raw->Hz P (Instr.storeAt t (gD A x) (gD A v)) h (kb A s ρ k)):Hz P (Instr.storeAt t (gD A x) (gD A v)) h (kb A s ρ k):=by
 unfold storeT at H
 split at H
 ·rename_i id off hx
  have hv:=(gT R hx).2.2
  rw[hv]
  split at H
  ·rename_i cs w hf hw
   obtain⟨w1,w2,w3⟩:=kQ R hw
   rw[w3]
   obtain⟨o1,o2,o3⟩:=mV hf I.wL I.zF
   obtain⟨i,hi,dS⟩:=mK (ρ:=ρ) hf
   split at H
   ·rename_i vs n PG tK
    obtain⟨f1,f2⟩:=Ff (ρ:=ρ) PG
    obtain⟨g1,g2⟩:=AV PG w1 w2
    split at H
    ·rename_i hn
     split at H
     ·rename_i nB P9
      obtain⟨e1,e2,e3,e4⟩:=sU (ρ:=ρ) (m:=s.m) P9
      have hl:(eW ρ vs).length=n:=by rw[fR,bB,<-mq];exact fo hn
      refine UM tK I.vars i hi off (eW ρ vs) f1 hl f2 (by rw[fR,fR,bB,bB];exact e2) (L':=mn ρ (za s.L id nB)) (by rw[<-e1];exact dS nB) fun h1 fr1 V1=> ?_
      obtain⟨p1,p2⟩:=MA (id:=id) I.wL I.zF (e3 o2 g1) (e4 o3 g2)
      obtain⟨y,y1,y2,y3⟩:=I.ext
      have I1:Inv {s with L:=za s.L id nB,so:=(match Nat.blt id (jW s.ρ)with|true=>id::s.so|false=>s.so),md:=id::s.md,d:=true} ρ h1:=by
       refine⟨V1,I.len,I.ext,?_,(fun e=>by cases e),?_,p1,p2⟩
       ·show Fr (In (yG ρ (match Nat.blt id (jW s.ρ)with|true=>id::s.so|false=>s.so))) s.h h1
        cases hb:Nat.blt id (jW s.ρ)with
        |true=>exact Fr.vk I.fr fr1
        |false=>
         have hge:s.ρ.length<=id:=by
          rw[<-nO]
          exact Nat.le_of_not_lt fun wF=>by rw[<-Nat.blt_eq]at wF;rw[hb]at wF;cases wF
         have Y6:=Qw (y:=y) hge (by rw[<-y1,I.len];exact o1)
         rw[<-y1]at Y6
         exact Fr.new I.fr (y3 _ Y6) fr1
       ·show∀i,i∈(match Nat.blt id (jW s.ρ)with|true=>id::s.so|false=>s.so)->i<s.ρ.length
        intro j hj
        cases hb:Nat.blt id (jW s.ρ)with
        |true=>
         rw[hb]at hj
         rcases aO.1 hj with rfl|hj
         ·rw[<-nO];exact gA.1 hb
         ·exact I.so j hj
        |false=>rw[hb]at hj;exact I.so j hj
      refine ke (x:= .v (.l .u)) I1 R ⟨aY _,⟨[id],rfl,fun j hj _=> ?_⟩,⟨[],by simp⟩⟩ rfl rfl trivial H
      show dM (za s.L id nB) j=_
      rw[DV hf]
      rw[aF]
      intro e
      subst e
      simp[ga]at hj
     ·exact H.elim
    ·exact H.elim
   ·exact H.elim
  ·exact H.elim
 ·rename_i z j sz off hx
  have hv:=(gT R hx).2.2
  have ha:gD A x= .pointer (some (loadT.TV z j sz off)):=by rw[hv];cases off<;>rfl
  split at H
  ·rename_i y hw
   obtain⟨w1,w2,w3⟩:=kQ R hw
   split at H
   ·rename_i hp tK
    obtain⟨s',C,hE,hL,hm,lI,H⟩:=ka I H
    have R':Rel ρ s'.m s'.E A:=by rw[hE,hm];exact R
    split at H
    ·obtain⟨q1,q2,q3⟩:=H
     rw[C.h]at q1
     rw[C.h,C.r]at q2
     rw[ha,w3]
     refine Qa (v:=y.v ρ) tK q1 (wO hp) fun h1 e1=> ?_
     have q2':Vars h1 (mn ρ s'.L):=by rw[e1];exact q2
     have C':Cl {s' with h:=h1} ρ h1:=⟨q2',C.len,C.r,rfl,C.nw,C.so,C.d,C.wL,C.zF⟩
     exact ke (s':={s' with h:=h1}) (x:= .v (.l .u)) C'.inv R' (hJ hm hL lI) rfl rfl trivial (q3 h1 (by rw[C.h,C.r];exact e1) (by rw[C.r];exact q2'))
    ·exact H.elim
   ·exact hr H
  ·exact hr H
 ·exact hr H
theorem Qy{s:St}{ρ:List Nat}{h h1:Heap}{A:bP}{cs:List Lf}{b:Nat}(I:Inv s ρ h)(R:Rel ρ s.m s.E A)(hb:h.size<=b)(f:Fr No h h1)(V:Vars h1 ((b,eW ρ cs)::mn ρ s.L))(ho:cY s.m cs=true)(hf:dL cs):
 Inv {s with L:=(s.m,cs)::s.L,m:=s.m+1,nw:=s.nw+1,d:=true} (ρ++[b]) h1/\Rel (ρ++[b]) (s.m+1) s.E A/\gf (ρ++[b]) s.m=b:=by
 have hl:gf (ρ++[b]) s.m=b:=by rw[<-I.len];exact vt ρ b []
 obtain⟨y,y1,y2,y3⟩:=I.ext
 refine⟨⟨?_,by simp[I.len],⟨y++[b],by rw[y1];simp,by simp[y2],fun c hc=> ?_⟩,?_,(fun e=>by cases e),I.so,?_,⟨hf,I.zF⟩⟩,R.ext I.len (by omega),hl⟩
 ·show Vars h1 ((gf (ρ++[b]) s.m,eW (ρ++[b]) cs)::mn (ρ++[b]) s.L)
  rw[hl,jF (by rw[I.len];exact ho),zE (by rw[I.len];exact I.wL)]
  exact V
 ·rcases gG.1 hc with hc|hc
  ·exact y3 c hc
  ·simp only[aO,aS,aN]at hc
   subst hc
   exact cB I.fr.size hb
 ·show Fr (In (yG (ρ++[b]) s.so)) s.h h1
  rw[DR fun i hi=>by have:=I.so i hi;rw[y1,bT];omega]
  exact Fr.no' I.fr f
 ·simp[u6,Fe (Nat.le_succ _) ho,UX (Nat.le_succ _) I.wL]
theorem Fg(ρ:List Nat):∀vs:List Value,eW ρ (AM vs)=vs/\(∀m,cY m (AM vs)=true)/\dL (AM vs)
 |[]=>⟨rfl,fun _=>rfl,trivial⟩
 |v::vs=>by
  obtain⟨h1,h2,h3⟩:=Fg ρ vs
  exact⟨by simp only[AM,eW];rw[Qv,h1],fun m=>by simp[AM,cY,Mz,h2 m],DU v,h3⟩
theorem uB{m id:Nat}{cs:List Lf}{L:List (Nat×List Lf)}(h:id<m):dM ((m,cs)::L) id=dM L id:=by
 have e:dM ((m,cs)::L) id=match Nat.beq m id with|true=>some cs|false=>dM L id:=rfl
 rw[e]
 cases hb:Nat.beq m id with
 |true=>have:=fo hb;omega
 |false=>rfl
theorem DW{s:St}{ρ:List Nat}{h h1:Heap}{A:bP}{cs:List Lf}{b:Nat}{k:St->Tv->Prop}(I:Inv s ρ h)(R:Rel ρ s.m s.E A)(hb:h.size<=b)(f:Fr No h h1)(V:Vars h1 ((b,eW ρ cs)::mn ρ s.L))(ho:cY s.m cs=true)(hf:dL cs)(H:Y0 s cs k):kb A s ρ k (VP b 0) h1:=by
 obtain⟨I1,R1,hl⟩:=Qy I R hb f V ho hf
 refine⟨_,.v (.l (.p s.m 0)),ρ++[b],I1,R1,?_,?_,trivial,⟨Nat.le_succ _,⟨[],rfl,fun id _ hid=>uB hid⟩,⟨[b],rfl⟩⟩,H⟩
 ·show VP b 0=VP (gf (ρ++[b]) s.m) 0
  rw[hl]
 ·exact gA.2 (pO _)
theorem Fh{ρ:List Nat}{xs:List Lf}{o:Nat}{y:Lf}(h:nE xs o 1=some [y]):(eW ρ xs).toArray[o]?=some (y.v ρ):=by
 obtain⟨e1,e2⟩:=wM (ρ:=ρ) h
 rw[pL]at e1
 have:=congrArg (·[0]?) e1
 simpa[eW,List.getElem?_take,List.getElem?_drop]using this
theorem Qz{P:Program}{t:TypeId}{fs:Array Field}{i:Nat}{f:Field}{K:Value->Prop}{cs:Array Value}{v:Value}(h1:P.underlying t=some (.struct fs))(h2:fs[i]?=some f)(h3:jv P f.type=true)(h4:cs[f.offset]?=some v)(H:K v):pop P (Instr.field t (.agg cs) i) K:=
 .mk' (fun w=>by
  unfold Instr.field
  rw[aV (dF h1 w)]
  simp only[h2]
  rw[aV (show(asAgg (.agg cs)).run P w= .ok cs w from rfl)]
  unfold part
  rw[aV (DG h3 w).1]
  simp only[h4,wz,gz]
  rfl) H
theorem QA{P:Program}{t:TypeId}{fs:Array Field}{i:Nat}{f:Field}{n:Nat}{K:Value->Prop}{cs:Array Value}(h1:P.underlying t=some (.struct fs))(h2:fs[i]?=some f)(h3:uw P f.type=some n)(H:K (.agg (cs.extract f.offset (f.offset+n)))):pop P (Instr.field t (.agg cs) i) K:=
 .mk' (fun w=>by
  unfold Instr.field
  rw[aV (dF h1 w)]
  simp only[h2]
  rw[aV (show(asAgg (.agg cs)).run P w= .ok cs w from rfl)]
  unfold part
  rw[aV (sO h3 w).1]
  simp only[jE]
  rw[aV (sO h3 w).2]
  rfl) H
theorem U0{ρ:List Nat}{xs ys:List Lf}{o n:Nat}(h:nE xs o n=some ys):(eW ρ xs).toArray.extract o (o+n)=(eW ρ ys).toArray:=by
 obtain⟨e1,e2⟩:=wM (ρ:=ρ) h
 rw[pL]at e1
 rw[<-e1]
 apply Array.ext'
 simp
def jG(P:Program):List Field->List (Nat×Nat)
 |[]=>[]
 |f::fs=>(f.offset,(nN P f.type).getD 0)::jG P fs
theorem yJ(P:Program):∀(fs:List Field)(i:Nat),(jG P fs)[i]?=fs[i]?.map fun f=>(f.offset,(nN P f.type).getD 0)
 |[],i=>by simp[jG]
 |f::fs,0=>by simp[jG]
 |f::fs,i+1=>by simp only[jG,List.getElem?_cons_succ];exact yJ P fs i
theorem run_places{P:Program}{w:World}:∀{fs:List Field},vo P fs=true->(fs.mapM (fun f=>do pure (f.offset,<-sizeOf f.type):Field->Sem (Nat×Nat))).run P w= .ok (jG P fs) w
 |[],_=>rfl
 |f::fs,h=>by
  simp only[vo,bK]at h
  cases hs:nN P f.type with
  |none=>rw[hs]at h;simp at h
  |some n=>
   rw[List.mapM_cons]
   have h1:((do pure (f.offset,<-sizeOf f.type):Sem (Nat×Nat))).run P w= .ok (f.offset,n) w:=by
    rw[aV (mU hs w)]
    rfl
   rw[aV h1,aV (run_places h.2)]
   simp only[jG,hs,Option.getD_some]
   rfl
theorem yK:∀(vs:List Value)(o i:Nat)(cs:Array Value),o+i+vs.length<=cs.size->((vs.zipIdx i).foldl (fun(cs:Array Value)(p:Value×Nat)=>cs.setIfInBounds (o+p.2) p.1) cs).toList=kL cs.toList (o+i) vs
 |[],o,i,cs,h=>by
  simp only[List.zipIdx_nil,List.foldl_nil]
  cases cs.toList<;>simp[kL]
 |v::vs,o,i,cs,h=>by
  simp only[List.length_cons]at h
  simp only[List.zipIdx_cons,List.foldl_cons]
  rw[yK vs o (i+1) _ (by simp;omega),Array.toList_setIfInBounds,oJ _ _ _ (by simp;omega),oJ _ _ _ (by simp;omega)]
  have e1:(cs.toList.set (o+i) v).take (o+(i+1))=cs.toList.take (o+i)++[v]:=by
   rw[show o+(i+1)=(o+i)+1 by omega,og (by simp;omega),List.take_set_of_le (aY _)]
   simp
  have e2:(cs.toList.set (o+i) v).drop (o+(i+1)+vs.length)=cs.toList.drop (o+i+(v::vs).length):=by
   rw[List.drop_set_of_lt (by omega)]
   congr 1
   simp;omega
  rw[e1,e2]
  simp
theorem MB{P:Program}{fs:Array Field}{ρ:List Nat}{m:Nat}{E:List (Nat×Option Tv)}{A:bP}(R:Rel ρ m E A):∀{ps:List (Nat×Operand)}{cs nB:List Lf},Ic P fs E cs ps=some nB->
 Instr.fill ((jG P fs.toList).toArray[·]?) (eW ρ cs).toArray (ps.map fun p=>(p.1,gD A p.2))=some (eW ρ nB).toArray/\(cY m cs=true->cY m nB=true)/\(dL cs->dL nB)
 |[],cs,nB,h=>by
  simp only[Ic,dD]at h
  subst h
  exact⟨rfl,fun h=>h,fun h=>h⟩
 |(i,x)::ps,cs,nB,h=>by
  simp only[Ic]at h
  split at h
  ·rename_i f w hf hw
   obtain⟨w1,w2,w3⟩:=kQ R hw
   split at h
   ·rename_i vs n PG tK
    obtain⟨f1,f2⟩:=Ff (ρ:=ρ) PG
    obtain⟨g1,g2⟩:=AV PG w1 w2
    split at h
    ·rename_i hn
     split at h
     ·rename_i c2 P9
      obtain⟨e1,e2,e3,e4⟩:=sU (ρ:=ρ) (m:=m) P9
      obtain⟨i1,i2,i3⟩:=MB R h
      have hl:(eW ρ vs).length=n:=by rw[fR,bB,<-mq];exact fo hn
      have Kf:(eW ρ cs).length=cs.length:=by rw[fR,bB]
      have hvs:(eW ρ vs).length=vs.length:=by rw[fR,bB]
      refine⟨?_,fun a=>i2 (e3 a g1),fun a=>i3 (e4 a g2)⟩
      rw[bJ]
      unfold Instr.fill
      have hp:(jG P fs.toList).toArray[i]?=some (f.offset,n):=by
       rw[List.getElem?_toArray,yJ]
       have:fs.toList[i]?=some f:=by simpa using hf
       rw[this,Option.map_some,tK]
       rfl
      simp only[hp,w3,f1]
      have QB:¬((decide ((eW ρ vs).toArray.size≠n)||decide (f.offset+(eW ρ vs).toArray.size>(eW ρ cs).toArray.size))=true):=by
       simp only[List.size_toArray,Bool.or_eq_true,aT,not_or]
       omega
      rw[aF QB]
      have aeT:((eW ρ vs).toArray.zipIdx.foldl (fun(cs:Array Value)(p:Value×Nat)=>cs.setIfInBounds (f.offset+p.2) p.1) (eW ρ cs).toArray)=(eW ρ c2).toArray:=by
       apply Array.ext'
       rw[show((eW ρ vs).toArray.zipIdx)=((eW ρ vs).zipIdx 0).toArray by simp,List.foldl_toArray]
       rw[yK _ f.offset 0 _ (by simp;omega),e1,Nat.add_zero]
      exact(congrArg (fun z=>Instr.fill ((jG P fs.toList).toArray[·]?) z (ps.map fun p=>(p.1,gD A p.2))) aeT).trans i1
     ·cases h
    ·cases h
   ·cases h
  ·cases h
theorem Ok{P:Program}{t:TypeId}{fs:Array Field}{z:Value}{K:Value->Prop}{ps:List (Nat×Value)}{cs:Array Value}(h1:P.underlying t=some (.struct fs))(h2:qW P t=some z)(h3:vo P fs.toList=true)(h4:Instr.fill ((jG P fs.toList).toArray[·]?) z.cells ps=some cs)(H:K (.agg cs)):pop P (Instr.build t ps.toArray) K:=
 .mk' (fun w=>by
  unfold Instr.build
  have hz:(zeroValue t).run P w= .ok z w:=by
   unfold qW at h2
   cases hi:P.info? t with
   |none=>rw[hi]at h2;simp at h2
   |some i=>
    rw[hi]at h2
    simp only[Option.bind_some]at h2
    unfold zeroValue
    rw[aV (fA hi w)]
    simp[h2,pure,Sem.run]
  rw[aV hz,aV (dF h1 w)]
  simp only
  have hm:(fs.mapM (fun f=>do pure (f.offset,<-sizeOf f.type):Field->Sem (Nat×Nat))).run P w= .ok (jG P fs.toList).toArray w:=by
   rw[Array.mapM_eq_mapM_toList]
   show((List.toArray<$>(fs.toList.mapM (fun f=>do pure (f.offset,<-sizeOf f.type):Field->Sem (Nat×Nat))):Sem (Array (Nat×Nat)))).run P w=_
   rw[map_eq_pure_bind,aV (run_places h3)]
   rfl
  rw[aV hm]
  simp only[h4]
  rfl) H
theorem _root_.Array.nR{α:Type}{a:Array α}{x:α}(h:a.toList=[x]):a= #[x]:=by
 cases a with
 |mk l=>simp only at h;subst h;rfl
theorem Y7{P:Program}{s:St}{o:BinOp}{kd:IntKind}{a b:Int}{YY:Bool}{t:TypeId}{x y:Operand}{K:Lf->Prop}{raw:Prop}{G:Value->Prop}(gi:∀z,K (.i kd z)->G (.int kd z))(gb:∀z,K (.b z none)->G (.bool z))(hc:YY=true->b≠0)(H:YX P s o kd a b YY K raw)(hr:raw->pop P (od o t x y (.int kd a) (.int kd b)) G):pop P (od o t x y (.int kd a) (.int kd b)) G:=by
 cases o<;>simp only[YX]at H
 case add=>exact Ut (t:=t) kd a b (gi _ H)
 case sub=>exact Uu (t:=t) kd a b (gi _ H)
 case mul=>exact Uv (t:=t) kd a b (gi _ H)
 case quo=>
  cases YY with
  |true=>exact Mm (t:=t) kd a b (hc rfl) (gi _ H)
  |false=>exact Mm (t:=t) kd a b H.1 (gi _ H.2)
 case rem=>
  cases YY with
  |true=>exact Mn (t:=t) kd a b (hc rfl) (gi _ H)
  |false=>exact Mn (t:=t) kd a b H.1 (gi _ H.2)
 case lss=>exact Uw (t:=t) kd a b (gb _ H)
 case leq=>exact Ux (t:=t) kd a b (gb _ H)
 case gtr=>exact Uy (t:=t) kd a b (gb _ H)
 case geq=>exact Uz (t:=t) kd a b (gb _ H)
 case eql=>exact UA (t:=t) kd x y a b (gb _ H)
 case neq=>exact UB (t:=t) kd x y a b (gb _ H)
 all_goals exact hr H
theorem QC{y:Operand}{k:IntKind}{b:Int}{A:bP}(h:Qj y=true)(e:gD A y= .int k b):b≠0:=by
 unfold Qj at h
 split at h
 ·simp only[gD,Value.int.injEq]at e
  obtain⟨_,rfl⟩:=e
  intro h0
  cases h0
 ·simp only[gD,Value.int.injEq]at e
  obtain⟨_,rfl⟩:=e
  intro h0
  cases h0
 ·cases h
theorem Y8{P:Program}{A:bP}{s:St}{ρ:List Nat}{h:Heap}{o:BinOp}{t:TypeId}{x y:Operand}{k:St->Tv->Prop}{raw:Prop}(I:Inv s ρ h)(R:Rel ρ s.m s.E A)(H:YZ P s o t y (lf s.E x) (lf s.E y) (Qk s k) raw)
 (hr:raw->pop P (od o t x y (gD A x) (gD A y)) fun v=>kb A s ρ k v h):pop P (od o t x y (gD A x) (gD A y)) fun v=>kb A s ρ k v h:=by
 have gi:∀kd z,Qk s k (.i kd z)->kb A s ρ k (.int kd z) h:=fun kd z h3=>bZ (x:= .v (.l (.i kd z))) I R rfl rfl trivial h3
 have gb:∀z,Qk s k (.b z none)->kb A s ρ k (.bool z) h:=fun z h3=>bZ (x:= .v (.l (.b z none))) I R rfl rfl trivial h3
 have gs:∀z,Qk s k (.s z)->kb A s ρ k (.string z) h:=fun z h3=>bZ (x:= .v (.l (.s z))) I R rfl rfl trivial h3
 unfold YZ at H
 split at H
 ·rename_i kd a kd' b hx hy
  split at H
  ·rename_i hk
   obtain rfl:=ry hk
   have e1:=(gT R hx).2.2
   have e2:=(gT R hy).2.2
   rw[e1,e2]at hr⊢
   exact Y7 (gi _) gb (fun hc=>QC hc e2) H hr
  ·exact hr H
 ·rename_i a _ b _ hx hy
  have e1:=(gT R hx).2.2
  have e2:=(gT R hy).2.2
  split at H
  ·rename_i ht
   split at H
   ·rw[e1,e2]
    exact UC ht x y a b (gb _ H)
   ·rw[e1,e2]
    exact UD ht x y a b (gb _ H)
   ·exact hr H
  ·exact hr H
 ·rename_i a b hx hy
  have e1:=(gT R hx).2.2
  have e2:=(gT R hy).2.2
  split at H
  ·rw[e1,e2]
   exact P7 (t:=t) a b H.1 (gs _ H.2)
  ·rw[e1,e2]
   exact UI x y a b (gb _ H)
  ·rw[e1,e2]
   exact UJ x y a b (gb _ H)
  ·exact hr H
 ·exact hr H
theorem KK{ρ:List Nat}{m:Nat}{E:List (Nat×Option Tv)}{A:bP}(R:Rel ρ m E A):∀{l:List Operand}{cs:List Cp},DO E l=some cs->pA (gD A) l=H9 ρ cs/\qp m cs=true
 |[],cs,h=>by
  simp only[DO,dD]at h
  subst h
  exact⟨rfl,rfl⟩
 |x::l,cs,h=>by
  simp only[DO]at h
  split at h
  ·rename_i c nB hc Kf
   have h:=bF h
   subst h
   obtain⟨i1,i2⟩:=KK R Kf
   have key:gD A x=c.v' ρ/\Qh m c=true:=by
    unfold aeO at hc
    split at hc
    all_goals first
     |(rename_i hx
       have h:=bF hc
       subst h
       obtain⟨a1,a2,a3⟩:=kQ R hx
       exact⟨a3,a1⟩)
     |(rename_i hx
       have h:=bF hc
       subst h
       obtain⟨a1,a2,a3⟩:=kQ R hx
       exact⟨a3,rfl⟩)
     |cases hc
   exact⟨by simp only[pA,H9];rw[key.1,i1],by simp[qp,key.2,i2]⟩
  ·cases h
theorem MC{ρ:List Nat}{m:Nat}:∀{xs:List Av}{i:Nat}{y:Av},Oj xs i=some y->(X4 ρ xs).toArray[i]?=some (y.v ρ)/\(qt m xs=true->y.ok m=true)/\(zB xs->y.fact)
 |[],i,y,h=>by simp[Oj]at h
 |x::xs,0,y,h=>by
  simp only[Oj,dD]at h
  subst h
  exact⟨by simp[X4],fun a=>by simp only[qt,bK]at a;exact a.1,fun a=>a.1⟩
 |x::xs,i+1,y,h=>by
  simp only[Oj]at h
  obtain⟨h1,h2,h3⟩:=MC (ρ:=ρ) (m:=m) h
  exact⟨by simpa[X4]using h1,fun a=>by simp only[qt,bK]at a;exact h2 a.2,fun a=>h3 a.2⟩
theorem QD{P:Program}{A:bP}{s:St}{ρ:List Nat}{h:Heap}{x:Operand}{v:Option Addr}{e:TypeId}{k:St->Tv->Prop}(I:Inv s ρ h)(R:Rel ρ s.m s.E A)(hx:gD A x= .pointer v)(H:Ie P s x v e k):pop P (PY (gD A x)) fun v=>kb A s ρ k v h:=by
 unfold Ie at H
 obtain⟨s',C,hE,hL,hm,lI,b,H⟩:=ka I H
 have R':Rel ρ s'.m s'.E A:=by rw[hE,hm];exact R
 obtain⟨ys,⟨hv,hV,hk⟩,y1,y2⟩:=rm H
 rw[C.r,C.h]at hV
 rw[hx,hv]
 have hl:gf (ρ++[b]) s'.m=b:=by rw[<-C.len];exact vt ρ b []
 have Rx:=R'.ext (y:=[b]) (n:=s'.m+1) C.len (by omega)
 refine zz _ ⟨_,.v (.l (.p s'.m 0)),ρ++[b],((⟨?_,by simp[C.len],by rw[C.r],C.h,C.nw,C.so,C.d,?_,⟨y2,C.zF⟩⟩:Cl {s' with E:=Ie.Y1 s'.E x s'.m,L:=(s'.m,ys)::s'.L,ρ:=s'.ρ++[b],m:=s'.m+1} (ρ++[b]) h)).inv,?_,?_,?_,trivial,(hJ hm hL lI).trans ⟨Nat.le_succ _,⟨[],rfl,fun id _ hid=>uB hid⟩,⟨[b],rfl⟩⟩,hk⟩
 ·show Vars h ((gf (ρ++[b]) s'.m,eW (ρ++[b]) ys)::mn (ρ++[b]) s'.L)
  rw[hl,jF (y1 _),zE (by rw[C.len];exact C.wL)]
  exact hV
 ·simp[u6,y1,UX (Nat.le_succ _) C.wL]
 ·show Rel (ρ++[b]) (s'.m+1) (Ie.Y1 s'.E x s'.m) A
  cases x with
  |tmp t=>
   refine⟨fun t' z hz=> ?_⟩
   have hz:(match Nat.beq t t' with|true=>some (.v (.l (.p s'.m 0)))|false=>tL s'.E t')=some z:=hz
   cases hb:Nat.beq t t' with
   |true=>
    rw[hb]at hz
    have hz:=bF hz
    subst hz
    have:=fo hb
    subst this
    refine⟨gA.2 (pO _),trivial,?_⟩
    show oe A t=VP (gf (ρ++[b]) s'.m) 0
    rw[hl]
    rw[hv]at hx
    exact hx
   |false=>rw[hb]at hz;exact Rx.get t' z hz
  |const c=>exact Rx
  |global g=>exact Rx
  |func f=>exact Rx
 ·show VP b 0=VP (gf (ρ++[b]) s'.m) 0
  rw[hl]
 ·exact gA.2 (pO _)
theorem vv{P:Program}{A:bP}{s:St}{ρ:List Nat}{h:Heap}{op:Op}{ty:TypeId}{k:St->Tv->Prop}(I:Inv s ρ h)(R:Rel ρ s.m s.E A)(H:Ig P s op ty k):gL P (gD A) op ty h (kb A s ρ k):=by
 unfold Ig at H
 split at H
 ·--move
  rename_i x
  split at H
  ·rename_i y hy
   obtain⟨h1,h2,h3⟩:=kQ R hy
   exact bZ I R h3 h1 h2 H
  ·exact H.elim
 ·rename_i x
  split at H
  ·rename_i y hy
   obtain⟨h1,h2,h3⟩:=kQ R hy
   exact bZ I R h3 h1 h2 H
  ·exact H.elim
 ·--call
  exact UY I R H
 ·--len
  rename_i args ats
  split at H
  ·rename_i x t hx ht
   split at H
   ·rename_i z e hz hu
    have e1:=(gT R hz).2.2
    refine dU (q:=Builtin.len_ ats ty (pA (gD A) args.toList).toArray) rfl rfl rfl ?_
    rw[hx,Array.nR ht]
    simp only[pA,e1]
    exact UH z ty e hu (bZ (x:= .v (.l (.i .i64 (z.n:Int)))) I R rfl rfl trivial H)
   ·rename_i z hz hu
    have e1:=(gT R hz).2.2
    refine dU (q:=Builtin.len_ ats ty (pA (gD A) args.toList).toArray) rfl rfl rfl ?_
    rw[hx,Array.nR ht]
    simp only[pA,e1]
    exact P6 z ty hu (bZ (x:= .v (.l (.i .i64 (z.size:Int)))) I R rfl rfl trivial H)
   ·exact kf I R H
  ·exact kf I R H
 ·--binOp
  rename_i o t x y _
  have hr:∀q,(gL P (gD A) (.binOp o t x y q) ty h (kb A s ρ k)↔pop P (od o t x y (gD A x) (gD A y)) fun v=>kb A s ρ k v h):=fun q=>Iff.rfl
  rw[hr]
  exact Y8 I R H fun QE=>(hr _).1 (kf I R QE)
 ·--unOp
  rename_i o t x
  split at H
  ·rename_i z kn hz
   obtain⟨f1,f2,e1⟩:=gT R hz
   refine dU (q:=Op.unary .not (gD A x)) rfl rfl rfl ?_
   rw[e1]
   refine UE z (bZ (x:= .v (.l (.b (!z) (US kn)))) I R rfl rfl ?_ H)
   show Lf.fact (.b (!z) (US kn))
   unfold US
   split
   ·rename_i v
    have:z=v:=f2
    subst this
    rfl
   ·trivial
  ·rename_i kd z hz
   have e1:=(gT R hz).2.2
   refine dU (q:=Op.unary .neg (gD A x)) rfl rfl rfl ?_
   rw[e1]
   exact UF kd z (bZ (x:= .v (.l (.i kd (kd.wrap (0-z))))) I R rfl rfl trivial H)
  ·exact kf I R H
 ·--pick
  rename_i c a b
  split at H
  ·rename_i z kn hz
   have e1:=(gT R hz).2.2
   obtain⟨b1,b2⟩:=AR I R hz H
   refine dU (q:=Mk (gD A c) (gD A a) (gD A b)) rfl rfl rfl ?_
   rw[e1]
   have fin:∀(s':St)(w:Operand),Inv s' ρ h->Rel ρ s'.m s'.E A->s'.m=s.m->s'.L=s.L->s'.md=s.md->(match AN s.E w with|some y=>k s' y|none=>False)->kb A s ρ k (gD A w) h:=fun s' w I' R' hm hL lI hq=>by
    split at hq
    ·rename_i y hy
     obtain⟨g1,g2,g3⟩:=kQ R hy
     exact ke I' R' (hJ hm hL lI) g3 (by rw[hm];exact g1) g2 hq
    ·exact hq.elim
   refine Oe (fun e=> ?_) (fun e=> ?_)
   ·obtain⟨s',I',R',hm,hL,lI,hq⟩:=b1 e
    exact fin s' a I' R' hm hL lI hq
   ·obtain⟨s',I',R',hm,hL,lI,hq⟩:=b2 e
    exact fin s' b I' R' hm hL lI hq
  ·exact kf I R H
 ·--nilCheck
  rename_i x
  split at H
  ·rename_i id off hz
   obtain⟨g1,g2,e1⟩:=gT R hz
   refine dU (q:=PY (gD A x)) rfl rfl rfl ?_
   rw[e1]
   exact zz _ (bZ (x:= .v (.l (.p id off))) I R rfl g1 trivial H)
  ·rename_i z i sz off hz
   obtain⟨g1,g2,e1⟩:=gT R hz
   refine dU (q:=PY (gD A x)) rfl rfl rfl ?_
   rw[e1]
   cases off with
   |none=>exact zz _ (bZ (x:= .v (.l (.e z i sz none))) I R rfl g1 trivial H)
   |some o=>exact zz _ (bZ (x:= .v (.l (.e z i sz (some o)))) I R rfl g1 trivial H)
  ·rename_i v e hz
   obtain⟨g1,g2,e1⟩:=gT R hz
   refine dU (q:=PY (gD A x)) rfl rfl rfl ?_
   exact QD I R (by rw[e1];rfl) H
  ·exact kf I R H
 ·--makeFunc
  rename_i fn first cap
  split at H
  ·rename_i fs cs h1 h2
   obtain⟨a1,a2⟩:=KK R h1
   obtain⟨b1,b2⟩:=KK R h2
   refine dU (q:=Instr.makeFunc fn (pA (gD A) first.toList).toArray (pA (gD A) cap.toList).toArray) rfl rfl rfl ?_
   rw[a1,b1]
   exact P8 fn _ _ (bZ (x:= .v (.l (.f fn fs cs))) I R rfl (by show(qp _ fs&&qp _ cs)=true;rw[a2,b2];rfl) trivial H)
  ·exact H.elim
 ·--fieldAddr
  rename_i t x i
  split at H
  ·rename_i id off o hz ho
   obtain⟨g1,g2,e1⟩:=gT R hz
   refine dU (q:=Instr.fieldAt t (gD A x) i) rfl rfl rfl ?_
   rw[e1]
   exact Ob i ho _ _ (bZ (x:= .v (.l (.p id (off+o)))) I R rfl g1 trivial H)
  ·rename_i z j sz o hz ho
   obtain⟨g1,g2,e1⟩:=gT R hz
   refine dU (q:=Instr.fieldAt t (gD A x) i) rfl rfl rfl ?_
   rw[e1]
   exact KA i ho _ (bZ (x:= .v (.l (.e z j sz (some o)))) I R rfl rfl trivial H)
  ·exact kf I R H
 ·--indexAddr
  rename_i t x ix
  split at H
  ·rename_i z kd j e hz hj hu
   have e1:=(gT R hz).2.2
   have e2:=(gT R hj).2.2
   split at H
   ·rename_i sz tK
    refine dU (q:=Instr.indexAt t (gD A x) (gD A ix)) rfl rfl rfl ?_
    rw[e1,e2]
    exact Od hu tK kd z j H.1 (bZ (x:= .v (.l (.e z j sz none))) I R rfl rfl trivial H.2)
   ·exact H.elim
  ·exact kf I R H
 ·--extract
  rename_i t ix
  split at H
  ·rename_i xs hx
   obtain⟨g1,g2,g3⟩:=kQ R hx
   split at H
   ·rename_i y hy
    obtain⟨a1,a2,a3⟩:=MC (ρ:=ρ) (m:=s.m) hy
    refine dU (q:=Instr.extract (gD A t) ix) rfl rfl rfl ?_
    rw[g3]
    exact UG a1 (bZ (x:= .v y) I R rfl (a2 g1) (a3 g2) H)
   ·exact H.elim
  ·exact kf I R H
 ·--field
  rename_i t x i
  split at H
  ·rename_i xs fs hx hu
   obtain⟨g1,g2,g3⟩:=kQ R hx
   split at H
   ·rename_i f hf
    refine dU (q:=Instr.field t (gD A x) i) rfl rfl rfl ?_
    rw[g3]
    split at H
    ·rename_i h1
     split at H
     ·rename_i y hy
      obtain⟨c1,c2⟩:=sT hy g1 g2
      exact Qz hu hf h1 (Fh hy) (bZ (x:= .v (.l y)) I R rfl (dW.1 c1 y (by simp)) (cZ.1 c2 y (by simp)) H)
     ·exact H.elim
    ·split at H
     ·rename_i n h2
      split at H
      ·rename_i ys hy
       obtain⟨c1,c2⟩:=sT hy g1 g2
       exact QA hu hf h2 (bZ (x:= .v (.a ys)) I R (by rw[U0 hy];rfl) c1 c2 H)
      ·exact H.elim
     ·exact H.elim
   ·exact H.elim
  ·exact kf I R H
 ·--build
  rename_i t parts
  split at H
  ·rename_i fs zs hu hz
   split at H
   ·rename_i cs hs PG
    unfold Mt at hz
    split at hz
    ·rename_i z hz0
     have hz:=bF hz
     obtain⟨o1,o2,o3⟩:=Fg ρ z.cells.toList
     rw[hz]at o1 o2 o3
     obtain⟨f1,f2,f3⟩:=MB R PG
     rw[o1]at f1
     refine dU (q:=Instr.build t (parts.toList.map fun p=>(p.1,gD A p.2)).toArray) rfl rfl rfl ?_
     exact Ok hu hz0 hs f1 (bZ (x:= .v (.a cs)) I R rfl (f2 (o2 _)) (f3 o3) H)
    ·cases hz
   ·exact H.elim
  ·exact kf I R H
 ·--load
  rename_i t x
  have hr:(gL P (gD A) (.load t x) ty h (kb A s ρ k)↔Da P (Instr.loadAt t (gD A x)) h fun v=>kb A s ρ k v h):=Iff.rfl
  rw[hr]
  exact UZ I R H fun QE=>hr.1 (kf I R QE)
 ·--store
  rename_i t x v
  have hr:(gL P (gD A) (.store t x v) ty h (kb A s ρ k)↔Hz P (Instr.storeAt t (gD A x) (gD A v)) h (kb A s ρ k)):=Iff.rfl
  rw[hr]
  exact Qx I R H fun QE=>hr.1 (kf I R QE)
 ·--box
  rename_i t v
  split at H
  ·rename_i y hy
   obtain⟨g1,g2,g3⟩:=kQ R hy
   split at H
   ·rename_i cs PG
    obtain⟨f1,f2⟩:=Ff (ρ:=ρ) PG
    obtain⟨o1,o2⟩:=AV PG g1 g2
    show j5 P (Instr.box t (gD A v)) h _
    rw[g3]
    exact UL t _ f1 I.vars fun b h1 hb f V=>DW I R hb f V o1 o2 H
   ·exact H.elim
  ·exact H.elim
 ·--alloc
  rename_i t
  split at H
  ·rename_i cs hz
   unfold Mt at hz
   split at hz
   ·rename_i z hz0
    have hz:=bF hz
    obtain⟨o1,o2,o3⟩:=Fg ρ z.cells.toList
    rw[hz]at o1 o2 o3
    show j5 P (Instr.alloc t true (.tuple #[])) h _
    exact Oc t hz0 (cs:=eW ρ cs) (by rw[o1]) I.vars fun b h1 hb f V=>DW I R hb f V (o2 _) o3 H
   ·cases hz
  ·exact H.elim
 all_goals exact kf I R H
theorem pP{P:Program}{ops:List Oper}{A:bP}{h:Heap}{o:Oper}{k k':aL}(H:nM P ops A h o k)(hk:∀v h,k v h->k' v h):nM P ops A h o k':=by
 unfold nM at*
 cases hg:o.guard with
 |none=>rw[hg]at H;simp only[mT]at H⊢;exact kJ hk H
 |some p=>
  obtain⟨j,want⟩:=p
  rw[hg]at H
  obtain⟨b,hb,h1,h2⟩:=H
  exact⟨b,hb,fun e=>by have:=h1 e;rw[mT]at this⊢;exact kJ hk this,fun e=>hk _ _ (h2 e)⟩
theorem Iq{P:Program}{ops:List Oper}{A:bP}{h:Heap}{o:Oper}{k:aL}(hq:(yv o.op||CZ o.op)=true)(H:nM P ops A h o k):nM P ops A h o fun v h'=>h'=h/\PZ P ops A h o v/\k v h':=by
 unfold nM at*
 cases hg:o.guard with
 |none=>
  rw[hg]at H
  simp only[mT]at H⊢
  obtain⟨v,h1,h2⟩:=(iY hq).1 H
  exact(iY hq).2 ⟨v,h1,rfl,by unfold PZ;rw[hg];exact h1,h2⟩
 |some p=>
  obtain⟨j,want⟩:=p
  rw[hg]at H
  obtain⟨b,hb,h1,h2⟩:=H
  refine⟨b,hb,fun e=> ?_,fun e=>⟨rfl,by unfold PZ;rw[hg];exact⟨b,hb,fun e'=>absurd e' e,fun _=>rfl⟩,h2 e⟩⟩
  have h1:=h1 e
  rw[mT]at h1⊢
  obtain⟨v,h3,h4⟩:=(iY hq).1 h1
  exact(iY hq).2 ⟨v,h3,rfl,by unfold PZ;rw[hg];exact⟨b,hb,fun _=>h3,fun e'=>absurd e e'⟩,h4⟩
theorem zH{A:bP}{s s1:St}{ρ:List Nat}{k:St->Tv->Prop}{v:Value}{h:Heap}(hm:s1.m=s.m)(hL:s1.L=s.L)(lI:s1.md=s.md)(H:kb A s1 ρ k v h):kb A s ρ k v h:=by
 obtain⟨s',x,kE,a1,a2,a3,a4,a5,a6,a7⟩:=H
 exact⟨s',x,kE,a1,a2,a3,a4,a5,(hJ hm hL lI).trans a6,a7⟩
theorem AW{P:Program}{ops:List Oper}{A:bP}{s:St}{ρ:List Nat}{h:Heap}{o:Oper}{k:St->Tv->Prop}(I:Inv s ρ h)(R:Rel ρ s.m s.E A)(H:Ih P ops s o k):nM P ops A h o (kb A s ρ k):=by
 unfold Ih at H
 unfold nM
 cases hg:o.guard with
 |none=>rw[hg]at H;simp only[mT];exact vv I R H
 |some p=>
  obtain⟨j,want⟩:=p
  rw[hg]at H
  simp only at H⊢
  have skip:k s (.v (.l .u))->kI ops A j=undef->Kp (NV (kI ops A j) want) want (Az P A o.op o.type h) h (kb A s ρ k):=fun hk hu=>by
   rw[hu]
   exact⟨!want,rfl,fun e=>absurd e (by cases want<;>decide),fun _=>bZ (x:= .v (.l .u)) I R rfl rfl trivial hk⟩
  cases ht:Al ops j with
  |none=>
   rw[ht]at H
   exact skip H (by unfold kI;rw[ht])
  |some t=>
   rw[ht]at H
   simp only at H
   split at H
   ·rename_i x kn hx
    have hlf:lf s.E (.tmp t)=some (.b x kn):=by unfold lf AN;simp only[hx]
    have hv:kI ops A j= .bool x:=by unfold kI;rw[ht];exact(R.get t _ hx).2.2
    obtain⟨b1,b2⟩:=AR I R hlf H
    rw[hv]
    refine⟨x,rfl,fun e=> ?_,fun e=> ?_⟩
    ·rw[mT]
     cases want with
     |true=>
      obtain⟨s',I',R',hm,hL,lI,hq⟩:=b1 e
      exact kJ (fun v h=>zH hm hL lI) (vv I' R' hq)
     |false=>
      obtain⟨s',I',R',hm,hL,lI,hq⟩:=b2 e
      exact kJ (fun v h=>zH hm hL lI) (vv I' R' hq)
    ·cases want with
     |true=>
      obtain⟨s',I',R',hm,hL,lI,hq⟩:=b2 (by simpa using e)
      exact zH hm hL lI (bZ (x:= .v (.l .u)) I' R' rfl rfl trivial hq)
     |false=>
      obtain⟨s',I',R',hm,hL,lI,hq⟩:=b1 (by simpa using e)
      exact zH hm hL lI (bZ (x:= .v (.l .u)) I' R' rfl rfl trivial hq)
   ·rename_i hx
    exact skip H (by unfold kI;rw[ht];exact(R.get t _ hx).2.2)
   ·exact H.elim
def To(s0:St)(wv:List Nat)(K:St->Prop)(K':bP->Heap->Prop):Prop:=∀s ρ A h,Inv s ρ h->Rel ρ s.m s.E A->Nx s0 wv s ρ->K s->K' A h
theorem vw{n:Nat}{s:St}{ρ:List Nat}{h:Heap}{A:bP}{dst:Option Tmp}{x:Tv}{v:Value}(I:Inv s ρ h)(R:Rel ρ s.m s.E A)(hv:v=x.val ρ)(ho:x.ok s.m=true)(hf:x.fact):
 Inv (zc n s dst x) ρ h/\Rel ρ (zc n s dst x).m (zc n s dst x).E (Ay n A dst v)/\(zc n s dst x).m=s.m/\(zc n s dst x).L=s.L/\(zc n s dst x).md=s.md:=by
 unfold zc Ay
 cases dst with
 |none=>exact⟨I,R,rfl,rfl,rfl⟩
 |some d=>
  simp only
  cases hb:Nat.blt d n with
  |false=>exact⟨I,R,rfl,rfl,rfl⟩
  |true=>
   refine⟨⟨I.vars,I.len,I.ext,I.fr,I.cln,I.so,I.wL,I.zF⟩,⟨fun t y hy=> ?_⟩,rfl,rfl,rfl⟩
   simp only[tL]at hy
   simp only[oe]
   cases hd:Nat.beq d t with
   |true=>
    rw[hd]at hy
    have hy:=bF hy
    subst hy
    exact⟨ho,hf,hv⟩
   |false=>rw[hd]at hy;exact R.get t y hy
theorem QF{P:Program}{n:Nat}{ops:List Oper}{s0:St}{wv:List Nat}{K:St->Prop}{K':bP->Heap->Prop}(hK:To s0 wv K K'):∀{l:List Oper}{s:St}{ρ:List Nat}{A:bP}{h:Heap},Inv s ρ h->Rel ρ s.m s.E A->Nx s0 wv s ρ->tIn P n ops l s K->DF P n ops l A h K'
 |[],s,ρ,A,h,I,R,N,H=>hK s ρ A h I R N H
 |o::os,s,ρ,A,h,I,R,N,H=>by
  simp only[tIn]at H
  simp only[DF]
  refine pP (AW I R H) fun v h' ⟨s',x,kE,a1,a2,a3,a4,a5,a6,a7⟩=> ?_
  rw[ju]
  obtain⟨b1,b2,b3,b4,b5⟩:=vw (n:=n) (dst:=o.dst) a1 a2 a3 a4 a5
  exact QF hK b1 b2 ((N.trans a6).trans (hJ b3 b4 b5)) a7
theorem wQ(a b:List Nat):vq b (a++b)=a:=by
 unfold vq
 rw[nO,nO,bT,Nat.add_sub_cancel]
 induction a with
 |nil=>rfl
 |cons x a ih=>simp only[List.length_cons,List.cons_append,vq.takeN];rw[ih]
def QG(P:Program)(p:Heap->Prop)(t:Ht)(s:St)(ρ:List Nat):Prop:=
 match t with
 | .X8=>∀g,p g
 | .bad=>True
 | .au id off t ys=>∃sb U1,Nx sb U1 s ρ/\id<sb.m/\dM s.L id=dM sb.L id/\∀s' kE g,Inv s' kE g->Nx sb U1 s' kE->dM s'.L id=dM sb.L id->p g
 | .ce a v=>∀g,bG g a=some v->p g
 | .cs a vs=>∀g,pM g a vs->p g
 | .se q v=>∀g,(∀w:World,w.heap=g->q.run P w= .ok v w)->p g
inductive Kh(P:Program)(s:St)(ρ:List Nat):mg->List (Nat×Ht)->Prop where
 |nil:Kh P s ρ [] []
 |cons {i:Nat} {p:Heap->Prop} {t:Ht} {S:mg} {T:List (Nat×Ht)}:QG P p t s ρ->Kh P s ρ S T->Kh P s ρ ((i,p)::S) ((i,t)::T)
theorem Kh.keep{P:Program}{s:St}{ρ:List Nat}{bf:List Nat}:∀{S:mg}{T:List (Nat×Ht)},Kh P s ρ S T->Kh P s ρ (ua bf S) (DP bf T)
 |_,_,.nil=> .nil
 |_,_,.cons (i:=i) h1 h2=>by
  simp only[ua,DP]
  cases ga bf i with
  |true=>exact h2.keep
  |false=>exact .cons h1 h2.keep
theorem Kh.step{P:Program}{s s':St}{ρ kE:List Nat}(N:Nx s ρ s' kE):∀{S:mg}{T:List (Nat×Ht)},Kh P s ρ S T->rf (vq s.md s'.md) T=true->Kh P s' kE S T
 |_,_,.nil,_=> .nil
 |_,_,.cons (t:=t) h1 h2,ha=>by
  cases t with
  |au id off ty ys=>
   simp only[rf,bK,gE]at ha
   refine .cons ?_ (h2.step N ha.2)
   obtain⟨sb,U1,c1,c2,c3,c4⟩:=h1
   refine⟨sb,U1,c1.trans N,c2,?_,c4⟩
   obtain⟨new,d1,d2⟩:=N.md
   rw[d1,wQ]at ha
   rw[d2 id ha.1 (by have:=c1.m;omega),c3]
  |X8=>exact .cons h1 (h2.step N ha)
  |bad=>exact .cons h1 (h2.step N ha)
  |ce a v=>exact .cons h1 (h2.step N ha)
  |cs a vs=>exact .cons h1 (h2.step N ha)
  |se q v=>exact .cons h1 (h2.step N ha)
theorem Kh.tell{P:Program}{s:St}{ρ:List Nat}{g:Heap}{K:Prop}{K':Prop}(I:Inv s ρ g):∀{S:mg}{T:List (Nat×Ht)},Kh P s ρ S T->DQ P g K T->(K->K')->PU g K' S
 |_,_,.nil,H,hk=>hk H
 |_,_,.cons (t:=t) h1 h2,H,hk=>by
  cases t with
  |X8=>exact⟨h1 g,h2.tell I H hk⟩
  |bad=>exact H.elim
  |au id off ty ys=>
   obtain⟨sb,U1,c1,c2,c3,c4⟩:=h1
   exact⟨c4 s ρ g I c1 c3,h2.tell I H hk⟩
  |ce a v=>exact⟨h1 g H.1,h2.tell I H.2 hk⟩
  |cs a vs=>exact⟨h1 g H.1,h2.tell I H.2 hk⟩
  |se q v=>exact⟨h1 g H.1,h2.tell I H.2 hk⟩
theorem MD{P:Program}{s:St}{ρ:List Nat}{g:Heap}(I:Inv s ρ g){id off:Nat}{cs:List Lf}(hf:dM s.L id=some cs){t:TypeId}(h1:jv P t=true){y:Lf}(hy:nE cs off 1=some [y]):∀w:World,w.heap=g->(Instr.loadAt t (VP (gf ρ id) off)).run P w= .ok (y.v ρ) w:=by
 obtain⟨i,hi,_⟩:=mK (ρ:=ρ) hf
 have:=Fh (ρ:=ρ) hy
 exact Of h1 I.vars i hi off (by simpa using this)
theorem Ir{P:Program}{s:St}{ρ:List Nat}{g:Heap}(I:Inv s ρ g){id off n:Nat}{cs:List Lf}(hf:dM s.L id=some cs){t:TypeId}(h1:uw P t=some n){ys:List Lf}(hy:nE cs off n=some ys):∀w:World,w.heap=g->(Instr.loadAt t (VP (gf ρ id) off)).run P w= .ok (.agg (eW ρ ys).toArray) w:=by
 obtain⟨i,hi,_⟩:=mK (ρ:=ρ) hf
 obtain⟨e1,e2⟩:=wM (ρ:=ρ) hy
 exact Ky h1 I.vars i hi off e1 e2
def wAt(h:Heap):World:={heap:=h,tape:=fun _ _=>0,drawn:=0,os:=default,output:= #[]}
theorem KL{s:St}{ρ:List Nat}{h:Heap}(I:Inv s ρ h){x:Tv}(hx:x.ok (jW s.ρ)=true):x.val ρ=x.val s.ρ:=by
 obtain⟨y,e,_,_⟩:=I.ext
 rw[e]
 exact Fc (by rw[<-nO];exact hx)
theorem Is{P:Program}{A:bP}{s:St}{ρ:List Nat}{h:Heap}{op:Op}{ty:TypeId}{x:Tv}{v:Value}(I:Inv s ρ h)(R:Rel ρ s.m s.E A)(hq:CZ op=true)(hv:v=x.val ρ):QG P (fun g=>Yx P (gD A) op ty g v) (vp.Mu P s op x) s ρ:=by
 unfold vp.Mu
 split
 ·rename_i q hd hx hr
  intro g hg
  simp only[CZ,bK]at hq
  have h1:iX op=none:=by simpa using hq.1
  have h2:lD (gD A) ty op=none:=by
   have:=nK gN (gD A) 0 ty op
   have h3:(lD gN 0 op).isSome=false:=by simpa using hq.2.2.1
   rw[h3]at this
   cases hp:lD (gD A) ty op with
   |none=>rfl
   |some _=>rw[hp]at this;cases this
  have hc:qE (gD A) op=qE (Hs s.ρ s.E) op:=pF fun y hy=>nP I R hd y (by simpa using hy)
  unfold Yx
  simp only[h1,h2,hc,hr]
  rw[hv,KL I hx]
  exact hg
 ·trivial
theorem Iu{P:Program}{A:bP}{s:St}{ρ:List Nat}{h:Heap}{op:Op}{ty:TypeId}{x:Tv}{v:Value}(I:Inv s ρ h)(R:Rel ρ s.m s.E A)(hq:CZ op=true)(hv:v=x.val ρ)(hy:Yx P (gD A) op ty h v):QG P (fun g=>Yx P (gD A) op ty g v) (vp P s op x) s ρ:=by
 unfold vp
 split
 ·rename_i t a
  split
  ·rename_i id off hz
   have hp:gD A a=VP (gf ρ id) off:=(gT R hz).2.2
   have hy:∀w:World,w.heap=h->(Instr.loadAt t (gD A a)).run P w= .ok v w:=hy
   rw[hp]at hy
   have aeV:∀g,(∀w:World,w.heap=g->(Instr.loadAt t (VP (gf ρ id) off)).run P w= .ok v w)->Yx P (gD A) (.load t a) ty g v:=fun g hg=>by
    show∀w:World,w.heap=g->(Instr.loadAt t (gD A a)).run P w= .ok v w
    rw[hp]
    exact hg
   split
   ·rename_i cs hf
    have hid:=(mV hf I.wL I.zF).1
    have Kf:=(mV hf I.wL I.zF).2.1
    have later:∀s' kE g,Inv s' kE g->Nx s ρ s' kE->gf kE id=gf ρ id/\eW kE cs=eW ρ cs:=fun s' kE g I' N=>by
     obtain⟨y,hy⟩:=N.r
     rw[hy]
     exact⟨lH _ _ _ (by rw[I.len];exact hid),jF (by rw[I.len];exact Kf)⟩
    split
    ·rename_i h1
     split
     ·rename_i y KM
      have e0:=MD I hf h1 KM (wAt h) rfl
      rw[hy (wAt h) rfl]at e0
      have ev:v=y.v ρ:=by simpa using e0
      refine⟨s,ρ,Nx.refl _ _,hid,rfl,fun s' kE g I' N hf'=>aeV g fun w hw=> ?_⟩
      have e1:=MD I' (hf'.trans hf) h1 KM w hw
      obtain⟨l1,l2⟩:=later s' kE g I' N
      rw[l1]at e1
      rw[e1,ev]
      have yo:y.ok ρ.length=true:=by
       rw[I.len]
       exact dW.1 (sT KM Kf (mV hf I.wL I.zF).2.2).1 y (by simp)
      obtain⟨z,hz⟩:=N.r
      rw[hz,KI yo]
     ·trivial
    ·split
     ·rename_i n h2
      split
      ·rename_i ys KM
       have e0:=Ir I hf h2 KM (wAt h) rfl
       rw[hy (wAt h) rfl]at e0
       have ev:v= .agg (eW ρ ys).toArray:=by simpa using e0
       refine⟨s,ρ,Nx.refl _ _,hid,rfl,fun s' kE g I' N hf'=>aeV g fun w hw=> ?_⟩
       have e1:=Ir I' (hf'.trans hf) h2 KM w hw
       obtain⟨l1,l2⟩:=later s' kE g I' N
       rw[l1]at e1
       rw[e1,ev]
       have yo:cY ρ.length ys=true:=by
        rw[I.len]
        exact(sT KM Kf (mV hf I.wL I.zF).2.2).1
       obtain⟨z,hz⟩:=N.r
       rw[hz,jF yo]
      ·trivial
     ·trivial
   ·trivial
  ·rename_i z i sz off hz
   have hv0:=(gT R hz).2.2
   have ha:gD A a= .pointer (some (loadT.TV z i sz off)):=by rw[hv0];cases off<;>rfl
   split
   ·rename_i z' hx
    split
    ·rename_i h1
     intro g hg
     show∀w:World,w.heap=g->(Instr.loadAt t (gD A a)).run P w= .ok v w
     rw[ha,hv,KL I hx]
     exact DK h1 hg
    ·trivial
   ·rename_i zs hx
    split
    ·rename_i n h2
     split
     ·rename_i hn
      intro g hg
      show∀w:World,w.heap=g->(Instr.loadAt t (gD A a)).run P w= .ok v w
      rw[ha,hv,KL I hx]
      exact DL h2 (eW s.ρ zs) (by rw[fR,bB,<-mq];exact fo hn) hg
     ·trivial
    ·trivial
   ·trivial
  ·exact Is I R hq hv
 ·exact Is I R hq hv
theorem U2{P:Program}{ops:List Oper}{A:bP}{s:St}{ρ:List Nat}{h:Heap}{o:Oper}{x:Tv}{v:Value}(I:Inv s ρ h)(R:Rel ρ s.m s.E A)(hq:CZ o.op=true)(hv:v=x.val ρ)(hy:PZ P ops A h o v):QG P (fun g=>PZ P ops A g o v) (KD P ops s o x) s ρ:=by
 unfold KD
 unfold PZ at hy⊢
 cases hg:o.guard with
 |none=>rw[hg]at hy;exact Iu I R hq hv hy
 |some p=>
  obtain⟨j,want⟩:=p
  rw[hg]at hy
  simp only at hy⊢
  obtain⟨b,hb,h1,h2⟩:=hy
  have skip:b≠want->∀g,∃b:Bool,NV (kI ops A j) want= .bool b/\(b=want->Yx P (gD A) o.op o.type g v)/\(b≠want->v=undef):=fun fH g=>⟨b,hb,fun e=>absurd e fH,h2⟩
  have QH:kI ops A j=undef->b≠want:=fun e=>by
   rw[e]at hb
   have:b= !want:=by
    have:NV undef want= .bool (!want):=rfl
    rw[this]at hb
    simpa using hb.symm
   rw[this]
   cases want<;>decide
  have yes:b=want->QG P (fun g=>∃b:Bool,NV (kI ops A j) want= .bool b/\(b=want->Yx P (gD A) o.op o.type g v)/\(b≠want->v=undef)) (vp P s o.op x) s ρ:=fun e=>by
   have:=Iu (x:=x) I R hq hv (h1 e)
   have up:∀g,Yx P (gD A) o.op o.type g v->∃b:Bool,NV (kI ops A j) want= .bool b/\(b=want->Yx P (gD A) o.op o.type g v)/\(b≠want->v=undef):=fun g hx=>⟨b,hb,fun _=>hx,h2⟩
   generalize vp P s o.op x=t at this⊢
   cases t with
   |X8=>exact fun g=>up g (this g)
   |bad=>trivial
   |au id off t ys=>
    obtain⟨sb,U1,c1,c2,c3,c4⟩:=this
    exact⟨sb,U1,c1,c2,c3,fun s' kE g a b c=>up g (c4 s' kE g a b c)⟩
   |ce a u=>exact fun g hg=>up g (this g hg)
   |cs a us=>exact fun g hg=>up g (this g hg)
   |se q u=>exact fun g hg=>up g (this g hg)
  cases ht:Al ops j with
  |none=>exact skip (QH (by unfold kI;rw[ht]))
  |some t=>
   simp only
   split
   ·rename_i z c l hx
    obtain⟨r1,r2,r3⟩:=R.get t _ hx
    have hz:z=c:=r2
    have hgv:kI ops A j= .bool z:=by unfold kI;rw[ht];exact r3
    have hbz:b=z:=by
     rw[hgv]at hb
     have:NV (.bool z) want= .bool z:=rfl
     rw[this]at hb
     simpa using hb.symm
    split
    ·exact yes (by rw[hbz,hz])
    ·exact yes (by rw[hbz,hz])
    ·rename_i n1 n2
     refine skip fun e=> ?_
     rw[hbz,hz]at e
     cases c<;>cases want<;>first|exact n1 rfl rfl|exact n2 rfl rfl|cases e
   ·rename_i hx
    exact skip (QH (by unfold kI;rw[ht];exact(R.get t _ hx).2.2))
   ·trivial
theorem DX{f g:Nat->Oper->Prop}(hfg:∀i o,f i o->g i o):∀{l:List (Nat×Oper)},Kr f l->Kr g l
 |[],_=>trivial
 |[(i,o)],h=>hfg i o h
 |(i,o)::p::r,h=>⟨hfg i o h.1,DX hfg h.2⟩
theorem ue:∀{l:List (Nat×Oper)}{i:Nat}{o:Oper},eC l=some (i,o)->(yv o.op||CZ o.op)=true
 |[],_,_,h=>by simp[eC]at h
 |(j,o')::r,i,o,h=>by
  unfold eC at h
  cases hq:(yv o'.op||CZ o'.op)with
  |true=>
   rw[hq]at h
   simp only[dD,fL]at h
   obtain⟨rfl,rfl⟩:=h
   exact hq
  |false=>rw[hq]at h;exact ue h
theorem Kh.eq{P:Program}{s s':St}{ρ:List Nat}(hm:s'.m=s.m)(hL:s'.L=s.L)(lI:s'.md=s.md):∀{S:mg}{T:List (Nat×Ht)},Kh P s ρ S T->Kh P s' ρ S T
 |_,_,.nil=> .nil
 |_,_,.cons (t:=t) h1 h2=>by
  cases t with
  |au id off ty ys=>
   obtain⟨sb,U1,c1,c2,c3,c4⟩:=h1
   exact .cons ⟨sb,U1,c1.trans (hJ hm hL lI),c2,by rw[hL];exact c3,c4⟩ (h2.eq hm hL lI)
  |X8=>exact .cons h1 (h2.eq hm hL lI)
  |bad=>exact .cons h1 (h2.eq hm hL lI)
  |ce a v=>exact .cons h1 (h2.eq hm hL lI)
  |cs a vs=>exact .cons h1 (h2.eq hm hL lI)
  |se q v=>exact .cons h1 (h2.eq hm hL lI)
theorem rz{P:Program}{n:Nat}{ops:List Oper}{s0:St}{wv:List Nat}{K:St->Prop}{K':bP->Heap->Prop}(hK:To s0 wv K K'):∀{m:Nat}{l:List Bool}{s:St}{ρ:List Nat}{A:bP}{h:Heap}{S:mg}{T:List (Nat×Ht)},Inv s ρ h->Rel ρ s.m s.E A->Nx s0 wv s ρ->Kh P s ρ S T->yH P n ops K m l s T->lm P n ops K' m l A h S
 |0,l,s,ρ,A,h,S,T,I,R,N,G,H=>by
  simp only[yH]at H
  simp only[lm]
  cases hr:bW ops 0 l with
  |nil=>rw[hr]at H;exact hK s ρ A h I R N H
  |cons a b=>rw[hr]at H;exact H.elim
 |m+1,l,s,ρ,A,h,S,T,I,R,N,G,H=>by
  simp only[yH]at H
  simp only[lm]
  cases hq:eC (bW ops 0 l)with
  |some q=>
   obtain⟨i,o⟩:=q
   rw[hq]at H
   simp only at H⊢
   have hqu:=ue hq
   have st:=Iq hqu (AW I R H)
   rw[vf]
   cases hp:yv o.op with
   |true=>
    refine pP st fun v h' ⟨hh,hY,s',x,kE,a1,a2,a3,a4,a5,a6,a7⟩=> ?_
    rw[ju]
    obtain⟨b1,b2,b3,b4,b5⟩:=vw (n:=n) (dst:=o.dst) a1 a2 a3 a4 a5
    cases U3:rf (vq s.md s'.md) T with
    |true=>
     simp only[U3,hp]at a7
     exact rz hK b1 b2 ((N.trans a6).trans (hJ b3 b4 b5)) ((G.step a6 U3).eq b3 b4 b5) a7
    |false=>simp only[U3]at a7
   |false=>
    have hR:CZ o.op=true:=by rw[hp,Bool.false_or]at hqu;exact hqu
    refine pP st fun v h' ⟨hh,hY,s',x,kE,a1,a2,a3,a4,a5,a6,a7⟩=> ?_
    rw[ju]
    obtain⟨b1,b2,b3,b4,b5⟩:=vw (n:=n) (dst:=o.dst) a1 a2 a3 a4 a5
    cases U3:rf (vq s.md s'.md) T with
    |true=>
     simp only[U3,hp]at a7
     have aeW:=U2 (P:=P) (ops:=ops) (x:=x) a1 a2 hR a3 (by rw[hh];exact hY)
     exact rz hK b1 b2 ((N.trans a6).trans (hJ b3 b4 b5)) ((Kh.cons aeW (G.step a6 U3)).eq b3 b4 b5) a7
    |false=>simp only[U3]at a7
  |none=>
   rw[hq]at H
   simp only at H⊢
   cases hr:bW ops 0 l with
   |nil=>rw[hr]at H;exact hK s ρ A h I R N H
   |cons a b=>
    rw[hr]at H
    simp only at H⊢
    refine DX (fun i o H=> ?_) H
    rw[vf]
    refine pP (AW I R H) fun v h' ⟨s',x,kE,a1,a2,a3,a4,a5,a6,a7⟩=> ?_
    rw[ju]
    have G2:=G.keep (bf:=yw ops o)
    generalize DP (yw ops o) T=T2 at G2 a7
    unfold nJ
    generalize ua (yw ops o) S=S2 at G2⊢
    cases T2 with
    |nil=>
     cases G2
     obtain⟨b1,b2,b3,b4,b5⟩:=vw (n:=n) (dst:=o.dst) a1 a2 a3 a4 a5
     exact rz hK b1 b2 ((N.trans a6).trans (hJ b3 b4 b5)) .nil a7
    |cons e T3=>
     simp only at a7
     split at a7
     ·rename_i U3
      obtain⟨s2,C,hE,hL,hm,lI,a8⟩:=ka a1 a7
      have R2:Rel kE s2.m s2.E A:=by rw[hE,hm];exact a2
      have N2:=hJ (ρ:=kE) hm hL lI
      have G3:=(G2.step a6 U3).eq hm hL lI
      obtain⟨b1,b2,b3,b4,b5⟩:=vw (n:=n) (dst:=o.dst) C.inv R2 a3 (by rw[hm];exact a4) a5
      rw[C.h]at a8
      exact G3.tell C.inv a8 fun a9=>rz hK b1 b2 (((N.trans a6).trans N2).trans (hJ b3 b4 b5)) (G3.eq b3 b4 b5) a9
     ·exact a7.elim
theorem Y9{P:Program}{n:Nat}{ops:List Oper}{draw:Bool}{s0:St}{wv:List Nat}{K:St->Prop}{K':bP->Heap->Prop}(hK:To s0 wv K K'){s:St}{ρ:List Nat}{A:bP}{h:Heap}(I:Inv s ρ h)(R:Rel ρ s.m s.E A)(N:Nx s0 wv s ρ)(H:Y2 P n ops draw s K):P0 P n ops draw A h K':=by
 unfold Y2 at H
 unfold P0
 cases draw with
 |false=>exact QF hK I R N H
 |true=>
  simp only at H⊢
  cases hp:gP ops ops 0 with
  |true=>rw[hp]at H;exact rz hK I R N .nil H
  |false=>rw[hp]at H;exact H.elim
def QI:(sig:List Sh)->Hv sig->List Lf->(Heap->Prop)->Prop
 |[],J,[],J0=>J=J0
 | .i k::r,J,.i k' x::vs,J0=>k=k'/\QI r (J x) vs J0
 | .b::r,J,.b x none::vs,J0=>QI r (J x) vs J0
 | .s::r,J,.s x::vs,J0=>QI r (J x) vs J0
 | .sl::r,J,.sl x::vs,J0=>QI r (J x) vs J0
 | .r::r,J,.r x::vs,J0=>QI r (J x) vs J0
 | .q e::r,J,.q x e'::vs,J0=>e=e'/\QI r (J x) vs J0
 | .m::r,J,.m x::vs,J0=>QI r (J x) vs J0
 | .n::r,J,.q (some ⟨b,0,none⟩) 0::vs,J0=>QI r (J b) vs J0
 |_,_,_,_=>False
theorem ME{x:Lf}{b:Nat}(h:KE x=some b)(ρ:List Nat):x.v ρ=VP b 0:=by
 unfold KE at h
 split at h
 ·have h:=bF h
  subst h
  rfl
 ·cases h
theorem mr:∀{sig:List Sh}{J:Hv sig}{Q:List Lf->(Heap->Prop)->Prop}{xs:List Lf}{J0:Heap->Prop},zd sig J Q->QI sig J xs J0->Q xs J0
 |[],J,Q,[],J0,h,ha=>by
  have ha:J=J0:=ha
  subst ha
  exact h
 | .i k::r,J,Q,.i k' x::xs,J0,h,ha=>by
   obtain⟨rfl,ha⟩:=ha
   exact mr (sig:=r) (J:=J x) (Q:=fun vs J'=>Q (.i k x::vs) J') (h x) ha
 | .b::r,J,Q,.b x none::xs,J0,h,ha=>mr (sig:=r) (J:=J x) (Q:=fun vs J'=>Q (.b x none::vs) J') (h x) ha
 | .s::r,J,Q,.s x::xs,J0,h,ha=>mr (sig:=r) (J:=J x) (Q:=fun vs J'=>Q (.s x::vs) J') (h x) ha
 | .sl::r,J,Q,.sl x::xs,J0,h,ha=>mr (sig:=r) (J:=J x) (Q:=fun vs J'=>Q (.sl x::vs) J') (h x) ha
 | .r::r,J,Q,.r x::xs,J0,h,ha=>mr (sig:=r) (J:=J x) (Q:=fun vs J'=>Q (.r x::vs) J') (h x) ha
 | .q e::r,J,Q,.q x e'::xs,J0,h,ha=>by
   obtain⟨rfl,ha⟩:=ha
   exact mr (sig:=r) (J:=J x) (Q:=fun vs J'=>Q (.q x e::vs) J') (h x) ha
 | .m::r,J,Q,.m x::xs,J0,h,ha=>mr (sig:=r) (J:=J x) (Q:=fun vs J'=>Q (.m x::vs) J') (h x) ha
 | .n::r,J,Q,.q (some ⟨b,0,none⟩) 0::xs,J0,h,ha=>mr (sig:=r) (J:=J b) (Q:=fun vs J'=>Q (.q (some ⟨b,0,none⟩) 0::vs) J') (h b) ha
theorem mu{ρ:List Nat}{h:Heap}:∀{sig:List Sh}{J:Hv sig}{vs:List Lf},uA ρ sig J vs h->∃xs J0,QI sig J xs J0/\J0 h/\(∀m,cY m xs=true)/\dL xs/\eW ρ xs=eW ρ vs
 |[],J,[],hj=>⟨[],J,rfl,hj,fun _=>rfl,trivial,rfl⟩
 | .i k::r,J,.i k' x::vs,hj=>by
   simp only[uA]at hj
   split at hj
   ·rename_i hk
    obtain rfl:=ry hk
    obtain⟨xs,J0,h1,h2,h3,h4,h5⟩:=mu hj
    exact⟨.i k x::xs,J0,⟨rfl,h1⟩,h2,fun m=>by simp[cY,Lf.ok,h3 m],⟨trivial,h4⟩,by simp only[eW,h5]⟩
   ·exact hj.elim
 | .b::r,J,.b x kn::vs,hj=>by
   obtain⟨xs,J0,h1,h2,h3,h4,h5⟩:=mu (sig:=r) (J:=J x) (vs:=vs) hj
   exact⟨.b x none::xs,J0,h1,h2,fun m=>by simp[cY,Lf.ok,h3 m],⟨trivial,h4⟩,by simp only[eW,h5];rfl⟩
 | .s::r,J,.s x::vs,hj=>by
   obtain⟨xs,J0,h1,h2,h3,h4,h5⟩:=mu (sig:=r) (J:=J x) (vs:=vs) hj
   exact⟨.s x::xs,J0,h1,h2,fun m=>by simp[cY,Lf.ok,h3 m],⟨trivial,h4⟩,by simp only[eW,h5]⟩
 | .sl::r,J,.sl x::vs,hj=>by
   obtain⟨xs,J0,h1,h2,h3,h4,h5⟩:=mu (sig:=r) (J:=J x) (vs:=vs) hj
   exact⟨.sl x::xs,J0,h1,h2,fun m=>by simp[cY,Lf.ok,h3 m],⟨trivial,h4⟩,by simp only[eW,h5]⟩
 | .r::r,J,x::vs,hj=>by
   obtain⟨xs,J0,h1,h2,h3,h4,h5⟩:=mu (sig:=r) (J:=J (x.v ρ)) (vs:=vs) (by cases x<;>exact hj)
   exact⟨.r (x.v ρ)::xs,J0,h1,h2,fun m=>by simp[cY,Lf.ok,h3 m],⟨trivial,h4⟩,by simp only[eW,h5];rfl⟩
 | .q e::r,J,.q x e'::vs,hj=>by
   obtain⟨xs,J0,h1,h2,h3,h4,h5⟩:=mu (sig:=r) (J:=J x) (vs:=vs) hj
   exact⟨.q x e::xs,J0,⟨rfl,h1⟩,h2,fun m=>by simp[cY,Lf.ok,h3 m],⟨trivial,h4⟩,by simp only[eW,h5];rfl⟩
 | .m::r,J,.m x::vs,hj=>by
   obtain⟨xs,J0,h1,h2,h3,h4,h5⟩:=mu (sig:=r) (J:=J x) (vs:=vs) hj
   exact⟨.m x::xs,J0,h1,h2,fun m=>by simp[cY,Lf.ok,h3 m],⟨trivial,h4⟩,by simp only[eW,h5]⟩
 | .n::r,J,x::vs,hj=>by
   have hj:(match KE x with|some b=>uA ρ r (J b) vs h|none=>False):=by cases x<;>exact hj
   cases hb:KE x with
   |none=>rw[hb]at hj;exact hj.elim
   |some b=>
    rw[hb]at hj
    obtain⟨xs,J0,h1,h2,h3,h4,h5⟩:=mu (sig:=r) (J:=J b) (vs:=vs) hj
    exact⟨.q (some ⟨b,0,none⟩) 0::xs,J0,h1,h2,fun m=>by simp[cY,Lf.ok,h3 m],⟨trivial,h4⟩,by simp only[eW,h5,ME hb];rfl⟩
theorem pQ:∀{ss:List Sh}{vs:List Lf}{K:List Lf->List Lf->Prop},yI ss vs K->K (vs.take ss.length) (vs.drop ss.length)
 |[],vs,K,h=>by simpa[yI]using h
 |s::ss,x::vs,K,h=>by
  simp only[yI]at h
  have:=pQ h
  simpa using this
 |s::ss,[],K,h=>by simp[yI]at h
def Ol:As->List Lf->Av
 | .l _,x::_=> .l x
 | .l _,[]=> .l .u
 | .a ss,vs=> .a (vs.take ss.length)
theorem KO{sh:As}{vs:List Lf}{K:Av->List Lf->Prop}(h:Ya sh vs K):K (Ol sh vs) (vs.drop (X9 sh).length):=by
 cases sh with
 |l x=>
  cases vs with
  |nil=>exact h.elim
  |cons y vs=>exact h
 |a ss=>
  have:=pQ h
  exact this
def eI(n:Nat):List It->List Lf->List (Nat×Option Tv)->List (Nat×Option Tv)
 |[],_,E=>E
 |x::r,vs,E=>eI n r (vs.drop (X9 x.sh).length) (KG n E x.t (some (.v (Ol x.sh vs))))
theorem DY{n:Nat}:∀{rh:List It}{vs:List Lf}{E:List (Nat×Option Tv)}{K:List Lf->List (Nat×Option Tv)->Prop},Y3 n rh vs E K->K (vs.drop (tM rh).length) (eI n rh vs E)
 |[],vs,E,K,h=>h
 |x::r,vs,E,K,h=>by
  have:=DY (KO h)
  simp only[tM,bT]
  rw[<-sR]
  exact this
def l2(ch:List Nat):List (Nat×List Lf)->List Lf->List (Nat×List Lf)
 |[],_=>[]
 |(i,xs)::L,vs=>match ga ch i with
  |true=>(i,vs.take (rc xs).length)::l2 ch L (vs.drop (rc xs).length)
  |false=>(i,xs)::l2 ch L vs
theorem wR{ch:List Nat}:∀{L:List (Nat×List Lf)}{vs:List Lf}{K:List (Nat×List Lf)->List Lf->Prop},Qn ch L vs K->K (l2 ch L vs) (vs.drop (Df ch L).length)
 |[],vs,K,h=>h
 |(i,xs)::L,vs,K,h=>by
  unfold Qn at h
  unfold l2 Df
  cases hi:ga ch i with
  |true=>
   rw[hi]at h
   have:=wR (pQ h)
   simp only[bT]
   rw[<-sR]
   exact this
  |false=>rw[hi]at h;exact wR h
theorem AX(ρ:List Nat)(xs:List Lf)(n:Nat):eW ρ (xs.take n)=(eW ρ xs).take n:=by rw[fR,fR,nQ]
theorem oO(ρ:List Nat)(xs:List Lf)(n:Nat):eW ρ (xs.drop n)=(eW ρ xs).drop n:=by rw[fR,fR,List.map_drop]
theorem kR(ρ:List Nat)(xs ys:List Lf):eW ρ (xs++ys)=eW ρ xs++eW ρ ys:=by rw[fR,fR,fR,cQ]
theorem ik(ρ:List Nat)(xs:List Lf):(eW ρ xs).length=xs.length:=by rw[fR,bB]
theorem mv:∀xs:List Lf,(rc xs).length=xs.length
 |[]=>rfl
 |_::xs=>by simp[rc,mv xs]
theorem Fi:∀ss:List Sh,Ij.De ss=ss.length
 |[]=>rfl
 |_::ss=>by simp[Ij.De,Fi ss]
def avV:As->List Value->Value
 | .l _,v::_=>v
 | .l _,[]=>undef
 | .a ss,vs=> .agg (vs.take ss.length).toArray
theorem Za(ρ:List Nat)(sh:As)(xs:List Lf):(Ol sh xs).v ρ=avV sh (eW ρ xs):=by
 cases sh with
 |l x=>cases xs<;>rfl
 |a ss=>simp only[Ol,avV,Av.v,AX]
theorem U4{m:Nat}{sh:As}{xs:List Lf}(h:cY m xs=true)(hf:dL xs):(Ol sh xs).ok m=true/\(Ol sh xs).fact:=by
 cases sh with
 |l x=>
  cases xs with
  |nil=>exact⟨rfl,trivial⟩
  |cons y ys=>
   simp only[cY,bK]at h
   exact⟨h.1,hf.1⟩
 |a ss=>exact⟨dW.2 fun x hx=>dW.1 h x (lR hx),cZ.2 fun x hx=>cZ.1 hf x (lR hx)⟩
def U5:List It->List Value->List Value
 |[],_=>[]
 |x::r,vs=>avV x.sh vs::U5 r (vs.drop (X9 x.sh).length)
def wS(n:Nat)(j:Nat->Value):List Nat->bP->bP
 |[],A=>A
 |t::ts,A=>wS n j ts (Ay n A (some t) (j t))
def qv(n:Nat):List Nat->List Value->bP->bP
 |[],_,A=>A
 |_::_,[],A=>A
 |t::ts,v::vs,A=>qv n ts vs (Ay n A (some t) v)
theorem AY{α:Sort _}{n:Nat}{j:Nat->Value}{k:bP->α}:∀(L:List Nat)(A:bP),uv n j L A k=k (wS n j L A)
 |[],A=>rfl
 |t::ts,A=>by simp only[uv,wS,ju];exact AY ts _
theorem Fj{α:Sort _}{n:Nat}{k:bP->α}:∀(L:List Nat)(vs:List Value)(A:bP),vh n L vs A k=k (qv n L vs A)
 |[],_,A=>rfl
 |_::_,[],A=>rfl
 |t::ts,v::vs,A=>by simp only[vh,qv,ju];exact Fj ts vs _
theorem AZ{ρ:List Nat}{m n:Nat}{E:List (Nat×Option Tv)}{A:bP}(R:Rel ρ m E A){t:Nat}{x:Option Tv}{v:Value}(hx:∀y,x=some y->y.ok m=true/\y.fact/\v=y.val ρ):Rel ρ m (KG n E t x) (Ay n A (some t) v):=by
 unfold KG Ay
 simp only
 cases hb:Nat.blt t n with
 |false=>exact R
 |true=>
  refine⟨fun t' y hy=> ?_⟩
  simp only[tL]at hy
  simp only[oe]
  cases hd:Nat.beq t t' with
  |true=>rw[hd]at hy;exact hx y hy
  |false=>rw[hd]at hy;exact R.get t' y hy
theorem DZ{ρ:List Nat}{m n:Nat}{j:Nat->Value}:∀{ts:List Nat}{E:List (Nat×Option Tv)}{A:bP},Rel ρ m E A->Rel ρ m (Ii n ts E) (wS n j ts A)
 |[],E,A,R=>R
 |t::ts,E,A,R=>by
  simp only[Ii,wS]
  exact DZ (AZ R fun y hy=>by cases hy)
theorem QJ{ρ:List Nat}{m n:Nat}:∀{rh:List It}{xs:List Lf}{E:List (Nat×Option Tv)}{A:bP},Rel ρ m E A->cY m xs=true->dL xs->Rel ρ m (eI n rh xs E) (qv n (oN rh) (U5 rh (eW ρ xs)) A)
 |[],xs,E,A,R,_,_=>R
 |x::r,xs,E,A,R,ho,hf=>by
  simp only[eI,oN,U5,qv]
  rw[<-oO]
  obtain⟨h1,h2⟩:=U4 (sh:=x.sh) ho hf
  refine QJ (AZ R fun y hy=> ?_) (dW.2 fun z hz=>dW.1 ho z (wN hz)) (cZ.2 fun z hz=>cZ.1 hf z (wN hz))
  have hy:=bF hy
  subst hy
  exact⟨h1,h2,(Za ρ x.sh xs).symm⟩
theorem wT{ρ:List Nat}{m:Nat}{E:List (Nat×Option Tv)}{A:bP}(R:Rel ρ m E A):∀{rh:List It}{K:List Lf->Prop},Ij E rh K->∃vs,K vs/\vs.length=(tM rh).length/\∀rest,fh A (oN rh)=U5 rh (eW ρ (vs++rest))
 |[],K,h=>⟨[],h,rfl,fun _=>rfl⟩
 |x::r,K,h=>by
  unfold Ij at h
  split at h
  ·rename_i y sh hy hs
   obtain⟨vs,h1,h2,h3⟩:=wT R h
   refine⟨y::vs,h1,by simp[tM,hs,X9,h2,Nat.add_comm],fun rest=> ?_⟩
   simp only[oN,fh,U5,hs,avV,X9,List.cons_append,eW]
   rw[(R.get _ _ hy).2.2,h3 rest]
   rfl
  ·rename_i ys ss hy hs
   split at h
   ·rename_i hn
    have hl:ys.length=ss.length:=by rw[<-mq,<-Fi];exact fo hn
    obtain⟨vs,h1,h2,h3⟩:=wT R h
    refine⟨ys++vs,h1,by simp[tM,hs,X9,h2,hl],fun rest=> ?_⟩
    simp only[oN,fh,U5,hs,avV,X9]
    rw[(R.get _ _ hy).2.2,h3 rest,gu,kR ρ ys (vs++rest)]
    rw[vl (by rw[ik,hl]),vx (by rw[ik,hl])]
    rfl
   ·exact h.elim
  ·exact h.elim
theorem Fk{ch:List Nat}(ρ:List Nat):∀(L:List (Nat×List Lf))(xs:List Lf),(mn ρ (l2 ch L xs)).map (·.1)=(mn ρ L).map (·.1)
 |[],_=>rfl
 |(i,ys)::L,xs=>by
  unfold l2
  cases ga ch i with
  |true=>simp only[mn,bJ];rw[Fk ρ L]
  |false=>simp only[mn,bJ];rw[Fk ρ L]
theorem Iw{ch:List Nat}{m:Nat}:∀{L:List (Nat×List Lf)}{xs:List Lf},u6 m L=true->ra L->cY m xs=true->dL xs->u6 m (l2 ch L xs)=true/\ra (l2 ch L xs)
 |[],_,_,_,_,_=>⟨rfl,trivial⟩
 |(i,ys)::L,xs,h1,h2,h3,h4=>by
  simp only[u6,bK]at h1
  unfold l2
  cases ga ch i with
  |true=>
   obtain⟨a,b⟩:=Iw (ch:=ch) h1.2 h2.2 (dW.2 fun z hz=>dW.1 h3 z (wN (i:=(rc ys).length) hz)) (cZ.2 fun z hz=>cZ.1 h4 z (wN (i:=(rc ys).length) hz))
   refine⟨?_,cZ.2 fun z hz=>cZ.1 h4 z (lR hz),b⟩
   simp only[u6,bK]
   exact⟨⟨h1.1.1,dW.2 fun z hz=>dW.1 h3 z (lR hz)⟩,a⟩
  |false=>
   obtain⟨a,b⟩:=Iw (ch:=ch) h1.2 h2.2 h3 h4
   exact⟨by simp[u6,h1.1.1,h1.1.2,a],h2.1,b⟩
theorem Fl{ch:List Nat}:∀{L:List (Nat×List Lf)}{xs:List Lf}{id:Nat},ga ch id=false->dM (l2 ch L xs) id=dM L id
 |[],_,_,_=>rfl
 |(i,ys)::L,xs,id,h=>by
  unfold l2
  cases hi:ga ch i with
  |true=>
   simp only[dM]
   cases hb:Nat.beq i id with
   |true=>have:=fo hb;subst this;rw[hi]at h;cases h
   |false=>exact Fl h
  |false=>
   simp only[dM]
   cases Nat.beq i id with
   |true=>rfl
   |false=>exact Fl h
theorem wU{ρ:List Nat}{ch:List Nat}{L':List (Nat×List Lf)}:∀{L0:List (Nat×List Lf)}{K:List Lf->Prop},Qo L' ch L0 K->∃vs,K vs/\vs.length=(Df ch L0).length/\∀xs tl,eW ρ xs=eW ρ vs++tl->∀p,p∈l2 ch L0 xs->(ga ch p.1=true/\∃cs,dM L' p.1=some cs/\eW ρ p.2=eW ρ cs)\/(ga ch p.1=false/\p∈L0)
 |[],K,h=>⟨[],h,rfl,fun xs _ _ p hp=>by simp[l2]at hp⟩
 |(i,ys)::L0,K,h=>by
  unfold Qo at h
  unfold Df
  cases hi:ga ch i with
  |true=>
   rw[hi]at h
   simp only at h
   split at h
   ·rename_i cs Kf
    split at h
    ·rename_i hn
     have hl:cs.length=ys.length:=by rw[<-mq,<-mq];exact fo hn
     obtain⟨vs,h1,h2,h3⟩:=wU (ρ:=ρ) h
     refine⟨cs++vs,h1,by simp only[bT,mv];omega,fun xs tl hxs p hp=> ?_⟩
     unfold l2 at hp
     rw[hi]at hp
     rw[kR,gu]at hxs
     rcases aO.1 hp with rfl|hp
     ·refine .inl ⟨hi,cs,Kf,?_⟩
      simp only
      rw[AX,hxs,mv,vl (by rw[ik,hl])]
     ·rcases h3 (xs.drop (rc ys).length) tl (by rw[oO,hxs,mv,vx (by rw[ik,hl])]) p hp with h3|h3
      ·exact .inl h3
      ·exact .inr ⟨h3.1,cK _ h3.2⟩
    ·exact h.elim
   ·exact h.elim
  |false=>
   rw[hi]at h
   obtain⟨vs,h1,h2,h3⟩:=wU (ρ:=ρ) h
   refine⟨vs,h1,h2,fun xs tl hxs p hp=> ?_⟩
   unfold l2 at hp
   rw[hi]at hp
   rcases aO.1 hp with rfl|hp
   ·exact .inr ⟨hi,by simp⟩
   ·rcases h3 xs tl hxs p hp with h3|h3
    ·exact .inl h3
    ·exact .inr ⟨h3.1,cK _ h3.2⟩
theorem Vars.sub{h h0:Heap}{VL:List (Nat×List Value)}(H:Vars h VL):∀{V0 VQ:List (Nat×List Value)},Vars h0 V0->VQ.map (·.1)=V0.map (·.1)->(∀q,q∈VQ->q∈VL)->Vars h VQ
 |[],[],_,_,_=> .nil
 |(b,cs)::V0,(b',nB)::VQ,.cons hv hn hl,hk,hm=>by
  simp only[bJ,rA]at hk
  obtain⟨rfl,hk⟩:=hk
  refine .cons (H.mem _ (hm (b',nB) (by simp))) (fun p hp e=> ?_) (H.sub hl hk fun q hq=>hm q (by simp[hq]))
  have:p.1∈V0.map (·.1):=by rw[<-hk];exact dN.2 ⟨p,hp,rfl⟩
  obtain⟨q,hq,hqe⟩:=dN.1 this
  exact hn q hq (hqe.trans e)
 |[],_::_,_,hk,_=>by simp at hk
 |_::_,[],_,hk,_=>by simp at hk
theorem mw{ρ:List Nat}:∀{L:List (Nat×List Lf)}{q:Nat×List Value},q∈mn ρ L↔∃p,p∈L/\q=(gf ρ p.1,eW ρ p.2)
 |[],q=>by simp[mn]
 |(i,xs)::L,q=>by
  simp only[mn,aO,mw (L:=L)]
  constructor
  ·rintro(rfl|⟨p,h1,h2⟩)
   ·exact⟨(i,xs),.inl rfl,rfl⟩
   ·exact⟨p,.inr h1,h2⟩
  ·rintro⟨p,(rfl|h1),h2⟩
   ·exact .inl h2
   ·exact .inr ⟨p,h1,h2⟩
theorem mL:∀{L:List (Nat×List Lf)}{id:Nat}{cs:List Lf},dM L id=some cs->(id,cs)∈L
 |[],id,cs,h=>by simp[dM]at h
 |(i,xs)::L,id,cs,h=>by
  unfold dM at h
  cases hb:Nat.beq i id with
  |true=>
   rw[hb]at h
   have:=fo hb
   subst this
   have h:=bF h
   subst h
   simp
  |false=>rw[hb]at h;exact cK _ (mL h)
theorem pR{ρ:List Nat}{h:Heap}:∀{L:List (Nat×List Lf)}{id:Nat}{cs:List Lf},Vars h (mn ρ L)->(id,cs)∈L->dM L id=some cs
 |(i,xs)::L,id,cs,V,hm=>by
  unfold dM
  rcases aO.1 hm with e|hm
  ·simp only[fL]at e
   obtain⟨rfl,rfl⟩:=e
   simp
  ·cases hb:Nat.beq i id with
   |true=>
    have:=fo hb
    subst this
    exact absurd rfl (V.ne (gf ρ i,eW ρ cs) (mw.2 ⟨(i,cs),hm,rfl⟩))
   |false=>exact pR V.tail hm
theorem uC{f:List Value->Prop}:∀{n:Nat},(∀vs,f vs)->mh n f
 |0,h=>h []
 |n+1,h=>fun v=>uC (n:=n) fun vs=>h (v::vs)
theorem A4:∀(rh:List It)(vs:List Value),(U5 rh vs).length=(oN rh).length
 |[],_=>rfl
 |x::r,vs=>by simp only[U5,oN,List.length_cons,A4 r]
theorem vy(A:bP):∀a b:List Nat,fh A (a++b)=fh A a++fh A b
 |[],b=>rfl
 |x::a,b=>by simp only[List.cons_append,fh,vy A a b]
theorem Ea{n:Nat}:∀{a:List Nat}{va:List Value}{b:List Nat}{vb:List Value}{A:bP},va.length=a.length->qv n (a++b) (va++vb) A=qv n b vb (qv n a va A)
 |[],[],b,vb,A,_=>rfl
 |t::a,v::va,b,vb,A,h=>by
  simp only[List.cons_append,qv]
  exact Ea (by simpa using h)
 |[],_::_,_,_,_,h=>by simp at h
 |_::_,[],_,_,_,h=>by simp at h
def Zb:List (Nat×List Sh)->List Value->List Value
 |[],_=>[]
 |(_,ss)::r,v::vs=>v::Zb r (vs.drop ss.length)
 |_::r,[]=>undef::Zb r []
def Zc:Value->Nat
 | .pointer (some a)=>a.block
 |_=>0
def yL:List (Nat×List Sh)->List Value->List (Nat×List Value)->List (Nat×List Value)
 |[],_,V=>V
 |(_,ss)::r,v::vs,V=>yL r (vs.drop ss.length) ((Zc v,vs.take ss.length)::V)
 |_::r,[],V=>yL r [] V
theorem Eb{ρ:List Nat}{h:Heap}:∀{L:List (Nat×List Lf)}{i j:Nat}{c d:List Lf},Vars h (mn ρ L)->(i,c)∈L->(j,d)∈L->i≠j->gf ρ i≠gf ρ j
 |(k,xs)::L,i,j,c,d,V,hi,hj,fH=>by
  rcases aO.1 hi with e1|hi
  ·rcases aO.1 hj with e2|hj
   ·simp only[fL]at e1 e2
    exact absurd (e1.1.trans e2.1.symm) fH
   ·simp only[fL]at e1
    have:=V.ne (gf ρ j,eW ρ d) (mw.2 ⟨(j,d),hj,rfl⟩)
    rw[e1.1]
    exact fun e=>this e.symm
  ·rcases aO.1 hj with e2|hj
   ·simp only[fL]at e2
    have:=V.ne (gf ρ i,eW ρ c) (mw.2 ⟨(i,c),hi,rfl⟩)
    rw[e2.1]
    exact this
   ·exact Eb V.tail hi hj fH
theorem Ec{m0:Nat}{s:St}{ρ:List Nat}{h:Heap}{A:bP}(hr:s.ρ=ρ)(I:Vars h (mn ρ s.L))(R:Rel ρ s.m s.E A):∀{nv:List (Nat×List Sh)}{ids:List Nat}{K:List Lf->Prop},UU m0 s ids nv K->
 ∃vs,K vs/\fh A (ov nv)=Zb nv (eW ρ vs)/\∀V,Vars h V->(∀q,q∈V->∃p,p∈s.L/\(p.1<m0\/ga ids p.1=true)/\q=(gf ρ p.1,eW ρ p.2))->Vars h (yL nv (eW ρ vs) V)
 |[],ids,K,H=>⟨[],H,rfl,fun V hV _=>hV⟩
 |(t,ss)::r,ids,K,H=>by
  unfold UU at H
  split at H
  ·rename_i id hid
   split at H
   ·rename_i h1 h2
    split at H
    ·rename_i cs Kf
     split at H
     ·rename_i hn
      have hl:cs.length=ss.length:=by rw[<-mq,<-Fi];exact fo hn
      obtain⟨vs,k1,k2,k3⟩:=Ec hr I R H
      refine⟨_,k1,?_,fun V hV hq=> ?_⟩
      ·simp only[ov,fh,eW,Zb,kR]
       rw[k2,vx (by rw[ik,hl]),(R.get _ _ hid).2.2,hr]
       rfl
      ·simp only[eW,yL,kR]
       rw[vx (by rw[ik,hl]),vl (by rw[ik,hl])]
       have hm:=mL Kf
       have hb:Zc ((Lf.q (some ⟨gf s.ρ id,0,none⟩) 0).v ρ)=gf ρ id:=by rw[hr];rfl
       rw[hb]
       refine k3 _ (.cons (I.mem _ (mw.2 ⟨(id,cs),hm,rfl⟩)) (fun q hqV e=> ?_) hV) fun q hqV=> ?_
       ·obtain⟨p,p1,p2,p3⟩:=hq q hqV
        have fH:p.1≠id:=fun e=>by
         subst e
         rcases p2 with p2|p2
         ·rw[<-Nat.blt_eq]at p2;rw[h1]at p2;cases p2
         ·rw[h2]at p2;cases p2
        rw[p3]at e
        exact Eb I p1 hm fH e
       ·rcases aO.1 hqV with rfl|hqV
        ·exact⟨(id,cs),hm,.inr (by simp[ga]),rfl⟩
        ·obtain⟨p,p1,p2,p3⟩:=hq q hqV
         refine⟨p,p1,?_,p3⟩
         rcases p2 with p2|p2
         ·exact .inl p2
         ·exact .inr (by simp[ga,p2])
     ·exact H.elim
    ·exact H.elim
   ·exact H.elim
  ·exact H.elim
def JV(a:An)(s:St)(ρ:List Nat)(J:Hv (Qq a s.L))(vs:List Value)(h:Heap):Prop:=
 ∃xs J0,QI _ J xs J0/\J0 h/\(∀m,cY m xs=true)/\dL xs/\vs=U5 a.rh (eW ρ xs)++Zb a.nv (eW ρ ((xs.drop (tM a.rh).length).drop (Df a.ch s.L).length))/\
  Vars h (yL a.nv (eW ρ ((xs.drop (tM a.rh).length).drop (Df a.ch s.L).length)) (mn ρ (l2 a.ch s.L (xs.drop (tM a.rh).length))))
theorem A5{m:Nat}{ch:List Nat}:∀{l:List Nat},Mv m ch l=true->∀i,i<m->ga ch i=false->ga l i=false
 |[],_,_,_,_=>rfl
 |j::l,h,i,hi,hc=>by
  simp only[Mv,bK,Bool.or_eq_true,gE]at h
  simp only[ga,Bool.or_eq_false_iff]
  refine⟨?_,A5 h.2 i hi hc⟩
  cases hb:Nat.beq j i with
  |false=>rfl
  |true=>
   have:=fo hb
   subst this
   rcases h.1 with h1|h1
   ·rw[h1]at hc;cases hc
   ·rw[<-Nat.blt_eq]at hi;rw[h1]at hi;cases hi
theorem Fm{m:Nat}:∀{L:List (Nat×List Lf)},u6 m L=true->∀p,p∈L->p.1<m/\cY m p.2=true
 |[],_,p,hp=>by simp at hp
 |(i,ys)::L,hL,p,hp=>by
  simp only[u6,bK]at hL
  rcases aO.1 hp with rfl|hp
  ·exact⟨gA.1 hL.1.1,hL.1.2⟩
  ·exact Fm hL.2 p hp
theorem kg{m n:Nat}{xs:List Lf}(h:cY m xs=true):cY m (xs.drop n)=true:=dW.2 fun z hz=>dW.1 h z (wN hz)
theorem kS{n:Nat}{xs:List Lf}(h:dL xs):dL (xs.drop n):=cZ.2 fun z hz=>cZ.1 h z (wN hz)
theorem Fo{a:An}{s:St}{ρ:List Nat}{h:Heap}(C:Cl s ρ h){J:Hv (Qq a s.L)}{s':St}{kE:List Nat}{A:bP}{h':Heap}(I':Inv s' kE h')(R':Rel kE s'.m s'.E A)(N:Nx s ρ s' kE)
 (H:act a s s' fun vs=>uA s'.ρ _ J vs s'.h) (hr:s'.ρ=kE) (hh:s'.h=h'):JV a s ρ J (fh A (oN a.rh++ov a.nv)) h':=by
 unfold act at H
 split at H
 ·rename_i ho
  obtain⟨vs1,H1,hl,hv⟩:=wT R' H
  obtain⟨vs2,H2,hl2,hp⟩:=wU (ρ:=kE) H1
  obtain⟨vs3,H3,hv3,hN⟩:=Ec hr I'.vars R' H2
  rw[hr,hh]at H3
  obtain⟨xs,J0,k1,k2,k3,k4,k5⟩:=mu H3
  obtain⟨y,hy⟩:=N.r
  have same:∀zs:List Lf,(∀m,cY m zs=true)->eW kE zs=eW ρ zs:=fun zs hz=>by rw[hy];exact jF (hz _)
  have hd:eW kE (xs.drop (tM a.rh).length)=eW kE vs2++eW kE vs3:=by
   rw[oO,k5,kR,vx (by rw[ik,hl]),kR]
  have hd3:eW ρ ((xs.drop (tM a.rh).length).drop (Df a.ch s.L).length)=eW kE vs3:=by
   rw[<-same _ fun m=>kg (kg (k3 m)),oO,hd,vx (by rw[ik,hl2])]
  refine⟨xs,J0,k1,k2,k3,k4,?_,?_⟩
  ·rw[vy,hv (vs2++vs3),<-k5,same _ k3,hd3,hv3]
  ·rw[hd3]
   refine hN _ ?_ ?_
   ·refine I'.vars.sub C.vars (Fk ρ s.L _) fun q hq=> ?_
    obtain⟨p,p1,p2⟩:=mw.1 hq
    have QK:=Fm (Iw (ch:=a.ch) C.wL C.zF (kg (n:=(tM a.rh).length) (k3 s.m)) (kS k4)).1 p p1
    have e1:gf ρ p.1=gf kE p.1:=by rw[hy];exact(lH _ _ _ (by rw[C.len];exact QK.1)).symm
    have e2:eW ρ p.2=eW kE p.2:=by rw[hy];exact(jF (by rw[C.len];exact QK.2)).symm
    rw[p2,e1,e2]
    rcases hp _ _ hd p p1 with⟨q1,cs,q2,q3⟩|⟨q1,q2⟩
    ·rw[q3]
     exact mw.2 ⟨(p.1,cs),mL q2,rfl⟩
    ·obtain⟨new,n1,n2⟩:=N.md
     rw[n1,wQ]at ho
     have hf:=n2 p.1 (A5 ho p.1 QK.1 q1) QK.1
     rw[pR C.vars q2]at hf
     exact mw.2 ⟨(p.1,p.2),mL hf,rfl⟩
   ·intro q hq
    obtain⟨p,p1,p2⟩:=mw.1 hq
    have QK:=Fm (Iw (ch:=a.ch) C.wL C.zF (kg (n:=(tM a.rh).length) (k3 s.m)) (kS k4)).1 p p1
    have e1:gf ρ p.1=gf kE p.1:=by rw[hy];exact(lH _ _ _ (by rw[C.len];exact QK.1)).symm
    have e2:eW ρ p.2=eW kE p.2:=by rw[hy];exact(jF (by rw[C.len];exact QK.2)).symm
    rw[p2,e1,e2]
    rcases hp _ _ hd p p1 with⟨q1,cs,q2,q3⟩|⟨q1,q2⟩
    ·rw[q3]
     exact⟨(p.1,cs),mL q2,.inl QK.1,rfl⟩
    ·obtain⟨new,n1,n2⟩:=N.md
     rw[n1,wQ]at ho
     have hf:=n2 p.1 (A5 ho p.1 QK.1 q1) QK.1
     rw[pR C.vars q2]at hf
     exact⟨(p.1,p.2),mL hf,.inl QK.1,rfl⟩
 ·exact H.elim
theorem MF{n:Nat}{h:Heap}:∀{nv:List (Nat×List Sh)}{vs:List Lf}{s:St}{ρ:List Nat}{A:bP}{K:St->Prop},(Vars h (mn ρ s.L)->Cl s ρ h)->Rel ρ s.m s.E A->(∀m,cY m vs=true)->dL vs->
 Vars h (yL nv (eW ρ vs) (mn ρ s.L))->UT n nv vs s K->∃s2 Kg,Cl s2 Kg h/\Rel Kg s2.m s2.E (qv n (ov nv) (Zb nv (eW ρ vs)) A)/\s.m<=s2.m/\s2.md=s.md/\(∀id,id<s.m->dM s2.L id=dM s.L id)/\(∃y,Kg=ρ++y)/\K s2
 |[],vs,s,ρ,A,K,C,R,_,_,V,H=>⟨s,ρ,C V,R,aY _,rfl,fun _ _=>rfl,⟨[],by simp⟩,H⟩
 |(t,ss)::r,[],s,ρ,A,K,C,R,_,_,V,H=>H.elim
 |(t,ss)::r,x::vs,s,ρ,A,K,C,R,ho,hf,V,H=>by
  unfold UT at H
  cases hb:KE x with
  |none=>rw[hb]at H;exact H.elim
  |some b=>
   rw[hb]at H
   have H:=pQ H
   have hx:=ME hb ρ
   simp only[eW,yL,hx]at V
   rw[<-oO,<-AX]at V
   have hvs:∀m,cY m vs=true:=fun m=>by have:=ho m;simp only[cY,bK]at this;exact this.2
   have hV0:∀{nv:List (Nat×List Sh)}{vs:List Value}{V:List (Nat×List Value)},Vars h (yL nv vs V)->Vars h V:=by
    intro nv
    induction nv with
    |nil=>intro vs V h;exact h
    |cons p r ih=>
     intro vs V h
     cases vs with
     |nil=>exact ih h
     |cons v vs=>exact(ih h).tail
   have C0:=C (hV0 V).tail
   have ht:∀m,cY m (vs.take ss.length)=true:=fun m=>dW.2 fun z hz=>dW.1 (hvs m) z (lR hz)
   have hl:gf (ρ++[b]) s.m=b:=by rw[<-C0.len];exact vt ρ b []
   have eL:mn (ρ++[b]) ((s.m,vs.take ss.length)::s.L)=(Zc (VP b 0),eW ρ (vs.take ss.length))::mn ρ s.L:=by
    show(gf (ρ++[b]) s.m,eW (ρ++[b]) (vs.take ss.length))::mn (ρ++[b]) s.L=_
    rw[hl,jF (ht _),zE (by rw[C0.len];exact C0.wL)]
    rfl
   have ed:eW (ρ++[b]) (vs.drop ss.length)=eW ρ (vs.drop ss.length):=jF (kg (hvs _))
   have Rx:=R.ext (y:=[b]) (n:=s.m+1) C0.len (by omega)
   obtain⟨s2,Kg,c1,c2,c3,c4,c5,⟨y,c6⟩,c7⟩:=MF (s:={s with E:=KG n s.E t (some (.v (.l (.p s.m 0)))),L:=(s.m,vs.take ss.length)::s.L,ρ:=s.ρ++[b],m:=s.m+1}) (ρ:=ρ++[b]) (A:=Ay n A (some t) (VP b 0)) (fun W=>⟨W,by simp[C0.len],by rw[C0.r],C0.h,C0.nw,C0.so,C0.d,by
    have e1:=ht (s.m+1)
    have e2:=UX (Nat.le_succ s.m) C0.wL
    simp only[u6,bK]
    exact⟨⟨gA.2 (pO _),e1⟩,e2⟩,⟨cZ.2 fun z hz=>cZ.1 hf.2 z (lR hz),C0.zF⟩⟩)
    (AZ Rx fun y hy=>by
     have hy:=bF hy
     subst hy
     refine⟨gA.2 (pO _),trivial,?_⟩
     show VP b 0=VP (gf (ρ++[b]) s.m) 0
     rw[hl]) (fun m=>kg (hvs m)) (kS hf.2) (by rw[eL,ed];exact V) H
   refine⟨s2,Kg,c1,?_,by have:s.m+1<=s2.m:=c3
                         omega,c4,fun id hid=> ?_,⟨b::y,by rw[c6];simp⟩,c7⟩
   ·rw[ed]at c2
    simp only[ov,eW,Zb,hx,qv]
    rw[<-oO]
    exact c2
   ·rw[c5 id (Nat.lt_succ_of_lt hid)]
    exact uB hid
theorem MG{n:Nat}{a:An}{ws:List Nat}{s:St}{ρ:List Nat}{h:Heap}(C:Cl s ρ h){A:bP}(R:Rel ρ s.m s.E A){J:Hv (Qq a s.L)}{Q:St->Prop}{vs:List Value}{h':Heap}(hj:JV a s ρ J vs h')
 (H:zd _ J fun vs J'=>∀h':Heap,J' h'->bld n a ws vs {s with h:=h'} fun s2=>Vars h' (mn s2.ρ s2.L)->Q s2) (j:Nat->Value):
 ∃s2 Kg,Inv s2 Kg h'/\Rel Kg s2.m s2.E (qv n (oN a.rh++ov a.nv) vs (wS n j ws A))/\Nx s ρ s2 Kg/\Q s2:=by
 obtain⟨xs,J0,k1,k2,k3,k4,k5,k6⟩:=hj
 have h1:=mr H k1 h' k2
 unfold bld at h1
 have h2:=wR (DY h1)
 obtain⟨o1,o2⟩:=Iw (ch:=a.ch) C.wL C.zF (kg (n:=(tM a.rh).length) (k3 s.m)) (kS k4)
 rw[k5,Ea (A4 _ _)]
 obtain⟨s2,Kg,c1,c2,c3,c4,c5,c6,c7⟩:=MF (h:=h') (s:={s with h:=h',E:=eI n a.rh xs (Ii n ws s.E),L:=l2 a.ch s.L (xs.drop (tM a.rh).length),md:=a.ch++s.md}) (ρ:=ρ) (fun V=>⟨V,C.len,C.r,rfl,C.nw,C.so,C.d,o1,o2⟩) (QJ (DZ (n:=n) (j:=j) (ts:=ws) R) (k3 _) k4) (fun m=>kg (kg (k3 m))) (kS (kS k4)) k6 h2
 exact⟨s2,Kg,c1.inv,c2,⟨c3,⟨a.ch,c4,fun id hid hm=>(c5 id hm).trans (Fl hid)⟩,c6⟩,c7 (by rw[c1.r];exact c1.vars)⟩
def Yd(an:Nat->Option An)(p:Nat):Option (List Nat):=
 match an p with
 |some a=>some (oN a.rh++ov a.nv)
 |none=>none
theorem To.up{s0 s:St}{wv ρ:List Nat}{K:St->Prop}{K':bP->Heap->Prop}(N:Nx s0 wv s ρ)(h:To s0 wv K K'):To s ρ K K':=fun s' kE A h' I R N' k=>h s' kE A h' I R (N.trans N') k
theorem Zd{P:Program}{n:Nat}{an:Nat->Option An}:∀(c:Code){p:Nat}{kn:St->Prop}{kx:Nat->St->Prop}{kr:St->Prop}{sN:bP->Heap->Prop}{vd:Nat->bP->Heap->Prop}{yE:bP->Heap->Prop}{s0 s:St}{wv ρ:List Nat}{A:bP}{h:Heap},Inv s ρ h->Rel ρ s.m s.E A->Nx s0 wv s ρ->
 To s0 wv kn sN->(∀i,To s0 wv (kx i) (vd i))->To s0 wv kr yE->KH P n an c p kn kx kr s->EZ P n (Yd an) c p sN vd yE A h:=by
 intro c
 induction c with
 |skip=>intro p kn kx kr sN vd yE s0 s wv ρ A h I R N tn tx tr H;exact tn s ρ A h I R N H
 |region id ops draw=>intro p kn kx kr sN vd yE s0 s wv ρ A h I R N tn tx tr H;exact Y9 tn I R N H
 |seq a b Ur Us=>
  intro p kn kx kr sN vd yE s0 s wv ρ A h I R N tn tx tr H
  simp only[KH]at H
  simp only[EZ]
  cases Ye:an p with
  |none=>
   rw[Ye]at H
   rw[show Yd an p=none by unfold Yd;rw[Ye]]
   exact Ur I R N (fun s' kE A' h' I' R' N' k=>Us I' R' N' tn tx tr k) tx tr H
  |some a'=>
   rw[Ye]at H
   rw[show Yd an p=some (oN a'.rh++ov a'.nv) by unfold Yd;rw[Ye]]
   simp only at H⊢
   obtain⟨s1,C,hE,hL,hm,lI,J,H1,H2⟩:=ka I H
   have R1:Rel ρ s1.m s1.E A:=by rw[hE,hm];exact R
   have N1:=N.trans (hJ (ρ:=ρ) hm hL lI)
   refine⟨JV a' s1 ρ J,?_,fun wC=>uC fun vs h' hj=> ?_⟩
   ·refine Ur C.inv R1 (Nx.refl s1 ρ) (fun s' kE A' h' I' R' N' k=> ?_) (fun i=>(tx i).up N1) (tr.up N1) H1
    obtain⟨s2,C2,hE2,cR,Ki,aih,k2⟩:=ka I' k
    have R2:Rel kE s2.m s2.E A':=by rw[hE2,Ki];exact R'
    exact Fo C C2.inv R2 (N'.trans (hJ Ki cR aih)) k2 C2.r C2.h
   ·rw[AY,Fj]
    obtain⟨s2,Kg,I2,R2,N2,q⟩:=MG C R1 hj H2 wC
    exact Us I2 R2 (N1.trans N2) tn tx tr q
 |cond c a b Ur Us=>
  intro p kn kx kr sN vd yE s0 s wv ρ A h I R N tn tx tr H
  simp only[KH]at H
  simp only[EZ]
  split at H
  ·rename_i x kn0 hx
   obtain⟨b1,b2⟩:=AR I R hx H
   rw[(gT R hx).2.2]
   refine UK (fun e=> ?_) (fun e=> ?_)
   ·obtain⟨s',I',R',hm,hL,lI,q⟩:=b1 e
    exact Ur I' R' (N.trans (hJ hm hL lI)) tn tx tr q
   ·obtain⟨s',I',R',hm,hL,lI,q⟩:=b2 e
    exact Us I' R' (N.trans (hJ hm hL lI)) tn tx tr q
  ·exact H.elim
 |block id c ih=>
  intro p kn kx kr sN vd yE s0 s wv ρ A h I R N tn tx tr H
  simp only[KH]at H
  simp only[EZ]
  refine ih I R N tn (fun i s' kE A' h' I' R' N' k=> ?_) tr H
  cases hb:Nat.beq i id with
  |true=>simp only[hb]at k⊢;exact tn s' kE A' h' I' R' N' k
  |false=>simp only[hb]at k⊢;exact tx i s' kE A' h' I' R' N' k
 |loop c ih=>
  intro p kn kx kr sN vd yE s0 s wv ρ A h I R N tn tx tr H
  simp only[KH]at H
  simp only[EZ]
  cases Ye:an p with
  |none=>rw[Ye]at H;exact H.elim
  |some a'=>
   rw[Ye]at H
   rw[show Yd an p=some (oN a'.rh++ov a'.nv) by unfold Yd;rw[Ye]]
   simp only at H⊢
   obtain⟨s1,C,hE,hL,hm,lI,J,⟨n0,H1⟩,H2⟩:=ka I H
   have R1:Rel ρ s1.m s1.E A:=by rw[hE,hm];exact R
   have N1:=N.trans (hJ (ρ:=ρ) hm hL lI)
   refine Kz (J:=fun n vs h'=>JV a' s1 ρ (J n) vs h') n0 (Fo C C.inv R1 (Nx.refl s1 ρ) H1 C.r C.h) fun Iv μ hI wC=>uC fun vs h' hi=> ?_
   rw[AY,Fj]
   obtain⟨m0,hj,hn⟩:=hI vs h' hi
   obtain⟨s2,Kg,I2,R2,N2,q⟩:=MG C R1 hj (H2 m0) wC
   refine ih I2 R2 N2 (fun s' kE A' nD I' R' N' k=> ?_) (fun i=>(tx i).up N1) (tr.up N1) q
   obtain⟨s3,C3,hE3,dA,hm3,aii,m,wF,k3⟩:=ka I' k
   have R3:Rel kE s3.m s3.E A':=by rw[hE3,hm3];exact R'
   exact hn _ _ ⟨m,wF,Fo C C3.inv R3 (N'.trans (hJ hm3 dA aii)) k3 C3.r C3.h⟩
 |exit id=>intro p kn kx kr sN vd yE s0 s wv ρ A h I R N tn tx tr H;exact tx id s ρ A h I R N H
 |ret=>intro p kn kx kr sN vd yE s0 s wv ρ A h I R N tn tx tr H;exact tr s ρ A h I R N H
 |label l=>intro p kn kx kr sN vd yE s0 s wv ρ A h I R N tn tx tr H;exact tn s ρ A h I R N H
 |_=>intro p kn kx kr sN vd yE s0 s wv ρ A h I R N tn tx tr H;exact H.elim
def Ze:Lf->Bool
 | .b _ (some _)=>false
 |_=>true
def Ix:List Lf->Bool
 |[]=>true
 |x::xs=>Ze x&&Ix xs
def ae0:Tv->Bool
 | .v (.l x)=>Ze x
 | .v (.a xs)=>Ix xs
 | .t _=>false
def MH:List Tv->Bool
 |[]=>true
 |x::xs=>ae0 x&&MH xs
def nkL:List (Nat×List Lf)->Bool
 |[]=>true
 |(_,xs)::L=>Ix xs&&nkL L
theorem MI{x:Lf}(h:Ze x=true):x.fact:=by
 cases x<;>try trivial
 case b x kn=>cases kn with
  |none=>trivial
  |some _=>cases h
theorem A6:∀{xs:List Lf},Ix xs=true->dL xs
 |[],_=>trivial
 |x::xs,h=>by
  simp only[Ix,bK]at h
  exact⟨MI h.1,A6 h.2⟩
theorem U6{x:Tv}(h:ae0 x=true):x.fact:=by
 cases x with
 |v x=>cases x with
  |l x=>exact MI h
  |a xs=>exact A6 h
 |t xs=>cases h
theorem QL:∀{L:List (Nat×List Lf)},nkL L=true->ra L
 |[],_=>trivial
 |(i,xs)::L,h=>by
  simp only[nkL,bK]at h
  exact⟨A6 h.1,QL h.2⟩
def QM(args:List Tv)(L:List (Nat×List Lf))(ρ:List Nat):Bool:=Ik (jW ρ) args&&(u6 (jW ρ) L&&(MH args&&nkL L))
theorem MJ{ρ:List Nat}{m:Nat}:∀{args:List Tv}{i t:Nat}{x:Tv},Ik m args=true->MH args=true->tL (UW.Qs args i) t=some x->x.ok m=true/\x.fact/\oe (vi (wK ρ args) i) t=x.val ρ
 |[],_,_,_,_,_,h=>by simp[UW.Qs,tL]at h
 |y::args,i,t,x,h1,h2,h=>by
  simp only[Ik,bK]at h1
  simp only[MH,bK]at h2
  simp only[UW.Qs,tL]at h
  simp only[wK,vi,oe]
  cases hb:Nat.beq i t with
  |true=>
   rw[hb]at h
   have h:=bF h
   subst h
   exact⟨h1.1,U6 h2.1,rfl⟩
  |false=>rw[hb]at h;exact MJ h1.2 h2.2 h
theorem Fp{P:Program}{K:aL}:∀{rs:List ResultVar}{acc:List Tv}{s:St}{ρ:List Nat}{A:bP}{h:Heap},Inv s ρ h->Rel ρ s.m s.E A->ze P K rs acc s->EX P (oe A) h K rs (wK ρ acc)
 |[],acc,s,ρ,A,h,I,R,H=>by
  simp only[ze]at H
  obtain⟨s',C,_,_,_,_,H⟩:=ka I H
  split at H
  ·rw[C.r,C.h]at H
   exact H
  ·exact H.elim
 | .tmp t::rs,acc,s,ρ,A,h,I,R,H=>by
   simp only[ze]at H
   simp only[EX]
   split at H
   ·rename_i x hx
    have:=Fp I R H
    simp only[wK]at this
    rw[(R.get t x hx).2.2]
    exact this
   ·exact H.elim
 | .cell a t::rs,acc,s,ρ,A,h,I,R,H=>by
   simp only[ze]at H
   simp only[EX]
   split at H
   ·rename_i id off hx
    have hv:oe A a=VP (gf ρ id) off:=(gT R hx).2.2
    rw[hv]
    split at H
    ·rename_i cs hf
     obtain⟨i,hi,_⟩:=mK (ρ:=ρ) hf
     split at H
     ·rename_i h1
      split at H
      ·rename_i y hy
       have:=Fh (ρ:=ρ) hy
       exact Mq h1 I.vars i hi off (v:=y.v ρ) (by simpa using this) (Fp (acc:= .v (.l y)::acc) I R H)
      ·exact H.elim
     ·split at H
      ·rename_i n h2
       split at H
       ·rename_i ys hy
        obtain⟨e1,e2⟩:=wM (ρ:=ρ) hy
        exact HU h2 I.vars i hi off e1 e2 (Fp (acc:= .v (.a ys)::acc) I R H)
       ·exact H.elim
      ·exact H.elim
    ·exact H.elim
   ·exact H.elim
theorem Fq{P:Program}(hm:P.follows .mixedOrders=true){f:FuncId}{fn:Func}{c:Code}(hf:P.funcs[f]?=some fn)(hb:fn.body=some c)(hn:(fn.name== "runtime.NumGoroutine")=false)
 (an:Nat->Option An) {args:List Tv} {L:List (Nat×List Lf)} {ρ:List Nat} {h:Heap} {K:aL} (m n:Nat) (hk:fn.ntmps-(wK ρ args).length=m) (P5:(wK ρ args).length+m=n) (rs:List ResultVar) (hr:fn.results.toList=rs)
 (ha:QM args L ρ=true) (V:Vars h (mn ρ L))
 (H:KH P n an c 1 (fun s=>ze P K rs [] s) (fun _ _=>False) (fun s=>ze P K rs [] s) (UW args L ρ h)):aG P f (wK ρ args).toArray h K:=by
 simp only[QM,bK]at ha
 obtain⟨a1,a2,a3,a4⟩:=ha
 refine E0 hm hf hb hn (Yd an) m n hk P5 rs hr ?_
 have C:Cl (UW args L ρ h) ρ h:=⟨V,(nO ρ).symm,rfl,rfl,rfl,rfl,rfl,a2,QL a4⟩
 have R:Rel ρ (UW args L ρ h).m (UW args L ρ h).E (vi (wK ρ args) 0):=⟨fun t x hx=>MJ a1 a3 hx⟩
 have tr:To (UW args L ρ h) ρ (fun s=>ze P K rs [] s) (fun A h=>P4 P A h K rs):=fun s ρ A h I R _ k=>Fp I R k
 exact Zd c C.inv R (Nx.refl _ _) tr (fun i s ρ A h _ _ _ k=>k.elim) tr H
end Go.Mx
