import Derived.Test.YtcnfcnoooecchaaGreatDoorM6
set_option linter.unusedVariables false
set_option linter.unusedSimpArgs false
set_option linter.constructorNameAsVariable false
namespace Go.Mx
theorem lA:∀l:List Nat,iC l=l.length
 |[]=>rfl
 |_::l=>by simp[iC,lA l]
theorem kh:∀l:List Lf,xx l=l.length
 |[]=>rfl
 |_::l=>by simp[xx,kh l]
theorem fe{a b:Nat}:Nat.blt a b=true↔a<b:=by rw[Nat.blt_eq]
theorem jK:∀(ρ y:List Nat)(i:Nat),i<ρ.length->eW (ρ++y) i=eW ρ i
 |[],_,_,h=>by simp at h
 |_::_,_,0,_=>rfl
 |_::ρ,y,i+1,h=>by simp only[List.cons_append,eW];exact jK ρ y i (by simpa using h)
theorem r8:∀(ρ:List Nat)(b:Nat)(y:List Nat),eW (ρ++b::y) ρ.length=b
 |[],_,_=>rfl
 |_::ρ,b,y=>by simp only[List.cons_append,List.length_cons,eW];exact r8 ρ b y
theorem AR{ρ y:List Nat}:∀{l:List Nat},(∀i,i∈l->i<ρ.length)->vq (ρ++y) l=vq ρ l
 |[],_=>rfl
 |i::l,h=>by simp only[vq];rw[jK _ _ _ (h i (by simp)),AR fun j hj=>h j (by simp[hj])]
theorem VV{ρ y:List Nat}{c:Cp}(h:Nr ρ.length c=true):c.v' (ρ++y)=c.v' ρ:=by
 cases c with
 |p id off=>simp only[Cp.v'];rw[jK _ _ _ (fe.1 h)]
 |v x=>rfl
theorem Cb{ρ y:List Nat}:∀{cs:List Cp},nP ρ.length cs=true->EI (ρ++y) cs=EI ρ cs
 |[],_=>rfl
 |c::cs,h=>by
  simp only[nP,Bool.and_eq_true]at h
  simp only[EI];rw[VV h.1,Cb h.2]
theorem HJ{ρ y:List Nat}{x:Lf}(h:x.ok ρ.length=true):x.v (ρ++y)=x.v ρ:=by
 cases x<;>try rfl
 case p id off=>simp only[Lf.v];rw[jK _ _ _ (fe.1 h)]
 case e x i sz off=>cases off<;>rfl
 case f fn fs cs=>
  simp only[Lf.ok,Bool.and_eq_true]at h
  simp only[Lf.v];rw[Cb h.1,Cb h.2]
theorem hH{ρ y:List Nat}:∀{xs:List Lf},bT ρ.length xs=true->dA (ρ++y) xs=dA ρ xs
 |[],_=>rfl
 |x::xs,h=>by
  simp only[bT,Bool.and_eq_true]at h
  simp only[dA];rw[HJ h.1,hH h.2]
theorem NB{ρ y:List Nat}{x:Av}(h:x.ok ρ.length=true):x.v (ρ++y)=x.v ρ:=by
 cases x with
 |l x=>exact HJ h
 |a xs=>simp only[Av.v];rw[hH h]
theorem JR{ρ y:List Nat}:∀{xs:List Av},nQ ρ.length xs=true->UP (ρ++y) xs=UP ρ xs
 |[],_=>rfl
 |x::xs,h=>by
  simp only[nQ,Bool.and_eq_true]at h
  simp only[UP];rw[NB h.1,JR h.2]
theorem Cc{ρ y:List Nat}{x:Tv}(h:x.ok ρ.length=true):x.val (ρ++y)=x.val ρ:=by
 cases x with
 |v x=>exact NB h
 |t xs=>simp only[Tv.val];rw[JR h]
theorem wm{ρ y:List Nat}:∀{L:List (Nat×List Lf)},rG ρ.length L=true->kg (ρ++y) L=kg ρ L
 |[],_=>rfl
 |(i,xs)::L,h=>by
  simp only[rG,Bool.and_eq_true]at h
  simp only[kg];rw[jK _ _ _ (fe.1 h.1.1),hH h.1.2,wm h.2]
theorem abP{m n:Nat}{c:Cp}(h:Nr m c=true)(hm:m<=n):Nr n c=true:=by
 cases c with
 |p id off=>exact fe.2 (Nat.lt_of_lt_of_le (fe.1 h) hm)
 |v x=>rfl
theorem HL{m n:Nat}(hm:m<=n):∀{cs:List Cp},nP m cs=true->nP n cs=true
 |[],_=>rfl
 |c::cs,h=>by
  simp only[nP,Bool.and_eq_true]at h⊢
  exact⟨abP h.1 hm,HL hm h.2⟩
theorem UX{m n:Nat}{x:Lf}(h:x.ok m=true)(hm:m<=n):x.ok n=true:=by
 cases x<;>try rfl
 case p id off=>exact fe.2 (Nat.lt_of_lt_of_le (fe.1 h) hm)
 case f fn fs cs=>
  simp only[Lf.ok,Bool.and_eq_true]at h⊢
  exact⟨HL hm h.1,HL hm h.2⟩
theorem Cd{m n:Nat}(hm:m<=n):∀{xs:List Lf},bT m xs=true->bT n xs=true
 |[],_=>rfl
 |x::xs,h=>by
  simp only[bT,Bool.and_eq_true]at h⊢
  exact⟨UX h.1 hm,Cd hm h.2⟩
theorem UY{m n:Nat}{x:Av}(h:x.ok m=true)(hm:m<=n):x.ok n=true:=by
 cases x with
 |l x=>exact UX h hm
 |a xs=>exact Cd hm h
theorem NC{m n:Nat}(hm:m<=n):∀{xs:List Av},nQ m xs=true->nQ n xs=true
 |[],_=>rfl
 |x::xs,h=>by
  simp only[nQ,Bool.and_eq_true]at h⊢
  exact⟨UY h.1 hm,NC hm h.2⟩
theorem abQ{m n:Nat}{x:Tv}(h:x.ok m=true)(hm:m<=n):x.ok n=true:=by
 cases x with
 |v x=>exact UY h hm
 |t xs=>exact NC hm h
theorem RH{m n:Nat}(hm:m<=n):∀{L:List (Nat×List Lf)},rG m L=true->rG n L=true
 |[],_=>rfl
 |(i,xs)::L,h=>by
  simp only[rG,Bool.and_eq_true]at h⊢
  exact⟨⟨fe.2 (Nat.lt_of_lt_of_le (fe.1 h.1.1) hm),Cd hm h.1.2⟩,RH hm h.2⟩
theorem xy{s:Sh}{Q:Lf->Prop}(h:exS s Q):∃x,Q x/\(∀m,x.ok m=true)/\x.fact:=by
 cases s<;>(obtain⟨x,hx⟩:=h;exact⟨_,hx,fun _=>rfl,trivial⟩)
theorem oO:∀{ss:List Sh}{Q:List Lf->Prop},exL ss Q->∃xs,Q xs/\(∀m,bT m xs=true)/\cD xs
 |[],Q,h=>⟨[],h,fun _=>rfl,trivial⟩
 |s::ss,Q,h=>by
  obtain⟨x,h1,h2,h3⟩:=xy h
  obtain⟨xs,h4,h5,h6⟩:=oO h1
  exact⟨x::xs,h4,fun m=>by simp[bT,h2 m,h5 m],h3,h6⟩
theorem ES{s:As}{Q:Av->Prop}(h:exA s Q):∃x,Q x/\(∀m,x.ok m=true)/\x.fact:=by
 cases s with
 |l s=>obtain⟨x,h1,h2,h3⟩:=xy h;exact⟨.l x,h1,h2,h3⟩
 |a ss=>obtain⟨xs,h1,h2,h3⟩:=oO h;exact⟨.a xs,h1,h2,h3⟩
theorem AU:∀{ss:List As}{Q:List Av->Prop},VG ss Q->∃xs,Q xs/\(∀m,nQ m xs=true)/\wh xs
 |[],Q,h=>⟨[],h,fun _=>rfl,trivial⟩
 |s::ss,Q,h=>by
  obtain⟨x,h1,h2,h3⟩:=ES h
  obtain⟨xs,h4,h5,h6⟩:=AU h1
  exact⟨x::xs,h4,fun m=>by simp[nQ,h2 m,h5 m],h3,h6⟩
theorem sa{s:Ts}{Q:Tv->Prop}(h:zQ s Q):∃x,Q x/\(∀m,x.ok m=true)/\x.fact:=by
 cases s with
 |v s=>obtain⟨x,h1,h2,h3⟩:=ES h;exact⟨.v x,h1,h2,h3⟩
 |t ss=>obtain⟨xs,h1,h2,h3⟩:=AU h;exact⟨.t xs,h1,h2,h3⟩
structure Inv(s:St)(ρ:List Nat)(th:Heap):Prop where
 vars:Vars th (kg ρ s.L)
 len:ρ.length=s.m
 ext:∃x:List Nat,ρ=s.ρ++x/\x.length=s.nw/\∀b,b∈x->s.h.size<=b
 fr:Fr (In (vq ρ s.so)) s.h th
 cln:s.d=false->s.nw=0/\s.so=[]/\th=s.h
 so:∀i,i∈s.so->i<s.ρ.length
 tN:rG s.m s.L=true
 wo:oK s.L
structure Cl(s:St)(ρ:List Nat)(th:Heap):Prop where
 vars:Vars th (kg ρ s.L)
 len:ρ.length=s.m
 r:s.ρ=ρ
 h:s.h=th
 nw:s.nw=0
 so:s.so=[]
 d:s.d=false
 tN:rG s.m s.L=true
 wo:oK s.L
theorem Cl.inv{s:St}{ρ:List Nat}{th:Heap}(C:Cl s ρ th):Inv s ρ th:=
 ⟨C.vars,C.len,⟨[],by simp[C.r],by simp[C.nw],by simp⟩,by rw[C.h,C.so];exact Fr.refl _ _,fun _=>⟨C.nw,C.so,C.h.symm⟩,by simp[C.so],C.tN,C.wo⟩
theorem Inv.cl{s:St}{ρ:List Nat}{th:Heap}(I:Inv s ρ th)(hd:s.d=false):Cl s ρ th:=by
 obtain⟨h1,h2,h3⟩:=I.cln hd
 obtain⟨x,e1,e2,_⟩:=I.ext
 have:x=[]:=List.eq_nil_of_length_eq_zero (by omega)
 subst this
 exact⟨I.vars,I.len,by simpa using e1.symm,h3.symm,h1,h2,hd,I.tN,I.wo⟩
structure Rel(ρ:List Nat)(m:Nat)(E:List (Nat×Option Tv))(A:aU):Prop where
 get:∀t x,qe E t=some x->x.ok m=true/\x.fact/\lR A t=x.val ρ
theorem Rel.ext{ρ y:List Nat}{m n:Nat}{E:List (Nat×Option Tv)}{A:aU}(R:Rel ρ m E A)(hm:ρ.length=m)(hn:m<=n):Rel (ρ++y) n E A:=
 ⟨fun t x h=>by
  obtain⟨h1,h2,h3⟩:=R.get t x h
  exact⟨abQ h1 hn,h2,by rw[Cc (by rw[hm];exact h1)];exact h3⟩⟩
theorem JS:∀{n:Nat}{ρ:List Nat}{k:List Nat->Prop},qB n ρ k->∀x:List Nat,x.length=n->k (ρ++x)
 |0,ρ,k,h,x,hx=>by
  obtain rfl:=List.eq_nil_of_length_eq_zero hx
  simpa[qB]using h
 |n+1,ρ,k,h,[],hx=>by simp at hx
 |n+1,ρ,k,h,b::x,hx=>by
  have:=JS (h b) x (by simpa using hx)
  simpa using this
theorem AV{h:Heap}:∀{l:List Nat}{Q:Prop},VH h l Q->(∀b,b∈l->h.size<=b)->Q
 |[],Q,H,_=>H
 |b::l,Q,H,hb=>AV (H (hb b (by simp))) fun c hc=>hb c (by simp[hc])
theorem ET:∀(a b:List Nat),RC a (a++b)=b
 |[],b=>rfl
 |_::a,b=>ET a b
theorem iH{s:St}{ρ:List Nat}{th:Heap}{k:St->Prop}(I:Inv s ρ th)(H:sync s k):∃s',Cl s' ρ th/\s'.E=s.E/\s'.L=s.L/\s'.m=s.m/\s'.md=s.md/\k s':=by
 unfold sync at H
 cases hd:s.d with
 |false=>
  rw[hd]at H
  exact⟨s,I.cl hd,rfl,rfl,rfl,rfl,H⟩
 |true=>
  rw[hd]at H
  obtain⟨x,e1,e2,e3⟩:=I.ext
  have h1:=JS H x e2 th
  rw[<-e1]at h1
  have h2:RC s.ρ ρ=x:=by rw[e1];exact ET _ _
  rw[h2]at h1
  have h3:=AV h1 e3 I.fr I.vars
  exact⟨{s with ρ:=ρ,nw:=0,so:=[],d:=false,h:=th},⟨I.vars,I.len,rfl,rfl,rfl,rfl,rfl,I.tN,I.wo⟩,rfl,rfl,rfl,rfl,h3⟩
theorem ND(ρ:List Nat)(v:Value):(Ns v).v ρ=v:=by cases v<;>rfl
theorem JT(m:Nat)(v:Value):(Ns v).ok m=true:=by cases v<;>rfl
theorem AW(v:Value):(Ns v).fact:=by cases v<;>first|rfl|trivial
theorem jh{ρ:List Nat}{m:Nat}{E:List (Nat×Option Tv)}{A:aU}(R:Rel ρ m E A){x:Operand}{y:Tv}(h:xu E x=some y):y.ok m=true/\y.fact/\fi A x=y.val ρ:=by
 cases x with
 |tmp t=>exact R.get t y h
 |const v=>
  simp only[xu,Option.some.injEq]at h
  subst h
  exact⟨JT m v,AW v,(ND ρ v).symm⟩
 |global g=>
  simp only[xu,Option.some.injEq]at h
  subst h
  exact⟨rfl,trivial,rfl⟩
 |func f=>
  simp only[xu,Option.some.injEq]at h
  subst h
  exact⟨rfl,trivial,rfl⟩
theorem fw{ρ:List Nat}{m:Nat}{E:List (Nat×Option Tv)}{A:aU}(R:Rel ρ m E A){x:Operand}{y:Lf}(h:lf E x=some y):y.ok m=true/\y.fact/\fi A x=y.v ρ:=by
 unfold lf at h
 split at h
 ·rename_i z hz
  have h:=Option.some.inj h
  subst h
  exact jh R hz
 ·cases h
theorem lC{s:St}{ρ:List Nat}{th:Heap}{A:aU}(I:Inv s ρ th)(R:Rel ρ s.m s.E A):∀{l:List Operand},HD (iC s.ρ) s.E l=true->∀x,x∈l->fi A x=Eh s.ρ s.E x
 |[],_,x,hx=>by simp at hx
 |y::l,h,x,hx=>by
  simp only[HD,Bool.and_eq_true]at h
  rcases List.mem_cons.1 hx with rfl|hx
  ·cases hy:xu s.E x with
   |none=>rw[hy]at h;simp at h
   |some z=>
    rw[hy]at h
    obtain⟨e,e1,_,_⟩:=I.ext
    rw[(jh R hy).2.2]
    unfold Eh
    rw[hy,e1]
    exact Cc (by rw[<-lA];exact h.1)
  ·exact lC I R h.2 x hx
structure Nx(s:St)(ρ:List Nat)(s':St)(iY:List Nat):Prop where
 m:s.m<=s'.m
 md:∃new,s'.md=new++s.md/\∀id,eN new id=false->id<s.m->cE s'.L id=cE s.L id
 r:∃y,iY=ρ++y
theorem fE{s s':St}{ρ:List Nat}(hm:s'.m=s.m)(hL:s'.L=s.L)(jL:s'.md=s.md):Nx s ρ s' ρ:=⟨by omega,⟨[],by simp[jL],fun _ _ _=>by rw[hL]⟩,⟨[],by simp⟩⟩
theorem Nx.refl(s:St)(ρ:List Nat):Nx s ρ s ρ:=fE rfl rfl rfl
theorem EU:∀{a b:List Nat}{i:Nat},eN (a++b) i=(eN a i||eN b i)
 |[],b,i=>rfl
 |x::a,b,i=>by simp only[List.cons_append,eN];rw[EU,Bool.or_assoc]
theorem Nx.trans{s1 s2 s3:St}{ρ1 Hb ρ3:List Nat}(h:Nx s1 ρ1 s2 Hb)(k:Nx s2 Hb s3 ρ3):Nx s1 ρ1 s3 ρ3:=by
 obtain⟨m1,⟨n1,a1,b1⟩,⟨y1,c1⟩⟩:=h
 obtain⟨m2,⟨n2,a2,b2⟩,⟨y2,c2⟩⟩:=k
 refine⟨by omega,⟨n2++n1,by rw[a2,a1,List.append_assoc],fun id hid hm=> ?_⟩,⟨y1++y2,by rw[c2,c1,List.append_assoc]⟩⟩
 rw[EU,Bool.or_eq_false_iff]at hid
 rw[b2 id hid.1 (by omega),b1 id hid.2 hm]
def iI(A:aU)(s:St)(ρ:List Nat)(k:St->Tv->Prop)(v:Value)(h':Heap):Prop:=
 ∃s' x iY,Inv s' iY h'/\Rel iY s'.m s'.E A/\v=x.val iY/\x.ok s'.m=true/\x.fact/\Nx s ρ s' iY/\k s' x
theorem bD{A:aU}{s:St}{ρ:List Nat}{k:St->Tv->Prop}{h:Heap}{x:Tv}{v:Value}(I:Inv s ρ h)(R:Rel ρ s.m s.E A)(hv:v=x.val ρ)(ho:x.ok s.m=true)(hf:x.fact)(hk:k s x):iI A s ρ k v h:=
 ⟨s,x,ρ,I,R,hv,ho,hf,Nx.refl _ _,hk⟩
theorem iJ{A:aU}{s s':St}{ρ:List Nat}{k:St->Tv->Prop}{h:Heap}{x:Tv}{v:Value}(I:Inv s' ρ h)(R:Rel ρ s'.m s'.E A)(N:Nx s ρ s' ρ)(hv:v=x.val ρ)(ho:x.ok s'.m=true)(hf:x.fact)(hk:k s' x):iI A s ρ k v h:=
 ⟨s',x,ρ,I,R,hv,ho,hf,N,hk⟩
theorem cN{P:Program}{e:Operand->Value}{op:Op}{ty:TypeId}{h:Heap}{K:Value->Heap->Prop}{q:Sem Value}(h1:gw op=none)(h2:kF op=none)(h3:jG e ty op=some q)(H:pop P q fun v=>K v h):fm P e op ty h K:=by
 unfold fm;simp only[h1,h2,h3];exact H
theorem iK{P:Program}{A:aU}{s:St}{ρ:List Nat}{h:Heap}{op:Op}{ty:TypeId}{rt:Option Ts}{k:St->Tv->Prop}(I:Inv s ρ h)(R:Rel ρ s.m s.E A)(H:lT P s op ty rt k):fm P (fi A) op ty h (iI A s ρ k):=by
 unfold lT at H
 cases h1:gw op with
 |some x=>rw[h1]at H;exact H.elim
 |none=>
 cases h2:kF op with
 |some x=>rw[h1,h2]at H;exact H.elim
 |none=>
 rw[h1,h2]at H
 simp only at H
 cases h3:jG fo 0 op with
 |some q0=>
  rw[h3]at H
  simp only at H
  split at H
  ·rename_i hd
   have hc:jG (fi A) ty op=jG (Eh s.ρ s.E) ty op:=qJ fun x hx=>lC I R hd x (by simpa using hx)
   split at H
   ·rename_i q hq
    refine cN h1 h2 (by rw[hc];exact hq) (H.mono fun rv hr=> ?_)
    unfold exR at hr
    cases rt with
    |none=>exact bD (x:= .v (.l (.r rv))) I R rfl rfl trivial hr
    |some t=>
     obtain⟨x,⟨e1,e2⟩,e3,e4⟩:=sa hr
     obtain⟨z,e5,_,_⟩:=I.ext
     exact bD I R (by rw[e1,e5,Cc (e3 _)]) (e3 _) e4 e2
   ·exact H.elim
  ·exact H.elim
 |none=>
  rw[h3]at H
  simp only at H
  obtain⟨s',C,hE,hL,hm,jL,H⟩:=iH I H
  have I':=C.inv
  have R':Rel ρ s'.m s'.E A:=by rw[hE,hm];exact R
  have hp:∀e,jG e ty op=none:=fun e=>by
   have:=lr fo e 0 ty op
   rw[h3]at this
   cases hh:jG e ty op with
   |none=>rfl
   |some _=>rw[hh]at this;cases this
  split at H
  ·rename_i hd
   have hcr:nY (fi A) op=nY (Eh s'.ρ s'.E) op:=na fun x hx=>lC I' R' hd x (by simpa using hx)
   have hce:El (fi A) ty op=El (Eh s'.ρ s'.E) ty op:=wR fun x hx=>lC I' R' hd x (by simpa using hx)
   have hcu:Em (fi A) op=Em (Eh s'.ρ s'.E) op:=wS fun x hx=>lC I' R' hd x (by simpa using hx)
   unfold fm
   simp only[h1,h2,hp,hcr,hce,hcu]
   split at H
   ·rename_i q hq
    simp only[hq]
    rw[<-C.h]
    refine H.mono fun rv hr=> ?_
    unfold exR at hr
    cases rt with
    |none=>rw[C.h];exact iJ (x:= .v (.l (.r rv))) I' R' (fE hm hL jL) rfl rfl trivial hr
    |some t=>
     obtain⟨x,⟨e1,e2⟩,e3,e4⟩:=sa hr
     rw[C.h]
     exact iJ I' R' (fE hm hL jL) (by rw[e1,C.r]) (e3 _) e4 e2
   ·rename_i hq
    simp only[hq]
    split at H
    ·rename_i q gN
     simp only[gN]
     rw[<-C.h]
     refine H.mono fun rv h' hr=> ?_
     unfold lT.abK at hr
     cases rt with
     |none=>
      obtain⟨e2,e5⟩:=hr
      rw[C.r]at e2
      have C':Cl {s' with h:=h'} ρ h':=⟨e2,C.len,C.r,rfl,C.nw,C.so,C.d,C.tN,C.wo⟩
      exact iJ (s':={s' with h:=h'}) (x:= .v (.l (.r rv))) C'.inv R' (fE hm hL jL) rfl rfl trivial e5
     |some t=>
      obtain⟨x,⟨e1,e2,e5⟩,e3,e4⟩:=sa hr
      rw[C.r]at e2
      have C':Cl {s' with h:=h'} ρ h':=⟨e2,C.len,C.r,rfl,C.nw,C.so,C.d,C.tN,C.wo⟩
      exact iJ (s':={s' with h:=h'}) C'.inv R' (fE hm hL jL) (by rw[e1,C.r]) (e3 _) e4 e5
    ·rename_i gN
     simp only[gN]
     split at H
     ·rename_i q hq3
      simp only[hq3]
      rw[<-C.h]
      refine⟨fun w hw=> ?_⟩
      obtain⟨w',a1,a2,a3,a4⟩:=H.out w hw
      rw[C.r]at a3
      have C':Cl {s' with h:=w'.heap} ρ w'.heap:=⟨a3,C.len,C.r,rfl,C.nw,C.so,C.d,C.tN,C.wo⟩
      exact⟨w',a1,a2,iJ (s':={s' with h:=w'.heap}) (x:= .v (.l .u)) C'.inv R' (fE hm hL jL) rfl rfl trivial a4⟩
     ·exact H.elim
  ·exact H.elim
theorem nk{ids:List Nat}:∀{L:List (Nat×List Lf)}{Q:List (Nat×List Lf)->Prop},pQ ids L Q->∃L',Q L'/\(∀m,rG m L=true->rG m L'=true)/\(oK L->oK L')/\∀id,eN ids id=false->cE L' id=cE L id
 |[],Q,h=>⟨[],h,fun _ h=>h,fun h=>h,fun _ _=>rfl⟩
 |(i,xs)::L,Q,h=>by
  unfold pQ at h
  cases hi:eN ids i with
  |true=>
   rw[hi]at h
   obtain⟨ys,h1,h2,h3⟩:=oO h
   obtain⟨L',h4,h5,h6,h7⟩:=nk h1
   refine⟨(i,ys)::L',h4,fun m hm=> ?_,fun hf=>⟨h3,h6 hf.2⟩,fun id hid=> ?_⟩
   ·simp only[rG,Bool.and_eq_true]at hm⊢
    exact⟨⟨hm.1.1,h2 m⟩,h5 m hm.2⟩
   ·unfold cE
    cases hb:Nat.beq i id with
    |true=>have:=Nat.eq_of_beq_eq_true hb;subst this;rw[hi]at hid;cases hid
    |false=>exact h7 id hid
  |false=>
   rw[hi]at h
   obtain⟨L',h4,h5,h6,h7⟩:=nk h
   refine⟨(i,xs)::L',h4,fun m hm=> ?_,fun hf=>⟨hf.1,h6 hf.2⟩,fun id hid=> ?_⟩
   ·simp only[rG,Bool.and_eq_true]at hm⊢
    exact⟨hm.1,h5 m hm.2⟩
   ·unfold cE
    cases Nat.beq i id with
    |true=>rfl
    |false=>exact h7 id hid
theorem RI{P:Program}{A:aU}{s:St}{ρ:List Nat}{h:Heap}{f:Operand}{args:List Operand}{ty:TypeId}{k:St->Tv->Prop}(I:Inv s ρ h)(R:Rel ρ s.m s.E A)(H:Nv P s f args ty k):fD P (fi A f) (mW (fi A) args) h (iI A s ρ k):=by
 unfold Nv at H
 obtain⟨s',C,hE,hL,hm,jL,H⟩:=iH I H
 have I':=C.inv
 have R':Rel ρ s'.m s'.E A:=by rw[hE,hm];exact R
 split at H
 ·exact H.elim
 ·rename_i hd
  have hf:=lC I' R' hd f (by simp)
  have ha:mW (fi A) args=mW (Eh s'.ρ s'.E) args:=je args fun x hx=>lC I' R' hd x (by simp[hx])
  have key:∀rv h',(pQ (gA s'.E (args++[f])) s'.L fun L'=>match fJ P ty with
   |some t=>zQ t fun x=>rv=x.val s'.ρ/\Vars h' (kg s'.ρ L')/\k {s' with L:=L',md:=gA s'.E (args++[f])++s'.md,h:=h'} x
   |none=>Vars h' (kg s'.ρ L')/\k {s' with L:=L',md:=gA s'.E (args++[f])++s'.md,h:=h'} (.v (.l (.r rv))))->iI A s ρ k rv h':=fun rv h' hq=>by
   obtain⟨L',q1,q2,q3,q4⟩:=nk hq
   have fin:∀x:Tv,Vars h' (kg s'.ρ L')->rv=x.val ρ->(∀m,x.ok m=true)->x.fact->k {s' with L:=L',md:=gA s'.E (args++[f])++s'.md,h:=h'} x->iI A s ρ k rv h':=fun x v1 v2 v3 v4 v5=>by
    rw[C.r]at v1
    have C':Cl {s' with L:=L',md:=gA s'.E (args++[f])++s'.md,h:=h'} ρ h':=⟨v1,C.len,C.r,rfl,C.nw,C.so,C.d,q2 _ C.tN,q3 C.wo⟩
    exact iJ (s':={s' with L:=L',md:=gA s'.E (args++[f])++s'.md,h:=h'}) C'.inv R' ((fE hm hL jL).trans ⟨Nat.le_refl _,⟨gA s'.E (args++[f]),rfl,fun id hid _=>q4 id hid⟩,⟨[],by simp⟩⟩) v2 (v3 _) v4 v5
   split at q1
   ·obtain⟨x,⟨e1,e2,e5⟩,e3,e4⟩:=sa q1
    exact fin x e2 (by rw[e1,C.r]) e3 e4 e5
   ·exact fin (.v (.l (.r rv))) q1.1 rfl (fun _=>rfl) trivial q1.2
  rw[hf,ha,<-C.h]
  cases f with
  |func n=>
   show aE P n ((#[]:Array Value).toList++mW (Eh s'.ρ s'.E) args++(#[]:Array Value).toList).toArray s'.h _
   rw[show((#[]:Array Value).toList++mW (Eh s'.ρ s'.E) args++(#[]:Array Value).toList:List Value)=mW (Eh s'.ρ s'.E) args by simp]
   exact qG (fun rv h' hq=>key rv h' hq) H
  |tmp t=>exact kG (fun rv h' hq=>key rv h' hq) H
  |const v=>exact kG (fun rv h' hq=>key rv h' hq) H
  |global g=>exact kG (fun rv h' hq=>key rv h' hq) H
theorem EV{ρ:List Nat}{m:Nat}{E:List (Nat×Option Tv)}{A:aU}(R:Rel ρ m E A){c:Operand}{x:Bool}{kn:Option (Bool×Bool)}(hc:lf E c=some (.b x kn)){v:Bool}(hx:x=v):Rel ρ m (flag E c v) A:=by
 unfold flag
 split
 ·rename_i t
  split
  ·rename_i y pL hy
   have hy':lf E (.tmp t)=some (.b y pL):=by unfold lf xu;simp only[hy]
   rw[hc]at hy'
   simp only[Option.some.injEq,Lf.b.injEq]at hy'
   obtain⟨rfl,rfl⟩:=hy'
   refine⟨fun t' z hz=> ?_⟩
   unfold qe at hz
   cases hb:Nat.beq t t' with
   |true=>
    rw[hb]at hz
    simp only[Option.some.injEq]at hz
    subst hz
    have:=Nat.eq_of_beq_eq_true hb
    subst this
    exact⟨rfl,hx,(R.get t _ hy).2.2⟩
   |false=>rw[hb]at hz;exact R.get t' z hz
  ·exact R
 ·exact R
theorem xz{s:St}{ρ:List Nat}{h:Heap}{A:aU}{c:Operand}{x:Bool}{kn:Option (Bool×Bool)}{yes no:St->Prop}(I:Inv s ρ h)(R:Rel ρ s.m s.E A)(hc:lf s.E c=some (.b x kn))(H:brB x kn s c yes no):
 (x=true->∃s',Inv s' ρ h/\Rel ρ s'.m s'.E A/\s'.m=s.m/\s'.L=s.L/\s'.md=s.md/\yes s')/\(x=false->∃s',Inv s' ρ h/\Rel ρ s'.m s'.E A/\s'.m=s.m/\s'.L=s.L/\s'.md=s.md/\no s'):=by
 have hf:=(fw R hc).2.1
 unfold brB at H
 split at H
 ·rename_i l
  have hx:x=true:=hf
  exact⟨fun _=>⟨s,I,R,rfl,rfl,rfl,H⟩,fun e=>(by rw[hx]at e;cases e)⟩
 ·rename_i l
  have hx:x=false:=hf
  exact⟨fun e=>(by rw[hx]at e;cases e),fun _=>⟨s,I,R,rfl,rfl,rfl,H⟩⟩
 ·have I':∀v,Inv {s with E:=flag s.E c v} ρ h:=fun v=>⟨I.vars,I.len,I.ext,I.fr,I.cln,I.so,I.tN,I.wo⟩
  exact⟨fun e=>⟨_,I' true,EV R hc e,rfl,rfl,rfl,H.1 e⟩,fun e=>⟨_,I' false,EV R hc e,rfl,rfl,rfl,H.2 e⟩⟩
theorem wq:∀{cs:List Lf}{o n:Nat}{ys:List Lf},lh cs o n=some ys->ys=(cs.drop o).take n/\ys.length=n
 |cs,0,0,ys,h=>by
  simp only[lh,Option.some.injEq]at h
  subst h
  simp
 |x::xs,0,n+1,ys,h=>by
  simp only[lh]at h
  split at h
  ·rename_i r hr
   have h:=Option.some.inj h
   subst h
   obtain⟨e1,e2⟩:=wq hr
   simp only[List.drop_zero]at e1
   simp[<-e1,e2]
  ·cases h
 |x::xs,o+1,n,ys,h=>by
  simp only[lh]at h
  obtain⟨e1,e2⟩:=wq h
  exact⟨by rw[e1];rfl,e2⟩
 |[],o+1,n,ys,h=>by cases n<;>simp[lh]at h
 |[],0,n+1,ys,h=>by simp[lh]at h
theorem eJ(ρ:List Nat):∀xs:List Lf,dA ρ xs=xs.map (Lf.v ρ)
 |[]=>rfl
 |x::xs=>by simp[dA,eJ ρ xs]
theorem tO{ρ:List Nat}{cs:List Lf}{o n:Nat}{ys:List Lf}(h:lh cs o n=some ys):Hs (dA ρ cs) o n=dA ρ ys/\(dA ρ ys).length=n:=by
 obtain⟨e1,e2⟩:=wq h
 rw[nh,eJ,eJ,e1,List.map_take,List.map_drop]
 refine⟨rfl,?_⟩
 rw[<-List.map_drop,<-List.map_take,List.length_map,<-e1,e2]
theorem cP{m:Nat}:∀{xs:List Lf},bT m xs=true↔∀x,x∈xs->x.ok m=true
 |[]=>by simp[bT]
 |x::xs=>by simp[bT,cP (xs:=xs)]
theorem bU:∀{xs:List Lf},cD xs↔∀x,x∈xs->x.fact
 |[]=>by simp[cD]
 |x::xs=>by simp[cD,bU (xs:=xs)]
theorem pR{m:Nat}{cs:List Lf}{o n:Nat}{ys:List Lf}(h:lh cs o n=some ys)(hc:bT m cs=true)(hf:cD cs):bT m ys=true/\cD ys:=by
 obtain⟨e1,_⟩:=wq h
 have hm:∀x,x∈ys->x∈cs:=fun x hx=>by rw[e1]at hx;exact List.mem_of_mem_drop (List.mem_of_mem_take hx)
 exact⟨cP.2 fun x hx=>cP.1 hc x (hm x hx),bU.2 fun x hx=>bU.1 hf x (hm x hx)⟩
theorem kN{m:Nat}:∀{L:List (Nat×List Lf)}{id:Nat}{cs:List Lf},cE L id=some cs->rG m L=true->oK L->id<m/\bT m cs=true/\cD cs
 |[],id,cs,h,_,_=>by simp[cE]at h
 |(i,xs)::L,id,cs,h,ho,hf=>by
  simp only[rG,Bool.and_eq_true]at ho
  unfold cE at h
  cases hb:Nat.beq i id with
  |true=>
   rw[hb]at h
   have h:=Option.some.inj h
   subst h
   have:=Nat.eq_of_beq_eq_true hb
   subst this
   exact⟨fe.1 ho.1.1,ho.1.2,hf.1⟩
  |false=>rw[hb]at h;exact kN h ho.2 hf.2
theorem kA{ρ:List Nat}:∀{L:List (Nat×List Lf)}{id:Nat}{cs:List Lf},cE L id=some cs->∃i,jU (kg ρ L) i=some (eW ρ id,dA ρ cs)/\∀lS,Ez (kg ρ L) i (dA ρ lS)=kg ρ (vL L id lS)
 |[],id,cs,h=>by simp[cE]at h
 |(j,xs)::L,id,cs,h=>by
  unfold cE at h
  unfold vL
  cases hb:Nat.beq j id with
  |true=>
   rw[hb]at h
   have h:=Option.some.inj h
   subst h
   have:=Nat.eq_of_beq_eq_true hb
   subst this
   exact⟨0,rfl,fun _=>rfl⟩
  |false=>
   rw[hb]at h
   obtain⟨i,h1,h2⟩:=kA (ρ:=ρ) h
   exact⟨i+1,h1,fun lS=>by simp only[kg,Ez];rw[h2]⟩
theorem AX:∀{L:List (Nat×List Lf)}{id:Nat}{cs ys:List Lf},cE L id=some cs->∀j,cE (vL L id ys) j=if id=j then some ys else cE L j
 |[],id,cs,ys,h,j=>by simp[cE]at h
 |(i,xs)::L,id,cs,ys,h,j=>by
  unfold cE at h
  unfold vL
  cases hb:Nat.beq i id with
  |true=>
   have:=Nat.eq_of_beq_eq_true hb
   subst this
   simp only[cE]
   cases hj:Nat.beq i j with
   |true=>rw[if_pos (Nat.eq_of_beq_eq_true hj)]
   |false=>rw[if_neg (fun e=>by subst e;simp at hj)]
  |false=>
   rw[hb]at h
   simp only[cE]
   cases hj:Nat.beq i j with
   |true=>
    have:=Nat.eq_of_beq_eq_true hj
    subst this
    rw[if_neg (fun e=>by subst e;simp at hb)]
   |false=>exact AX h j
theorem JU{m:Nat}:∀{L:List (Nat×List Lf)}{id:Nat}{ys:List Lf},rG m L=true->oK L->bT m ys=true->cD ys->rG m (vL L id ys)=true/\oK (vL L id ys)
 |[],id,ys,_,_,_,_=>⟨rfl,trivial⟩
 |(i,xs)::L,id,ys,ho,hf,h1,h2=>by
  simp only[rG,Bool.and_eq_true]at ho
  unfold vL
  cases Nat.beq i id with
  |true=>exact⟨by simp[rG,ho.1.1,h1,ho.2],h2,hf.2⟩
  |false=>
   obtain⟨a,b⟩:=JU (id:=id) ho.2 hf.2 h1 h2
   exact⟨by simp[rG,ho.1.1,ho.1.2,a],hf.1,b⟩
theorem RJ{P:Program}{A:aU}{s:St}{ρ:List Nat}{h:Heap}{t:TypeId}{x:Operand}{k:St->Tv->Prop}{raw:Prop}(I:Inv s ρ h)(R:Rel ρ s.m s.E A)(H:loadT P s t (lf s.E x) k raw)(hr:raw->zS P (Instr.loadAt t (fi A x)) h fun v=>iI A s ρ k v h):zS P (Instr.loadAt t (fi A x)) h fun v=>iI A s ρ k v h:=by
 unfold loadT at H
 split at H
 ·rename_i id off hx
  have hv:=(fw R hx).2.2
  rw[hv]
  split at H
  ·rename_i cs hf
   obtain⟨o1,o2,o3⟩:=kN hf I.tN I.wo
   obtain⟨i,hi,_⟩:=kA (ρ:=ρ) hf
   split at H
   ·rename_i h1
    split at H
    ·rename_i y hy
     obtain⟨c1,c2⟩:=pR hy o2 o3
     obtain⟨e1,e2⟩:=tO (ρ:=ρ) hy
     refine JJ h1 I.vars i hi off (v:=y.v ρ) ?_ (bD (x:= .v (.l y)) I R rfl (cP.1 c1 y (by simp)) (bU.1 c2 y (by simp)) H)
     rw[nh]at e1
     have:=congrArg (·[0]?) e1
     simpa[dA,List.getElem?_take,List.getElem?_drop]using this
    ·exact H.elim
   ·rename_i h1
    split at H
    ·rename_i n h2
     split at H
     ·rename_i ys hy
      obtain⟨c1,c2⟩:=pR hy o2 o3
      obtain⟨e1,e2⟩:=tO (ρ:=ρ) hy
      exact EB h2 I.vars i hi off e1 e2 (bD (x:= .v (.a ys)) I R rfl c1 c2 H)
     ·exact H.elim
    ·exact H.elim
  ·exact H.elim
 ·rename_i z j sz off hx
  have hv:=(fw R hx).2.2
  have ha:fi A x= .pointer (some (loadT.QP z j sz off)):=by rw[hv];cases off<;>rfl
  rw[ha]
  obtain⟨s',C,hE,hL,hm,jL,H⟩:=iH I H
  have R':Rel ρ s'.m s'.E A:=by rw[hE,hm];exact R
  split at H
  ·rename_i h1
   split at H
   ·rename_i sh hs
    obtain⟨y,⟨e1,e2⟩,e3,e4⟩:=xy H
    rw[C.h]at e1
    rw[C.r]at e1
    exact JH h1 (y.v ρ) e1 (iJ (x:= .v (.l y)) C.inv R' (fE hm hL jL) rfl (e3 _) e4 e2)
   ·exact H.elim
  ·split at H
   ·rename_i n ss h2 _
    obtain⟨ys,e1,e3,e4⟩:=oO H
    split at e1
    ·rename_i hn
     obtain⟨e1,e2⟩:=e1
     rw[C.h,C.r]at e1
     have hlen:(dA ρ ys).length=n:=by rw[eJ,List.length_map,<-kh];exact Nat.eq_of_beq_eq_true hn
     exact JI h2 (dA ρ ys) hlen e1 (iJ (x:= .v (.a ys)) C.inv R' (fE hm hL jL) rfl (e3 _) e4 e2)
    ·exact e1.elim
   ·exact H.elim
 ·exact hr H
theorem tP{ρ:List Nat}{x:Lf}(h:wi x=true):fu (x.v ρ)=true:=by
 cases x<;>try rfl
 case e x i sz off=>cases off<;>rfl
 case r v=>exact h
 case u=>cases h
theorem xA{ρ:List Nat}:∀{xs:List Lf},rW xs=true->(dA ρ xs).all fu=true
 |[],_=>rfl
 |x::xs,h=>by
  simp only[rW,Bool.and_eq_true]at h
  simp only[dA,List.all_cons,Bool.and_eq_true]
  exact⟨tP h.1,xA h.2⟩
theorem Ce{ρ:List Nat}{w:Tv}{vs:List Lf}(h:xv w=some vs):(w.val ρ).cells=(dA ρ vs).toArray/\(dA ρ vs).all fu=true:=by
 unfold xv at h
 split at h
 ·rename_i x
  split at h
  ·rename_i hp
   have h:=Option.some.inj h
   subst h
   have h1:=tP (ρ:=ρ) hp
   exact⟨(oF h1).1,by simp[dA,h1]⟩
  ·cases h
 ·rename_i xs
  split at h
  ·rename_i hp
   have h:=Option.some.inj h
   subst h
   exact⟨rfl,xA hp⟩
  ·cases h
 ·cases h
theorem xB{m:Nat}{w:Tv}{vs:List Lf}(h:xv w=some vs)(ho:w.ok m=true)(hf:w.fact):bT m vs=true/\cD vs:=by
 unfold xv at h
 split at h
 ·split at h
  ·have h:=Option.some.inj h
   subst h
   have ho:Lf.ok m _=true:=ho
   exact⟨by simp[bT,ho],hf,trivial⟩
  ·cases h
 ·split at h
  ·have h:=Option.some.inj h
   subst h
   exact⟨ho,hf⟩
  ·cases h
 ·cases h
theorem pS{ρ:List Nat}{m:Nat}:∀{cs:List Lf}{o:Nat}{vs lS:List Lf},jC cs o vs=some lS->dA ρ lS=jf (dA ρ cs) o (dA ρ vs)/\o+vs.length<=cs.length/\(bT m cs=true->bT m vs=true->bT m lS=true)/\(cD cs->cD vs->cD lS)
 |cs,0,[],lS,h=>by
  have:cs=lS:=by cases cs<;>simpa[jC]using h
  subst this
  exact⟨by cases cs<;>rfl,by simp,fun h _=>h,fun h _=>h⟩
 |c::cs,0,v::vs,lS,h=>by
  simp only[jC]at h
  split at h
  ·rename_i r hr
   have h:=Option.some.inj h
   subst h
   obtain⟨e1,e2,e3,e4⟩:=pS (ρ:=ρ) (m:=m) hr
   refine⟨by simp only[dA,jf];rw[e1],by simp only[List.length_cons];omega,fun a b=> ?_,fun a b=>⟨b.1,e4 a.2 b.2⟩⟩
   simp only[bT,Bool.and_eq_true]at a b⊢
   exact⟨b.1,e3 a.2 b.2⟩
  ·cases h
 |c::cs,o+1,vs,lS,h=>by
  simp only[jC]at h
  split at h
  ·rename_i r hr
   have h:=Option.some.inj h
   subst h
   obtain⟨e1,e2,e3,e4⟩:=pS (ρ:=ρ) (m:=m) hr
   refine⟨?_,by simp only[List.length_cons];omega,fun a b=> ?_,fun a b=>⟨a.1,e4 a.2 b⟩⟩
   ·simp only[dA]
    rw[e1]
    cases vs with
    |nil=>
     cases hh:dA ρ cs<;>simp[dA,jf]
    |cons v vs=>simp only[dA,jf]
   ·simp only[bT,Bool.and_eq_true]at a⊢
    exact⟨a.1,e3 a.2 b⟩
  ·cases h
 |[],o+1,vs,lS,h=>by simp[jC]at h
 |[],0,v::vs,lS,h=>by simp[jC]at h
theorem NE{ρ y:List Nat}{i:Nat}(h1:ρ.length<=i)(h2:i<(ρ++y).length):eW (ρ++y) i∈y:=by
 induction ρ generalizing i with
 |nil=>
  simp only[List.nil_append]at h2⊢
  induction y generalizing i with
  |nil=>simp at h2
  |cons b y ih=>
   cases i with
   |zero=>simp[eW]
   |succ i=>simp only[eW];exact List.mem_cons_of_mem _ (ih (by simp) (by simpa using h2))
 |cons b ρ ih=>
  cases i with
  |zero=>simp at h1
  |succ i=>
   simp only[List.cons_append,eW]
   exact ih (by simpa using h1) (by simpa using h2)
theorem NF{P:Program}{A:aU}{s:St}{ρ:List Nat}{h:Heap}{t:TypeId}{x v:Operand}{k:St->Tv->Prop}{raw:Prop}(I:Inv s ρ h)(R:Rel ρ s.m s.E A)(H:storeT P s t (lf s.E x) (xu s.E v) k raw)
 (hr:raw->Aq P (Instr.storeAt t (fi A x) (fi A v)) h (iI A s ρ k)):Aq P (Instr.storeAt t (fi A x) (fi A v)) h (iI A s ρ k):=by
 unfold storeT at H
 split at H
 ·rename_i id off hx
  have hv:=(fw R hx).2.2
  rw[hv]
  split at H
  ·rename_i cs w hf hw
   obtain⟨w1,w2,w3⟩:=jh R hw
   rw[w3]
   obtain⟨o1,o2,o3⟩:=kN hf I.tN I.wo
   obtain⟨i,hi,cK⟩:=kA (ρ:=ρ) hf
   split at H
   ·rename_i vs n ME qd
    obtain⟨f1,f2⟩:=Ce (ρ:=ρ) ME
    obtain⟨g1,g2⟩:=xB ME w1 w2
    split at H
    ·rename_i hn
     split at H
     ·rename_i lS Nd
      obtain⟨e1,e2,e3,e4⟩:=pS (ρ:=ρ) (m:=s.m) Nd
      have hl:(dA ρ vs).length=n:=by rw[eJ,List.length_map,<-kh];exact Nat.eq_of_beq_eq_true hn
      refine Ru qd I.vars i hi off (dA ρ vs) f1 hl f2 (by rw[eJ,eJ,List.length_map,List.length_map];exact e2) (L':=kg ρ (vL s.L id lS)) (by rw[<-e1];exact cK lS) fun h1 fr1 V1=> ?_
      obtain⟨p1,p2⟩:=JU (id:=id) I.tN I.wo (e3 o2 g1) (e4 o3 g2)
      obtain⟨y,y1,y2,y3⟩:=I.ext
      have I1:Inv {s with L:=vL s.L id lS,so:=(match Nat.blt id (iC s.ρ)with|true=>id::s.so|false=>s.so),md:=id::s.md,d:=true} ρ h1:=by
       refine⟨V1,I.len,I.ext,?_,(fun e=>by cases e),?_,p1,p2⟩
       ·show Fr (In (vq ρ (match Nat.blt id (iC s.ρ)with|true=>id::s.so|false=>s.so))) s.h h1
        cases hb:Nat.blt id (iC s.ρ)with
        |true=>exact Fr.rU I.fr fr1
        |false=>
         have hge:s.ρ.length<=id:=by
          rw[<-lA]
          exact Nat.le_of_not_lt fun rO=>by rw[<-Nat.blt_eq]at rO;rw[hb]at rO;cases rO
         have VW:=NE (y:=y) hge (by rw[<-y1,I.len];exact o1)
         rw[<-y1]at VW
         exact Fr.new I.fr (y3 _ VW) fr1
       ·show∀i,i∈(match Nat.blt id (iC s.ρ)with|true=>id::s.so|false=>s.so)->i<s.ρ.length
        intro j hj
        cases hb:Nat.blt id (iC s.ρ)with
        |true=>
         rw[hb]at hj
         rcases List.mem_cons.1 hj with rfl|hj
         ·rw[<-lA];exact fe.1 hb
         ·exact I.so j hj
        |false=>rw[hb]at hj;exact I.so j hj
      refine iJ (x:= .v (.l .u)) I1 R ⟨Nat.le_refl _,⟨[id],rfl,fun j hj _=> ?_⟩,⟨[],by simp⟩⟩ rfl rfl trivial H
      show cE (vL s.L id lS) j=_
      rw[AX hf]
      rw[if_neg]
      intro e
      subst e
      simp[eN]at hj
     ·exact H.elim
    ·exact H.elim
   ·exact H.elim
  ·exact H.elim
 ·rename_i z j sz off hx
  have hv:=(fw R hx).2.2
  have ha:fi A x= .pointer (some (loadT.QP z j sz off)):=by rw[hv];cases off<;>rfl
  split at H
  ·rename_i y hw
   obtain⟨w1,w2,w3⟩:=jh R hw
   split at H
   ·rename_i hp qd
    obtain⟨s',C,hE,hL,hm,jL,H⟩:=iH I H
    have R':Rel ρ s'.m s'.E A:=by rw[hE,hm];exact R
    split at H
    ·obtain⟨q1,q2,q3⟩:=H
     rw[C.h]at q1
     rw[C.h,C.r]at q2
     rw[ha,w3]
     refine Nf (v:=y.v ρ) qd q1 (tP hp) fun h1 e1=> ?_
     have q2':Vars h1 (kg ρ s'.L):=by rw[e1];exact q2
     have C':Cl {s' with h:=h1} ρ h1:=⟨q2',C.len,C.r,rfl,C.nw,C.so,C.d,C.tN,C.wo⟩
     exact iJ (s':={s' with h:=h1}) (x:= .v (.l .u)) C'.inv R' (fE hm hL jL) rfl rfl trivial (q3 h1 (by rw[C.h,C.r];exact e1) (by rw[C.r];exact q2'))
    ·exact H.elim
   ·exact hr H
  ·exact hr H
 ·exact hr H
theorem NG{s:St}{ρ:List Nat}{h h1:Heap}{A:aU}{cs:List Lf}{b:Nat}(I:Inv s ρ h)(R:Rel ρ s.m s.E A)(hb:h.size<=b)(f:Fr No h h1)(V:Vars h1 ((b,dA ρ cs)::kg ρ s.L))(ho:bT s.m cs=true)(hf:cD cs):
 Inv {s with L:=(s.m,cs)::s.L,m:=s.m+1,nw:=s.nw+1,d:=true} (ρ++[b]) h1/\Rel (ρ++[b]) (s.m+1) s.E A/\eW (ρ++[b]) s.m=b:=by
 have hl:eW (ρ++[b]) s.m=b:=by rw[<-I.len];exact r8 ρ b []
 obtain⟨y,y1,y2,y3⟩:=I.ext
 refine⟨⟨?_,by simp[I.len],⟨y++[b],by rw[y1];simp,by simp[y2],fun c hc=> ?_⟩,?_,(fun e=>by cases e),I.so,?_,⟨hf,I.wo⟩⟩,R.ext I.len (by omega),hl⟩
 ·show Vars h1 ((eW (ρ++[b]) s.m,dA (ρ++[b]) cs)::kg (ρ++[b]) s.L)
  rw[hl,hH (by rw[I.len];exact ho),wm (by rw[I.len];exact I.tN)]
  exact V
 ·rcases List.mem_append.1 hc with hc|hc
  ·exact y3 c hc
  ·simp only[List.mem_cons,List.not_mem_nil,or_false]at hc
   subst hc
   exact Nat.le_trans I.fr.size hb
 ·show Fr (In (vq (ρ++[b]) s.so)) s.h h1
  rw[AR fun i hi=>by have:=I.so i hi;rw[y1,List.length_append];omega]
  exact Fr.no' I.fr f
 ·simp[rG,Cd (Nat.le_succ _) ho,RH (Nat.le_succ _) I.tN]
theorem Cf(ρ:List Nat):∀vs:List Value,dA ρ (xt vs)=vs/\(∀m,bT m (xt vs)=true)/\cD (xt vs)
 |[]=>⟨rfl,fun _=>rfl,trivial⟩
 |v::vs=>by
  obtain⟨h1,h2,h3⟩:=Cf ρ vs
  exact⟨by simp only[xt,dA];rw[ND,h1],fun m=>by simp[xt,bT,JT,h2 m],AW v,h3⟩
theorem qR{m id:Nat}{cs:List Lf}{L:List (Nat×List Lf)}(h:id<m):cE ((m,cs)::L) id=cE L id:=by
 have e:cE ((m,cs)::L) id=match Nat.beq m id with|true=>some cs|false=>cE L id:=rfl
 rw[e]
 cases hb:Nat.beq m id with
 |true=>have:=Nat.eq_of_beq_eq_true hb;omega
 |false=>rfl
theorem AY{s:St}{ρ:List Nat}{h h1:Heap}{A:aU}{cs:List Lf}{b:Nat}{k:St->Tv->Prop}(I:Inv s ρ h)(R:Rel ρ s.m s.E A)(hb:h.size<=b)(f:Fr No h h1)(V:Vars h1 ((b,dA ρ cs)::kg ρ s.L))(ho:bT s.m cs=true)(hf:cD cs)(H:VN s cs k):iI A s ρ k (VP b 0) h1:=by
 obtain⟨I1,R1,hl⟩:=NG I R hb f V ho hf
 refine⟨_,.v (.l (.p s.m 0)),ρ++[b],I1,R1,?_,?_,trivial,⟨Nat.le_succ _,⟨[],rfl,fun id _ hid=>qR hid⟩,⟨[b],rfl⟩⟩,H⟩
 ·show VP b 0=VP (eW (ρ++[b]) s.m) 0
  rw[hl]
 ·exact fe.2 (Nat.lt_succ_self _)
theorem Cg{ρ:List Nat}{xs:List Lf}{o:Nat}{y:Lf}(h:lh xs o 1=some [y]):(dA ρ xs).toArray[o]?=some (y.v ρ):=by
 obtain⟨e1,e2⟩:=tO (ρ:=ρ) h
 rw[nh]at e1
 have:=congrArg (·[0]?) e1
 simpa[dA,List.getElem?_take,List.getElem?_drop]using this
theorem NH{P:Program}{t:TypeId}{fs:Array Field}{i:Nat}{f:Field}{K:Value->Prop}{cs:Array Value}{v:Value}(h1:P.underlying t=some (.struct fs))(h2:fs[i]?=some f)(h3:gQ P f.type=true)(h4:cs[f.offset]?=some v)(H:K v):pop P (Instr.field t (.agg cs) i) K:=
 .mk' (fun w=>by
  unfold Instr.field
  rw[aK (bX h1 w)]
  simp only[h2]
  rw[aK (show(asAgg (.agg cs)).run P w= .ok cs w from rfl)]
  unfold part
  rw[aK (AD h3 w).1]
  simp only[h4,Bool.false_eq_true,if_false]
  rfl) H
theorem NI{P:Program}{t:TypeId}{fs:Array Field}{i:Nat}{f:Field}{n:Nat}{K:Value->Prop}{cs:Array Value}(h1:P.underlying t=some (.struct fs))(h2:fs[i]?=some f)(h3:qN P f.type=some n)(H:K (.agg (cs.extract f.offset (f.offset+n)))):pop P (Instr.field t (.agg cs) i) K:=
 .mk' (fun w=>by
  unfold Instr.field
  rw[aK (bX h1 w)]
  simp only[h2]
  rw[aK (show(asAgg (.agg cs)).run P w= .ok cs w from rfl)]
  unfold part
  rw[aK (pM h3 w).1]
  simp only[if_true]
  rw[aK (pM h3 w).2]
  rfl) H
theorem RL{ρ:List Nat}{xs ys:List Lf}{o n:Nat}(h:lh xs o n=some ys):(dA ρ xs).toArray.extract o (o+n)=(dA ρ ys).toArray:=by
 obtain⟨e1,e2⟩:=tO (ρ:=ρ) h
 rw[nh]at e1
 rw[<-e1]
 apply Array.ext'
 simp
def hJ(P:Program):List Field->List (Nat×Nat)
 |[]=>[]
 |f::fs=>(f.offset,(ly P f.type).getD 0)::hJ P fs
theorem vv(P:Program):∀(fs:List Field)(i:Nat),(hJ P fs)[i]?=fs[i]?.map fun f=>(f.offset,(ly P f.type).getD 0)
 |[],i=>by simp[hJ]
 |f::fs,0=>by simp[hJ]
 |f::fs,i+1=>by simp only[hJ,List.getElem?_cons_succ];exact vv P fs i
theorem run_places{P:Program}{w:World}:∀{fs:List Field},rX P fs=true->(fs.mapM (fun f=>do pure (f.offset,<-sizeOf f.type):Field->Sem (Nat×Nat))).run P w= .ok (hJ P fs) w
 |[],_=>rfl
 |f::fs,h=>by
  simp only[rX,Bool.and_eq_true]at h
  cases hs:ly P f.type with
  |none=>rw[hs]at h;simp at h
  |some n=>
   rw[List.mapM_cons]
   have h1:((do pure (f.offset,<-sizeOf f.type):Sem (Nat×Nat))).run P w= .ok (f.offset,n) w:=by
    rw[aK (kM hs w)]
    rfl
   rw[aK h1,aK (run_places h.2)]
   simp only[hJ,hs,Option.getD_some]
   rfl
theorem vw:∀(vs:List Value)(o i:Nat)(cs:Array Value),o+i+vs.length<=cs.size->((vs.zipIdx i).foldl (fun(cs:Array Value)(p:Value×Nat)=>cs.setIfInBounds (o+p.2) p.1) cs).toList=jf cs.toList (o+i) vs
 |[],o,i,cs,h=>by
  simp only[List.zipIdx_nil,List.foldl_nil]
  cases cs.toList<;>simp[jf]
 |v::vs,o,i,cs,h=>by
  simp only[List.length_cons]at h
  simp only[List.zipIdx_cons,List.foldl_cons]
  rw[vw vs o (i+1) _ (by simp;omega),Array.toList_setIfInBounds,mg _ _ _ (by simp;omega),mg _ _ _ (by simp;omega)]
  have e1:(cs.toList.set (o+i) v).take (o+(i+1))=cs.toList.take (o+i)++[v]:=by
   rw[show o+(i+1)=(o+i)+1 by omega,List.take_succ_eq_append_getElem (by simp;omega),List.take_set_of_le (Nat.le_refl _)]
   simp
  have e2:(cs.toList.set (o+i) v).drop (o+(i+1)+vs.length)=cs.toList.drop (o+i+(v::vs).length):=by
   rw[List.drop_set_of_lt (by omega)]
   congr 1
   simp;omega
  rw[e1,e2]
  simp
theorem JW{P:Program}{fs:Array Field}{ρ:List Nat}{m:Nat}{E:List (Nat×Option Tv)}{A:aU}(R:Rel ρ m E A):∀{ps:List (Nat×Operand)}{cs lS:List Lf},EL P fs E cs ps=some lS->
 Instr.fill ((hJ P fs.toList).toArray[·]?) (dA ρ cs).toArray (ps.map fun p=>(p.1,fi A p.2))=some (dA ρ lS).toArray/\(bT m cs=true->bT m lS=true)/\(cD cs->cD lS)
 |[],cs,lS,h=>by
  simp only[EL,Option.some.injEq]at h
  subst h
  exact⟨rfl,fun h=>h,fun h=>h⟩
 |(i,x)::ps,cs,lS,h=>by
  simp only[EL]at h
  split at h
  ·rename_i f w hf hw
   obtain⟨w1,w2,w3⟩:=jh R hw
   split at h
   ·rename_i vs n ME qd
    obtain⟨f1,f2⟩:=Ce (ρ:=ρ) ME
    obtain⟨g1,g2⟩:=xB ME w1 w2
    split at h
    ·rename_i hn
     split at h
     ·rename_i c2 Nd
      obtain⟨e1,e2,e3,e4⟩:=pS (ρ:=ρ) (m:=m) Nd
      obtain⟨i1,i2,i3⟩:=JW R h
      have hl:(dA ρ vs).length=n:=by rw[eJ,List.length_map,<-kh];exact Nat.eq_of_beq_eq_true hn
      have GZ:(dA ρ cs).length=cs.length:=by rw[eJ,List.length_map]
      have hvs:(dA ρ vs).length=vs.length:=by rw[eJ,List.length_map]
      refine⟨?_,fun a=>i2 (e3 a g1),fun a=>i3 (e4 a g2)⟩
      rw[List.map_cons]
      unfold Instr.fill
      have hp:(hJ P fs.toList).toArray[i]?=some (f.offset,n):=by
       rw[List.getElem?_toArray,vv]
       have:fs.toList[i]?=some f:=by simpa using hf
       rw[this,Option.map_some,qd]
       rfl
      simp only[hp,w3,f1]
      have NJ:¬((decide ((dA ρ vs).toArray.size≠n)||decide (f.offset+(dA ρ vs).toArray.size>(dA ρ cs).toArray.size))=true):=by
       simp only[List.size_toArray,Bool.or_eq_true,decide_eq_true_eq,not_or]
       omega
      rw[if_neg NJ]
      have abR:((dA ρ vs).toArray.zipIdx.foldl (fun(cs:Array Value)(p:Value×Nat)=>cs.setIfInBounds (f.offset+p.2) p.1) (dA ρ cs).toArray)=(dA ρ c2).toArray:=by
       apply Array.ext'
       rw[show((dA ρ vs).toArray.zipIdx)=((dA ρ vs).zipIdx 0).toArray by simp,List.foldl_toArray]
       rw[vw _ f.offset 0 _ (by simp;omega),e1,Nat.add_zero]
      exact(congrArg (fun z=>Instr.fill ((hJ P fs.toList).toArray[·]?) z (ps.map fun p=>(p.1,fi A p.2))) abR).trans i1
     ·cases h
    ·cases h
   ·cases h
  ·cases h
theorem Lr{P:Program}{t:TypeId}{fs:Array Field}{z:Value}{K:Value->Prop}{ps:List (Nat×Value)}{cs:Array Value}(h1:P.underlying t=some (.struct fs))(h2:oE P t=some z)(h3:rX P fs.toList=true)(h4:Instr.fill ((hJ P fs.toList).toArray[·]?) z.cells ps=some cs)(H:K (.agg cs)):pop P (Instr.build t ps.toArray) K:=
 .mk' (fun w=>by
  unfold Instr.build
  have hz:(zeroValue t).run P w= .ok z w:=by
   unfold oE at h2
   cases hi:P.info? t with
   |none=>rw[hi]at h2;simp at h2
   |some i=>
    rw[hi]at h2
    simp only[Option.bind_some]at h2
    unfold zeroValue
    rw[aK (dV hi w)]
    simp[h2,pure,Sem.run]
  rw[aK hz,aK (bX h1 w)]
  simp only
  have hm:(fs.mapM (fun f=>do pure (f.offset,<-sizeOf f.type):Field->Sem (Nat×Nat))).run P w= .ok (hJ P fs.toList).toArray w:=by
   rw[Array.mapM_eq_mapM_toList]
   show((List.toArray<$>(fs.toList.mapM (fun f=>do pure (f.offset,<-sizeOf f.type):Field->Sem (Nat×Nat))):Sem (Array (Nat×Nat)))).run P w=_
   rw[map_eq_pure_bind,aK (run_places h3)]
   rfl
  rw[aK hm]
  simp only[h4]
  rfl) H
theorem _root_.Array.lD{α:Type}{a:Array α}{x:α}(h:a.toList=[x]):a= #[x]:=by
 cases a with
 |mk l=>simp only at h;subst h;rfl
theorem VX{P:Program}{s:St}{o:BinOp}{kd:IntKind}{a b:Int}{VK:Bool}{t:TypeId}{x y:Operand}{K:Lf->Prop}{raw:Prop}{G:Value->Prop}(gi:∀z,K (.i kd z)->G (.int kd z))(gb:∀z,K (.b z none)->G (.bool z))(hc:VK=true->b≠0)(H:VJ P s o kd a b VK K raw)(hr:raw->pop P (lQ o t x y (.int kd a) (.int kd b)) G):pop P (lQ o t x y (.int kd a) (.int kd b)) G:=by
 cases o<;>simp only[VJ]at H
 case add=>exact Q9 (t:=t) kd a b (gi _ H)
 case sub=>exact Ra (t:=t) kd a b (gi _ H)
 case mul=>exact Rb (t:=t) kd a b (gi _ H)
 case quo=>
  cases VK with
  |true=>exact JF (t:=t) kd a b (hc rfl) (gi _ H)
  |false=>exact JF (t:=t) kd a b H.1 (gi _ H.2)
 case rem=>
  cases VK with
  |true=>exact JG (t:=t) kd a b (hc rfl) (gi _ H)
  |false=>exact JG (t:=t) kd a b H.1 (gi _ H.2)
 case lss=>exact Rc (t:=t) kd a b (gb _ H)
 case leq=>exact Re (t:=t) kd a b (gb _ H)
 case gtr=>exact Rf (t:=t) kd a b (gb _ H)
 case geq=>exact Rg (t:=t) kd a b (gb _ H)
 case eql=>exact Rh (t:=t) kd x y a b (gb _ H)
 case neq=>exact Ri (t:=t) kd x y a b (gb _ H)
 all_goals exact hr H
theorem NK{y:Operand}{k:IntKind}{b:Int}{A:aU}(h:Nt y=true)(e:fi A y= .int k b):b≠0:=by
 unfold Nt at h
 split at h
 ·simp only[fi,Value.int.injEq]at e
  obtain⟨_,rfl⟩:=e
  intro h0
  cases h0
 ·simp only[fi,Value.int.injEq]at e
  obtain⟨_,rfl⟩:=e
  intro h0
  cases h0
 ·cases h
theorem VY{P:Program}{A:aU}{s:St}{ρ:List Nat}{h:Heap}{o:BinOp}{t:TypeId}{x y:Operand}{k:St->Tv->Prop}{raw:Prop}(I:Inv s ρ h)(R:Rel ρ s.m s.E A)(H:VM P s o t y (lf s.E x) (lf s.E y) (Nu s k) raw)
 (hr:raw->pop P (lQ o t x y (fi A x) (fi A y)) fun v=>iI A s ρ k v h):pop P (lQ o t x y (fi A x) (fi A y)) fun v=>iI A s ρ k v h:=by
 have gi:∀kd z,Nu s k (.i kd z)->iI A s ρ k (.int kd z) h:=fun kd z h3=>bD (x:= .v (.l (.i kd z))) I R rfl rfl trivial h3
 have gb:∀z,Nu s k (.b z none)->iI A s ρ k (.bool z) h:=fun z h3=>bD (x:= .v (.l (.b z none))) I R rfl rfl trivial h3
 have gs:∀z,Nu s k (.s z)->iI A s ρ k (.string z) h:=fun z h3=>bD (x:= .v (.l (.s z))) I R rfl rfl trivial h3
 unfold VM at H
 split at H
 ·rename_i kd a kd' b hx hy
  split at H
  ·rename_i hk
   obtain rfl:=of_decide_eq_true hk
   have e1:=(fw R hx).2.2
   have e2:=(fw R hy).2.2
   rw[e1,e2]at hr⊢
   exact VX (gi _) gb (fun hc=>NK hc e2) H hr
  ·exact hr H
 ·rename_i a _ b _ hx hy
  have e1:=(fw R hx).2.2
  have e2:=(fw R hy).2.2
  split at H
  ·rename_i ht
   split at H
   ·rw[e1,e2]
    exact Rj ht x y a b (gb _ H)
   ·rw[e1,e2]
    exact Rk ht x y a b (gb _ H)
   ·exact hr H
  ·exact hr H
 ·rename_i a b hx hy
  have e1:=(fw R hx).2.2
  have e2:=(fw R hy).2.2
  split at H
  ·rw[e1,e2]
   exact Nb (t:=t) a b H.1 (gs _ H.2)
  ·rw[e1,e2]
   exact Rq x y a b (gb _ H)
  ·rw[e1,e2]
   exact Rr x y a b (gb _ H)
  ·exact hr H
 ·exact hr H
theorem HM{ρ:List Nat}{m:Nat}{E:List (Nat×Option Tv)}{A:aU}(R:Rel ρ m E A):∀{l:List Operand}{cs:List Cp},AO E l=some cs->mW (fi A) l=EI ρ cs/\nP m cs=true
 |[],cs,h=>by
  simp only[AO,Option.some.injEq]at h
  subst h
  exact⟨rfl,rfl⟩
 |x::l,cs,h=>by
  simp only[AO]at h
  split at h
  ·rename_i c lS hc GZ
   have h:=Option.some.inj h
   subst h
   obtain⟨i1,i2⟩:=HM R GZ
   have key:fi A x=c.v' ρ/\Nr m c=true:=by
    unfold abM at hc
    split at hc
    all_goals first
     |(rename_i hx
       have h:=Option.some.inj hc
       subst h
       obtain⟨a1,a2,a3⟩:=jh R hx
       exact⟨a3,a1⟩)
     |(rename_i hx
       have h:=Option.some.inj hc
       subst h
       obtain⟨a1,a2,a3⟩:=jh R hx
       exact⟨a3,rfl⟩)
     |cases hc
   exact⟨by simp only[mW,EI];rw[key.1,i1],by simp[nP,key.2,i2]⟩
  ·cases h
theorem JX{ρ:List Nat}{m:Nat}:∀{xs:List Av}{i:Nat}{y:Av},Lq xs i=some y->(UP ρ xs).toArray[i]?=some (y.v ρ)/\(nQ m xs=true->y.ok m=true)/\(wh xs->y.fact)
 |[],i,y,h=>by simp[Lq]at h
 |x::xs,0,y,h=>by
  simp only[Lq,Option.some.injEq]at h
  subst h
  exact⟨by simp[UP],fun a=>by simp only[nQ,Bool.and_eq_true]at a;exact a.1,fun a=>a.1⟩
 |x::xs,i+1,y,h=>by
  simp only[Lq]at h
  obtain⟨h1,h2,h3⟩:=JX (ρ:=ρ) (m:=m) h
  exact⟨by simpa[UP]using h1,fun a=>by simp only[nQ,Bool.and_eq_true]at a;exact h2 a.2,fun a=>h3 a.2⟩
theorem NL{P:Program}{A:aU}{s:St}{ρ:List Nat}{h:Heap}{x:Operand}{v:Option Addr}{e:TypeId}{k:St->Tv->Prop}(I:Inv s ρ h)(R:Rel ρ s.m s.E A)(hx:fi A x= .pointer v)(H:EM P s x v e k):pop P (MX (fi A x)) fun v=>iI A s ρ k v h:=by
 unfold EM at H
 obtain⟨s',C,hE,hL,hm,jL,b,H⟩:=iH I H
 have R':Rel ρ s'.m s'.E A:=by rw[hE,hm];exact R
 obtain⟨ys,⟨hv,hV,hk⟩,y1,y2⟩:=oO H
 rw[C.r,C.h]at hV
 rw[hx,hv]
 have hl:eW (ρ++[b]) s'.m=b:=by rw[<-C.len];exact r8 ρ b []
 have Rx:=R'.ext (y:=[b]) (n:=s'.m+1) C.len (by omega)
 refine wg _ ⟨_,.v (.l (.p s'.m 0)),ρ++[b],((⟨?_,by simp[C.len],by rw[C.r],C.h,C.nw,C.so,C.d,?_,⟨y2,C.wo⟩⟩:Cl {s' with E:=EM.VO s'.E x s'.m,L:=(s'.m,ys)::s'.L,ρ:=s'.ρ++[b],m:=s'.m+1} (ρ++[b]) h)).inv,?_,?_,?_,trivial,(fE hm hL jL).trans ⟨Nat.le_succ _,⟨[],rfl,fun id _ hid=>qR hid⟩,⟨[b],rfl⟩⟩,hk⟩
 ·show Vars h ((eW (ρ++[b]) s'.m,dA (ρ++[b]) ys)::kg (ρ++[b]) s'.L)
  rw[hl,hH (y1 _),wm (by rw[C.len];exact C.tN)]
  exact hV
 ·simp[rG,y1,RH (Nat.le_succ _) C.tN]
 ·show Rel (ρ++[b]) (s'.m+1) (EM.VO s'.E x s'.m) A
  cases x with
  |tmp t=>
   refine⟨fun t' z hz=> ?_⟩
   have hz:(match Nat.beq t t' with|true=>some (.v (.l (.p s'.m 0)))|false=>qe s'.E t')=some z:=hz
   cases hb:Nat.beq t t' with
   |true=>
    rw[hb]at hz
    have hz:=Option.some.inj hz
    subst hz
    have:=Nat.eq_of_beq_eq_true hb
    subst this
    refine⟨fe.2 (Nat.lt_succ_self _),trivial,?_⟩
    show lR A t=VP (eW (ρ++[b]) s'.m) 0
    rw[hl]
    rw[hv]at hx
    exact hx
   |false=>rw[hb]at hz;exact Rx.get t' z hz
  |const c=>exact Rx
  |global g=>exact Rx
  |func f=>exact Rx
 ·show VP b 0=VP (eW (ρ++[b]) s'.m) 0
  rw[hl]
 ·exact fe.2 (Nat.lt_succ_self _)
theorem sd{P:Program}{A:aU}{s:St}{ρ:List Nat}{h:Heap}{op:Op}{ty:TypeId}{k:St->Tv->Prop}(I:Inv s ρ h)(R:Rel ρ s.m s.E A)(H:EN P s op ty k):fm P (fi A) op ty h (iI A s ρ k):=by
 unfold EN at H
 split at H
 ·--move
  rename_i x
  split at H
  ·rename_i y hy
   obtain⟨h1,h2,h3⟩:=jh R hy
   exact bD I R h3 h1 h2 H
  ·exact H.elim
 ·rename_i x
  split at H
  ·rename_i y hy
   obtain⟨h1,h2,h3⟩:=jh R hy
   exact bD I R h3 h1 h2 H
  ·exact H.elim
 ·--call
  exact RI I R H
 ·--len
  rename_i args ats
  split at H
  ·rename_i x t hx ht
   split at H
   ·rename_i z e hz hu
    have e1:=(fw R hz).2.2
    refine cN (q:=Builtin.len_ ats ty (mW (fi A) args.toList).toArray) rfl rfl rfl ?_
    rw[hx,Array.lD ht]
    simp only[mW,e1]
    exact Rp z ty e hu (bD (x:= .v (.l (.i .i64 (z.n:Int)))) I R rfl rfl trivial H)
   ·rename_i z hz hu
    have e1:=(fw R hz).2.2
    refine cN (q:=Builtin.len_ ats ty (mW (fi A) args.toList).toArray) rfl rfl rfl ?_
    rw[hx,Array.lD ht]
    simp only[mW,e1]
    exact Na z ty hu (bD (x:= .v (.l (.i .i64 (z.size:Int)))) I R rfl rfl trivial H)
   ·exact iK I R H
  ·exact iK I R H
 ·--binOp
  rename_i o t x y _
  have hr:∀q,(fm P (fi A) (.binOp o t x y q) ty h (iI A s ρ k)↔pop P (lQ o t x y (fi A x) (fi A y)) fun v=>iI A s ρ k v h):=fun q=>Iff.rfl
  rw[hr]
  exact VY I R H fun NM=>(hr _).1 (iK I R NM)
 ·--unOp
  rename_i o t x
  split at H
  ·rename_i z kn hz
   obtain⟨f1,f2,e1⟩:=fw R hz
   refine cN (q:=Op.unary .not (fi A x)) rfl rfl rfl ?_
   rw[e1]
   refine Rl z (bD (x:= .v (.l (.b (!z) (RD kn)))) I R rfl rfl ?_ H)
   show Lf.fact (.b (!z) (RD kn))
   unfold RD
   split
   ·rename_i v
    have:z=v:=f2
    subst this
    rfl
   ·trivial
  ·rename_i kd z hz
   have e1:=(fw R hz).2.2
   refine cN (q:=Op.unary .neg (fi A x)) rfl rfl rfl ?_
   rw[e1]
   exact Rm kd z (bD (x:= .v (.l (.i kd (kd.wrap (0-z))))) I R rfl rfl trivial H)
  ·exact iK I R H
 ·--pick
  rename_i c a b
  split at H
  ·rename_i z kn hz
   have e1:=(fw R hz).2.2
   obtain⟨b1,b2⟩:=xz I R hz H
   refine cN (q:=JD (fi A c) (fi A a) (fi A b)) rfl rfl rfl ?_
   rw[e1]
   have fin:∀(s':St)(w:Operand),Inv s' ρ h->Rel ρ s'.m s'.E A->s'.m=s.m->s'.L=s.L->s'.md=s.md->(match xu s.E w with|some y=>k s' y|none=>False)->iI A s ρ k (fi A w) h:=fun s' w I' R' hm hL jL hq=>by
    split at hq
    ·rename_i y hy
     obtain⟨g1,g2,g3⟩:=jh R hy
     exact iJ I' R' (fE hm hL jL) g3 (by rw[hm];exact g1) g2 hq
    ·exact hq.elim
   refine Lm (fun e=> ?_) (fun e=> ?_)
   ·obtain⟨s',I',R',hm,hL,jL,hq⟩:=b1 e
    exact fin s' a I' R' hm hL jL hq
   ·obtain⟨s',I',R',hm,hL,jL,hq⟩:=b2 e
    exact fin s' b I' R' hm hL jL hq
  ·exact iK I R H
 ·--nilCheck
  rename_i x
  split at H
  ·rename_i id off hz
   obtain⟨g1,g2,e1⟩:=fw R hz
   refine cN (q:=MX (fi A x)) rfl rfl rfl ?_
   rw[e1]
   exact wg _ (bD (x:= .v (.l (.p id off))) I R rfl g1 trivial H)
  ·rename_i z i sz off hz
   obtain⟨g1,g2,e1⟩:=fw R hz
   refine cN (q:=MX (fi A x)) rfl rfl rfl ?_
   rw[e1]
   cases off with
   |none=>exact wg _ (bD (x:= .v (.l (.e z i sz none))) I R rfl g1 trivial H)
   |some o=>exact wg _ (bD (x:= .v (.l (.e z i sz (some o)))) I R rfl g1 trivial H)
  ·rename_i v e hz
   obtain⟨g1,g2,e1⟩:=fw R hz
   refine cN (q:=MX (fi A x)) rfl rfl rfl ?_
   exact NL I R (by rw[e1];rfl) H
  ·exact iK I R H
 ·--makeFunc
  rename_i fn first cap
  split at H
  ·rename_i fs cs h1 h2
   obtain⟨a1,a2⟩:=HM R h1
   obtain⟨b1,b2⟩:=HM R h2
   refine cN (q:=Instr.makeFunc fn (mW (fi A) first.toList).toArray (mW (fi A) cap.toList).toArray) rfl rfl rfl ?_
   rw[a1,b1]
   exact Nc fn _ _ (bD (x:= .v (.l (.f fn fs cs))) I R rfl (by show(nP _ fs&&nP _ cs)=true;rw[a2,b2];rfl) trivial H)
  ·exact H.elim
 ·--fieldAddr
  rename_i t x i
  split at H
  ·rename_i id off o hz ho
   obtain⟨g1,g2,e1⟩:=fw R hz
   refine cN (q:=Instr.fieldAt t (fi A x) i) rfl rfl rfl ?_
   rw[e1]
   exact Lj i ho _ _ (bD (x:= .v (.l (.p id (off+o)))) I R rfl g1 trivial H)
  ·rename_i z j sz o hz ho
   obtain⟨g1,g2,e1⟩:=fw R hz
   refine cN (q:=Instr.fieldAt t (fi A x) i) rfl rfl rfl ?_
   rw[e1]
   exact Hy i ho _ (bD (x:= .v (.l (.e z j sz (some o)))) I R rfl rfl trivial H)
  ·exact iK I R H
 ·--indexAddr
  rename_i t x ix
  split at H
  ·rename_i z kd j e hz hj hu
   have e1:=(fw R hz).2.2
   have e2:=(fw R hj).2.2
   split at H
   ·rename_i sz qd
    refine cN (q:=Instr.indexAt t (fi A x) (fi A ix)) rfl rfl rfl ?_
    rw[e1,e2]
    exact Ll hu qd kd z j H.1 (bD (x:= .v (.l (.e z j sz none))) I R rfl rfl trivial H.2)
   ·exact H.elim
  ·exact iK I R H
 ·--extract
  rename_i t ix
  split at H
  ·rename_i xs hx
   obtain⟨g1,g2,g3⟩:=jh R hx
   split at H
   ·rename_i y hy
    obtain⟨a1,a2,a3⟩:=JX (ρ:=ρ) (m:=s.m) hy
    refine cN (q:=Instr.extract (fi A t) ix) rfl rfl rfl ?_
    rw[g3]
    exact Ro a1 (bD (x:= .v y) I R rfl (a2 g1) (a3 g2) H)
   ·exact H.elim
  ·exact iK I R H
 ·--field
  rename_i t x i
  split at H
  ·rename_i xs fs hx hu
   obtain⟨g1,g2,g3⟩:=jh R hx
   split at H
   ·rename_i f hf
    refine cN (q:=Instr.field t (fi A x) i) rfl rfl rfl ?_
    rw[g3]
    split at H
    ·rename_i h1
     split at H
     ·rename_i y hy
      obtain⟨c1,c2⟩:=pR hy g1 g2
      exact NH hu hf h1 (Cg hy) (bD (x:= .v (.l y)) I R rfl (cP.1 c1 y (by simp)) (bU.1 c2 y (by simp)) H)
     ·exact H.elim
    ·split at H
     ·rename_i n h2
      split at H
      ·rename_i ys hy
       obtain⟨c1,c2⟩:=pR hy g1 g2
       exact NI hu hf h2 (bD (x:= .v (.a ys)) I R (by rw[RL hy];rfl) c1 c2 H)
      ·exact H.elim
     ·exact H.elim
   ·exact H.elim
  ·exact iK I R H
 ·--build
  rename_i t parts
  split at H
  ·rename_i fs zs hu hz
   split at H
   ·rename_i cs hs ME
    unfold JO at hz
    split at hz
    ·rename_i z hz0
     have hz:=Option.some.inj hz
     obtain⟨o1,o2,o3⟩:=Cf ρ z.cells.toList
     rw[hz]at o1 o2 o3
     obtain⟨f1,f2,f3⟩:=JW R ME
     rw[o1]at f1
     refine cN (q:=Instr.build t (parts.toList.map fun p=>(p.1,fi A p.2)).toArray) rfl rfl rfl ?_
     exact Lr hu hz0 hs f1 (bD (x:= .v (.a cs)) I R rfl (f2 (o2 _)) (f3 o3) H)
    ·cases hz
   ·exact H.elim
  ·exact iK I R H
 ·--load
  rename_i t x
  have hr:(fm P (fi A) (.load t x) ty h (iI A s ρ k)↔zS P (Instr.loadAt t (fi A x)) h fun v=>iI A s ρ k v h):=Iff.rfl
  rw[hr]
  exact RJ I R H fun NM=>hr.1 (iK I R NM)
 ·--store
  rename_i t x v
  have hr:(fm P (fi A) (.store t x v) ty h (iI A s ρ k)↔Aq P (Instr.storeAt t (fi A x) (fi A v)) h (iI A s ρ k)):=Iff.rfl
  rw[hr]
  exact NF I R H fun NM=>hr.1 (iK I R NM)
 ·--box
  rename_i t v
  split at H
  ·rename_i y hy
   obtain⟨g1,g2,g3⟩:=jh R hy
   split at H
   ·rename_i cs ME
    obtain⟨f1,f2⟩:=Ce (ρ:=ρ) ME
    obtain⟨o1,o2⟩:=xB ME g1 g2
    show kE P (Instr.box t (fi A v)) h _
    rw[g3]
    exact Rt t _ f1 I.vars fun b h1 hb f V=>AY I R hb f V o1 o2 H
   ·exact H.elim
  ·exact H.elim
 ·--alloc
  rename_i t
  split at H
  ·rename_i cs hz
   unfold JO at hz
   split at hz
   ·rename_i z hz0
    have hz:=Option.some.inj hz
    obtain⟨o1,o2,o3⟩:=Cf ρ z.cells.toList
    rw[hz]at o1 o2 o3
    show kE P (Instr.alloc t true (.tuple #[])) h _
    exact Lk t hz0 (cs:=dA ρ cs) (by rw[o1]) I.vars fun b h1 hb f V=>AY I R hb f V (o2 _) o3 H
   ·cases hz
  ·exact H.elim
 all_goals exact iK I R H
theorem nn{P:Program}{ops:List Oper}{A:aU}{h:Heap}{o:Oper}{k k':Value->Heap->Prop}(H:lx P ops A h o k)(hk:∀v h,k v h->k' v h):lx P ops A h o k':=by
 unfold lx at*
 cases hg:o.guard with
 |none=>rw[hg]at H;simp only[kL]at H⊢;exact jd hk H
 |some p=>
  obtain⟨j,want⟩:=p
  rw[hg]at H
  obtain⟨b,hb,h1,h2⟩:=H
  exact⟨b,hb,fun e=>by have:=h1 e;rw[kL]at this⊢;exact jd hk this,fun e=>hk _ _ (h2 e)⟩
theorem EW{P:Program}{ops:List Oper}{A:aU}{h:Heap}{o:Oper}{k:Value->Heap->Prop}(hq:(vg o.op||zP o.op)=true)(H:lx P ops A h o k):lx P ops A h o fun v h'=>h'=h/\MY P ops A h o v/\k v h':=by
 unfold lx at*
 cases hg:o.guard with
 |none=>
  rw[hg]at H
  simp only[kL]at H⊢
  obtain⟨v,h1,h2⟩:=(gy hq).1 H
  exact(gy hq).2 ⟨v,h1,rfl,by unfold MY;rw[hg];exact h1,h2⟩
 |some p=>
  obtain⟨j,want⟩:=p
  rw[hg]at H
  obtain⟨b,hb,h1,h2⟩:=H
  refine⟨b,hb,fun e=> ?_,fun e=>⟨rfl,by unfold MY;rw[hg];exact⟨b,hb,fun e'=>absurd e' e,fun _=>rfl⟩,h2 e⟩⟩
  have h1:=h1 e
  rw[kL]at h1⊢
  obtain⟨v,h3,h4⟩:=(gy hq).1 h1
  exact(gy hq).2 ⟨v,h3,rfl,by unfold MY;rw[hg];exact⟨b,hb,fun _=>h3,fun e'=>absurd e e'⟩,h4⟩
theorem wu{A:aU}{s s1:St}{ρ:List Nat}{k:St->Tv->Prop}{v:Value}{h:Heap}(hm:s1.m=s.m)(hL:s1.L=s.L)(jL:s1.md=s.md)(H:iI A s1 ρ k v h):iI A s ρ k v h:=by
 obtain⟨s',x,iY,a1,a2,a3,a4,a5,a6,a7⟩:=H
 exact⟨s',x,iY,a1,a2,a3,a4,a5,(fE hm hL jL).trans a6,a7⟩
theorem xC{P:Program}{ops:List Oper}{A:aU}{s:St}{ρ:List Nat}{h:Heap}{o:Oper}{k:St->Tv->Prop}(I:Inv s ρ h)(R:Rel ρ s.m s.E A)(H:EO P ops s o k):lx P ops A h o (iI A s ρ k):=by
 unfold EO at H
 unfold lx
 cases hg:o.guard with
 |none=>rw[hg]at H;simp only[kL];exact sd I R H
 |some p=>
  obtain⟨j,want⟩:=p
  rw[hg]at H
  simp only at H⊢
  have skip:k s (.v (.l .u))->jc ops A j=undef->Hk (K7 (jc ops A j) want) want (wY P A o.op o.type h) h (iI A s ρ k):=fun hk hu=>by
   rw[hu]
   exact⟨!want,rfl,fun e=>absurd e (by cases want<;>decide),fun _=>bD (x:= .v (.l .u)) I R rfl rfl trivial hk⟩
  cases ht:wO ops j with
  |none=>
   rw[ht]at H
   exact skip H (by unfold jc;rw[ht])
  |some t=>
   rw[ht]at H
   simp only at H
   split at H
   ·rename_i x kn hx
    have hlf:lf s.E (.tmp t)=some (.b x kn):=by unfold lf xu;simp only[hx]
    have hv:jc ops A j= .bool x:=by unfold jc;rw[ht];exact(R.get t _ hx).2.2
    obtain⟨b1,b2⟩:=xz I R hlf H
    rw[hv]
    refine⟨x,rfl,fun e=> ?_,fun e=> ?_⟩
    ·rw[kL]
     cases want with
     |true=>
      obtain⟨s',I',R',hm,hL,jL,hq⟩:=b1 e
      exact jd (fun v h=>wu hm hL jL) (sd I' R' hq)
     |false=>
      obtain⟨s',I',R',hm,hL,jL,hq⟩:=b2 e
      exact jd (fun v h=>wu hm hL jL) (sd I' R' hq)
    ·cases want with
     |true=>
      obtain⟨s',I',R',hm,hL,jL,hq⟩:=b2 (by simpa using e)
      exact wu hm hL jL (bD (x:= .v (.l .u)) I' R' rfl rfl trivial hq)
     |false=>
      obtain⟨s',I',R',hm,hL,jL,hq⟩:=b1 (by simpa using e)
      exact wu hm hL jL (bD (x:= .v (.l .u)) I' R' rfl rfl trivial hq)
   ·rename_i hx
    exact skip H (by unfold jc;rw[ht];exact(R.get t _ hx).2.2)
   ·exact H.elim
def To(s0:St)(tA:List Nat)(K:St->Prop)(K':aU->Heap->Prop):Prop:=∀s ρ A h,Inv s ρ h->Rel ρ s.m s.E A->Nx s0 tA s ρ->K s->K' A h
theorem sf{n:Nat}{s:St}{ρ:List Nat}{h:Heap}{A:aU}{dst:Option Tmp}{x:Tv}{v:Value}(I:Inv s ρ h)(R:Rel ρ s.m s.E A)(hv:v=x.val ρ)(ho:x.ok s.m=true)(hf:x.fact):
 Inv (vM n s dst x) ρ h/\Rel ρ (vM n s dst x).m (vM n s dst x).E (wX n A dst v)/\(vM n s dst x).m=s.m/\(vM n s dst x).L=s.L/\(vM n s dst x).md=s.md:=by
 unfold vM wX
 cases dst with
 |none=>exact⟨I,R,rfl,rfl,rfl⟩
 |some d=>
  simp only
  cases hb:Nat.blt d n with
  |false=>exact⟨I,R,rfl,rfl,rfl⟩
  |true=>
   refine⟨⟨I.vars,I.len,I.ext,I.fr,I.cln,I.so,I.tN,I.wo⟩,⟨fun t y hy=> ?_⟩,rfl,rfl,rfl⟩
   simp only[qe]at hy
   simp only[lR]
   cases hd:Nat.beq d t with
   |true=>
    rw[hd]at hy
    have hy:=Option.some.inj hy
    subst hy
    exact⟨ho,hf,hv⟩
   |false=>rw[hd]at hy;exact R.get t y hy
theorem NN{P:Program}{n:Nat}{ops:List Oper}{s0:St}{tA:List Nat}{K:St->Prop}{K':aU->Heap->Prop}(hK:To s0 tA K K'):∀{l:List Oper}{s:St}{ρ:List Nat}{A:aU}{h:Heap},Inv s ρ h->Rel ρ s.m s.E A->Nx s0 tA s ρ->tIn P n ops l s K->AB P n ops l A h K'
 |[],s,ρ,A,h,I,R,N,H=>hK s ρ A h I R N H
 |o::os,s,ρ,A,h,I,R,N,H=>by
  simp only[tIn]at H
  simp only[AB]
  refine nn (xC I R H) fun v h' ⟨s',x,iY,a1,a2,a3,a4,a5,a6,a7⟩=> ?_
  rw[gP]
  obtain⟨b1,b2,b3,b4,b5⟩:=sf (n:=n) (dst:=o.dst) a1 a2 a3 a4 a5
  exact NN hK b1 b2 ((N.trans a6).trans (fE b3 b4 b5)) a7
theorem tQ(a b:List Nat):rZ b (a++b)=a:=by
 unfold rZ
 rw[lA,lA,List.length_append,Nat.add_sub_cancel]
 induction a with
 |nil=>rfl
 |cons x a ih=>simp only[List.length_cons,List.cons_append,rZ.takeN];rw[ih]
def NO(P:Program)(p:Heap->Prop)(t:Ht)(s:St)(ρ:List Nat):Prop:=
 match t with
 | .UT=>∀g,p g
 | .bad=>True
 | .au id off t ys=>∃sb RN,Nx sb RN s ρ/\id<sb.m/\cE s.L id=cE sb.L id/\∀s' iY g,Inv s' iY g->Nx sb RN s' iY->cE s'.L id=cE sb.L id->p g
 | .ce a v=>∀g,aQ g a=some v->p g
 | .cs a vs=>∀g,lz g a vs->p g
 | .se q v=>∀g,(∀w:World,w.heap=g->q.run P w= .ok v w)->p g
inductive Hc(P:Program)(s:St)(ρ:List Nat):ke->List (Nat×Ht)->Prop where
 |nil:Hc P s ρ [] []
 |cons {i:Nat} {p:Heap->Prop} {t:Ht} {S:ke} {T:List (Nat×Ht)}:NO P p t s ρ->Hc P s ρ S T->Hc P s ρ ((i,p)::S) ((i,t)::T)
theorem Hc.keep{P:Program}{s:St}{ρ:List Nat}{bf:List Nat}:∀{S:ke}{T:List (Nat×Ht)},Hc P s ρ S T->Hc P s ρ (qx bf S) (AP bf T)
 |_,_,.nil=> .nil
 |_,_,.cons (i:=i) h1 h2=>by
  simp only[qx,AP]
  cases eN bf i with
  |true=>exact h2.keep
  |false=>exact .cons h1 h2.keep
theorem Hc.step{P:Program}{s s':St}{ρ iY:List Nat}(N:Nx s ρ s' iY):∀{S:ke}{T:List (Nat×Ht)},Hc P s ρ S T->oM (rZ s.md s'.md) T=true->Hc P s' iY S T
 |_,_,.nil,_=> .nil
 |_,_,.cons (t:=t) h1 h2,ha=>by
  cases t with
  |au id off ty ys=>
   simp only[oM,Bool.and_eq_true,Bool.not_eq_true']at ha
   refine .cons ?_ (h2.step N ha.2)
   obtain⟨sb,RN,c1,c2,c3,c4⟩:=h1
   refine⟨sb,RN,c1.trans N,c2,?_,c4⟩
   obtain⟨new,d1,d2⟩:=N.md
   rw[d1,tQ]at ha
   rw[d2 id ha.1 (by have:=c1.m;omega),c3]
  |UT=>exact .cons h1 (h2.step N ha)
  |bad=>exact .cons h1 (h2.step N ha)
  |ce a v=>exact .cons h1 (h2.step N ha)
  |cs a vs=>exact .cons h1 (h2.step N ha)
  |se q v=>exact .cons h1 (h2.step N ha)
theorem Hc.tell{P:Program}{s:St}{ρ:List Nat}{g:Heap}{K:Prop}{K':Prop}(I:Inv s ρ g):∀{S:ke}{T:List (Nat×Ht)},Hc P s ρ S T->AQ P g K T->(K->K')->MT g K' S
 |_,_,.nil,H,hk=>hk H
 |_,_,.cons (t:=t) h1 h2,H,hk=>by
  cases t with
  |UT=>exact⟨h1 g,h2.tell I H hk⟩
  |bad=>exact H.elim
  |au id off ty ys=>
   obtain⟨sb,RN,c1,c2,c3,c4⟩:=h1
   exact⟨c4 s ρ g I c1 c3,h2.tell I H hk⟩
  |ce a v=>exact⟨h1 g H.1,h2.tell I H.2 hk⟩
  |cs a vs=>exact⟨h1 g H.1,h2.tell I H.2 hk⟩
  |se q v=>exact⟨h1 g H.1,h2.tell I H.2 hk⟩
theorem JY{P:Program}{s:St}{ρ:List Nat}{g:Heap}(I:Inv s ρ g){id off:Nat}{cs:List Lf}(hf:cE s.L id=some cs){t:TypeId}(h1:gQ P t=true){y:Lf}(hy:lh cs off 1=some [y]):∀w:World,w.heap=g->(Instr.loadAt t (VP (eW ρ id) off)).run P w= .ok (y.v ρ) w:=by
 obtain⟨i,hi,_⟩:=kA (ρ:=ρ) hf
 have:=Cg (ρ:=ρ) hy
 exact Ln h1 I.vars i hi off (by simpa using this)
theorem EX{P:Program}{s:St}{ρ:List Nat}{g:Heap}(I:Inv s ρ g){id off n:Nat}{cs:List Lf}(hf:cE s.L id=some cs){t:TypeId}(h1:qN P t=some n){ys:List Lf}(hy:lh cs off n=some ys):∀w:World,w.heap=g->(Instr.loadAt t (VP (eW ρ id) off)).run P w= .ok (.agg (dA ρ ys).toArray) w:=by
 obtain⟨i,hi,_⟩:=kA (ρ:=ρ) hf
 obtain⟨e1,e2⟩:=tO (ρ:=ρ) hy
 exact Hw h1 I.vars i hi off e1 e2
def wAt(h:Heap):World:={heap:=h,tape:=fun _ _=>0,drawn:=0,os:=default,output:= #[]}
theorem HO{s:St}{ρ:List Nat}{h:Heap}(I:Inv s ρ h){x:Tv}(hx:x.ok (iC s.ρ)=true):x.val ρ=x.val s.ρ:=by
 obtain⟨y,e,_,_⟩:=I.ext
 rw[e]
 exact Cc (by rw[<-lA];exact hx)
theorem EY{P:Program}{A:aU}{s:St}{ρ:List Nat}{h:Heap}{op:Op}{ty:TypeId}{x:Tv}{v:Value}(I:Inv s ρ h)(R:Rel ρ s.m s.E A)(hq:zP op=true)(hv:v=x.val ρ):NO P (fun g=>Yx P (fi A) op ty g v) (rY.JP P s op x) s ρ:=by
 unfold rY.JP
 split
 ·rename_i q hd hx hr
  intro g hg
  simp only[zP,Bool.and_eq_true]at hq
  have h1:gw op=none:=by simpa using hq.1
  have h2:jG (fi A) ty op=none:=by
   have:=lr fo (fi A) 0 ty op
   have h3:(jG fo 0 op).isSome=false:=by simpa using hq.2.2.1
   rw[h3]at this
   cases hp:jG (fi A) ty op with
   |none=>rfl
   |some _=>rw[hp]at this;cases this
  have hc:nY (fi A) op=nY (Eh s.ρ s.E) op:=na fun y hy=>lC I R hd y (by simpa using hy)
  unfold Yx
  simp only[h1,h2,hc,hr]
  rw[hv,HO I hx]
  exact hg
 ·trivial
theorem EZ{P:Program}{A:aU}{s:St}{ρ:List Nat}{h:Heap}{op:Op}{ty:TypeId}{x:Tv}{v:Value}(I:Inv s ρ h)(R:Rel ρ s.m s.E A)(hq:zP op=true)(hv:v=x.val ρ)(hy:Yx P (fi A) op ty h v):NO P (fun g=>Yx P (fi A) op ty g v) (rY P s op x) s ρ:=by
 unfold rY
 split
 ·rename_i t a
  split
  ·rename_i id off hz
   have hp:fi A a=VP (eW ρ id) off:=(fw R hz).2.2
   have hy:∀w:World,w.heap=h->(Instr.loadAt t (fi A a)).run P w= .ok v w:=hy
   rw[hp]at hy
   have abT:∀g,(∀w:World,w.heap=g->(Instr.loadAt t (VP (eW ρ id) off)).run P w= .ok v w)->Yx P (fi A) (.load t a) ty g v:=fun g hg=>by
    show∀w:World,w.heap=g->(Instr.loadAt t (fi A a)).run P w= .ok v w
    rw[hp]
    exact hg
   split
   ·rename_i cs hf
    have hid:=(kN hf I.tN I.wo).1
    have GZ:=(kN hf I.tN I.wo).2.1
    have later:∀s' iY g,Inv s' iY g->Nx s ρ s' iY->eW iY id=eW ρ id/\dA iY cs=dA ρ cs:=fun s' iY g I' N=>by
     obtain⟨y,hy⟩:=N.r
     rw[hy]
     exact⟨jK _ _ _ (by rw[I.len];exact hid),hH (by rw[I.len];exact GZ)⟩
    split
    ·rename_i h1
     split
     ·rename_i y HP
      have e0:=JY I hf h1 HP (wAt h) rfl
      rw[hy (wAt h) rfl]at e0
      have ev:v=y.v ρ:=by simpa using e0
      refine⟨s,ρ,Nx.refl _ _,hid,rfl,fun s' iY g I' N hf'=>abT g fun w hw=> ?_⟩
      have e1:=JY I' (hf'.trans hf) h1 HP w hw
      obtain⟨l1,l2⟩:=later s' iY g I' N
      rw[l1]at e1
      rw[e1,ev]
      have yo:y.ok ρ.length=true:=by
       rw[I.len]
       exact cP.1 (pR HP GZ (kN hf I.tN I.wo).2.2).1 y (by simp)
      obtain⟨z,hz⟩:=N.r
      rw[hz,HJ yo]
     ·trivial
    ·split
     ·rename_i n h2
      split
      ·rename_i ys HP
       have e0:=EX I hf h2 HP (wAt h) rfl
       rw[hy (wAt h) rfl]at e0
       have ev:v= .agg (dA ρ ys).toArray:=by simpa using e0
       refine⟨s,ρ,Nx.refl _ _,hid,rfl,fun s' iY g I' N hf'=>abT g fun w hw=> ?_⟩
       have e1:=EX I' (hf'.trans hf) h2 HP w hw
       obtain⟨l1,l2⟩:=later s' iY g I' N
       rw[l1]at e1
       rw[e1,ev]
       have yo:bT ρ.length ys=true:=by
        rw[I.len]
        exact(pR HP GZ (kN hf I.tN I.wo).2.2).1
       obtain⟨z,hz⟩:=N.r
       rw[hz,hH yo]
      ·trivial
     ·trivial
   ·trivial
  ·rename_i z i sz off hz
   have hv0:=(fw R hz).2.2
   have ha:fi A a= .pointer (some (loadT.QP z i sz off)):=by rw[hv0];cases off<;>rfl
   split
   ·rename_i z' hx
    split
    ·rename_i h1
     intro g hg
     show∀w:World,w.heap=g->(Instr.loadAt t (fi A a)).run P w= .ok v w
     rw[ha,hv,HO I hx]
     exact AH h1 hg
    ·trivial
   ·rename_i zs hx
    split
    ·rename_i n h2
     split
     ·rename_i hn
      intro g hg
      show∀w:World,w.heap=g->(Instr.loadAt t (fi A a)).run P w= .ok v w
      rw[ha,hv,HO I hx]
      exact AJ h2 (dA s.ρ zs) (by rw[eJ,List.length_map,<-kh];exact Nat.eq_of_beq_eq_true hn) hg
     ·trivial
    ·trivial
   ·trivial
  ·exact EY I R hq hv
 ·exact EY I R hq hv
theorem RO{P:Program}{ops:List Oper}{A:aU}{s:St}{ρ:List Nat}{h:Heap}{o:Oper}{x:Tv}{v:Value}(I:Inv s ρ h)(R:Rel ρ s.m s.E A)(hq:zP o.op=true)(hv:v=x.val ρ)(hy:MY P ops A h o v):NO P (fun g=>MY P ops A g o v) (HF P ops s o x) s ρ:=by
 unfold HF
 unfold MY at hy⊢
 cases hg:o.guard with
 |none=>rw[hg]at hy;exact EZ I R hq hv hy
 |some p=>
  obtain⟨j,want⟩:=p
  rw[hg]at hy
  simp only at hy⊢
  obtain⟨b,hb,h1,h2⟩:=hy
  have skip:b≠want->∀g,∃b:Bool,K7 (jc ops A j) want= .bool b/\(b=want->Yx P (fi A) o.op o.type g v)/\(b≠want->v=undef):=fun eA g=>⟨b,hb,fun e=>absurd e eA,h2⟩
  have NP:jc ops A j=undef->b≠want:=fun e=>by
   rw[e]at hb
   have:b= !want:=by
    have:K7 undef want= .bool (!want):=rfl
    rw[this]at hb
    simpa using hb.symm
   rw[this]
   cases want<;>decide
  have yes:b=want->NO P (fun g=>∃b:Bool,K7 (jc ops A j) want= .bool b/\(b=want->Yx P (fi A) o.op o.type g v)/\(b≠want->v=undef)) (rY P s o.op x) s ρ:=fun e=>by
   have:=EZ (x:=x) I R hq hv (h1 e)
   have up:∀g,Yx P (fi A) o.op o.type g v->∃b:Bool,K7 (jc ops A j) want= .bool b/\(b=want->Yx P (fi A) o.op o.type g v)/\(b≠want->v=undef):=fun g hx=>⟨b,hb,fun _=>hx,h2⟩
   generalize rY P s o.op x=t at this⊢
   cases t with
   |UT=>exact fun g=>up g (this g)
   |bad=>trivial
   |au id off t ys=>
    obtain⟨sb,RN,c1,c2,c3,c4⟩:=this
    exact⟨sb,RN,c1,c2,c3,fun s' iY g a b c=>up g (c4 s' iY g a b c)⟩
   |ce a u=>exact fun g hg=>up g (this g hg)
   |cs a us=>exact fun g hg=>up g (this g hg)
   |se q u=>exact fun g hg=>up g (this g hg)
  cases ht:wO ops j with
  |none=>exact skip (NP (by unfold jc;rw[ht]))
  |some t=>
   simp only
   split
   ·rename_i z c l hx
    obtain⟨r1,r2,r3⟩:=R.get t _ hx
    have hz:z=c:=r2
    have hgv:jc ops A j= .bool z:=by unfold jc;rw[ht];exact r3
    have hbz:b=z:=by
     rw[hgv]at hb
     have:K7 (.bool z) want= .bool z:=rfl
     rw[this]at hb
     simpa using hb.symm
    split
    ·exact yes (by rw[hbz,hz])
    ·exact yes (by rw[hbz,hz])
    ·rename_i n1 n2
     refine skip fun e=> ?_
     rw[hbz,hz]at e
     cases c<;>cases want<;>first|exact n1 rfl rfl|exact n2 rfl rfl|cases e
   ·rename_i hx
    exact skip (NP (by unfold jc;rw[ht];exact(R.get t _ hx).2.2))
   ·trivial
theorem AZ{f g:Nat->Oper->Prop}(hfg:∀i o,f i o->g i o):∀{l:List (Nat×Oper)},Hm f l->Hm g l
 |[],_=>trivial
 |[(i,o)],h=>hfg i o h
 |(i,o)::p::r,h=>⟨hfg i o h.1,AZ hfg h.2⟩
theorem qA:∀{l:List (Nat×Oper)}{i:Nat}{o:Oper},cV l=some (i,o)->(vg o.op||zP o.op)=true
 |[],_,_,h=>by simp[cV]at h
 |(j,o')::r,i,o,h=>by
  unfold cV at h
  cases hq:(vg o'.op||zP o'.op)with
  |true=>
   rw[hq]at h
   simp only[Option.some.injEq,Prod.mk.injEq]at h
   obtain⟨rfl,rfl⟩:=h
   exact hq
  |false=>rw[hq]at h;exact qA h
theorem Hc.eq{P:Program}{s s':St}{ρ:List Nat}(hm:s'.m=s.m)(hL:s'.L=s.L)(jL:s'.md=s.md):∀{S:ke}{T:List (Nat×Ht)},Hc P s ρ S T->Hc P s' ρ S T
 |_,_,.nil=> .nil
 |_,_,.cons (t:=t) h1 h2=>by
  cases t with
  |au id off ty ys=>
   obtain⟨sb,RN,c1,c2,c3,c4⟩:=h1
   exact .cons ⟨sb,RN,c1.trans (fE hm hL jL),c2,by rw[hL];exact c3,c4⟩ (h2.eq hm hL jL)
  |UT=>exact .cons h1 (h2.eq hm hL jL)
  |bad=>exact .cons h1 (h2.eq hm hL jL)
  |ce a v=>exact .cons h1 (h2.eq hm hL jL)
  |cs a vs=>exact .cons h1 (h2.eq hm hL jL)
  |se q v=>exact .cons h1 (h2.eq hm hL jL)
theorem oQ{P:Program}{n:Nat}{ops:List Oper}{s0:St}{tA:List Nat}{K:St->Prop}{K':aU->Heap->Prop}(hK:To s0 tA K K'):∀{m:Nat}{l:List Bool}{s:St}{ρ:List Nat}{A:aU}{h:Heap}{S:ke}{T:List (Nat×Ht)},Inv s ρ h->Rel ρ s.m s.E A->Nx s0 tA s ρ->Hc P s ρ S T->vt P n ops K m l s T->jB P n ops K' m l A h S
 |0,l,s,ρ,A,h,S,T,I,R,N,G,H=>by
  simp only[vt]at H
  simp only[jB]
  cases hr:bA ops 0 l with
  |nil=>rw[hr]at H;exact hK s ρ A h I R N H
  |cons a b=>rw[hr]at H;exact H.elim
 |m+1,l,s,ρ,A,h,S,T,I,R,N,G,H=>by
  simp only[vt]at H
  simp only[jB]
  cases hq:cV (bA ops 0 l)with
  |some q=>
   obtain⟨i,o⟩:=q
   rw[hq]at H
   simp only at H⊢
   have hqu:=qA hq
   have st:=EW hqu (xC I R H)
   rw[rN]
   cases hp:vg o.op with
   |true=>
    refine nn st fun v h' ⟨hh,hY,s',x,iY,a1,a2,a3,a4,a5,a6,a7⟩=> ?_
    rw[gP]
    obtain⟨b1,b2,b3,b4,b5⟩:=sf (n:=n) (dst:=o.dst) a1 a2 a3 a4 a5
    cases RP:oM (rZ s.md s'.md) T with
    |true=>
     simp only[RP,hp]at a7
     exact oQ hK b1 b2 ((N.trans a6).trans (fE b3 b4 b5)) ((G.step a6 RP).eq b3 b4 b5) a7
    |false=>simp only[RP]at a7
   |false=>
    have hR:zP o.op=true:=by rw[hp,Bool.false_or]at hqu;exact hqu
    refine nn st fun v h' ⟨hh,hY,s',x,iY,a1,a2,a3,a4,a5,a6,a7⟩=> ?_
    rw[gP]
    obtain⟨b1,b2,b3,b4,b5⟩:=sf (n:=n) (dst:=o.dst) a1 a2 a3 a4 a5
    cases RP:oM (rZ s.md s'.md) T with
    |true=>
     simp only[RP,hp]at a7
     have abU:=RO (P:=P) (ops:=ops) (x:=x) a1 a2 hR a3 (by rw[hh];exact hY)
     exact oQ hK b1 b2 ((N.trans a6).trans (fE b3 b4 b5)) ((Hc.cons abU (G.step a6 RP)).eq b3 b4 b5) a7
    |false=>simp only[RP]at a7
  |none=>
   rw[hq]at H
   simp only at H⊢
   cases hr:bA ops 0 l with
   |nil=>rw[hr]at H;exact hK s ρ A h I R N H
   |cons a b=>
    rw[hr]at H
    simp only at H⊢
    refine AZ (fun i o H=> ?_) H
    rw[rN]
    refine nn (xC I R H) fun v h' ⟨s',x,iY,a1,a2,a3,a4,a5,a6,a7⟩=> ?_
    rw[gP]
    have G2:=G.keep (bf:=vh ops o)
    generalize AP (vh ops o) T=T2 at G2 a7
    unfold lq
    generalize qx (vh ops o) S=S2 at G2⊢
    cases T2 with
    |nil=>
     cases G2
     obtain⟨b1,b2,b3,b4,b5⟩:=sf (n:=n) (dst:=o.dst) a1 a2 a3 a4 a5
     exact oQ hK b1 b2 ((N.trans a6).trans (fE b3 b4 b5)) .nil a7
    |cons e T3=>
     simp only at a7
     split at a7
     ·rename_i RP
      obtain⟨s2,C,hE,hL,hm,jL,a8⟩:=iH a1 a7
      have R2:Rel iY s2.m s2.E A:=by rw[hE,hm];exact a2
      have N2:=fE (ρ:=iY) hm hL jL
      have G3:=(G2.step a6 RP).eq hm hL jL
      obtain⟨b1,b2,b3,b4,b5⟩:=sf (n:=n) (dst:=o.dst) C.inv R2 a3 (by rw[hm];exact a4) a5
      rw[C.h]at a8
      exact G3.tell C.inv a8 fun a9=>oQ hK b1 b2 (((N.trans a6).trans N2).trans (fE b3 b4 b5)) (G3.eq b3 b4 b5) a9
     ·exact a7.elim
theorem VZ{P:Program}{n:Nat}{ops:List Oper}{draw:Bool}{s0:St}{tA:List Nat}{K:St->Prop}{K':aU->Heap->Prop}(hK:To s0 tA K K'){s:St}{ρ:List Nat}{A:aU}{h:Heap}(I:Inv s ρ h)(R:Rel ρ s.m s.E A)(N:Nx s0 tA s ρ)(H:VR P n ops draw s K):MZ P n ops draw A h K':=by
 unfold VR at H
 unfold MZ
 cases draw with
 |false=>exact NN hK I R N H
 |true=>
  simp only at H⊢
  cases hp:fq ops ops 0 with
  |true=>rw[hp]at H;exact oQ hK I R N .nil H
  |false=>rw[hp]at H;exact H.elim
def NQ:(sig:List Sh)->Ei sig->List Lf->(Heap->Prop)->Prop
 |[],J,[],J0=>J=J0
 | .i k::r,J,.i k' x::vs,J0=>k=k'/\NQ r (J x) vs J0
 | .b::r,J,.b x none::vs,J0=>NQ r (J x) vs J0
 | .s::r,J,.s x::vs,J0=>NQ r (J x) vs J0
 | .sl::r,J,.sl x::vs,J0=>NQ r (J x) vs J0
 | .r::r,J,.r x::vs,J0=>NQ r (J x) vs J0
 | .q e::r,J,.q x e'::vs,J0=>e=e'/\NQ r (J x) vs J0
 | .m::r,J,.m x::vs,J0=>NQ r (J x) vs J0
 | .n::r,J,.q (some ⟨b,0,none⟩) 0::vs,J0=>NQ r (J b) vs J0
 |_,_,_,_=>False
theorem JZ{x:Lf}{b:Nat}(h:HG x=some b)(ρ:List Nat):x.v ρ=VP b 0:=by
 unfold HG at h
 split at h
 ·have h:=Option.some.inj h
  subst h
  rfl
 ·cases h
theorem kk:∀{sig:List Sh}{J:Ei sig}{Q:List Lf->(Heap->Prop)->Prop}{xs:List Lf}{J0:Heap->Prop},vN sig J Q->NQ sig J xs J0->Q xs J0
 |[],J,Q,[],J0,h,ha=>by
  have ha:J=J0:=ha
  subst ha
  exact h
 | .i k::r,J,Q,.i k' x::xs,J0,h,ha=>by
   obtain⟨rfl,ha⟩:=ha
   exact kk (sig:=r) (J:=J x) (Q:=fun vs J'=>Q (.i k x::vs) J') (h x) ha
 | .b::r,J,Q,.b x none::xs,J0,h,ha=>kk (sig:=r) (J:=J x) (Q:=fun vs J'=>Q (.b x none::vs) J') (h x) ha
 | .s::r,J,Q,.s x::xs,J0,h,ha=>kk (sig:=r) (J:=J x) (Q:=fun vs J'=>Q (.s x::vs) J') (h x) ha
 | .sl::r,J,Q,.sl x::xs,J0,h,ha=>kk (sig:=r) (J:=J x) (Q:=fun vs J'=>Q (.sl x::vs) J') (h x) ha
 | .r::r,J,Q,.r x::xs,J0,h,ha=>kk (sig:=r) (J:=J x) (Q:=fun vs J'=>Q (.r x::vs) J') (h x) ha
 | .q e::r,J,Q,.q x e'::xs,J0,h,ha=>by
   obtain⟨rfl,ha⟩:=ha
   exact kk (sig:=r) (J:=J x) (Q:=fun vs J'=>Q (.q x e::vs) J') (h x) ha
 | .m::r,J,Q,.m x::xs,J0,h,ha=>kk (sig:=r) (J:=J x) (Q:=fun vs J'=>Q (.m x::vs) J') (h x) ha
 | .n::r,J,Q,.q (some ⟨b,0,none⟩) 0::xs,J0,h,ha=>kk (sig:=r) (J:=J b) (Q:=fun vs J'=>Q (.q (some ⟨b,0,none⟩) 0::vs) J') (h b) ha
theorem km{ρ:List Nat}{h:Heap}:∀{sig:List Sh}{J:Ei sig}{vs:List Lf},qQ ρ sig J vs h->∃xs J0,NQ sig J xs J0/\J0 h/\(∀m,bT m xs=true)/\cD xs/\dA ρ xs=dA ρ vs
 |[],J,[],hj=>⟨[],J,rfl,hj,fun _=>rfl,trivial,rfl⟩
 | .i k::r,J,.i k' x::vs,hj=>by
   simp only[qQ]at hj
   split at hj
   ·rename_i hk
    obtain rfl:=of_decide_eq_true hk
    obtain⟨xs,J0,h1,h2,h3,h4,h5⟩:=km hj
    exact⟨.i k x::xs,J0,⟨rfl,h1⟩,h2,fun m=>by simp[bT,Lf.ok,h3 m],⟨trivial,h4⟩,by simp only[dA,h5]⟩
   ·exact hj.elim
 | .b::r,J,.b x kn::vs,hj=>by
   obtain⟨xs,J0,h1,h2,h3,h4,h5⟩:=km (sig:=r) (J:=J x) (vs:=vs) hj
   exact⟨.b x none::xs,J0,h1,h2,fun m=>by simp[bT,Lf.ok,h3 m],⟨trivial,h4⟩,by simp only[dA,h5];rfl⟩
 | .s::r,J,.s x::vs,hj=>by
   obtain⟨xs,J0,h1,h2,h3,h4,h5⟩:=km (sig:=r) (J:=J x) (vs:=vs) hj
   exact⟨.s x::xs,J0,h1,h2,fun m=>by simp[bT,Lf.ok,h3 m],⟨trivial,h4⟩,by simp only[dA,h5]⟩
 | .sl::r,J,.sl x::vs,hj=>by
   obtain⟨xs,J0,h1,h2,h3,h4,h5⟩:=km (sig:=r) (J:=J x) (vs:=vs) hj
   exact⟨.sl x::xs,J0,h1,h2,fun m=>by simp[bT,Lf.ok,h3 m],⟨trivial,h4⟩,by simp only[dA,h5]⟩
 | .r::r,J,x::vs,hj=>by
   obtain⟨xs,J0,h1,h2,h3,h4,h5⟩:=km (sig:=r) (J:=J (x.v ρ)) (vs:=vs) (by cases x<;>exact hj)
   exact⟨.r (x.v ρ)::xs,J0,h1,h2,fun m=>by simp[bT,Lf.ok,h3 m],⟨trivial,h4⟩,by simp only[dA,h5];rfl⟩
 | .q e::r,J,.q x e'::vs,hj=>by
   obtain⟨xs,J0,h1,h2,h3,h4,h5⟩:=km (sig:=r) (J:=J x) (vs:=vs) hj
   exact⟨.q x e::xs,J0,⟨rfl,h1⟩,h2,fun m=>by simp[bT,Lf.ok,h3 m],⟨trivial,h4⟩,by simp only[dA,h5];rfl⟩
 | .m::r,J,.m x::vs,hj=>by
   obtain⟨xs,J0,h1,h2,h3,h4,h5⟩:=km (sig:=r) (J:=J x) (vs:=vs) hj
   exact⟨.m x::xs,J0,h1,h2,fun m=>by simp[bT,Lf.ok,h3 m],⟨trivial,h4⟩,by simp only[dA,h5]⟩
 | .n::r,J,x::vs,hj=>by
   have hj:(match HG x with|some b=>qQ ρ r (J b) vs h|none=>False):=by cases x<;>exact hj
   cases hb:HG x with
   |none=>rw[hb]at hj;exact hj.elim
   |some b=>
    rw[hb]at hj
    obtain⟨xs,J0,h1,h2,h3,h4,h5⟩:=km (sig:=r) (J:=J b) (vs:=vs) hj
    exact⟨.q (some ⟨b,0,none⟩) 0::xs,J0,h1,h2,fun m=>by simp[bT,Lf.ok,h3 m],⟨trivial,h4⟩,by simp only[dA,h5,JZ hb];rfl⟩
theorem np:∀{ss:List Sh}{vs:List Lf}{K:List Lf->List Lf->Prop},vu ss vs K->K (vs.take ss.length) (vs.drop ss.length)
 |[],vs,K,h=>by simpa[vu]using h
 |s::ss,x::vs,K,h=>by
  simp only[vu]at h
  have:=np h
  simpa using this
 |s::ss,[],K,h=>by simp[vu]at h
def Ls:As->List Lf->Av
 | .l _,x::_=> .l x
 | .l _,[]=> .l .u
 | .a ss,vs=> .a (vs.take ss.length)
theorem HQ{sh:As}{vs:List Lf}{K:Av->List Lf->Prop}(h:UW sh vs K):K (Ls sh vs) (vs.drop (UU sh).length):=by
 cases sh with
 |l x=>
  cases vs with
  |nil=>exact h.elim
  |cons y vs=>exact h
 |a ss=>
  have:=np h
  exact this
def eI(n:Nat):List It->List Lf->List (Nat×Option Tv)->List (Nat×Option Tv)
 |[],_,E=>E
 |x::r,vs,E=>eI n r (vs.drop (UU x.sh).length) (HH n E x.t (some (.v (Ls x.sh vs))))
theorem A4{n:Nat}:∀{oN:List It}{vs:List Lf}{E:List (Nat×Option Tv)}{K:List Lf->List (Nat×Option Tv)->Prop},VT n oN vs E K->K (vs.drop (qf oN).length) (eI n oN vs E)
 |[],vs,E,K,h=>h
 |x::r,vs,E,K,h=>by
  have:=A4 (HQ h)
  simp only[qf,List.length_append]
  rw[<-List.drop_drop]
  exact this
def l2(ch:List Nat):List (Nat×List Lf)->List Lf->List (Nat×List Lf)
 |[],_=>[]
 |(i,xs)::L,vs=>match eN ch i with
  |true=>(i,vs.take (oL xs).length)::l2 ch L (vs.drop (oL xs).length)
  |false=>(i,xs)::l2 ch L vs
theorem tS{ch:List Nat}:∀{L:List (Nat×List Lf)}{vs:List Lf}{K:List (Nat×List Lf)->List Lf->Prop},Nw ch L vs K->K (l2 ch L vs) (vs.drop (zZ ch L).length)
 |[],vs,K,h=>h
 |(i,xs)::L,vs,K,h=>by
  unfold Nw at h
  unfold l2 zZ
  cases hi:eN ch i with
  |true=>
   rw[hi]at h
   have:=tS (np h)
   simp only[List.length_append]
   rw[<-List.drop_drop]
   exact this
  |false=>rw[hi]at h;exact tS h
theorem xD(ρ:List Nat)(xs:List Lf)(n:Nat):dA ρ (xs.take n)=(dA ρ xs).take n:=by rw[eJ,eJ,List.map_take]
theorem mr(ρ:List Nat)(xs:List Lf)(n:Nat):dA ρ (xs.drop n)=(dA ρ xs).drop n:=by rw[eJ,eJ,List.map_drop]
theorem ji(ρ:List Nat)(xs ys:List Lf):dA ρ (xs++ys)=dA ρ xs++dA ρ ys:=by rw[eJ,eJ,eJ,List.map_append]
theorem fK(ρ:List Nat)(xs:List Lf):(dA ρ xs).length=xs.length:=by rw[eJ,List.length_map]
theorem ko:∀xs:List Lf,(oL xs).length=xs.length
 |[]=>rfl
 |_::xs=>by simp[oL,ko xs]
theorem Ci:∀ss:List Sh,EQ.zW ss=ss.length
 |[]=>rfl
 |_::ss=>by simp[EQ.zW,Ci ss]
def avV:As->List Value->Value
 | .l _,v::_=>v
 | .l _,[]=>undef
 | .a ss,vs=> .agg (vs.take ss.length).toArray
theorem Wa(ρ:List Nat)(sh:As)(xs:List Lf):(Ls sh xs).v ρ=avV sh (dA ρ xs):=by
 cases sh with
 |l x=>cases xs<;>rfl
 |a ss=>simp only[Ls,avV,Av.v,xD]
theorem RQ{m:Nat}{sh:As}{xs:List Lf}(h:bT m xs=true)(hf:cD xs):(Ls sh xs).ok m=true/\(Ls sh xs).fact:=by
 cases sh with
 |l x=>
  cases xs with
  |nil=>exact⟨rfl,trivial⟩
  |cons y ys=>
   simp only[bT,Bool.and_eq_true]at h
   exact⟨h.1,hf.1⟩
 |a ss=>exact⟨cP.2 fun x hx=>cP.1 h x (List.mem_of_mem_take hx),bU.2 fun x hx=>bU.1 hf x (List.mem_of_mem_take hx)⟩
def RR:List It->List Value->List Value
 |[],_=>[]
 |x::r,vs=>avV x.sh vs::RR r (vs.drop (UU x.sh).length)
def tT(n:Nat)(j:Nat->Value):List Nat->aU->aU
 |[],A=>A
 |t::ts,A=>tT n j ts (wX n A (some t) (j t))
def nR(n:Nat):List Nat->List Value->aU->aU
 |[],_,A=>A
 |_::_,[],A=>A
 |t::ts,v::vs,A=>nR n ts vs (wX n A (some t) v)
theorem xE{α:Sort _}{n:Nat}{j:Nat->Value}{k:aU->α}:∀(L:List Nat)(A:aU),qM n j L A k=k (tT n j L A)
 |[],A=>rfl
 |t::ts,A=>by simp only[qM,tT,gP];exact xE ts _
theorem Cj{α:Sort _}{n:Nat}{k:aU->α}:∀(L:List Nat)(vs:List Value)(A:aU),rQ n L vs A k=k (nR n L vs A)
 |[],_,A=>rfl
 |_::_,[],A=>rfl
 |t::ts,v::vs,A=>by simp only[rQ,nR,gP];exact Cj ts vs _
theorem xF{ρ:List Nat}{m n:Nat}{E:List (Nat×Option Tv)}{A:aU}(R:Rel ρ m E A){t:Nat}{x:Option Tv}{v:Value}(hx:∀y,x=some y->y.ok m=true/\y.fact/\v=y.val ρ):Rel ρ m (HH n E t x) (wX n A (some t) v):=by
 unfold HH wX
 simp only
 cases hb:Nat.blt t n with
 |false=>exact R
 |true=>
  refine⟨fun t' y hy=> ?_⟩
  simp only[qe]at hy
  simp only[lR]
  cases hd:Nat.beq t t' with
  |true=>rw[hd]at hy;exact hx y hy
  |false=>rw[hd]at hy;exact R.get t' y hy
theorem A5{ρ:List Nat}{m n:Nat}{j:Nat->Value}:∀{ts:List Nat}{E:List (Nat×Option Tv)}{A:aU},Rel ρ m E A->Rel ρ m (EP n ts E) (tT n j ts A)
 |[],E,A,R=>R
 |t::ts,E,A,R=>by
  simp only[EP,tT]
  exact A5 (xF R fun y hy=>by cases hy)
theorem NR{ρ:List Nat}{m n:Nat}:∀{oN:List It}{xs:List Lf}{E:List (Nat×Option Tv)}{A:aU},Rel ρ m E A->bT m xs=true->cD xs->Rel ρ m (eI n oN xs E) (nR n (mq oN) (RR oN (dA ρ xs)) A)
 |[],xs,E,A,R,_,_=>R
 |x::r,xs,E,A,R,ho,hf=>by
  simp only[eI,mq,RR,nR]
  rw[<-mr]
  obtain⟨h1,h2⟩:=RQ (sh:=x.sh) ho hf
  refine NR (xF R fun y hy=> ?_) (cP.2 fun z hz=>cP.1 ho z (List.mem_of_mem_drop hz)) (bU.2 fun z hz=>bU.1 hf z (List.mem_of_mem_drop hz))
  have hy:=Option.some.inj hy
  subst hy
  exact⟨h1,h2,(Wa ρ x.sh xs).symm⟩
theorem tU{ρ:List Nat}{m:Nat}{E:List (Nat×Option Tv)}{A:aU}(R:Rel ρ m E A):∀{oN:List It}{K:List Lf->Prop},EQ E oN K->∃vs,K vs/\vs.length=(qf oN).length/\∀rest,dH A (mq oN)=RR oN (dA ρ (vs++rest))
 |[],K,h=>⟨[],h,rfl,fun _=>rfl⟩
 |x::r,K,h=>by
  unfold EQ at h
  split at h
  ·rename_i y sh hy hs
   obtain⟨vs,h1,h2,h3⟩:=tU R h
   refine⟨y::vs,h1,by simp[qf,hs,UU,h2,Nat.add_comm],fun rest=> ?_⟩
   simp only[mq,dH,RR,hs,avV,UU,List.cons_append,dA]
   rw[(R.get _ _ hy).2.2,h3 rest]
   rfl
  ·rename_i ys ss hy hs
   split at h
   ·rename_i hn
    have hl:ys.length=ss.length:=by rw[<-kh,<-Ci];exact Nat.eq_of_beq_eq_true hn
    obtain⟨vs,h1,h2,h3⟩:=tU R h
    refine⟨ys++vs,h1,by simp[qf,hs,UU,h2,hl],fun rest=> ?_⟩
    simp only[mq,dH,RR,hs,avV,UU]
    rw[(R.get _ _ hy).2.2,h3 rest,List.append_assoc,ji ρ ys (vs++rest)]
    rw[List.take_left' (by rw[fK,hl]),List.drop_left' (by rw[fK,hl])]
    rfl
   ·exact h.elim
  ·exact h.elim
theorem Ck{ch:List Nat}(ρ:List Nat):∀(L:List (Nat×List Lf))(xs:List Lf),(kg ρ (l2 ch L xs)).map (·.1)=(kg ρ L).map (·.1)
 |[],_=>rfl
 |(i,ys)::L,xs=>by
  unfold l2
  cases eN ch i with
  |true=>simp only[kg,List.map_cons];rw[Ck ρ L]
  |false=>simp only[kg,List.map_cons];rw[Ck ρ L]
theorem E0{ch:List Nat}{m:Nat}:∀{L:List (Nat×List Lf)}{xs:List Lf},rG m L=true->oK L->bT m xs=true->cD xs->rG m (l2 ch L xs)=true/\oK (l2 ch L xs)
 |[],_,_,_,_,_=>⟨rfl,trivial⟩
 |(i,ys)::L,xs,h1,h2,h3,h4=>by
  simp only[rG,Bool.and_eq_true]at h1
  unfold l2
  cases eN ch i with
  |true=>
   obtain⟨a,b⟩:=E0 (ch:=ch) h1.2 h2.2 (cP.2 fun z hz=>cP.1 h3 z (List.mem_of_mem_drop (i:=(oL ys).length) hz)) (bU.2 fun z hz=>bU.1 h4 z (List.mem_of_mem_drop (i:=(oL ys).length) hz))
   refine⟨?_,bU.2 fun z hz=>bU.1 h4 z (List.mem_of_mem_take hz),b⟩
   simp only[rG,Bool.and_eq_true]
   exact⟨⟨h1.1.1,cP.2 fun z hz=>cP.1 h3 z (List.mem_of_mem_take hz)⟩,a⟩
  |false=>
   obtain⟨a,b⟩:=E0 (ch:=ch) h1.2 h2.2 h3 h4
   exact⟨by simp[rG,h1.1.1,h1.1.2,a],h2.1,b⟩
theorem Cm{ch:List Nat}:∀{L:List (Nat×List Lf)}{xs:List Lf}{id:Nat},eN ch id=false->cE (l2 ch L xs) id=cE L id
 |[],_,_,_=>rfl
 |(i,ys)::L,xs,id,h=>by
  unfold l2
  cases hi:eN ch i with
  |true=>
   simp only[cE]
   cases hb:Nat.beq i id with
   |true=>have:=Nat.eq_of_beq_eq_true hb;subst this;rw[hi]at h;cases h
   |false=>exact Cm h
  |false=>
   simp only[cE]
   cases Nat.beq i id with
   |true=>rfl
   |false=>exact Cm h
theorem tV{ρ:List Nat}{ch:List Nat}{L':List (Nat×List Lf)}:∀{L0:List (Nat×List Lf)}{K:List Lf->Prop},Ny L' ch L0 K->∃vs,K vs/\vs.length=(zZ ch L0).length/\∀xs tl,dA ρ xs=dA ρ vs++tl->∀p,p∈l2 ch L0 xs->(eN ch p.1=true/\∃cs,cE L' p.1=some cs/\dA ρ p.2=dA ρ cs)\/(eN ch p.1=false/\p∈L0)
 |[],K,h=>⟨[],h,rfl,fun xs _ _ p hp=>by simp[l2]at hp⟩
 |(i,ys)::L0,K,h=>by
  unfold Ny at h
  unfold zZ
  cases hi:eN ch i with
  |true=>
   rw[hi]at h
   simp only at h
   split at h
   ·rename_i cs GZ
    split at h
    ·rename_i hn
     have hl:cs.length=ys.length:=by rw[<-kh,<-kh];exact Nat.eq_of_beq_eq_true hn
     obtain⟨vs,h1,h2,h3⟩:=tV (ρ:=ρ) h
     refine⟨cs++vs,h1,by simp only[List.length_append,ko];omega,fun xs tl hxs p hp=> ?_⟩
     unfold l2 at hp
     rw[hi]at hp
     rw[ji,List.append_assoc]at hxs
     rcases List.mem_cons.1 hp with rfl|hp
     ·refine .inl ⟨hi,cs,GZ,?_⟩
      simp only
      rw[xD,hxs,ko,List.take_left' (by rw[fK,hl])]
     ·rcases h3 (xs.drop (oL ys).length) tl (by rw[mr,hxs,ko,List.drop_left' (by rw[fK,hl])]) p hp with h3|h3
      ·exact .inl h3
      ·exact .inr ⟨h3.1,List.mem_cons_of_mem _ h3.2⟩
    ·exact h.elim
   ·exact h.elim
  |false=>
   rw[hi]at h
   obtain⟨vs,h1,h2,h3⟩:=tV (ρ:=ρ) h
   refine⟨vs,h1,h2,fun xs tl hxs p hp=> ?_⟩
   unfold l2 at hp
   rw[hi]at hp
   rcases List.mem_cons.1 hp with rfl|hp
   ·exact .inr ⟨hi,by simp⟩
   ·rcases h3 xs tl hxs p hp with h3|h3
    ·exact .inl h3
    ·exact .inr ⟨h3.1,List.mem_cons_of_mem _ h3.2⟩
theorem Vars.sub{h h0:Heap}{VL:List (Nat×List Value)}(H:Vars h VL):∀{V0 VQ:List (Nat×List Value)},Vars h0 V0->VQ.map (·.1)=V0.map (·.1)->(∀q,q∈VQ->q∈VL)->Vars h VQ
 |[],[],_,_,_=> .nil
 |(b,cs)::V0,(b',lS)::VQ,.cons hv hn hl,hk,hm=>by
  simp only[List.map_cons,List.cons.injEq]at hk
  obtain⟨rfl,hk⟩:=hk
  refine .cons (H.mem _ (hm (b',lS) (by simp))) (fun p hp e=> ?_) (H.sub hl hk fun q hq=>hm q (by simp[hq]))
  have:p.1∈V0.map (·.1):=by rw[<-hk];exact List.mem_map.2 ⟨p,hp,rfl⟩
  obtain⟨q,hq,hqe⟩:=List.mem_map.1 this
  exact hn q hq (hqe.trans e)
 |[],_::_,_,hk,_=>by simp at hk
 |_::_,[],_,hk,_=>by simp at hk
theorem kp{ρ:List Nat}:∀{L:List (Nat×List Lf)}{q:Nat×List Value},q∈kg ρ L↔∃p,p∈L/\q=(eW ρ p.1,dA ρ p.2)
 |[],q=>by simp[kg]
 |(i,xs)::L,q=>by
  simp only[kg,List.mem_cons,kp (L:=L)]
  constructor
  ·rintro(rfl|⟨p,h1,h2⟩)
   ·exact⟨(i,xs),.inl rfl,rfl⟩
   ·exact⟨p,.inr h1,h2⟩
  ·rintro⟨p,(rfl|h1),h2⟩
   ·exact .inl h2
   ·exact .inr ⟨p,h1,h2⟩
theorem kB:∀{L:List (Nat×List Lf)}{id:Nat}{cs:List Lf},cE L id=some cs->(id,cs)∈L
 |[],id,cs,h=>by simp[cE]at h
 |(i,xs)::L,id,cs,h=>by
  unfold cE at h
  cases hb:Nat.beq i id with
  |true=>
   rw[hb]at h
   have:=Nat.eq_of_beq_eq_true hb
   subst this
   have h:=Option.some.inj h
   subst h
   simp
  |false=>rw[hb]at h;exact List.mem_cons_of_mem _ (kB h)
theorem nq{ρ:List Nat}{h:Heap}:∀{L:List (Nat×List Lf)}{id:Nat}{cs:List Lf},Vars h (kg ρ L)->(id,cs)∈L->cE L id=some cs
 |(i,xs)::L,id,cs,V,hm=>by
  unfold cE
  rcases List.mem_cons.1 hm with e|hm
  ·simp only[Prod.mk.injEq]at e
   obtain⟨rfl,rfl⟩:=e
   simp
  ·cases hb:Nat.beq i id with
   |true=>
    have:=Nat.eq_of_beq_eq_true hb
    subst this
    exact absurd rfl (V.ne (eW ρ i,dA ρ cs) (kp.2 ⟨(i,cs),hm,rfl⟩))
   |false=>exact nq V.tail hm
theorem qS{f:List Value->Prop}:∀{n:Nat},(∀vs,f vs)->kf n f
 |0,h=>h []
 |n+1,h=>fun v=>qS (n:=n) fun vs=>h (v::vs)
theorem xG:∀(oN:List It)(vs:List Value),(RR oN vs).length=(mq oN).length
 |[],_=>rfl
 |x::r,vs=>by simp only[RR,mq,List.length_cons,xG r]
theorem sr(A:aU):∀a b:List Nat,dH A (a++b)=dH A a++dH A b
 |[],b=>rfl
 |x::a,b=>by simp only[List.cons_append,dH,sr A a b]
theorem A6{n:Nat}:∀{a:List Nat}{va:List Value}{b:List Nat}{vb:List Value}{A:aU},va.length=a.length->nR n (a++b) (va++vb) A=nR n b vb (nR n a va A)
 |[],[],b,vb,A,_=>rfl
 |t::a,v::va,b,vb,A,h=>by
  simp only[List.cons_append,nR]
  exact A6 (by simpa using h)
 |[],_::_,_,_,_,h=>by simp at h
 |_::_,[],_,_,_,h=>by simp at h
def Wb:List (Nat×List Sh)->List Value->List Value
 |[],_=>[]
 |(_,ss)::r,v::vs=>v::Wb r (vs.drop ss.length)
 |_::r,[]=>undef::Wb r []
def Wc:Value->Nat
 | .pointer (some a)=>a.block
 |_=>0
def vx:List (Nat×List Sh)->List Value->List (Nat×List Value)->List (Nat×List Value)
 |[],_,V=>V
 |(_,ss)::r,v::vs,V=>vx r (vs.drop ss.length) ((Wc v,vs.take ss.length)::V)
 |_::r,[],V=>vx r [] V
theorem A7{ρ:List Nat}{h:Heap}:∀{L:List (Nat×List Lf)}{i j:Nat}{c d:List Lf},Vars h (kg ρ L)->(i,c)∈L->(j,d)∈L->i≠j->eW ρ i≠eW ρ j
 |(k,xs)::L,i,j,c,d,V,hi,hj,eA=>by
  rcases List.mem_cons.1 hi with e1|hi
  ·rcases List.mem_cons.1 hj with e2|hj
   ·simp only[Prod.mk.injEq]at e1 e2
    exact absurd (e1.1.trans e2.1.symm) eA
   ·simp only[Prod.mk.injEq]at e1
    have:=V.ne (eW ρ j,dA ρ d) (kp.2 ⟨(j,d),hj,rfl⟩)
    rw[e1.1]
    exact fun e=>this e.symm
  ·rcases List.mem_cons.1 hj with e2|hj
   ·simp only[Prod.mk.injEq]at e2
    have:=V.ne (eW ρ i,dA ρ c) (kp.2 ⟨(i,c),hi,rfl⟩)
    rw[e2.1]
    exact this
   ·exact A7 V.tail hi hj eA
theorem A8{m0:Nat}{s:St}{ρ:List Nat}{h:Heap}{A:aU}(hr:s.ρ=ρ)(I:Vars h (kg ρ s.L))(R:Rel ρ s.m s.E A):∀{nv:List (Nat×List Sh)}{ids:List Nat}{K:List Lf->Prop},RF m0 s ids nv K->
 ∃vs,K vs/\dH A (lU nv)=Wb nv (dA ρ vs)/\∀V,Vars h V->(∀q,q∈V->∃p,p∈s.L/\(p.1<m0\/eN ids p.1=true)/\q=(eW ρ p.1,dA ρ p.2))->Vars h (vx nv (dA ρ vs) V)
 |[],ids,K,H=>⟨[],H,rfl,fun V hV _=>hV⟩
 |(t,ss)::r,ids,K,H=>by
  unfold RF at H
  split at H
  ·rename_i id hid
   split at H
   ·rename_i h1 h2
    split at H
    ·rename_i cs GZ
     split at H
     ·rename_i hn
      have hl:cs.length=ss.length:=by rw[<-kh,<-Ci];exact Nat.eq_of_beq_eq_true hn
      obtain⟨vs,k1,k2,k3⟩:=A8 hr I R H
      refine⟨_,k1,?_,fun V hV hq=> ?_⟩
      ·simp only[lU,dH,dA,Wb,ji]
       rw[k2,List.drop_left' (by rw[fK,hl]),(R.get _ _ hid).2.2,hr]
       rfl
      ·simp only[dA,vx,ji]
       rw[List.drop_left' (by rw[fK,hl]),List.take_left' (by rw[fK,hl])]
       have hm:=kB GZ
       have hb:Wc ((Lf.q (some ⟨eW s.ρ id,0,none⟩) 0).v ρ)=eW ρ id:=by rw[hr];rfl
       rw[hb]
       refine k3 _ (.cons (I.mem _ (kp.2 ⟨(id,cs),hm,rfl⟩)) (fun q hqV e=> ?_) hV) fun q hqV=> ?_
       ·obtain⟨p,p1,p2,p3⟩:=hq q hqV
        have eA:p.1≠id:=fun e=>by
         subst e
         rcases p2 with p2|p2
         ·rw[<-Nat.blt_eq]at p2;rw[h1]at p2;cases p2
         ·rw[h2]at p2;cases p2
        rw[p3]at e
        exact A7 I p1 hm eA e
       ·rcases List.mem_cons.1 hqV with rfl|hqV
        ·exact⟨(id,cs),hm,.inr (by simp[eN]),rfl⟩
        ·obtain⟨p,p1,p2,p3⟩:=hq q hqV
         refine⟨p,p1,?_,p3⟩
         rcases p2 with p2|p2
         ·exact .inl p2
         ·exact .inr (by simp[eN,p2])
     ·exact H.elim
    ·exact H.elim
   ·exact H.elim
  ·exact H.elim
def JV(a:An)(s:St)(ρ:List Nat)(J:Ei (Nz a s.L))(vs:List Value)(h:Heap):Prop:=
 ∃xs J0,NQ _ J xs J0/\J0 h/\(∀m,bT m xs=true)/\cD xs/\vs=RR a.oN (dA ρ xs)++Wb a.nv (dA ρ ((xs.drop (qf a.oN).length).drop (zZ a.ch s.L).length))/\
  Vars h (vx a.nv (dA ρ ((xs.drop (qf a.oN).length).drop (zZ a.ch s.L).length)) (kg ρ (l2 a.ch s.L (xs.drop (qf a.oN).length))))
theorem xH{m:Nat}{ch:List Nat}:∀{l:List Nat},JQ m ch l=true->∀i,i<m->eN ch i=false->eN l i=false
 |[],_,_,_,_=>rfl
 |j::l,h,i,hi,hc=>by
  simp only[JQ,Bool.and_eq_true,Bool.or_eq_true,Bool.not_eq_true']at h
  simp only[eN,Bool.or_eq_false_iff]
  refine⟨?_,xH h.2 i hi hc⟩
  cases hb:Nat.beq j i with
  |false=>rfl
  |true=>
   have:=Nat.eq_of_beq_eq_true hb
   subst this
   rcases h.1 with h1|h1
   ·rw[h1]at hc;cases hc
   ·rw[<-Nat.blt_eq]at hi;rw[h1]at hi;cases hi
theorem Cn{m:Nat}:∀{L:List (Nat×List Lf)},rG m L=true->∀p,p∈L->p.1<m/\bT m p.2=true
 |[],_,p,hp=>by simp at hp
 |(i,ys)::L,hL,p,hp=>by
  simp only[rG,Bool.and_eq_true]at hL
  rcases List.mem_cons.1 hp with rfl|hp
  ·exact⟨fe.1 hL.1.1,hL.1.2⟩
  ·exact Cn hL.2 p hp
theorem iL{m n:Nat}{xs:List Lf}(h:bT m xs=true):bT m (xs.drop n)=true:=cP.2 fun z hz=>cP.1 h z (List.mem_of_mem_drop hz)
theorem jk{n:Nat}{xs:List Lf}(h:cD xs):cD (xs.drop n):=bU.2 fun z hz=>bU.1 h z (List.mem_of_mem_drop hz)
theorem Co{a:An}{s:St}{ρ:List Nat}{h:Heap}(C:Cl s ρ h){J:Ei (Nz a s.L)}{s':St}{iY:List Nat}{A:aU}{h':Heap}(I':Inv s' iY h')(R':Rel iY s'.m s'.E A)(N:Nx s ρ s' iY)
 (H:act a s s' fun vs=>qQ s'.ρ _ J vs s'.h) (hr:s'.ρ=iY) (hh:s'.h=h'):JV a s ρ J (dH A (mq a.oN++lU a.nv)) h':=by
 unfold act at H
 split at H
 ·rename_i ho
  obtain⟨vs1,H1,hl,hv⟩:=tU R' H
  obtain⟨vs2,H2,hl2,hp⟩:=tV (ρ:=iY) H1
  obtain⟨vs3,H3,hv3,hN⟩:=A8 hr I'.vars R' H2
  rw[hr,hh]at H3
  obtain⟨xs,J0,k1,k2,k3,k4,k5⟩:=km H3
  obtain⟨y,hy⟩:=N.r
  have same:∀zs:List Lf,(∀m,bT m zs=true)->dA iY zs=dA ρ zs:=fun zs hz=>by rw[hy];exact hH (hz _)
  have hd:dA iY (xs.drop (qf a.oN).length)=dA iY vs2++dA iY vs3:=by
   rw[mr,k5,ji,List.drop_left' (by rw[fK,hl]),ji]
  have hd3:dA ρ ((xs.drop (qf a.oN).length).drop (zZ a.ch s.L).length)=dA iY vs3:=by
   rw[<-same _ fun m=>iL (iL (k3 m)),mr,hd,List.drop_left' (by rw[fK,hl2])]
  refine⟨xs,J0,k1,k2,k3,k4,?_,?_⟩
  ·rw[sr,hv (vs2++vs3),<-k5,same _ k3,hd3,hv3]
  ·rw[hd3]
   refine hN _ ?_ ?_
   ·refine I'.vars.sub C.vars (Ck ρ s.L _) fun q hq=> ?_
    obtain⟨p,p1,p2⟩:=kp.1 hq
    have NS:=Cn (E0 (ch:=a.ch) C.tN C.wo (iL (n:=(qf a.oN).length) (k3 s.m)) (jk k4)).1 p p1
    have e1:eW ρ p.1=eW iY p.1:=by rw[hy];exact(jK _ _ _ (by rw[C.len];exact NS.1)).symm
    have e2:dA ρ p.2=dA iY p.2:=by rw[hy];exact(hH (by rw[C.len];exact NS.2)).symm
    rw[p2,e1,e2]
    rcases hp _ _ hd p p1 with⟨q1,cs,q2,q3⟩|⟨q1,q2⟩
    ·rw[q3]
     exact kp.2 ⟨(p.1,cs),kB q2,rfl⟩
    ·obtain⟨new,n1,n2⟩:=N.md
     rw[n1,tQ]at ho
     have hf:=n2 p.1 (xH ho p.1 NS.1 q1) NS.1
     rw[nq C.vars q2]at hf
     exact kp.2 ⟨(p.1,p.2),kB hf,rfl⟩
   ·intro q hq
    obtain⟨p,p1,p2⟩:=kp.1 hq
    have NS:=Cn (E0 (ch:=a.ch) C.tN C.wo (iL (n:=(qf a.oN).length) (k3 s.m)) (jk k4)).1 p p1
    have e1:eW ρ p.1=eW iY p.1:=by rw[hy];exact(jK _ _ _ (by rw[C.len];exact NS.1)).symm
    have e2:dA ρ p.2=dA iY p.2:=by rw[hy];exact(hH (by rw[C.len];exact NS.2)).symm
    rw[p2,e1,e2]
    rcases hp _ _ hd p p1 with⟨q1,cs,q2,q3⟩|⟨q1,q2⟩
    ·rw[q3]
     exact⟨(p.1,cs),kB q2,.inl NS.1,rfl⟩
    ·obtain⟨new,n1,n2⟩:=N.md
     rw[n1,tQ]at ho
     have hf:=n2 p.1 (xH ho p.1 NS.1 q1) NS.1
     rw[nq C.vars q2]at hf
     exact⟨(p.1,p.2),kB hf,.inl NS.1,rfl⟩
 ·exact H.elim
theorem J1{n:Nat}{h:Heap}:∀{nv:List (Nat×List Sh)}{vs:List Lf}{s:St}{ρ:List Nat}{A:aU}{K:St->Prop},(Vars h (kg ρ s.L)->Cl s ρ h)->Rel ρ s.m s.E A->(∀m,bT m vs=true)->cD vs->
 Vars h (vx nv (dA ρ vs) (kg ρ s.L))->RE n nv vs s K->∃s2 Hb,Cl s2 Hb h/\Rel Hb s2.m s2.E (nR n (lU nv) (Wb nv (dA ρ vs)) A)/\s.m<=s2.m/\s2.md=s.md/\(∀id,id<s.m->cE s2.L id=cE s.L id)/\(∃y,Hb=ρ++y)/\K s2
 |[],vs,s,ρ,A,K,C,R,_,_,V,H=>⟨s,ρ,C V,R,Nat.le_refl _,rfl,fun _ _=>rfl,⟨[],by simp⟩,H⟩
 |(t,ss)::r,[],s,ρ,A,K,C,R,_,_,V,H=>H.elim
 |(t,ss)::r,x::vs,s,ρ,A,K,C,R,ho,hf,V,H=>by
  unfold RE at H
  cases hb:HG x with
  |none=>rw[hb]at H;exact H.elim
  |some b=>
   rw[hb]at H
   have H:=np H
   have hx:=JZ hb ρ
   simp only[dA,vx,hx]at V
   rw[<-mr,<-xD]at V
   have hvs:∀m,bT m vs=true:=fun m=>by have:=ho m;simp only[bT,Bool.and_eq_true]at this;exact this.2
   have hV0:∀{nv:List (Nat×List Sh)}{vs:List Value}{V:List (Nat×List Value)},Vars h (vx nv vs V)->Vars h V:=by
    intro nv
    induction nv with
    |nil=>intro vs V h;exact h
    |cons p r ih=>
     intro vs V h
     cases vs with
     |nil=>exact ih h
     |cons v vs=>exact(ih h).tail
   have C0:=C (hV0 V).tail
   have ht:∀m,bT m (vs.take ss.length)=true:=fun m=>cP.2 fun z hz=>cP.1 (hvs m) z (List.mem_of_mem_take hz)
   have hl:eW (ρ++[b]) s.m=b:=by rw[<-C0.len];exact r8 ρ b []
   have eL:kg (ρ++[b]) ((s.m,vs.take ss.length)::s.L)=(Wc (VP b 0),dA ρ (vs.take ss.length))::kg ρ s.L:=by
    show(eW (ρ++[b]) s.m,dA (ρ++[b]) (vs.take ss.length))::kg (ρ++[b]) s.L=_
    rw[hl,hH (ht _),wm (by rw[C0.len];exact C0.tN)]
    rfl
   have ed:dA (ρ++[b]) (vs.drop ss.length)=dA ρ (vs.drop ss.length):=hH (iL (hvs _))
   have Rx:=R.ext (y:=[b]) (n:=s.m+1) C0.len (by omega)
   obtain⟨s2,Hb,c1,c2,c3,c4,c5,⟨y,c6⟩,c7⟩:=J1 (s:={s with E:=HH n s.E t (some (.v (.l (.p s.m 0)))),L:=(s.m,vs.take ss.length)::s.L,ρ:=s.ρ++[b],m:=s.m+1}) (ρ:=ρ++[b]) (A:=wX n A (some t) (VP b 0)) (fun W=>⟨W,by simp[C0.len],by rw[C0.r],C0.h,C0.nw,C0.so,C0.d,by
    have e1:=ht (s.m+1)
    have e2:=RH (Nat.le_succ s.m) C0.tN
    simp only[rG,Bool.and_eq_true]
    exact⟨⟨fe.2 (Nat.lt_succ_self _),e1⟩,e2⟩,⟨bU.2 fun z hz=>bU.1 hf.2 z (List.mem_of_mem_take hz),C0.wo⟩⟩)
    (xF Rx fun y hy=>by
     have hy:=Option.some.inj hy
     subst hy
     refine⟨fe.2 (Nat.lt_succ_self _),trivial,?_⟩
     show VP b 0=VP (eW (ρ++[b]) s.m) 0
     rw[hl]) (fun m=>iL (hvs m)) (jk hf.2) (by rw[eL,ed];exact V) H
   refine⟨s2,Hb,c1,?_,by have:s.m+1<=s2.m:=c3
                         omega,c4,fun id hid=> ?_,⟨b::y,by rw[c6];simp⟩,c7⟩
   ·rw[ed]at c2
    simp only[lU,dA,Wb,hx,nR]
    rw[<-mr]
    exact c2
   ·rw[c5 id (Nat.lt_succ_of_lt hid)]
    exact qR hid
theorem J2{n:Nat}{a:An}{ws:List Nat}{s:St}{ρ:List Nat}{h:Heap}(C:Cl s ρ h){A:aU}(R:Rel ρ s.m s.E A){J:Ei (Nz a s.L)}{Q:St->Prop}{vs:List Value}{h':Heap}(hj:JV a s ρ J vs h')
 (H:vN _ J fun vs J'=>∀h':Heap,J' h'->bld n a ws vs {s with h:=h'} fun s2=>Vars h' (kg s2.ρ s2.L)->Q s2) (j:Nat->Value):
 ∃s2 Hb,Inv s2 Hb h'/\Rel Hb s2.m s2.E (nR n (mq a.oN++lU a.nv) vs (tT n j ws A))/\Nx s ρ s2 Hb/\Q s2:=by
 obtain⟨xs,J0,k1,k2,k3,k4,k5,k6⟩:=hj
 have h1:=kk H k1 h' k2
 unfold bld at h1
 have h2:=tS (A4 h1)
 obtain⟨o1,o2⟩:=E0 (ch:=a.ch) C.tN C.wo (iL (n:=(qf a.oN).length) (k3 s.m)) (jk k4)
 rw[k5,A6 (xG _ _)]
 obtain⟨s2,Hb,c1,c2,c3,c4,c5,c6,c7⟩:=J1 (h:=h') (s:={s with h:=h',E:=eI n a.oN xs (EP n ws s.E),L:=l2 a.ch s.L (xs.drop (qf a.oN).length),md:=a.ch++s.md}) (ρ:=ρ) (fun V=>⟨V,C.len,C.r,rfl,C.nw,C.so,C.d,o1,o2⟩) (NR (A5 (n:=n) (j:=j) (ts:=ws) R) (k3 _) k4) (fun m=>iL (iL (k3 m))) (jk (jk k4)) k6 h2
 exact⟨s2,Hb,c1.inv,c2,⟨c3,⟨a.ch,c4,fun id hid hm=>(c5 id hm).trans (Cm hid)⟩,c6⟩,c7 (by rw[c1.r];exact c1.vars)⟩
def UZ(an:Nat->Option An)(p:Nat):Option (List Nat):=
 match an p with
 |some a=>some (mq a.oN++lU a.nv)
 |none=>none
theorem To.up{s0 s:St}{tA ρ:List Nat}{K:St->Prop}{K':aU->Heap->Prop}(N:Nx s0 tA s ρ)(h:To s0 tA K K'):To s ρ K K':=fun s' iY A h' I R N' k=>h s' iY A h' I R (N.trans N') k
theorem Wd{P:Program}{n:Nat}{an:Nat->Option An}:∀(c:Code){p:Nat}{kn:St->Prop}{kx:Nat->St->Prop}{kr:St->Prop}{pL:aU->Heap->Prop}{rL:Nat->aU->Heap->Prop}{vp:aU->Heap->Prop}{s0 s:St}{tA ρ:List Nat}{A:aU}{h:Heap},Inv s ρ h->Rel ρ s.m s.E A->Nx s0 tA s ρ->
 To s0 tA kn pL->(∀i,To s0 tA (kx i) (rL i))->To s0 tA kr vp->HI P n an c p kn kx kr s->BX P n (UZ an) c p pL rL vp A h:=by
 intro c
 induction c with
 |skip=>intro p kn kx kr pL rL vp s0 s tA ρ A h I R N tn tx tr H;exact tn s ρ A h I R N H
 |region id ops draw=>intro p kn kx kr pL rL vp s0 s tA ρ A h I R N tn tx tr H;exact VZ tn I R N H
 |seq a b Q5 Q8=>
  intro p kn kx kr pL rL vp s0 s tA ρ A h I R N tn tx tr H
  simp only[HI]at H
  simp only[BX]
  cases U0:an p with
  |none=>
   rw[U0]at H
   rw[show UZ an p=none by unfold UZ;rw[U0]]
   exact Q5 I R N (fun s' iY A' h' I' R' N' k=>Q8 I' R' N' tn tx tr k) tx tr H
  |some a'=>
   rw[U0]at H
   rw[show UZ an p=some (mq a'.oN++lU a'.nv) by unfold UZ;rw[U0]]
   simp only at H⊢
   obtain⟨s1,C,hE,hL,hm,jL,J,H1,H2⟩:=iH I H
   have R1:Rel ρ s1.m s1.E A:=by rw[hE,hm];exact R
   have N1:=N.trans (fE (ρ:=ρ) hm hL jL)
   refine⟨JV a' s1 ρ J,?_,fun tE=>qS fun vs h' hj=> ?_⟩
   ·refine Q5 C.inv R1 (Nx.refl s1 ρ) (fun s' iY A' h' I' R' N' k=> ?_) (fun i=>(tx i).up N1) (tr.up N1) H1
    obtain⟨s2,C2,hE2,bP,HA,afg,k2⟩:=iH I' k
    have R2:Rel iY s2.m s2.E A':=by rw[hE2,HA];exact R'
    exact Co C C2.inv R2 (N'.trans (fE HA bP afg)) k2 C2.r C2.h
   ·rw[xE,Cj]
    obtain⟨s2,Hb,I2,R2,N2,q⟩:=J2 C R1 hj H2 tE
    exact Q8 I2 R2 (N1.trans N2) tn tx tr q
 |cond c a b Q5 Q8=>
  intro p kn kx kr pL rL vp s0 s tA ρ A h I R N tn tx tr H
  simp only[HI]at H
  simp only[BX]
  split at H
  ·rename_i x kn0 hx
   obtain⟨b1,b2⟩:=xz I R hx H
   rw[(fw R hx).2.2]
   refine Rs (fun e=> ?_) (fun e=> ?_)
   ·obtain⟨s',I',R',hm,hL,jL,q⟩:=b1 e
    exact Q5 I' R' (N.trans (fE hm hL jL)) tn tx tr q
   ·obtain⟨s',I',R',hm,hL,jL,q⟩:=b2 e
    exact Q8 I' R' (N.trans (fE hm hL jL)) tn tx tr q
  ·exact H.elim
 |block id c ih=>
  intro p kn kx kr pL rL vp s0 s tA ρ A h I R N tn tx tr H
  simp only[HI]at H
  simp only[BX]
  refine ih I R N tn (fun i s' iY A' h' I' R' N' k=> ?_) tr H
  cases hb:Nat.beq i id with
  |true=>simp only[hb]at k⊢;exact tn s' iY A' h' I' R' N' k
  |false=>simp only[hb]at k⊢;exact tx i s' iY A' h' I' R' N' k
 |loop c ih=>
  intro p kn kx kr pL rL vp s0 s tA ρ A h I R N tn tx tr H
  simp only[HI]at H
  simp only[BX]
  cases U0:an p with
  |none=>rw[U0]at H;exact H.elim
  |some a'=>
   rw[U0]at H
   rw[show UZ an p=some (mq a'.oN++lU a'.nv) by unfold UZ;rw[U0]]
   simp only at H⊢
   obtain⟨s1,C,hE,hL,hm,jL,J,⟨n0,H1⟩,H2⟩:=iH I H
   have R1:Rel ρ s1.m s1.E A:=by rw[hE,hm];exact R
   have N1:=N.trans (fE (ρ:=ρ) hm hL jL)
   refine Hx (J:=fun n vs h'=>JV a' s1 ρ (J n) vs h') n0 (Co C C.inv R1 (Nx.refl s1 ρ) H1 C.r C.h) fun Iv μ hI tE=>qS fun vs h' hi=> ?_
   rw[xE,Cj]
   obtain⟨m0,hj,hn⟩:=hI vs h' hi
   obtain⟨s2,Hb,I2,R2,N2,q⟩:=J2 C R1 hj (H2 m0) tE
   refine ih I2 R2 N2 (fun s' iY A' lg I' R' N' k=> ?_) (fun i=>(tx i).up N1) (tr.up N1) q
   obtain⟨s3,C3,hE3,cF,hm3,afh,m,rO,k3⟩:=iH I' k
   have R3:Rel iY s3.m s3.E A':=by rw[hE3,hm3];exact R'
   exact hn _ _ ⟨m,rO,Co C C3.inv R3 (N'.trans (fE hm3 cF afh)) k3 C3.r C3.h⟩
 |exit id=>intro p kn kx kr pL rL vp s0 s tA ρ A h I R N tn tx tr H;exact tx id s ρ A h I R N H
 |ret=>intro p kn kx kr pL rL vp s0 s tA ρ A h I R N tn tx tr H;exact tr s ρ A h I R N H
 |label l=>intro p kn kx kr pL rL vp s0 s tA ρ A h I R N tn tx tr H;exact tn s ρ A h I R N H
 |_=>intro p kn kx kr pL rL vp s0 s tA ρ A h I R N tn tx tr H;exact H.elim
def We:Lf->Bool
 | .b _ (some _)=>false
 |_=>true
def E2:List Lf->Bool
 |[]=>true
 |x::xs=>We x&&E2 xs
def abY:Tv->Bool
 | .v (.l x)=>We x
 | .v (.a xs)=>E2 xs
 | .t _=>false
def J3:List Tv->Bool
 |[]=>true
 |x::xs=>abY x&&J3 xs
def nkL:List (Nat×List Lf)->Bool
 |[]=>true
 |(_,xs)::L=>E2 xs&&nkL L
theorem J4{x:Lf}(h:We x=true):x.fact:=by
 cases x<;>try trivial
 case b x kn=>cases kn with
  |none=>trivial
  |some _=>cases h
theorem xI:∀{xs:List Lf},E2 xs=true->cD xs
 |[],_=>trivial
 |x::xs,h=>by
  simp only[E2,Bool.and_eq_true]at h
  exact⟨J4 h.1,xI h.2⟩
theorem RS{x:Tv}(h:abY x=true):x.fact:=by
 cases x with
 |v x=>cases x with
  |l x=>exact J4 h
  |a xs=>exact xI h
 |t xs=>cases h
theorem NT:∀{L:List (Nat×List Lf)},nkL L=true->oK L
 |[],_=>trivial
 |(i,xs)::L,h=>by
  simp only[nkL,Bool.and_eq_true]at h
  exact⟨xI h.1,NT h.2⟩
def NU(args:List Tv)(L:List (Nat×List Lf))(ρ:List Nat):Bool:=ER (iC ρ) args&&(rG (iC ρ) L&&(J3 args&&nkL L))
theorem J5{ρ:List Nat}{m:Nat}:∀{args:List Tv}{i t:Nat}{x:Tv},ER m args=true->J3 args=true->qe (RG.NA args i) t=some x->x.ok m=true/\x.fact/\lR (rS (tM ρ args) i) t=x.val ρ
 |[],_,_,_,_,_,h=>by simp[RG.NA,qe]at h
 |y::args,i,t,x,h1,h2,h=>by
  simp only[ER,Bool.and_eq_true]at h1
  simp only[J3,Bool.and_eq_true]at h2
  simp only[RG.NA,qe]at h
  simp only[tM,rS,lR]
  cases hb:Nat.beq i t with
  |true=>
   rw[hb]at h
   have h:=Option.some.inj h
   subst h
   exact⟨h1.1,RS h2.1,rfl⟩
  |false=>rw[hb]at h;exact J5 h1.2 h2.2 h
theorem Cq{P:Program}{K:Value->Heap->Prop}:∀{rs:List ResultVar}{acc:List Tv}{s:St}{ρ:List Nat}{A:aU}{h:Heap},Inv s ρ h->Rel ρ s.m s.E A->vO P K rs acc s->BV P (lR A) h K rs (tM ρ acc)
 |[],acc,s,ρ,A,h,I,R,H=>by
  simp only[vO]at H
  obtain⟨s',C,_,_,_,_,H⟩:=iH I H
  split at H
  ·rw[C.r,C.h]at H
   exact H
  ·exact H.elim
 | .tmp t::rs,acc,s,ρ,A,h,I,R,H=>by
   simp only[vO]at H
   simp only[BV]
   split at H
   ·rename_i x hx
    have:=Cq I R H
    simp only[tM]at this
    rw[(R.get t x hx).2.2]
    exact this
   ·exact H.elim
 | .cell a t::rs,acc,s,ρ,A,h,I,R,H=>by
   simp only[vO]at H
   simp only[BV]
   split at H
   ·rename_i id off hx
    have hv:lR A a=VP (eW ρ id) off:=(fw R hx).2.2
    rw[hv]
    split at H
    ·rename_i cs hf
     obtain⟨i,hi,_⟩:=kA (ρ:=ρ) hf
     split at H
     ·rename_i h1
      split at H
      ·rename_i y hy
       have:=Cg (ρ:=ρ) hy
       exact JJ h1 I.vars i hi off (v:=y.v ρ) (by simpa using this) (Cq (acc:= .v (.l y)::acc) I R H)
      ·exact H.elim
     ·split at H
      ·rename_i n h2
       split at H
       ·rename_i ys hy
        obtain⟨e1,e2⟩:=tO (ρ:=ρ) hy
        exact EB h2 I.vars i hi off e1 e2 (Cq (acc:= .v (.a ys)::acc) I R H)
       ·exact H.elim
      ·exact H.elim
    ·exact H.elim
   ·exact H.elim
theorem Cr{P:Program}(hm:P.follows .mixedOrders=true){f:FuncId}{fn:Func}{c:Code}(hf:P.funcs[f]?=some fn)(hb:fn.body=some c)(hn:(fn.name== "runtime.NumGoroutine")=false)
 (an:Nat->Option An) {args:List Tv} {L:List (Nat×List Lf)} {ρ:List Nat} {h:Heap} {K:Value->Heap->Prop} (m n:Nat) (hk:fn.ntmps-(tM ρ args).length=m) (M5:(tM ρ args).length+m=n) (rs:List ResultVar) (hr:fn.results.toList=rs)
 (ha:NU args L ρ=true) (V:Vars h (kg ρ L))
 (H:HI P n an c 1 (fun s=>vO P K rs [] s) (fun _ _=>False) (fun s=>vO P K rs [] s) (RG args L ρ h)):aE P f (tM ρ args).toArray h K:=by
 simp only[NU,Bool.and_eq_true]at ha
 obtain⟨a1,a2,a3,a4⟩:=ha
 refine BZ hm hf hb hn (UZ an) m n hk M5 rs hr ?_
 have C:Cl (RG args L ρ h) ρ h:=⟨V,(lA ρ).symm,rfl,rfl,rfl,rfl,rfl,a2,NT a4⟩
 have R:Rel ρ (RG args L ρ h).m (RG args L ρ h).E (rS (tM ρ args) 0):=⟨fun t x hx=>J5 a1 a3 hx⟩
 have tr:To (RG args L ρ h) ρ (fun s=>vO P K rs [] s) (fun A h=>M4 P A h K rs):=fun s ρ A h I R _ k=>Cq I R k
 exact Wd c C.inv R (Nx.refl _ _) tr (fun i s ρ A h _ _ _ k=>k.elim) tr H
end Go.Mx
