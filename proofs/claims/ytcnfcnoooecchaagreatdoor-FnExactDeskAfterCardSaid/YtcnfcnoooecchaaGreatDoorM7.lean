import Derived.Test.YtcnfcnoooecchaaGreatDoorM6
set_option linter.unusedVariables false
set_option linter.unusedSimpArgs false
set_option linter.constructorNameAsVariable false
namespace Go.Mx
theorem ly:∀l:List Nat,iA l=l.length
 |[]=>rfl
 |_::l=>by simp[iA,ly l]
theorem kk:∀l:List Lf,xA l=l.length
 |[]=>rfl
 |_::l=>by simp[xA,kk l]
theorem fb{a b:Nat}:Nat.blt a b=true↔a<b:=by rw[Nat.blt_eq]
theorem jJ:∀(ρ y:List Nat)(i:Nat),i<ρ.length->eM (ρ++y) i=eM ρ i
 |[],_,_,h=>by simp at h
 |_::_,_,0,_=>rfl
 |_::ρ,y,i+1,h=>by simp only[List.cons_append,eM];exact jJ ρ y i (by simpa using h)
theorem sd:∀(ρ:List Nat)(b:Nat)(y:List Nat),eM (ρ++b::y) ρ.length=b
 |[],_,_=>rfl
 |_::ρ,b,y=>by simp only[List.cons_append,List.length_cons,eM];exact sd ρ b y
theorem AV{ρ y:List Nat}:∀{l:List Nat},(∀i,i∈l->i<ρ.length)->vn (ρ++y) l=vn ρ l
 |[],_=>rfl
 |i::l,h=>by simp only[vn];rw[jJ _ _ _ (h i (by simp)),AV fun j hj=>h j (by simp[hj])]
theorem Vx{ρ y:List Nat}{c:Cp}(h:Nb ρ.length c=true):c.v' (ρ++y)=c.v' ρ:=by
 cases c with
 |p id off=>simp only[Cp.v'];rw[jJ _ _ _ (fb.1 h)]
 |v x=>rfl
theorem Ck{ρ y:List Nat}:∀{cs:List Cp},nR ρ.length cs=true->EL (ρ++y) cs=EL ρ cs
 |[],_=>rfl
 |c::cs,h=>by
  simp only[nR,Bool.and_eq_true]at h
  simp only[EL];rw[Vx h.1,Ck h.2]
theorem HD{ρ y:List Nat}{x:Lf}(h:x.ok ρ.length=true):x.v (ρ++y)=x.v ρ:=by
 cases x<;>try rfl
 case p id off=>simp only[Lf.v];rw[jJ _ _ _ (fb.1 h)]
 case e x i sz off=>cases off<;>rfl
 case f fn fs cs=>
  simp only[Lf.ok,Bool.and_eq_true]at h
  simp only[Lf.v];rw[Ck h.1,Ck h.2]
theorem hJ{ρ y:List Nat}:∀{xs:List Lf},bS ρ.length xs=true->dB (ρ++y) xs=dB ρ xs
 |[],_=>rfl
 |x::xs,h=>by
  simp only[bS,Bool.and_eq_true]at h
  simp only[dB];rw[HD h.1,hJ h.2]
theorem Nn{ρ y:List Nat}{x:Av}(h:x.ok ρ.length=true):x.v (ρ++y)=x.v ρ:=by
 cases x with
 |l x=>exact HD h
 |a xs=>simp only[Av.v];rw[hJ h]
theorem JL{ρ y:List Nat}:∀{xs:List Av},nS ρ.length xs=true->Ux (ρ++y) xs=Ux ρ xs
 |[],_=>rfl
 |x::xs,h=>by
  simp only[nS,Bool.and_eq_true]at h
  simp only[Ux];rw[Nn h.1,JL h.2]
theorem Cm{ρ y:List Nat}{x:Tv}(h:x.ok ρ.length=true):x.val (ρ++y)=x.val ρ:=by
 cases x with
 |v x=>exact Nn h
 |t xs=>simp only[Tv.val];rw[JL h]
theorem wi{ρ y:List Nat}:∀{L:List (Nat×List Lf)},rM ρ.length L=true->kh (ρ++y) L=kh ρ L
 |[],_=>rfl
 |(i,xs)::L,h=>by
  simp only[rM,Bool.and_eq_true]at h
  simp only[kh];rw[jJ _ _ _ (fb.1 h.1.1),hJ h.1.2,wi h.2]
theorem abA{m n:Nat}{c:Cp}(h:Nb m c=true)(hm:m<=n):Nb n c=true:=by
 cases c with
 |p id off=>exact fb.2 (Nat.lt_of_lt_of_le (fb.1 h) hm)
 |v x=>rfl
theorem HF{m n:Nat}(hm:m<=n):∀{cs:List Cp},nR m cs=true->nR n cs=true
 |[],_=>rfl
 |c::cs,h=>by
  simp only[nR,Bool.and_eq_true]at h⊢
  exact⟨abA h.1 hm,HF hm h.2⟩
theorem UE{m n:Nat}{x:Lf}(h:x.ok m=true)(hm:m<=n):x.ok n=true:=by
 cases x<;>try rfl
 case p id off=>exact fb.2 (Nat.lt_of_lt_of_le (fb.1 h) hm)
 case f fn fs cs=>
  simp only[Lf.ok,Bool.and_eq_true]at h⊢
  exact⟨HF hm h.1,HF hm h.2⟩
theorem Cn{m n:Nat}(hm:m<=n):∀{xs:List Lf},bS m xs=true->bS n xs=true
 |[],_=>rfl
 |x::xs,h=>by
  simp only[bS,Bool.and_eq_true]at h⊢
  exact⟨UE h.1 hm,Cn hm h.2⟩
theorem UF{m n:Nat}{x:Av}(h:x.ok m=true)(hm:m<=n):x.ok n=true:=by
 cases x with
 |l x=>exact UE h hm
 |a xs=>exact Cn hm h
theorem Np{m n:Nat}(hm:m<=n):∀{xs:List Av},nS m xs=true->nS n xs=true
 |[],_=>rfl
 |x::xs,h=>by
  simp only[nS,Bool.and_eq_true]at h⊢
  exact⟨UF h.1 hm,Np hm h.2⟩
theorem abB{m n:Nat}{x:Tv}(h:x.ok m=true)(hm:m<=n):x.ok n=true:=by
 cases x with
 |v x=>exact UF h hm
 |t xs=>exact Np hm h
theorem Ro{m n:Nat}(hm:m<=n):∀{L:List (Nat×List Lf)},rM m L=true->rM n L=true
 |[],_=>rfl
 |(i,xs)::L,h=>by
  simp only[rM,Bool.and_eq_true]at h⊢
  exact⟨⟨fb.2 (Nat.lt_of_lt_of_le (fb.1 h.1.1) hm),Cn hm h.1.2⟩,Ro hm h.2⟩
theorem xB{s:Sh}{Q:Lf->Prop}(h:exS s Q):∃x,Q x/\(∀m,x.ok m=true)/\x.fact:=by
 cases s<;>(obtain⟨x,hx⟩:=h;exact⟨_,hx,fun _=>rfl,trivial⟩)
theorem oQ:∀{ss:List Sh}{Q:List Lf->Prop},exL ss Q->∃xs,Q xs/\(∀m,bS m xs=true)/\cD xs
 |[],Q,h=>⟨[],h,fun _=>rfl,trivial⟩
 |s::ss,Q,h=>by
  obtain⟨x,h1,h2,h3⟩:=xB h
  obtain⟨xs,h4,h5,h6⟩:=oQ h1
  exact⟨x::xs,h4,fun m=>by simp[bS,h2 m,h5 m],h3,h6⟩
theorem EV{s:As}{Q:Av->Prop}(h:exA s Q):∃x,Q x/\(∀m,x.ok m=true)/\x.fact:=by
 cases s with
 |l s=>obtain⟨x,h1,h2,h3⟩:=xB h;exact⟨.l x,h1,h2,h3⟩
 |a ss=>obtain⟨xs,h1,h2,h3⟩:=oQ h;exact⟨.a xs,h1,h2,h3⟩
theorem AW:∀{ss:List As}{Q:List Av->Prop},Vn ss Q->∃xs,Q xs/\(∀m,nS m xs=true)/\we xs
 |[],Q,h=>⟨[],h,fun _=>rfl,trivial⟩
 |s::ss,Q,h=>by
  obtain⟨x,h1,h2,h3⟩:=EV h
  obtain⟨xs,h4,h5,h6⟩:=AW h1
  exact⟨x::xs,h4,fun m=>by simp[nS,h2 m,h5 m],h3,h6⟩
theorem sf{s:Ts}{Q:Tv->Prop}(h:zW s Q):∃x,Q x/\(∀m,x.ok m=true)/\x.fact:=by
 cases s with
 |v s=>obtain⟨x,h1,h2,h3⟩:=EV h;exact⟨.v x,h1,h2,h3⟩
 |t ss=>obtain⟨xs,h1,h2,h3⟩:=AW h;exact⟨.t xs,h1,h2,h3⟩
structure Inv(s:St)(ρ:List Nat)(th:Heap):Prop where
 vars:Vars th (kh ρ s.L)
 len:ρ.length=s.m
 ext:∃x:List Nat,ρ=s.ρ++x/\x.length=s.nw/\∀b,b∈x->s.h.size<=b
 fr:Fr (In (vn ρ s.so)) s.h th
 cln:s.d=false->s.nw=0/\s.so=[]/\th=s.h
 so:∀i,i∈s.so->i<s.ρ.length
 tM:rM s.m s.L=true
 wj:oL s.L
structure Cl(s:St)(ρ:List Nat)(th:Heap):Prop where
 vars:Vars th (kh ρ s.L)
 len:ρ.length=s.m
 r:s.ρ=ρ
 h:s.h=th
 nw:s.nw=0
 so:s.so=[]
 d:s.d=false
 tM:rM s.m s.L=true
 wj:oL s.L
theorem Cl.inv{s:St}{ρ:List Nat}{th:Heap}(C:Cl s ρ th):Inv s ρ th:=
 ⟨C.vars,C.len,⟨[],by simp[C.r],by simp[C.nw],by simp⟩,by rw[C.h,C.so];exact Fr.refl _ _,fun _=>⟨C.nw,C.so,C.h.symm⟩,by simp[C.so],C.tM,C.wj⟩
theorem Inv.cl{s:St}{ρ:List Nat}{th:Heap}(I:Inv s ρ th)(hd:s.d=false):Cl s ρ th:=by
 obtain⟨h1,h2,h3⟩:=I.cln hd
 obtain⟨x,e1,e2,_⟩:=I.ext
 have:x=[]:=List.eq_nil_of_length_eq_zero (by omega)
 subst this
 exact⟨I.vars,I.len,by simpa using e1.symm,h3.symm,h1,h2,hd,I.tM,I.wj⟩
structure Rel(ρ:List Nat)(m:Nat)(E:List (Nat×Option Tv))(A:aU):Prop where
 get:∀t x,qe E t=some x->x.ok m=true/\x.fact/\lP A t=x.val ρ
theorem Rel.ext{ρ y:List Nat}{m n:Nat}{E:List (Nat×Option Tv)}{A:aU}(R:Rel ρ m E A)(hm:ρ.length=m)(hn:m<=n):Rel (ρ++y) n E A:=
 ⟨fun t x h=>by
  obtain⟨h1,h2,h3⟩:=R.get t x h
  exact⟨abB h1 hn,h2,by rw[Cm (by rw[hm];exact h1)];exact h3⟩⟩
theorem JM:∀{n:Nat}{ρ:List Nat}{k:List Nat->Prop},qB n ρ k->∀x:List Nat,x.length=n->k (ρ++x)
 |0,ρ,k,h,x,hx=>by
  obtain rfl:=List.eq_nil_of_length_eq_zero hx
  simpa[qB]using h
 |n+1,ρ,k,h,[],hx=>by simp at hx
 |n+1,ρ,k,h,b::x,hx=>by
  have:=JM (h b) x (by simpa using hx)
  simpa using this
theorem AX{h:Heap}:∀{l:List Nat}{Q:Prop},Vo h l Q->(∀b,b∈l->h.size<=b)->Q
 |[],Q,H,_=>H
 |b::l,Q,H,hb=>AX (H (hb b (by simp))) fun c hc=>hb c (by simp[hc])
theorem EW:∀(a b:List Nat),Ri a (a++b)=b
 |[],b=>rfl
 |_::a,b=>EW a b
theorem iG{s:St}{ρ:List Nat}{th:Heap}{k:St->Prop}(I:Inv s ρ th)(H:sync s k):∃s',Cl s' ρ th/\s'.E=s.E/\s'.L=s.L/\s'.m=s.m/\s'.md=s.md/\k s':=by
 unfold sync at H
 cases hd:s.d with
 |false=>
  rw[hd]at H
  exact⟨s,I.cl hd,rfl,rfl,rfl,rfl,H⟩
 |true=>
  rw[hd]at H
  obtain⟨x,e1,e2,e3⟩:=I.ext
  have h1:=JM H x e2 th
  rw[<-e1]at h1
  have h2:Ri s.ρ ρ=x:=by rw[e1];exact EW _ _
  rw[h2]at h1
  have h3:=AX h1 e3 I.fr I.vars
  exact⟨{s with ρ:=ρ,nw:=0,so:=[],d:=false,h:=th},⟨I.vars,I.len,rfl,rfl,rfl,rfl,rfl,I.tM,I.wj⟩,rfl,rfl,rfl,rfl,h3⟩
theorem Nq(ρ:List Nat)(v:Value):(Nc v).v ρ=v:=by cases v<;>rfl
theorem JN(m:Nat)(v:Value):(Nc v).ok m=true:=by cases v<;>rfl
theorem AY(v:Value):(Nc v).fact:=by cases v<;>first|rfl|trivial
theorem jh{ρ:List Nat}{m:Nat}{E:List (Nat×Option Tv)}{A:aU}(R:Rel ρ m E A){x:Operand}{y:Tv}(h:xy E x=some y):y.ok m=true/\y.fact/\fh A x=y.val ρ:=by
 cases x with
 |tmp t=>exact R.get t y h
 |const v=>
  simp only[xy,Option.some.injEq]at h
  subst h
  exact⟨JN m v,AY v,(Nq ρ v).symm⟩
 |global g=>
  simp only[xy,Option.some.injEq]at h
  subst h
  exact⟨rfl,trivial,rfl⟩
 |func f=>
  simp only[xy,Option.some.injEq]at h
  subst h
  exact⟨rfl,trivial,rfl⟩
theorem ft{ρ:List Nat}{m:Nat}{E:List (Nat×Option Tv)}{A:aU}(R:Rel ρ m E A){x:Operand}{y:Lf}(h:lf E x=some y):y.ok m=true/\y.fact/\fh A x=y.v ρ:=by
 unfold lf at h
 split at h
 ·rename_i z hz
  have h:=Option.some.inj h
  subst h
  exact jh R hz
 ·cases h
theorem lz{s:St}{ρ:List Nat}{th:Heap}{A:aU}(I:Inv s ρ th)(R:Rel ρ s.m s.E A):∀{l:List Operand},Hx (iA s.ρ) s.E l=true->∀x,x∈l->fh A x=Em s.ρ s.E x
 |[],_,x,hx=>by simp at hx
 |y::l,h,x,hx=>by
  simp only[Hx,Bool.and_eq_true]at h
  rcases List.mem_cons.1 hx with rfl|hx
  ·cases hy:xy s.E x with
   |none=>rw[hy]at h;simp at h
   |some z=>
    rw[hy]at h
    obtain⟨e,e1,_,_⟩:=I.ext
    rw[(jh R hy).2.2]
    unfold Em
    rw[hy,e1]
    exact Cm (by rw[<-ly];exact h.1)
  ·exact lz I R h.2 x hx
structure Nx(s:St)(ρ:List Nat)(s':St)(iX:List Nat):Prop where
 m:s.m<=s'.m
 md:∃new,s'.md=new++s.md/\∀id,eH new id=false->id<s.m->cE s'.L id=cE s.L id
 r:∃y,iX=ρ++y
theorem fE{s s':St}{ρ:List Nat}(hm:s'.m=s.m)(hL:s'.L=s.L)(jK:s'.md=s.md):Nx s ρ s' ρ:=⟨by omega,⟨[],by simp[jK],fun _ _ _=>by rw[hL]⟩,⟨[],by simp⟩⟩
theorem Nx.refl(s:St)(ρ:List Nat):Nx s ρ s ρ:=fE rfl rfl rfl
theorem EX:∀{a b:List Nat}{i:Nat},eH (a++b) i=(eH a i||eH b i)
 |[],b,i=>rfl
 |x::a,b,i=>by simp only[List.cons_append,eH];rw[EX,Bool.or_assoc]
theorem Nx.trans{s1 s2 s3:St}{ρ1 GY ρ3:List Nat}(h:Nx s1 ρ1 s2 GY)(k:Nx s2 GY s3 ρ3):Nx s1 ρ1 s3 ρ3:=by
 obtain⟨m1,⟨n1,a1,b1⟩,⟨y1,c1⟩⟩:=h
 obtain⟨m2,⟨n2,a2,b2⟩,⟨y2,c2⟩⟩:=k
 refine⟨by omega,⟨n2++n1,by rw[a2,a1,List.append_assoc],fun id hid hm=> ?_⟩,⟨y1++y2,by rw[c2,c1,List.append_assoc]⟩⟩
 rw[EX,Bool.or_eq_false_iff]at hid
 rw[b2 id hid.1 (by omega),b1 id hid.2 hm]
def iH(A:aU)(s:St)(ρ:List Nat)(k:St->Tv->Prop)(v:Value)(h':Heap):Prop:=
 ∃s' x iX,Inv s' iX h'/\Rel iX s'.m s'.E A/\v=x.val iX/\x.ok s'.m=true/\x.fact/\Nx s ρ s' iX/\k s' x
theorem bD{A:aU}{s:St}{ρ:List Nat}{k:St->Tv->Prop}{h:Heap}{x:Tv}{v:Value}(I:Inv s ρ h)(R:Rel ρ s.m s.E A)(hv:v=x.val ρ)(ho:x.ok s.m=true)(hf:x.fact)(hk:k s x):iH A s ρ k v h:=
 ⟨s,x,ρ,I,R,hv,ho,hf,Nx.refl _ _,hk⟩
theorem iI{A:aU}{s s':St}{ρ:List Nat}{k:St->Tv->Prop}{h:Heap}{x:Tv}{v:Value}(I:Inv s' ρ h)(R:Rel ρ s'.m s'.E A)(N:Nx s ρ s' ρ)(hv:v=x.val ρ)(ho:x.ok s'.m=true)(hf:x.fact)(hk:k s' x):iH A s ρ k v h:=
 ⟨s',x,ρ,I,R,hv,ho,hf,N,hk⟩
theorem cM{P:Program}{e:Operand->Value}{op:Op}{ty:TypeId}{h:Heap}{K:Value->Heap->Prop}{q:Sem Value}(h1:gw op=none)(h2:kD op=none)(h3:jF e ty op=some q)(H:pop P q fun v=>K v h):fk P e op ty h K:=by
 unfold fk;simp only[h1,h2,h3];exact H
theorem iJ{P:Program}{A:aU}{s:St}{ρ:List Nat}{h:Heap}{op:Op}{ty:TypeId}{rt:Option Ts}{k:St->Tv->Prop}(I:Inv s ρ h)(R:Rel ρ s.m s.E A)(H:lR P s op ty rt k):fk P (fh A) op ty h (iH A s ρ k):=by
 unfold lR at H
 cases h1:gw op with
 |some x=>rw[h1]at H;exact H.elim
 |none=>
 cases h2:kD op with
 |some x=>rw[h1,h2]at H;exact H.elim
 |none=>
 rw[h1,h2]at H
 simp only at H
 cases h3:jF fm 0 op with
 |some q0=>
  rw[h3]at H
  simp only at H
  split at H
  ·rename_i hd
   have hc:jF (fh A) ty op=jF (Em s.ρ s.E) ty op:=qM fun x hx=>lz I R hd x (by simpa using hx)
   split at H
   ·rename_i q hq
    refine cM h1 h2 (by rw[hc];exact hq) (H.mono fun rv hr=> ?_)
    unfold exR at hr
    cases rt with
    |none=>exact bD (x:= .v (.l (.r rv))) I R rfl rfl trivial hr
    |some t=>
     obtain⟨x,⟨e1,e2⟩,e3,e4⟩:=sf hr
     obtain⟨z,e5,_,_⟩:=I.ext
     exact bD I R (by rw[e1,e5,Cm (e3 _)]) (e3 _) e4 e2
   ·exact H.elim
  ·exact H.elim
 |none=>
  rw[h3]at H
  simp only at H
  obtain⟨s',C,hE,hL,hm,jK,H⟩:=iG I H
  have I':=C.inv
  have R':Rel ρ s'.m s'.E A:=by rw[hE,hm];exact R
  have hp:∀e,jF e ty op=none:=fun e=>by
   have:=lm fm e 0 ty op
   rw[h3]at this
   cases hh:jF e ty op with
   |none=>rfl
   |some _=>rw[hh]at this;cases this
  split at H
  ·rename_i hd
   have hcr:oc (fh A) op=oc (Em s'.ρ s'.E) op:=mZ fun x hx=>lz I' R' hd x (by simpa using hx)
   have hce:Er (fh A) ty op=Er (Em s'.ρ s'.E) ty op:=wT fun x hx=>lz I' R' hd x (by simpa using hx)
   have hcu:Es (fh A) op=Es (Em s'.ρ s'.E) op:=wU fun x hx=>lz I' R' hd x (by simpa using hx)
   unfold fk
   simp only[h1,h2,hp,hcr,hce,hcu]
   split at H
   ·rename_i q hq
    simp only[hq]
    rw[<-C.h]
    refine H.mono fun rv hr=> ?_
    unfold exR at hr
    cases rt with
    |none=>rw[C.h];exact iI (x:= .v (.l (.r rv))) I' R' (fE hm hL jK) rfl rfl trivial hr
    |some t=>
     obtain⟨x,⟨e1,e2⟩,e3,e4⟩:=sf hr
     rw[C.h]
     exact iI I' R' (fE hm hL jK) (by rw[e1,C.r]) (e3 _) e4 e2
   ·rename_i hq
    simp only[hq]
    split at H
    ·rename_i q gO
     simp only[gO]
     rw[<-C.h]
     refine H.mono fun rv h' hr=> ?_
     unfold lR.abv at hr
     cases rt with
     |none=>
      obtain⟨e2,e5⟩:=hr
      rw[C.r]at e2
      have C':Cl {s' with h:=h'} ρ h':=⟨e2,C.len,C.r,rfl,C.nw,C.so,C.d,C.tM,C.wj⟩
      exact iI (s':={s' with h:=h'}) (x:= .v (.l (.r rv))) C'.inv R' (fE hm hL jK) rfl rfl trivial e5
     |some t=>
      obtain⟨x,⟨e1,e2,e5⟩,e3,e4⟩:=sf hr
      rw[C.r]at e2
      have C':Cl {s' with h:=h'} ρ h':=⟨e2,C.len,C.r,rfl,C.nw,C.so,C.d,C.tM,C.wj⟩
      exact iI (s':={s' with h:=h'}) C'.inv R' (fE hm hL jK) (by rw[e1,C.r]) (e3 _) e4 e5
    ·rename_i gO
     simp only[gO]
     split at H
     ·rename_i q hq3
      simp only[hq3]
      rw[<-C.h]
      refine⟨fun w hw=> ?_⟩
      obtain⟨w',a1,a2,a3,a4⟩:=H.out w hw
      rw[C.r]at a3
      have C':Cl {s' with h:=w'.heap} ρ w'.heap:=⟨a3,C.len,C.r,rfl,C.nw,C.so,C.d,C.tM,C.wj⟩
      exact⟨w',a1,a2,iI (s':={s' with h:=w'.heap}) (x:= .v (.l .u)) C'.inv R' (fE hm hL jK) rfl rfl trivial a4⟩
     ·exact H.elim
  ·exact H.elim
theorem nj{ids:List Nat}:∀{L:List (Nat×List Lf)}{Q:List (Nat×List Lf)->Prop},pU ids L Q->∃L',Q L'/\(∀m,rM m L=true->rM m L'=true)/\(oL L->oL L')/\∀id,eH ids id=false->cE L' id=cE L id
 |[],Q,h=>⟨[],h,fun _ h=>h,fun h=>h,fun _ _=>rfl⟩
 |(i,xs)::L,Q,h=>by
  unfold pU at h
  cases hi:eH ids i with
  |true=>
   rw[hi]at h
   obtain⟨ys,h1,h2,h3⟩:=oQ h
   obtain⟨L',h4,h5,h6,h7⟩:=nj h1
   refine⟨(i,ys)::L',h4,fun m hm=> ?_,fun hf=>⟨h3,h6 hf.2⟩,fun id hid=> ?_⟩
   ·simp only[rM,Bool.and_eq_true]at hm⊢
    exact⟨⟨hm.1.1,h2 m⟩,h5 m hm.2⟩
   ·unfold cE
    cases hb:Nat.beq i id with
    |true=>have:=Nat.eq_of_beq_eq_true hb;subst this;rw[hi]at hid;cases hid
    |false=>exact h7 id hid
  |false=>
   rw[hi]at h
   obtain⟨L',h4,h5,h6,h7⟩:=nj h
   refine⟨(i,xs)::L',h4,fun m hm=> ?_,fun hf=>⟨hf.1,h6 hf.2⟩,fun id hid=> ?_⟩
   ·simp only[rM,Bool.and_eq_true]at hm⊢
    exact⟨hm.1,h5 m hm.2⟩
   ·unfold cE
    cases Nat.beq i id with
    |true=>rfl
    |false=>exact h7 id hid
theorem Rp{P:Program}{A:aU}{s:St}{ρ:List Nat}{h:Heap}{f:Operand}{args:List Operand}{ty:TypeId}{k:St->Tv->Prop}(I:Inv s ρ h)(R:Rel ρ s.m s.E A)(H:Ng P s f args ty k):fD P (fh A f) (mV (fh A) args) h (iH A s ρ k):=by
 unfold Ng at H
 obtain⟨s',C,hE,hL,hm,jK,H⟩:=iG I H
 have I':=C.inv
 have R':Rel ρ s'.m s'.E A:=by rw[hE,hm];exact R
 split at H
 ·exact H.elim
 ·rename_i hd
  have hf:=lz I' R' hd f (by simp)
  have ha:mV (fh A) args=mV (Em s'.ρ s'.E) args:=je args fun x hx=>lz I' R' hd x (by simp[hx])
  have key:∀rv h',(pU (gA s'.E (args++[f])) s'.L fun L'=>match fJ P ty with
   |some t=>zW t fun x=>rv=x.val s'.ρ/\Vars h' (kh s'.ρ L')/\k {s' with L:=L',md:=gA s'.E (args++[f])++s'.md,h:=h'} x
   |none=>Vars h' (kh s'.ρ L')/\k {s' with L:=L',md:=gA s'.E (args++[f])++s'.md,h:=h'} (.v (.l (.r rv))))->iH A s ρ k rv h':=fun rv h' hq=>by
   obtain⟨L',q1,q2,q3,q4⟩:=nj hq
   have fin:∀x:Tv,Vars h' (kh s'.ρ L')->rv=x.val ρ->(∀m,x.ok m=true)->x.fact->k {s' with L:=L',md:=gA s'.E (args++[f])++s'.md,h:=h'} x->iH A s ρ k rv h':=fun x v1 v2 v3 v4 v5=>by
    rw[C.r]at v1
    have C':Cl {s' with L:=L',md:=gA s'.E (args++[f])++s'.md,h:=h'} ρ h':=⟨v1,C.len,C.r,rfl,C.nw,C.so,C.d,q2 _ C.tM,q3 C.wj⟩
    exact iI (s':={s' with L:=L',md:=gA s'.E (args++[f])++s'.md,h:=h'}) C'.inv R' ((fE hm hL jK).trans ⟨Nat.le_refl _,⟨gA s'.E (args++[f]),rfl,fun id hid _=>q4 id hid⟩,⟨[],by simp⟩⟩) v2 (v3 _) v4 v5
   split at q1
   ·obtain⟨x,⟨e1,e2,e5⟩,e3,e4⟩:=sf q1
    exact fin x e2 (by rw[e1,C.r]) e3 e4 e5
   ·exact fin (.v (.l (.r rv))) q1.1 rfl (fun _=>rfl) trivial q1.2
  rw[hf,ha,<-C.h]
  cases f with
  |func n=>
   show aE P n ((#[]:Array Value).toList++mV (Em s'.ρ s'.E) args++(#[]:Array Value).toList).toArray s'.h _
   rw[show((#[]:Array Value).toList++mV (Em s'.ρ s'.E) args++(#[]:Array Value).toList:List Value)=mV (Em s'.ρ s'.E) args by simp]
   exact qJ (fun rv h' hq=>key rv h' hq) H
  |tmp t=>exact kE (fun rv h' hq=>key rv h' hq) H
  |const v=>exact kE (fun rv h' hq=>key rv h' hq) H
  |global g=>exact kE (fun rv h' hq=>key rv h' hq) H
theorem EY{ρ:List Nat}{m:Nat}{E:List (Nat×Option Tv)}{A:aU}(R:Rel ρ m E A){c:Operand}{x:Bool}{kn:Option (Bool×Bool)}(hc:lf E c=some (.b x kn)){v:Bool}(hx:x=v):Rel ρ m (flag E c v) A:=by
 unfold flag
 split
 ·rename_i t
  split
  ·rename_i y pN hy
   have hy':lf E (.tmp t)=some (.b y pN):=by unfold lf xy;simp only[hy]
   rw[hc]at hy'
   simp only[Option.some.injEq,Lf.b.injEq]at hy'
   obtain⟨rfl,rfl⟩:=hy'
   refine⟨fun t' z hz=> ?_⟩
   unfold qe at hz
   cases hb:Nat.beq t t' with
   |true=>
    rw[hb]at hz
    simp only[Option.some.injEq]at hz
    subst hz
    have:=Nat.eq_of_beq_eq_true hb
    subst this
    exact⟨rfl,hx,(R.get t _ hy).2.2⟩
   |false=>rw[hb]at hz;exact R.get t' z hz
  ·exact R
 ·exact R
theorem xC{s:St}{ρ:List Nat}{h:Heap}{A:aU}{c:Operand}{x:Bool}{kn:Option (Bool×Bool)}{yes no:St->Prop}(I:Inv s ρ h)(R:Rel ρ s.m s.E A)(hc:lf s.E c=some (.b x kn))(H:brB x kn s c yes no):
 (x=true->∃s',Inv s' ρ h/\Rel ρ s'.m s'.E A/\s'.m=s.m/\s'.L=s.L/\s'.md=s.md/\yes s')/\(x=false->∃s',Inv s' ρ h/\Rel ρ s'.m s'.E A/\s'.m=s.m/\s'.L=s.L/\s'.md=s.md/\no s'):=by
 have hf:=(ft R hc).2.1
 unfold brB at H
 split at H
 ·rename_i l
  have hx:x=true:=hf
  exact⟨fun _=>⟨s,I,R,rfl,rfl,rfl,H⟩,fun e=>(by rw[hx]at e;cases e)⟩
 ·rename_i l
  have hx:x=false:=hf
  exact⟨fun e=>(by rw[hx]at e;cases e),fun _=>⟨s,I,R,rfl,rfl,rfl,H⟩⟩
 ·have I':∀v,Inv {s with E:=flag s.E c v} ρ h:=fun v=>⟨I.vars,I.len,I.ext,I.fr,I.cln,I.so,I.tM,I.wj⟩
  exact⟨fun e=>⟨_,I' true,EY R hc e,rfl,rfl,rfl,H.1 e⟩,fun e=>⟨_,I' false,EY R hc e,rfl,rfl,rfl,H.2 e⟩⟩
theorem wm:∀{cs:List Lf}{o n:Nat}{ys:List Lf},ld cs o n=some ys->ys=(cs.drop o).take n/\ys.length=n
 |cs,0,0,ys,h=>by
  simp only[ld,Option.some.injEq]at h
  subst h
  simp
 |x::xs,0,n+1,ys,h=>by
  simp only[ld]at h
  split at h
  ·rename_i r hr
   have h:=Option.some.inj h
   subst h
   obtain⟨e1,e2⟩:=wm hr
   simp only[List.drop_zero]at e1
   simp[<-e1,e2]
  ·cases h
 |x::xs,o+1,n,ys,h=>by
  simp only[ld]at h
  obtain⟨e1,e2⟩:=wm h
  exact⟨by rw[e1];rfl,e2⟩
 |[],o+1,n,ys,h=>by cases n<;>simp[ld]at h
 |[],0,n+1,ys,h=>by simp[ld]at h
theorem eD(ρ:List Nat):∀xs:List Lf,dB ρ xs=xs.map (Lf.v ρ)
 |[]=>rfl
 |x::xs=>by simp[dB,eD ρ xs]
theorem tN{ρ:List Nat}{cs:List Lf}{o n:Nat}{ys:List Lf}(h:ld cs o n=some ys):Ho (dB ρ cs) o n=dB ρ ys/\(dB ρ ys).length=n:=by
 obtain⟨e1,e2⟩:=wm h
 rw[ng,eD,eD,e1,List.map_take,List.map_drop]
 refine⟨rfl,?_⟩
 rw[<-List.map_drop,<-List.map_take,List.length_map,<-e1,e2]
theorem cO{m:Nat}:∀{xs:List Lf},bS m xs=true↔∀x,x∈xs->x.ok m=true
 |[]=>by simp[bS]
 |x::xs=>by simp[bS,cO (xs:=xs)]
theorem bT:∀{xs:List Lf},cD xs↔∀x,x∈xs->x.fact
 |[]=>by simp[cD]
 |x::xs=>by simp[cD,bT (xs:=xs)]
theorem pV{m:Nat}{cs:List Lf}{o n:Nat}{ys:List Lf}(h:ld cs o n=some ys)(hc:bS m cs=true)(hf:cD cs):bS m ys=true/\cD ys:=by
 obtain⟨e1,_⟩:=wm h
 have hm:∀x,x∈ys->x∈cs:=fun x hx=>by rw[e1]at hx;exact List.mem_of_mem_drop (List.mem_of_mem_take hx)
 exact⟨cO.2 fun x hx=>cO.1 hc x (hm x hx),bT.2 fun x hx=>bT.1 hf x (hm x hx)⟩
theorem kL{m:Nat}:∀{L:List (Nat×List Lf)}{id:Nat}{cs:List Lf},cE L id=some cs->rM m L=true->oL L->id<m/\bS m cs=true/\cD cs
 |[],id,cs,h,_,_=>by simp[cE]at h
 |(i,xs)::L,id,cs,h,ho,hf=>by
  simp only[rM,Bool.and_eq_true]at ho
  unfold cE at h
  cases hb:Nat.beq i id with
  |true=>
   rw[hb]at h
   have h:=Option.some.inj h
   subst h
   have:=Nat.eq_of_beq_eq_true hb
   subst this
   exact⟨fb.1 ho.1.1,ho.1.2,hf.1⟩
  |false=>rw[hb]at h;exact kL h ho.2 hf.2
theorem kz{ρ:List Nat}:∀{L:List (Nat×List Lf)}{id:Nat}{cs:List Lf},cE L id=some cs->∃i,jV (kh ρ L) i=some (eM ρ id,dB ρ cs)/\∀lQ,ED (kh ρ L) i (dB ρ lQ)=kh ρ (vJ L id lQ)
 |[],id,cs,h=>by simp[cE]at h
 |(j,xs)::L,id,cs,h=>by
  unfold cE at h
  unfold vJ
  cases hb:Nat.beq j id with
  |true=>
   rw[hb]at h
   have h:=Option.some.inj h
   subst h
   have:=Nat.eq_of_beq_eq_true hb
   subst this
   exact⟨0,rfl,fun _=>rfl⟩
  |false=>
   rw[hb]at h
   obtain⟨i,h1,h2⟩:=kz (ρ:=ρ) h
   exact⟨i+1,h1,fun lQ=>by simp only[kh,ED];rw[h2]⟩
theorem AZ:∀{L:List (Nat×List Lf)}{id:Nat}{cs ys:List Lf},cE L id=some cs->∀j,cE (vJ L id ys) j=if id=j then some ys else cE L j
 |[],id,cs,ys,h,j=>by simp[cE]at h
 |(i,xs)::L,id,cs,ys,h,j=>by
  unfold cE at h
  unfold vJ
  cases hb:Nat.beq i id with
  |true=>
   have:=Nat.eq_of_beq_eq_true hb
   subst this
   simp only[cE]
   cases hj:Nat.beq i j with
   |true=>rw[if_pos (Nat.eq_of_beq_eq_true hj)]
   |false=>rw[if_neg (fun e=>by subst e;simp at hj)]
  |false=>
   rw[hb]at h
   simp only[cE]
   cases hj:Nat.beq i j with
   |true=>
    have:=Nat.eq_of_beq_eq_true hj
    subst this
    rw[if_neg (fun e=>by subst e;simp at hb)]
   |false=>exact AZ h j
theorem JO{m:Nat}:∀{L:List (Nat×List Lf)}{id:Nat}{ys:List Lf},rM m L=true->oL L->bS m ys=true->cD ys->rM m (vJ L id ys)=true/\oL (vJ L id ys)
 |[],id,ys,_,_,_,_=>⟨rfl,trivial⟩
 |(i,xs)::L,id,ys,ho,hf,h1,h2=>by
  simp only[rM,Bool.and_eq_true]at ho
  unfold vJ
  cases Nat.beq i id with
  |true=>exact⟨by simp[rM,ho.1.1,h1,ho.2],h2,hf.2⟩
  |false=>
   obtain⟨a,b⟩:=JO (id:=id) ho.2 hf.2 h1 h2
   exact⟨by simp[rM,ho.1.1,ho.1.2,a],hf.1,b⟩
theorem Rq{P:Program}{A:aU}{s:St}{ρ:List Nat}{h:Heap}{t:TypeId}{x:Operand}{k:St->Tv->Prop}{raw:Prop}(I:Inv s ρ h)(R:Rel ρ s.m s.E A)(H:loadT P s t (lf s.E x) k raw)(hr:raw->zZ P (Instr.loadAt t (fh A x)) h fun v=>iH A s ρ k v h):zZ P (Instr.loadAt t (fh A x)) h fun v=>iH A s ρ k v h:=by
 unfold loadT at H
 split at H
 ·rename_i id off hx
  have hv:=(ft R hx).2.2
  rw[hv]
  split at H
  ·rename_i cs hf
   obtain⟨o1,o2,o3⟩:=kL hf I.tM I.wj
   obtain⟨i,hi,_⟩:=kz (ρ:=ρ) hf
   split at H
   ·rename_i h1
    split at H
    ·rename_i y hy
     obtain⟨c1,c2⟩:=pV hy o2 o3
     obtain⟨e1,e2⟩:=tN (ρ:=ρ) hy
     refine JD h1 I.vars i hi off (v:=y.v ρ) ?_ (bD (x:= .v (.l y)) I R rfl (cO.1 c1 y (by simp)) (bT.1 c2 y (by simp)) H)
     rw[ng]at e1
     have:=congrArg (·[0]?) e1
     simpa[dB,List.getElem?_take,List.getElem?_drop]using this
    ·exact H.elim
   ·rename_i h1
    split at H
    ·rename_i n h2
     split at H
     ·rename_i ys hy
      obtain⟨c1,c2⟩:=pV hy o2 o3
      obtain⟨e1,e2⟩:=tN (ρ:=ρ) hy
      exact EF h2 I.vars i hi off e1 e2 (bD (x:= .v (.a ys)) I R rfl c1 c2 H)
     ·exact H.elim
    ·exact H.elim
  ·exact H.elim
 ·rename_i z j sz off hx
  have hv:=(ft R hx).2.2
  have ha:fh A x= .pointer (some (loadT.Qu z j sz off)):=by rw[hv];cases off<;>rfl
  rw[ha]
  obtain⟨s',C,hE,hL,hm,jK,H⟩:=iG I H
  have R':Rel ρ s'.m s'.E A:=by rw[hE,hm];exact R
  split at H
  ·rename_i h1
   split at H
   ·rename_i sh hs
    obtain⟨y,⟨e1,e2⟩,e3,e4⟩:=xB H
    rw[C.h]at e1
    rw[C.r]at e1
    exact JB h1 (y.v ρ) e1 (iI (x:= .v (.l y)) C.inv R' (fE hm hL jK) rfl (e3 _) e4 e2)
   ·exact H.elim
  ·split at H
   ·rename_i n ss h2 _
    obtain⟨ys,e1,e3,e4⟩:=oQ H
    split at e1
    ·rename_i hn
     obtain⟨e1,e2⟩:=e1
     rw[C.h,C.r]at e1
     have hlen:(dB ρ ys).length=n:=by rw[eD,List.length_map,<-kk];exact Nat.eq_of_beq_eq_true hn
     exact JC h2 (dB ρ ys) hlen e1 (iI (x:= .v (.a ys)) C.inv R' (fE hm hL jK) rfl (e3 _) e4 e2)
    ·exact e1.elim
   ·exact H.elim
 ·exact hr H
theorem tO{ρ:List Nat}{x:Lf}(h:wg x=true):fq (x.v ρ)=true:=by
 cases x<;>try rfl
 case e x i sz off=>cases off<;>rfl
 case r v=>exact h
 case u=>cases h
theorem xD{ρ:List Nat}:∀{xs:List Lf},rY xs=true->(dB ρ xs).all fq=true
 |[],_=>rfl
 |x::xs,h=>by
  simp only[rY,Bool.and_eq_true]at h
  simp only[dB,List.all_cons,Bool.and_eq_true]
  exact⟨tO h.1,xD h.2⟩
theorem Co{ρ:List Nat}{w:Tv}{vs:List Lf}(h:xz w=some vs):(w.val ρ).cells=(dB ρ vs).toArray/\(dB ρ vs).all fq=true:=by
 unfold xz at h
 split at h
 ·rename_i x
  split at h
  ·rename_i hp
   have h:=Option.some.inj h
   subst h
   have h1:=tO (ρ:=ρ) hp
   exact⟨(oH h1).1,by simp[dB,h1]⟩
  ·cases h
 ·rename_i xs
  split at h
  ·rename_i hp
   have h:=Option.some.inj h
   subst h
   exact⟨rfl,xD hp⟩
  ·cases h
 ·cases h
theorem xE{m:Nat}{w:Tv}{vs:List Lf}(h:xz w=some vs)(ho:w.ok m=true)(hf:w.fact):bS m vs=true/\cD vs:=by
 unfold xz at h
 split at h
 ·split at h
  ·have h:=Option.some.inj h
   subst h
   have ho:Lf.ok m _=true:=ho
   exact⟨by simp[bS,ho],hf,trivial⟩
  ·cases h
 ·split at h
  ·have h:=Option.some.inj h
   subst h
   exact⟨ho,hf⟩
  ·cases h
 ·cases h
theorem pW{ρ:List Nat}{m:Nat}:∀{cs:List Lf}{o:Nat}{vs lQ:List Lf},jB cs o vs=some lQ->dB ρ lQ=jf (dB ρ cs) o (dB ρ vs)/\o+vs.length<=cs.length/\(bS m cs=true->bS m vs=true->bS m lQ=true)/\(cD cs->cD vs->cD lQ)
 |cs,0,[],lQ,h=>by
  have:cs=lQ:=by cases cs<;>simpa[jB]using h
  subst this
  exact⟨by cases cs<;>rfl,by simp,fun h _=>h,fun h _=>h⟩
 |c::cs,0,v::vs,lQ,h=>by
  simp only[jB]at h
  split at h
  ·rename_i r hr
   have h:=Option.some.inj h
   subst h
   obtain⟨e1,e2,e3,e4⟩:=pW (ρ:=ρ) (m:=m) hr
   refine⟨by simp only[dB,jf];rw[e1],by simp only[List.length_cons];omega,fun a b=> ?_,fun a b=>⟨b.1,e4 a.2 b.2⟩⟩
   simp only[bS,Bool.and_eq_true]at a b⊢
   exact⟨b.1,e3 a.2 b.2⟩
  ·cases h
 |c::cs,o+1,vs,lQ,h=>by
  simp only[jB]at h
  split at h
  ·rename_i r hr
   have h:=Option.some.inj h
   subst h
   obtain⟨e1,e2,e3,e4⟩:=pW (ρ:=ρ) (m:=m) hr
   refine⟨?_,by simp only[List.length_cons];omega,fun a b=> ?_,fun a b=>⟨a.1,e4 a.2 b⟩⟩
   ·simp only[dB]
    rw[e1]
    cases vs with
    |nil=>
     cases hh:dB ρ cs<;>simp[dB,jf]
    |cons v vs=>simp only[dB,jf]
   ·simp only[bS,Bool.and_eq_true]at a⊢
    exact⟨a.1,e3 a.2 b⟩
  ·cases h
 |[],o+1,vs,lQ,h=>by simp[jB]at h
 |[],0,v::vs,lQ,h=>by simp[jB]at h
theorem Nr{ρ y:List Nat}{i:Nat}(h1:ρ.length<=i)(h2:i<(ρ++y).length):eM (ρ++y) i∈y:=by
 induction ρ generalizing i with
 |nil=>
  simp only[List.nil_append]at h2⊢
  induction y generalizing i with
  |nil=>simp at h2
  |cons b y ih=>
   cases i with
   |zero=>simp[eM]
   |succ i=>simp only[eM];exact List.mem_cons_of_mem _ (ih (by simp) (by simpa using h2))
 |cons b ρ ih=>
  cases i with
  |zero=>simp at h1
  |succ i=>
   simp only[List.cons_append,eM]
   exact ih (by simpa using h1) (by simpa using h2)
theorem Ns{P:Program}{A:aU}{s:St}{ρ:List Nat}{h:Heap}{t:TypeId}{x v:Operand}{k:St->Tv->Prop}{raw:Prop}(I:Inv s ρ h)(R:Rel ρ s.m s.E A)(H:storeT P s t (lf s.E x) (xy s.E v) k raw)
 (hr:raw->Aw P (Instr.storeAt t (fh A x) (fh A v)) h (iH A s ρ k)):Aw P (Instr.storeAt t (fh A x) (fh A v)) h (iH A s ρ k):=by
 unfold storeT at H
 split at H
 ·rename_i id off hx
  have hv:=(ft R hx).2.2
  rw[hv]
  split at H
  ·rename_i cs w hf hw
   obtain⟨w1,w2,w3⟩:=jh R hw
   rw[w3]
   obtain⟨o1,o2,o3⟩:=kL hf I.tM I.wj
   obtain⟨i,hi,cL⟩:=kz (ρ:=ρ) hf
   split at H
   ·rename_i vs n Mt qA
    obtain⟨f1,f2⟩:=Co (ρ:=ρ) Mt
    obtain⟨g1,g2⟩:=xE Mt w1 w2
    split at H
    ·rename_i hn
     split at H
     ·rename_i lQ MW
      obtain⟨e1,e2,e3,e4⟩:=pW (ρ:=ρ) (m:=s.m) MW
      have hl:(dB ρ vs).length=n:=by rw[eD,List.length_map,<-kk];exact Nat.eq_of_beq_eq_true hn
      refine Rb qA I.vars i hi off (dB ρ vs) f1 hl f2 (by rw[eD,eD,List.length_map,List.length_map];exact e2) (L':=kh ρ (vJ s.L id lQ)) (by rw[<-e1];exact cL lQ) fun h1 fr1 V1=> ?_
      obtain⟨p1,p2⟩:=JO (id:=id) I.tM I.wj (e3 o2 g1) (e4 o3 g2)
      obtain⟨y,y1,y2,y3⟩:=I.ext
      have I1:Inv {s with L:=vJ s.L id lQ,so:=(match Nat.blt id (iA s.ρ)with|true=>id::s.so|false=>s.so),md:=id::s.md,d:=true} ρ h1:=by
       refine⟨V1,I.len,I.ext,?_,(fun e=>by cases e),?_,p1,p2⟩
       ·show Fr (In (vn ρ (match Nat.blt id (iA s.ρ)with|true=>id::s.so|false=>s.so))) s.h h1
        cases hb:Nat.blt id (iA s.ρ)with
        |true=>exact Fr.rX I.fr fr1
        |false=>
         have hge:s.ρ.length<=id:=by
          rw[<-ly]
          exact Nat.le_of_not_lt fun tE=>by rw[<-Nat.blt_eq]at tE;rw[hb]at tE;cases tE
         have Vy:=Nr (y:=y) hge (by rw[<-y1,I.len];exact o1)
         rw[<-y1]at Vy
         exact Fr.new I.fr (y3 _ Vy) fr1
       ·show∀i,i∈(match Nat.blt id (iA s.ρ)with|true=>id::s.so|false=>s.so)->i<s.ρ.length
        intro j hj
        cases hb:Nat.blt id (iA s.ρ)with
        |true=>
         rw[hb]at hj
         rcases List.mem_cons.1 hj with rfl|hj
         ·rw[<-ly];exact fb.1 hb
         ·exact I.so j hj
        |false=>rw[hb]at hj;exact I.so j hj
      refine iI (x:= .v (.l .u)) I1 R ⟨Nat.le_refl _,⟨[id],rfl,fun j hj _=> ?_⟩,⟨[],by simp⟩⟩ rfl rfl trivial H
      show cE (vJ s.L id lQ) j=_
      rw[AZ hf]
      rw[if_neg]
      intro e
      subst e
      simp[eH]at hj
     ·exact H.elim
    ·exact H.elim
   ·exact H.elim
  ·exact H.elim
 ·rename_i z j sz off hx
  have hv:=(ft R hx).2.2
  have ha:fh A x= .pointer (some (loadT.Qu z j sz off)):=by rw[hv];cases off<;>rfl
  split at H
  ·rename_i y hw
   obtain⟨w1,w2,w3⟩:=jh R hw
   split at H
   ·rename_i hp qA
    obtain⟨s',C,hE,hL,hm,jK,H⟩:=iG I H
    have R':Rel ρ s'.m s'.E A:=by rw[hE,hm];exact R
    split at H
    ·obtain⟨q1,q2,q3⟩:=H
     rw[C.h]at q1
     rw[C.h,C.r]at q2
     rw[ha,w3]
     refine MX (v:=y.v ρ) qA q1 (tO hp) fun h1 e1=> ?_
     have q2':Vars h1 (kh ρ s'.L):=by rw[e1];exact q2
     have C':Cl {s' with h:=h1} ρ h1:=⟨q2',C.len,C.r,rfl,C.nw,C.so,C.d,C.tM,C.wj⟩
     exact iI (s':={s' with h:=h1}) (x:= .v (.l .u)) C'.inv R' (fE hm hL jK) rfl rfl trivial (q3 h1 (by rw[C.h,C.r];exact e1) (by rw[C.r];exact q2'))
    ·exact H.elim
   ·exact hr H
  ·exact hr H
 ·exact hr H
theorem Nt{s:St}{ρ:List Nat}{h h1:Heap}{A:aU}{cs:List Lf}{b:Nat}(I:Inv s ρ h)(R:Rel ρ s.m s.E A)(hb:h.size<=b)(f:Fr No h h1)(V:Vars h1 ((b,dB ρ cs)::kh ρ s.L))(ho:bS s.m cs=true)(hf:cD cs):
 Inv {s with L:=(s.m,cs)::s.L,m:=s.m+1,nw:=s.nw+1,d:=true} (ρ++[b]) h1/\Rel (ρ++[b]) (s.m+1) s.E A/\eM (ρ++[b]) s.m=b:=by
 have hl:eM (ρ++[b]) s.m=b:=by rw[<-I.len];exact sd ρ b []
 obtain⟨y,y1,y2,y3⟩:=I.ext
 refine⟨⟨?_,by simp[I.len],⟨y++[b],by rw[y1];simp,by simp[y2],fun c hc=> ?_⟩,?_,(fun e=>by cases e),I.so,?_,⟨hf,I.wj⟩⟩,R.ext I.len (by omega),hl⟩
 ·show Vars h1 ((eM (ρ++[b]) s.m,dB (ρ++[b]) cs)::kh (ρ++[b]) s.L)
  rw[hl,hJ (by rw[I.len];exact ho),wi (by rw[I.len];exact I.tM)]
  exact V
 ·rcases List.mem_append.1 hc with hc|hc
  ·exact y3 c hc
  ·simp only[List.mem_cons,List.not_mem_nil,or_false]at hc
   subst hc
   exact Nat.le_trans I.fr.size hb
 ·show Fr (In (vn (ρ++[b]) s.so)) s.h h1
  rw[AV fun i hi=>by have:=I.so i hi;rw[y1,List.length_append];omega]
  exact Fr.no' I.fr f
 ·simp[rM,Cn (Nat.le_succ _) ho,Ro (Nat.le_succ _) I.tM]
theorem Cq(ρ:List Nat):∀vs:List Value,dB ρ (xx vs)=vs/\(∀m,bS m (xx vs)=true)/\cD (xx vs)
 |[]=>⟨rfl,fun _=>rfl,trivial⟩
 |v::vs=>by
  obtain⟨h1,h2,h3⟩:=Cq ρ vs
  exact⟨by simp only[xx,dB];rw[Nq,h1],fun m=>by simp[xx,bS,JN,h2 m],AY v,h3⟩
theorem qU{m id:Nat}{cs:List Lf}{L:List (Nat×List Lf)}(h:id<m):cE ((m,cs)::L) id=cE L id:=by
 have e:cE ((m,cs)::L) id=match Nat.beq m id with|true=>some cs|false=>cE L id:=rfl
 rw[e]
 cases hb:Nat.beq m id with
 |true=>have:=Nat.eq_of_beq_eq_true hb;omega
 |false=>rfl
theorem A4{s:St}{ρ:List Nat}{h h1:Heap}{A:aU}{cs:List Lf}{b:Nat}{k:St->Tv->Prop}(I:Inv s ρ h)(R:Rel ρ s.m s.E A)(hb:h.size<=b)(f:Fr No h h1)(V:Vars h1 ((b,dB ρ cs)::kh ρ s.L))(ho:bS s.m cs=true)(hf:cD cs)(H:Vs s cs k):iH A s ρ k (VP b 0) h1:=by
 obtain⟨I1,R1,hl⟩:=Nt I R hb f V ho hf
 refine⟨_,.v (.l (.p s.m 0)),ρ++[b],I1,R1,?_,?_,trivial,⟨Nat.le_succ _,⟨[],rfl,fun id _ hid=>qU hid⟩,⟨[b],rfl⟩⟩,H⟩
 ·show VP b 0=VP (eM (ρ++[b]) s.m) 0
  rw[hl]
 ·exact fb.2 (Nat.lt_succ_self _)
theorem Cr{ρ:List Nat}{xs:List Lf}{o:Nat}{y:Lf}(h:ld xs o 1=some [y]):(dB ρ xs).toArray[o]?=some (y.v ρ):=by
 obtain⟨e1,e2⟩:=tN (ρ:=ρ) h
 rw[ng]at e1
 have:=congrArg (·[0]?) e1
 simpa[dB,List.getElem?_take,List.getElem?_drop]using this
theorem Nu{P:Program}{t:TypeId}{fs:Array Field}{i:Nat}{f:Field}{K:Value->Prop}{cs:Array Value}{v:Value}(h1:P.underlying t=some (.struct fs))(h2:fs[i]?=some f)(h3:gV P f.type=true)(h4:cs[f.offset]?=some v)(H:K v):pop P (Instr.field t (.agg cs) i) K:=
 .mk' (fun w=>by
  unfold Instr.field
  rw[aK (bX h1 w)]
  simp only[h2]
  rw[aK (show(asAgg (.agg cs)).run P w= .ok cs w from rfl)]
  unfold part
  rw[aK (AH h3 w).1]
  simp only[h4,Bool.false_eq_true,if_false]
  rfl) H
theorem Nv{P:Program}{t:TypeId}{fs:Array Field}{i:Nat}{f:Field}{n:Nat}{K:Value->Prop}{cs:Array Value}(h1:P.underlying t=some (.struct fs))(h2:fs[i]?=some f)(h3:qQ P f.type=some n)(H:K (.agg (cs.extract f.offset (f.offset+n)))):pop P (Instr.field t (.agg cs) i) K:=
 .mk' (fun w=>by
  unfold Instr.field
  rw[aK (bX h1 w)]
  simp only[h2]
  rw[aK (show(asAgg (.agg cs)).run P w= .ok cs w from rfl)]
  unfold part
  rw[aK (pO h3 w).1]
  simp only[if_true]
  rw[aK (pO h3 w).2]
  rfl) H
theorem Rr{ρ:List Nat}{xs ys:List Lf}{o n:Nat}(h:ld xs o n=some ys):(dB ρ xs).toArray.extract o (o+n)=(dB ρ ys).toArray:=by
 obtain⟨e1,e2⟩:=tN (ρ:=ρ) h
 rw[ng]at e1
 rw[<-e1]
 apply Array.ext'
 simp
def ia(P:Program):List Field->List (Nat×Nat)
 |[]=>[]
 |f::fs=>(f.offset,(lu P f.type).getD 0)::ia P fs
theorem vq(P:Program):∀(fs:List Field)(i:Nat),(ia P fs)[i]?=fs[i]?.map fun f=>(f.offset,(lu P f.type).getD 0)
 |[],i=>by simp[ia]
 |f::fs,0=>by simp[ia]
 |f::fs,i+1=>by simp only[ia,List.getElem?_cons_succ];exact vq P fs i
theorem run_places{P:Program}{w:World}:∀{fs:List Field},rZ P fs=true->(fs.mapM (fun f=>do pure (f.offset,<-sizeOf f.type):Field->Sem (Nat×Nat))).run P w= .ok (ia P fs) w
 |[],_=>rfl
 |f::fs,h=>by
  simp only[rZ,Bool.and_eq_true]at h
  cases hs:lu P f.type with
  |none=>rw[hs]at h;simp at h
  |some n=>
   rw[List.mapM_cons]
   have h1:((do pure (f.offset,<-sizeOf f.type):Sem (Nat×Nat))).run P w= .ok (f.offset,n) w:=by
    rw[aK (kK hs w)]
    rfl
   rw[aK h1,aK (run_places h.2)]
   simp only[ia,hs,Option.getD_some]
   rfl
theorem vt:∀(vs:List Value)(o i:Nat)(cs:Array Value),o+i+vs.length<=cs.size->((vs.zipIdx i).foldl (fun(cs:Array Value)(p:Value×Nat)=>cs.setIfInBounds (o+p.2) p.1) cs).toList=jf cs.toList (o+i) vs
 |[],o,i,cs,h=>by
  simp only[List.zipIdx_nil,List.foldl_nil]
  cases cs.toList<;>simp[jf]
 |v::vs,o,i,cs,h=>by
  simp only[List.length_cons]at h
  simp only[List.zipIdx_cons,List.foldl_cons]
  rw[vt vs o (i+1) _ (by simp;omega),Array.toList_setIfInBounds,mf _ _ _ (by simp;omega),mf _ _ _ (by simp;omega)]
  have e1:(cs.toList.set (o+i) v).take (o+(i+1))=cs.toList.take (o+i)++[v]:=by
   rw[show o+(i+1)=(o+i)+1 by omega,List.take_succ_eq_append_getElem (by simp;omega),List.take_set_of_le (Nat.le_refl _)]
   simp
  have e2:(cs.toList.set (o+i) v).drop (o+(i+1)+vs.length)=cs.toList.drop (o+i+(v::vs).length):=by
   rw[List.drop_set_of_lt (by omega)]
   congr 1
   simp;omega
  rw[e1,e2]
  simp
theorem JP{P:Program}{fs:Array Field}{ρ:List Nat}{m:Nat}{E:List (Nat×Option Tv)}{A:aU}(R:Rel ρ m E A):∀{ps:List (Nat×Operand)}{cs lQ:List Lf},EO P fs E cs ps=some lQ->
 Instr.fill ((ia P fs.toList).toArray[·]?) (dB ρ cs).toArray (ps.map fun p=>(p.1,fh A p.2))=some (dB ρ lQ).toArray/\(bS m cs=true->bS m lQ=true)/\(cD cs->cD lQ)
 |[],cs,lQ,h=>by
  simp only[EO,Option.some.injEq]at h
  subst h
  exact⟨rfl,fun h=>h,fun h=>h⟩
 |(i,x)::ps,cs,lQ,h=>by
  simp only[EO]at h
  split at h
  ·rename_i f w hf hw
   obtain⟨w1,w2,w3⟩:=jh R hw
   split at h
   ·rename_i vs n Mt qA
    obtain⟨f1,f2⟩:=Co (ρ:=ρ) Mt
    obtain⟨g1,g2⟩:=xE Mt w1 w2
    split at h
    ·rename_i hn
     split at h
     ·rename_i c2 MW
      obtain⟨e1,e2,e3,e4⟩:=pW (ρ:=ρ) (m:=m) MW
      obtain⟨i1,i2,i3⟩:=JP R h
      have hl:(dB ρ vs).length=n:=by rw[eD,List.length_map,<-kk];exact Nat.eq_of_beq_eq_true hn
      have GV:(dB ρ cs).length=cs.length:=by rw[eD,List.length_map]
      have hvs:(dB ρ vs).length=vs.length:=by rw[eD,List.length_map]
      refine⟨?_,fun a=>i2 (e3 a g1),fun a=>i3 (e4 a g2)⟩
      rw[List.map_cons]
      unfold Instr.fill
      have hp:(ia P fs.toList).toArray[i]?=some (f.offset,n):=by
       rw[List.getElem?_toArray,vq]
       have:fs.toList[i]?=some f:=by simpa using hf
       rw[this,Option.map_some,qA]
       rfl
      simp only[hp,w3,f1]
      have Nw:¬((decide ((dB ρ vs).toArray.size≠n)||decide (f.offset+(dB ρ vs).toArray.size>(dB ρ cs).toArray.size))=true):=by
       simp only[List.size_toArray,Bool.or_eq_true,decide_eq_true_eq,not_or]
       omega
      rw[if_neg Nw]
      have abC:((dB ρ vs).toArray.zipIdx.foldl (fun(cs:Array Value)(p:Value×Nat)=>cs.setIfInBounds (f.offset+p.2) p.1) (dB ρ cs).toArray)=(dB ρ c2).toArray:=by
       apply Array.ext'
       rw[show((dB ρ vs).toArray.zipIdx)=((dB ρ vs).zipIdx 0).toArray by simp,List.foldl_toArray]
       rw[vt _ f.offset 0 _ (by simp;omega),e1,Nat.add_zero]
      exact(congrArg (fun z=>Instr.fill ((ia P fs.toList).toArray[·]?) z (ps.map fun p=>(p.1,fh A p.2))) abC).trans i1
     ·cases h
    ·cases h
   ·cases h
  ·cases h
theorem Lj{P:Program}{t:TypeId}{fs:Array Field}{z:Value}{K:Value->Prop}{ps:List (Nat×Value)}{cs:Array Value}(h1:P.underlying t=some (.struct fs))(h2:oG P t=some z)(h3:rZ P fs.toList=true)(h4:Instr.fill ((ia P fs.toList).toArray[·]?) z.cells ps=some cs)(H:K (.agg cs)):pop P (Instr.build t ps.toArray) K:=
 .mk' (fun w=>by
  unfold Instr.build
  have hz:(zeroValue t).run P w= .ok z w:=by
   unfold oG at h2
   cases hi:P.info? t with
   |none=>rw[hi]at h2;simp at h2
   |some i=>
    rw[hi]at h2
    simp only[Option.bind_some]at h2
    unfold zeroValue
    rw[aK (dR hi w)]
    simp[h2,pure,Sem.run]
  rw[aK hz,aK (bX h1 w)]
  simp only
  have hm:(fs.mapM (fun f=>do pure (f.offset,<-sizeOf f.type):Field->Sem (Nat×Nat))).run P w= .ok (ia P fs.toList).toArray w:=by
   rw[Array.mapM_eq_mapM_toList]
   show((List.toArray<$>(fs.toList.mapM (fun f=>do pure (f.offset,<-sizeOf f.type):Field->Sem (Nat×Nat))):Sem (Array (Nat×Nat)))).run P w=_
   rw[map_eq_pure_bind,aK (run_places h3)]
   rfl
  rw[aK hm]
  simp only[h4]
  rfl) H
theorem _root_.Array.lA{α:Type}{a:Array α}{x:α}(h:a.toList=[x]):a= #[x]:=by
 cases a with
 |mk l=>simp only at h;subst h;rfl
theorem Vz{P:Program}{s:St}{o:BinOp}{kd:IntKind}{a b:Int}{Vq:Bool}{t:TypeId}{x y:Operand}{K:Lf->Prop}{raw:Prop}{G:Value->Prop}(gi:∀z,K (.i kd z)->G (.int kd z))(gb:∀z,K (.b z none)->G (.bool z))(hc:Vq=true->b≠0)(H:Vp P s o kd a b Vq K raw)(hr:raw->pop P (lM o t x y (.int kd a) (.int kd b)) G):pop P (lM o t x y (.int kd a) (.int kd b)) G:=by
 cases o<;>simp only[Vp]at H
 case add=>exact QP (t:=t) kd a b (gi _ H)
 case sub=>exact QQ (t:=t) kd a b (gi _ H)
 case mul=>exact QR (t:=t) kd a b (gi _ H)
 case quo=>
  cases Vq with
  |true=>exact Jz (t:=t) kd a b (hc rfl) (gi _ H)
  |false=>exact Jz (t:=t) kd a b H.1 (gi _ H.2)
 case rem=>
  cases Vq with
  |true=>exact JA (t:=t) kd a b (hc rfl) (gi _ H)
  |false=>exact JA (t:=t) kd a b H.1 (gi _ H.2)
 case lss=>exact QS (t:=t) kd a b (gb _ H)
 case leq=>exact QT (t:=t) kd a b (gb _ H)
 case gtr=>exact QU (t:=t) kd a b (gb _ H)
 case geq=>exact QV (t:=t) kd a b (gb _ H)
 case eql=>exact QW (t:=t) kd x y a b (gb _ H)
 case neq=>exact QX (t:=t) kd x y a b (gb _ H)
 all_goals exact hr H
theorem Ny{y:Operand}{k:IntKind}{b:Int}{A:aU}(h:Nd y=true)(e:fh A y= .int k b):b≠0:=by
 unfold Nd at h
 split at h
 ·simp only[fh,Value.int.injEq]at e
  obtain⟨_,rfl⟩:=e
  intro h0
  cases h0
 ·simp only[fh,Value.int.injEq]at e
  obtain⟨_,rfl⟩:=e
  intro h0
  cases h0
 ·cases h
theorem VA{P:Program}{A:aU}{s:St}{ρ:List Nat}{h:Heap}{o:BinOp}{t:TypeId}{x y:Operand}{k:St->Tv->Prop}{raw:Prop}(I:Inv s ρ h)(R:Rel ρ s.m s.E A)(H:Vr P s o t y (lf s.E x) (lf s.E y) (Nf s k) raw)
 (hr:raw->pop P (lM o t x y (fh A x) (fh A y)) fun v=>iH A s ρ k v h):pop P (lM o t x y (fh A x) (fh A y)) fun v=>iH A s ρ k v h:=by
 have gi:∀kd z,Nf s k (.i kd z)->iH A s ρ k (.int kd z) h:=fun kd z h3=>bD (x:= .v (.l (.i kd z))) I R rfl rfl trivial h3
 have gb:∀z,Nf s k (.b z none)->iH A s ρ k (.bool z) h:=fun z h3=>bD (x:= .v (.l (.b z none))) I R rfl rfl trivial h3
 have gs:∀z,Nf s k (.s z)->iH A s ρ k (.string z) h:=fun z h3=>bD (x:= .v (.l (.s z))) I R rfl rfl trivial h3
 unfold Vr at H
 split at H
 ·rename_i kd a kd' b hx hy
  split at H
  ·rename_i hk
   obtain rfl:=of_decide_eq_true hk
   have e1:=(ft R hx).2.2
   have e2:=(ft R hy).2.2
   rw[e1,e2]at hr⊢
   exact Vz (gi _) gb (fun hc=>Ny hc e2) H hr
  ·exact hr H
 ·rename_i a _ b _ hx hy
  have e1:=(ft R hx).2.2
  have e2:=(ft R hy).2.2
  split at H
  ·rename_i ht
   split at H
   ·rw[e1,e2]
    exact QY ht x y a b (gb _ H)
   ·rw[e1,e2]
    exact QZ ht x y a b (gb _ H)
   ·exact hr H
  ·exact hr H
 ·rename_i a b hx hy
  have e1:=(ft R hx).2.2
  have e2:=(ft R hy).2.2
  split at H
  ·rw[e1,e2]
   exact MU (t:=t) a b H.1 (gs _ H.2)
  ·rw[e1,e2]
   exact Q5 x y a b (gb _ H)
  ·rw[e1,e2]
   exact Q8 x y a b (gb _ H)
  ·exact hr H
 ·exact hr H
theorem HG{ρ:List Nat}{m:Nat}{E:List (Nat×Option Tv)}{A:aU}(R:Rel ρ m E A):∀{l:List Operand}{cs:List Cp},AQ E l=some cs->mV (fh A) l=EL ρ cs/\nR m cs=true
 |[],cs,h=>by
  simp only[AQ,Option.some.injEq]at h
  subst h
  exact⟨rfl,rfl⟩
 |x::l,cs,h=>by
  simp only[AQ]at h
  split at h
  ·rename_i c lQ hc GV
   have h:=Option.some.inj h
   subst h
   obtain⟨i1,i2⟩:=HG R GV
   have key:fh A x=c.v' ρ/\Nb m c=true:=by
    unfold abx at hc
    split at hc
    all_goals first
     |(rename_i hx
       have h:=Option.some.inj hc
       subst h
       obtain⟨a1,a2,a3⟩:=jh R hx
       exact⟨a3,a1⟩)
     |(rename_i hx
       have h:=Option.some.inj hc
       subst h
       obtain⟨a1,a2,a3⟩:=jh R hx
       exact⟨a3,rfl⟩)
     |cases hc
   exact⟨by simp only[mV,EL];rw[key.1,i1],by simp[nR,key.2,i2]⟩
  ·cases h
theorem JQ{ρ:List Nat}{m:Nat}:∀{xs:List Av}{i:Nat}{y:Av},Li xs i=some y->(Ux ρ xs).toArray[i]?=some (y.v ρ)/\(nS m xs=true->y.ok m=true)/\(we xs->y.fact)
 |[],i,y,h=>by simp[Li]at h
 |x::xs,0,y,h=>by
  simp only[Li,Option.some.injEq]at h
  subst h
  exact⟨by simp[Ux],fun a=>by simp only[nS,Bool.and_eq_true]at a;exact a.1,fun a=>a.1⟩
 |x::xs,i+1,y,h=>by
  simp only[Li]at h
  obtain⟨h1,h2,h3⟩:=JQ (ρ:=ρ) (m:=m) h
  exact⟨by simpa[Ux]using h1,fun a=>by simp only[nS,Bool.and_eq_true]at a;exact h2 a.2,fun a=>h3 a.2⟩
theorem Nz{P:Program}{A:aU}{s:St}{ρ:List Nat}{h:Heap}{x:Operand}{v:Option Addr}{e:TypeId}{k:St->Tv->Prop}(I:Inv s ρ h)(R:Rel ρ s.m s.E A)(hx:fh A x= .pointer v)(H:EP P s x v e k):pop P (MM (fh A x)) fun v=>iH A s ρ k v h:=by
 unfold EP at H
 obtain⟨s',C,hE,hL,hm,jK,b,H⟩:=iG I H
 have R':Rel ρ s'.m s'.E A:=by rw[hE,hm];exact R
 obtain⟨ys,⟨hv,hV,hk⟩,y1,y2⟩:=oQ H
 rw[C.r,C.h]at hV
 rw[hx,hv]
 have hl:eM (ρ++[b]) s'.m=b:=by rw[<-C.len];exact sd ρ b []
 have Rx:=R'.ext (y:=[b]) (n:=s'.m+1) C.len (by omega)
 refine wc _ ⟨_,.v (.l (.p s'.m 0)),ρ++[b],((⟨?_,by simp[C.len],by rw[C.r],C.h,C.nw,C.so,C.d,?_,⟨y2,C.wj⟩⟩:Cl {s' with E:=EP.Vt s'.E x s'.m,L:=(s'.m,ys)::s'.L,ρ:=s'.ρ++[b],m:=s'.m+1} (ρ++[b]) h)).inv,?_,?_,?_,trivial,(fE hm hL jK).trans ⟨Nat.le_succ _,⟨[],rfl,fun id _ hid=>qU hid⟩,⟨[b],rfl⟩⟩,hk⟩
 ·show Vars h ((eM (ρ++[b]) s'.m,dB (ρ++[b]) ys)::kh (ρ++[b]) s'.L)
  rw[hl,hJ (y1 _),wi (by rw[C.len];exact C.tM)]
  exact hV
 ·simp[rM,y1,Ro (Nat.le_succ _) C.tM]
 ·show Rel (ρ++[b]) (s'.m+1) (EP.Vt s'.E x s'.m) A
  cases x with
  |tmp t=>
   refine⟨fun t' z hz=> ?_⟩
   have hz:(match Nat.beq t t' with|true=>some (.v (.l (.p s'.m 0)))|false=>qe s'.E t')=some z:=hz
   cases hb:Nat.beq t t' with
   |true=>
    rw[hb]at hz
    have hz:=Option.some.inj hz
    subst hz
    have:=Nat.eq_of_beq_eq_true hb
    subst this
    refine⟨fb.2 (Nat.lt_succ_self _),trivial,?_⟩
    show lP A t=VP (eM (ρ++[b]) s'.m) 0
    rw[hl]
    rw[hv]at hx
    exact hx
   |false=>rw[hb]at hz;exact Rx.get t' z hz
  |const c=>exact Rx
  |global g=>exact Rx
  |func f=>exact Rx
 ·show VP b 0=VP (eM (ρ++[b]) s'.m) 0
  rw[hl]
 ·exact fb.2 (Nat.lt_succ_self _)
theorem sr{P:Program}{A:aU}{s:St}{ρ:List Nat}{h:Heap}{op:Op}{ty:TypeId}{k:St->Tv->Prop}(I:Inv s ρ h)(R:Rel ρ s.m s.E A)(H:EQ P s op ty k):fk P (fh A) op ty h (iH A s ρ k):=by
 unfold EQ at H
 split at H
 ·--move
  rename_i x
  split at H
  ·rename_i y hy
   obtain⟨h1,h2,h3⟩:=jh R hy
   exact bD I R h3 h1 h2 H
  ·exact H.elim
 ·rename_i x
  split at H
  ·rename_i y hy
   obtain⟨h1,h2,h3⟩:=jh R hy
   exact bD I R h3 h1 h2 H
  ·exact H.elim
 ·--call
  exact Rp I R H
 ·--len
  rename_i args ats
  split at H
  ·rename_i x t hx ht
   split at H
   ·rename_i z e hz hu
    have e1:=(ft R hz).2.2
    refine cM (q:=Builtin.len_ ats ty (mV (fh A) args.toList).toArray) rfl rfl rfl ?_
    rw[hx,Array.lA ht]
    simp only[mV,e1]
    exact Q4 z ty e hu (bD (x:= .v (.l (.i .i64 (z.n:Int)))) I R rfl rfl trivial H)
   ·rename_i z hz hu
    have e1:=(ft R hz).2.2
    refine cM (q:=Builtin.len_ ats ty (mV (fh A) args.toList).toArray) rfl rfl rfl ?_
    rw[hx,Array.lA ht]
    simp only[mV,e1]
    exact MT z ty hu (bD (x:= .v (.l (.i .i64 (z.size:Int)))) I R rfl rfl trivial H)
   ·exact iJ I R H
  ·exact iJ I R H
 ·--binOp
  rename_i o t x y _
  have hr:∀q,(fk P (fh A) (.binOp o t x y q) ty h (iH A s ρ k)↔pop P (lM o t x y (fh A x) (fh A y)) fun v=>iH A s ρ k v h):=fun q=>Iff.rfl
  rw[hr]
  exact VA I R H fun NA=>(hr _).1 (iJ I R NA)
 ·--unOp
  rename_i o t x
  split at H
  ·rename_i z kn hz
   obtain⟨f1,f2,e1⟩:=ft R hz
   refine cM (q:=Op.unary .not (fh A x)) rfl rfl rfl ?_
   rw[e1]
   refine Q0 z (bD (x:= .v (.l (.b (!z) (Rj kn)))) I R rfl rfl ?_ H)
   show Lf.fact (.b (!z) (Rj kn))
   unfold Rj
   split
   ·rename_i v
    have:z=v:=f2
    subst this
    rfl
   ·trivial
  ·rename_i kd z hz
   have e1:=(ft R hz).2.2
   refine cM (q:=Op.unary .neg (fh A x)) rfl rfl rfl ?_
   rw[e1]
   exact Q2 kd z (bD (x:= .v (.l (.i kd (kd.wrap (0-z))))) I R rfl rfl trivial H)
  ·exact iJ I R H
 ·--pick
  rename_i c a b
  split at H
  ·rename_i z kn hz
   have e1:=(ft R hz).2.2
   obtain⟨b1,b2⟩:=xC I R hz H
   refine cM (q:=Jx (fh A c) (fh A a) (fh A b)) rfl rfl rfl ?_
   rw[e1]
   have fin:∀(s':St)(w:Operand),Inv s' ρ h->Rel ρ s'.m s'.E A->s'.m=s.m->s'.L=s.L->s'.md=s.md->(match xy s.E w with|some y=>k s' y|none=>False)->iH A s ρ k (fh A w) h:=fun s' w I' R' hm hL jK hq=>by
    split at hq
    ·rename_i y hy
     obtain⟨g1,g2,g3⟩:=jh R hy
     exact iI I' R' (fE hm hL jK) g3 (by rw[hm];exact g1) g2 hq
    ·exact hq.elim
   refine Le (fun e=> ?_) (fun e=> ?_)
   ·obtain⟨s',I',R',hm,hL,jK,hq⟩:=b1 e
    exact fin s' a I' R' hm hL jK hq
   ·obtain⟨s',I',R',hm,hL,jK,hq⟩:=b2 e
    exact fin s' b I' R' hm hL jK hq
  ·exact iJ I R H
 ·--nilCheck
  rename_i x
  split at H
  ·rename_i id off hz
   obtain⟨g1,g2,e1⟩:=ft R hz
   refine cM (q:=MM (fh A x)) rfl rfl rfl ?_
   rw[e1]
   exact wc _ (bD (x:= .v (.l (.p id off))) I R rfl g1 trivial H)
  ·rename_i z i sz off hz
   obtain⟨g1,g2,e1⟩:=ft R hz
   refine cM (q:=MM (fh A x)) rfl rfl rfl ?_
   rw[e1]
   cases off with
   |none=>exact wc _ (bD (x:= .v (.l (.e z i sz none))) I R rfl g1 trivial H)
   |some o=>exact wc _ (bD (x:= .v (.l (.e z i sz (some o)))) I R rfl g1 trivial H)
  ·rename_i v e hz
   obtain⟨g1,g2,e1⟩:=ft R hz
   refine cM (q:=MM (fh A x)) rfl rfl rfl ?_
   exact Nz I R (by rw[e1];rfl) H
  ·exact iJ I R H
 ·--makeFunc
  rename_i fn first cap
  split at H
  ·rename_i fs cs h1 h2
   obtain⟨a1,a2⟩:=HG R h1
   obtain⟨b1,b2⟩:=HG R h2
   refine cM (q:=Instr.makeFunc fn (mV (fh A) first.toList).toArray (mV (fh A) cap.toList).toArray) rfl rfl rfl ?_
   rw[a1,b1]
   exact MV fn _ _ (bD (x:= .v (.l (.f fn fs cs))) I R rfl (by show(nR _ fs&&nR _ cs)=true;rw[a2,b2];rfl) trivial H)
  ·exact H.elim
 ·--fieldAddr
  rename_i t x i
  split at H
  ·rename_i id off o hz ho
   obtain⟨g1,g2,e1⟩:=ft R hz
   refine cM (q:=Instr.fieldAt t (fh A x) i) rfl rfl rfl ?_
   rw[e1]
   exact Lb i ho _ _ (bD (x:= .v (.l (.p id (off+o)))) I R rfl g1 trivial H)
  ·rename_i z j sz o hz ho
   obtain⟨g1,g2,e1⟩:=ft R hz
   refine cM (q:=Instr.fieldAt t (fh A x) i) rfl rfl rfl ?_
   rw[e1]
   exact Hv i ho _ (bD (x:= .v (.l (.e z j sz (some o)))) I R rfl rfl trivial H)
  ·exact iJ I R H
 ·--indexAddr
  rename_i t x ix
  split at H
  ·rename_i z kd j e hz hj hu
   have e1:=(ft R hz).2.2
   have e2:=(ft R hj).2.2
   split at H
   ·rename_i sz qA
    refine cM (q:=Instr.indexAt t (fh A x) (fh A ix)) rfl rfl rfl ?_
    rw[e1,e2]
    exact Ld hu qA kd z j H.1 (bD (x:= .v (.l (.e z j sz none))) I R rfl rfl trivial H.2)
   ·exact H.elim
  ·exact iJ I R H
 ·--extract
  rename_i t ix
  split at H
  ·rename_i xs hx
   obtain⟨g1,g2,g3⟩:=jh R hx
   split at H
   ·rename_i y hy
    obtain⟨a1,a2,a3⟩:=JQ (ρ:=ρ) (m:=s.m) hy
    refine cM (q:=Instr.extract (fh A t) ix) rfl rfl rfl ?_
    rw[g3]
    exact Q3 a1 (bD (x:= .v y) I R rfl (a2 g1) (a3 g2) H)
   ·exact H.elim
  ·exact iJ I R H
 ·--field
  rename_i t x i
  split at H
  ·rename_i xs fs hx hu
   obtain⟨g1,g2,g3⟩:=jh R hx
   split at H
   ·rename_i f hf
    refine cM (q:=Instr.field t (fh A x) i) rfl rfl rfl ?_
    rw[g3]
    split at H
    ·rename_i h1
     split at H
     ·rename_i y hy
      obtain⟨c1,c2⟩:=pV hy g1 g2
      exact Nu hu hf h1 (Cr hy) (bD (x:= .v (.l y)) I R rfl (cO.1 c1 y (by simp)) (bT.1 c2 y (by simp)) H)
     ·exact H.elim
    ·split at H
     ·rename_i n h2
      split at H
      ·rename_i ys hy
       obtain⟨c1,c2⟩:=pV hy g1 g2
       exact Nv hu hf h2 (bD (x:= .v (.a ys)) I R (by rw[Rr hy];rfl) c1 c2 H)
      ·exact H.elim
     ·exact H.elim
   ·exact H.elim
  ·exact iJ I R H
 ·--build
  rename_i t parts
  split at H
  ·rename_i fs zs hu hz
   split at H
   ·rename_i cs hs Mt
    unfold JI at hz
    split at hz
    ·rename_i z hz0
     have hz:=Option.some.inj hz
     obtain⟨o1,o2,o3⟩:=Cq ρ z.cells.toList
     rw[hz]at o1 o2 o3
     obtain⟨f1,f2,f3⟩:=JP R Mt
     rw[o1]at f1
     refine cM (q:=Instr.build t (parts.toList.map fun p=>(p.1,fh A p.2)).toArray) rfl rfl rfl ?_
     exact Lj hu hz0 hs f1 (bD (x:= .v (.a cs)) I R rfl (f2 (o2 _)) (f3 o3) H)
    ·cases hz
   ·exact H.elim
  ·exact iJ I R H
 ·--load
  rename_i t x
  have hr:(fk P (fh A) (.load t x) ty h (iH A s ρ k)↔zZ P (Instr.loadAt t (fh A x)) h fun v=>iH A s ρ k v h):=Iff.rfl
  rw[hr]
  exact Rq I R H fun NA=>hr.1 (iJ I R NA)
 ·--store
  rename_i t x v
  have hr:(fk P (fh A) (.store t x v) ty h (iH A s ρ k)↔Aw P (Instr.storeAt t (fh A x) (fh A v)) h (iH A s ρ k)):=Iff.rfl
  rw[hr]
  exact Ns I R H fun NA=>hr.1 (iJ I R NA)
 ·--box
  rename_i t v
  split at H
  ·rename_i y hy
   obtain⟨g1,g2,g3⟩:=jh R hy
   split at H
   ·rename_i cs Mt
    obtain⟨f1,f2⟩:=Co (ρ:=ρ) Mt
    obtain⟨o1,o2⟩:=xE Mt g1 g2
    show jU P (Instr.box t (fh A v)) h _
    rw[g3]
    exact Ra t _ f1 I.vars fun b h1 hb f V=>A4 I R hb f V o1 o2 H
   ·exact H.elim
  ·exact H.elim
 ·--alloc
  rename_i t
  split at H
  ·rename_i cs hz
   unfold JI at hz
   split at hz
   ·rename_i z hz0
    have hz:=Option.some.inj hz
    obtain⟨o1,o2,o3⟩:=Cq ρ z.cells.toList
    rw[hz]at o1 o2 o3
    show jU P (Instr.alloc t true (.tuple #[])) h _
    exact Lc t hz0 (cs:=dB ρ cs) (by rw[o1]) I.vars fun b h1 hb f V=>A4 I R hb f V (o2 _) o3 H
   ·cases hz
  ·exact H.elim
 all_goals exact iJ I R H
theorem nk{P:Program}{ops:List Oper}{A:aU}{h:Heap}{o:Oper}{k k':Value->Heap->Prop}(H:lr P ops A h o k)(hk:∀v h,k v h->k' v h):lr P ops A h o k':=by
 unfold lr at*
 cases hg:o.guard with
 |none=>rw[hg]at H;simp only[kJ]at H⊢;exact jd hk H
 |some p=>
  obtain⟨j,want⟩:=p
  rw[hg]at H
  obtain⟨b,hb,h1,h2⟩:=H
  exact⟨b,hb,fun e=>by have:=h1 e;rw[kJ]at this⊢;exact jd hk this,fun e=>hk _ _ (h2 e)⟩
theorem EZ{P:Program}{ops:List Oper}{A:aU}{h:Heap}{o:Oper}{k:Value->Heap->Prop}(hq:(vd o.op||zV o.op)=true)(H:lr P ops A h o k):lr P ops A h o fun v h'=>h'=h/\MN P ops A h o v/\k v h':=by
 unfold lr at*
 cases hg:o.guard with
 |none=>
  rw[hg]at H
  simp only[kJ]at H⊢
  obtain⟨v,h1,h2⟩:=(gy hq).1 H
  exact(gy hq).2 ⟨v,h1,rfl,by unfold MN;rw[hg];exact h1,h2⟩
 |some p=>
  obtain⟨j,want⟩:=p
  rw[hg]at H
  obtain⟨b,hb,h1,h2⟩:=H
  refine⟨b,hb,fun e=> ?_,fun e=>⟨rfl,by unfold MN;rw[hg];exact⟨b,hb,fun e'=>absurd e' e,fun _=>rfl⟩,h2 e⟩⟩
  have h1:=h1 e
  rw[kJ]at h1⊢
  obtain⟨v,h3,h4⟩:=(gy hq).1 h1
  exact(gy hq).2 ⟨v,h3,rfl,by unfold MN;rw[hg];exact⟨b,hb,fun _=>h3,fun e'=>absurd e e'⟩,h4⟩
theorem wo{A:aU}{s s1:St}{ρ:List Nat}{k:St->Tv->Prop}{v:Value}{h:Heap}(hm:s1.m=s.m)(hL:s1.L=s.L)(jK:s1.md=s.md)(H:iH A s1 ρ k v h):iH A s ρ k v h:=by
 obtain⟨s',x,iX,a1,a2,a3,a4,a5,a6,a7⟩:=H
 exact⟨s',x,iX,a1,a2,a3,a4,a5,(fE hm hL jK).trans a6,a7⟩
theorem xF{P:Program}{ops:List Oper}{A:aU}{s:St}{ρ:List Nat}{h:Heap}{o:Oper}{k:St->Tv->Prop}(I:Inv s ρ h)(R:Rel ρ s.m s.E A)(H:ER P ops s o k):lr P ops A h o (iH A s ρ k):=by
 unfold ER at H
 unfold lr
 cases hg:o.guard with
 |none=>rw[hg]at H;simp only[kJ];exact sr I R H
 |some p=>
  obtain⟨j,want⟩:=p
  rw[hg]at H
  simp only at H⊢
  have skip:k s (.v (.l .u))->jc ops A j=undef->Hg (KZ (jc ops A j) want) want (xd P A o.op o.type h) h (iH A s ρ k):=fun hk hu=>by
   rw[hu]
   exact⟨!want,rfl,fun e=>absurd e (by cases want<;>decide),fun _=>bD (x:= .v (.l .u)) I R rfl rfl trivial hk⟩
  cases ht:wR ops j with
  |none=>
   rw[ht]at H
   exact skip H (by unfold jc;rw[ht])
  |some t=>
   rw[ht]at H
   simp only at H
   split at H
   ·rename_i x kn hx
    have hlf:lf s.E (.tmp t)=some (.b x kn):=by unfold lf xy;simp only[hx]
    have hv:jc ops A j= .bool x:=by unfold jc;rw[ht];exact(R.get t _ hx).2.2
    obtain⟨b1,b2⟩:=xC I R hlf H
    rw[hv]
    refine⟨x,rfl,fun e=> ?_,fun e=> ?_⟩
    ·rw[kJ]
     cases want with
     |true=>
      obtain⟨s',I',R',hm,hL,jK,hq⟩:=b1 e
      exact jd (fun v h=>wo hm hL jK) (sr I' R' hq)
     |false=>
      obtain⟨s',I',R',hm,hL,jK,hq⟩:=b2 e
      exact jd (fun v h=>wo hm hL jK) (sr I' R' hq)
    ·cases want with
     |true=>
      obtain⟨s',I',R',hm,hL,jK,hq⟩:=b2 (by simpa using e)
      exact wo hm hL jK (bD (x:= .v (.l .u)) I' R' rfl rfl trivial hq)
     |false=>
      obtain⟨s',I',R',hm,hL,jK,hq⟩:=b1 (by simpa using e)
      exact wo hm hL jK (bD (x:= .v (.l .u)) I' R' rfl rfl trivial hq)
   ·rename_i hx
    exact skip H (by unfold jc;rw[ht];exact(R.get t _ hx).2.2)
   ·exact H.elim
def To(s0:St)(tu:List Nat)(K:St->Prop)(K':aU->Heap->Prop):Prop:=∀s ρ A h,Inv s ρ h->Rel ρ s.m s.E A->Nx s0 tu s ρ->K s->K' A h
theorem su{n:Nat}{s:St}{ρ:List Nat}{h:Heap}{A:aU}{dst:Option Tmp}{x:Tv}{v:Value}(I:Inv s ρ h)(R:Rel ρ s.m s.E A)(hv:v=x.val ρ)(ho:x.ok s.m=true)(hf:x.fact):
 Inv (vK n s dst x) ρ h/\Rel ρ (vK n s dst x).m (vK n s dst x).E (wZ n A dst v)/\(vK n s dst x).m=s.m/\(vK n s dst x).L=s.L/\(vK n s dst x).md=s.md:=by
 unfold vK wZ
 cases dst with
 |none=>exact⟨I,R,rfl,rfl,rfl⟩
 |some d=>
  simp only
  cases hb:Nat.blt d n with
  |false=>exact⟨I,R,rfl,rfl,rfl⟩
  |true=>
   refine⟨⟨I.vars,I.len,I.ext,I.fr,I.cln,I.so,I.tM,I.wj⟩,⟨fun t y hy=> ?_⟩,rfl,rfl,rfl⟩
   simp only[qe]at hy
   simp only[lP]
   cases hd:Nat.beq d t with
   |true=>
    rw[hd]at hy
    have hy:=Option.some.inj hy
    subst hy
    exact⟨ho,hf,hv⟩
   |false=>rw[hd]at hy;exact R.get t y hy
theorem NB{P:Program}{n:Nat}{ops:List Oper}{s0:St}{tu:List Nat}{K:St->Prop}{K':aU->Heap->Prop}(hK:To s0 tu K K'):∀{l:List Oper}{s:St}{ρ:List Nat}{A:aU}{h:Heap},Inv s ρ h->Rel ρ s.m s.E A->Nx s0 tu s ρ->tIn P n ops l s K->AG P n ops l A h K'
 |[],s,ρ,A,h,I,R,N,H=>hK s ρ A h I R N H
 |o::os,s,ρ,A,h,I,R,N,H=>by
  simp only[tIn]at H
  simp only[AG]
  refine nk (xF I R H) fun v h' ⟨s',x,iX,a1,a2,a3,a4,a5,a6,a7⟩=> ?_
  rw[gU]
  obtain⟨b1,b2,b3,b4,b5⟩:=su (n:=n) (dst:=o.dst) a1 a2 a3 a4 a5
  exact NB hK b1 b2 ((N.trans a6).trans (fE b3 b4 b5)) a7
theorem tP(a b:List Nat):sa b (a++b)=a:=by
 unfold sa
 rw[ly,ly,List.length_append,Nat.add_sub_cancel]
 induction a with
 |nil=>rfl
 |cons x a ih=>simp only[List.length_cons,List.cons_append,sa.takeN];rw[ih]
def NC(P:Program)(p:Heap->Prop)(t:Ht)(s:St)(ρ:List Nat):Prop:=
 match t with
 | .UB=>∀g,p g
 | .bad=>True
 | .au id off t ys=>∃sb Rs,Nx sb Rs s ρ/\id<sb.m/\cE s.L id=cE sb.L id/\∀s' iX g,Inv s' iX g->Nx sb Rs s' iX->cE s'.L id=cE sb.L id->p g
 | .ce a v=>∀g,aS g a=some v->p g
 | .cs a vs=>∀g,lx g a vs->p g
 | .se q v=>∀g,(∀w:World,w.heap=g->q.run P w= .ok v w)->p g
inductive GZ(P:Program)(s:St)(ρ:List Nat):kf->List (Nat×Ht)->Prop where
 |nil:GZ P s ρ [] []
 |cons {i:Nat} {p:Heap->Prop} {t:Ht} {S:kf} {T:List (Nat×Ht)}:NC P p t s ρ->GZ P s ρ S T->GZ P s ρ ((i,p)::S) ((i,t)::T)
theorem GZ.keep{P:Program}{s:St}{ρ:List Nat}{bf:List Nat}:∀{S:kf}{T:List (Nat×Ht)},GZ P s ρ S T->GZ P s ρ (qx bf S) (AR bf T)
 |_,_,.nil=> .nil
 |_,_,.cons (i:=i) h1 h2=>by
  simp only[qx,AR]
  cases eH bf i with
  |true=>exact h2.keep
  |false=>exact .cons h1 h2.keep
theorem GZ.step{P:Program}{s s':St}{ρ iX:List Nat}(N:Nx s ρ s' iX):∀{S:kf}{T:List (Nat×Ht)},GZ P s ρ S T->oN (sa s.md s'.md) T=true->GZ P s' iX S T
 |_,_,.nil,_=> .nil
 |_,_,.cons (t:=t) h1 h2,ha=>by
  cases t with
  |au id off ty ys=>
   simp only[oN,Bool.and_eq_true,Bool.not_eq_true']at ha
   refine .cons ?_ (h2.step N ha.2)
   obtain⟨sb,Rs,c1,c2,c3,c4⟩:=h1
   refine⟨sb,Rs,c1.trans N,c2,?_,c4⟩
   obtain⟨new,d1,d2⟩:=N.md
   rw[d1,tP]at ha
   rw[d2 id ha.1 (by have:=c1.m;omega),c3]
  |UB=>exact .cons h1 (h2.step N ha)
  |bad=>exact .cons h1 (h2.step N ha)
  |ce a v=>exact .cons h1 (h2.step N ha)
  |cs a vs=>exact .cons h1 (h2.step N ha)
  |se q v=>exact .cons h1 (h2.step N ha)
theorem GZ.tell{P:Program}{s:St}{ρ:List Nat}{g:Heap}{K:Prop}{K':Prop}(I:Inv s ρ g):∀{S:kf}{T:List (Nat×Ht)},GZ P s ρ S T->AU P g K T->(K->K')->MI g K' S
 |_,_,.nil,H,hk=>hk H
 |_,_,.cons (t:=t) h1 h2,H,hk=>by
  cases t with
  |UB=>exact⟨h1 g,h2.tell I H hk⟩
  |bad=>exact H.elim
  |au id off ty ys=>
   obtain⟨sb,Rs,c1,c2,c3,c4⟩:=h1
   exact⟨c4 s ρ g I c1 c3,h2.tell I H hk⟩
  |ce a v=>exact⟨h1 g H.1,h2.tell I H.2 hk⟩
  |cs a vs=>exact⟨h1 g H.1,h2.tell I H.2 hk⟩
  |se q v=>exact⟨h1 g H.1,h2.tell I H.2 hk⟩
theorem JR{P:Program}{s:St}{ρ:List Nat}{g:Heap}(I:Inv s ρ g){id off:Nat}{cs:List Lf}(hf:cE s.L id=some cs){t:TypeId}(h1:gV P t=true){y:Lf}(hy:ld cs off 1=some [y]):∀w:World,w.heap=g->(Instr.loadAt t (VP (eM ρ id) off)).run P w= .ok (y.v ρ) w:=by
 obtain⟨i,hi,_⟩:=kz (ρ:=ρ) hf
 have:=Cr (ρ:=ρ) hy
 exact Lg h1 I.vars i hi off (by simpa using this)
theorem E0{P:Program}{s:St}{ρ:List Nat}{g:Heap}(I:Inv s ρ g){id off n:Nat}{cs:List Lf}(hf:cE s.L id=some cs){t:TypeId}(h1:qQ P t=some n){ys:List Lf}(hy:ld cs off n=some ys):∀w:World,w.heap=g->(Instr.loadAt t (VP (eM ρ id) off)).run P w= .ok (.agg (dB ρ ys).toArray) w:=by
 obtain⟨i,hi,_⟩:=kz (ρ:=ρ) hf
 obtain⟨e1,e2⟩:=tN (ρ:=ρ) hy
 exact Hr h1 I.vars i hi off e1 e2
def wAt(h:Heap):World:={heap:=h,tape:=fun _ _=>0,drawn:=0,os:=default,output:= #[]}
theorem HH{s:St}{ρ:List Nat}{h:Heap}(I:Inv s ρ h){x:Tv}(hx:x.ok (iA s.ρ)=true):x.val ρ=x.val s.ρ:=by
 obtain⟨y,e,_,_⟩:=I.ext
 rw[e]
 exact Cm (by rw[<-ly];exact hx)
theorem E2{P:Program}{A:aU}{s:St}{ρ:List Nat}{h:Heap}{op:Op}{ty:TypeId}{x:Tv}{v:Value}(I:Inv s ρ h)(R:Rel ρ s.m s.E A)(hq:zV op=true)(hv:v=x.val ρ):NC P (fun g=>Yx P (fh A) op ty g v) (r8.JJ P s op x) s ρ:=by
 unfold r8.JJ
 split
 ·rename_i q hd hx hr
  intro g hg
  simp only[zV,Bool.and_eq_true]at hq
  have h1:gw op=none:=by simpa using hq.1
  have h2:jF (fh A) ty op=none:=by
   have:=lm fm (fh A) 0 ty op
   have h3:(jF fm 0 op).isSome=false:=by simpa using hq.2.2.1
   rw[h3]at this
   cases hp:jF (fh A) ty op with
   |none=>rfl
   |some _=>rw[hp]at this;cases this
  have hc:oc (fh A) op=oc (Em s.ρ s.E) op:=mZ fun y hy=>lz I R hd y (by simpa using hy)
  unfold Yx
  simp only[h1,h2,hc,hr]
  rw[hv,HH I hx]
  exact hg
 ·trivial
theorem E3{P:Program}{A:aU}{s:St}{ρ:List Nat}{h:Heap}{op:Op}{ty:TypeId}{x:Tv}{v:Value}(I:Inv s ρ h)(R:Rel ρ s.m s.E A)(hq:zV op=true)(hv:v=x.val ρ)(hy:Yx P (fh A) op ty h v):NC P (fun g=>Yx P (fh A) op ty g v) (r8 P s op x) s ρ:=by
 unfold r8
 split
 ·rename_i t a
  split
  ·rename_i id off hz
   have hp:fh A a=VP (eM ρ id) off:=(ft R hz).2.2
   have hy:∀w:World,w.heap=h->(Instr.loadAt t (fh A a)).run P w= .ok v w:=hy
   rw[hp]at hy
   have abE:∀g,(∀w:World,w.heap=g->(Instr.loadAt t (VP (eM ρ id) off)).run P w= .ok v w)->Yx P (fh A) (.load t a) ty g v:=fun g hg=>by
    show∀w:World,w.heap=g->(Instr.loadAt t (fh A a)).run P w= .ok v w
    rw[hp]
    exact hg
   split
   ·rename_i cs hf
    have hid:=(kL hf I.tM I.wj).1
    have GV:=(kL hf I.tM I.wj).2.1
    have later:∀s' iX g,Inv s' iX g->Nx s ρ s' iX->eM iX id=eM ρ id/\dB iX cs=dB ρ cs:=fun s' iX g I' N=>by
     obtain⟨y,hy⟩:=N.r
     rw[hy]
     exact⟨jJ _ _ _ (by rw[I.len];exact hid),hJ (by rw[I.len];exact GV)⟩
    split
    ·rename_i h1
     split
     ·rename_i y HI
      have e0:=JR I hf h1 HI (wAt h) rfl
      rw[hy (wAt h) rfl]at e0
      have ev:v=y.v ρ:=by simpa using e0
      refine⟨s,ρ,Nx.refl _ _,hid,rfl,fun s' iX g I' N hf'=>abE g fun w hw=> ?_⟩
      have e1:=JR I' (hf'.trans hf) h1 HI w hw
      obtain⟨l1,l2⟩:=later s' iX g I' N
      rw[l1]at e1
      rw[e1,ev]
      have yo:y.ok ρ.length=true:=by
       rw[I.len]
       exact cO.1 (pV HI GV (kL hf I.tM I.wj).2.2).1 y (by simp)
      obtain⟨z,hz⟩:=N.r
      rw[hz,HD yo]
     ·trivial
    ·split
     ·rename_i n h2
      split
      ·rename_i ys HI
       have e0:=E0 I hf h2 HI (wAt h) rfl
       rw[hy (wAt h) rfl]at e0
       have ev:v= .agg (dB ρ ys).toArray:=by simpa using e0
       refine⟨s,ρ,Nx.refl _ _,hid,rfl,fun s' iX g I' N hf'=>abE g fun w hw=> ?_⟩
       have e1:=E0 I' (hf'.trans hf) h2 HI w hw
       obtain⟨l1,l2⟩:=later s' iX g I' N
       rw[l1]at e1
       rw[e1,ev]
       have yo:bS ρ.length ys=true:=by
        rw[I.len]
        exact(pV HI GV (kL hf I.tM I.wj).2.2).1
       obtain⟨z,hz⟩:=N.r
       rw[hz,hJ yo]
      ·trivial
     ·trivial
   ·trivial
  ·rename_i z i sz off hz
   have hv0:=(ft R hz).2.2
   have ha:fh A a= .pointer (some (loadT.Qu z i sz off)):=by rw[hv0];cases off<;>rfl
   split
   ·rename_i z' hx
    split
    ·rename_i h1
     intro g hg
     show∀w:World,w.heap=g->(Instr.loadAt t (fh A a)).run P w= .ok v w
     rw[ha,hv,HH I hx]
     exact AM h1 hg
    ·trivial
   ·rename_i zs hx
    split
    ·rename_i n h2
     split
     ·rename_i hn
      intro g hg
      show∀w:World,w.heap=g->(Instr.loadAt t (fh A a)).run P w= .ok v w
      rw[ha,hv,HH I hx]
      exact AN h2 (dB s.ρ zs) (by rw[eD,List.length_map,<-kk];exact Nat.eq_of_beq_eq_true hn) hg
     ·trivial
    ·trivial
   ·trivial
  ·exact E2 I R hq hv
 ·exact E2 I R hq hv
theorem Rt{P:Program}{ops:List Oper}{A:aU}{s:St}{ρ:List Nat}{h:Heap}{o:Oper}{x:Tv}{v:Value}(I:Inv s ρ h)(R:Rel ρ s.m s.E A)(hq:zV o.op=true)(hv:v=x.val ρ)(hy:MN P ops A h o v):NC P (fun g=>MN P ops A g o v) (Hy P ops s o x) s ρ:=by
 unfold Hy
 unfold MN at hy⊢
 cases hg:o.guard with
 |none=>rw[hg]at hy;exact E3 I R hq hv hy
 |some p=>
  obtain⟨j,want⟩:=p
  rw[hg]at hy
  simp only at hy⊢
  obtain⟨b,hb,h1,h2⟩:=hy
  have skip:b≠want->∀g,∃b:Bool,KZ (jc ops A j) want= .bool b/\(b=want->Yx P (fh A) o.op o.type g v)/\(b≠want->v=undef):=fun eA g=>⟨b,hb,fun e=>absurd e eA,h2⟩
  have ND:jc ops A j=undef->b≠want:=fun e=>by
   rw[e]at hb
   have:b= !want:=by
    have:KZ undef want= .bool (!want):=rfl
    rw[this]at hb
    simpa using hb.symm
   rw[this]
   cases want<;>decide
  have yes:b=want->NC P (fun g=>∃b:Bool,KZ (jc ops A j) want= .bool b/\(b=want->Yx P (fh A) o.op o.type g v)/\(b≠want->v=undef)) (r8 P s o.op x) s ρ:=fun e=>by
   have:=E3 (x:=x) I R hq hv (h1 e)
   have up:∀g,Yx P (fh A) o.op o.type g v->∃b:Bool,KZ (jc ops A j) want= .bool b/\(b=want->Yx P (fh A) o.op o.type g v)/\(b≠want->v=undef):=fun g hx=>⟨b,hb,fun _=>hx,h2⟩
   generalize r8 P s o.op x=t at this⊢
   cases t with
   |UB=>exact fun g=>up g (this g)
   |bad=>trivial
   |au id off t ys=>
    obtain⟨sb,Rs,c1,c2,c3,c4⟩:=this
    exact⟨sb,Rs,c1,c2,c3,fun s' iX g a b c=>up g (c4 s' iX g a b c)⟩
   |ce a u=>exact fun g hg=>up g (this g hg)
   |cs a us=>exact fun g hg=>up g (this g hg)
   |se q u=>exact fun g hg=>up g (this g hg)
  cases ht:wR ops j with
  |none=>exact skip (ND (by unfold jc;rw[ht]))
  |some t=>
   simp only
   split
   ·rename_i z c l hx
    obtain⟨r1,r2,r3⟩:=R.get t _ hx
    have hz:z=c:=r2
    have hgv:jc ops A j= .bool z:=by unfold jc;rw[ht];exact r3
    have hbz:b=z:=by
     rw[hgv]at hb
     have:KZ (.bool z) want= .bool z:=rfl
     rw[this]at hb
     simpa using hb.symm
    split
    ·exact yes (by rw[hbz,hz])
    ·exact yes (by rw[hbz,hz])
    ·rename_i n1 n2
     refine skip fun e=> ?_
     rw[hbz,hz]at e
     cases c<;>cases want<;>first|exact n1 rfl rfl|exact n2 rfl rfl|cases e
   ·rename_i hx
    exact skip (ND (by unfold jc;rw[ht];exact(R.get t _ hx).2.2))
   ·trivial
theorem A5{f g:Nat->Oper->Prop}(hfg:∀i o,f i o->g i o):∀{l:List (Nat×Oper)},Hj f l->Hj g l
 |[],_=>trivial
 |[(i,o)],h=>hfg i o h
 |(i,o)::p::r,h=>⟨hfg i o h.1,A5 hfg h.2⟩
theorem qC:∀{l:List (Nat×Oper)}{i:Nat}{o:Oper},cU l=some (i,o)->(vd o.op||zV o.op)=true
 |[],_,_,h=>by simp[cU]at h
 |(j,o')::r,i,o,h=>by
  unfold cU at h
  cases hq:(vd o'.op||zV o'.op)with
  |true=>
   rw[hq]at h
   simp only[Option.some.injEq,Prod.mk.injEq]at h
   obtain⟨rfl,rfl⟩:=h
   exact hq
  |false=>rw[hq]at h;exact qC h
theorem GZ.eq{P:Program}{s s':St}{ρ:List Nat}(hm:s'.m=s.m)(hL:s'.L=s.L)(jK:s'.md=s.md):∀{S:kf}{T:List (Nat×Ht)},GZ P s ρ S T->GZ P s' ρ S T
 |_,_,.nil=> .nil
 |_,_,.cons (t:=t) h1 h2=>by
  cases t with
  |au id off ty ys=>
   obtain⟨sb,Rs,c1,c2,c3,c4⟩:=h1
   exact .cons ⟨sb,Rs,c1.trans (fE hm hL jK),c2,by rw[hL];exact c3,c4⟩ (h2.eq hm hL jK)
  |UB=>exact .cons h1 (h2.eq hm hL jK)
  |bad=>exact .cons h1 (h2.eq hm hL jK)
  |ce a v=>exact .cons h1 (h2.eq hm hL jK)
  |cs a vs=>exact .cons h1 (h2.eq hm hL jK)
  |se q v=>exact .cons h1 (h2.eq hm hL jK)
theorem oR{P:Program}{n:Nat}{ops:List Oper}{s0:St}{tu:List Nat}{K:St->Prop}{K':aU->Heap->Prop}(hK:To s0 tu K K'):∀{m:Nat}{l:List Bool}{s:St}{ρ:List Nat}{A:aU}{h:Heap}{S:kf}{T:List (Nat×Ht)},Inv s ρ h->Rel ρ s.m s.E A->Nx s0 tu s ρ->GZ P s ρ S T->vo P n ops K m l s T->jA P n ops K' m l A h S
 |0,l,s,ρ,A,h,S,T,I,R,N,G,H=>by
  simp only[vo]at H
  simp only[jA]
  cases hr:bA ops 0 l with
  |nil=>rw[hr]at H;exact hK s ρ A h I R N H
  |cons a b=>rw[hr]at H;exact H.elim
 |m+1,l,s,ρ,A,h,S,T,I,R,N,G,H=>by
  simp only[vo]at H
  simp only[jA]
  cases hq:cU (bA ops 0 l)with
  |some q=>
   obtain⟨i,o⟩:=q
   rw[hq]at H
   simp only at H⊢
   have hqu:=qC hq
   have st:=EZ hqu (xF I R H)
   rw[rT]
   cases hp:vd o.op with
   |true=>
    refine nk st fun v h' ⟨hh,hY,s',x,iX,a1,a2,a3,a4,a5,a6,a7⟩=> ?_
    rw[gU]
    obtain⟨b1,b2,b3,b4,b5⟩:=su (n:=n) (dst:=o.dst) a1 a2 a3 a4 a5
    cases Ru:oN (sa s.md s'.md) T with
    |true=>
     simp only[Ru,hp]at a7
     exact oR hK b1 b2 ((N.trans a6).trans (fE b3 b4 b5)) ((G.step a6 Ru).eq b3 b4 b5) a7
    |false=>simp only[Ru]at a7
   |false=>
    have hR:zV o.op=true:=by rw[hp,Bool.false_or]at hqu;exact hqu
    refine nk st fun v h' ⟨hh,hY,s',x,iX,a1,a2,a3,a4,a5,a6,a7⟩=> ?_
    rw[gU]
    obtain⟨b1,b2,b3,b4,b5⟩:=su (n:=n) (dst:=o.dst) a1 a2 a3 a4 a5
    cases Ru:oN (sa s.md s'.md) T with
    |true=>
     simp only[Ru,hp]at a7
     have abF:=Rt (P:=P) (ops:=ops) (x:=x) a1 a2 hR a3 (by rw[hh];exact hY)
     exact oR hK b1 b2 ((N.trans a6).trans (fE b3 b4 b5)) ((GZ.cons abF (G.step a6 Ru)).eq b3 b4 b5) a7
    |false=>simp only[Ru]at a7
  |none=>
   rw[hq]at H
   simp only at H⊢
   cases hr:bA ops 0 l with
   |nil=>rw[hr]at H;exact hK s ρ A h I R N H
   |cons a b=>
    rw[hr]at H
    simp only at H⊢
    refine A5 (fun i o H=> ?_) H
    rw[rT]
    refine nk (xF I R H) fun v h' ⟨s',x,iX,a1,a2,a3,a4,a5,a6,a7⟩=> ?_
    rw[gU]
    have G2:=G.keep (bf:=ve ops o)
    generalize AR (ve ops o) T=T2 at G2 a7
    unfold lk
    generalize qx (ve ops o) S=S2 at G2⊢
    cases T2 with
    |nil=>
     cases G2
     obtain⟨b1,b2,b3,b4,b5⟩:=su (n:=n) (dst:=o.dst) a1 a2 a3 a4 a5
     exact oR hK b1 b2 ((N.trans a6).trans (fE b3 b4 b5)) .nil a7
    |cons e T3=>
     simp only at a7
     split at a7
     ·rename_i Ru
      obtain⟨s2,C,hE,hL,hm,jK,a8⟩:=iG a1 a7
      have R2:Rel iX s2.m s2.E A:=by rw[hE,hm];exact a2
      have N2:=fE (ρ:=iX) hm hL jK
      have G3:=(G2.step a6 Ru).eq hm hL jK
      obtain⟨b1,b2,b3,b4,b5⟩:=su (n:=n) (dst:=o.dst) C.inv R2 a3 (by rw[hm];exact a4) a5
      rw[C.h]at a8
      exact G3.tell C.inv a8 fun a9=>oR hK b1 b2 (((N.trans a6).trans N2).trans (fE b3 b4 b5)) (G3.eq b3 b4 b5) a9
     ·exact a7.elim
theorem VC{P:Program}{n:Nat}{ops:List Oper}{draw:Bool}{s0:St}{tu:List Nat}{K:St->Prop}{K':aU->Heap->Prop}(hK:To s0 tu K K'){s:St}{ρ:List Nat}{A:aU}{h:Heap}(I:Inv s ρ h)(R:Rel ρ s.m s.E A)(N:Nx s0 tu s ρ)(H:Vu P n ops draw s K):MO P n ops draw A h K':=by
 unfold Vu at H
 unfold MO
 cases draw with
 |false=>exact NB hK I R N H
 |true=>
  simp only at H⊢
  cases hp:fp ops ops 0 with
  |true=>rw[hp]at H;exact oR hK I R N .nil H
  |false=>rw[hp]at H;exact H.elim
def NE:(sig:List Sh)->En sig->List Lf->(Heap->Prop)->Prop
 |[],J,[],J0=>J=J0
 | .i k::r,J,.i k' x::vs,J0=>k=k'/\NE r (J x) vs J0
 | .b::r,J,.b x none::vs,J0=>NE r (J x) vs J0
 | .s::r,J,.s x::vs,J0=>NE r (J x) vs J0
 | .sl::r,J,.sl x::vs,J0=>NE r (J x) vs J0
 | .r::r,J,.r x::vs,J0=>NE r (J x) vs J0
 | .q e::r,J,.q x e'::vs,J0=>e=e'/\NE r (J x) vs J0
 | .m::r,J,.m x::vs,J0=>NE r (J x) vs J0
 | .n::r,J,.q (some ⟨b,0,none⟩) 0::vs,J0=>NE r (J b) vs J0
 |_,_,_,_=>False
theorem JS{x:Lf}{b:Nat}(h:Hz x=some b)(ρ:List Nat):x.v ρ=VP b 0:=by
 unfold Hz at h
 split at h
 ·have h:=Option.some.inj h
  subst h
  rfl
 ·cases h
theorem km:∀{sig:List Sh}{J:En sig}{Q:List Lf->(Heap->Prop)->Prop}{xs:List Lf}{J0:Heap->Prop},vL sig J Q->NE sig J xs J0->Q xs J0
 |[],J,Q,[],J0,h,ha=>by
  have ha:J=J0:=ha
  subst ha
  exact h
 | .i k::r,J,Q,.i k' x::xs,J0,h,ha=>by
   obtain⟨rfl,ha⟩:=ha
   exact km (sig:=r) (J:=J x) (Q:=fun vs J'=>Q (.i k x::vs) J') (h x) ha
 | .b::r,J,Q,.b x none::xs,J0,h,ha=>km (sig:=r) (J:=J x) (Q:=fun vs J'=>Q (.b x none::vs) J') (h x) ha
 | .s::r,J,Q,.s x::xs,J0,h,ha=>km (sig:=r) (J:=J x) (Q:=fun vs J'=>Q (.s x::vs) J') (h x) ha
 | .sl::r,J,Q,.sl x::xs,J0,h,ha=>km (sig:=r) (J:=J x) (Q:=fun vs J'=>Q (.sl x::vs) J') (h x) ha
 | .r::r,J,Q,.r x::xs,J0,h,ha=>km (sig:=r) (J:=J x) (Q:=fun vs J'=>Q (.r x::vs) J') (h x) ha
 | .q e::r,J,Q,.q x e'::xs,J0,h,ha=>by
   obtain⟨rfl,ha⟩:=ha
   exact km (sig:=r) (J:=J x) (Q:=fun vs J'=>Q (.q x e::vs) J') (h x) ha
 | .m::r,J,Q,.m x::xs,J0,h,ha=>km (sig:=r) (J:=J x) (Q:=fun vs J'=>Q (.m x::vs) J') (h x) ha
 | .n::r,J,Q,.q (some ⟨b,0,none⟩) 0::xs,J0,h,ha=>km (sig:=r) (J:=J b) (Q:=fun vs J'=>Q (.q (some ⟨b,0,none⟩) 0::vs) J') (h b) ha
theorem ko{ρ:List Nat}{h:Heap}:∀{sig:List Sh}{J:En sig}{vs:List Lf},qT ρ sig J vs h->∃xs J0,NE sig J xs J0/\J0 h/\(∀m,bS m xs=true)/\cD xs/\dB ρ xs=dB ρ vs
 |[],J,[],hj=>⟨[],J,rfl,hj,fun _=>rfl,trivial,rfl⟩
 | .i k::r,J,.i k' x::vs,hj=>by
   simp only[qT]at hj
   split at hj
   ·rename_i hk
    obtain rfl:=of_decide_eq_true hk
    obtain⟨xs,J0,h1,h2,h3,h4,h5⟩:=ko hj
    exact⟨.i k x::xs,J0,⟨rfl,h1⟩,h2,fun m=>by simp[bS,Lf.ok,h3 m],⟨trivial,h4⟩,by simp only[dB,h5]⟩
   ·exact hj.elim
 | .b::r,J,.b x kn::vs,hj=>by
   obtain⟨xs,J0,h1,h2,h3,h4,h5⟩:=ko (sig:=r) (J:=J x) (vs:=vs) hj
   exact⟨.b x none::xs,J0,h1,h2,fun m=>by simp[bS,Lf.ok,h3 m],⟨trivial,h4⟩,by simp only[dB,h5];rfl⟩
 | .s::r,J,.s x::vs,hj=>by
   obtain⟨xs,J0,h1,h2,h3,h4,h5⟩:=ko (sig:=r) (J:=J x) (vs:=vs) hj
   exact⟨.s x::xs,J0,h1,h2,fun m=>by simp[bS,Lf.ok,h3 m],⟨trivial,h4⟩,by simp only[dB,h5]⟩
 | .sl::r,J,.sl x::vs,hj=>by
   obtain⟨xs,J0,h1,h2,h3,h4,h5⟩:=ko (sig:=r) (J:=J x) (vs:=vs) hj
   exact⟨.sl x::xs,J0,h1,h2,fun m=>by simp[bS,Lf.ok,h3 m],⟨trivial,h4⟩,by simp only[dB,h5]⟩
 | .r::r,J,x::vs,hj=>by
   obtain⟨xs,J0,h1,h2,h3,h4,h5⟩:=ko (sig:=r) (J:=J (x.v ρ)) (vs:=vs) (by cases x<;>exact hj)
   exact⟨.r (x.v ρ)::xs,J0,h1,h2,fun m=>by simp[bS,Lf.ok,h3 m],⟨trivial,h4⟩,by simp only[dB,h5];rfl⟩
 | .q e::r,J,.q x e'::vs,hj=>by
   obtain⟨xs,J0,h1,h2,h3,h4,h5⟩:=ko (sig:=r) (J:=J x) (vs:=vs) hj
   exact⟨.q x e::xs,J0,⟨rfl,h1⟩,h2,fun m=>by simp[bS,Lf.ok,h3 m],⟨trivial,h4⟩,by simp only[dB,h5];rfl⟩
 | .m::r,J,.m x::vs,hj=>by
   obtain⟨xs,J0,h1,h2,h3,h4,h5⟩:=ko (sig:=r) (J:=J x) (vs:=vs) hj
   exact⟨.m x::xs,J0,h1,h2,fun m=>by simp[bS,Lf.ok,h3 m],⟨trivial,h4⟩,by simp only[dB,h5]⟩
 | .n::r,J,x::vs,hj=>by
   have hj:(match Hz x with|some b=>qT ρ r (J b) vs h|none=>False):=by cases x<;>exact hj
   cases hb:Hz x with
   |none=>rw[hb]at hj;exact hj.elim
   |some b=>
    rw[hb]at hj
    obtain⟨xs,J0,h1,h2,h3,h4,h5⟩:=ko (sig:=r) (J:=J b) (vs:=vs) hj
    exact⟨.q (some ⟨b,0,none⟩) 0::xs,J0,h1,h2,fun m=>by simp[bS,Lf.ok,h3 m],⟨trivial,h4⟩,by simp only[dB,h5,JS hb];rfl⟩
theorem nn:∀{ss:List Sh}{vs:List Lf}{K:List Lf->List Lf->Prop},vp ss vs K->K (vs.take ss.length) (vs.drop ss.length)
 |[],vs,K,h=>by simpa[vp]using h
 |s::ss,x::vs,K,h=>by
  simp only[vp]at h
  have:=nn h
  simpa using this
 |s::ss,[],K,h=>by simp[vp]at h
def Lk:As->List Lf->Av
 | .l _,x::_=> .l x
 | .l _,[]=> .l .u
 | .a ss,vs=> .a (vs.take ss.length)
theorem HJ{sh:As}{vs:List Lf}{K:Av->List Lf->Prop}(h:UD sh vs K):K (Lk sh vs) (vs.drop (UC sh).length):=by
 cases sh with
 |l x=>
  cases vs with
  |nil=>exact h.elim
  |cons y vs=>exact h
 |a ss=>
  have:=nn h
  exact this
def eI(n:Nat):List It->List Lf->List (Nat×Option Tv)->List (Nat×Option Tv)
 |[],_,E=>E
 |x::r,vs,E=>eI n r (vs.drop (UC x.sh).length) (HA n E x.t (some (.v (Lk x.sh vs))))
theorem A6{n:Nat}:∀{oO:List It}{vs:List Lf}{E:List (Nat×Option Tv)}{K:List Lf->List (Nat×Option Tv)->Prop},Vv n oO vs E K->K (vs.drop (qf oO).length) (eI n oO vs E)
 |[],vs,E,K,h=>h
 |x::r,vs,E,K,h=>by
  have:=A6 (HJ h)
  simp only[qf,List.length_append]
  rw[<-List.drop_drop]
  exact this
def l2(ch:List Nat):List (Nat×List Lf)->List Lf->List (Nat×List Lf)
 |[],_=>[]
 |(i,xs)::L,vs=>match eH ch i with
  |true=>(i,vs.take (oM xs).length)::l2 ch L (vs.drop (oM xs).length)
  |false=>(i,xs)::l2 ch L vs
theorem tQ{ch:List Nat}:∀{L:List (Nat×List Lf)}{vs:List Lf}{K:List (Nat×List Lf)->List Lf->Prop},Nh ch L vs K->K (l2 ch L vs) (vs.drop (Ae ch L).length)
 |[],vs,K,h=>h
 |(i,xs)::L,vs,K,h=>by
  unfold Nh at h
  unfold l2 Ae
  cases hi:eH ch i with
  |true=>
   rw[hi]at h
   have:=tQ (nn h)
   simp only[List.length_append]
   rw[<-List.drop_drop]
   exact this
  |false=>rw[hi]at h;exact tQ h
theorem xG(ρ:List Nat)(xs:List Lf)(n:Nat):dB ρ (xs.take n)=(dB ρ xs).take n:=by rw[eD,eD,List.map_take]
theorem mm(ρ:List Nat)(xs:List Lf)(n:Nat):dB ρ (xs.drop n)=(dB ρ xs).drop n:=by rw[eD,eD,List.map_drop]
theorem ji(ρ:List Nat)(xs ys:List Lf):dB ρ (xs++ys)=dB ρ xs++dB ρ ys:=by rw[eD,eD,eD,List.map_append]
theorem fK(ρ:List Nat)(xs:List Lf):(dB ρ xs).length=xs.length:=by rw[eD,List.length_map]
theorem kp:∀xs:List Lf,(oM xs).length=xs.length
 |[]=>rfl
 |_::xs=>by simp[oM,kp xs]
theorem Cs:∀ss:List Sh,ET.Ad ss=ss.length
 |[]=>rfl
 |_::ss=>by simp[ET.Ad,Cs ss]
def avV:As->List Value->Value
 | .l _,v::_=>v
 | .l _,[]=>undef
 | .a ss,vs=> .agg (vs.take ss.length).toArray
theorem VD(ρ:List Nat)(sh:As)(xs:List Lf):(Lk sh xs).v ρ=avV sh (dB ρ xs):=by
 cases sh with
 |l x=>cases xs<;>rfl
 |a ss=>simp only[Lk,avV,Av.v,xG]
theorem Rv{m:Nat}{sh:As}{xs:List Lf}(h:bS m xs=true)(hf:cD xs):(Lk sh xs).ok m=true/\(Lk sh xs).fact:=by
 cases sh with
 |l x=>
  cases xs with
  |nil=>exact⟨rfl,trivial⟩
  |cons y ys=>
   simp only[bS,Bool.and_eq_true]at h
   exact⟨h.1,hf.1⟩
 |a ss=>exact⟨cO.2 fun x hx=>cO.1 h x (List.mem_of_mem_take hx),bT.2 fun x hx=>bT.1 hf x (List.mem_of_mem_take hx)⟩
def Rw:List It->List Value->List Value
 |[],_=>[]
 |x::r,vs=>avV x.sh vs::Rw r (vs.drop (UC x.sh).length)
def tS(n:Nat)(j:Nat->Value):List Nat->aU->aU
 |[],A=>A
 |t::ts,A=>tS n j ts (wZ n A (some t) (j t))
def nT(n:Nat):List Nat->List Value->aU->aU
 |[],_,A=>A
 |_::_,[],A=>A
 |t::ts,v::vs,A=>nT n ts vs (wZ n A (some t) v)
theorem xH{α:Sort _}{n:Nat}{j:Nat->Value}{k:aU->α}:∀(L:List Nat)(A:aU),qP n j L A k=k (tS n j L A)
 |[],A=>rfl
 |t::ts,A=>by simp only[qP,tS,gU];exact xH ts _
theorem Ct{α:Sort _}{n:Nat}{k:aU->α}:∀(L:List Nat)(vs:List Value)(A:aU),rV n L vs A k=k (nT n L vs A)
 |[],_,A=>rfl
 |_::_,[],A=>rfl
 |t::ts,v::vs,A=>by simp only[rV,nT,gU];exact Ct ts vs _
theorem xI{ρ:List Nat}{m n:Nat}{E:List (Nat×Option Tv)}{A:aU}(R:Rel ρ m E A){t:Nat}{x:Option Tv}{v:Value}(hx:∀y,x=some y->y.ok m=true/\y.fact/\v=y.val ρ):Rel ρ m (HA n E t x) (wZ n A (some t) v):=by
 unfold HA wZ
 simp only
 cases hb:Nat.blt t n with
 |false=>exact R
 |true=>
  refine⟨fun t' y hy=> ?_⟩
  simp only[qe]at hy
  simp only[lP]
  cases hd:Nat.beq t t' with
  |true=>rw[hd]at hy;exact hx y hy
  |false=>rw[hd]at hy;exact R.get t' y hy
theorem A7{ρ:List Nat}{m n:Nat}{j:Nat->Value}:∀{ts:List Nat}{E:List (Nat×Option Tv)}{A:aU},Rel ρ m E A->Rel ρ m (ES n ts E) (tS n j ts A)
 |[],E,A,R=>R
 |t::ts,E,A,R=>by
  simp only[ES,tS]
  exact A7 (xI R fun y hy=>by cases hy)
theorem NF{ρ:List Nat}{m n:Nat}:∀{oO:List It}{xs:List Lf}{E:List (Nat×Option Tv)}{A:aU},Rel ρ m E A->bS m xs=true->cD xs->Rel ρ m (eI n oO xs E) (nT n (mh oO) (Rw oO (dB ρ xs)) A)
 |[],xs,E,A,R,_,_=>R
 |x::r,xs,E,A,R,ho,hf=>by
  simp only[eI,mh,Rw,nT]
  rw[<-mm]
  obtain⟨h1,h2⟩:=Rv (sh:=x.sh) ho hf
  refine NF (xI R fun y hy=> ?_) (cO.2 fun z hz=>cO.1 ho z (List.mem_of_mem_drop hz)) (bT.2 fun z hz=>bT.1 hf z (List.mem_of_mem_drop hz))
  have hy:=Option.some.inj hy
  subst hy
  exact⟨h1,h2,(VD ρ x.sh xs).symm⟩
theorem tT{ρ:List Nat}{m:Nat}{E:List (Nat×Option Tv)}{A:aU}(R:Rel ρ m E A):∀{oO:List It}{K:List Lf->Prop},ET E oO K->∃vs,K vs/\vs.length=(qf oO).length/\∀rest,dK A (mh oO)=Rw oO (dB ρ (vs++rest))
 |[],K,h=>⟨[],h,rfl,fun _=>rfl⟩
 |x::r,K,h=>by
  unfold ET at h
  split at h
  ·rename_i y sh hy hs
   obtain⟨vs,h1,h2,h3⟩:=tT R h
   refine⟨y::vs,h1,by simp[qf,hs,UC,h2,Nat.add_comm],fun rest=> ?_⟩
   simp only[mh,dK,Rw,hs,avV,UC,List.cons_append,dB]
   rw[(R.get _ _ hy).2.2,h3 rest]
   rfl
  ·rename_i ys ss hy hs
   split at h
   ·rename_i hn
    have hl:ys.length=ss.length:=by rw[<-kk,<-Cs];exact Nat.eq_of_beq_eq_true hn
    obtain⟨vs,h1,h2,h3⟩:=tT R h
    refine⟨ys++vs,h1,by simp[qf,hs,UC,h2,hl],fun rest=> ?_⟩
    simp only[mh,dK,Rw,hs,avV,UC]
    rw[(R.get _ _ hy).2.2,h3 rest,List.append_assoc,ji ρ ys (vs++rest)]
    rw[List.take_left' (by rw[fK,hl]),List.drop_left' (by rw[fK,hl])]
    rfl
   ·exact h.elim
  ·exact h.elim
theorem Cu{ch:List Nat}(ρ:List Nat):∀(L:List (Nat×List Lf))(xs:List Lf),(kh ρ (l2 ch L xs)).map (·.1)=(kh ρ L).map (·.1)
 |[],_=>rfl
 |(i,ys)::L,xs=>by
  unfold l2
  cases eH ch i with
  |true=>simp only[kh,List.map_cons];rw[Cu ρ L]
  |false=>simp only[kh,List.map_cons];rw[Cu ρ L]
theorem E4{ch:List Nat}{m:Nat}:∀{L:List (Nat×List Lf)}{xs:List Lf},rM m L=true->oL L->bS m xs=true->cD xs->rM m (l2 ch L xs)=true/\oL (l2 ch L xs)
 |[],_,_,_,_,_=>⟨rfl,trivial⟩
 |(i,ys)::L,xs,h1,h2,h3,h4=>by
  simp only[rM,Bool.and_eq_true]at h1
  unfold l2
  cases eH ch i with
  |true=>
   obtain⟨a,b⟩:=E4 (ch:=ch) h1.2 h2.2 (cO.2 fun z hz=>cO.1 h3 z (List.mem_of_mem_drop (i:=(oM ys).length) hz)) (bT.2 fun z hz=>bT.1 h4 z (List.mem_of_mem_drop (i:=(oM ys).length) hz))
   refine⟨?_,bT.2 fun z hz=>bT.1 h4 z (List.mem_of_mem_take hz),b⟩
   simp only[rM,Bool.and_eq_true]
   exact⟨⟨h1.1.1,cO.2 fun z hz=>cO.1 h3 z (List.mem_of_mem_take hz)⟩,a⟩
  |false=>
   obtain⟨a,b⟩:=E4 (ch:=ch) h1.2 h2.2 h3 h4
   exact⟨by simp[rM,h1.1.1,h1.1.2,a],h2.1,b⟩
theorem Cv{ch:List Nat}:∀{L:List (Nat×List Lf)}{xs:List Lf}{id:Nat},eH ch id=false->cE (l2 ch L xs) id=cE L id
 |[],_,_,_=>rfl
 |(i,ys)::L,xs,id,h=>by
  unfold l2
  cases hi:eH ch i with
  |true=>
   simp only[cE]
   cases hb:Nat.beq i id with
   |true=>have:=Nat.eq_of_beq_eq_true hb;subst this;rw[hi]at h;cases h
   |false=>exact Cv h
  |false=>
   simp only[cE]
   cases Nat.beq i id with
   |true=>rfl
   |false=>exact Cv h
theorem tU{ρ:List Nat}{ch:List Nat}{L':List (Nat×List Lf)}:∀{L0:List (Nat×List Lf)}{K:List Lf->Prop},Ni L' ch L0 K->∃vs,K vs/\vs.length=(Ae ch L0).length/\∀xs tl,dB ρ xs=dB ρ vs++tl->∀p,p∈l2 ch L0 xs->(eH ch p.1=true/\∃cs,cE L' p.1=some cs/\dB ρ p.2=dB ρ cs)\/(eH ch p.1=false/\p∈L0)
 |[],K,h=>⟨[],h,rfl,fun xs _ _ p hp=>by simp[l2]at hp⟩
 |(i,ys)::L0,K,h=>by
  unfold Ni at h
  unfold Ae
  cases hi:eH ch i with
  |true=>
   rw[hi]at h
   simp only at h
   split at h
   ·rename_i cs GV
    split at h
    ·rename_i hn
     have hl:cs.length=ys.length:=by rw[<-kk,<-kk];exact Nat.eq_of_beq_eq_true hn
     obtain⟨vs,h1,h2,h3⟩:=tU (ρ:=ρ) h
     refine⟨cs++vs,h1,by simp only[List.length_append,kp];omega,fun xs tl hxs p hp=> ?_⟩
     unfold l2 at hp
     rw[hi]at hp
     rw[ji,List.append_assoc]at hxs
     rcases List.mem_cons.1 hp with rfl|hp
     ·refine .inl ⟨hi,cs,GV,?_⟩
      simp only
      rw[xG,hxs,kp,List.take_left' (by rw[fK,hl])]
     ·rcases h3 (xs.drop (oM ys).length) tl (by rw[mm,hxs,kp,List.drop_left' (by rw[fK,hl])]) p hp with h3|h3
      ·exact .inl h3
      ·exact .inr ⟨h3.1,List.mem_cons_of_mem _ h3.2⟩
    ·exact h.elim
   ·exact h.elim
  |false=>
   rw[hi]at h
   obtain⟨vs,h1,h2,h3⟩:=tU (ρ:=ρ) h
   refine⟨vs,h1,h2,fun xs tl hxs p hp=> ?_⟩
   unfold l2 at hp
   rw[hi]at hp
   rcases List.mem_cons.1 hp with rfl|hp
   ·exact .inr ⟨hi,by simp⟩
   ·rcases h3 xs tl hxs p hp with h3|h3
    ·exact .inl h3
    ·exact .inr ⟨h3.1,List.mem_cons_of_mem _ h3.2⟩
theorem Vars.sub{h h0:Heap}{VL:List (Nat×List Value)}(H:Vars h VL):∀{V0 VQ:List (Nat×List Value)},Vars h0 V0->VQ.map (·.1)=V0.map (·.1)->(∀q,q∈VQ->q∈VL)->Vars h VQ
 |[],[],_,_,_=> .nil
 |(b,cs)::V0,(b',lQ)::VQ,.cons hv hn hl,hk,hm=>by
  simp only[List.map_cons,List.cons.injEq]at hk
  obtain⟨rfl,hk⟩:=hk
  refine .cons (H.mem _ (hm (b',lQ) (by simp))) (fun p hp e=> ?_) (H.sub hl hk fun q hq=>hm q (by simp[hq]))
  have:p.1∈V0.map (·.1):=by rw[<-hk];exact List.mem_map.2 ⟨p,hp,rfl⟩
  obtain⟨q,hq,hqe⟩:=List.mem_map.1 this
  exact hn q hq (hqe.trans e)
 |[],_::_,_,hk,_=>by simp at hk
 |_::_,[],_,hk,_=>by simp at hk
theorem kq{ρ:List Nat}:∀{L:List (Nat×List Lf)}{q:Nat×List Value},q∈kh ρ L↔∃p,p∈L/\q=(eM ρ p.1,dB ρ p.2)
 |[],q=>by simp[kh]
 |(i,xs)::L,q=>by
  simp only[kh,List.mem_cons,kq (L:=L)]
  constructor
  ·rintro(rfl|⟨p,h1,h2⟩)
   ·exact⟨(i,xs),.inl rfl,rfl⟩
   ·exact⟨p,.inr h1,h2⟩
  ·rintro⟨p,(rfl|h1),h2⟩
   ·exact .inl h2
   ·exact .inr ⟨p,h1,h2⟩
theorem kA:∀{L:List (Nat×List Lf)}{id:Nat}{cs:List Lf},cE L id=some cs->(id,cs)∈L
 |[],id,cs,h=>by simp[cE]at h
 |(i,xs)::L,id,cs,h=>by
  unfold cE at h
  cases hb:Nat.beq i id with
  |true=>
   rw[hb]at h
   have:=Nat.eq_of_beq_eq_true hb
   subst this
   have h:=Option.some.inj h
   subst h
   simp
  |false=>rw[hb]at h;exact List.mem_cons_of_mem _ (kA h)
theorem np{ρ:List Nat}{h:Heap}:∀{L:List (Nat×List Lf)}{id:Nat}{cs:List Lf},Vars h (kh ρ L)->(id,cs)∈L->cE L id=some cs
 |(i,xs)::L,id,cs,V,hm=>by
  unfold cE
  rcases List.mem_cons.1 hm with e|hm
  ·simp only[Prod.mk.injEq]at e
   obtain⟨rfl,rfl⟩:=e
   simp
  ·cases hb:Nat.beq i id with
   |true=>
    have:=Nat.eq_of_beq_eq_true hb
    subst this
    exact absurd rfl (V.ne (eM ρ i,dB ρ cs) (kq.2 ⟨(i,cs),hm,rfl⟩))
   |false=>exact np V.tail hm
theorem qV{f:List Value->Prop}:∀{n:Nat},(∀vs,f vs)->kg n f
 |0,h=>h []
 |n+1,h=>fun v=>qV (n:=n) fun vs=>h (v::vs)
theorem xJ:∀(oO:List It)(vs:List Value),(Rw oO vs).length=(mh oO).length
 |[],_=>rfl
 |x::r,vs=>by simp only[Rw,mh,List.length_cons,xJ r]
theorem sv(A:aU):∀a b:List Nat,dK A (a++b)=dK A a++dK A b
 |[],b=>rfl
 |x::a,b=>by simp only[List.cons_append,dK,sv A a b]
theorem A8{n:Nat}:∀{a:List Nat}{va:List Value}{b:List Nat}{vb:List Value}{A:aU},va.length=a.length->nT n (a++b) (va++vb) A=nT n b vb (nT n a va A)
 |[],[],b,vb,A,_=>rfl
 |t::a,v::va,b,vb,A,h=>by
  simp only[List.cons_append,nT]
  exact A8 (by simpa using h)
 |[],_::_,_,_,_,h=>by simp at h
 |_::_,[],_,_,_,h=>by simp at h
def VE:List (Nat×List Sh)->List Value->List Value
 |[],_=>[]
 |(_,ss)::r,v::vs=>v::VE r (vs.drop ss.length)
 |_::r,[]=>undef::VE r []
def VF:Value->Nat
 | .pointer (some a)=>a.block
 |_=>0
def vu:List (Nat×List Sh)->List Value->List (Nat×List Value)->List (Nat×List Value)
 |[],_,V=>V
 |(_,ss)::r,v::vs,V=>vu r (vs.drop ss.length) ((VF v,vs.take ss.length)::V)
 |_::r,[],V=>vu r [] V
theorem A9{ρ:List Nat}{h:Heap}:∀{L:List (Nat×List Lf)}{i j:Nat}{c d:List Lf},Vars h (kh ρ L)->(i,c)∈L->(j,d)∈L->i≠j->eM ρ i≠eM ρ j
 |(k,xs)::L,i,j,c,d,V,hi,hj,eA=>by
  rcases List.mem_cons.1 hi with e1|hi
  ·rcases List.mem_cons.1 hj with e2|hj
   ·simp only[Prod.mk.injEq]at e1 e2
    exact absurd (e1.1.trans e2.1.symm) eA
   ·simp only[Prod.mk.injEq]at e1
    have:=V.ne (eM ρ j,dB ρ d) (kq.2 ⟨(j,d),hj,rfl⟩)
    rw[e1.1]
    exact fun e=>this e.symm
  ·rcases List.mem_cons.1 hj with e2|hj
   ·simp only[Prod.mk.injEq]at e2
    have:=V.ne (eM ρ i,dB ρ c) (kq.2 ⟨(i,c),hi,rfl⟩)
    rw[e2.1]
    exact this
   ·exact A9 V.tail hi hj eA
theorem Ba{m0:Nat}{s:St}{ρ:List Nat}{h:Heap}{A:aU}(hr:s.ρ=ρ)(I:Vars h (kh ρ s.L))(R:Rel ρ s.m s.E A):∀{nv:List (Nat×List Sh)}{ids:List Nat}{K:List Lf->Prop},Rl m0 s ids nv K->
 ∃vs,K vs/\dK A (lS nv)=VE nv (dB ρ vs)/\∀V,Vars h V->(∀q,q∈V->∃p,p∈s.L/\(p.1<m0\/eH ids p.1=true)/\q=(eM ρ p.1,dB ρ p.2))->Vars h (vu nv (dB ρ vs) V)
 |[],ids,K,H=>⟨[],H,rfl,fun V hV _=>hV⟩
 |(t,ss)::r,ids,K,H=>by
  unfold Rl at H
  split at H
  ·rename_i id hid
   split at H
   ·rename_i h1 h2
    split at H
    ·rename_i cs GV
     split at H
     ·rename_i hn
      have hl:cs.length=ss.length:=by rw[<-kk,<-Cs];exact Nat.eq_of_beq_eq_true hn
      obtain⟨vs,k1,k2,k3⟩:=Ba hr I R H
      refine⟨_,k1,?_,fun V hV hq=> ?_⟩
      ·simp only[lS,dK,dB,VE,ji]
       rw[k2,List.drop_left' (by rw[fK,hl]),(R.get _ _ hid).2.2,hr]
       rfl
      ·simp only[dB,vu,ji]
       rw[List.drop_left' (by rw[fK,hl]),List.take_left' (by rw[fK,hl])]
       have hm:=kA GV
       have hb:VF ((Lf.q (some ⟨eM s.ρ id,0,none⟩) 0).v ρ)=eM ρ id:=by rw[hr];rfl
       rw[hb]
       refine k3 _ (.cons (I.mem _ (kq.2 ⟨(id,cs),hm,rfl⟩)) (fun q hqV e=> ?_) hV) fun q hqV=> ?_
       ·obtain⟨p,p1,p2,p3⟩:=hq q hqV
        have eA:p.1≠id:=fun e=>by
         subst e
         rcases p2 with p2|p2
         ·rw[<-Nat.blt_eq]at p2;rw[h1]at p2;cases p2
         ·rw[h2]at p2;cases p2
        rw[p3]at e
        exact A9 I p1 hm eA e
       ·rcases List.mem_cons.1 hqV with rfl|hqV
        ·exact⟨(id,cs),hm,.inr (by simp[eH]),rfl⟩
        ·obtain⟨p,p1,p2,p3⟩:=hq q hqV
         refine⟨p,p1,?_,p3⟩
         rcases p2 with p2|p2
         ·exact .inl p2
         ·exact .inr (by simp[eH,p2])
     ·exact H.elim
    ·exact H.elim
   ·exact H.elim
  ·exact H.elim
def JV(a:An)(s:St)(ρ:List Nat)(J:En (Nk a s.L))(vs:List Value)(h:Heap):Prop:=
 ∃xs J0,NE _ J xs J0/\J0 h/\(∀m,bS m xs=true)/\cD xs/\vs=Rw a.oO (dB ρ xs)++VE a.nv (dB ρ ((xs.drop (qf a.oO).length).drop (Ae a.ch s.L).length))/\
  Vars h (vu a.nv (dB ρ ((xs.drop (qf a.oO).length).drop (Ae a.ch s.L).length)) (kh ρ (l2 a.ch s.L (xs.drop (qf a.oO).length))))
theorem xK{m:Nat}{ch:List Nat}:∀{l:List Nat},JK m ch l=true->∀i,i<m->eH ch i=false->eH l i=false
 |[],_,_,_,_=>rfl
 |j::l,h,i,hi,hc=>by
  simp only[JK,Bool.and_eq_true,Bool.or_eq_true,Bool.not_eq_true']at h
  simp only[eH,Bool.or_eq_false_iff]
  refine⟨?_,xK h.2 i hi hc⟩
  cases hb:Nat.beq j i with
  |false=>rfl
  |true=>
   have:=Nat.eq_of_beq_eq_true hb
   subst this
   rcases h.1 with h1|h1
   ·rw[h1]at hc;cases hc
   ·rw[<-Nat.blt_eq]at hi;rw[h1]at hi;cases hi
theorem Cw{m:Nat}:∀{L:List (Nat×List Lf)},rM m L=true->∀p,p∈L->p.1<m/\bS m p.2=true
 |[],_,p,hp=>by simp at hp
 |(i,ys)::L,hL,p,hp=>by
  simp only[rM,Bool.and_eq_true]at hL
  rcases List.mem_cons.1 hp with rfl|hp
  ·exact⟨fb.1 hL.1.1,hL.1.2⟩
  ·exact Cw hL.2 p hp
theorem iK{m n:Nat}{xs:List Lf}(h:bS m xs=true):bS m (xs.drop n)=true:=cO.2 fun z hz=>cO.1 h z (List.mem_of_mem_drop hz)
theorem jk{n:Nat}{xs:List Lf}(h:cD xs):cD (xs.drop n):=bT.2 fun z hz=>bT.1 h z (List.mem_of_mem_drop hz)
theorem Cx{a:An}{s:St}{ρ:List Nat}{h:Heap}(C:Cl s ρ h){J:En (Nk a s.L)}{s':St}{iX:List Nat}{A:aU}{h':Heap}(I':Inv s' iX h')(R':Rel iX s'.m s'.E A)(N:Nx s ρ s' iX)
 (H:act a s s' fun vs=>qT s'.ρ _ J vs s'.h) (hr:s'.ρ=iX) (hh:s'.h=h'):JV a s ρ J (dK A (mh a.oO++lS a.nv)) h':=by
 unfold act at H
 split at H
 ·rename_i ho
  obtain⟨vs1,H1,hl,hv⟩:=tT R' H
  obtain⟨vs2,H2,hl2,hp⟩:=tU (ρ:=iX) H1
  obtain⟨vs3,H3,hv3,hN⟩:=Ba hr I'.vars R' H2
  rw[hr,hh]at H3
  obtain⟨xs,J0,k1,k2,k3,k4,k5⟩:=ko H3
  obtain⟨y,hy⟩:=N.r
  have same:∀zs:List Lf,(∀m,bS m zs=true)->dB iX zs=dB ρ zs:=fun zs hz=>by rw[hy];exact hJ (hz _)
  have hd:dB iX (xs.drop (qf a.oO).length)=dB iX vs2++dB iX vs3:=by
   rw[mm,k5,ji,List.drop_left' (by rw[fK,hl]),ji]
  have hd3:dB ρ ((xs.drop (qf a.oO).length).drop (Ae a.ch s.L).length)=dB iX vs3:=by
   rw[<-same _ fun m=>iK (iK (k3 m)),mm,hd,List.drop_left' (by rw[fK,hl2])]
  refine⟨xs,J0,k1,k2,k3,k4,?_,?_⟩
  ·rw[sv,hv (vs2++vs3),<-k5,same _ k3,hd3,hv3]
  ·rw[hd3]
   refine hN _ ?_ ?_
   ·refine I'.vars.sub C.vars (Cu ρ s.L _) fun q hq=> ?_
    obtain⟨p,p1,p2⟩:=kq.1 hq
    have NG:=Cw (E4 (ch:=a.ch) C.tM C.wj (iK (n:=(qf a.oO).length) (k3 s.m)) (jk k4)).1 p p1
    have e1:eM ρ p.1=eM iX p.1:=by rw[hy];exact(jJ _ _ _ (by rw[C.len];exact NG.1)).symm
    have e2:dB ρ p.2=dB iX p.2:=by rw[hy];exact(hJ (by rw[C.len];exact NG.2)).symm
    rw[p2,e1,e2]
    rcases hp _ _ hd p p1 with⟨q1,cs,q2,q3⟩|⟨q1,q2⟩
    ·rw[q3]
     exact kq.2 ⟨(p.1,cs),kA q2,rfl⟩
    ·obtain⟨new,n1,n2⟩:=N.md
     rw[n1,tP]at ho
     have hf:=n2 p.1 (xK ho p.1 NG.1 q1) NG.1
     rw[np C.vars q2]at hf
     exact kq.2 ⟨(p.1,p.2),kA hf,rfl⟩
   ·intro q hq
    obtain⟨p,p1,p2⟩:=kq.1 hq
    have NG:=Cw (E4 (ch:=a.ch) C.tM C.wj (iK (n:=(qf a.oO).length) (k3 s.m)) (jk k4)).1 p p1
    have e1:eM ρ p.1=eM iX p.1:=by rw[hy];exact(jJ _ _ _ (by rw[C.len];exact NG.1)).symm
    have e2:dB ρ p.2=dB iX p.2:=by rw[hy];exact(hJ (by rw[C.len];exact NG.2)).symm
    rw[p2,e1,e2]
    rcases hp _ _ hd p p1 with⟨q1,cs,q2,q3⟩|⟨q1,q2⟩
    ·rw[q3]
     exact⟨(p.1,cs),kA q2,.inl NG.1,rfl⟩
    ·obtain⟨new,n1,n2⟩:=N.md
     rw[n1,tP]at ho
     have hf:=n2 p.1 (xK ho p.1 NG.1 q1) NG.1
     rw[np C.vars q2]at hf
     exact⟨(p.1,p.2),kA hf,.inl NG.1,rfl⟩
 ·exact H.elim
theorem JT{n:Nat}{h:Heap}:∀{nv:List (Nat×List Sh)}{vs:List Lf}{s:St}{ρ:List Nat}{A:aU}{K:St->Prop},(Vars h (kh ρ s.L)->Cl s ρ h)->Rel ρ s.m s.E A->(∀m,bS m vs=true)->cD vs->
 Vars h (vu nv (dB ρ vs) (kh ρ s.L))->Rk n nv vs s K->∃s2 GY,Cl s2 GY h/\Rel GY s2.m s2.E (nT n (lS nv) (VE nv (dB ρ vs)) A)/\s.m<=s2.m/\s2.md=s.md/\(∀id,id<s.m->cE s2.L id=cE s.L id)/\(∃y,GY=ρ++y)/\K s2
 |[],vs,s,ρ,A,K,C,R,_,_,V,H=>⟨s,ρ,C V,R,Nat.le_refl _,rfl,fun _ _=>rfl,⟨[],by simp⟩,H⟩
 |(t,ss)::r,[],s,ρ,A,K,C,R,_,_,V,H=>H.elim
 |(t,ss)::r,x::vs,s,ρ,A,K,C,R,ho,hf,V,H=>by
  unfold Rk at H
  cases hb:Hz x with
  |none=>rw[hb]at H;exact H.elim
  |some b=>
   rw[hb]at H
   have H:=nn H
   have hx:=JS hb ρ
   simp only[dB,vu,hx]at V
   rw[<-mm,<-xG]at V
   have hvs:∀m,bS m vs=true:=fun m=>by have:=ho m;simp only[bS,Bool.and_eq_true]at this;exact this.2
   have hV0:∀{nv:List (Nat×List Sh)}{vs:List Value}{V:List (Nat×List Value)},Vars h (vu nv vs V)->Vars h V:=by
    intro nv
    induction nv with
    |nil=>intro vs V h;exact h
    |cons p r ih=>
     intro vs V h
     cases vs with
     |nil=>exact ih h
     |cons v vs=>exact(ih h).tail
   have C0:=C (hV0 V).tail
   have ht:∀m,bS m (vs.take ss.length)=true:=fun m=>cO.2 fun z hz=>cO.1 (hvs m) z (List.mem_of_mem_take hz)
   have hl:eM (ρ++[b]) s.m=b:=by rw[<-C0.len];exact sd ρ b []
   have eL:kh (ρ++[b]) ((s.m,vs.take ss.length)::s.L)=(VF (VP b 0),dB ρ (vs.take ss.length))::kh ρ s.L:=by
    show(eM (ρ++[b]) s.m,dB (ρ++[b]) (vs.take ss.length))::kh (ρ++[b]) s.L=_
    rw[hl,hJ (ht _),wi (by rw[C0.len];exact C0.tM)]
    rfl
   have ed:dB (ρ++[b]) (vs.drop ss.length)=dB ρ (vs.drop ss.length):=hJ (iK (hvs _))
   have Rx:=R.ext (y:=[b]) (n:=s.m+1) C0.len (by omega)
   obtain⟨s2,GY,c1,c2,c3,c4,c5,⟨y,c6⟩,c7⟩:=JT (s:={s with E:=HA n s.E t (some (.v (.l (.p s.m 0)))),L:=(s.m,vs.take ss.length)::s.L,ρ:=s.ρ++[b],m:=s.m+1}) (ρ:=ρ++[b]) (A:=wZ n A (some t) (VP b 0)) (fun W=>⟨W,by simp[C0.len],by rw[C0.r],C0.h,C0.nw,C0.so,C0.d,by
    have e1:=ht (s.m+1)
    have e2:=Ro (Nat.le_succ s.m) C0.tM
    simp only[rM,Bool.and_eq_true]
    exact⟨⟨fb.2 (Nat.lt_succ_self _),e1⟩,e2⟩,⟨bT.2 fun z hz=>bT.1 hf.2 z (List.mem_of_mem_take hz),C0.wj⟩⟩)
    (xI Rx fun y hy=>by
     have hy:=Option.some.inj hy
     subst hy
     refine⟨fb.2 (Nat.lt_succ_self _),trivial,?_⟩
     show VP b 0=VP (eM (ρ++[b]) s.m) 0
     rw[hl]) (fun m=>iK (hvs m)) (jk hf.2) (by rw[eL,ed];exact V) H
   refine⟨s2,GY,c1,?_,by have:s.m+1<=s2.m:=c3
                         omega,c4,fun id hid=> ?_,⟨b::y,by rw[c6];simp⟩,c7⟩
   ·rw[ed]at c2
    simp only[lS,dB,VE,hx,nT]
    rw[<-mm]
    exact c2
   ·rw[c5 id (Nat.lt_succ_of_lt hid)]
    exact qU hid
theorem JU{n:Nat}{a:An}{ws:List Nat}{s:St}{ρ:List Nat}{h:Heap}(C:Cl s ρ h){A:aU}(R:Rel ρ s.m s.E A){J:En (Nk a s.L)}{Q:St->Prop}{vs:List Value}{h':Heap}(hj:JV a s ρ J vs h')
 (H:vL _ J fun vs J'=>∀h':Heap,J' h'->bld n a ws vs {s with h:=h'} fun s2=>Vars h' (kh s2.ρ s2.L)->Q s2) (j:Nat->Value):
 ∃s2 GY,Inv s2 GY h'/\Rel GY s2.m s2.E (nT n (mh a.oO++lS a.nv) vs (tS n j ws A))/\Nx s ρ s2 GY/\Q s2:=by
 obtain⟨xs,J0,k1,k2,k3,k4,k5,k6⟩:=hj
 have h1:=km H k1 h' k2
 unfold bld at h1
 have h2:=tQ (A6 h1)
 obtain⟨o1,o2⟩:=E4 (ch:=a.ch) C.tM C.wj (iK (n:=(qf a.oO).length) (k3 s.m)) (jk k4)
 rw[k5,A8 (xJ _ _)]
 obtain⟨s2,GY,c1,c2,c3,c4,c5,c6,c7⟩:=JT (h:=h') (s:={s with h:=h',E:=eI n a.oO xs (ES n ws s.E),L:=l2 a.ch s.L (xs.drop (qf a.oO).length),md:=a.ch++s.md}) (ρ:=ρ) (fun V=>⟨V,C.len,C.r,rfl,C.nw,C.so,C.d,o1,o2⟩) (NF (A7 (n:=n) (j:=j) (ts:=ws) R) (k3 _) k4) (fun m=>iK (iK (k3 m))) (jk (jk k4)) k6 h2
 exact⟨s2,GY,c1.inv,c2,⟨c3,⟨a.ch,c4,fun id hid hm=>(c5 id hm).trans (Cv hid)⟩,c6⟩,c7 (by rw[c1.r];exact c1.vars)⟩
def UG(an:Nat->Option An)(p:Nat):Option (List Nat):=
 match an p with
 |some a=>some (mh a.oO++lS a.nv)
 |none=>none
theorem To.up{s0 s:St}{tu ρ:List Nat}{K:St->Prop}{K':aU->Heap->Prop}(N:Nx s0 tu s ρ)(h:To s0 tu K K'):To s ρ K K':=fun s' iX A h' I R N' k=>h s' iX A h' I R (N.trans N') k
theorem VG{P:Program}{n:Nat}{an:Nat->Option An}:∀(c:Code){p:Nat}{kn:St->Prop}{kx:Nat->St->Prop}{kr:St->Prop}{pN:aU->Heap->Prop}{rQ:Nat->aU->Heap->Prop}{vm:aU->Heap->Prop}{s0 s:St}{tu ρ:List Nat}{A:aU}{h:Heap},Inv s ρ h->Rel ρ s.m s.E A->Nx s0 tu s ρ->
 To s0 tu kn pN->(∀i,To s0 tu (kx i) (rQ i))->To s0 tu kr vm->HB P n an c p kn kx kr s->B8 P n (UG an) c p pN rQ vm A h:=by
 intro c
 induction c with
 |skip=>intro p kn kx kr pN rQ vm s0 s tu ρ A h I R N tn tx tr H;exact tn s ρ A h I R N H
 |region id ops draw=>intro p kn kx kr pN rQ vm s0 s tu ρ A h I R N tn tx tr H;exact VC tn I R N H
 |seq a b QN QO=>
  intro p kn kx kr pN rQ vm s0 s tu ρ A h I R N tn tx tr H
  simp only[HB]at H
  simp only[B8]
  cases UH:an p with
  |none=>
   rw[UH]at H
   rw[show UG an p=none by unfold UG;rw[UH]]
   exact QN I R N (fun s' iX A' h' I' R' N' k=>QO I' R' N' tn tx tr k) tx tr H
  |some a'=>
   rw[UH]at H
   rw[show UG an p=some (mh a'.oO++lS a'.nv) by unfold UG;rw[UH]]
   simp only at H⊢
   obtain⟨s1,C,hE,hL,hm,jK,J,H1,H2⟩:=iG I H
   have R1:Rel ρ s1.m s1.E A:=by rw[hE,hm];exact R
   have N1:=N.trans (fE (ρ:=ρ) hm hL jK)
   refine⟨JV a' s1 ρ J,?_,fun tC=>qV fun vs h' hj=> ?_⟩
   ·refine QN C.inv R1 (Nx.refl s1 ρ) (fun s' iX A' h' I' R' N' k=> ?_) (fun i=>(tx i).up N1) (tr.up N1) H1
    obtain⟨s2,C2,hE2,bW,JW,ae2,k2⟩:=iG I' k
    have R2:Rel iX s2.m s2.E A':=by rw[hE2,JW];exact R'
    exact Cx C C2.inv R2 (N'.trans (fE JW bW ae2)) k2 C2.r C2.h
   ·rw[xH,Ct]
    obtain⟨s2,GY,I2,R2,N2,q⟩:=JU C R1 hj H2 tC
    exact QO I2 R2 (N1.trans N2) tn tx tr q
 |cond c a b QN QO=>
  intro p kn kx kr pN rQ vm s0 s tu ρ A h I R N tn tx tr H
  simp only[HB]at H
  simp only[B8]
  split at H
  ·rename_i x kn0 hx
   obtain⟨b1,b2⟩:=xC I R hx H
   rw[(ft R hx).2.2]
   refine Q9 (fun e=> ?_) (fun e=> ?_)
   ·obtain⟨s',I',R',hm,hL,jK,q⟩:=b1 e
    exact QN I' R' (N.trans (fE hm hL jK)) tn tx tr q
   ·obtain⟨s',I',R',hm,hL,jK,q⟩:=b2 e
    exact QO I' R' (N.trans (fE hm hL jK)) tn tx tr q
  ·exact H.elim
 |block id c ih=>
  intro p kn kx kr pN rQ vm s0 s tu ρ A h I R N tn tx tr H
  simp only[HB]at H
  simp only[B8]
  refine ih I R N tn (fun i s' iX A' h' I' R' N' k=> ?_) tr H
  cases hb:Nat.beq i id with
  |true=>simp only[hb]at k⊢;exact tn s' iX A' h' I' R' N' k
  |false=>simp only[hb]at k⊢;exact tx i s' iX A' h' I' R' N' k
 |loop c ih=>
  intro p kn kx kr pN rQ vm s0 s tu ρ A h I R N tn tx tr H
  simp only[HB]at H
  simp only[B8]
  cases UH:an p with
  |none=>rw[UH]at H;exact H.elim
  |some a'=>
   rw[UH]at H
   rw[show UG an p=some (mh a'.oO++lS a'.nv) by unfold UG;rw[UH]]
   simp only at H⊢
   obtain⟨s1,C,hE,hL,hm,jK,J,⟨n0,H1⟩,H2⟩:=iG I H
   have R1:Rel ρ s1.m s1.E A:=by rw[hE,hm];exact R
   have N1:=N.trans (fE (ρ:=ρ) hm hL jK)
   refine Hs (J:=fun n vs h'=>JV a' s1 ρ (J n) vs h') n0 (Cx C C.inv R1 (Nx.refl s1 ρ) H1 C.r C.h) fun Iv μ hI tC=>qV fun vs h' hi=> ?_
   rw[xH,Ct]
   obtain⟨m0,hj,hn⟩:=hI vs h' hi
   obtain⟨s2,GY,I2,R2,N2,q⟩:=JU C R1 hj (H2 m0) tC
   refine ih I2 R2 N2 (fun s' iX A' lc I' R' N' k=> ?_) (fun i=>(tx i).up N1) (tr.up N1) q
   obtain⟨s3,C3,hE3,cF,hm3,ae3,m,tE,k3⟩:=iG I' k
   have R3:Rel iX s3.m s3.E A':=by rw[hE3,hm3];exact R'
   exact hn _ _ ⟨m,tE,Cx C C3.inv R3 (N'.trans (fE hm3 cF ae3)) k3 C3.r C3.h⟩
 |exit id=>intro p kn kx kr pN rQ vm s0 s tu ρ A h I R N tn tx tr H;exact tx id s ρ A h I R N H
 |ret=>intro p kn kx kr pN rQ vm s0 s tu ρ A h I R N tn tx tr H;exact tr s ρ A h I R N H
 |label l=>intro p kn kx kr pN rQ vm s0 s tu ρ A h I R N tn tx tr H;exact tn s ρ A h I R N H
 |_=>intro p kn kx kr pN rQ vm s0 s tu ρ A h I R N tn tx tr H;exact H.elim
def VH:Lf->Bool
 | .b _ (some _)=>false
 |_=>true
def E5:List Lf->Bool
 |[]=>true
 |x::xs=>VH x&&E5 xs
def abJ:Tv->Bool
 | .v (.l x)=>VH x
 | .v (.a xs)=>E5 xs
 | .t _=>false
def JX:List Tv->Bool
 |[]=>true
 |x::xs=>abJ x&&JX xs
def nkL:List (Nat×List Lf)->Bool
 |[]=>true
 |(_,xs)::L=>E5 xs&&nkL L
theorem JY{x:Lf}(h:VH x=true):x.fact:=by
 cases x<;>try trivial
 case b x kn=>cases kn with
  |none=>trivial
  |some _=>cases h
theorem xL:∀{xs:List Lf},E5 xs=true->cD xs
 |[],_=>trivial
 |x::xs,h=>by
  simp only[E5,Bool.and_eq_true]at h
  exact⟨JY h.1,xL h.2⟩
theorem Ry{x:Tv}(h:abJ x=true):x.fact:=by
 cases x with
 |v x=>cases x with
  |l x=>exact JY h
  |a xs=>exact xL h
 |t xs=>cases h
theorem NH:∀{L:List (Nat×List Lf)},nkL L=true->oL L
 |[],_=>trivial
 |(i,xs)::L,h=>by
  simp only[nkL,Bool.and_eq_true]at h
  exact⟨xL h.1,NH h.2⟩
def NI(args:List Tv)(L:List (Nat×List Lf))(ρ:List Nat):Bool:=EU (iA ρ) args&&(rM (iA ρ) L&&(JX args&&nkL L))
theorem JZ{ρ:List Nat}{m:Nat}:∀{args:List Tv}{i t:Nat}{x:Tv},EU m args=true->JX args=true->qe (Rm.Nl args i) t=some x->x.ok m=true/\x.fact/\lP (rW (tL ρ args) i) t=x.val ρ
 |[],_,_,_,_,_,h=>by simp[Rm.Nl,qe]at h
 |y::args,i,t,x,h1,h2,h=>by
  simp only[EU,Bool.and_eq_true]at h1
  simp only[JX,Bool.and_eq_true]at h2
  simp only[Rm.Nl,qe]at h
  simp only[tL,rW,lP]
  cases hb:Nat.beq i t with
  |true=>
   rw[hb]at h
   have h:=Option.some.inj h
   subst h
   exact⟨h1.1,Ry h2.1,rfl⟩
  |false=>rw[hb]at h;exact JZ h1.2 h2.2 h
theorem Cy{P:Program}{K:Value->Heap->Prop}:∀{rs:List ResultVar}{acc:List Tv}{s:St}{ρ:List Nat}{A:aU}{h:Heap},Inv s ρ h->Rel ρ s.m s.E A->vM P K rs acc s->B5 P (lP A) h K rs (tL ρ acc)
 |[],acc,s,ρ,A,h,I,R,H=>by
  simp only[vM]at H
  obtain⟨s',C,_,_,_,_,H⟩:=iG I H
  split at H
  ·rw[C.r,C.h]at H
   exact H
  ·exact H.elim
 | .tmp t::rs,acc,s,ρ,A,h,I,R,H=>by
   simp only[vM]at H
   simp only[B5]
   split at H
   ·rename_i x hx
    have:=Cy I R H
    simp only[tL]at this
    rw[(R.get t x hx).2.2]
    exact this
   ·exact H.elim
 | .cell a t::rs,acc,s,ρ,A,h,I,R,H=>by
   simp only[vM]at H
   simp only[B5]
   split at H
   ·rename_i id off hx
    have hv:lP A a=VP (eM ρ id) off:=(ft R hx).2.2
    rw[hv]
    split at H
    ·rename_i cs hf
     obtain⟨i,hi,_⟩:=kz (ρ:=ρ) hf
     split at H
     ·rename_i h1
      split at H
      ·rename_i y hy
       have:=Cr (ρ:=ρ) hy
       exact JD h1 I.vars i hi off (v:=y.v ρ) (by simpa using this) (Cy (acc:= .v (.l y)::acc) I R H)
      ·exact H.elim
     ·split at H
      ·rename_i n h2
       split at H
       ·rename_i ys hy
        obtain⟨e1,e2⟩:=tN (ρ:=ρ) hy
        exact EF h2 I.vars i hi off e1 e2 (Cy (acc:= .v (.a ys)::acc) I R H)
       ·exact H.elim
      ·exact H.elim
    ·exact H.elim
   ·exact H.elim
theorem Cz{P:Program}(hm:P.follows .mixedOrders=true){f:FuncId}{fn:Func}{c:Code}(hf:P.funcs[f]?=some fn)(hb:fn.body=some c)(hn:(fn.name== "runtime.NumGoroutine")=false)
 (an:Nat->Option An) {args:List Tv} {L:List (Nat×List Lf)} {ρ:List Nat} {h:Heap} {K:Value->Heap->Prop} (m n:Nat) (hk:fn.ntmps-(tL ρ args).length=m) (MS:(tL ρ args).length+m=n) (rs:List ResultVar) (hr:fn.results.toList=rs)
 (ha:NI args L ρ=true) (V:Vars h (kh ρ L))
 (H:HB P n an c 1 (fun s=>vM P K rs [] s) (fun _ _=>False) (fun s=>vM P K rs [] s) (Rm args L ρ h)):aE P f (tL ρ args).toArray h K:=by
 simp only[NI,Bool.and_eq_true]at ha
 obtain⟨a1,a2,a3,a4⟩:=ha
 refine B9 hm hf hb hn (UG an) m n hk MS rs hr ?_
 have C:Cl (Rm args L ρ h) ρ h:=⟨V,(ly ρ).symm,rfl,rfl,rfl,rfl,rfl,a2,NH a4⟩
 have R:Rel ρ (Rm args L ρ h).m (Rm args L ρ h).E (rW (tL ρ args) 0):=⟨fun t x hx=>JZ a1 a3 hx⟩
 have tr:To (Rm args L ρ h) ρ (fun s=>vM P K rs [] s) (fun A h=>MQ P A h K rs):=fun s ρ A h I R _ k=>Cy I R k
 exact VG c C.inv R (Nx.refl _ _) tr (fun i s ρ A h _ _ _ k=>k.elim) tr H
end Go.Mx
