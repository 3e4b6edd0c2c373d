import Derived.Test.YtcnfcnoooecchaaGreatDoorM6
set_option linter.unusedVariables false
set_option linter.unusedSimpArgs false
set_option linter.constructorNameAsVariable false
namespace Go.Mx
theorem lu:∀l:List Nat,iy l=l.length
 |[]=>rfl
 |_::l=>by simp[iy,lu l]
theorem kf:∀l:List Lf,xA l=l.length
 |[]=>rfl
 |_::l=>by simp[xA,kf l]
theorem fc{a b:Nat}:Nat.blt a b=true↔a<b:=by rw[Nat.blt_eq]
theorem jH:∀(ρ y:List Nat)(i:Nat),i<ρ.length->eM (ρ++y) i=eM ρ i
 |[],_,_,h=>by simp at h
 |_::_,_,0,_=>rfl
 |_::ρ,y,i+1,h=>by simp only[List.cons_append,eM];exact jH ρ y i (by simpa using h)
theorem rZ:∀(ρ:List Nat)(b:Nat)(y:List Nat),eM (ρ++b::y) ρ.length=b
 |[],_,_=>rfl
 |_::ρ,b,y=>by simp only[List.cons_append,List.length_cons,eM];exact rZ ρ b y
theorem AR{ρ y:List Nat}:∀{l:List Nat},(∀i,i∈l->i<ρ.length)->vm (ρ++y) l=vm ρ l
 |[],_=>rfl
 |i::l,h=>by simp only[vm];rw[jH _ _ _ (h i (by simp)),AR fun j hj=>h j (by simp[hj])]
theorem Vh{ρ y:List Nat}{c:Cp}(h:MQ ρ.length c=true):c.v' (ρ++y)=c.v' ρ:=by
 cases c with
 |p id off=>simp only[Cp.v'];rw[jH _ _ _ (fc.1 h)]
 |v x=>rfl
theorem Cg{ρ y:List Nat}:∀{cs:List Cp},nL ρ.length cs=true->EI (ρ++y) cs=EI ρ cs
 |[],_=>rfl
 |c::cs,h=>by
  simp only[nL,Bool.and_eq_true]at h
  simp only[EI];rw[Vh h.1,Cg h.2]
theorem Hs{ρ y:List Nat}{x:Lf}(h:x.ok ρ.length=true):x.v (ρ++y)=x.v ρ:=by
 cases x<;>try rfl
 case p id off=>simp only[Lf.v];rw[jH _ _ _ (fc.1 h)]
 case e x i sz off=>cases off<;>rfl
 case f fn fs cs=>
  simp only[Lf.ok,Bool.and_eq_true]at h
  simp only[Lf.v];rw[Cg h.1,Cg h.2]
theorem gY{ρ y:List Nat}:∀{xs:List Lf},bQ ρ.length xs=true->dB (ρ++y) xs=dB ρ xs
 |[],_=>rfl
 |x::xs,h=>by
  simp only[bQ,Bool.and_eq_true]at h
  simp only[dB];rw[Hs h.1,gY h.2]
theorem M0{ρ y:List Nat}{x:Av}(h:x.ok ρ.length=true):x.v (ρ++y)=x.v ρ:=by
 cases x with
 |l x=>exact Hs h
 |a xs=>simp only[Av.v];rw[gY h]
theorem JA{ρ y:List Nat}:∀{xs:List Av},nM ρ.length xs=true->Ui (ρ++y) xs=Ui ρ xs
 |[],_=>rfl
 |x::xs,h=>by
  simp only[nM,Bool.and_eq_true]at h
  simp only[Ui];rw[M0 h.1,JA h.2]
theorem Ci{ρ y:List Nat}{x:Tv}(h:x.ok ρ.length=true):x.val (ρ++y)=x.val ρ:=by
 cases x with
 |v x=>exact M0 h
 |t xs=>simp only[Tv.val];rw[JA h]
theorem wj{ρ y:List Nat}:∀{L:List (Nat×List Lf)},rJ ρ.length L=true->ke (ρ++y) L=ke ρ L
 |[],_=>rfl
 |(i,xs)::L,h=>by
  simp only[rJ,Bool.and_eq_true]at h
  simp only[ke];rw[jH _ _ _ (fc.1 h.1.1),gY h.1.2,wj h.2]
theorem abf{m n:Nat}{c:Cp}(h:MQ m c=true)(hm:m<=n):MQ n c=true:=by
 cases c with
 |p id off=>exact fc.2 (Nat.lt_of_lt_of_le (fc.1 h) hm)
 |v x=>rfl
theorem Hv{m n:Nat}(hm:m<=n):∀{cs:List Cp},nL m cs=true->nL n cs=true
 |[],_=>rfl
 |c::cs,h=>by
  simp only[nL,Bool.and_eq_true]at h⊢
  exact⟨abf h.1 hm,Hv hm h.2⟩
theorem Up{m n:Nat}{x:Lf}(h:x.ok m=true)(hm:m<=n):x.ok n=true:=by
 cases x<;>try rfl
 case p id off=>exact fc.2 (Nat.lt_of_lt_of_le (fc.1 h) hm)
 case f fn fs cs=>
  simp only[Lf.ok,Bool.and_eq_true]at h⊢
  exact⟨Hv hm h.1,Hv hm h.2⟩
theorem Cj{m n:Nat}(hm:m<=n):∀{xs:List Lf},bQ m xs=true->bQ n xs=true
 |[],_=>rfl
 |x::xs,h=>by
  simp only[bQ,Bool.and_eq_true]at h⊢
  exact⟨Up h.1 hm,Cj hm h.2⟩
theorem Uq{m n:Nat}{x:Av}(h:x.ok m=true)(hm:m<=n):x.ok n=true:=by
 cases x with
 |l x=>exact Up h hm
 |a xs=>exact Cj hm h
theorem M4{m n:Nat}(hm:m<=n):∀{xs:List Av},nM m xs=true->nM n xs=true
 |[],_=>rfl
 |x::xs,h=>by
  simp only[nM,Bool.and_eq_true]at h⊢
  exact⟨Uq h.1 hm,M4 hm h.2⟩
theorem abg{m n:Nat}{x:Tv}(h:x.ok m=true)(hm:m<=n):x.ok n=true:=by
 cases x with
 |v x=>exact Uq h hm
 |t xs=>exact M4 hm h
theorem Q9{m n:Nat}(hm:m<=n):∀{L:List (Nat×List Lf)},rJ m L=true->rJ n L=true
 |[],_=>rfl
 |(i,xs)::L,h=>by
  simp only[rJ,Bool.and_eq_true]at h⊢
  exact⟨⟨fc.2 (Nat.lt_of_lt_of_le (fc.1 h.1.1) hm),Cj hm h.1.2⟩,Q9 hm h.2⟩
theorem xB{s:Sh}{Q:Lf->Prop}(h:exS s Q):∃x,Q x/\(∀m,x.ok m=true)/\x.fact:=by
 cases s<;>(obtain⟨x,hx⟩:=h;exact⟨_,hx,fun _=>rfl,trivial⟩)
theorem oJ:∀{ss:List Sh}{Q:List Lf->Prop},exL ss Q->∃xs,Q xs/\(∀m,bQ m xs=true)/\cD xs
 |[],Q,h=>⟨[],h,fun _=>rfl,trivial⟩
 |s::ss,Q,h=>by
  obtain⟨x,h1,h2,h3⟩:=xB h
  obtain⟨xs,h4,h5,h6⟩:=oJ h1
  exact⟨x::xs,h4,fun m=>by simp[bQ,h2 m,h5 m],h3,h6⟩
theorem ES{s:As}{Q:Av->Prop}(h:exA s Q):∃x,Q x/\(∀m,x.ok m=true)/\x.fact:=by
 cases s with
 |l s=>obtain⟨x,h1,h2,h3⟩:=xB h;exact⟨.l x,h1,h2,h3⟩
 |a ss=>obtain⟨xs,h1,h2,h3⟩:=oJ h;exact⟨.a xs,h1,h2,h3⟩
theorem AU:∀{ss:List As}{Q:List Av->Prop},U6 ss Q->∃xs,Q xs/\(∀m,nM m xs=true)/\wg xs
 |[],Q,h=>⟨[],h,fun _=>rfl,trivial⟩
 |s::ss,Q,h=>by
  obtain⟨x,h1,h2,h3⟩:=ES h
  obtain⟨xs,h4,h5,h6⟩:=AU h1
  exact⟨x::xs,h4,fun m=>by simp[nM,h2 m,h5 m],h3,h6⟩
theorem r8{s:Ts}{Q:Tv->Prop}(h:zS s Q):∃x,Q x/\(∀m,x.ok m=true)/\x.fact:=by
 cases s with
 |v s=>obtain⟨x,h1,h2,h3⟩:=ES h;exact⟨.v x,h1,h2,h3⟩
 |t ss=>obtain⟨xs,h1,h2,h3⟩:=AU h;exact⟨.t xs,h1,h2,h3⟩
structure Inv(s:St)(ρ:List Nat)(th:Heap):Prop where
 vars:Vars th (ke ρ s.L)
 len:ρ.length=s.m
 ext:∃x:List Nat,ρ=s.ρ++x/\x.length=s.nw/\∀b,b∈x->s.h.size<=b
 fr:Fr (In (vm ρ s.so)) s.h th
 cln:s.d=false->s.nw=0/\s.so=[]/\th=s.h
 so:∀i,i∈s.so->i<s.ρ.length
 tF:rJ s.m s.L=true
 wm:oF s.L
structure Cl(s:St)(ρ:List Nat)(th:Heap):Prop where
 vars:Vars th (ke ρ s.L)
 len:ρ.length=s.m
 r:s.ρ=ρ
 h:s.h=th
 nw:s.nw=0
 so:s.so=[]
 d:s.d=false
 tF:rJ s.m s.L=true
 wm:oF s.L
theorem Cl.inv{s:St}{ρ:List Nat}{th:Heap}(C:Cl s ρ th):Inv s ρ th:=
 ⟨C.vars,C.len,⟨[],by simp[C.r],by simp[C.nw],by simp⟩,by rw[C.h,C.so];exact Fr.refl _ _,fun _=>⟨C.nw,C.so,C.h.symm⟩,by simp[C.so],C.tF,C.wm⟩
theorem Inv.cl{s:St}{ρ:List Nat}{th:Heap}(I:Inv s ρ th)(hd:s.d=false):Cl s ρ th:=by
 obtain⟨h1,h2,h3⟩:=I.cln hd
 obtain⟨x,e1,e2,_⟩:=I.ext
 have:x=[]:=List.eq_nil_of_length_eq_zero (by omega)
 subst this
 exact⟨I.vars,I.len,by simpa using e1.symm,h3.symm,h1,h2,hd,I.tF,I.wm⟩
structure Rel(ρ:List Nat)(m:Nat)(E:List (Nat×Option Tv))(A:aV):Prop where
 get:∀t x,qe E t=some x->x.ok m=true/\x.fact/\lJ A t=x.val ρ
theorem Rel.ext{ρ y:List Nat}{m n:Nat}{E:List (Nat×Option Tv)}{A:aV}(R:Rel ρ m E A)(hm:ρ.length=m)(hn:m<=n):Rel (ρ++y) n E A:=
 ⟨fun t x h=>by
  obtain⟨h1,h2,h3⟩:=R.get t x h
  exact⟨abg h1 hn,h2,by rw[Ci (by rw[hm];exact h1)];exact h3⟩⟩
theorem JB:∀{n:Nat}{ρ:List Nat}{k:List Nat->Prop},qB n ρ k->∀x:List Nat,x.length=n->k (ρ++x)
 |0,ρ,k,h,x,hx=>by
  obtain rfl:=List.eq_nil_of_length_eq_zero hx
  simpa[qB]using h
 |n+1,ρ,k,h,[],hx=>by simp at hx
 |n+1,ρ,k,h,b::x,hx=>by
  have:=JB (h b) x (by simpa using hx)
  simpa using this
theorem AV{h:Heap}:∀{l:List Nat}{Q:Prop},U7 h l Q->(∀b,b∈l->h.size<=b)->Q
 |[],Q,H,_=>H
 |b::l,Q,H,hb=>AV (H (hb b (by simp))) fun c hc=>hb c (by simp[hc])
theorem ET:∀(a b:List Nat),Q2 a (a++b)=b
 |[],b=>rfl
 |_::a,b=>ET a b
theorem iD{s:St}{ρ:List Nat}{th:Heap}{k:St->Prop}(I:Inv s ρ th)(H:sync s k):∃s',Cl s' ρ th/\s'.E=s.E/\s'.L=s.L/\s'.m=s.m/\s'.md=s.md/\k s':=by
 unfold sync at H
 cases hd:s.d with
 |false=>
  rw[hd]at H
  exact⟨s,I.cl hd,rfl,rfl,rfl,rfl,H⟩
 |true=>
  rw[hd]at H
  obtain⟨x,e1,e2,e3⟩:=I.ext
  have h1:=JB H x e2 th
  rw[<-e1]at h1
  have h2:Q2 s.ρ ρ=x:=by rw[e1];exact ET _ _
  rw[h2]at h1
  have h3:=AV h1 e3 I.fr I.vars
  exact⟨{s with ρ:=ρ,nw:=0,so:=[],d:=false,h:=th},⟨I.vars,I.len,rfl,rfl,rfl,rfl,rfl,I.tF,I.wm⟩,rfl,rfl,rfl,rfl,h3⟩
theorem M5(ρ:List Nat)(v:Value):(MS v).v ρ=v:=by cases v<;>rfl
theorem JC(m:Nat)(v:Value):(MS v).ok m=true:=by cases v<;>rfl
theorem AW(v:Value):(MS v).fact:=by cases v<;>first|rfl|trivial
theorem je{ρ:List Nat}{m:Nat}{E:List (Nat×Option Tv)}{A:aV}(R:Rel ρ m E A){x:Operand}{y:Tv}(h:xy E x=some y):y.ok m=true/\y.fact/\fh A x=y.val ρ:=by
 cases x with
 |tmp t=>exact R.get t y h
 |const v=>
  simp only[xy,Option.some.injEq]at h
  subst h
  exact⟨JC m v,AW v,(M5 ρ v).symm⟩
 |global g=>
  simp only[xy,Option.some.injEq]at h
  subst h
  exact⟨rfl,trivial,rfl⟩
 |func f=>
  simp only[xy,Option.some.injEq]at h
  subst h
  exact⟨rfl,trivial,rfl⟩
theorem ft{ρ:List Nat}{m:Nat}{E:List (Nat×Option Tv)}{A:aV}(R:Rel ρ m E A){x:Operand}{y:Lf}(h:lf E x=some y):y.ok m=true/\y.fact/\fh A x=y.v ρ:=by
 unfold lf at h
 split at h
 ·rename_i z hz
  have h:=Option.some.inj h
  subst h
  exact je R hz
 ·cases h
theorem lx{s:St}{ρ:List Nat}{th:Heap}{A:aV}(I:Inv s ρ th)(R:Rel ρ s.m s.E A):∀{l:List Operand},Hm (iy s.ρ) s.E l=true->∀x,x∈l->fh A x=Ej s.ρ s.E x
 |[],_,x,hx=>by simp at hx
 |y::l,h,x,hx=>by
  simp only[Hm,Bool.and_eq_true]at h
  rcases List.mem_cons.1 hx with rfl|hx
  ·cases hy:xy s.E x with
   |none=>rw[hy]at h;simp at h
   |some z=>
    rw[hy]at h
    obtain⟨e,e1,_,_⟩:=I.ext
    rw[(je R hy).2.2]
    unfold Ej
    rw[hy,e1]
    exact Ci (by rw[<-lu];exact h.1)
  ·exact lx I R h.2 x hx
structure Nx(s:St)(ρ:List Nat)(s':St)(iV:List Nat):Prop where
 m:s.m<=s'.m
 md:∃new,s'.md=new++s.md/\∀id,eH new id=false->id<s.m->cE s'.L id=cE s.L id
 r:∃y,iV=ρ++y
theorem fD{s s':St}{ρ:List Nat}(hm:s'.m=s.m)(hL:s'.L=s.L)(jI:s'.md=s.md):Nx s ρ s' ρ:=⟨by omega,⟨[],by simp[jI],fun _ _ _=>by rw[hL]⟩,⟨[],by simp⟩⟩
theorem Nx.refl(s:St)(ρ:List Nat):Nx s ρ s ρ:=fD rfl rfl rfl
theorem EU:∀{a b:List Nat}{i:Nat},eH (a++b) i=(eH a i||eH b i)
 |[],b,i=>rfl
 |x::a,b,i=>by simp only[List.cons_append,eH];rw[EU,Bool.or_assoc]
theorem Nx.trans{s1 s2 s3:St}{ρ1 GN ρ3:List Nat}(h:Nx s1 ρ1 s2 GN)(k:Nx s2 GN s3 ρ3):Nx s1 ρ1 s3 ρ3:=by
 obtain⟨m1,⟨n1,a1,b1⟩,⟨y1,c1⟩⟩:=h
 obtain⟨m2,⟨n2,a2,b2⟩,⟨y2,c2⟩⟩:=k
 refine⟨by omega,⟨n2++n1,by rw[a2,a1,List.append_assoc],fun id hid hm=> ?_⟩,⟨y1++y2,by rw[c2,c1,List.append_assoc]⟩⟩
 rw[EU,Bool.or_eq_false_iff]at hid
 rw[b2 id hid.1 (by omega),b1 id hid.2 hm]
def iE(A:aV)(s:St)(ρ:List Nat)(k:St->Tv->Prop)(v:Value)(h':Heap):Prop:=
 ∃s' x iV,Inv s' iV h'/\Rel iV s'.m s'.E A/\v=x.val iV/\x.ok s'.m=true/\x.fact/\Nx s ρ s' iV/\k s' x
theorem bD{A:aV}{s:St}{ρ:List Nat}{k:St->Tv->Prop}{h:Heap}{x:Tv}{v:Value}(I:Inv s ρ h)(R:Rel ρ s.m s.E A)(hv:v=x.val ρ)(ho:x.ok s.m=true)(hf:x.fact)(hk:k s x):iE A s ρ k v h:=
 ⟨s,x,ρ,I,R,hv,ho,hf,Nx.refl _ _,hk⟩
theorem iF{A:aV}{s s':St}{ρ:List Nat}{k:St->Tv->Prop}{h:Heap}{x:Tv}{v:Value}(I:Inv s' ρ h)(R:Rel ρ s'.m s'.E A)(N:Nx s ρ s' ρ)(hv:v=x.val ρ)(ho:x.ok s'.m=true)(hf:x.fact)(hk:k s' x):iE A s ρ k v h:=
 ⟨s',x,ρ,I,R,hv,ho,hf,N,hk⟩
theorem cM{P:Program}{e:Operand->Value}{op:Op}{ty:TypeId}{h:Heap}{K:Value->Heap->Prop}{q:Sem Value}(h1:gv op=none)(h2:kA op=none)(h3:jD e ty op=some q)(H:pop P q fun v=>K v h):fk P e op ty h K:=by
 unfold fk;simp only[h1,h2,h3];exact H
theorem iG{P:Program}{A:aV}{s:St}{ρ:List Nat}{h:Heap}{op:Op}{ty:TypeId}{rt:Option Ts}{k:St->Tv->Prop}(I:Inv s ρ h)(R:Rel ρ s.m s.E A)(H:lL P s op ty rt k):fk P (fh A) op ty h (iE A s ρ k):=by
 unfold lL at H
 cases h1:gv op with
 |some x=>rw[h1]at H;exact H.elim
 |none=>
 cases h2:kA op with
 |some x=>rw[h1,h2]at H;exact H.elim
 |none=>
 rw[h1,h2]at H
 simp only at H
 cases h3:jD fm 0 op with
 |some q0=>
  rw[h3]at H
  simp only at H
  split at H
  ·rename_i hd
   have hc:jD (fh A) ty op=jD (Ej s.ρ s.E) ty op:=qK fun x hx=>lx I R hd x (by simpa using hx)
   split at H
   ·rename_i q hq
    refine cM h1 h2 (by rw[hc];exact hq) (H.mono fun rv hr=> ?_)
    unfold exR at hr
    cases rt with
    |none=>exact bD (x:= .v (.l (.r rv))) I R rfl rfl trivial hr
    |some t=>
     obtain⟨x,⟨e1,e2⟩,e3,e4⟩:=r8 hr
     obtain⟨z,e5,_,_⟩:=I.ext
     exact bD I R (by rw[e1,e5,Ci (e3 _)]) (e3 _) e4 e2
   ·exact H.elim
  ·exact H.elim
 |none=>
  rw[h3]at H
  simp only at H
  obtain⟨s',C,hE,hL,hm,jI,H⟩:=iD I H
  have I':=C.inv
  have R':Rel ρ s'.m s'.E A:=by rw[hE,hm];exact R
  have hp:∀e,jD e ty op=none:=fun e=>by
   have:=li fm e 0 ty op
   rw[h3]at this
   cases hh:jD e ty op with
   |none=>rfl
   |some _=>rw[hh]at this;cases this
  split at H
  ·rename_i hd
   have hcr:nU (fh A) op=nU (Ej s'.ρ s'.E) op:=mU fun x hx=>lx I' R' hd x (by simpa using hx)
   have hce:Em (fh A) ty op=Em (Ej s'.ρ s'.E) ty op:=wS fun x hx=>lx I' R' hd x (by simpa using hx)
   have hcu:En (fh A) op=En (Ej s'.ρ s'.E) op:=wT fun x hx=>lx I' R' hd x (by simpa using hx)
   unfold fk
   simp only[h1,h2,hp,hcr,hce,hcu]
   split at H
   ·rename_i q hq
    simp only[hq]
    rw[<-C.h]
    refine H.mono fun rv hr=> ?_
    unfold exR at hr
    cases rt with
    |none=>rw[C.h];exact iF (x:= .v (.l (.r rv))) I' R' (fD hm hL jI) rfl rfl trivial hr
    |some t=>
     obtain⟨x,⟨e1,e2⟩,e3,e4⟩:=r8 hr
     rw[C.h]
     exact iF I' R' (fD hm hL jI) (by rw[e1,C.r]) (e3 _) e4 e2
   ·rename_i hq
    simp only[hq]
    split at H
    ·rename_i q gK
     simp only[gK]
     rw[<-C.h]
     refine H.mono fun rv h' hr=> ?_
     unfold lL.aba at hr
     cases rt with
     |none=>
      obtain⟨e2,e5⟩:=hr
      rw[C.r]at e2
      have C':Cl {s' with h:=h'} ρ h':=⟨e2,C.len,C.r,rfl,C.nw,C.so,C.d,C.tF,C.wm⟩
      exact iF (s':={s' with h:=h'}) (x:= .v (.l (.r rv))) C'.inv R' (fD hm hL jI) rfl rfl trivial e5
     |some t=>
      obtain⟨x,⟨e1,e2,e5⟩,e3,e4⟩:=r8 hr
      rw[C.r]at e2
      have C':Cl {s' with h:=h'} ρ h':=⟨e2,C.len,C.r,rfl,C.nw,C.so,C.d,C.tF,C.wm⟩
      exact iF (s':={s' with h:=h'}) C'.inv R' (fD hm hL jI) (by rw[e1,C.r]) (e3 _) e4 e5
    ·rename_i gK
     simp only[gK]
     split at H
     ·rename_i q hq3
      simp only[hq3]
      rw[<-C.h]
      refine⟨fun w hw=> ?_⟩
      obtain⟨w',a1,a2,a3,a4⟩:=H.out w hw
      rw[C.r]at a3
      have C':Cl {s' with h:=w'.heap} ρ w'.heap:=⟨a3,C.len,C.r,rfl,C.nw,C.so,C.d,C.tF,C.wm⟩
      exact⟨w',a1,a2,iF (s':={s' with h:=w'.heap}) (x:= .v (.l .u)) C'.inv R' (fD hm hL jI) rfl rfl trivial a4⟩
     ·exact H.elim
  ·exact H.elim
theorem nf{ids:List Nat}:∀{L:List (Nat×List Lf)}{Q:List (Nat×List Lf)->Prop},pQ ids L Q->∃L',Q L'/\(∀m,rJ m L=true->rJ m L'=true)/\(oF L->oF L')/\∀id,eH ids id=false->cE L' id=cE L id
 |[],Q,h=>⟨[],h,fun _ h=>h,fun h=>h,fun _ _=>rfl⟩
 |(i,xs)::L,Q,h=>by
  unfold pQ at h
  cases hi:eH ids i with
  |true=>
   rw[hi]at h
   obtain⟨ys,h1,h2,h3⟩:=oJ h
   obtain⟨L',h4,h5,h6,h7⟩:=nf h1
   refine⟨(i,ys)::L',h4,fun m hm=> ?_,fun hf=>⟨h3,h6 hf.2⟩,fun id hid=> ?_⟩
   ·simp only[rJ,Bool.and_eq_true]at hm⊢
    exact⟨⟨hm.1.1,h2 m⟩,h5 m hm.2⟩
   ·unfold cE
    cases hb:Nat.beq i id with
    |true=>have:=Nat.eq_of_beq_eq_true hb;subst this;rw[hi]at hid;cases hid
    |false=>exact h7 id hid
  |false=>
   rw[hi]at h
   obtain⟨L',h4,h5,h6,h7⟩:=nf h
   refine⟨(i,xs)::L',h4,fun m hm=> ?_,fun hf=>⟨hf.1,h6 hf.2⟩,fun id hid=> ?_⟩
   ·simp only[rJ,Bool.and_eq_true]at hm⊢
    exact⟨hm.1,h5 m hm.2⟩
   ·unfold cE
    cases Nat.beq i id with
    |true=>rfl
    |false=>exact h7 id hid
theorem Ra{P:Program}{A:aV}{s:St}{ρ:List Nat}{h:Heap}{f:Operand}{args:List Operand}{ty:TypeId}{k:St->Tv->Prop}(I:Inv s ρ h)(R:Rel ρ s.m s.E A)(H:MV P s f args ty k):fC P (fh A f) (mQ (fh A) args) h (iE A s ρ k):=by
 unfold MV at H
 obtain⟨s',C,hE,hL,hm,jI,H⟩:=iD I H
 have I':=C.inv
 have R':Rel ρ s'.m s'.E A:=by rw[hE,hm];exact R
 split at H
 ·exact H.elim
 ·rename_i hd
  have hf:=lx I' R' hd f (by simp)
  have ha:mQ (fh A) args=mQ (Ej s'.ρ s'.E) args:=jb args fun x hx=>lx I' R' hd x (by simp[hx])
  have key:∀rv h',(pQ (gz s'.E (args++[f])) s'.L fun L'=>match fH P ty with
   |some t=>zS t fun x=>rv=x.val s'.ρ/\Vars h' (ke s'.ρ L')/\k {s' with L:=L',md:=gz s'.E (args++[f])++s'.md,h:=h'} x
   |none=>Vars h' (ke s'.ρ L')/\k {s' with L:=L',md:=gz s'.E (args++[f])++s'.md,h:=h'} (.v (.l (.r rv))))->iE A s ρ k rv h':=fun rv h' hq=>by
   obtain⟨L',q1,q2,q3,q4⟩:=nf hq
   have fin:∀x:Tv,Vars h' (ke s'.ρ L')->rv=x.val ρ->(∀m,x.ok m=true)->x.fact->k {s' with L:=L',md:=gz s'.E (args++[f])++s'.md,h:=h'} x->iE A s ρ k rv h':=fun x v1 v2 v3 v4 v5=>by
    rw[C.r]at v1
    have C':Cl {s' with L:=L',md:=gz s'.E (args++[f])++s'.md,h:=h'} ρ h':=⟨v1,C.len,C.r,rfl,C.nw,C.so,C.d,q2 _ C.tF,q3 C.wm⟩
    exact iF (s':={s' with L:=L',md:=gz s'.E (args++[f])++s'.md,h:=h'}) C'.inv R' ((fD hm hL jI).trans ⟨Nat.le_refl _,⟨gz s'.E (args++[f]),rfl,fun id hid _=>q4 id hid⟩,⟨[],by simp⟩⟩) v2 (v3 _) v4 v5
   split at q1
   ·obtain⟨x,⟨e1,e2,e5⟩,e3,e4⟩:=r8 q1
    exact fin x e2 (by rw[e1,C.r]) e3 e4 e5
   ·exact fin (.v (.l (.r rv))) q1.1 rfl (fun _=>rfl) trivial q1.2
  rw[hf,ha,<-C.h]
  cases f with
  |func n=>
   show aE P n ((#[]:Array Value).toList++mQ (Ej s'.ρ s'.E) args++(#[]:Array Value).toList).toArray s'.h _
   rw[show((#[]:Array Value).toList++mQ (Ej s'.ρ s'.E) args++(#[]:Array Value).toList:List Value)=mQ (Ej s'.ρ s'.E) args by simp]
   exact qH (fun rv h' hq=>key rv h' hq) H
  |tmp t=>exact kB (fun rv h' hq=>key rv h' hq) H
  |const v=>exact kB (fun rv h' hq=>key rv h' hq) H
  |global g=>exact kB (fun rv h' hq=>key rv h' hq) H
theorem EV{ρ:List Nat}{m:Nat}{E:List (Nat×Option Tv)}{A:aV}(R:Rel ρ m E A){c:Operand}{x:Bool}{kn:Option (Bool×Bool)}(hc:lf E c=some (.b x kn)){v:Bool}(hx:x=v):Rel ρ m (flag E c v) A:=by
 unfold flag
 split
 ·rename_i t
  split
  ·rename_i y pJ hy
   have hy':lf E (.tmp t)=some (.b y pJ):=by unfold lf xy;simp only[hy]
   rw[hc]at hy'
   simp only[Option.some.injEq,Lf.b.injEq]at hy'
   obtain⟨rfl,rfl⟩:=hy'
   refine⟨fun t' z hz=> ?_⟩
   unfold qe at hz
   cases hb:Nat.beq t t' with
   |true=>
    rw[hb]at hz
    simp only[Option.some.injEq]at hz
    subst hz
    have:=Nat.eq_of_beq_eq_true hb
    subst this
    exact⟨rfl,hx,(R.get t _ hy).2.2⟩
   |false=>rw[hb]at hz;exact R.get t' z hz
  ·exact R
 ·exact R
theorem xC{s:St}{ρ:List Nat}{h:Heap}{A:aV}{c:Operand}{x:Bool}{kn:Option (Bool×Bool)}{yes no:St->Prop}(I:Inv s ρ h)(R:Rel ρ s.m s.E A)(hc:lf s.E c=some (.b x kn))(H:brB x kn s c yes no):
 (x=true->∃s',Inv s' ρ h/\Rel ρ s'.m s'.E A/\s'.m=s.m/\s'.L=s.L/\s'.md=s.md/\yes s')/\(x=false->∃s',Inv s' ρ h/\Rel ρ s'.m s'.E A/\s'.m=s.m/\s'.L=s.L/\s'.md=s.md/\no s'):=by
 have hf:=(ft R hc).2.1
 unfold brB at H
 split at H
 ·rename_i l
  have hx:x=true:=hf
  exact⟨fun _=>⟨s,I,R,rfl,rfl,rfl,H⟩,fun e=>(by rw[hx]at e;cases e)⟩
 ·rename_i l
  have hx:x=false:=hf
  exact⟨fun e=>(by rw[hx]at e;cases e),fun _=>⟨s,I,R,rfl,rfl,rfl,H⟩⟩
 ·have I':∀v,Inv {s with E:=flag s.E c v} ρ h:=fun v=>⟨I.vars,I.len,I.ext,I.fr,I.cln,I.so,I.tF,I.wm⟩
  exact⟨fun e=>⟨_,I' true,EV R hc e,rfl,rfl,rfl,H.1 e⟩,fun e=>⟨_,I' false,EV R hc e,rfl,rfl,rfl,H.2 e⟩⟩
theorem wo:∀{cs:List Lf}{o n:Nat}{ys:List Lf},k9 cs o n=some ys->ys=(cs.drop o).take n/\ys.length=n
 |cs,0,0,ys,h=>by
  simp only[k9,Option.some.injEq]at h
  subst h
  simp
 |x::xs,0,n+1,ys,h=>by
  simp only[k9]at h
  split at h
  ·rename_i r hr
   have h:=Option.some.inj h
   subst h
   obtain⟨e1,e2⟩:=wo hr
   simp only[List.drop_zero]at e1
   simp[<-e1,e2]
  ·cases h
 |x::xs,o+1,n,ys,h=>by
  simp only[k9]at h
  obtain⟨e1,e2⟩:=wo h
  exact⟨by rw[e1];rfl,e2⟩
 |[],o+1,n,ys,h=>by cases n<;>simp[k9]at h
 |[],0,n+1,ys,h=>by simp[k9]at h
theorem eC(ρ:List Nat):∀xs:List Lf,dB ρ xs=xs.map (Lf.v ρ)
 |[]=>rfl
 |x::xs=>by simp[dB,eC ρ xs]
theorem tG{ρ:List Nat}{cs:List Lf}{o n:Nat}{ys:List Lf}(h:k9 cs o n=some ys):Hf (dB ρ cs) o n=dB ρ ys/\(dB ρ ys).length=n:=by
 obtain⟨e1,e2⟩:=wo h
 rw[mZ,eC,eC,e1,List.map_take,List.map_drop]
 refine⟨rfl,?_⟩
 rw[<-List.map_drop,<-List.map_take,List.length_map,<-e1,e2]
theorem cO{m:Nat}:∀{xs:List Lf},bQ m xs=true↔∀x,x∈xs->x.ok m=true
 |[]=>by simp[bQ]
 |x::xs=>by simp[bQ,cO (xs:=xs)]
theorem bR:∀{xs:List Lf},cD xs↔∀x,x∈xs->x.fact
 |[]=>by simp[cD]
 |x::xs=>by simp[cD,bR (xs:=xs)]
theorem pR{m:Nat}{cs:List Lf}{o n:Nat}{ys:List Lf}(h:k9 cs o n=some ys)(hc:bQ m cs=true)(hf:cD cs):bQ m ys=true/\cD ys:=by
 obtain⟨e1,_⟩:=wo h
 have hm:∀x,x∈ys->x∈cs:=fun x hx=>by rw[e1]at hx;exact List.mem_of_mem_drop (List.mem_of_mem_take hx)
 exact⟨cO.2 fun x hx=>cO.1 hc x (hm x hx),bR.2 fun x hx=>bR.1 hf x (hm x hx)⟩
theorem kI{m:Nat}:∀{L:List (Nat×List Lf)}{id:Nat}{cs:List Lf},cE L id=some cs->rJ m L=true->oF L->id<m/\bQ m cs=true/\cD cs
 |[],id,cs,h,_,_=>by simp[cE]at h
 |(i,xs)::L,id,cs,h,ho,hf=>by
  simp only[rJ,Bool.and_eq_true]at ho
  unfold cE at h
  cases hb:Nat.beq i id with
  |true=>
   rw[hb]at h
   have h:=Option.some.inj h
   subst h
   have:=Nat.eq_of_beq_eq_true hb
   subst this
   exact⟨fc.1 ho.1.1,ho.1.2,hf.1⟩
  |false=>rw[hb]at h;exact kI h ho.2 hf.2
theorem ku{ρ:List Nat}:∀{L:List (Nat×List Lf)}{id:Nat}{cs:List Lf},cE L id=some cs->∃i,jS (ke ρ L) i=some (eM ρ id,dB ρ cs)/\∀lK,Ez (ke ρ L) i (dB ρ lK)=ke ρ (vH L id lK)
 |[],id,cs,h=>by simp[cE]at h
 |(j,xs)::L,id,cs,h=>by
  unfold cE at h
  unfold vH
  cases hb:Nat.beq j id with
  |true=>
   rw[hb]at h
   have h:=Option.some.inj h
   subst h
   have:=Nat.eq_of_beq_eq_true hb
   subst this
   exact⟨0,rfl,fun _=>rfl⟩
  |false=>
   rw[hb]at h
   obtain⟨i,h1,h2⟩:=ku (ρ:=ρ) h
   exact⟨i+1,h1,fun lK=>by simp only[ke,Ez];rw[h2]⟩
theorem AX:∀{L:List (Nat×List Lf)}{id:Nat}{cs ys:List Lf},cE L id=some cs->∀j,cE (vH L id ys) j=if id=j then some ys else cE L j
 |[],id,cs,ys,h,j=>by simp[cE]at h
 |(i,xs)::L,id,cs,ys,h,j=>by
  unfold cE at h
  unfold vH
  cases hb:Nat.beq i id with
  |true=>
   have:=Nat.eq_of_beq_eq_true hb
   subst this
   simp only[cE]
   cases hj:Nat.beq i j with
   |true=>rw[if_pos (Nat.eq_of_beq_eq_true hj)]
   |false=>rw[if_neg (fun e=>by subst e;simp at hj)]
  |false=>
   rw[hb]at h
   simp only[cE]
   cases hj:Nat.beq i j with
   |true=>
    have:=Nat.eq_of_beq_eq_true hj
    subst this
    rw[if_neg (fun e=>by subst e;simp at hb)]
   |false=>exact AX h j
theorem JD{m:Nat}:∀{L:List (Nat×List Lf)}{id:Nat}{ys:List Lf},rJ m L=true->oF L->bQ m ys=true->cD ys->rJ m (vH L id ys)=true/\oF (vH L id ys)
 |[],id,ys,_,_,_,_=>⟨rfl,trivial⟩
 |(i,xs)::L,id,ys,ho,hf,h1,h2=>by
  simp only[rJ,Bool.and_eq_true]at ho
  unfold vH
  cases Nat.beq i id with
  |true=>exact⟨by simp[rJ,ho.1.1,h1,ho.2],h2,hf.2⟩
  |false=>
   obtain⟨a,b⟩:=JD (id:=id) ho.2 hf.2 h1 h2
   exact⟨by simp[rJ,ho.1.1,ho.1.2,a],hf.1,b⟩
theorem Rb{P:Program}{A:aV}{s:St}{ρ:List Nat}{h:Heap}{t:TypeId}{x:Operand}{k:St->Tv->Prop}{raw:Prop}(I:Inv s ρ h)(R:Rel ρ s.m s.E A)(H:loadT P s t (lf s.E x) k raw)(hr:raw->zU P (Instr.loadAt t (fh A x)) h fun v=>iE A s ρ k v h):zU P (Instr.loadAt t (fh A x)) h fun v=>iE A s ρ k v h:=by
 unfold loadT at H
 split at H
 ·rename_i id off hx
  have hv:=(ft R hx).2.2
  rw[hv]
  split at H
  ·rename_i cs hf
   obtain⟨o1,o2,o3⟩:=kI hf I.tF I.wm
   obtain⟨i,hi,_⟩:=ku (ρ:=ρ) hf
   split at H
   ·rename_i h1
    split at H
    ·rename_i y hy
     obtain⟨c1,c2⟩:=pR hy o2 o3
     obtain⟨e1,e2⟩:=tG (ρ:=ρ) hy
     refine Js h1 I.vars i hi off (v:=y.v ρ) ?_ (bD (x:= .v (.l y)) I R rfl (cO.1 c1 y (by simp)) (bR.1 c2 y (by simp)) H)
     rw[mZ]at e1
     have:=congrArg (·[0]?) e1
     simpa[dB,List.getElem?_take,List.getElem?_drop]using this
    ·exact H.elim
   ·rename_i h1
    split at H
    ·rename_i n h2
     split at H
     ·rename_i ys hy
      obtain⟨c1,c2⟩:=pR hy o2 o3
      obtain⟨e1,e2⟩:=tG (ρ:=ρ) hy
      exact EB h2 I.vars i hi off e1 e2 (bD (x:= .v (.a ys)) I R rfl c1 c2 H)
     ·exact H.elim
    ·exact H.elim
  ·exact H.elim
 ·rename_i z j sz off hx
  have hv:=(ft R hx).2.2
  have ha:fh A x= .pointer (some (loadT.Qf z j sz off)):=by rw[hv];cases off<;>rfl
  rw[ha]
  obtain⟨s',C,hE,hL,hm,jI,H⟩:=iD I H
  have R':Rel ρ s'.m s'.E A:=by rw[hE,hm];exact R
  split at H
  ·rename_i h1
   split at H
   ·rename_i sh hs
    obtain⟨y,⟨e1,e2⟩,e3,e4⟩:=xB H
    rw[C.h]at e1
    rw[C.r]at e1
    exact Jq h1 (y.v ρ) e1 (iF (x:= .v (.l y)) C.inv R' (fD hm hL jI) rfl (e3 _) e4 e2)
   ·exact H.elim
  ·split at H
   ·rename_i n ss h2 _
    obtain⟨ys,e1,e3,e4⟩:=oJ H
    split at e1
    ·rename_i hn
     obtain⟨e1,e2⟩:=e1
     rw[C.h,C.r]at e1
     have hlen:(dB ρ ys).length=n:=by rw[eC,List.length_map,<-kf];exact Nat.eq_of_beq_eq_true hn
     exact Jr h2 (dB ρ ys) hlen e1 (iF (x:= .v (.a ys)) C.inv R' (fD hm hL jI) rfl (e3 _) e4 e2)
    ·exact e1.elim
   ·exact H.elim
 ·exact hr H
theorem tH{ρ:List Nat}{x:Lf}(h:wh x=true):fq (x.v ρ)=true:=by
 cases x<;>try rfl
 case e x i sz off=>cases off<;>rfl
 case r v=>exact h
 case u=>cases h
theorem xD{ρ:List Nat}:∀{xs:List Lf},rV xs=true->(dB ρ xs).all fq=true
 |[],_=>rfl
 |x::xs,h=>by
  simp only[rV,Bool.and_eq_true]at h
  simp only[dB,List.all_cons,Bool.and_eq_true]
  exact⟨tH h.1,xD h.2⟩
theorem Ck{ρ:List Nat}{w:Tv}{vs:List Lf}(h:xz w=some vs):(w.val ρ).cells=(dB ρ vs).toArray/\(dB ρ vs).all fq=true:=by
 unfold xz at h
 split at h
 ·rename_i x
  split at h
  ·rename_i hp
   have h:=Option.some.inj h
   subst h
   have h1:=tH (ρ:=ρ) hp
   exact⟨(oB h1).1,by simp[dB,h1]⟩
  ·cases h
 ·rename_i xs
  split at h
  ·rename_i hp
   have h:=Option.some.inj h
   subst h
   exact⟨rfl,xD hp⟩
  ·cases h
 ·cases h
theorem xE{m:Nat}{w:Tv}{vs:List Lf}(h:xz w=some vs)(ho:w.ok m=true)(hf:w.fact):bQ m vs=true/\cD vs:=by
 unfold xz at h
 split at h
 ·split at h
  ·have h:=Option.some.inj h
   subst h
   have ho:Lf.ok m _=true:=ho
   exact⟨by simp[bQ,ho],hf,trivial⟩
  ·cases h
 ·split at h
  ·have h:=Option.some.inj h
   subst h
   exact⟨ho,hf⟩
  ·cases h
 ·cases h
theorem pS{ρ:List Nat}{m:Nat}:∀{cs:List Lf}{o:Nat}{vs lK:List Lf},jz cs o vs=some lK->dB ρ lK=jc (dB ρ cs) o (dB ρ vs)/\o+vs.length<=cs.length/\(bQ m cs=true->bQ m vs=true->bQ m lK=true)/\(cD cs->cD vs->cD lK)
 |cs,0,[],lK,h=>by
  have:cs=lK:=by cases cs<;>simpa[jz]using h
  subst this
  exact⟨by cases cs<;>rfl,by simp,fun h _=>h,fun h _=>h⟩
 |c::cs,0,v::vs,lK,h=>by
  simp only[jz]at h
  split at h
  ·rename_i r hr
   have h:=Option.some.inj h
   subst h
   obtain⟨e1,e2,e3,e4⟩:=pS (ρ:=ρ) (m:=m) hr
   refine⟨by simp only[dB,jc];rw[e1],by simp only[List.length_cons];omega,fun a b=> ?_,fun a b=>⟨b.1,e4 a.2 b.2⟩⟩
   simp only[bQ,Bool.and_eq_true]at a b⊢
   exact⟨b.1,e3 a.2 b.2⟩
  ·cases h
 |c::cs,o+1,vs,lK,h=>by
  simp only[jz]at h
  split at h
  ·rename_i r hr
   have h:=Option.some.inj h
   subst h
   obtain⟨e1,e2,e3,e4⟩:=pS (ρ:=ρ) (m:=m) hr
   refine⟨?_,by simp only[List.length_cons];omega,fun a b=> ?_,fun a b=>⟨a.1,e4 a.2 b⟩⟩
   ·simp only[dB]
    rw[e1]
    cases vs with
    |nil=>
     cases hh:dB ρ cs<;>simp[dB,jc]
    |cons v vs=>simp only[dB,jc]
   ·simp only[bQ,Bool.and_eq_true]at a⊢
    exact⟨a.1,e3 a.2 b⟩
  ·cases h
 |[],o+1,vs,lK,h=>by simp[jz]at h
 |[],0,v::vs,lK,h=>by simp[jz]at h
theorem Na{ρ y:List Nat}{i:Nat}(h1:ρ.length<=i)(h2:i<(ρ++y).length):eM (ρ++y) i∈y:=by
 induction ρ generalizing i with
 |nil=>
  simp only[List.nil_append]at h2⊢
  induction y generalizing i with
  |nil=>simp at h2
  |cons b y ih=>
   cases i with
   |zero=>simp[eM]
   |succ i=>simp only[eM];exact List.mem_cons_of_mem _ (ih (by simp) (by simpa using h2))
 |cons b ρ ih=>
  cases i with
  |zero=>simp at h1
  |succ i=>
   simp only[List.cons_append,eM]
   exact ih (by simpa using h1) (by simpa using h2)
theorem Nb{P:Program}{A:aV}{s:St}{ρ:List Nat}{h:Heap}{t:TypeId}{x v:Operand}{k:St->Tv->Prop}{raw:Prop}(I:Inv s ρ h)(R:Rel ρ s.m s.E A)(H:storeT P s t (lf s.E x) (xy s.E v) k raw)
 (hr:raw->At P (Instr.storeAt t (fh A x) (fh A v)) h (iE A s ρ k)):At P (Instr.storeAt t (fh A x) (fh A v)) h (iE A s ρ k):=by
 unfold storeT at H
 split at H
 ·rename_i id off hx
  have hv:=(ft R hx).2.2
  rw[hv]
  split at H
  ·rename_i cs w hf hw
   obtain⟨w1,w2,w3⟩:=je R hw
   rw[w3]
   obtain⟨o1,o2,o3⟩:=kI hf I.tF I.wm
   obtain⟨i,hi,cL⟩:=ku (ρ:=ρ) hf
   split at H
   ·rename_i vs n Mg qz
    obtain⟨f1,f2⟩:=Ck (ρ:=ρ) Mg
    obtain⟨g1,g2⟩:=xE Mg w1 w2
    split at H
    ·rename_i hn
     split at H
     ·rename_i lK MI
      obtain⟨e1,e2,e3,e4⟩:=pS (ρ:=ρ) (m:=s.m) MI
      have hl:(dB ρ vs).length=n:=by rw[eC,List.length_map,<-kf];exact Nat.eq_of_beq_eq_true hn
      refine QV qz I.vars i hi off (dB ρ vs) f1 hl f2 (by rw[eC,eC,List.length_map,List.length_map];exact e2) (L':=ke ρ (vH s.L id lK)) (by rw[<-e1];exact cL lK) fun h1 fr1 V1=> ?_
      obtain⟨p1,p2⟩:=JD (id:=id) I.tF I.wm (e3 o2 g1) (e4 o3 g2)
      obtain⟨y,y1,y2,y3⟩:=I.ext
      have I1:Inv {s with L:=vH s.L id lK,so:=(match Nat.blt id (iy s.ρ)with|true=>id::s.so|false=>s.so),md:=id::s.md,d:=true} ρ h1:=by
       refine⟨V1,I.len,I.ext,?_,(fun e=>by cases e),?_,p1,p2⟩
       ·show Fr (In (vm ρ (match Nat.blt id (iy s.ρ)with|true=>id::s.so|false=>s.so))) s.h h1
        cases hb:Nat.blt id (iy s.ρ)with
        |true=>exact Fr.rU I.fr fr1
        |false=>
         have hge:s.ρ.length<=id:=by
          rw[<-lu]
          exact Nat.le_of_not_lt fun tt=>by rw[<-Nat.blt_eq]at tt;rw[hb]at tt;cases tt
         have Vj:=Na (y:=y) hge (by rw[<-y1,I.len];exact o1)
         rw[<-y1]at Vj
         exact Fr.new I.fr (y3 _ Vj) fr1
       ·show∀i,i∈(match Nat.blt id (iy s.ρ)with|true=>id::s.so|false=>s.so)->i<s.ρ.length
        intro j hj
        cases hb:Nat.blt id (iy s.ρ)with
        |true=>
         rw[hb]at hj
         rcases List.mem_cons.1 hj with rfl|hj
         ·rw[<-lu];exact fc.1 hb
         ·exact I.so j hj
        |false=>rw[hb]at hj;exact I.so j hj
      refine iF (x:= .v (.l .u)) I1 R ⟨Nat.le_refl _,⟨[id],rfl,fun j hj _=> ?_⟩,⟨[],by simp⟩⟩ rfl rfl trivial H
      show cE (vH s.L id lK) j=_
      rw[AX hf]
      rw[if_neg]
      intro e
      subst e
      simp[eH]at hj
     ·exact H.elim
    ·exact H.elim
   ·exact H.elim
  ·exact H.elim
 ·rename_i z j sz off hx
  have hv:=(ft R hx).2.2
  have ha:fh A x= .pointer (some (loadT.Qf z j sz off)):=by rw[hv];cases off<;>rfl
  split at H
  ·rename_i y hw
   obtain⟨w1,w2,w3⟩:=je R hw
   split at H
   ·rename_i hp qz
    obtain⟨s',C,hE,hL,hm,jI,H⟩:=iD I H
    have R':Rel ρ s'.m s'.E A:=by rw[hE,hm];exact R
    split at H
    ·obtain⟨q1,q2,q3⟩:=H
     rw[C.h]at q1
     rw[C.h,C.r]at q2
     rw[ha,w3]
     refine MJ (v:=y.v ρ) qz q1 (tH hp) fun h1 e1=> ?_
     have q2':Vars h1 (ke ρ s'.L):=by rw[e1];exact q2
     have C':Cl {s' with h:=h1} ρ h1:=⟨q2',C.len,C.r,rfl,C.nw,C.so,C.d,C.tF,C.wm⟩
     exact iF (s':={s' with h:=h1}) (x:= .v (.l .u)) C'.inv R' (fD hm hL jI) rfl rfl trivial (q3 h1 (by rw[C.h,C.r];exact e1) (by rw[C.r];exact q2'))
    ·exact H.elim
   ·exact hr H
  ·exact hr H
 ·exact hr H
theorem Nc{s:St}{ρ:List Nat}{h h1:Heap}{A:aV}{cs:List Lf}{b:Nat}(I:Inv s ρ h)(R:Rel ρ s.m s.E A)(hb:h.size<=b)(f:Fr No h h1)(V:Vars h1 ((b,dB ρ cs)::ke ρ s.L))(ho:bQ s.m cs=true)(hf:cD cs):
 Inv {s with L:=(s.m,cs)::s.L,m:=s.m+1,nw:=s.nw+1,d:=true} (ρ++[b]) h1/\Rel (ρ++[b]) (s.m+1) s.E A/\eM (ρ++[b]) s.m=b:=by
 have hl:eM (ρ++[b]) s.m=b:=by rw[<-I.len];exact rZ ρ b []
 obtain⟨y,y1,y2,y3⟩:=I.ext
 refine⟨⟨?_,by simp[I.len],⟨y++[b],by rw[y1];simp,by simp[y2],fun c hc=> ?_⟩,?_,(fun e=>by cases e),I.so,?_,⟨hf,I.wm⟩⟩,R.ext I.len (by omega),hl⟩
 ·show Vars h1 ((eM (ρ++[b]) s.m,dB (ρ++[b]) cs)::ke (ρ++[b]) s.L)
  rw[hl,gY (by rw[I.len];exact ho),wj (by rw[I.len];exact I.tF)]
  exact V
 ·rcases List.mem_append.1 hc with hc|hc
  ·exact y3 c hc
  ·simp only[List.mem_cons,List.not_mem_nil,or_false]at hc
   subst hc
   exact Nat.le_trans I.fr.size hb
 ·show Fr (In (vm (ρ++[b]) s.so)) s.h h1
  rw[AR fun i hi=>by have:=I.so i hi;rw[y1,List.length_append];omega]
  exact Fr.no' I.fr f
 ·simp[rJ,Cj (Nat.le_succ _) ho,Q9 (Nat.le_succ _) I.tF]
theorem Cm(ρ:List Nat):∀vs:List Value,dB ρ (xx vs)=vs/\(∀m,bQ m (xx vs)=true)/\cD (xx vs)
 |[]=>⟨rfl,fun _=>rfl,trivial⟩
 |v::vs=>by
  obtain⟨h1,h2,h3⟩:=Cm ρ vs
  exact⟨by simp only[xx,dB];rw[M5,h1],fun m=>by simp[xx,bQ,JC,h2 m],AW v,h3⟩
theorem qR{m id:Nat}{cs:List Lf}{L:List (Nat×List Lf)}(h:id<m):cE ((m,cs)::L) id=cE L id:=by
 have e:cE ((m,cs)::L) id=match Nat.beq m id with|true=>some cs|false=>cE L id:=rfl
 rw[e]
 cases hb:Nat.beq m id with
 |true=>have:=Nat.eq_of_beq_eq_true hb;omega
 |false=>rfl
theorem AY{s:St}{ρ:List Nat}{h h1:Heap}{A:aV}{cs:List Lf}{b:Nat}{k:St->Tv->Prop}(I:Inv s ρ h)(R:Rel ρ s.m s.E A)(hb:h.size<=b)(f:Fr No h h1)(V:Vars h1 ((b,dB ρ cs)::ke ρ s.L))(ho:bQ s.m cs=true)(hf:cD cs)(H:Vc s cs k):iE A s ρ k (VP b 0) h1:=by
 obtain⟨I1,R1,hl⟩:=Nc I R hb f V ho hf
 refine⟨_,.v (.l (.p s.m 0)),ρ++[b],I1,R1,?_,?_,trivial,⟨Nat.le_succ _,⟨[],rfl,fun id _ hid=>qR hid⟩,⟨[b],rfl⟩⟩,H⟩
 ·show VP b 0=VP (eM (ρ++[b]) s.m) 0
  rw[hl]
 ·exact fc.2 (Nat.lt_succ_self _)
theorem Cn{ρ:List Nat}{xs:List Lf}{o:Nat}{y:Lf}(h:k9 xs o 1=some [y]):(dB ρ xs).toArray[o]?=some (y.v ρ):=by
 obtain⟨e1,e2⟩:=tG (ρ:=ρ) h
 rw[mZ]at e1
 have:=congrArg (·[0]?) e1
 simpa[dB,List.getElem?_take,List.getElem?_drop]using this
theorem Nd{P:Program}{t:TypeId}{fs:Array Field}{i:Nat}{f:Field}{K:Value->Prop}{cs:Array Value}{v:Value}(h1:P.underlying t=some (.struct fs))(h2:fs[i]?=some f)(h3:gP P f.type=true)(h4:cs[f.offset]?=some v)(H:K v):pop P (Instr.field t (.agg cs) i) K:=
 .mk' (fun w=>by
  unfold Instr.field
  rw[aK (bV h1 w)]
  simp only[h2]
  rw[aK (show(asAgg (.agg cs)).run P w= .ok cs w from rfl)]
  unfold part
  rw[aK (AF h3 w).1]
  simp only[h4,Bool.false_eq_true,if_false]
  rfl) H
theorem Nf{P:Program}{t:TypeId}{fs:Array Field}{i:Nat}{f:Field}{n:Nat}{K:Value->Prop}{cs:Array Value}(h1:P.underlying t=some (.struct fs))(h2:fs[i]?=some f)(h3:qO P f.type=some n)(H:K (.agg (cs.extract f.offset (f.offset+n)))):pop P (Instr.field t (.agg cs) i) K:=
 .mk' (fun w=>by
  unfold Instr.field
  rw[aK (bV h1 w)]
  simp only[h2]
  rw[aK (show(asAgg (.agg cs)).run P w= .ok cs w from rfl)]
  unfold part
  rw[aK (pK h3 w).1]
  simp only[if_true]
  rw[aK (pK h3 w).2]
  rfl) H
theorem Rc{ρ:List Nat}{xs ys:List Lf}{o n:Nat}(h:k9 xs o n=some ys):(dB ρ xs).toArray.extract o (o+n)=(dB ρ ys).toArray:=by
 obtain⟨e1,e2⟩:=tG (ρ:=ρ) h
 rw[mZ]at e1
 rw[<-e1]
 apply Array.ext'
 simp
def gZ(P:Program):List Field->List (Nat×Nat)
 |[]=>[]
 |f::fs=>(f.offset,(lq P f.type).getD 0)::gZ P fs
theorem vp(P:Program):∀(fs:List Field)(i:Nat),(gZ P fs)[i]?=fs[i]?.map fun f=>(f.offset,(lq P f.type).getD 0)
 |[],i=>by simp[gZ]
 |f::fs,0=>by simp[gZ]
 |f::fs,i+1=>by simp only[gZ,List.getElem?_cons_succ];exact vp P fs i
theorem run_places{P:Program}{w:World}:∀{fs:List Field},rW P fs=true->(fs.mapM (fun f=>do pure (f.offset,<-sizeOf f.type):Field->Sem (Nat×Nat))).run P w= .ok (gZ P fs) w
 |[],_=>rfl
 |f::fs,h=>by
  simp only[rW,Bool.and_eq_true]at h
  cases hs:lq P f.type with
  |none=>rw[hs]at h;simp at h
  |some n=>
   rw[List.mapM_cons]
   have h1:((do pure (f.offset,<-sizeOf f.type):Sem (Nat×Nat))).run P w= .ok (f.offset,n) w:=by
    rw[aK (kH hs w)]
    rfl
   rw[aK h1,aK (run_places h.2)]
   simp only[gZ,hs,Option.getD_some]
   rfl
theorem vq:∀(vs:List Value)(o i:Nat)(cs:Array Value),o+i+vs.length<=cs.size->((vs.zipIdx i).foldl (fun(cs:Array Value)(p:Value×Nat)=>cs.setIfInBounds (o+p.2) p.1) cs).toList=jc cs.toList (o+i) vs
 |[],o,i,cs,h=>by
  simp only[List.zipIdx_nil,List.foldl_nil]
  cases cs.toList<;>simp[jc]
 |v::vs,o,i,cs,h=>by
  simp only[List.length_cons]at h
  simp only[List.zipIdx_cons,List.foldl_cons]
  rw[vq vs o (i+1) _ (by simp;omega),Array.toList_setIfInBounds,mb _ _ _ (by simp;omega),mb _ _ _ (by simp;omega)]
  have e1:(cs.toList.set (o+i) v).take (o+(i+1))=cs.toList.take (o+i)++[v]:=by
   rw[show o+(i+1)=(o+i)+1 by omega,List.take_succ_eq_append_getElem (by simp;omega),List.take_set_of_le (Nat.le_refl _)]
   simp
  have e2:(cs.toList.set (o+i) v).drop (o+(i+1)+vs.length)=cs.toList.drop (o+i+(v::vs).length):=by
   rw[List.drop_set_of_lt (by omega)]
   congr 1
   simp;omega
  rw[e1,e2]
  simp
theorem JE{P:Program}{fs:Array Field}{ρ:List Nat}{m:Nat}{E:List (Nat×Option Tv)}{A:aV}(R:Rel ρ m E A):∀{ps:List (Nat×Operand)}{cs lK:List Lf},EL P fs E cs ps=some lK->
 Instr.fill ((gZ P fs.toList).toArray[·]?) (dB ρ cs).toArray (ps.map fun p=>(p.1,fh A p.2))=some (dB ρ lK).toArray/\(bQ m cs=true->bQ m lK=true)/\(cD cs->cD lK)
 |[],cs,lK,h=>by
  simp only[EL,Option.some.injEq]at h
  subst h
  exact⟨rfl,fun h=>h,fun h=>h⟩
 |(i,x)::ps,cs,lK,h=>by
  simp only[EL]at h
  split at h
  ·rename_i f w hf hw
   obtain⟨w1,w2,w3⟩:=je R hw
   split at h
   ·rename_i vs n Mg qz
    obtain⟨f1,f2⟩:=Ck (ρ:=ρ) Mg
    obtain⟨g1,g2⟩:=xE Mg w1 w2
    split at h
    ·rename_i hn
     split at h
     ·rename_i c2 MI
      obtain⟨e1,e2,e3,e4⟩:=pS (ρ:=ρ) (m:=m) MI
      obtain⟨i1,i2,i3⟩:=JE R h
      have hl:(dB ρ vs).length=n:=by rw[eC,List.length_map,<-kf];exact Nat.eq_of_beq_eq_true hn
      have GK:(dB ρ cs).length=cs.length:=by rw[eC,List.length_map]
      have hvs:(dB ρ vs).length=vs.length:=by rw[eC,List.length_map]
      refine⟨?_,fun a=>i2 (e3 a g1),fun a=>i3 (e4 a g2)⟩
      rw[List.map_cons]
      unfold Instr.fill
      have hp:(gZ P fs.toList).toArray[i]?=some (f.offset,n):=by
       rw[List.getElem?_toArray,vp]
       have:fs.toList[i]?=some f:=by simpa using hf
       rw[this,Option.map_some,qz]
       rfl
      simp only[hp,w3,f1]
      have Ng:¬((decide ((dB ρ vs).toArray.size≠n)||decide (f.offset+(dB ρ vs).toArray.size>(dB ρ cs).toArray.size))=true):=by
       simp only[List.size_toArray,Bool.or_eq_true,decide_eq_true_eq,not_or]
       omega
      rw[if_neg Ng]
      have abh:((dB ρ vs).toArray.zipIdx.foldl (fun(cs:Array Value)(p:Value×Nat)=>cs.setIfInBounds (f.offset+p.2) p.1) (dB ρ cs).toArray)=(dB ρ c2).toArray:=by
       apply Array.ext'
       rw[show((dB ρ vs).toArray.zipIdx)=((dB ρ vs).zipIdx 0).toArray by simp,List.foldl_toArray]
       rw[vq _ f.offset 0 _ (by simp;omega),e1,Nat.add_zero]
      exact(congrArg (fun z=>Instr.fill ((gZ P fs.toList).toArray[·]?) z (ps.map fun p=>(p.1,fh A p.2))) abh).trans i1
     ·cases h
    ·cases h
   ·cases h
  ·cases h
theorem K7{P:Program}{t:TypeId}{fs:Array Field}{z:Value}{K:Value->Prop}{ps:List (Nat×Value)}{cs:Array Value}(h1:P.underlying t=some (.struct fs))(h2:oA P t=some z)(h3:rW P fs.toList=true)(h4:Instr.fill ((gZ P fs.toList).toArray[·]?) z.cells ps=some cs)(H:K (.agg cs)):pop P (Instr.build t ps.toArray) K:=
 .mk' (fun w=>by
  unfold Instr.build
  have hz:(zeroValue t).run P w= .ok z w:=by
   unfold oA at h2
   cases hi:P.info? t with
   |none=>rw[hi]at h2;simp at h2
   |some i=>
    rw[hi]at h2
    simp only[Option.bind_some]at h2
    unfold zeroValue
    rw[aK (dQ hi w)]
    simp[h2,pure,Sem.run]
  rw[aK hz,aK (bV h1 w)]
  simp only
  have hm:(fs.mapM (fun f=>do pure (f.offset,<-sizeOf f.type):Field->Sem (Nat×Nat))).run P w= .ok (gZ P fs.toList).toArray w:=by
   rw[Array.mapM_eq_mapM_toList]
   show((List.toArray<$>(fs.toList.mapM (fun f=>do pure (f.offset,<-sizeOf f.type):Field->Sem (Nat×Nat))):Sem (Array (Nat×Nat)))).run P w=_
   rw[map_eq_pure_bind,aK (run_places h3)]
   rfl
  rw[aK hm]
  simp only[h4]
  rfl) H
theorem _root_.Array.ly{α:Type}{a:Array α}{x:α}(h:a.toList=[x]):a= #[x]:=by
 cases a with
 |mk l=>simp only at h;subst h;rfl
theorem Vk{P:Program}{s:St}{o:BinOp}{kd:IntKind}{a b:Int}{U9:Bool}{t:TypeId}{x y:Operand}{K:Lf->Prop}{raw:Prop}{G:Value->Prop}(gi:∀z,K (.i kd z)->G (.int kd z))(gb:∀z,K (.b z none)->G (.bool z))(hc:U9=true->b≠0)(H:U8 P s o kd a b U9 K raw)(hr:raw->pop P (lI o t x y (.int kd a) (.int kd b)) G):pop P (lI o t x y (.int kd a) (.int kd b)) G:=by
 cases o<;>simp only[U8]at H
 case add=>exact QC (t:=t) kd a b (gi _ H)
 case sub=>exact QD (t:=t) kd a b (gi _ H)
 case mul=>exact QE (t:=t) kd a b (gi _ H)
 case quo=>
  cases U9 with
  |true=>exact Jo (t:=t) kd a b (hc rfl) (gi _ H)
  |false=>exact Jo (t:=t) kd a b H.1 (gi _ H.2)
 case rem=>
  cases U9 with
  |true=>exact Jp (t:=t) kd a b (hc rfl) (gi _ H)
  |false=>exact Jp (t:=t) kd a b H.1 (gi _ H.2)
 case lss=>exact QF (t:=t) kd a b (gb _ H)
 case leq=>exact QG (t:=t) kd a b (gb _ H)
 case gtr=>exact QH (t:=t) kd a b (gb _ H)
 case geq=>exact QI (t:=t) kd a b (gb _ H)
 case eql=>exact QJ (t:=t) kd x y a b (gb _ H)
 case neq=>exact QK (t:=t) kd x y a b (gb _ H)
 all_goals exact hr H
theorem Nh{y:Operand}{k:IntKind}{b:Int}{A:aV}(h:MT y=true)(e:fh A y= .int k b):b≠0:=by
 unfold MT at h
 split at h
 ·simp only[fh,Value.int.injEq]at e
  obtain⟨_,rfl⟩:=e
  intro h0
  cases h0
 ·simp only[fh,Value.int.injEq]at e
  obtain⟨_,rfl⟩:=e
  intro h0
  cases h0
 ·cases h
theorem Vl{P:Program}{A:aV}{s:St}{ρ:List Nat}{h:Heap}{o:BinOp}{t:TypeId}{x y:Operand}{k:St->Tv->Prop}{raw:Prop}(I:Inv s ρ h)(R:Rel ρ s.m s.E A)(H:Vb P s o t y (lf s.E x) (lf s.E y) (MU s k) raw)
 (hr:raw->pop P (lI o t x y (fh A x) (fh A y)) fun v=>iE A s ρ k v h):pop P (lI o t x y (fh A x) (fh A y)) fun v=>iE A s ρ k v h:=by
 have gi:∀kd z,MU s k (.i kd z)->iE A s ρ k (.int kd z) h:=fun kd z h3=>bD (x:= .v (.l (.i kd z))) I R rfl rfl trivial h3
 have gb:∀z,MU s k (.b z none)->iE A s ρ k (.bool z) h:=fun z h3=>bD (x:= .v (.l (.b z none))) I R rfl rfl trivial h3
 have gs:∀z,MU s k (.s z)->iE A s ρ k (.string z) h:=fun z h3=>bD (x:= .v (.l (.s z))) I R rfl rfl trivial h3
 unfold Vb at H
 split at H
 ·rename_i kd a kd' b hx hy
  split at H
  ·rename_i hk
   obtain rfl:=of_decide_eq_true hk
   have e1:=(ft R hx).2.2
   have e2:=(ft R hy).2.2
   rw[e1,e2]at hr⊢
   exact Vk (gi _) gb (fun hc=>Nh hc e2) H hr
  ·exact hr H
 ·rename_i a _ b _ hx hy
  have e1:=(ft R hx).2.2
  have e2:=(ft R hy).2.2
  split at H
  ·rename_i ht
   split at H
   ·rw[e1,e2]
    exact QL ht x y a b (gb _ H)
   ·rw[e1,e2]
    exact QM ht x y a b (gb _ H)
   ·exact hr H
  ·exact hr H
 ·rename_i a b hx hy
  have e1:=(ft R hx).2.2
  have e2:=(ft R hy).2.2
  split at H
  ·rw[e1,e2]
   exact MG (t:=t) a b H.1 (gs _ H.2)
  ·rw[e1,e2]
   exact QR x y a b (gb _ H)
  ·rw[e1,e2]
   exact QS x y a b (gb _ H)
  ·exact hr H
 ·exact hr H
theorem Hw{ρ:List Nat}{m:Nat}{E:List (Nat×Option Tv)}{A:aV}(R:Rel ρ m E A):∀{l:List Operand}{cs:List Cp},AO E l=some cs->mQ (fh A) l=EI ρ cs/\nL m cs=true
 |[],cs,h=>by
  simp only[AO,Option.some.injEq]at h
  subst h
  exact⟨rfl,rfl⟩
 |x::l,cs,h=>by
  simp only[AO]at h
  split at h
  ·rename_i c lK hc GK
   have h:=Option.some.inj h
   subst h
   obtain⟨i1,i2⟩:=Hw R GK
   have key:fh A x=c.v' ρ/\MQ m c=true:=by
    unfold abc at hc
    split at hc
    all_goals first
     |(rename_i hx
       have h:=Option.some.inj hc
       subst h
       obtain⟨a1,a2,a3⟩:=je R hx
       exact⟨a3,a1⟩)
     |(rename_i hx
       have h:=Option.some.inj hc
       subst h
       obtain⟨a1,a2,a3⟩:=je R hx
       exact⟨a3,rfl⟩)
     |cases hc
   exact⟨by simp only[mQ,EI];rw[key.1,i1],by simp[nL,key.2,i2]⟩
  ·cases h
theorem JF{ρ:List Nat}{m:Nat}:∀{xs:List Av}{i:Nat}{y:Av},K6 xs i=some y->(Ui ρ xs).toArray[i]?=some (y.v ρ)/\(nM m xs=true->y.ok m=true)/\(wg xs->y.fact)
 |[],i,y,h=>by simp[K6]at h
 |x::xs,0,y,h=>by
  simp only[K6,Option.some.injEq]at h
  subst h
  exact⟨by simp[Ui],fun a=>by simp only[nM,Bool.and_eq_true]at a;exact a.1,fun a=>a.1⟩
 |x::xs,i+1,y,h=>by
  simp only[K6]at h
  obtain⟨h1,h2,h3⟩:=JF (ρ:=ρ) (m:=m) h
  exact⟨by simpa[Ui]using h1,fun a=>by simp only[nM,Bool.and_eq_true]at a;exact h2 a.2,fun a=>h3 a.2⟩
theorem Ni{P:Program}{A:aV}{s:St}{ρ:List Nat}{h:Heap}{x:Operand}{v:Option Addr}{e:TypeId}{k:St->Tv->Prop}(I:Inv s ρ h)(R:Rel ρ s.m s.E A)(hx:fh A x= .pointer v)(H:EM P s x v e k):pop P (Mz (fh A x)) fun v=>iE A s ρ k v h:=by
 unfold EM at H
 obtain⟨s',C,hE,hL,hm,jI,b,H⟩:=iD I H
 have R':Rel ρ s'.m s'.E A:=by rw[hE,hm];exact R
 obtain⟨ys,⟨hv,hV,hk⟩,y1,y2⟩:=oJ H
 rw[C.r,C.h]at hV
 rw[hx,hv]
 have hl:eM (ρ++[b]) s'.m=b:=by rw[<-C.len];exact rZ ρ b []
 have Rx:=R'.ext (y:=[b]) (n:=s'.m+1) C.len (by omega)
 refine we _ ⟨_,.v (.l (.p s'.m 0)),ρ++[b],((⟨?_,by simp[C.len],by rw[C.r],C.h,C.nw,C.so,C.d,?_,⟨y2,C.wm⟩⟩:Cl {s' with E:=EM.Vd s'.E x s'.m,L:=(s'.m,ys)::s'.L,ρ:=s'.ρ++[b],m:=s'.m+1} (ρ++[b]) h)).inv,?_,?_,?_,trivial,(fD hm hL jI).trans ⟨Nat.le_succ _,⟨[],rfl,fun id _ hid=>qR hid⟩,⟨[b],rfl⟩⟩,hk⟩
 ·show Vars h ((eM (ρ++[b]) s'.m,dB (ρ++[b]) ys)::ke (ρ++[b]) s'.L)
  rw[hl,gY (y1 _),wj (by rw[C.len];exact C.tF)]
  exact hV
 ·simp[rJ,y1,Q9 (Nat.le_succ _) C.tF]
 ·show Rel (ρ++[b]) (s'.m+1) (EM.Vd s'.E x s'.m) A
  cases x with
  |tmp t=>
   refine⟨fun t' z hz=> ?_⟩
   have hz:(match Nat.beq t t' with|true=>some (.v (.l (.p s'.m 0)))|false=>qe s'.E t')=some z:=hz
   cases hb:Nat.beq t t' with
   |true=>
    rw[hb]at hz
    have hz:=Option.some.inj hz
    subst hz
    have:=Nat.eq_of_beq_eq_true hb
    subst this
    refine⟨fc.2 (Nat.lt_succ_self _),trivial,?_⟩
    show lJ A t=VP (eM (ρ++[b]) s'.m) 0
    rw[hl]
    rw[hv]at hx
    exact hx
   |false=>rw[hb]at hz;exact Rx.get t' z hz
  |const c=>exact Rx
  |global g=>exact Rx
  |func f=>exact Rx
 ·show VP b 0=VP (eM (ρ++[b]) s'.m) 0
  rw[hl]
 ·exact fc.2 (Nat.lt_succ_self _)
theorem sa{P:Program}{A:aV}{s:St}{ρ:List Nat}{h:Heap}{op:Op}{ty:TypeId}{k:St->Tv->Prop}(I:Inv s ρ h)(R:Rel ρ s.m s.E A)(H:EN P s op ty k):fk P (fh A) op ty h (iE A s ρ k):=by
 unfold EN at H
 split at H
 ·--move
  rename_i x
  split at H
  ·rename_i y hy
   obtain⟨h1,h2,h3⟩:=je R hy
   exact bD I R h3 h1 h2 H
  ·exact H.elim
 ·rename_i x
  split at H
  ·rename_i y hy
   obtain⟨h1,h2,h3⟩:=je R hy
   exact bD I R h3 h1 h2 H
  ·exact H.elim
 ·--call
  exact Ra I R H
 ·--len
  rename_i args ats
  split at H
  ·rename_i x t hx ht
   split at H
   ·rename_i z e hz hu
    have e1:=(ft R hz).2.2
    refine cM (q:=Builtin.len_ ats ty (mQ (fh A) args.toList).toArray) rfl rfl rfl ?_
    rw[hx,Array.ly ht]
    simp only[mQ,e1]
    exact QQ z ty e hu (bD (x:= .v (.l (.i .i64 (z.n:Int)))) I R rfl rfl trivial H)
   ·rename_i z hz hu
    have e1:=(ft R hz).2.2
    refine cM (q:=Builtin.len_ ats ty (mQ (fh A) args.toList).toArray) rfl rfl rfl ?_
    rw[hx,Array.ly ht]
    simp only[mQ,e1]
    exact MF z ty hu (bD (x:= .v (.l (.i .i64 (z.size:Int)))) I R rfl rfl trivial H)
   ·exact iG I R H
  ·exact iG I R H
 ·--binOp
  rename_i o t x y _
  have hr:∀q,(fk P (fh A) (.binOp o t x y q) ty h (iE A s ρ k)↔pop P (lI o t x y (fh A x) (fh A y)) fun v=>iE A s ρ k v h):=fun q=>Iff.rfl
  rw[hr]
  exact Vl I R H fun Nk=>(hr _).1 (iG I R Nk)
 ·--unOp
  rename_i o t x
  split at H
  ·rename_i z kn hz
   obtain⟨f1,f2,e1⟩:=ft R hz
   refine cM (q:=Op.unary .not (fh A x)) rfl rfl rfl ?_
   rw[e1]
   refine QN z (bD (x:= .v (.l (.b (!z) (Q3 kn)))) I R rfl rfl ?_ H)
   show Lf.fact (.b (!z) (Q3 kn))
   unfold Q3
   split
   ·rename_i v
    have:z=v:=f2
    subst this
    rfl
   ·trivial
  ·rename_i kd z hz
   have e1:=(ft R hz).2.2
   refine cM (q:=Op.unary .neg (fh A x)) rfl rfl rfl ?_
   rw[e1]
   exact QO kd z (bD (x:= .v (.l (.i kd (kd.wrap (0-z))))) I R rfl rfl trivial H)
  ·exact iG I R H
 ·--pick
  rename_i c a b
  split at H
  ·rename_i z kn hz
   have e1:=(ft R hz).2.2
   obtain⟨b1,b2⟩:=xC I R hz H
   refine cM (q:=Jm (fh A c) (fh A a) (fh A b)) rfl rfl rfl ?_
   rw[e1]
   have fin:∀(s':St)(w:Operand),Inv s' ρ h->Rel ρ s'.m s'.E A->s'.m=s.m->s'.L=s.L->s'.md=s.md->(match xy s.E w with|some y=>k s' y|none=>False)->iE A s ρ k (fh A w) h:=fun s' w I' R' hm hL jI hq=>by
    split at hq
    ·rename_i y hy
     obtain⟨g1,g2,g3⟩:=je R hy
     exact iF I' R' (fD hm hL jI) g3 (by rw[hm];exact g1) g2 hq
    ·exact hq.elim
   refine K1 (fun e=> ?_) (fun e=> ?_)
   ·obtain⟨s',I',R',hm,hL,jI,hq⟩:=b1 e
    exact fin s' a I' R' hm hL jI hq
   ·obtain⟨s',I',R',hm,hL,jI,hq⟩:=b2 e
    exact fin s' b I' R' hm hL jI hq
  ·exact iG I R H
 ·--nilCheck
  rename_i x
  split at H
  ·rename_i id off hz
   obtain⟨g1,g2,e1⟩:=ft R hz
   refine cM (q:=Mz (fh A x)) rfl rfl rfl ?_
   rw[e1]
   exact we _ (bD (x:= .v (.l (.p id off))) I R rfl g1 trivial H)
  ·rename_i z i sz off hz
   obtain⟨g1,g2,e1⟩:=ft R hz
   refine cM (q:=Mz (fh A x)) rfl rfl rfl ?_
   rw[e1]
   cases off with
   |none=>exact we _ (bD (x:= .v (.l (.e z i sz none))) I R rfl g1 trivial H)
   |some o=>exact we _ (bD (x:= .v (.l (.e z i sz (some o)))) I R rfl g1 trivial H)
  ·rename_i v e hz
   obtain⟨g1,g2,e1⟩:=ft R hz
   refine cM (q:=Mz (fh A x)) rfl rfl rfl ?_
   exact Ni I R (by rw[e1];rfl) H
  ·exact iG I R H
 ·--makeFunc
  rename_i fn first cap
  split at H
  ·rename_i fs cs h1 h2
   obtain⟨a1,a2⟩:=Hw R h1
   obtain⟨b1,b2⟩:=Hw R h2
   refine cM (q:=Instr.makeFunc fn (mQ (fh A) first.toList).toArray (mQ (fh A) cap.toList).toArray) rfl rfl rfl ?_
   rw[a1,b1]
   exact MH fn _ _ (bD (x:= .v (.l (.f fn fs cs))) I R rfl (by show(nL _ fs&&nL _ cs)=true;rw[a2,b2];rfl) trivial H)
  ·exact H.elim
 ·--fieldAddr
  rename_i t x i
  split at H
  ·rename_i id off o hz ho
   obtain⟨g1,g2,e1⟩:=ft R hz
   refine cM (q:=Instr.fieldAt t (fh A x) i) rfl rfl rfl ?_
   rw[e1]
   exact KY i ho _ _ (bD (x:= .v (.l (.p id (off+o)))) I R rfl g1 trivial H)
  ·rename_i z j sz o hz ho
   obtain⟨g1,g2,e1⟩:=ft R hz
   refine cM (q:=Instr.fieldAt t (fh A x) i) rfl rfl rfl ?_
   rw[e1]
   exact Hk i ho _ (bD (x:= .v (.l (.e z j sz (some o)))) I R rfl rfl trivial H)
  ·exact iG I R H
 ·--indexAddr
  rename_i t x ix
  split at H
  ·rename_i z kd j e hz hj hu
   have e1:=(ft R hz).2.2
   have e2:=(ft R hj).2.2
   split at H
   ·rename_i sz qz
    refine cM (q:=Instr.indexAt t (fh A x) (fh A ix)) rfl rfl rfl ?_
    rw[e1,e2]
    exact K0 hu qz kd z j H.1 (bD (x:= .v (.l (.e z j sz none))) I R rfl rfl trivial H.2)
   ·exact H.elim
  ·exact iG I R H
 ·--extract
  rename_i t ix
  split at H
  ·rename_i xs hx
   obtain⟨g1,g2,g3⟩:=je R hx
   split at H
   ·rename_i y hy
    obtain⟨a1,a2,a3⟩:=JF (ρ:=ρ) (m:=s.m) hy
    refine cM (q:=Instr.extract (fh A t) ix) rfl rfl rfl ?_
    rw[g3]
    exact QP a1 (bD (x:= .v y) I R rfl (a2 g1) (a3 g2) H)
   ·exact H.elim
  ·exact iG I R H
 ·--field
  rename_i t x i
  split at H
  ·rename_i xs fs hx hu
   obtain⟨g1,g2,g3⟩:=je R hx
   split at H
   ·rename_i f hf
    refine cM (q:=Instr.field t (fh A x) i) rfl rfl rfl ?_
    rw[g3]
    split at H
    ·rename_i h1
     split at H
     ·rename_i y hy
      obtain⟨c1,c2⟩:=pR hy g1 g2
      exact Nd hu hf h1 (Cn hy) (bD (x:= .v (.l y)) I R rfl (cO.1 c1 y (by simp)) (bR.1 c2 y (by simp)) H)
     ·exact H.elim
    ·split at H
     ·rename_i n h2
      split at H
      ·rename_i ys hy
       obtain⟨c1,c2⟩:=pR hy g1 g2
       exact Nf hu hf h2 (bD (x:= .v (.a ys)) I R (by rw[Rc hy];rfl) c1 c2 H)
      ·exact H.elim
     ·exact H.elim
   ·exact H.elim
  ·exact iG I R H
 ·--build
  rename_i t parts
  split at H
  ·rename_i fs zs hu hz
   split at H
   ·rename_i cs hs Mg
    unfold Jx at hz
    split at hz
    ·rename_i z hz0
     have hz:=Option.some.inj hz
     obtain⟨o1,o2,o3⟩:=Cm ρ z.cells.toList
     rw[hz]at o1 o2 o3
     obtain⟨f1,f2,f3⟩:=JE R Mg
     rw[o1]at f1
     refine cM (q:=Instr.build t (parts.toList.map fun p=>(p.1,fh A p.2)).toArray) rfl rfl rfl ?_
     exact K7 hu hz0 hs f1 (bD (x:= .v (.a cs)) I R rfl (f2 (o2 _)) (f3 o3) H)
    ·cases hz
   ·exact H.elim
  ·exact iG I R H
 ·--load
  rename_i t x
  have hr:(fk P (fh A) (.load t x) ty h (iE A s ρ k)↔zU P (Instr.loadAt t (fh A x)) h fun v=>iE A s ρ k v h):=Iff.rfl
  rw[hr]
  exact Rb I R H fun Nk=>hr.1 (iG I R Nk)
 ·--store
  rename_i t x v
  have hr:(fk P (fh A) (.store t x v) ty h (iE A s ρ k)↔At P (Instr.storeAt t (fh A x) (fh A v)) h (iE A s ρ k)):=Iff.rfl
  rw[hr]
  exact Nb I R H fun Nk=>hr.1 (iG I R Nk)
 ·--box
  rename_i t v
  split at H
  ·rename_i y hy
   obtain⟨g1,g2,g3⟩:=je R hy
   split at H
   ·rename_i cs Mg
    obtain⟨f1,f2⟩:=Ck (ρ:=ρ) Mg
    obtain⟨o1,o2⟩:=xE Mg g1 g2
    show iU P (Instr.box t (fh A v)) h _
    rw[g3]
    exact QU t _ f1 I.vars fun b h1 hb f V=>AY I R hb f V o1 o2 H
   ·exact H.elim
  ·exact H.elim
 ·--alloc
  rename_i t
  split at H
  ·rename_i cs hz
   unfold Jx at hz
   split at hz
   ·rename_i z hz0
    have hz:=Option.some.inj hz
    obtain⟨o1,o2,o3⟩:=Cm ρ z.cells.toList
    rw[hz]at o1 o2 o3
    show iU P (Instr.alloc t true (.tuple #[])) h _
    exact KZ t hz0 (cs:=dB ρ cs) (by rw[o1]) I.vars fun b h1 hb f V=>AY I R hb f V (o2 _) o3 H
   ·cases hz
  ·exact H.elim
 all_goals exact iG I R H
theorem ng{P:Program}{ops:List Oper}{A:aV}{h:Heap}{o:Oper}{k k':Value->Heap->Prop}(H:lm P ops A h o k)(hk:∀v h,k v h->k' v h):lm P ops A h o k':=by
 unfold lm at*
 cases hg:o.guard with
 |none=>rw[hg]at H;simp only[kG]at H⊢;exact ja hk H
 |some p=>
  obtain⟨j,want⟩:=p
  rw[hg]at H
  obtain⟨b,hb,h1,h2⟩:=H
  exact⟨b,hb,fun e=>by have:=h1 e;rw[kG]at this⊢;exact ja hk this,fun e=>hk _ _ (h2 e)⟩
theorem EW{P:Program}{ops:List Oper}{A:aV}{h:Heap}{o:Oper}{k:Value->Heap->Prop}(hq:(u9 o.op||zR o.op)=true)(H:lm P ops A h o k):lm P ops A h o fun v h'=>h'=h/\MA P ops A h o v/\k v h':=by
 unfold lm at*
 cases hg:o.guard with
 |none=>
  rw[hg]at H
  simp only[kG]at H⊢
  obtain⟨v,h1,h2⟩:=(gw hq).1 H
  exact(gw hq).2 ⟨v,h1,rfl,by unfold MA;rw[hg];exact h1,h2⟩
 |some p=>
  obtain⟨j,want⟩:=p
  rw[hg]at H
  obtain⟨b,hb,h1,h2⟩:=H
  refine⟨b,hb,fun e=> ?_,fun e=>⟨rfl,by unfold MA;rw[hg];exact⟨b,hb,fun e'=>absurd e' e,fun _=>rfl⟩,h2 e⟩⟩
  have h1:=h1 e
  rw[kG]at h1⊢
  obtain⟨v,h3,h4⟩:=(gw hq).1 h1
  exact(gw hq).2 ⟨v,h3,rfl,by unfold MA;rw[hg];exact⟨b,hb,fun _=>h3,fun e'=>absurd e e'⟩,h4⟩
theorem wq{A:aV}{s s1:St}{ρ:List Nat}{k:St->Tv->Prop}{v:Value}{h:Heap}(hm:s1.m=s.m)(hL:s1.L=s.L)(jI:s1.md=s.md)(H:iE A s1 ρ k v h):iE A s ρ k v h:=by
 obtain⟨s',x,iV,a1,a2,a3,a4,a5,a6,a7⟩:=H
 exact⟨s',x,iV,a1,a2,a3,a4,a5,(fD hm hL jI).trans a6,a7⟩
theorem xF{P:Program}{ops:List Oper}{A:aV}{s:St}{ρ:List Nat}{h:Heap}{o:Oper}{k:St->Tv->Prop}(I:Inv s ρ h)(R:Rel ρ s.m s.E A)(H:EO P ops s o k):lm P ops A h o (iE A s ρ k):=by
 unfold EO at H
 unfold lm
 cases hg:o.guard with
 |none=>rw[hg]at H;simp only[kG];exact sa I R H
 |some p=>
  obtain⟨j,want⟩:=p
  rw[hg]at H
  simp only at H⊢
  have skip:k s (.v (.l .u))->iZ ops A j=undef->GY (KK (iZ ops A j) want) want (wZ P A o.op o.type h) h (iE A s ρ k):=fun hk hu=>by
   rw[hu]
   exact⟨!want,rfl,fun e=>absurd e (by cases want<;>decide),fun _=>bD (x:= .v (.l .u)) I R rfl rfl trivial hk⟩
  cases ht:wQ ops j with
  |none=>
   rw[ht]at H
   exact skip H (by unfold iZ;rw[ht])
  |some t=>
   rw[ht]at H
   simp only at H
   split at H
   ·rename_i x kn hx
    have hlf:lf s.E (.tmp t)=some (.b x kn):=by unfold lf xy;simp only[hx]
    have hv:iZ ops A j= .bool x:=by unfold iZ;rw[ht];exact(R.get t _ hx).2.2
    obtain⟨b1,b2⟩:=xC I R hlf H
    rw[hv]
    refine⟨x,rfl,fun e=> ?_,fun e=> ?_⟩
    ·rw[kG]
     cases want with
     |true=>
      obtain⟨s',I',R',hm,hL,jI,hq⟩:=b1 e
      exact ja (fun v h=>wq hm hL jI) (sa I' R' hq)
     |false=>
      obtain⟨s',I',R',hm,hL,jI,hq⟩:=b2 e
      exact ja (fun v h=>wq hm hL jI) (sa I' R' hq)
    ·cases want with
     |true=>
      obtain⟨s',I',R',hm,hL,jI,hq⟩:=b2 (by simpa using e)
      exact wq hm hL jI (bD (x:= .v (.l .u)) I' R' rfl rfl trivial hq)
     |false=>
      obtain⟨s',I',R',hm,hL,jI,hq⟩:=b1 (by simpa using e)
      exact wq hm hL jI (bD (x:= .v (.l .u)) I' R' rfl rfl trivial hq)
   ·rename_i hx
    exact skip H (by unfold iZ;rw[ht];exact(R.get t _ hx).2.2)
   ·exact H.elim
def To(s0:St)(tg:List Nat)(K:St->Prop)(K':aV->Heap->Prop):Prop:=∀s ρ A h,Inv s ρ h->Rel ρ s.m s.E A->Nx s0 tg s ρ->K s->K' A h
theorem sd{n:Nat}{s:St}{ρ:List Nat}{h:Heap}{A:aV}{dst:Option Tmp}{x:Tv}{v:Value}(I:Inv s ρ h)(R:Rel ρ s.m s.E A)(hv:v=x.val ρ)(ho:x.ok s.m=true)(hf:x.fact):
 Inv (vI n s dst x) ρ h/\Rel ρ (vI n s dst x).m (vI n s dst x).E (wY n A dst v)/\(vI n s dst x).m=s.m/\(vI n s dst x).L=s.L/\(vI n s dst x).md=s.md:=by
 unfold vI wY
 cases dst with
 |none=>exact⟨I,R,rfl,rfl,rfl⟩
 |some d=>
  simp only
  cases hb:Nat.blt d n with
  |false=>exact⟨I,R,rfl,rfl,rfl⟩
  |true=>
   refine⟨⟨I.vars,I.len,I.ext,I.fr,I.cln,I.so,I.tF,I.wm⟩,⟨fun t y hy=> ?_⟩,rfl,rfl,rfl⟩
   simp only[qe]at hy
   simp only[lJ]
   cases hd:Nat.beq d t with
   |true=>
    rw[hd]at hy
    have hy:=Option.some.inj hy
    subst hy
    exact⟨ho,hf,hv⟩
   |false=>rw[hd]at hy;exact R.get t y hy
theorem Nl{P:Program}{n:Nat}{ops:List Oper}{s0:St}{tg:List Nat}{K:St->Prop}{K':aV->Heap->Prop}(hK:To s0 tg K K'):∀{l:List Oper}{s:St}{ρ:List Nat}{A:aV}{h:Heap},Inv s ρ h->Rel ρ s.m s.E A->Nx s0 tg s ρ->tIn P n ops l s K->AE P n ops l A h K'
 |[],s,ρ,A,h,I,R,N,H=>hK s ρ A h I R N H
 |o::os,s,ρ,A,h,I,R,N,H=>by
  simp only[tIn]at H
  simp only[AE]
  refine ng (xF I R H) fun v h' ⟨s',x,iV,a1,a2,a3,a4,a5,a6,a7⟩=> ?_
  rw[gO]
  obtain⟨b1,b2,b3,b4,b5⟩:=sd (n:=n) (dst:=o.dst) a1 a2 a3 a4 a5
  exact Nl hK b1 b2 ((N.trans a6).trans (fD b3 b4 b5)) a7
theorem tJ(a b:List Nat):rY b (a++b)=a:=by
 unfold rY
 rw[lu,lu,List.length_append,Nat.add_sub_cancel]
 induction a with
 |nil=>rfl
 |cons x a ih=>simp only[List.length_cons,List.cons_append,rY.takeN];rw[ih]
def Nn(P:Program)(p:Heap->Prop)(t:Ht)(s:St)(ρ:List Nat):Prop:=
 match t with
 | .Um=>∀g,p g
 | .bad=>True
 | .au id off t ys=>∃sb Re,Nx sb Re s ρ/\id<sb.m/\cE s.L id=cE sb.L id/\∀s' iV g,Inv s' iV g->Nx sb Re s' iV->cE s'.L id=cE sb.L id->p g
 | .ce a v=>∀g,aR g a=some v->p g
 | .cs a vs=>∀g,lr g a vs->p g
 | .se q v=>∀g,(∀w:World,w.heap=g->q.run P w= .ok v w)->p g
inductive GO(P:Program)(s:St)(ρ:List Nat):ka->List (Nat×Ht)->Prop where
 |nil:GO P s ρ [] []
 |cons {i:Nat} {p:Heap->Prop} {t:Ht} {S:ka} {T:List (Nat×Ht)}:Nn P p t s ρ->GO P s ρ S T->GO P s ρ ((i,p)::S) ((i,t)::T)
theorem GO.keep{P:Program}{s:St}{ρ:List Nat}{bf:List Nat}:∀{S:ka}{T:List (Nat×Ht)},GO P s ρ S T->GO P s ρ (qw bf S) (AP bf T)
 |_,_,.nil=> .nil
 |_,_,.cons (i:=i) h1 h2=>by
  simp only[qw,AP]
  cases eH bf i with
  |true=>exact h2.keep
  |false=>exact .cons h1 h2.keep
theorem GO.step{P:Program}{s s':St}{ρ iV:List Nat}(N:Nx s ρ s' iV):∀{S:ka}{T:List (Nat×Ht)},GO P s ρ S T->oH (rY s.md s'.md) T=true->GO P s' iV S T
 |_,_,.nil,_=> .nil
 |_,_,.cons (t:=t) h1 h2,ha=>by
  cases t with
  |au id off ty ys=>
   simp only[oH,Bool.and_eq_true,Bool.not_eq_true']at ha
   refine .cons ?_ (h2.step N ha.2)
   obtain⟨sb,Re,c1,c2,c3,c4⟩:=h1
   refine⟨sb,Re,c1.trans N,c2,?_,c4⟩
   obtain⟨new,d1,d2⟩:=N.md
   rw[d1,tJ]at ha
   rw[d2 id ha.1 (by have:=c1.m;omega),c3]
  |Um=>exact .cons h1 (h2.step N ha)
  |bad=>exact .cons h1 (h2.step N ha)
  |ce a v=>exact .cons h1 (h2.step N ha)
  |cs a vs=>exact .cons h1 (h2.step N ha)
  |se q v=>exact .cons h1 (h2.step N ha)
theorem GO.tell{P:Program}{s:St}{ρ:List Nat}{g:Heap}{K:Prop}{K':Prop}(I:Inv s ρ g):∀{S:ka}{T:List (Nat×Ht)},GO P s ρ S T->AQ P g K T->(K->K')->Mu g K' S
 |_,_,.nil,H,hk=>hk H
 |_,_,.cons (t:=t) h1 h2,H,hk=>by
  cases t with
  |Um=>exact⟨h1 g,h2.tell I H hk⟩
  |bad=>exact H.elim
  |au id off ty ys=>
   obtain⟨sb,Re,c1,c2,c3,c4⟩:=h1
   exact⟨c4 s ρ g I c1 c3,h2.tell I H hk⟩
  |ce a v=>exact⟨h1 g H.1,h2.tell I H.2 hk⟩
  |cs a vs=>exact⟨h1 g H.1,h2.tell I H.2 hk⟩
  |se q v=>exact⟨h1 g H.1,h2.tell I H.2 hk⟩
theorem JG{P:Program}{s:St}{ρ:List Nat}{g:Heap}(I:Inv s ρ g){id off:Nat}{cs:List Lf}(hf:cE s.L id=some cs){t:TypeId}(h1:gP P t=true){y:Lf}(hy:k9 cs off 1=some [y]):∀w:World,w.heap=g->(Instr.loadAt t (VP (eM ρ id) off)).run P w= .ok (y.v ρ) w:=by
 obtain⟨i,hi,_⟩:=ku (ρ:=ρ) hf
 have:=Cn (ρ:=ρ) hy
 exact K3 h1 I.vars i hi off (by simpa using this)
theorem EX{P:Program}{s:St}{ρ:List Nat}{g:Heap}(I:Inv s ρ g){id off n:Nat}{cs:List Lf}(hf:cE s.L id=some cs){t:TypeId}(h1:qO P t=some n){ys:List Lf}(hy:k9 cs off n=some ys):∀w:World,w.heap=g->(Instr.loadAt t (VP (eM ρ id) off)).run P w= .ok (.agg (dB ρ ys).toArray) w:=by
 obtain⟨i,hi,_⟩:=ku (ρ:=ρ) hf
 obtain⟨e1,e2⟩:=tG (ρ:=ρ) hy
 exact Hh h1 I.vars i hi off e1 e2
def wAt(h:Heap):World:={heap:=h,tape:=fun _ _=>0,drawn:=0,os:=default,output:= #[]}
theorem Hx{s:St}{ρ:List Nat}{h:Heap}(I:Inv s ρ h){x:Tv}(hx:x.ok (iy s.ρ)=true):x.val ρ=x.val s.ρ:=by
 obtain⟨y,e,_,_⟩:=I.ext
 rw[e]
 exact Ci (by rw[<-lu];exact hx)
theorem EY{P:Program}{A:aV}{s:St}{ρ:List Nat}{h:Heap}{op:Op}{ty:TypeId}{x:Tv}{v:Value}(I:Inv s ρ h)(R:Rel ρ s.m s.E A)(hq:zR op=true)(hv:v=x.val ρ):Nn P (fun g=>Yx P (fh A) op ty g v) (rX.Jy P s op x) s ρ:=by
 unfold rX.Jy
 split
 ·rename_i q hd hx hr
  intro g hg
  simp only[zR,Bool.and_eq_true]at hq
  have h1:gv op=none:=by simpa using hq.1
  have h2:jD (fh A) ty op=none:=by
   have:=li fm (fh A) 0 ty op
   have h3:(jD fm 0 op).isSome=false:=by simpa using hq.2.2.1
   rw[h3]at this
   cases hp:jD (fh A) ty op with
   |none=>rfl
   |some _=>rw[hp]at this;cases this
  have hc:nU (fh A) op=nU (Ej s.ρ s.E) op:=mU fun y hy=>lx I R hd y (by simpa using hy)
  unfold Yx
  simp only[h1,h2,hc,hr]
  rw[hv,Hx I hx]
  exact hg
 ·trivial
theorem EZ{P:Program}{A:aV}{s:St}{ρ:List Nat}{h:Heap}{op:Op}{ty:TypeId}{x:Tv}{v:Value}(I:Inv s ρ h)(R:Rel ρ s.m s.E A)(hq:zR op=true)(hv:v=x.val ρ)(hy:Yx P (fh A) op ty h v):Nn P (fun g=>Yx P (fh A) op ty g v) (rX P s op x) s ρ:=by
 unfold rX
 split
 ·rename_i t a
  split
  ·rename_i id off hz
   have hp:fh A a=VP (eM ρ id) off:=(ft R hz).2.2
   have hy:∀w:World,w.heap=h->(Instr.loadAt t (fh A a)).run P w= .ok v w:=hy
   rw[hp]at hy
   have abk:∀g,(∀w:World,w.heap=g->(Instr.loadAt t (VP (eM ρ id) off)).run P w= .ok v w)->Yx P (fh A) (.load t a) ty g v:=fun g hg=>by
    show∀w:World,w.heap=g->(Instr.loadAt t (fh A a)).run P w= .ok v w
    rw[hp]
    exact hg
   split
   ·rename_i cs hf
    have hid:=(kI hf I.tF I.wm).1
    have GK:=(kI hf I.tF I.wm).2.1
    have later:∀s' iV g,Inv s' iV g->Nx s ρ s' iV->eM iV id=eM ρ id/\dB iV cs=dB ρ cs:=fun s' iV g I' N=>by
     obtain⟨y,hy⟩:=N.r
     rw[hy]
     exact⟨jH _ _ _ (by rw[I.len];exact hid),gY (by rw[I.len];exact GK)⟩
    split
    ·rename_i h1
     split
     ·rename_i y Hy
      have e0:=JG I hf h1 Hy (wAt h) rfl
      rw[hy (wAt h) rfl]at e0
      have ev:v=y.v ρ:=by simpa using e0
      refine⟨s,ρ,Nx.refl _ _,hid,rfl,fun s' iV g I' N hf'=>abk g fun w hw=> ?_⟩
      have e1:=JG I' (hf'.trans hf) h1 Hy w hw
      obtain⟨l1,l2⟩:=later s' iV g I' N
      rw[l1]at e1
      rw[e1,ev]
      have yo:y.ok ρ.length=true:=by
       rw[I.len]
       exact cO.1 (pR Hy GK (kI hf I.tF I.wm).2.2).1 y (by simp)
      obtain⟨z,hz⟩:=N.r
      rw[hz,Hs yo]
     ·trivial
    ·split
     ·rename_i n h2
      split
      ·rename_i ys Hy
       have e0:=EX I hf h2 Hy (wAt h) rfl
       rw[hy (wAt h) rfl]at e0
       have ev:v= .agg (dB ρ ys).toArray:=by simpa using e0
       refine⟨s,ρ,Nx.refl _ _,hid,rfl,fun s' iV g I' N hf'=>abk g fun w hw=> ?_⟩
       have e1:=EX I' (hf'.trans hf) h2 Hy w hw
       obtain⟨l1,l2⟩:=later s' iV g I' N
       rw[l1]at e1
       rw[e1,ev]
       have yo:bQ ρ.length ys=true:=by
        rw[I.len]
        exact(pR Hy GK (kI hf I.tF I.wm).2.2).1
       obtain⟨z,hz⟩:=N.r
       rw[hz,gY yo]
      ·trivial
     ·trivial
   ·trivial
  ·rename_i z i sz off hz
   have hv0:=(ft R hz).2.2
   have ha:fh A a= .pointer (some (loadT.Qf z i sz off)):=by rw[hv0];cases off<;>rfl
   split
   ·rename_i z' hx
    split
    ·rename_i h1
     intro g hg
     show∀w:World,w.heap=g->(Instr.loadAt t (fh A a)).run P w= .ok v w
     rw[ha,hv,Hx I hx]
     exact AK h1 hg
    ·trivial
   ·rename_i zs hx
    split
    ·rename_i n h2
     split
     ·rename_i hn
      intro g hg
      show∀w:World,w.heap=g->(Instr.loadAt t (fh A a)).run P w= .ok v w
      rw[ha,hv,Hx I hx]
      exact AL h2 (dB s.ρ zs) (by rw[eC,List.length_map,<-kf];exact Nat.eq_of_beq_eq_true hn) hg
     ·trivial
    ·trivial
   ·trivial
  ·exact EY I R hq hv
 ·exact EY I R hq hv
theorem Rf{P:Program}{ops:List Oper}{A:aV}{s:St}{ρ:List Nat}{h:Heap}{o:Oper}{x:Tv}{v:Value}(I:Inv s ρ h)(R:Rel ρ s.m s.E A)(hq:zR o.op=true)(hv:v=x.val ρ)(hy:MA P ops A h o v):Nn P (fun g=>MA P ops A g o v) (Hn P ops s o x) s ρ:=by
 unfold Hn
 unfold MA at hy⊢
 cases hg:o.guard with
 |none=>rw[hg]at hy;exact EZ I R hq hv hy
 |some p=>
  obtain⟨j,want⟩:=p
  rw[hg]at hy
  simp only at hy⊢
  obtain⟨b,hb,h1,h2⟩:=hy
  have skip:b≠want->∀g,∃b:Bool,KK (iZ ops A j) want= .bool b/\(b=want->Yx P (fh A) o.op o.type g v)/\(b≠want->v=undef):=fun dZ g=>⟨b,hb,fun e=>absurd e dZ,h2⟩
  have Np:iZ ops A j=undef->b≠want:=fun e=>by
   rw[e]at hb
   have:b= !want:=by
    have:KK undef want= .bool (!want):=rfl
    rw[this]at hb
    simpa using hb.symm
   rw[this]
   cases want<;>decide
  have yes:b=want->Nn P (fun g=>∃b:Bool,KK (iZ ops A j) want= .bool b/\(b=want->Yx P (fh A) o.op o.type g v)/\(b≠want->v=undef)) (rX P s o.op x) s ρ:=fun e=>by
   have:=EZ (x:=x) I R hq hv (h1 e)
   have up:∀g,Yx P (fh A) o.op o.type g v->∃b:Bool,KK (iZ ops A j) want= .bool b/\(b=want->Yx P (fh A) o.op o.type g v)/\(b≠want->v=undef):=fun g hx=>⟨b,hb,fun _=>hx,h2⟩
   generalize rX P s o.op x=t at this⊢
   cases t with
   |Um=>exact fun g=>up g (this g)
   |bad=>trivial
   |au id off t ys=>
    obtain⟨sb,Re,c1,c2,c3,c4⟩:=this
    exact⟨sb,Re,c1,c2,c3,fun s' iV g a b c=>up g (c4 s' iV g a b c)⟩
   |ce a u=>exact fun g hg=>up g (this g hg)
   |cs a us=>exact fun g hg=>up g (this g hg)
   |se q u=>exact fun g hg=>up g (this g hg)
  cases ht:wQ ops j with
  |none=>exact skip (Np (by unfold iZ;rw[ht]))
  |some t=>
   simp only
   split
   ·rename_i z c l hx
    obtain⟨r1,r2,r3⟩:=R.get t _ hx
    have hz:z=c:=r2
    have hgv:iZ ops A j= .bool z:=by unfold iZ;rw[ht];exact r3
    have hbz:b=z:=by
     rw[hgv]at hb
     have:KK (.bool z) want= .bool z:=rfl
     rw[this]at hb
     simpa using hb.symm
    split
    ·exact yes (by rw[hbz,hz])
    ·exact yes (by rw[hbz,hz])
    ·rename_i n1 n2
     refine skip fun e=> ?_
     rw[hbz,hz]at e
     cases c<;>cases want<;>first|exact n1 rfl rfl|exact n2 rfl rfl|cases e
   ·rename_i hx
    exact skip (Np (by unfold iZ;rw[ht];exact(R.get t _ hx).2.2))
   ·trivial
theorem AZ{f g:Nat->Oper->Prop}(hfg:∀i o,f i o->g i o):∀{l:List (Nat×Oper)},Ha f l->Ha g l
 |[],_=>trivial
 |[(i,o)],h=>hfg i o h
 |(i,o)::p::r,h=>⟨hfg i o h.1,AZ hfg h.2⟩
theorem qA:∀{l:List (Nat×Oper)}{i:Nat}{o:Oper},cU l=some (i,o)->(u9 o.op||zR o.op)=true
 |[],_,_,h=>by simp[cU]at h
 |(j,o')::r,i,o,h=>by
  unfold cU at h
  cases hq:(u9 o'.op||zR o'.op)with
  |true=>
   rw[hq]at h
   simp only[Option.some.injEq,Prod.mk.injEq]at h
   obtain⟨rfl,rfl⟩:=h
   exact hq
  |false=>rw[hq]at h;exact qA h
theorem GO.eq{P:Program}{s s':St}{ρ:List Nat}(hm:s'.m=s.m)(hL:s'.L=s.L)(jI:s'.md=s.md):∀{S:ka}{T:List (Nat×Ht)},GO P s ρ S T->GO P s' ρ S T
 |_,_,.nil=> .nil
 |_,_,.cons (t:=t) h1 h2=>by
  cases t with
  |au id off ty ys=>
   obtain⟨sb,Re,c1,c2,c3,c4⟩:=h1
   exact .cons ⟨sb,Re,c1.trans (fD hm hL jI),c2,by rw[hL];exact c3,c4⟩ (h2.eq hm hL jI)
  |Um=>exact .cons h1 (h2.eq hm hL jI)
  |bad=>exact .cons h1 (h2.eq hm hL jI)
  |ce a v=>exact .cons h1 (h2.eq hm hL jI)
  |cs a vs=>exact .cons h1 (h2.eq hm hL jI)
  |se q v=>exact .cons h1 (h2.eq hm hL jI)
theorem oK{P:Program}{n:Nat}{ops:List Oper}{s0:St}{tg:List Nat}{K:St->Prop}{K':aV->Heap->Prop}(hK:To s0 tg K K'):∀{m:Nat}{l:List Bool}{s:St}{ρ:List Nat}{A:aV}{h:Heap}{S:ka}{T:List (Nat×Ht)},Inv s ρ h->Rel ρ s.m s.E A->Nx s0 tg s ρ->GO P s ρ S T->vn P n ops K m l s T->jy P n ops K' m l A h S
 |0,l,s,ρ,A,h,S,T,I,R,N,G,H=>by
  simp only[vn]at H
  simp only[jy]
  cases hr:aZ ops 0 l with
  |nil=>rw[hr]at H;exact hK s ρ A h I R N H
  |cons a b=>rw[hr]at H;exact H.elim
 |m+1,l,s,ρ,A,h,S,T,I,R,N,G,H=>by
  simp only[vn]at H
  simp only[jy]
  cases hq:cU (aZ ops 0 l)with
  |some q=>
   obtain⟨i,o⟩:=q
   rw[hq]at H
   simp only at H⊢
   have hqu:=qA hq
   have st:=EW hqu (xF I R H)
   rw[rP]
   cases hp:u9 o.op with
   |true=>
    refine ng st fun v h' ⟨hh,hY,s',x,iV,a1,a2,a3,a4,a5,a6,a7⟩=> ?_
    rw[gO]
    obtain⟨b1,b2,b3,b4,b5⟩:=sd (n:=n) (dst:=o.dst) a1 a2 a3 a4 a5
    cases Rg:oH (rY s.md s'.md) T with
    |true=>
     simp only[Rg,hp]at a7
     exact oK hK b1 b2 ((N.trans a6).trans (fD b3 b4 b5)) ((G.step a6 Rg).eq b3 b4 b5) a7
    |false=>simp only[Rg]at a7
   |false=>
    have hR:zR o.op=true:=by rw[hp,Bool.false_or]at hqu;exact hqu
    refine ng st fun v h' ⟨hh,hY,s',x,iV,a1,a2,a3,a4,a5,a6,a7⟩=> ?_
    rw[gO]
    obtain⟨b1,b2,b3,b4,b5⟩:=sd (n:=n) (dst:=o.dst) a1 a2 a3 a4 a5
    cases Rg:oH (rY s.md s'.md) T with
    |true=>
     simp only[Rg,hp]at a7
     have abl:=Rf (P:=P) (ops:=ops) (x:=x) a1 a2 hR a3 (by rw[hh];exact hY)
     exact oK hK b1 b2 ((N.trans a6).trans (fD b3 b4 b5)) ((GO.cons abl (G.step a6 Rg)).eq b3 b4 b5) a7
    |false=>simp only[Rg]at a7
  |none=>
   rw[hq]at H
   simp only at H⊢
   cases hr:aZ ops 0 l with
   |nil=>rw[hr]at H;exact hK s ρ A h I R N H
   |cons a b=>
    rw[hr]at H
    simp only at H⊢
    refine AZ (fun i o H=> ?_) H
    rw[rP]
    refine ng (xF I R H) fun v h' ⟨s',x,iV,a1,a2,a3,a4,a5,a6,a7⟩=> ?_
    rw[gO]
    have G2:=G.keep (bf:=vc ops o)
    generalize AP (vc ops o) T=T2 at G2 a7
    unfold lh
    generalize qw (vc ops o) S=S2 at G2⊢
    cases T2 with
    |nil=>
     cases G2
     obtain⟨b1,b2,b3,b4,b5⟩:=sd (n:=n) (dst:=o.dst) a1 a2 a3 a4 a5
     exact oK hK b1 b2 ((N.trans a6).trans (fD b3 b4 b5)) .nil a7
    |cons e T3=>
     simp only at a7
     split at a7
     ·rename_i Rg
      obtain⟨s2,C,hE,hL,hm,jI,a8⟩:=iD a1 a7
      have R2:Rel iV s2.m s2.E A:=by rw[hE,hm];exact a2
      have N2:=fD (ρ:=iV) hm hL jI
      have G3:=(G2.step a6 Rg).eq hm hL jI
      obtain⟨b1,b2,b3,b4,b5⟩:=sd (n:=n) (dst:=o.dst) C.inv R2 a3 (by rw[hm];exact a4) a5
      rw[C.h]at a8
      exact G3.tell C.inv a8 fun a9=>oK hK b1 b2 (((N.trans a6).trans N2).trans (fD b3 b4 b5)) (G3.eq b3 b4 b5) a9
     ·exact a7.elim
theorem Vm{P:Program}{n:Nat}{ops:List Oper}{draw:Bool}{s0:St}{tg:List Nat}{K:St->Prop}{K':aV->Heap->Prop}(hK:To s0 tg K K'){s:St}{ρ:List Nat}{A:aV}{h:Heap}(I:Inv s ρ h)(R:Rel ρ s.m s.E A)(N:Nx s0 tg s ρ)(H:Ve P n ops draw s K):MB P n ops draw A h K':=by
 unfold Ve at H
 unfold MB
 cases draw with
 |false=>exact Nl hK I R N H
 |true=>
  simp only at H⊢
  cases hp:fp ops ops 0 with
  |true=>rw[hp]at H;exact oK hK I R N .nil H
  |false=>rw[hp]at H;exact H.elim
def Nq:(sig:List Sh)->Ek sig->List Lf->(Heap->Prop)->Prop
 |[],J,[],J0=>J=J0
 | .i k::r,J,.i k' x::vs,J0=>k=k'/\Nq r (J x) vs J0
 | .b::r,J,.b x none::vs,J0=>Nq r (J x) vs J0
 | .s::r,J,.s x::vs,J0=>Nq r (J x) vs J0
 | .sl::r,J,.sl x::vs,J0=>Nq r (J x) vs J0
 | .r::r,J,.r x::vs,J0=>Nq r (J x) vs J0
 | .q e::r,J,.q x e'::vs,J0=>e=e'/\Nq r (J x) vs J0
 | .m::r,J,.m x::vs,J0=>Nq r (J x) vs J0
 | .n::r,J,.q (some ⟨b,0,none⟩) 0::vs,J0=>Nq r (J b) vs J0
 |_,_,_,_=>False
theorem JH{x:Lf}{b:Nat}(h:Ho x=some b)(ρ:List Nat):x.v ρ=VP b 0:=by
 unfold Ho at h
 split at h
 ·have h:=Option.some.inj h
  subst h
  rfl
 ·cases h
theorem kg:∀{sig:List Sh}{J:Ek sig}{Q:List Lf->(Heap->Prop)->Prop}{xs:List Lf}{J0:Heap->Prop},vJ sig J Q->Nq sig J xs J0->Q xs J0
 |[],J,Q,[],J0,h,ha=>by
  have ha:J=J0:=ha
  subst ha
  exact h
 | .i k::r,J,Q,.i k' x::xs,J0,h,ha=>by
   obtain⟨rfl,ha⟩:=ha
   exact kg (sig:=r) (J:=J x) (Q:=fun vs J'=>Q (.i k x::vs) J') (h x) ha
 | .b::r,J,Q,.b x none::xs,J0,h,ha=>kg (sig:=r) (J:=J x) (Q:=fun vs J'=>Q (.b x none::vs) J') (h x) ha
 | .s::r,J,Q,.s x::xs,J0,h,ha=>kg (sig:=r) (J:=J x) (Q:=fun vs J'=>Q (.s x::vs) J') (h x) ha
 | .sl::r,J,Q,.sl x::xs,J0,h,ha=>kg (sig:=r) (J:=J x) (Q:=fun vs J'=>Q (.sl x::vs) J') (h x) ha
 | .r::r,J,Q,.r x::xs,J0,h,ha=>kg (sig:=r) (J:=J x) (Q:=fun vs J'=>Q (.r x::vs) J') (h x) ha
 | .q e::r,J,Q,.q x e'::xs,J0,h,ha=>by
   obtain⟨rfl,ha⟩:=ha
   exact kg (sig:=r) (J:=J x) (Q:=fun vs J'=>Q (.q x e::vs) J') (h x) ha
 | .m::r,J,Q,.m x::xs,J0,h,ha=>kg (sig:=r) (J:=J x) (Q:=fun vs J'=>Q (.m x::vs) J') (h x) ha
 | .n::r,J,Q,.q (some ⟨b,0,none⟩) 0::xs,J0,h,ha=>kg (sig:=r) (J:=J b) (Q:=fun vs J'=>Q (.q (some ⟨b,0,none⟩) 0::vs) J') (h b) ha
theorem kh{ρ:List Nat}{h:Heap}:∀{sig:List Sh}{J:Ek sig}{vs:List Lf},qQ ρ sig J vs h->∃xs J0,Nq sig J xs J0/\J0 h/\(∀m,bQ m xs=true)/\cD xs/\dB ρ xs=dB ρ vs
 |[],J,[],hj=>⟨[],J,rfl,hj,fun _=>rfl,trivial,rfl⟩
 | .i k::r,J,.i k' x::vs,hj=>by
   simp only[qQ]at hj
   split at hj
   ·rename_i hk
    obtain rfl:=of_decide_eq_true hk
    obtain⟨xs,J0,h1,h2,h3,h4,h5⟩:=kh hj
    exact⟨.i k x::xs,J0,⟨rfl,h1⟩,h2,fun m=>by simp[bQ,Lf.ok,h3 m],⟨trivial,h4⟩,by simp only[dB,h5]⟩
   ·exact hj.elim
 | .b::r,J,.b x kn::vs,hj=>by
   obtain⟨xs,J0,h1,h2,h3,h4,h5⟩:=kh (sig:=r) (J:=J x) (vs:=vs) hj
   exact⟨.b x none::xs,J0,h1,h2,fun m=>by simp[bQ,Lf.ok,h3 m],⟨trivial,h4⟩,by simp only[dB,h5];rfl⟩
 | .s::r,J,.s x::vs,hj=>by
   obtain⟨xs,J0,h1,h2,h3,h4,h5⟩:=kh (sig:=r) (J:=J x) (vs:=vs) hj
   exact⟨.s x::xs,J0,h1,h2,fun m=>by simp[bQ,Lf.ok,h3 m],⟨trivial,h4⟩,by simp only[dB,h5]⟩
 | .sl::r,J,.sl x::vs,hj=>by
   obtain⟨xs,J0,h1,h2,h3,h4,h5⟩:=kh (sig:=r) (J:=J x) (vs:=vs) hj
   exact⟨.sl x::xs,J0,h1,h2,fun m=>by simp[bQ,Lf.ok,h3 m],⟨trivial,h4⟩,by simp only[dB,h5]⟩
 | .r::r,J,x::vs,hj=>by
   obtain⟨xs,J0,h1,h2,h3,h4,h5⟩:=kh (sig:=r) (J:=J (x.v ρ)) (vs:=vs) (by cases x<;>exact hj)
   exact⟨.r (x.v ρ)::xs,J0,h1,h2,fun m=>by simp[bQ,Lf.ok,h3 m],⟨trivial,h4⟩,by simp only[dB,h5];rfl⟩
 | .q e::r,J,.q x e'::vs,hj=>by
   obtain⟨xs,J0,h1,h2,h3,h4,h5⟩:=kh (sig:=r) (J:=J x) (vs:=vs) hj
   exact⟨.q x e::xs,J0,⟨rfl,h1⟩,h2,fun m=>by simp[bQ,Lf.ok,h3 m],⟨trivial,h4⟩,by simp only[dB,h5];rfl⟩
 | .m::r,J,.m x::vs,hj=>by
   obtain⟨xs,J0,h1,h2,h3,h4,h5⟩:=kh (sig:=r) (J:=J x) (vs:=vs) hj
   exact⟨.m x::xs,J0,h1,h2,fun m=>by simp[bQ,Lf.ok,h3 m],⟨trivial,h4⟩,by simp only[dB,h5]⟩
 | .n::r,J,x::vs,hj=>by
   have hj:(match Ho x with|some b=>qQ ρ r (J b) vs h|none=>False):=by cases x<;>exact hj
   cases hb:Ho x with
   |none=>rw[hb]at hj;exact hj.elim
   |some b=>
    rw[hb]at hj
    obtain⟨xs,J0,h1,h2,h3,h4,h5⟩:=kh (sig:=r) (J:=J b) (vs:=vs) hj
    exact⟨.q (some ⟨b,0,none⟩) 0::xs,J0,h1,h2,fun m=>by simp[bQ,Lf.ok,h3 m],⟨trivial,h4⟩,by simp only[dB,h5,JH hb];rfl⟩
theorem nh:∀{ss:List Sh}{vs:List Lf}{K:List Lf->List Lf->Prop},vo ss vs K->K (vs.take ss.length) (vs.drop ss.length)
 |[],vs,K,h=>by simpa[vo]using h
 |s::ss,x::vs,K,h=>by
  simp only[vo]at h
  have:=nh h
  simpa using this
 |s::ss,[],K,h=>by simp[vo]at h
def K8:As->List Lf->Av
 | .l _,x::_=> .l x
 | .l _,[]=> .l .u
 | .a ss,vs=> .a (vs.take ss.length)
theorem Hz{sh:As}{vs:List Lf}{K:Av->List Lf->Prop}(h:Uo sh vs K):K (K8 sh vs) (vs.drop (Un sh).length):=by
 cases sh with
 |l x=>
  cases vs with
  |nil=>exact h.elim
  |cons y vs=>exact h
 |a ss=>
  have:=nh h
  exact this
def eI(n:Nat):List It->List Lf->List (Nat×Option Tv)->List (Nat×Option Tv)
 |[],_,E=>E
 |x::r,vs,E=>eI n r (vs.drop (Un x.sh).length) (Hq n E x.t (some (.v (K8 x.sh vs))))
theorem A4{n:Nat}:∀{oI:List It}{vs:List Lf}{E:List (Nat×Option Tv)}{K:List Lf->List (Nat×Option Tv)->Prop},Vf n oI vs E K->K (vs.drop (qf oI).length) (eI n oI vs E)
 |[],vs,E,K,h=>h
 |x::r,vs,E,K,h=>by
  have:=A4 (Hz h)
  simp only[qf,List.length_append]
  rw[<-List.drop_drop]
  exact this
def l2(ch:List Nat):List (Nat×List Lf)->List Lf->List (Nat×List Lf)
 |[],_=>[]
 |(i,xs)::L,vs=>match eH ch i with
  |true=>(i,vs.take (oG xs).length)::l2 ch L (vs.drop (oG xs).length)
  |false=>(i,xs)::l2 ch L vs
theorem tK{ch:List Nat}:∀{L:List (Nat×List Lf)}{vs:List Lf}{K:List (Nat×List Lf)->List Lf->Prop},MW ch L vs K->K (l2 ch L vs) (vs.drop (Aa ch L).length)
 |[],vs,K,h=>h
 |(i,xs)::L,vs,K,h=>by
  unfold MW at h
  unfold l2 Aa
  cases hi:eH ch i with
  |true=>
   rw[hi]at h
   have:=tK (nh h)
   simp only[List.length_append]
   rw[<-List.drop_drop]
   exact this
  |false=>rw[hi]at h;exact tK h
theorem xG(ρ:List Nat)(xs:List Lf)(n:Nat):dB ρ (xs.take n)=(dB ρ xs).take n:=by rw[eC,eC,List.map_take]
theorem me(ρ:List Nat)(xs:List Lf)(n:Nat):dB ρ (xs.drop n)=(dB ρ xs).drop n:=by rw[eC,eC,List.map_drop]
theorem jf(ρ:List Nat)(xs ys:List Lf):dB ρ (xs++ys)=dB ρ xs++dB ρ ys:=by rw[eC,eC,eC,List.map_append]
theorem fI(ρ:List Nat)(xs:List Lf):(dB ρ xs).length=xs.length:=by rw[eC,List.length_map]
theorem kk:∀xs:List Lf,(oG xs).length=xs.length
 |[]=>rfl
 |_::xs=>by simp[oG,kk xs]
theorem Co:∀ss:List Sh,EQ.zZ ss=ss.length
 |[]=>rfl
 |_::ss=>by simp[EQ.zZ,Co ss]
def avV:As->List Value->Value
 | .l _,v::_=>v
 | .l _,[]=>undef
 | .a ss,vs=> .agg (vs.take ss.length).toArray
theorem Vn(ρ:List Nat)(sh:As)(xs:List Lf):(K8 sh xs).v ρ=avV sh (dB ρ xs):=by
 cases sh with
 |l x=>cases xs<;>rfl
 |a ss=>simp only[K8,avV,Av.v,xG]
theorem Rh{m:Nat}{sh:As}{xs:List Lf}(h:bQ m xs=true)(hf:cD xs):(K8 sh xs).ok m=true/\(K8 sh xs).fact:=by
 cases sh with
 |l x=>
  cases xs with
  |nil=>exact⟨rfl,trivial⟩
  |cons y ys=>
   simp only[bQ,Bool.and_eq_true]at h
   exact⟨h.1,hf.1⟩
 |a ss=>exact⟨cO.2 fun x hx=>cO.1 h x (List.mem_of_mem_take hx),bR.2 fun x hx=>bR.1 hf x (List.mem_of_mem_take hx)⟩
def Ri:List It->List Value->List Value
 |[],_=>[]
 |x::r,vs=>avV x.sh vs::Ri r (vs.drop (Un x.sh).length)
def tL(n:Nat)(j:Nat->Value):List Nat->aV->aV
 |[],A=>A
 |t::ts,A=>tL n j ts (wY n A (some t) (j t))
def nN(n:Nat):List Nat->List Value->aV->aV
 |[],_,A=>A
 |_::_,[],A=>A
 |t::ts,v::vs,A=>nN n ts vs (wY n A (some t) v)
theorem xH{α:Sort _}{n:Nat}{j:Nat->Value}{k:aV->α}:∀(L:List Nat)(A:aV),qN n j L A k=k (tL n j L A)
 |[],A=>rfl
 |t::ts,A=>by simp only[qN,tL,gO];exact xH ts _
theorem Cq{α:Sort _}{n:Nat}{k:aV->α}:∀(L:List Nat)(vs:List Value)(A:aV),rS n L vs A k=k (nN n L vs A)
 |[],_,A=>rfl
 |_::_,[],A=>rfl
 |t::ts,v::vs,A=>by simp only[rS,nN,gO];exact Cq ts vs _
theorem xI{ρ:List Nat}{m n:Nat}{E:List (Nat×Option Tv)}{A:aV}(R:Rel ρ m E A){t:Nat}{x:Option Tv}{v:Value}(hx:∀y,x=some y->y.ok m=true/\y.fact/\v=y.val ρ):Rel ρ m (Hq n E t x) (wY n A (some t) v):=by
 unfold Hq wY
 simp only
 cases hb:Nat.blt t n with
 |false=>exact R
 |true=>
  refine⟨fun t' y hy=> ?_⟩
  simp only[qe]at hy
  simp only[lJ]
  cases hd:Nat.beq t t' with
  |true=>rw[hd]at hy;exact hx y hy
  |false=>rw[hd]at hy;exact R.get t' y hy
theorem A5{ρ:List Nat}{m n:Nat}{j:Nat->Value}:∀{ts:List Nat}{E:List (Nat×Option Tv)}{A:aV},Rel ρ m E A->Rel ρ m (EP n ts E) (tL n j ts A)
 |[],E,A,R=>R
 |t::ts,E,A,R=>by
  simp only[EP,tL]
  exact A5 (xI R fun y hy=>by cases hy)
theorem Nr{ρ:List Nat}{m n:Nat}:∀{oI:List It}{xs:List Lf}{E:List (Nat×Option Tv)}{A:aV},Rel ρ m E A->bQ m xs=true->cD xs->Rel ρ m (eI n oI xs E) (nN n (mc oI) (Ri oI (dB ρ xs)) A)
 |[],xs,E,A,R,_,_=>R
 |x::r,xs,E,A,R,ho,hf=>by
  simp only[eI,mc,Ri,nN]
  rw[<-me]
  obtain⟨h1,h2⟩:=Rh (sh:=x.sh) ho hf
  refine Nr (xI R fun y hy=> ?_) (cO.2 fun z hz=>cO.1 ho z (List.mem_of_mem_drop hz)) (bR.2 fun z hz=>bR.1 hf z (List.mem_of_mem_drop hz))
  have hy:=Option.some.inj hy
  subst hy
  exact⟨h1,h2,(Vn ρ x.sh xs).symm⟩
theorem tM{ρ:List Nat}{m:Nat}{E:List (Nat×Option Tv)}{A:aV}(R:Rel ρ m E A):∀{oI:List It}{K:List Lf->Prop},EQ E oI K->∃vs,K vs/\vs.length=(qf oI).length/\∀rest,dH A (mc oI)=Ri oI (dB ρ (vs++rest))
 |[],K,h=>⟨[],h,rfl,fun _=>rfl⟩
 |x::r,K,h=>by
  unfold EQ at h
  split at h
  ·rename_i y sh hy hs
   obtain⟨vs,h1,h2,h3⟩:=tM R h
   refine⟨y::vs,h1,by simp[qf,hs,Un,h2,Nat.add_comm],fun rest=> ?_⟩
   simp only[mc,dH,Ri,hs,avV,Un,List.cons_append,dB]
   rw[(R.get _ _ hy).2.2,h3 rest]
   rfl
  ·rename_i ys ss hy hs
   split at h
   ·rename_i hn
    have hl:ys.length=ss.length:=by rw[<-kf,<-Co];exact Nat.eq_of_beq_eq_true hn
    obtain⟨vs,h1,h2,h3⟩:=tM R h
    refine⟨ys++vs,h1,by simp[qf,hs,Un,h2,hl],fun rest=> ?_⟩
    simp only[mc,dH,Ri,hs,avV,Un]
    rw[(R.get _ _ hy).2.2,h3 rest,List.append_assoc,jf ρ ys (vs++rest)]
    rw[List.take_left' (by rw[fI,hl]),List.drop_left' (by rw[fI,hl])]
    rfl
   ·exact h.elim
  ·exact h.elim
theorem Cr{ch:List Nat}(ρ:List Nat):∀(L:List (Nat×List Lf))(xs:List Lf),(ke ρ (l2 ch L xs)).map (·.1)=(ke ρ L).map (·.1)
 |[],_=>rfl
 |(i,ys)::L,xs=>by
  unfold l2
  cases eH ch i with
  |true=>simp only[ke,List.map_cons];rw[Cr ρ L]
  |false=>simp only[ke,List.map_cons];rw[Cr ρ L]
theorem E0{ch:List Nat}{m:Nat}:∀{L:List (Nat×List Lf)}{xs:List Lf},rJ m L=true->oF L->bQ m xs=true->cD xs->rJ m (l2 ch L xs)=true/\oF (l2 ch L xs)
 |[],_,_,_,_,_=>⟨rfl,trivial⟩
 |(i,ys)::L,xs,h1,h2,h3,h4=>by
  simp only[rJ,Bool.and_eq_true]at h1
  unfold l2
  cases eH ch i with
  |true=>
   obtain⟨a,b⟩:=E0 (ch:=ch) h1.2 h2.2 (cO.2 fun z hz=>cO.1 h3 z (List.mem_of_mem_drop (i:=(oG ys).length) hz)) (bR.2 fun z hz=>bR.1 h4 z (List.mem_of_mem_drop (i:=(oG ys).length) hz))
   refine⟨?_,bR.2 fun z hz=>bR.1 h4 z (List.mem_of_mem_take hz),b⟩
   simp only[rJ,Bool.and_eq_true]
   exact⟨⟨h1.1.1,cO.2 fun z hz=>cO.1 h3 z (List.mem_of_mem_take hz)⟩,a⟩
  |false=>
   obtain⟨a,b⟩:=E0 (ch:=ch) h1.2 h2.2 h3 h4
   exact⟨by simp[rJ,h1.1.1,h1.1.2,a],h2.1,b⟩
theorem Cs{ch:List Nat}:∀{L:List (Nat×List Lf)}{xs:List Lf}{id:Nat},eH ch id=false->cE (l2 ch L xs) id=cE L id
 |[],_,_,_=>rfl
 |(i,ys)::L,xs,id,h=>by
  unfold l2
  cases hi:eH ch i with
  |true=>
   simp only[cE]
   cases hb:Nat.beq i id with
   |true=>have:=Nat.eq_of_beq_eq_true hb;subst this;rw[hi]at h;cases h
   |false=>exact Cs h
  |false=>
   simp only[cE]
   cases Nat.beq i id with
   |true=>rfl
   |false=>exact Cs h
theorem tN{ρ:List Nat}{ch:List Nat}{L':List (Nat×List Lf)}:∀{L0:List (Nat×List Lf)}{K:List Lf->Prop},MX L' ch L0 K->∃vs,K vs/\vs.length=(Aa ch L0).length/\∀xs tl,dB ρ xs=dB ρ vs++tl->∀p,p∈l2 ch L0 xs->(eH ch p.1=true/\∃cs,cE L' p.1=some cs/\dB ρ p.2=dB ρ cs)\/(eH ch p.1=false/\p∈L0)
 |[],K,h=>⟨[],h,rfl,fun xs _ _ p hp=>by simp[l2]at hp⟩
 |(i,ys)::L0,K,h=>by
  unfold MX at h
  unfold Aa
  cases hi:eH ch i with
  |true=>
   rw[hi]at h
   simp only at h
   split at h
   ·rename_i cs GK
    split at h
    ·rename_i hn
     have hl:cs.length=ys.length:=by rw[<-kf,<-kf];exact Nat.eq_of_beq_eq_true hn
     obtain⟨vs,h1,h2,h3⟩:=tN (ρ:=ρ) h
     refine⟨cs++vs,h1,by simp only[List.length_append,kk];omega,fun xs tl hxs p hp=> ?_⟩
     unfold l2 at hp
     rw[hi]at hp
     rw[jf,List.append_assoc]at hxs
     rcases List.mem_cons.1 hp with rfl|hp
     ·refine .inl ⟨hi,cs,GK,?_⟩
      simp only
      rw[xG,hxs,kk,List.take_left' (by rw[fI,hl])]
     ·rcases h3 (xs.drop (oG ys).length) tl (by rw[me,hxs,kk,List.drop_left' (by rw[fI,hl])]) p hp with h3|h3
      ·exact .inl h3
      ·exact .inr ⟨h3.1,List.mem_cons_of_mem _ h3.2⟩
    ·exact h.elim
   ·exact h.elim
  |false=>
   rw[hi]at h
   obtain⟨vs,h1,h2,h3⟩:=tN (ρ:=ρ) h
   refine⟨vs,h1,h2,fun xs tl hxs p hp=> ?_⟩
   unfold l2 at hp
   rw[hi]at hp
   rcases List.mem_cons.1 hp with rfl|hp
   ·exact .inr ⟨hi,by simp⟩
   ·rcases h3 xs tl hxs p hp with h3|h3
    ·exact .inl h3
    ·exact .inr ⟨h3.1,List.mem_cons_of_mem _ h3.2⟩
theorem Vars.sub{h h0:Heap}{VL:List (Nat×List Value)}(H:Vars h VL):∀{V0 VQ:List (Nat×List Value)},Vars h0 V0->VQ.map (·.1)=V0.map (·.1)->(∀q,q∈VQ->q∈VL)->Vars h VQ
 |[],[],_,_,_=> .nil
 |(b,cs)::V0,(b',lK)::VQ,.cons hv hn hl,hk,hm=>by
  simp only[List.map_cons,List.cons.injEq]at hk
  obtain⟨rfl,hk⟩:=hk
  refine .cons (H.mem _ (hm (b',lK) (by simp))) (fun p hp e=> ?_) (H.sub hl hk fun q hq=>hm q (by simp[hq]))
  have:p.1∈V0.map (·.1):=by rw[<-hk];exact List.mem_map.2 ⟨p,hp,rfl⟩
  obtain⟨q,hq,hqe⟩:=List.mem_map.1 this
  exact hn q hq (hqe.trans e)
 |[],_::_,_,hk,_=>by simp at hk
 |_::_,[],_,hk,_=>by simp at hk
theorem km{ρ:List Nat}:∀{L:List (Nat×List Lf)}{q:Nat×List Value},q∈ke ρ L↔∃p,p∈L/\q=(eM ρ p.1,dB ρ p.2)
 |[],q=>by simp[ke]
 |(i,xs)::L,q=>by
  simp only[ke,List.mem_cons,km (L:=L)]
  constructor
  ·rintro(rfl|⟨p,h1,h2⟩)
   ·exact⟨(i,xs),.inl rfl,rfl⟩
   ·exact⟨p,.inr h1,h2⟩
  ·rintro⟨p,(rfl|h1),h2⟩
   ·exact .inl h2
   ·exact .inr ⟨p,h1,h2⟩
theorem kv:∀{L:List (Nat×List Lf)}{id:Nat}{cs:List Lf},cE L id=some cs->(id,cs)∈L
 |[],id,cs,h=>by simp[cE]at h
 |(i,xs)::L,id,cs,h=>by
  unfold cE at h
  cases hb:Nat.beq i id with
  |true=>
   rw[hb]at h
   have:=Nat.eq_of_beq_eq_true hb
   subst this
   have h:=Option.some.inj h
   subst h
   simp
  |false=>rw[hb]at h;exact List.mem_cons_of_mem _ (kv h)
theorem ni{ρ:List Nat}{h:Heap}:∀{L:List (Nat×List Lf)}{id:Nat}{cs:List Lf},Vars h (ke ρ L)->(id,cs)∈L->cE L id=some cs
 |(i,xs)::L,id,cs,V,hm=>by
  unfold cE
  rcases List.mem_cons.1 hm with e|hm
  ·simp only[Prod.mk.injEq]at e
   obtain⟨rfl,rfl⟩:=e
   simp
  ·cases hb:Nat.beq i id with
   |true=>
    have:=Nat.eq_of_beq_eq_true hb
    subst this
    exact absurd rfl (V.ne (eM ρ i,dB ρ cs) (km.2 ⟨(i,cs),hm,rfl⟩))
   |false=>exact ni V.tail hm
theorem qS{f:List Value->Prop}:∀{n:Nat},(∀vs,f vs)->kb n f
 |0,h=>h []
 |n+1,h=>fun v=>qS (n:=n) fun vs=>h (v::vs)
theorem xJ:∀(oI:List It)(vs:List Value),(Ri oI vs).length=(mc oI).length
 |[],_=>rfl
 |x::r,vs=>by simp only[Ri,mc,List.length_cons,xJ r]
theorem sf(A:aV):∀a b:List Nat,dH A (a++b)=dH A a++dH A b
 |[],b=>rfl
 |x::a,b=>by simp only[List.cons_append,dH,sf A a b]
theorem A6{n:Nat}:∀{a:List Nat}{va:List Value}{b:List Nat}{vb:List Value}{A:aV},va.length=a.length->nN n (a++b) (va++vb) A=nN n b vb (nN n a va A)
 |[],[],b,vb,A,_=>rfl
 |t::a,v::va,b,vb,A,h=>by
  simp only[List.cons_append,nN]
  exact A6 (by simpa using h)
 |[],_::_,_,_,_,h=>by simp at h
 |_::_,[],_,_,_,h=>by simp at h
def Vo:List (Nat×List Sh)->List Value->List Value
 |[],_=>[]
 |(_,ss)::r,v::vs=>v::Vo r (vs.drop ss.length)
 |_::r,[]=>undef::Vo r []
def Vp:Value->Nat
 | .pointer (some a)=>a.block
 |_=>0
def vt:List (Nat×List Sh)->List Value->List (Nat×List Value)->List (Nat×List Value)
 |[],_,V=>V
 |(_,ss)::r,v::vs,V=>vt r (vs.drop ss.length) ((Vp v,vs.take ss.length)::V)
 |_::r,[],V=>vt r [] V
theorem A7{ρ:List Nat}{h:Heap}:∀{L:List (Nat×List Lf)}{i j:Nat}{c d:List Lf},Vars h (ke ρ L)->(i,c)∈L->(j,d)∈L->i≠j->eM ρ i≠eM ρ j
 |(k,xs)::L,i,j,c,d,V,hi,hj,dZ=>by
  rcases List.mem_cons.1 hi with e1|hi
  ·rcases List.mem_cons.1 hj with e2|hj
   ·simp only[Prod.mk.injEq]at e1 e2
    exact absurd (e1.1.trans e2.1.symm) dZ
   ·simp only[Prod.mk.injEq]at e1
    have:=V.ne (eM ρ j,dB ρ d) (km.2 ⟨(j,d),hj,rfl⟩)
    rw[e1.1]
    exact fun e=>this e.symm
  ·rcases List.mem_cons.1 hj with e2|hj
   ·simp only[Prod.mk.injEq]at e2
    have:=V.ne (eM ρ i,dB ρ c) (km.2 ⟨(i,c),hi,rfl⟩)
    rw[e2.1]
    exact this
   ·exact A7 V.tail hi hj dZ
theorem A8{m0:Nat}{s:St}{ρ:List Nat}{h:Heap}{A:aV}(hr:s.ρ=ρ)(I:Vars h (ke ρ s.L))(R:Rel ρ s.m s.E A):∀{nv:List (Nat×List Sh)}{ids:List Nat}{K:List Lf->Prop},Q5 m0 s ids nv K->
 ∃vs,K vs/\dH A (lM nv)=Vo nv (dB ρ vs)/\∀V,Vars h V->(∀q,q∈V->∃p,p∈s.L/\(p.1<m0\/eH ids p.1=true)/\q=(eM ρ p.1,dB ρ p.2))->Vars h (vt nv (dB ρ vs) V)
 |[],ids,K,H=>⟨[],H,rfl,fun V hV _=>hV⟩
 |(t,ss)::r,ids,K,H=>by
  unfold Q5 at H
  split at H
  ·rename_i id hid
   split at H
   ·rename_i h1 h2
    split at H
    ·rename_i cs GK
     split at H
     ·rename_i hn
      have hl:cs.length=ss.length:=by rw[<-kf,<-Co];exact Nat.eq_of_beq_eq_true hn
      obtain⟨vs,k1,k2,k3⟩:=A8 hr I R H
      refine⟨_,k1,?_,fun V hV hq=> ?_⟩
      ·simp only[lM,dH,dB,Vo,jf]
       rw[k2,List.drop_left' (by rw[fI,hl]),(R.get _ _ hid).2.2,hr]
       rfl
      ·simp only[dB,vt,jf]
       rw[List.drop_left' (by rw[fI,hl]),List.take_left' (by rw[fI,hl])]
       have hm:=kv GK
       have hb:Vp ((Lf.q (some ⟨eM s.ρ id,0,none⟩) 0).v ρ)=eM ρ id:=by rw[hr];rfl
       rw[hb]
       refine k3 _ (.cons (I.mem _ (km.2 ⟨(id,cs),hm,rfl⟩)) (fun q hqV e=> ?_) hV) fun q hqV=> ?_
       ·obtain⟨p,p1,p2,p3⟩:=hq q hqV
        have dZ:p.1≠id:=fun e=>by
         subst e
         rcases p2 with p2|p2
         ·rw[<-Nat.blt_eq]at p2;rw[h1]at p2;cases p2
         ·rw[h2]at p2;cases p2
        rw[p3]at e
        exact A7 I p1 hm dZ e
       ·rcases List.mem_cons.1 hqV with rfl|hqV
        ·exact⟨(id,cs),hm,.inr (by simp[eH]),rfl⟩
        ·obtain⟨p,p1,p2,p3⟩:=hq q hqV
         refine⟨p,p1,?_,p3⟩
         rcases p2 with p2|p2
         ·exact .inl p2
         ·exact .inr (by simp[eH,p2])
     ·exact H.elim
    ·exact H.elim
   ·exact H.elim
  ·exact H.elim
def JV(a:An)(s:St)(ρ:List Nat)(J:Ek (MY a s.L))(vs:List Value)(h:Heap):Prop:=
 ∃xs J0,Nq _ J xs J0/\J0 h/\(∀m,bQ m xs=true)/\cD xs/\vs=Ri a.oI (dB ρ xs)++Vo a.nv (dB ρ ((xs.drop (qf a.oI).length).drop (Aa a.ch s.L).length))/\
  Vars h (vt a.nv (dB ρ ((xs.drop (qf a.oI).length).drop (Aa a.ch s.L).length)) (ke ρ (l2 a.ch s.L (xs.drop (qf a.oI).length))))
theorem xK{m:Nat}{ch:List Nat}:∀{l:List Nat},Jz m ch l=true->∀i,i<m->eH ch i=false->eH l i=false
 |[],_,_,_,_=>rfl
 |j::l,h,i,hi,hc=>by
  simp only[Jz,Bool.and_eq_true,Bool.or_eq_true,Bool.not_eq_true']at h
  simp only[eH,Bool.or_eq_false_iff]
  refine⟨?_,xK h.2 i hi hc⟩
  cases hb:Nat.beq j i with
  |false=>rfl
  |true=>
   have:=Nat.eq_of_beq_eq_true hb
   subst this
   rcases h.1 with h1|h1
   ·rw[h1]at hc;cases hc
   ·rw[<-Nat.blt_eq]at hi;rw[h1]at hi;cases hi
theorem Ct{m:Nat}:∀{L:List (Nat×List Lf)},rJ m L=true->∀p,p∈L->p.1<m/\bQ m p.2=true
 |[],_,p,hp=>by simp at hp
 |(i,ys)::L,hL,p,hp=>by
  simp only[rJ,Bool.and_eq_true]at hL
  rcases List.mem_cons.1 hp with rfl|hp
  ·exact⟨fc.1 hL.1.1,hL.1.2⟩
  ·exact Ct hL.2 p hp
theorem iH{m n:Nat}{xs:List Lf}(h:bQ m xs=true):bQ m (xs.drop n)=true:=cO.2 fun z hz=>cO.1 h z (List.mem_of_mem_drop hz)
theorem jg{n:Nat}{xs:List Lf}(h:cD xs):cD (xs.drop n):=bR.2 fun z hz=>bR.1 h z (List.mem_of_mem_drop hz)
theorem Cu{a:An}{s:St}{ρ:List Nat}{h:Heap}(C:Cl s ρ h){J:Ek (MY a s.L)}{s':St}{iV:List Nat}{A:aV}{h':Heap}(I':Inv s' iV h')(R':Rel iV s'.m s'.E A)(N:Nx s ρ s' iV)
 (H:act a s s' fun vs=>qQ s'.ρ _ J vs s'.h) (hr:s'.ρ=iV) (hh:s'.h=h'):JV a s ρ J (dH A (mc a.oI++lM a.nv)) h':=by
 unfold act at H
 split at H
 ·rename_i ho
  obtain⟨vs1,H1,hl,hv⟩:=tM R' H
  obtain⟨vs2,H2,hl2,hp⟩:=tN (ρ:=iV) H1
  obtain⟨vs3,H3,hv3,hN⟩:=A8 hr I'.vars R' H2
  rw[hr,hh]at H3
  obtain⟨xs,J0,k1,k2,k3,k4,k5⟩:=kh H3
  obtain⟨y,hy⟩:=N.r
  have same:∀zs:List Lf,(∀m,bQ m zs=true)->dB iV zs=dB ρ zs:=fun zs hz=>by rw[hy];exact gY (hz _)
  have hd:dB iV (xs.drop (qf a.oI).length)=dB iV vs2++dB iV vs3:=by
   rw[me,k5,jf,List.drop_left' (by rw[fI,hl]),jf]
  have hd3:dB ρ ((xs.drop (qf a.oI).length).drop (Aa a.ch s.L).length)=dB iV vs3:=by
   rw[<-same _ fun m=>iH (iH (k3 m)),me,hd,List.drop_left' (by rw[fI,hl2])]
  refine⟨xs,J0,k1,k2,k3,k4,?_,?_⟩
  ·rw[sf,hv (vs2++vs3),<-k5,same _ k3,hd3,hv3]
  ·rw[hd3]
   refine hN _ ?_ ?_
   ·refine I'.vars.sub C.vars (Cr ρ s.L _) fun q hq=> ?_
    obtain⟨p,p1,p2⟩:=km.1 hq
    have Ns:=Ct (E0 (ch:=a.ch) C.tF C.wm (iH (n:=(qf a.oI).length) (k3 s.m)) (jg k4)).1 p p1
    have e1:eM ρ p.1=eM iV p.1:=by rw[hy];exact(jH _ _ _ (by rw[C.len];exact Ns.1)).symm
    have e2:dB ρ p.2=dB iV p.2:=by rw[hy];exact(gY (by rw[C.len];exact Ns.2)).symm
    rw[p2,e1,e2]
    rcases hp _ _ hd p p1 with⟨q1,cs,q2,q3⟩|⟨q1,q2⟩
    ·rw[q3]
     exact km.2 ⟨(p.1,cs),kv q2,rfl⟩
    ·obtain⟨new,n1,n2⟩:=N.md
     rw[n1,tJ]at ho
     have hf:=n2 p.1 (xK ho p.1 Ns.1 q1) Ns.1
     rw[ni C.vars q2]at hf
     exact km.2 ⟨(p.1,p.2),kv hf,rfl⟩
   ·intro q hq
    obtain⟨p,p1,p2⟩:=km.1 hq
    have Ns:=Ct (E0 (ch:=a.ch) C.tF C.wm (iH (n:=(qf a.oI).length) (k3 s.m)) (jg k4)).1 p p1
    have e1:eM ρ p.1=eM iV p.1:=by rw[hy];exact(jH _ _ _ (by rw[C.len];exact Ns.1)).symm
    have e2:dB ρ p.2=dB iV p.2:=by rw[hy];exact(gY (by rw[C.len];exact Ns.2)).symm
    rw[p2,e1,e2]
    rcases hp _ _ hd p p1 with⟨q1,cs,q2,q3⟩|⟨q1,q2⟩
    ·rw[q3]
     exact⟨(p.1,cs),kv q2,.inl Ns.1,rfl⟩
    ·obtain⟨new,n1,n2⟩:=N.md
     rw[n1,tJ]at ho
     have hf:=n2 p.1 (xK ho p.1 Ns.1 q1) Ns.1
     rw[ni C.vars q2]at hf
     exact⟨(p.1,p.2),kv hf,.inl Ns.1,rfl⟩
 ·exact H.elim
theorem JI{n:Nat}{h:Heap}:∀{nv:List (Nat×List Sh)}{vs:List Lf}{s:St}{ρ:List Nat}{A:aV}{K:St->Prop},(Vars h (ke ρ s.L)->Cl s ρ h)->Rel ρ s.m s.E A->(∀m,bQ m vs=true)->cD vs->
 Vars h (vt nv (dB ρ vs) (ke ρ s.L))->Q4 n nv vs s K->∃s2 GN,Cl s2 GN h/\Rel GN s2.m s2.E (nN n (lM nv) (Vo nv (dB ρ vs)) A)/\s.m<=s2.m/\s2.md=s.md/\(∀id,id<s.m->cE s2.L id=cE s.L id)/\(∃y,GN=ρ++y)/\K s2
 |[],vs,s,ρ,A,K,C,R,_,_,V,H=>⟨s,ρ,C V,R,Nat.le_refl _,rfl,fun _ _=>rfl,⟨[],by simp⟩,H⟩
 |(t,ss)::r,[],s,ρ,A,K,C,R,_,_,V,H=>H.elim
 |(t,ss)::r,x::vs,s,ρ,A,K,C,R,ho,hf,V,H=>by
  unfold Q4 at H
  cases hb:Ho x with
  |none=>rw[hb]at H;exact H.elim
  |some b=>
   rw[hb]at H
   have H:=nh H
   have hx:=JH hb ρ
   simp only[dB,vt,hx]at V
   rw[<-me,<-xG]at V
   have hvs:∀m,bQ m vs=true:=fun m=>by have:=ho m;simp only[bQ,Bool.and_eq_true]at this;exact this.2
   have hV0:∀{nv:List (Nat×List Sh)}{vs:List Value}{V:List (Nat×List Value)},Vars h (vt nv vs V)->Vars h V:=by
    intro nv
    induction nv with
    |nil=>intro vs V h;exact h
    |cons p r ih=>
     intro vs V h
     cases vs with
     |nil=>exact ih h
     |cons v vs=>exact(ih h).tail
   have C0:=C (hV0 V).tail
   have ht:∀m,bQ m (vs.take ss.length)=true:=fun m=>cO.2 fun z hz=>cO.1 (hvs m) z (List.mem_of_mem_take hz)
   have hl:eM (ρ++[b]) s.m=b:=by rw[<-C0.len];exact rZ ρ b []
   have eL:ke (ρ++[b]) ((s.m,vs.take ss.length)::s.L)=(Vp (VP b 0),dB ρ (vs.take ss.length))::ke ρ s.L:=by
    show(eM (ρ++[b]) s.m,dB (ρ++[b]) (vs.take ss.length))::ke (ρ++[b]) s.L=_
    rw[hl,gY (ht _),wj (by rw[C0.len];exact C0.tF)]
    rfl
   have ed:dB (ρ++[b]) (vs.drop ss.length)=dB ρ (vs.drop ss.length):=gY (iH (hvs _))
   have Rx:=R.ext (y:=[b]) (n:=s.m+1) C0.len (by omega)
   obtain⟨s2,GN,c1,c2,c3,c4,c5,⟨y,c6⟩,c7⟩:=JI (s:={s with E:=Hq n s.E t (some (.v (.l (.p s.m 0)))),L:=(s.m,vs.take ss.length)::s.L,ρ:=s.ρ++[b],m:=s.m+1}) (ρ:=ρ++[b]) (A:=wY n A (some t) (VP b 0)) (fun W=>⟨W,by simp[C0.len],by rw[C0.r],C0.h,C0.nw,C0.so,C0.d,by
    have e1:=ht (s.m+1)
    have e2:=Q9 (Nat.le_succ s.m) C0.tF
    simp only[rJ,Bool.and_eq_true]
    exact⟨⟨fc.2 (Nat.lt_succ_self _),e1⟩,e2⟩,⟨bR.2 fun z hz=>bR.1 hf.2 z (List.mem_of_mem_take hz),C0.wm⟩⟩)
    (xI Rx fun y hy=>by
     have hy:=Option.some.inj hy
     subst hy
     refine⟨fc.2 (Nat.lt_succ_self _),trivial,?_⟩
     show VP b 0=VP (eM (ρ++[b]) s.m) 0
     rw[hl]) (fun m=>iH (hvs m)) (jg hf.2) (by rw[eL,ed];exact V) H
   refine⟨s2,GN,c1,?_,by have:s.m+1<=s2.m:=c3
                         omega,c4,fun id hid=> ?_,⟨b::y,by rw[c6];simp⟩,c7⟩
   ·rw[ed]at c2
    simp only[lM,dB,Vo,hx,nN]
    rw[<-me]
    exact c2
   ·rw[c5 id (Nat.lt_succ_of_lt hid)]
    exact qR hid
theorem JJ{n:Nat}{a:An}{ws:List Nat}{s:St}{ρ:List Nat}{h:Heap}(C:Cl s ρ h){A:aV}(R:Rel ρ s.m s.E A){J:Ek (MY a s.L)}{Q:St->Prop}{vs:List Value}{h':Heap}(hj:JV a s ρ J vs h')
 (H:vJ _ J fun vs J'=>∀h':Heap,J' h'->bld n a ws vs {s with h:=h'} fun s2=>Vars h' (ke s2.ρ s2.L)->Q s2) (j:Nat->Value):
 ∃s2 GN,Inv s2 GN h'/\Rel GN s2.m s2.E (nN n (mc a.oI++lM a.nv) vs (tL n j ws A))/\Nx s ρ s2 GN/\Q s2:=by
 obtain⟨xs,J0,k1,k2,k3,k4,k5,k6⟩:=hj
 have h1:=kg H k1 h' k2
 unfold bld at h1
 have h2:=tK (A4 h1)
 obtain⟨o1,o2⟩:=E0 (ch:=a.ch) C.tF C.wm (iH (n:=(qf a.oI).length) (k3 s.m)) (jg k4)
 rw[k5,A6 (xJ _ _)]
 obtain⟨s2,GN,c1,c2,c3,c4,c5,c6,c7⟩:=JI (h:=h') (s:={s with h:=h',E:=eI n a.oI xs (EP n ws s.E),L:=l2 a.ch s.L (xs.drop (qf a.oI).length),md:=a.ch++s.md}) (ρ:=ρ) (fun V=>⟨V,C.len,C.r,rfl,C.nw,C.so,C.d,o1,o2⟩) (Nr (A5 (n:=n) (j:=j) (ts:=ws) R) (k3 _) k4) (fun m=>iH (iH (k3 m))) (jg (jg k4)) k6 h2
 exact⟨s2,GN,c1.inv,c2,⟨c3,⟨a.ch,c4,fun id hid hm=>(c5 id hm).trans (Cs hid)⟩,c6⟩,c7 (by rw[c1.r];exact c1.vars)⟩
def Ur(an:Nat->Option An)(p:Nat):Option (List Nat):=
 match an p with
 |some a=>some (mc a.oI++lM a.nv)
 |none=>none
theorem To.up{s0 s:St}{tg ρ:List Nat}{K:St->Prop}{K':aV->Heap->Prop}(N:Nx s0 tg s ρ)(h:To s0 tg K K'):To s ρ K K':=fun s' iV A h' I R N' k=>h s' iV A h' I R (N.trans N') k
theorem Vq{P:Program}{n:Nat}{an:Nat->Option An}:∀(c:Code){p:Nat}{kn:St->Prop}{kx:Nat->St->Prop}{kr:St->Prop}{pJ:aV->Heap->Prop}{rN:Nat->aV->Heap->Prop}{vk:aV->Heap->Prop}{s0 s:St}{tg ρ:List Nat}{A:aV}{h:Heap},Inv s ρ h->Rel ρ s.m s.E A->Nx s0 tg s ρ->
 To s0 tg kn pJ->(∀i,To s0 tg (kx i) (rN i))->To s0 tg kr vk->Hr P n an c p kn kx kr s->B5 P n (Ur an) c p pJ rN vk A h:=by
 intro c
 induction c with
 |skip=>intro p kn kx kr pJ rN vk s0 s tg ρ A h I R N tn tx tr H;exact tn s ρ A h I R N H
 |region id ops draw=>intro p kn kx kr pJ rN vk s0 s tg ρ A h I R N tn tx tr H;exact Vm tn I R N H
 |seq a b QA QB=>
  intro p kn kx kr pJ rN vk s0 s tg ρ A h I R N tn tx tr H
  simp only[Hr]at H
  simp only[B5]
  cases Us:an p with
  |none=>
   rw[Us]at H
   rw[show Ur an p=none by unfold Ur;rw[Us]]
   exact QA I R N (fun s' iV A' h' I' R' N' k=>QB I' R' N' tn tx tr k) tx tr H
  |some a'=>
   rw[Us]at H
   rw[show Ur an p=some (mc a'.oI++lM a'.nv) by unfold Ur;rw[Us]]
   simp only at H⊢
   obtain⟨s1,C,hE,hL,hm,jI,J,H1,H2⟩:=iD I H
   have R1:Rel ρ s1.m s1.E A:=by rw[hE,hm];exact R
   have N1:=N.trans (fD (ρ:=ρ) hm hL jI)
   refine⟨JV a' s1 ρ J,?_,fun tm=>qS fun vs h' hj=> ?_⟩
   ·refine QA C.inv R1 (Nx.refl s1 ρ) (fun s' iV A' h' I' R' N' k=> ?_) (fun i=>(tx i).up N1) (tr.up N1) H1
    obtain⟨s2,C2,hE2,bW,JK,aeG,k2⟩:=iD I' k
    have R2:Rel iV s2.m s2.E A':=by rw[hE2,JK];exact R'
    exact Cu C C2.inv R2 (N'.trans (fD JK bW aeG)) k2 C2.r C2.h
   ·rw[xH,Cq]
    obtain⟨s2,GN,I2,R2,N2,q⟩:=JJ C R1 hj H2 tm
    exact QB I2 R2 (N1.trans N2) tn tx tr q
 |cond c a b QA QB=>
  intro p kn kx kr pJ rN vk s0 s tg ρ A h I R N tn tx tr H
  simp only[Hr]at H
  simp only[B5]
  split at H
  ·rename_i x kn0 hx
   obtain⟨b1,b2⟩:=xC I R hx H
   rw[(ft R hx).2.2]
   refine QT (fun e=> ?_) (fun e=> ?_)
   ·obtain⟨s',I',R',hm,hL,jI,q⟩:=b1 e
    exact QA I' R' (N.trans (fD hm hL jI)) tn tx tr q
   ·obtain⟨s',I',R',hm,hL,jI,q⟩:=b2 e
    exact QB I' R' (N.trans (fD hm hL jI)) tn tx tr q
  ·exact H.elim
 |block id c ih=>
  intro p kn kx kr pJ rN vk s0 s tg ρ A h I R N tn tx tr H
  simp only[Hr]at H
  simp only[B5]
  refine ih I R N tn (fun i s' iV A' h' I' R' N' k=> ?_) tr H
  cases hb:Nat.beq i id with
  |true=>simp only[hb]at k⊢;exact tn s' iV A' h' I' R' N' k
  |false=>simp only[hb]at k⊢;exact tx i s' iV A' h' I' R' N' k
 |loop c ih=>
  intro p kn kx kr pJ rN vk s0 s tg ρ A h I R N tn tx tr H
  simp only[Hr]at H
  simp only[B5]
  cases Us:an p with
  |none=>rw[Us]at H;exact H.elim
  |some a'=>
   rw[Us]at H
   rw[show Ur an p=some (mc a'.oI++lM a'.nv) by unfold Ur;rw[Us]]
   simp only at H⊢
   obtain⟨s1,C,hE,hL,hm,jI,J,⟨n0,H1⟩,H2⟩:=iD I H
   have R1:Rel ρ s1.m s1.E A:=by rw[hE,hm];exact R
   have N1:=N.trans (fD (ρ:=ρ) hm hL jI)
   refine Hj (J:=fun n vs h'=>JV a' s1 ρ (J n) vs h') n0 (Cu C C.inv R1 (Nx.refl s1 ρ) H1 C.r C.h) fun Iv μ hI tm=>qS fun vs h' hi=> ?_
   rw[xH,Cq]
   obtain⟨m0,hj,hn⟩:=hI vs h' hi
   obtain⟨s2,GN,I2,R2,N2,q⟩:=JJ C R1 hj (H2 m0) tm
   refine ih I2 R2 N2 (fun s' iV A' k8 I' R' N' k=> ?_) (fun i=>(tx i).up N1) (tr.up N1) q
   obtain⟨s3,C3,hE3,cF,hm3,aeH,m,tt,k3⟩:=iD I' k
   have R3:Rel iV s3.m s3.E A':=by rw[hE3,hm3];exact R'
   exact hn _ _ ⟨m,tt,Cu C C3.inv R3 (N'.trans (fD hm3 cF aeH)) k3 C3.r C3.h⟩
 |exit id=>intro p kn kx kr pJ rN vk s0 s tg ρ A h I R N tn tx tr H;exact tx id s ρ A h I R N H
 |ret=>intro p kn kx kr pJ rN vk s0 s tg ρ A h I R N tn tx tr H;exact tr s ρ A h I R N H
 |label l=>intro p kn kx kr pJ rN vk s0 s tg ρ A h I R N tn tx tr H;exact tn s ρ A h I R N H
 |_=>intro p kn kx kr pJ rN vk s0 s tg ρ A h I R N tn tx tr H;exact H.elim
def Vr:Lf->Bool
 | .b _ (some _)=>false
 |_=>true
def E2:List Lf->Bool
 |[]=>true
 |x::xs=>Vr x&&E2 xs
def abp:Tv->Bool
 | .v (.l x)=>Vr x
 | .v (.a xs)=>E2 xs
 | .t _=>false
def JL:List Tv->Bool
 |[]=>true
 |x::xs=>abp x&&JL xs
def nkL:List (Nat×List Lf)->Bool
 |[]=>true
 |(_,xs)::L=>E2 xs&&nkL L
theorem JM{x:Lf}(h:Vr x=true):x.fact:=by
 cases x<;>try trivial
 case b x kn=>cases kn with
  |none=>trivial
  |some _=>cases h
theorem xL:∀{xs:List Lf},E2 xs=true->cD xs
 |[],_=>trivial
 |x::xs,h=>by
  simp only[E2,Bool.and_eq_true]at h
  exact⟨JM h.1,xL h.2⟩
theorem Rj{x:Tv}(h:abp x=true):x.fact:=by
 cases x with
 |v x=>cases x with
  |l x=>exact JM h
  |a xs=>exact xL h
 |t xs=>cases h
theorem Nt:∀{L:List (Nat×List Lf)},nkL L=true->oF L
 |[],_=>trivial
 |(i,xs)::L,h=>by
  simp only[nkL,Bool.and_eq_true]at h
  exact⟨xL h.1,Nt h.2⟩
def Nu(args:List Tv)(L:List (Nat×List Lf))(ρ:List Nat):Bool:=ER (iy ρ) args&&(rJ (iy ρ) L&&(JL args&&nkL L))
theorem JN{ρ:List Nat}{m:Nat}:∀{args:List Tv}{i t:Nat}{x:Tv},ER m args=true->JL args=true->qe (Q8.MZ args i) t=some x->x.ok m=true/\x.fact/\lJ (rT (tE ρ args) i) t=x.val ρ
 |[],_,_,_,_,_,h=>by simp[Q8.MZ,qe]at h
 |y::args,i,t,x,h1,h2,h=>by
  simp only[ER,Bool.and_eq_true]at h1
  simp only[JL,Bool.and_eq_true]at h2
  simp only[Q8.MZ,qe]at h
  simp only[tE,rT,lJ]
  cases hb:Nat.beq i t with
  |true=>
   rw[hb]at h
   have h:=Option.some.inj h
   subst h
   exact⟨h1.1,Rj h2.1,rfl⟩
  |false=>rw[hb]at h;exact JN h1.2 h2.2 h
theorem Cv{P:Program}{K:Value->Heap->Prop}:∀{rs:List ResultVar}{acc:List Tv}{s:St}{ρ:List Nat}{A:aV}{h:Heap},Inv s ρ h->Rel ρ s.m s.E A->vK P K rs acc s->B3 P (lJ A) h K rs (tE ρ acc)
 |[],acc,s,ρ,A,h,I,R,H=>by
  simp only[vK]at H
  obtain⟨s',C,_,_,_,_,H⟩:=iD I H
  split at H
  ·rw[C.r,C.h]at H
   exact H
  ·exact H.elim
 | .tmp t::rs,acc,s,ρ,A,h,I,R,H=>by
   simp only[vK]at H
   simp only[B3]
   split at H
   ·rename_i x hx
    have:=Cv I R H
    simp only[tE]at this
    rw[(R.get t x hx).2.2]
    exact this
   ·exact H.elim
 | .cell a t::rs,acc,s,ρ,A,h,I,R,H=>by
   simp only[vK]at H
   simp only[B3]
   split at H
   ·rename_i id off hx
    have hv:lJ A a=VP (eM ρ id) off:=(ft R hx).2.2
    rw[hv]
    split at H
    ·rename_i cs hf
     obtain⟨i,hi,_⟩:=ku (ρ:=ρ) hf
     split at H
     ·rename_i h1
      split at H
      ·rename_i y hy
       have:=Cn (ρ:=ρ) hy
       exact Js h1 I.vars i hi off (v:=y.v ρ) (by simpa using this) (Cv (acc:= .v (.l y)::acc) I R H)
      ·exact H.elim
     ·split at H
      ·rename_i n h2
       split at H
       ·rename_i ys hy
        obtain⟨e1,e2⟩:=tG (ρ:=ρ) hy
        exact EB h2 I.vars i hi off e1 e2 (Cv (acc:= .v (.a ys)::acc) I R H)
       ·exact H.elim
      ·exact H.elim
    ·exact H.elim
   ·exact H.elim
theorem Cw{P:Program}(hm:P.follows .mixedOrders=true){f:FuncId}{fn:Func}{c:Code}(hf:P.funcs[f]?=some fn)(hb:fn.body=some c)(hn:(fn.name== "runtime.NumGoroutine")=false)
 (an:Nat->Option An) {args:List Tv} {L:List (Nat×List Lf)} {ρ:List Nat} {h:Heap} {K:Value->Heap->Prop} (m n:Nat) (hk:fn.ntmps-(tE ρ args).length=m) (ME:(tE ρ args).length+m=n) (rs:List ResultVar) (hr:fn.results.toList=rs)
 (ha:Nu args L ρ=true) (V:Vars h (ke ρ L))
 (H:Hr P n an c 1 (fun s=>vK P K rs [] s) (fun _ _=>False) (fun s=>vK P K rs [] s) (Q8 args L ρ h)):aE P f (tE ρ args).toArray h K:=by
 simp only[Nu,Bool.and_eq_true]at ha
 obtain⟨a1,a2,a3,a4⟩:=ha
 refine B7 hm hf hb hn (Ur an) m n hk ME rs hr ?_
 have C:Cl (Q8 args L ρ h) ρ h:=⟨V,(lu ρ).symm,rfl,rfl,rfl,rfl,rfl,a2,Nt a4⟩
 have R:Rel ρ (Q8 args L ρ h).m (Q8 args L ρ h).E (rT (tE ρ args) 0):=⟨fun t x hx=>JN a1 a3 hx⟩
 have tr:To (Q8 args L ρ h) ρ (fun s=>vK P K rs [] s) (fun A h=>MD P A h K rs):=fun s ρ A h I R _ k=>Cv I R k
 exact Vq c C.inv R (Nx.refl _ _) tr (fun i s ρ A h _ _ _ k=>k.elim) tr H
end Go.Mx
