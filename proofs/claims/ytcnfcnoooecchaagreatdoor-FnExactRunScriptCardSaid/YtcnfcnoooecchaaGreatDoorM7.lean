import Derived.Test.YtcnfcnoooecchaaGreatDoorM6
set_option linter.unusedVariables false
set_option linter.unusedSimpArgs false
set_option linter.constructorNameAsVariable false
namespace Go.Mx
theorem lm:∀l:List Nat,ik l=l.length
 |[]=>rfl
 |_::l=>by simp[ik,lm l]
theorem ke:∀l:List Lf,xq l=l.length
 |[]=>rfl
 |_::l=>by simp[xq,ke l]
theorem fb{a b:Nat}:Nat.blt a b=true↔a<b:=by rw[Nat.blt_eq]
theorem jE:∀(ρ y:List Nat)(i:Nat),i<ρ.length->eM (ρ++y) i=eM ρ i
 |[],_,_,h=>by simp at h
 |_::_,_,0,_=>rfl
 |_::ρ,y,i+1,h=>by simp only[List.cons_append,eM];exact jE ρ y i (by simpa using h)
theorem rT:∀(ρ:List Nat)(b:Nat)(y:List Nat),eM (ρ++b::y) ρ.length=b
 |[],_,_=>rfl
 |_::ρ,b,y=>by simp only[List.cons_append,List.length_cons,eM];exact rT ρ b y
theorem AJ{ρ y:List Nat}:∀{l:List Nat},(∀i,i∈l->i<ρ.length)->vg (ρ++y) l=vg ρ l
 |[],_=>rfl
 |i::l,h=>by simp only[vg];rw[jE _ _ _ (h i (by simp)),AJ fun j hj=>h j (by simp[hj])]
theorem U9{ρ y:List Nat}{c:Cp}(h:MH ρ.length c=true):c.v' (ρ++y)=c.v' ρ:=by
 cases c with
 |p id off=>simp only[Cp.v'];rw[jE _ _ _ (fb.1 h)]
 |v x=>rfl
theorem B7{ρ y:List Nat}:∀{cs:List Cp},nI ρ.length cs=true->Ez (ρ++y) cs=Ez ρ cs
 |[],_=>rfl
 |c::cs,h=>by
  simp only[nI,Bool.and_eq_true]at h
  simp only[Ez];rw[U9 h.1,B7 h.2]
theorem Hh{ρ y:List Nat}{x:Lf}(h:x.ok ρ.length=true):x.v (ρ++y)=x.v ρ:=by
 cases x<;>try rfl
 case p id off=>simp only[Lf.v];rw[jE _ _ _ (fb.1 h)]
 case e x i sz off=>cases off<;>rfl
 case f fn fs cs=>
  simp only[Lf.ok,Bool.and_eq_true]at h
  simp only[Lf.v];rw[B7 h.1,B7 h.2]
theorem gW{ρ y:List Nat}:∀{xs:List Lf},bP ρ.length xs=true->dB (ρ++y) xs=dB ρ xs
 |[],_=>rfl
 |x::xs,h=>by
  simp only[bP,Bool.and_eq_true]at h
  simp only[dB];rw[Hh h.1,gW h.2]
theorem MQ{ρ y:List Nat}{x:Av}(h:x.ok ρ.length=true):x.v (ρ++y)=x.v ρ:=by
 cases x with
 |l x=>exact Hh h
 |a xs=>simp only[Av.v];rw[gW h]
theorem Js{ρ y:List Nat}:∀{xs:List Av},nJ ρ.length xs=true->Ua (ρ++y) xs=Ua ρ xs
 |[],_=>rfl
 |x::xs,h=>by
  simp only[nJ,Bool.and_eq_true]at h
  simp only[Ua];rw[MQ h.1,Js h.2]
theorem B8{ρ y:List Nat}{x:Tv}(h:x.ok ρ.length=true):x.val (ρ++y)=x.val ρ:=by
 cases x with
 |v x=>exact MQ h
 |t xs=>simp only[Tv.val];rw[Js h]
theorem v7{ρ y:List Nat}:∀{L:List (Nat×List Lf)},rB ρ.length L=true->kb (ρ++y) L=kb ρ L
 |[],_=>rfl
 |(i,xs)::L,h=>by
  simp only[rB,Bool.and_eq_true]at h
  simp only[kb];rw[jE _ _ _ (fb.1 h.1.1),gW h.1.2,v7 h.2]
theorem aa7{m n:Nat}{c:Cp}(h:MH m c=true)(hm:m<=n):MH n c=true:=by
 cases c with
 |p id off=>exact fb.2 (Nat.lt_of_lt_of_le (fb.1 h) hm)
 |v x=>rfl
theorem Hj{m n:Nat}(hm:m<=n):∀{cs:List Cp},nI m cs=true->nI n cs=true
 |[],_=>rfl
 |c::cs,h=>by
  simp only[nI,Bool.and_eq_true]at h⊢
  exact⟨aa7 h.1 hm,Hj hm h.2⟩
theorem Uh{m n:Nat}{x:Lf}(h:x.ok m=true)(hm:m<=n):x.ok n=true:=by
 cases x<;>try rfl
 case p id off=>exact fb.2 (Nat.lt_of_lt_of_le (fb.1 h) hm)
 case f fn fs cs=>
  simp only[Lf.ok,Bool.and_eq_true]at h⊢
  exact⟨Hj hm h.1,Hj hm h.2⟩
theorem B9{m n:Nat}(hm:m<=n):∀{xs:List Lf},bP m xs=true->bP n xs=true
 |[],_=>rfl
 |x::xs,h=>by
  simp only[bP,Bool.and_eq_true]at h⊢
  exact⟨Uh h.1 hm,B9 hm h.2⟩
theorem Ui{m n:Nat}{x:Av}(h:x.ok m=true)(hm:m<=n):x.ok n=true:=by
 cases x with
 |l x=>exact Uh h hm
 |a xs=>exact B9 hm h
theorem MS{m n:Nat}(hm:m<=n):∀{xs:List Av},nJ m xs=true->nJ n xs=true
 |[],_=>rfl
 |x::xs,h=>by
  simp only[nJ,Bool.and_eq_true]at h⊢
  exact⟨Ui h.1 hm,MS hm h.2⟩
theorem aa8{m n:Nat}{x:Tv}(h:x.ok m=true)(hm:m<=n):x.ok n=true:=by
 cases x with
 |v x=>exact Ui h hm
 |t xs=>exact MS hm h
theorem QW{m n:Nat}(hm:m<=n):∀{L:List (Nat×List Lf)},rB m L=true->rB n L=true
 |[],_=>rfl
 |(i,xs)::L,h=>by
  simp only[rB,Bool.and_eq_true]at h⊢
  exact⟨⟨fb.2 (Nat.lt_of_lt_of_le (fb.1 h.1.1) hm),B9 hm h.1.2⟩,QW hm h.2⟩
theorem xt{s:Sh}{Q:Lf->Prop}(h:exS s Q):∃x,Q x/\(∀m,x.ok m=true)/\x.fact:=by
 cases s<;>(obtain⟨x,hx⟩:=h;exact⟨_,hx,fun _=>rfl,trivial⟩)
theorem oH:∀{ss:List Sh}{Q:List Lf->Prop},exL ss Q->∃xs,Q xs/\(∀m,bP m xs=true)/\cD xs
 |[],Q,h=>⟨[],h,fun _=>rfl,trivial⟩
 |s::ss,Q,h=>by
  obtain⟨x,h1,h2,h3⟩:=xt h
  obtain⟨xs,h4,h5,h6⟩:=oH h1
  exact⟨x::xs,h4,fun m=>by simp[bP,h2 m,h5 m],h3,h6⟩
theorem EJ{s:As}{Q:Av->Prop}(h:exA s Q):∃x,Q x/\(∀m,x.ok m=true)/\x.fact:=by
 cases s with
 |l s=>obtain⟨x,h1,h2,h3⟩:=xt h;exact⟨.l x,h1,h2,h3⟩
 |a ss=>obtain⟨xs,h1,h2,h3⟩:=oH h;exact⟨.a xs,h1,h2,h3⟩
theorem AK:∀{ss:List As}{Q:List Av->Prop},UZ ss Q->∃xs,Q xs/\(∀m,nJ m xs=true)/\vX xs
 |[],Q,h=>⟨[],h,fun _=>rfl,trivial⟩
 |s::ss,Q,h=>by
  obtain⟨x,h1,h2,h3⟩:=EJ h
  obtain⟨xs,h4,h5,h6⟩:=AK h1
  exact⟨x::xs,h4,fun m=>by simp[nJ,h2 m,h5 m],h3,h6⟩
theorem rU{s:Ts}{Q:Tv->Prop}(h:zK s Q):∃x,Q x/\(∀m,x.ok m=true)/\x.fact:=by
 cases s with
 |v s=>obtain⟨x,h1,h2,h3⟩:=EJ h;exact⟨.v x,h1,h2,h3⟩
 |t ss=>obtain⟨xs,h1,h2,h3⟩:=AK h;exact⟨.t xs,h1,h2,h3⟩
structure Inv(s:St)(ρ:List Nat)(th:Heap):Prop where
 vars:Vars th (kb ρ s.L)
 len:ρ.length=s.m
 ext:∃x:List Nat,ρ=s.ρ++x/\x.length=s.nw/\∀b,b∈x->s.h.size<=b
 fr:Fr (In (vg ρ s.so)) s.h th
 cln:s.d=false->s.nw=0/\s.so=[]/\th=s.h
 so:∀i,i∈s.so->i<s.ρ.length
 tu:rB s.m s.L=true
 wc:oD s.L
structure Cl(s:St)(ρ:List Nat)(th:Heap):Prop where
 vars:Vars th (kb ρ s.L)
 len:ρ.length=s.m
 r:s.ρ=ρ
 h:s.h=th
 nw:s.nw=0
 so:s.so=[]
 d:s.d=false
 tu:rB s.m s.L=true
 wc:oD s.L
theorem Cl.inv{s:St}{ρ:List Nat}{th:Heap}(C:Cl s ρ th):Inv s ρ th:=
 ⟨C.vars,C.len,⟨[],by simp[C.r],by simp[C.nw],by simp⟩,by rw[C.h,C.so];exact Fr.refl _ _,fun _=>⟨C.nw,C.so,C.h.symm⟩,by simp[C.so],C.tu,C.wc⟩
theorem Inv.cl{s:St}{ρ:List Nat}{th:Heap}(I:Inv s ρ th)(hd:s.d=false):Cl s ρ th:=by
 obtain⟨h1,h2,h3⟩:=I.cln hd
 obtain⟨x,e1,e2,_⟩:=I.ext
 have:x=[]:=List.eq_nil_of_length_eq_zero (by omega)
 subst this
 exact⟨I.vars,I.len,by simpa using e1.symm,h3.symm,h1,h2,hd,I.tu,I.wc⟩
structure Rel(ρ:List Nat)(m:Nat)(E:List (Nat×Option Tv))(A:aU):Prop where
 get:∀t x,p9 E t=some x->x.ok m=true/\x.fact/\lG A t=x.val ρ
theorem Rel.ext{ρ y:List Nat}{m n:Nat}{E:List (Nat×Option Tv)}{A:aU}(R:Rel ρ m E A)(hm:ρ.length=m)(hn:m<=n):Rel (ρ++y) n E A:=
 ⟨fun t x h=>by
  obtain⟨h1,h2,h3⟩:=R.get t x h
  exact⟨aa8 h1 hn,h2,by rw[B8 (by rw[hm];exact h1)];exact h3⟩⟩
theorem Jt:∀{n:Nat}{ρ:List Nat}{k:List Nat->Prop},qB n ρ k->∀x:List Nat,x.length=n->k (ρ++x)
 |0,ρ,k,h,x,hx=>by
  obtain rfl:=List.eq_nil_of_length_eq_zero hx
  simpa[qB]using h
 |n+1,ρ,k,h,[],hx=>by simp at hx
 |n+1,ρ,k,h,b::x,hx=>by
  have:=Jt (h b) x (by simpa using hx)
  simpa using this
theorem AL{h:Heap}:∀{l:List Nat}{Q:Prop},U0 h l Q->(∀b,b∈l->h.size<=b)->Q
 |[],Q,H,_=>H
 |b::l,Q,H,hb=>AL (H (hb b (by simp))) fun c hc=>hb c (by simp[hc])
theorem EK:∀(a b:List Nat),QR a (a++b)=b
 |[],b=>rfl
 |_::a,b=>EK a b
theorem iA{s:St}{ρ:List Nat}{th:Heap}{k:St->Prop}(I:Inv s ρ th)(H:sync s k):∃s',Cl s' ρ th/\s'.E=s.E/\s'.L=s.L/\s'.m=s.m/\s'.md=s.md/\k s':=by
 unfold sync at H
 cases hd:s.d with
 |false=>
  rw[hd]at H
  exact⟨s,I.cl hd,rfl,rfl,rfl,rfl,H⟩
 |true=>
  rw[hd]at H
  obtain⟨x,e1,e2,e3⟩:=I.ext
  have h1:=Jt H x e2 th
  rw[<-e1]at h1
  have h2:QR s.ρ ρ=x:=by rw[e1];exact EK _ _
  rw[h2]at h1
  have h3:=AL h1 e3 I.fr I.vars
  exact⟨{s with ρ:=ρ,nw:=0,so:=[],d:=false,h:=th},⟨I.vars,I.len,rfl,rfl,rfl,rfl,rfl,I.tu,I.wc⟩,rfl,rfl,rfl,rfl,h3⟩
theorem MT(ρ:List Nat)(v:Value):(MI v).v ρ=v:=by cases v<;>rfl
theorem Ju(m:Nat)(v:Value):(MI v).ok m=true:=by cases v<;>rfl
theorem AM(v:Value):(MI v).fact:=by cases v<;>first|rfl|trivial
theorem jb{ρ:List Nat}{m:Nat}{E:List (Nat×Option Tv)}{A:aU}(R:Rel ρ m E A){x:Operand}{y:Tv}(h:xl E x=some y):y.ok m=true/\y.fact/\ff A x=y.val ρ:=by
 cases x with
 |tmp t=>exact R.get t y h
 |const v=>
  simp only[xl,Option.some.injEq]at h
  subst h
  exact⟨Ju m v,AM v,(MT ρ v).symm⟩
 |global g=>
  simp only[xl,Option.some.injEq]at h
  subst h
  exact⟨rfl,trivial,rfl⟩
 |func f=>
  simp only[xl,Option.some.injEq]at h
  subst h
  exact⟨rfl,trivial,rfl⟩
theorem fq{ρ:List Nat}{m:Nat}{E:List (Nat×Option Tv)}{A:aU}(R:Rel ρ m E A){x:Operand}{y:Lf}(h:lf E x=some y):y.ok m=true/\y.fact/\ff A x=y.v ρ:=by
 unfold lf at h
 split at h
 ·rename_i z hz
  have h:=Option.some.inj h
  subst h
  exact jb R hz
 ·cases h
theorem lq{s:St}{ρ:List Nat}{th:Heap}{A:aU}(I:Inv s ρ th)(R:Rel ρ s.m s.E A):∀{l:List Operand},Hc (ik s.ρ) s.E l=true->∀x,x∈l->ff A x=Ea s.ρ s.E x
 |[],_,x,hx=>by simp at hx
 |y::l,h,x,hx=>by
  simp only[Hc,Bool.and_eq_true]at h
  rcases List.mem_cons.1 hx with rfl|hx
  ·cases hy:xl s.E x with
   |none=>rw[hy]at h;simp at h
   |some z=>
    rw[hy]at h
    obtain⟨e,e1,_,_⟩:=I.ext
    rw[(jb R hy).2.2]
    unfold Ea
    rw[hy,e1]
    exact B8 (by rw[<-lm];exact h.1)
  ·exact lq I R h.2 x hx
structure Nx(s:St)(ρ:List Nat)(s':St)(iS:List Nat):Prop where
 m:s.m<=s'.m
 md:∃new,s'.md=new++s.md/\∀id,eH new id=false->id<s.m->cE s'.L id=cE s.L id
 r:∃y,iS=ρ++y
theorem fC{s s':St}{ρ:List Nat}(hm:s'.m=s.m)(hL:s'.L=s.L)(jF:s'.md=s.md):Nx s ρ s' ρ:=⟨by omega,⟨[],by simp[jF],fun _ _ _=>by rw[hL]⟩,⟨[],by simp⟩⟩
theorem Nx.refl(s:St)(ρ:List Nat):Nx s ρ s ρ:=fC rfl rfl rfl
theorem EL:∀{a b:List Nat}{i:Nat},eH (a++b) i=(eH a i||eH b i)
 |[],b,i=>rfl
 |x::a,b,i=>by simp only[List.cons_append,eH];rw[EL,Bool.or_assoc]
theorem Nx.trans{s1 s2 s3:St}{ρ1 GC ρ3:List Nat}(h:Nx s1 ρ1 s2 GC)(k:Nx s2 GC s3 ρ3):Nx s1 ρ1 s3 ρ3:=by
 obtain⟨m1,⟨n1,a1,b1⟩,⟨y1,c1⟩⟩:=h
 obtain⟨m2,⟨n2,a2,b2⟩,⟨y2,c2⟩⟩:=k
 refine⟨by omega,⟨n2++n1,by rw[a2,a1,List.append_assoc],fun id hid hm=> ?_⟩,⟨y1++y2,by rw[c2,c1,List.append_assoc]⟩⟩
 rw[EL,Bool.or_eq_false_iff]at hid
 rw[b2 id hid.1 (by omega),b1 id hid.2 hm]
def iB(A:aU)(s:St)(ρ:List Nat)(k:St->Tv->Prop)(v:Value)(h':Heap):Prop:=
 ∃s' x iS,Inv s' iS h'/\Rel iS s'.m s'.E A/\v=x.val iS/\x.ok s'.m=true/\x.fact/\Nx s ρ s' iS/\k s' x
theorem bC{A:aU}{s:St}{ρ:List Nat}{k:St->Tv->Prop}{h:Heap}{x:Tv}{v:Value}(I:Inv s ρ h)(R:Rel ρ s.m s.E A)(hv:v=x.val ρ)(ho:x.ok s.m=true)(hf:x.fact)(hk:k s x):iB A s ρ k v h:=
 ⟨s,x,ρ,I,R,hv,ho,hf,Nx.refl _ _,hk⟩
theorem iC{A:aU}{s s':St}{ρ:List Nat}{k:St->Tv->Prop}{h:Heap}{x:Tv}{v:Value}(I:Inv s' ρ h)(R:Rel ρ s'.m s'.E A)(N:Nx s ρ s' ρ)(hv:v=x.val ρ)(ho:x.ok s'.m=true)(hf:x.fact)(hk:k s' x):iB A s ρ k v h:=
 ⟨s',x,ρ,I,R,hv,ho,hf,N,hk⟩
theorem cL{P:Program}{e:Operand->Value}{op:Op}{ty:TypeId}{h:Heap}{K:Value->Heap->Prop}{q:Sem Value}(h1:gu op=none)(h2:kz op=none)(h3:jA e ty op=some q)(H:pop P q fun v=>K v h):fi P e op ty h K:=by
 unfold fi;simp only[h1,h2,h3];exact H
theorem iD{P:Program}{A:aU}{s:St}{ρ:List Nat}{h:Heap}{op:Op}{ty:TypeId}{rt:Option Ts}{k:St->Tv->Prop}(I:Inv s ρ h)(R:Rel ρ s.m s.E A)(H:lI P s op ty rt k):fi P (ff A) op ty h (iB A s ρ k):=by
 unfold lI at H
 cases h1:gu op with
 |some x=>rw[h1]at H;exact H.elim
 |none=>
 cases h2:kz op with
 |some x=>rw[h1,h2]at H;exact H.elim
 |none=>
 rw[h1,h2]at H
 simp only at H
 cases h3:jA fk 0 op with
 |some q0=>
  rw[h3]at H
  simp only at H
  split at H
  ·rename_i hd
   have hc:jA (ff A) ty op=jA (Ea s.ρ s.E) ty op:=qG fun x hx=>lq I R hd x (by simpa using hx)
   split at H
   ·rename_i q hq
    refine cL h1 h2 (by rw[hc];exact hq) (H.mono fun rv hr=> ?_)
    unfold exR at hr
    cases rt with
    |none=>exact bC (x:= .v (.l (.r rv))) I R rfl rfl trivial hr
    |some t=>
     obtain⟨x,⟨e1,e2⟩,e3,e4⟩:=rU hr
     obtain⟨z,e5,_,_⟩:=I.ext
     exact bC I R (by rw[e1,e5,B8 (e3 _)]) (e3 _) e4 e2
   ·exact H.elim
  ·exact H.elim
 |none=>
  rw[h3]at H
  simp only at H
  obtain⟨s',C,hE,hL,hm,jF,H⟩:=iA I H
  have I':=C.inv
  have R':Rel ρ s'.m s'.E A:=by rw[hE,hm];exact R
  have hp:∀e,jA e ty op=none:=fun e=>by
   have:=ld fk e 0 ty op
   rw[h3]at this
   cases hh:jA e ty op with
   |none=>rfl
   |some _=>rw[hh]at this;cases this
  split at H
  ·rename_i hd
   have hcr:nR (ff A) op=nR (Ea s'.ρ s'.E) op:=mR fun x hx=>lq I' R' hd x (by simpa using hx)
   have hce:Ed (ff A) ty op=Ed (Ea s'.ρ s'.E) ty op:=wL fun x hx=>lq I' R' hd x (by simpa using hx)
   have hcu:Ee (ff A) op=Ee (Ea s'.ρ s'.E) op:=wM fun x hx=>lq I' R' hd x (by simpa using hx)
   unfold fi
   simp only[h1,h2,hp,hcr,hce,hcu]
   split at H
   ·rename_i q hq
    simp only[hq]
    rw[<-C.h]
    refine H.mono fun rv hr=> ?_
    unfold exR at hr
    cases rt with
    |none=>rw[C.h];exact iC (x:= .v (.l (.r rv))) I' R' (fC hm hL jF) rfl rfl trivial hr
    |some t=>
     obtain⟨x,⟨e1,e2⟩,e3,e4⟩:=rU hr
     rw[C.h]
     exact iC I' R' (fC hm hL jF) (by rw[e1,C.r]) (e3 _) e4 e2
   ·rename_i hq
    simp only[hq]
    split at H
    ·rename_i q gI
     simp only[gI]
     rw[<-C.h]
     refine H.mono fun rv h' hr=> ?_
     unfold lI.aa2 at hr
     cases rt with
     |none=>
      obtain⟨e2,e5⟩:=hr
      rw[C.r]at e2
      have C':Cl {s' with h:=h'} ρ h':=⟨e2,C.len,C.r,rfl,C.nw,C.so,C.d,C.tu,C.wc⟩
      exact iC (s':={s' with h:=h'}) (x:= .v (.l (.r rv))) C'.inv R' (fC hm hL jF) rfl rfl trivial e5
     |some t=>
      obtain⟨x,⟨e1,e2,e5⟩,e3,e4⟩:=rU hr
      rw[C.r]at e2
      have C':Cl {s' with h:=h'} ρ h':=⟨e2,C.len,C.r,rfl,C.nw,C.so,C.d,C.tu,C.wc⟩
      exact iC (s':={s' with h:=h'}) C'.inv R' (fC hm hL jF) (by rw[e1,C.r]) (e3 _) e4 e5
    ·rename_i gI
     simp only[gI]
     split at H
     ·rename_i q hq3
      simp only[hq3]
      rw[<-C.h]
      refine⟨fun w hw=> ?_⟩
      obtain⟨w',a1,a2,a3,a4⟩:=H.out w hw
      rw[C.r]at a3
      have C':Cl {s' with h:=w'.heap} ρ w'.heap:=⟨a3,C.len,C.r,rfl,C.nw,C.so,C.d,C.tu,C.wc⟩
      exact⟨w',a1,a2,iC (s':={s' with h:=w'.heap}) (x:= .v (.l .u)) C'.inv R' (fC hm hL jF) rfl rfl trivial a4⟩
     ·exact H.elim
  ·exact H.elim
theorem mZ{ids:List Nat}:∀{L:List (Nat×List Lf)}{Q:List (Nat×List Lf)->Prop},pM ids L Q->∃L',Q L'/\(∀m,rB m L=true->rB m L'=true)/\(oD L->oD L')/\∀id,eH ids id=false->cE L' id=cE L id
 |[],Q,h=>⟨[],h,fun _ h=>h,fun h=>h,fun _ _=>rfl⟩
 |(i,xs)::L,Q,h=>by
  unfold pM at h
  cases hi:eH ids i with
  |true=>
   rw[hi]at h
   obtain⟨ys,h1,h2,h3⟩:=oH h
   obtain⟨L',h4,h5,h6,h7⟩:=mZ h1
   refine⟨(i,ys)::L',h4,fun m hm=> ?_,fun hf=>⟨h3,h6 hf.2⟩,fun id hid=> ?_⟩
   ·simp only[rB,Bool.and_eq_true]at hm⊢
    exact⟨⟨hm.1.1,h2 m⟩,h5 m hm.2⟩
   ·unfold cE
    cases hb:Nat.beq i id with
    |true=>have:=Nat.eq_of_beq_eq_true hb;subst this;rw[hi]at hid;cases hid
    |false=>exact h7 id hid
  |false=>
   rw[hi]at h
   obtain⟨L',h4,h5,h6,h7⟩:=mZ h
   refine⟨(i,xs)::L',h4,fun m hm=> ?_,fun hf=>⟨hf.1,h6 hf.2⟩,fun id hid=> ?_⟩
   ·simp only[rB,Bool.and_eq_true]at hm⊢
    exact⟨hm.1,h5 m hm.2⟩
   ·unfold cE
    cases Nat.beq i id with
    |true=>rfl
    |false=>exact h7 id hid
theorem QX{P:Program}{A:aU}{s:St}{ρ:List Nat}{h:Heap}{f:Operand}{args:List Operand}{ty:TypeId}{k:St->Tv->Prop}(I:Inv s ρ h)(R:Rel ρ s.m s.E A)(H:ML P s f args ty k):fA P (ff A f) (mN (ff A) args) h (iB A s ρ k):=by
 unfold ML at H
 obtain⟨s',C,hE,hL,hm,jF,H⟩:=iA I H
 have I':=C.inv
 have R':Rel ρ s'.m s'.E A:=by rw[hE,hm];exact R
 split at H
 ·exact H.elim
 ·rename_i hd
  have hf:=lq I' R' hd f (by simp)
  have ha:mN (ff A) args=mN (Ea s'.ρ s'.E) args:=iY args fun x hx=>lq I' R' hd x (by simp[hx])
  have key:∀rv h',(pM (gy s'.E (args++[f])) s'.L fun L'=>match fG P ty with
   |some t=>zK t fun x=>rv=x.val s'.ρ/\Vars h' (kb s'.ρ L')/\k {s' with L:=L',md:=gy s'.E (args++[f])++s'.md,h:=h'} x
   |none=>Vars h' (kb s'.ρ L')/\k {s' with L:=L',md:=gy s'.E (args++[f])++s'.md,h:=h'} (.v (.l (.r rv))))->iB A s ρ k rv h':=fun rv h' hq=>by
   obtain⟨L',q1,q2,q3,q4⟩:=mZ hq
   have fin:∀x:Tv,Vars h' (kb s'.ρ L')->rv=x.val ρ->(∀m,x.ok m=true)->x.fact->k {s' with L:=L',md:=gy s'.E (args++[f])++s'.md,h:=h'} x->iB A s ρ k rv h':=fun x v1 v2 v3 v4 v5=>by
    rw[C.r]at v1
    have C':Cl {s' with L:=L',md:=gy s'.E (args++[f])++s'.md,h:=h'} ρ h':=⟨v1,C.len,C.r,rfl,C.nw,C.so,C.d,q2 _ C.tu,q3 C.wc⟩
    exact iC (s':={s' with L:=L',md:=gy s'.E (args++[f])++s'.md,h:=h'}) C'.inv R' ((fC hm hL jF).trans ⟨Nat.le_refl _,⟨gy s'.E (args++[f]),rfl,fun id hid _=>q4 id hid⟩,⟨[],by simp⟩⟩) v2 (v3 _) v4 v5
   split at q1
   ·obtain⟨x,⟨e1,e2,e5⟩,e3,e4⟩:=rU q1
    exact fin x e2 (by rw[e1,C.r]) e3 e4 e5
   ·exact fin (.v (.l (.r rv))) q1.1 rfl (fun _=>rfl) trivial q1.2
  rw[hf,ha,<-C.h]
  cases f with
  |func n=>
   show aE P n ((#[]:Array Value).toList++mN (Ea s'.ρ s'.E) args++(#[]:Array Value).toList).toArray s'.h _
   rw[show((#[]:Array Value).toList++mN (Ea s'.ρ s'.E) args++(#[]:Array Value).toList:List Value)=mN (Ea s'.ρ s'.E) args by simp]
   exact qD (fun rv h' hq=>key rv h' hq) H
  |tmp t=>exact kA (fun rv h' hq=>key rv h' hq) H
  |const v=>exact kA (fun rv h' hq=>key rv h' hq) H
  |global g=>exact kA (fun rv h' hq=>key rv h' hq) H
theorem EM{ρ:List Nat}{m:Nat}{E:List (Nat×Option Tv)}{A:aU}(R:Rel ρ m E A){c:Operand}{x:Bool}{kn:Option (Bool×Bool)}(hc:lf E c=some (.b x kn)){v:Bool}(hx:x=v):Rel ρ m (flag E c v) A:=by
 unfold flag
 split
 ·rename_i t
  split
  ·rename_i y pG hy
   have hy':lf E (.tmp t)=some (.b y pG):=by unfold lf xl;simp only[hy]
   rw[hc]at hy'
   simp only[Option.some.injEq,Lf.b.injEq]at hy'
   obtain⟨rfl,rfl⟩:=hy'
   refine⟨fun t' z hz=> ?_⟩
   unfold p9 at hz
   cases hb:Nat.beq t t' with
   |true=>
    rw[hb]at hz
    simp only[Option.some.injEq]at hz
    subst hz
    have:=Nat.eq_of_beq_eq_true hb
    subst this
    exact⟨rfl,hx,(R.get t _ hy).2.2⟩
   |false=>rw[hb]at hz;exact R.get t' z hz
  ·exact R
 ·exact R
theorem xu{s:St}{ρ:List Nat}{h:Heap}{A:aU}{c:Operand}{x:Bool}{kn:Option (Bool×Bool)}{yes no:St->Prop}(I:Inv s ρ h)(R:Rel ρ s.m s.E A)(hc:lf s.E c=some (.b x kn))(H:brB x kn s c yes no):
 (x=true->∃s',Inv s' ρ h/\Rel ρ s'.m s'.E A/\s'.m=s.m/\s'.L=s.L/\s'.md=s.md/\yes s')/\(x=false->∃s',Inv s' ρ h/\Rel ρ s'.m s'.E A/\s'.m=s.m/\s'.L=s.L/\s'.md=s.md/\no s'):=by
 have hf:=(fq R hc).2.1
 unfold brB at H
 split at H
 ·rename_i l
  have hx:x=true:=hf
  exact⟨fun _=>⟨s,I,R,rfl,rfl,rfl,H⟩,fun e=>(by rw[hx]at e;cases e)⟩
 ·rename_i l
  have hx:x=false:=hf
  exact⟨fun e=>(by rw[hx]at e;cases e),fun _=>⟨s,I,R,rfl,rfl,rfl,H⟩⟩
 ·have I':∀v,Inv {s with E:=flag s.E c v} ρ h:=fun v=>⟨I.vars,I.len,I.ext,I.fr,I.cln,I.so,I.tu,I.wc⟩
  exact⟨fun e=>⟨_,I' true,EM R hc e,rfl,rfl,rfl,H.1 e⟩,fun e=>⟨_,I' false,EM R hc e,rfl,rfl,rfl,H.2 e⟩⟩
theorem we:∀{cs:List Lf}{o n:Nat}{ys:List Lf},kZ cs o n=some ys->ys=(cs.drop o).take n/\ys.length=n
 |cs,0,0,ys,h=>by
  simp only[kZ,Option.some.injEq]at h
  subst h
  simp
 |x::xs,0,n+1,ys,h=>by
  simp only[kZ]at h
  split at h
  ·rename_i r hr
   have h:=Option.some.inj h
   subst h
   obtain⟨e1,e2⟩:=we hr
   simp only[List.drop_zero]at e1
   simp[<-e1,e2]
  ·cases h
 |x::xs,o+1,n,ys,h=>by
  simp only[kZ]at h
  obtain⟨e1,e2⟩:=we h
  exact⟨by rw[e1];rfl,e2⟩
 |[],o+1,n,ys,h=>by cases n<;>simp[kZ]at h
 |[],0,n+1,ys,h=>by simp[kZ]at h
theorem eC(ρ:List Nat):∀xs:List Lf,dB ρ xs=xs.map (Lf.v ρ)
 |[]=>rfl
 |x::xs=>by simp[dB,eC ρ xs]
theorem tz{ρ:List Nat}{cs:List Lf}{o n:Nat}{ys:List Lf}(h:kZ cs o n=some ys):GV (dB ρ cs) o n=dB ρ ys/\(dB ρ ys).length=n:=by
 obtain⟨e1,e2⟩:=we h
 rw[mW,eC,eC,e1,List.map_take,List.map_drop]
 refine⟨rfl,?_⟩
 rw[<-List.map_drop,<-List.map_take,List.length_map,<-e1,e2]
theorem cO{m:Nat}:∀{xs:List Lf},bP m xs=true↔∀x,x∈xs->x.ok m=true
 |[]=>by simp[bP]
 |x::xs=>by simp[bP,cO (xs:=xs)]
theorem bQ:∀{xs:List Lf},cD xs↔∀x,x∈xs->x.fact
 |[]=>by simp[cD]
 |x::xs=>by simp[cD,bQ (xs:=xs)]
theorem pN{m:Nat}{cs:List Lf}{o n:Nat}{ys:List Lf}(h:kZ cs o n=some ys)(hc:bP m cs=true)(hf:cD cs):bP m ys=true/\cD ys:=by
 obtain⟨e1,_⟩:=we h
 have hm:∀x,x∈ys->x∈cs:=fun x hx=>by rw[e1]at hx;exact List.mem_of_mem_drop (List.mem_of_mem_take hx)
 exact⟨cO.2 fun x hx=>cO.1 hc x (hm x hx),bQ.2 fun x hx=>bQ.1 hf x (hm x hx)⟩
theorem kH{m:Nat}:∀{L:List (Nat×List Lf)}{id:Nat}{cs:List Lf},cE L id=some cs->rB m L=true->oD L->id<m/\bP m cs=true/\cD cs
 |[],id,cs,h,_,_=>by simp[cE]at h
 |(i,xs)::L,id,cs,h,ho,hf=>by
  simp only[rB,Bool.and_eq_true]at ho
  unfold cE at h
  cases hb:Nat.beq i id with
  |true=>
   rw[hb]at h
   have h:=Option.some.inj h
   subst h
   have:=Nat.eq_of_beq_eq_true hb
   subst this
   exact⟨fb.1 ho.1.1,ho.1.2,hf.1⟩
  |false=>rw[hb]at h;exact kH h ho.2 hf.2
theorem ks{ρ:List Nat}:∀{L:List (Nat×List Lf)}{id:Nat}{cs:List Lf},cE L id=some cs->∃i,jR (kb ρ L) i=some (eM ρ id,dB ρ cs)/\∀lH,Ep (kb ρ L) i (dB ρ lH)=kb ρ (vD L id lH)
 |[],id,cs,h=>by simp[cE]at h
 |(j,xs)::L,id,cs,h=>by
  unfold cE at h
  unfold vD
  cases hb:Nat.beq j id with
  |true=>
   rw[hb]at h
   have h:=Option.some.inj h
   subst h
   have:=Nat.eq_of_beq_eq_true hb
   subst this
   exact⟨0,rfl,fun _=>rfl⟩
  |false=>
   rw[hb]at h
   obtain⟨i,h1,h2⟩:=ks (ρ:=ρ) h
   exact⟨i+1,h1,fun lH=>by simp only[kb,Ep];rw[h2]⟩
theorem AN:∀{L:List (Nat×List Lf)}{id:Nat}{cs ys:List Lf},cE L id=some cs->∀j,cE (vD L id ys) j=if id=j then some ys else cE L j
 |[],id,cs,ys,h,j=>by simp[cE]at h
 |(i,xs)::L,id,cs,ys,h,j=>by
  unfold cE at h
  unfold vD
  cases hb:Nat.beq i id with
  |true=>
   have:=Nat.eq_of_beq_eq_true hb
   subst this
   simp only[cE]
   cases hj:Nat.beq i j with
   |true=>rw[if_pos (Nat.eq_of_beq_eq_true hj)]
   |false=>rw[if_neg (fun e=>by subst e;simp at hj)]
  |false=>
   rw[hb]at h
   simp only[cE]
   cases hj:Nat.beq i j with
   |true=>
    have:=Nat.eq_of_beq_eq_true hj
    subst this
    rw[if_neg (fun e=>by subst e;simp at hb)]
   |false=>exact AN h j
theorem Jv{m:Nat}:∀{L:List (Nat×List Lf)}{id:Nat}{ys:List Lf},rB m L=true->oD L->bP m ys=true->cD ys->rB m (vD L id ys)=true/\oD (vD L id ys)
 |[],id,ys,_,_,_,_=>⟨rfl,trivial⟩
 |(i,xs)::L,id,ys,ho,hf,h1,h2=>by
  simp only[rB,Bool.and_eq_true]at ho
  unfold vD
  cases Nat.beq i id with
  |true=>exact⟨by simp[rB,ho.1.1,h1,ho.2],h2,hf.2⟩
  |false=>
   obtain⟨a,b⟩:=Jv (id:=id) ho.2 hf.2 h1 h2
   exact⟨by simp[rB,ho.1.1,ho.1.2,a],hf.1,b⟩
theorem QY{P:Program}{A:aU}{s:St}{ρ:List Nat}{h:Heap}{t:TypeId}{x:Operand}{k:St->Tv->Prop}{raw:Prop}(I:Inv s ρ h)(R:Rel ρ s.m s.E A)(H:loadT P s t (lf s.E x) k raw)(hr:raw->zN P (Instr.loadAt t (ff A x)) h fun v=>iB A s ρ k v h):zN P (Instr.loadAt t (ff A x)) h fun v=>iB A s ρ k v h:=by
 unfold loadT at H
 split at H
 ·rename_i id off hx
  have hv:=(fq R hx).2.2
  rw[hv]
  split at H
  ·rename_i cs hf
   obtain⟨o1,o2,o3⟩:=kH hf I.tu I.wc
   obtain⟨i,hi,_⟩:=ks (ρ:=ρ) hf
   split at H
   ·rename_i h1
    split at H
    ·rename_i y hy
     obtain⟨c1,c2⟩:=pN hy o2 o3
     obtain⟨e1,e2⟩:=tz (ρ:=ρ) hy
     refine Jj h1 I.vars i hi off (v:=y.v ρ) ?_ (bC (x:= .v (.l y)) I R rfl (cO.1 c1 y (by simp)) (bQ.1 c2 y (by simp)) H)
     rw[mW]at e1
     have:=congrArg (·[0]?) e1
     simpa[dB,List.getElem?_take,List.getElem?_drop]using this
    ·exact H.elim
   ·rename_i h1
    split at H
    ·rename_i n h2
     split at H
     ·rename_i ys hy
      obtain⟨c1,c2⟩:=pN hy o2 o3
      obtain⟨e1,e2⟩:=tz (ρ:=ρ) hy
      exact Es h2 I.vars i hi off e1 e2 (bC (x:= .v (.a ys)) I R rfl c1 c2 H)
     ·exact H.elim
    ·exact H.elim
  ·exact H.elim
 ·rename_i z j sz off hx
  have hv:=(fq R hx).2.2
  have ha:ff A x= .pointer (some (loadT.P5 z j sz off)):=by rw[hv];cases off<;>rfl
  rw[ha]
  obtain⟨s',C,hE,hL,hm,jF,H⟩:=iA I H
  have R':Rel ρ s'.m s'.E A:=by rw[hE,hm];exact R
  split at H
  ·rename_i h1
   split at H
   ·rename_i sh hs
    obtain⟨y,⟨e1,e2⟩,e3,e4⟩:=xt H
    rw[C.h]at e1
    rw[C.r]at e1
    exact Jh h1 (y.v ρ) e1 (iC (x:= .v (.l y)) C.inv R' (fC hm hL jF) rfl (e3 _) e4 e2)
   ·exact H.elim
  ·split at H
   ·rename_i n ss h2 _
    obtain⟨ys,e1,e3,e4⟩:=oH H
    split at e1
    ·rename_i hn
     obtain⟨e1,e2⟩:=e1
     rw[C.h,C.r]at e1
     have hlen:(dB ρ ys).length=n:=by rw[eC,List.length_map,<-ke];exact Nat.eq_of_beq_eq_true hn
     exact Ji h2 (dB ρ ys) hlen e1 (iC (x:= .v (.a ys)) C.inv R' (fC hm hL jF) rfl (e3 _) e4 e2)
    ·exact e1.elim
   ·exact H.elim
 ·exact hr H
theorem tA{ρ:List Nat}{x:Lf}(h:vY x=true):fp (x.v ρ)=true:=by
 cases x<;>try rfl
 case e x i sz off=>cases off<;>rfl
 case r v=>exact h
 case u=>cases h
theorem xv{ρ:List Nat}:∀{xs:List Lf},rO xs=true->(dB ρ xs).all fp=true
 |[],_=>rfl
 |x::xs,h=>by
  simp only[rO,Bool.and_eq_true]at h
  simp only[dB,List.all_cons,Bool.and_eq_true]
  exact⟨tA h.1,xv h.2⟩
theorem Ca{ρ:List Nat}{w:Tv}{vs:List Lf}(h:xm w=some vs):(w.val ρ).cells=(dB ρ vs).toArray/\(dB ρ vs).all fp=true:=by
 unfold xm at h
 split at h
 ·rename_i x
  split at h
  ·rename_i hp
   have h:=Option.some.inj h
   subst h
   have h1:=tA (ρ:=ρ) hp
   exact⟨(oz h1).1,by simp[dB,h1]⟩
  ·cases h
 ·rename_i xs
  split at h
  ·rename_i hp
   have h:=Option.some.inj h
   subst h
   exact⟨rfl,xv hp⟩
  ·cases h
 ·cases h
theorem xx{m:Nat}{w:Tv}{vs:List Lf}(h:xm w=some vs)(ho:w.ok m=true)(hf:w.fact):bP m vs=true/\cD vs:=by
 unfold xm at h
 split at h
 ·split at h
  ·have h:=Option.some.inj h
   subst h
   have ho:Lf.ok m _=true:=ho
   exact⟨by simp[bP,ho],hf,trivial⟩
  ·cases h
 ·split at h
  ·have h:=Option.some.inj h
   subst h
   exact⟨ho,hf⟩
  ·cases h
 ·cases h
theorem pO{ρ:List Nat}{m:Nat}:∀{cs:List Lf}{o:Nat}{vs lH:List Lf},ju cs o vs=some lH->dB ρ lH=iZ (dB ρ cs) o (dB ρ vs)/\o+vs.length<=cs.length/\(bP m cs=true->bP m vs=true->bP m lH=true)/\(cD cs->cD vs->cD lH)
 |cs,0,[],lH,h=>by
  have:cs=lH:=by cases cs<;>simpa[ju]using h
  subst this
  exact⟨by cases cs<;>rfl,by simp,fun h _=>h,fun h _=>h⟩
 |c::cs,0,v::vs,lH,h=>by
  simp only[ju]at h
  split at h
  ·rename_i r hr
   have h:=Option.some.inj h
   subst h
   obtain⟨e1,e2,e3,e4⟩:=pO (ρ:=ρ) (m:=m) hr
   refine⟨by simp only[dB,iZ];rw[e1],by simp only[List.length_cons];omega,fun a b=> ?_,fun a b=>⟨b.1,e4 a.2 b.2⟩⟩
   simp only[bP,Bool.and_eq_true]at a b⊢
   exact⟨b.1,e3 a.2 b.2⟩
  ·cases h
 |c::cs,o+1,vs,lH,h=>by
  simp only[ju]at h
  split at h
  ·rename_i r hr
   have h:=Option.some.inj h
   subst h
   obtain⟨e1,e2,e3,e4⟩:=pO (ρ:=ρ) (m:=m) hr
   refine⟨?_,by simp only[List.length_cons];omega,fun a b=> ?_,fun a b=>⟨a.1,e4 a.2 b⟩⟩
   ·simp only[dB]
    rw[e1]
    cases vs with
    |nil=>
     cases hh:dB ρ cs<;>simp[dB,iZ]
    |cons v vs=>simp only[dB,iZ]
   ·simp only[bP,Bool.and_eq_true]at a⊢
    exact⟨a.1,e3 a.2 b⟩
  ·cases h
 |[],o+1,vs,lH,h=>by simp[ju]at h
 |[],0,v::vs,lH,h=>by simp[ju]at h
theorem MU{ρ y:List Nat}{i:Nat}(h1:ρ.length<=i)(h2:i<(ρ++y).length):eM (ρ++y) i∈y:=by
 induction ρ generalizing i with
 |nil=>
  simp only[List.nil_append]at h2⊢
  induction y generalizing i with
  |nil=>simp at h2
  |cons b y ih=>
   cases i with
   |zero=>simp[eM]
   |succ i=>simp only[eM];exact List.mem_cons_of_mem _ (ih (by simp) (by simpa using h2))
 |cons b ρ ih=>
  cases i with
  |zero=>simp at h1
  |succ i=>
   simp only[List.cons_append,eM]
   exact ih (by simpa using h1) (by simpa using h2)
theorem MV{P:Program}{A:aU}{s:St}{ρ:List Nat}{h:Heap}{t:TypeId}{x v:Operand}{k:St->Tv->Prop}{raw:Prop}(I:Inv s ρ h)(R:Rel ρ s.m s.E A)(H:storeT P s t (lf s.E x) (xl s.E v) k raw)
 (hr:raw->Aj P (Instr.storeAt t (ff A x) (ff A v)) h (iB A s ρ k)):Aj P (Instr.storeAt t (ff A x) (ff A v)) h (iB A s ρ k):=by
 unfold storeT at H
 split at H
 ·rename_i id off hx
  have hv:=(fq R hx).2.2
  rw[hv]
  split at H
  ·rename_i cs w hf hw
   obtain⟨w1,w2,w3⟩:=jb R hw
   rw[w3]
   obtain⟨o1,o2,o3⟩:=kH hf I.tu I.wc
   obtain⟨i,hi,cK⟩:=ks (ρ:=ρ) hf
   split at H
   ·rename_i vs n L7 qv
    obtain⟨f1,f2⟩:=Ca (ρ:=ρ) L7
    obtain⟨g1,g2⟩:=xx L7 w1 w2
    split at H
    ·rename_i hn
     split at H
     ·rename_i lH Mz
      obtain⟨e1,e2,e3,e4⟩:=pO (ρ:=ρ) (m:=s.m) Mz
      have hl:(dB ρ vs).length=n:=by rw[eC,List.length_map,<-ke];exact Nat.eq_of_beq_eq_true hn
      refine QL qv I.vars i hi off (dB ρ vs) f1 hl f2 (by rw[eC,eC,List.length_map,List.length_map];exact e2) (L':=kb ρ (vD s.L id lH)) (by rw[<-e1];exact cK lH) fun h1 fr1 V1=> ?_
      obtain⟨p1,p2⟩:=Jv (id:=id) I.tu I.wc (e3 o2 g1) (e4 o3 g2)
      obtain⟨y,y1,y2,y3⟩:=I.ext
      have I1:Inv {s with L:=vD s.L id lH,so:=(match Nat.blt id (ik s.ρ)with|true=>id::s.so|false=>s.so),md:=id::s.md,d:=true} ρ h1:=by
       refine⟨V1,I.len,I.ext,?_,(fun e=>by cases e),?_,p1,p2⟩
       ·show Fr (In (vg ρ (match Nat.blt id (ik s.ρ)with|true=>id::s.so|false=>s.so))) s.h h1
        cases hb:Nat.blt id (ik s.ρ)with
        |true=>exact Fr.rN I.fr fr1
        |false=>
         have hge:s.ρ.length<=id:=by
          rw[<-lm]
          exact Nat.le_of_not_lt fun tf=>by rw[<-Nat.blt_eq]at tf;rw[hb]at tf;cases tf
         have Vb:=MU (y:=y) hge (by rw[<-y1,I.len];exact o1)
         rw[<-y1]at Vb
         exact Fr.new I.fr (y3 _ Vb) fr1
       ·show∀i,i∈(match Nat.blt id (ik s.ρ)with|true=>id::s.so|false=>s.so)->i<s.ρ.length
        intro j hj
        cases hb:Nat.blt id (ik s.ρ)with
        |true=>
         rw[hb]at hj
         rcases List.mem_cons.1 hj with rfl|hj
         ·rw[<-lm];exact fb.1 hb
         ·exact I.so j hj
        |false=>rw[hb]at hj;exact I.so j hj
      refine iC (x:= .v (.l .u)) I1 R ⟨Nat.le_refl _,⟨[id],rfl,fun j hj _=> ?_⟩,⟨[],by simp⟩⟩ rfl rfl trivial H
      show cE (vD s.L id lH) j=_
      rw[AN hf]
      rw[if_neg]
      intro e
      subst e
      simp[eH]at hj
     ·exact H.elim
    ·exact H.elim
   ·exact H.elim
  ·exact H.elim
 ·rename_i z j sz off hx
  have hv:=(fq R hx).2.2
  have ha:ff A x= .pointer (some (loadT.P5 z j sz off)):=by rw[hv];cases off<;>rfl
  split at H
  ·rename_i y hw
   obtain⟨w1,w2,w3⟩:=jb R hw
   split at H
   ·rename_i hp qv
    obtain⟨s',C,hE,hL,hm,jF,H⟩:=iA I H
    have R':Rel ρ s'.m s'.E A:=by rw[hE,hm];exact R
    split at H
    ·obtain⟨q1,q2,q3⟩:=H
     rw[C.h]at q1
     rw[C.h,C.r]at q2
     rw[ha,w3]
     refine MA (v:=y.v ρ) qv q1 (tA hp) fun h1 e1=> ?_
     have q2':Vars h1 (kb ρ s'.L):=by rw[e1];exact q2
     have C':Cl {s' with h:=h1} ρ h1:=⟨q2',C.len,C.r,rfl,C.nw,C.so,C.d,C.tu,C.wc⟩
     exact iC (s':={s' with h:=h1}) (x:= .v (.l .u)) C'.inv R' (fC hm hL jF) rfl rfl trivial (q3 h1 (by rw[C.h,C.r];exact e1) (by rw[C.r];exact q2'))
    ·exact H.elim
   ·exact hr H
  ·exact hr H
 ·exact hr H
theorem MW{s:St}{ρ:List Nat}{h h1:Heap}{A:aU}{cs:List Lf}{b:Nat}(I:Inv s ρ h)(R:Rel ρ s.m s.E A)(hb:h.size<=b)(f:Fr No h h1)(V:Vars h1 ((b,dB ρ cs)::kb ρ s.L))(ho:bP s.m cs=true)(hf:cD cs):
 Inv {s with L:=(s.m,cs)::s.L,m:=s.m+1,nw:=s.nw+1,d:=true} (ρ++[b]) h1/\Rel (ρ++[b]) (s.m+1) s.E A/\eM (ρ++[b]) s.m=b:=by
 have hl:eM (ρ++[b]) s.m=b:=by rw[<-I.len];exact rT ρ b []
 obtain⟨y,y1,y2,y3⟩:=I.ext
 refine⟨⟨?_,by simp[I.len],⟨y++[b],by rw[y1];simp,by simp[y2],fun c hc=> ?_⟩,?_,(fun e=>by cases e),I.so,?_,⟨hf,I.wc⟩⟩,R.ext I.len (by omega),hl⟩
 ·show Vars h1 ((eM (ρ++[b]) s.m,dB (ρ++[b]) cs)::kb (ρ++[b]) s.L)
  rw[hl,gW (by rw[I.len];exact ho),v7 (by rw[I.len];exact I.tu)]
  exact V
 ·rcases List.mem_append.1 hc with hc|hc
  ·exact y3 c hc
  ·simp only[List.mem_cons,List.not_mem_nil,or_false]at hc
   subst hc
   exact Nat.le_trans I.fr.size hb
 ·show Fr (In (vg (ρ++[b]) s.so)) s.h h1
  rw[AJ fun i hi=>by have:=I.so i hi;rw[y1,List.length_append];omega]
  exact Fr.no' I.fr f
 ·simp[rB,B9 (Nat.le_succ _) ho,QW (Nat.le_succ _) I.tu]
theorem Cb(ρ:List Nat):∀vs:List Value,dB ρ (xk vs)=vs/\(∀m,bP m (xk vs)=true)/\cD (xk vs)
 |[]=>⟨rfl,fun _=>rfl,trivial⟩
 |v::vs=>by
  obtain⟨h1,h2,h3⟩:=Cb ρ vs
  exact⟨by simp only[xk,dB];rw[MT,h1],fun m=>by simp[xk,bP,Ju,h2 m],AM v,h3⟩
theorem qO{m id:Nat}{cs:List Lf}{L:List (Nat×List Lf)}(h:id<m):cE ((m,cs)::L) id=cE L id:=by
 have e:cE ((m,cs)::L) id=match Nat.beq m id with|true=>some cs|false=>cE L id:=rfl
 rw[e]
 cases hb:Nat.beq m id with
 |true=>have:=Nat.eq_of_beq_eq_true hb;omega
 |false=>rfl
theorem AO{s:St}{ρ:List Nat}{h h1:Heap}{A:aU}{cs:List Lf}{b:Nat}{k:St->Tv->Prop}(I:Inv s ρ h)(R:Rel ρ s.m s.E A)(hb:h.size<=b)(f:Fr No h h1)(V:Vars h1 ((b,dB ρ cs)::kb ρ s.L))(ho:bP s.m cs=true)(hf:cD cs)(H:U4 s cs k):iB A s ρ k (VP b 0) h1:=by
 obtain⟨I1,R1,hl⟩:=MW I R hb f V ho hf
 refine⟨_,.v (.l (.p s.m 0)),ρ++[b],I1,R1,?_,?_,trivial,⟨Nat.le_succ _,⟨[],rfl,fun id _ hid=>qO hid⟩,⟨[b],rfl⟩⟩,H⟩
 ·show VP b 0=VP (eM (ρ++[b]) s.m) 0
  rw[hl]
 ·exact fb.2 (Nat.lt_succ_self _)
theorem Cc{ρ:List Nat}{xs:List Lf}{o:Nat}{y:Lf}(h:kZ xs o 1=some [y]):(dB ρ xs).toArray[o]?=some (y.v ρ):=by
 obtain⟨e1,e2⟩:=tz (ρ:=ρ) h
 rw[mW]at e1
 have:=congrArg (·[0]?) e1
 simpa[dB,List.getElem?_take,List.getElem?_drop]using this
theorem MX{P:Program}{t:TypeId}{fs:Array Field}{i:Nat}{f:Field}{K:Value->Prop}{cs:Array Value}{v:Value}(h1:P.underlying t=some (.struct fs))(h2:fs[i]?=some f)(h3:gN P f.type=true)(h4:cs[f.offset]?=some v)(H:K v):pop P (Instr.field t (.agg cs) i) K:=
 .mk' (fun w=>by
  unfold Instr.field
  rw[aK (bV h1 w)]
  simp only[h2]
  rw[aK (show(asAgg (.agg cs)).run P w= .ok cs w from rfl)]
  unfold part
  rw[aK (Aw h3 w).1]
  simp only[h4,Bool.false_eq_true,if_false]
  rfl) H
theorem MY{P:Program}{t:TypeId}{fs:Array Field}{i:Nat}{f:Field}{n:Nat}{K:Value->Prop}{cs:Array Value}(h1:P.underlying t=some (.struct fs))(h2:fs[i]?=some f)(h3:qK P f.type=some n)(H:K (.agg (cs.extract f.offset (f.offset+n)))):pop P (Instr.field t (.agg cs) i) K:=
 .mk' (fun w=>by
  unfold Instr.field
  rw[aK (bV h1 w)]
  simp only[h2]
  rw[aK (show(asAgg (.agg cs)).run P w= .ok cs w from rfl)]
  unfold part
  rw[aK (pH h3 w).1]
  simp only[if_true]
  rw[aK (pH h3 w).2]
  rfl) H
theorem QZ{ρ:List Nat}{xs ys:List Lf}{o n:Nat}(h:kZ xs o n=some ys):(dB ρ xs).toArray.extract o (o+n)=(dB ρ ys).toArray:=by
 obtain⟨e1,e2⟩:=tz (ρ:=ρ) h
 rw[mW]at e1
 rw[<-e1]
 apply Array.ext'
 simp
def gX(P:Program):List Field->List (Nat×Nat)
 |[]=>[]
 |f::fs=>(f.offset,(li P f.type).getD 0)::gX P fs
theorem vj(P:Program):∀(fs:List Field)(i:Nat),(gX P fs)[i]?=fs[i]?.map fun f=>(f.offset,(li P f.type).getD 0)
 |[],i=>by simp[gX]
 |f::fs,0=>by simp[gX]
 |f::fs,i+1=>by simp only[gX,List.getElem?_cons_succ];exact vj P fs i
theorem run_places{P:Program}{w:World}:∀{fs:List Field},rP P fs=true->(fs.mapM (fun f=>do pure (f.offset,<-sizeOf f.type):Field->Sem (Nat×Nat))).run P w= .ok (gX P fs) w
 |[],_=>rfl
 |f::fs,h=>by
  simp only[rP,Bool.and_eq_true]at h
  cases hs:li P f.type with
  |none=>rw[hs]at h;simp at h
  |some n=>
   rw[List.mapM_cons]
   have h1:((do pure (f.offset,<-sizeOf f.type):Sem (Nat×Nat))).run P w= .ok (f.offset,n) w:=by
    rw[aK (kG hs w)]
    rfl
   rw[aK h1,aK (run_places h.2)]
   simp only[gX,hs,Option.getD_some]
   rfl
theorem vk:∀(vs:List Value)(o i:Nat)(cs:Array Value),o+i+vs.length<=cs.size->((vs.zipIdx i).foldl (fun(cs:Array Value)(p:Value×Nat)=>cs.setIfInBounds (o+p.2) p.1) cs).toList=iZ cs.toList (o+i) vs
 |[],o,i,cs,h=>by
  simp only[List.zipIdx_nil,List.foldl_nil]
  cases cs.toList<;>simp[iZ]
 |v::vs,o,i,cs,h=>by
  simp only[List.length_cons]at h
  simp only[List.zipIdx_cons,List.foldl_cons]
  rw[vk vs o (i+1) _ (by simp;omega),Array.toList_setIfInBounds,lY _ _ _ (by simp;omega),lY _ _ _ (by simp;omega)]
  have e1:(cs.toList.set (o+i) v).take (o+(i+1))=cs.toList.take (o+i)++[v]:=by
   rw[show o+(i+1)=(o+i)+1 by omega,List.take_succ_eq_append_getElem (by simp;omega),List.take_set_of_le (Nat.le_refl _)]
   simp
  have e2:(cs.toList.set (o+i) v).drop (o+(i+1)+vs.length)=cs.toList.drop (o+i+(v::vs).length):=by
   rw[List.drop_set_of_lt (by omega)]
   congr 1
   simp;omega
  rw[e1,e2]
  simp
theorem Jw{P:Program}{fs:Array Field}{ρ:List Nat}{m:Nat}{E:List (Nat×Option Tv)}{A:aU}(R:Rel ρ m E A):∀{ps:List (Nat×Operand)}{cs lH:List Lf},EC P fs E cs ps=some lH->
 Instr.fill ((gX P fs.toList).toArray[·]?) (dB ρ cs).toArray (ps.map fun p=>(p.1,ff A p.2))=some (dB ρ lH).toArray/\(bP m cs=true->bP m lH=true)/\(cD cs->cD lH)
 |[],cs,lH,h=>by
  simp only[EC,Option.some.injEq]at h
  subst h
  exact⟨rfl,fun h=>h,fun h=>h⟩
 |(i,x)::ps,cs,lH,h=>by
  simp only[EC]at h
  split at h
  ·rename_i f w hf hw
   obtain⟨w1,w2,w3⟩:=jb R hw
   split at h
   ·rename_i vs n L7 qv
    obtain⟨f1,f2⟩:=Ca (ρ:=ρ) L7
    obtain⟨g1,g2⟩:=xx L7 w1 w2
    split at h
    ·rename_i hn
     split at h
     ·rename_i c2 Mz
      obtain⟨e1,e2,e3,e4⟩:=pO (ρ:=ρ) (m:=m) Mz
      obtain⟨i1,i2,i3⟩:=Jw R h
      have hl:(dB ρ vs).length=n:=by rw[eC,List.length_map,<-ke];exact Nat.eq_of_beq_eq_true hn
      have GA:(dB ρ cs).length=cs.length:=by rw[eC,List.length_map]
      have hvs:(dB ρ vs).length=vs.length:=by rw[eC,List.length_map]
      refine⟨?_,fun a=>i2 (e3 a g1),fun a=>i3 (e4 a g2)⟩
      rw[List.map_cons]
      unfold Instr.fill
      have hp:(gX P fs.toList).toArray[i]?=some (f.offset,n):=by
       rw[List.getElem?_toArray,vj]
       have:fs.toList[i]?=some f:=by simpa using hf
       rw[this,Option.map_some,qv]
       rfl
      simp only[hp,w3,f1]
      have MZ:¬((decide ((dB ρ vs).toArray.size≠n)||decide (f.offset+(dB ρ vs).toArray.size>(dB ρ cs).toArray.size))=true):=by
       simp only[List.size_toArray,Bool.or_eq_true,decide_eq_true_eq,not_or]
       omega
      rw[if_neg MZ]
      have aa9:((dB ρ vs).toArray.zipIdx.foldl (fun(cs:Array Value)(p:Value×Nat)=>cs.setIfInBounds (f.offset+p.2) p.1) (dB ρ cs).toArray)=(dB ρ c2).toArray:=by
       apply Array.ext'
       rw[show((dB ρ vs).toArray.zipIdx)=((dB ρ vs).zipIdx 0).toArray by simp,List.foldl_toArray]
       rw[vk _ f.offset 0 _ (by simp;omega),e1,Nat.add_zero]
      exact(congrArg (fun z=>Instr.fill ((gX P fs.toList).toArray[·]?) z (ps.map fun p=>(p.1,ff A p.2))) aa9).trans i1
     ·cases h
    ·cases h
   ·cases h
  ·cases h
theorem KX{P:Program}{t:TypeId}{fs:Array Field}{z:Value}{K:Value->Prop}{ps:List (Nat×Value)}{cs:Array Value}(h1:P.underlying t=some (.struct fs))(h2:oy P t=some z)(h3:rP P fs.toList=true)(h4:Instr.fill ((gX P fs.toList).toArray[·]?) z.cells ps=some cs)(H:K (.agg cs)):pop P (Instr.build t ps.toArray) K:=
 .mk' (fun w=>by
  unfold Instr.build
  have hz:(zeroValue t).run P w= .ok z w:=by
   unfold oy at h2
   cases hi:P.info? t with
   |none=>rw[hi]at h2;simp at h2
   |some i=>
    rw[hi]at h2
    simp only[Option.bind_some]at h2
    unfold zeroValue
    rw[aK (dP hi w)]
    simp[h2,pure,Sem.run]
  rw[aK hz,aK (bV h1 w)]
  simp only
  have hm:(fs.mapM (fun f=>do pure (f.offset,<-sizeOf f.type):Field->Sem (Nat×Nat))).run P w= .ok (gX P fs.toList).toArray w:=by
   rw[Array.mapM_eq_mapM_toList]
   show((List.toArray<$>(fs.toList.mapM (fun f=>do pure (f.offset,<-sizeOf f.type):Field->Sem (Nat×Nat))):Sem (Array (Nat×Nat)))).run P w=_
   rw[map_eq_pure_bind,aK (run_places h3)]
   rfl
  rw[aK hm]
  simp only[h4]
  rfl) H
theorem _root_.Array.lr{α:Type}{a:Array α}{x:α}(h:a.toList=[x]):a= #[x]:=by
 cases a with
 |mk l=>simp only at h;subst h;rfl
theorem Vc{P:Program}{s:St}{o:BinOp}{kd:IntKind}{a b:Int}{U2:Bool}{t:TypeId}{x y:Operand}{K:Lf->Prop}{raw:Prop}{G:Value->Prop}(gi:∀z,K (.i kd z)->G (.int kd z))(gb:∀z,K (.b z none)->G (.bool z))(hc:U2=true->b≠0)(H:U1 P s o kd a b U2 K raw)(hr:raw->pop P (lF o t x y (.int kd a) (.int kd b)) G):pop P (lF o t x y (.int kd a) (.int kd b)) G:=by
 cases o<;>simp only[U1]at H
 case add=>exact Qs (t:=t) kd a b (gi _ H)
 case sub=>exact Qt (t:=t) kd a b (gi _ H)
 case mul=>exact Qu (t:=t) kd a b (gi _ H)
 case quo=>
  cases U2 with
  |true=>exact Jf (t:=t) kd a b (hc rfl) (gi _ H)
  |false=>exact Jf (t:=t) kd a b H.1 (gi _ H.2)
 case rem=>
  cases U2 with
  |true=>exact Jg (t:=t) kd a b (hc rfl) (gi _ H)
  |false=>exact Jg (t:=t) kd a b H.1 (gi _ H.2)
 case lss=>exact Qv (t:=t) kd a b (gb _ H)
 case leq=>exact Qw (t:=t) kd a b (gb _ H)
 case gtr=>exact Qx (t:=t) kd a b (gb _ H)
 case geq=>exact Qy (t:=t) kd a b (gb _ H)
 case eql=>exact Qz (t:=t) kd x y a b (gb _ H)
 case neq=>exact QA (t:=t) kd x y a b (gb _ H)
 all_goals exact hr H
theorem M0{y:Operand}{k:IntKind}{b:Int}{A:aU}(h:MJ y=true)(e:ff A y= .int k b):b≠0:=by
 unfold MJ at h
 split at h
 ·simp only[ff,Value.int.injEq]at e
  obtain⟨_,rfl⟩:=e
  intro h0
  cases h0
 ·simp only[ff,Value.int.injEq]at e
  obtain⟨_,rfl⟩:=e
  intro h0
  cases h0
 ·cases h
theorem Vd{P:Program}{A:aU}{s:St}{ρ:List Nat}{h:Heap}{o:BinOp}{t:TypeId}{x y:Operand}{k:St->Tv->Prop}{raw:Prop}(I:Inv s ρ h)(R:Rel ρ s.m s.E A)(H:U3 P s o t y (lf s.E x) (lf s.E y) (MK s k) raw)
 (hr:raw->pop P (lF o t x y (ff A x) (ff A y)) fun v=>iB A s ρ k v h):pop P (lF o t x y (ff A x) (ff A y)) fun v=>iB A s ρ k v h:=by
 have gi:∀kd z,MK s k (.i kd z)->iB A s ρ k (.int kd z) h:=fun kd z h3=>bC (x:= .v (.l (.i kd z))) I R rfl rfl trivial h3
 have gb:∀z,MK s k (.b z none)->iB A s ρ k (.bool z) h:=fun z h3=>bC (x:= .v (.l (.b z none))) I R rfl rfl trivial h3
 have gs:∀z,MK s k (.s z)->iB A s ρ k (.string z) h:=fun z h3=>bC (x:= .v (.l (.s z))) I R rfl rfl trivial h3
 unfold U3 at H
 split at H
 ·rename_i kd a kd' b hx hy
  split at H
  ·rename_i hk
   obtain rfl:=of_decide_eq_true hk
   have e1:=(fq R hx).2.2
   have e2:=(fq R hy).2.2
   rw[e1,e2]at hr⊢
   exact Vc (gi _) gb (fun hc=>M0 hc e2) H hr
  ·exact hr H
 ·rename_i a _ b _ hx hy
  have e1:=(fq R hx).2.2
  have e2:=(fq R hy).2.2
  split at H
  ·rename_i ht
   split at H
   ·rw[e1,e2]
    exact QB ht x y a b (gb _ H)
   ·rw[e1,e2]
    exact QC ht x y a b (gb _ H)
   ·exact hr H
  ·exact hr H
 ·rename_i a b hx hy
  have e1:=(fq R hx).2.2
  have e2:=(fq R hy).2.2
  split at H
  ·rw[e1,e2]
   exact Mw (t:=t) a b H.1 (gs _ H.2)
  ·rw[e1,e2]
   exact QH x y a b (gb _ H)
  ·rw[e1,e2]
   exact QI x y a b (gb _ H)
  ·exact hr H
 ·exact hr H
theorem Hk{ρ:List Nat}{m:Nat}{E:List (Nat×Option Tv)}{A:aU}(R:Rel ρ m E A):∀{l:List Operand}{cs:List Cp},AF E l=some cs->mN (ff A) l=Ez ρ cs/\nI m cs=true
 |[],cs,h=>by
  simp only[AF,Option.some.injEq]at h
  subst h
  exact⟨rfl,rfl⟩
 |x::l,cs,h=>by
  simp only[AF]at h
  split at h
  ·rename_i c lH hc GA
   have h:=Option.some.inj h
   subst h
   obtain⟨i1,i2⟩:=Hk R GA
   have key:ff A x=c.v' ρ/\MH m c=true:=by
    unfold aa4 at hc
    split at hc
    all_goals first
     |(rename_i hx
       have h:=Option.some.inj hc
       subst h
       obtain⟨a1,a2,a3⟩:=jb R hx
       exact⟨a3,a1⟩)
     |(rename_i hx
       have h:=Option.some.inj hc
       subst h
       obtain⟨a1,a2,a3⟩:=jb R hx
       exact⟨a3,rfl⟩)
     |cases hc
   exact⟨by simp only[mN,Ez];rw[key.1,i1],by simp[nI,key.2,i2]⟩
  ·cases h
theorem Jx{ρ:List Nat}{m:Nat}:∀{xs:List Av}{i:Nat}{y:Av},KW xs i=some y->(Ua ρ xs).toArray[i]?=some (y.v ρ)/\(nJ m xs=true->y.ok m=true)/\(vX xs->y.fact)
 |[],i,y,h=>by simp[KW]at h
 |x::xs,0,y,h=>by
  simp only[KW,Option.some.injEq]at h
  subst h
  exact⟨by simp[Ua],fun a=>by simp only[nJ,Bool.and_eq_true]at a;exact a.1,fun a=>a.1⟩
 |x::xs,i+1,y,h=>by
  simp only[KW]at h
  obtain⟨h1,h2,h3⟩:=Jx (ρ:=ρ) (m:=m) h
  exact⟨by simpa[Ua]using h1,fun a=>by simp only[nJ,Bool.and_eq_true]at a;exact h2 a.2,fun a=>h3 a.2⟩
theorem M4{P:Program}{A:aU}{s:St}{ρ:List Nat}{h:Heap}{x:Operand}{v:Option Addr}{e:TypeId}{k:St->Tv->Prop}(I:Inv s ρ h)(R:Rel ρ s.m s.E A)(hx:ff A x= .pointer v)(H:ED P s x v e k):pop P (Mp (ff A x)) fun v=>iB A s ρ k v h:=by
 unfold ED at H
 obtain⟨s',C,hE,hL,hm,jF,b,H⟩:=iA I H
 have R':Rel ρ s'.m s'.E A:=by rw[hE,hm];exact R
 obtain⟨ys,⟨hv,hV,hk⟩,y1,y2⟩:=oH H
 rw[C.r,C.h]at hV
 rw[hx,hv]
 have hl:eM (ρ++[b]) s'.m=b:=by rw[<-C.len];exact rT ρ b []
 have Rx:=R'.ext (y:=[b]) (n:=s'.m+1) C.len (by omega)
 refine vW _ ⟨_,.v (.l (.p s'.m 0)),ρ++[b],((⟨?_,by simp[C.len],by rw[C.r],C.h,C.nw,C.so,C.d,?_,⟨y2,C.wc⟩⟩:Cl {s' with E:=ED.U5 s'.E x s'.m,L:=(s'.m,ys)::s'.L,ρ:=s'.ρ++[b],m:=s'.m+1} (ρ++[b]) h)).inv,?_,?_,?_,trivial,(fC hm hL jF).trans ⟨Nat.le_succ _,⟨[],rfl,fun id _ hid=>qO hid⟩,⟨[b],rfl⟩⟩,hk⟩
 ·show Vars h ((eM (ρ++[b]) s'.m,dB (ρ++[b]) ys)::kb (ρ++[b]) s'.L)
  rw[hl,gW (y1 _),v7 (by rw[C.len];exact C.tu)]
  exact hV
 ·simp[rB,y1,QW (Nat.le_succ _) C.tu]
 ·show Rel (ρ++[b]) (s'.m+1) (ED.U5 s'.E x s'.m) A
  cases x with
  |tmp t=>
   refine⟨fun t' z hz=> ?_⟩
   have hz:(match Nat.beq t t' with|true=>some (.v (.l (.p s'.m 0)))|false=>p9 s'.E t')=some z:=hz
   cases hb:Nat.beq t t' with
   |true=>
    rw[hb]at hz
    have hz:=Option.some.inj hz
    subst hz
    have:=Nat.eq_of_beq_eq_true hb
    subst this
    refine⟨fb.2 (Nat.lt_succ_self _),trivial,?_⟩
    show lG A t=VP (eM (ρ++[b]) s'.m) 0
    rw[hl]
    rw[hv]at hx
    exact hx
   |false=>rw[hb]at hz;exact Rx.get t' z hz
  |const c=>exact Rx
  |global g=>exact Rx
  |func f=>exact Rx
 ·show VP b 0=VP (eM (ρ++[b]) s'.m) 0
  rw[hl]
 ·exact fb.2 (Nat.lt_succ_self _)
theorem rV{P:Program}{A:aU}{s:St}{ρ:List Nat}{h:Heap}{op:Op}{ty:TypeId}{k:St->Tv->Prop}(I:Inv s ρ h)(R:Rel ρ s.m s.E A)(H:EE P s op ty k):fi P (ff A) op ty h (iB A s ρ k):=by
 unfold EE at H
 split at H
 ·--move
  rename_i x
  split at H
  ·rename_i y hy
   obtain⟨h1,h2,h3⟩:=jb R hy
   exact bC I R h3 h1 h2 H
  ·exact H.elim
 ·rename_i x
  split at H
  ·rename_i y hy
   obtain⟨h1,h2,h3⟩:=jb R hy
   exact bC I R h3 h1 h2 H
  ·exact H.elim
 ·--call
  exact QX I R H
 ·--len
  rename_i args ats
  split at H
  ·rename_i x t hx ht
   split at H
   ·rename_i z e hz hu
    have e1:=(fq R hz).2.2
    refine cL (q:=Builtin.len_ ats ty (mN (ff A) args.toList).toArray) rfl rfl rfl ?_
    rw[hx,Array.lr ht]
    simp only[mN,e1]
    exact QG z ty e hu (bC (x:= .v (.l (.i .i64 (z.n:Int)))) I R rfl rfl trivial H)
   ·rename_i z hz hu
    have e1:=(fq R hz).2.2
    refine cL (q:=Builtin.len_ ats ty (mN (ff A) args.toList).toArray) rfl rfl rfl ?_
    rw[hx,Array.lr ht]
    simp only[mN,e1]
    exact Mv z ty hu (bC (x:= .v (.l (.i .i64 (z.size:Int)))) I R rfl rfl trivial H)
   ·exact iD I R H
  ·exact iD I R H
 ·--binOp
  rename_i o t x y _
  have hr:∀q,(fi P (ff A) (.binOp o t x y q) ty h (iB A s ρ k)↔pop P (lF o t x y (ff A x) (ff A y)) fun v=>iB A s ρ k v h):=fun q=>Iff.rfl
  rw[hr]
  exact Vd I R H fun M5=>(hr _).1 (iD I R M5)
 ·--unOp
  rename_i o t x
  split at H
  ·rename_i z kn hz
   obtain⟨f1,f2,e1⟩:=fq R hz
   refine cL (q:=Op.unary .not (ff A x)) rfl rfl rfl ?_
   rw[e1]
   refine QD z (bC (x:= .v (.l (.b (!z) (QS kn)))) I R rfl rfl ?_ H)
   show Lf.fact (.b (!z) (QS kn))
   unfold QS
   split
   ·rename_i v
    have:z=v:=f2
    subst this
    rfl
   ·trivial
  ·rename_i kd z hz
   have e1:=(fq R hz).2.2
   refine cL (q:=Op.unary .neg (ff A x)) rfl rfl rfl ?_
   rw[e1]
   exact QE kd z (bC (x:= .v (.l (.i kd (kd.wrap (0-z))))) I R rfl rfl trivial H)
  ·exact iD I R H
 ·--pick
  rename_i c a b
  split at H
  ·rename_i z kn hz
   have e1:=(fq R hz).2.2
   obtain⟨b1,b2⟩:=xu I R hz H
   refine cL (q:=Jd (ff A c) (ff A a) (ff A b)) rfl rfl rfl ?_
   rw[e1]
   have fin:∀(s':St)(w:Operand),Inv s' ρ h->Rel ρ s'.m s'.E A->s'.m=s.m->s'.L=s.L->s'.md=s.md->(match xl s.E w with|some y=>k s' y|none=>False)->iB A s ρ k (ff A w) h:=fun s' w I' R' hm hL jF hq=>by
    split at hq
    ·rename_i y hy
     obtain⟨g1,g2,g3⟩:=jb R hy
     exact iC I' R' (fC hm hL jF) g3 (by rw[hm];exact g1) g2 hq
    ·exact hq.elim
   refine KS (fun e=> ?_) (fun e=> ?_)
   ·obtain⟨s',I',R',hm,hL,jF,hq⟩:=b1 e
    exact fin s' a I' R' hm hL jF hq
   ·obtain⟨s',I',R',hm,hL,jF,hq⟩:=b2 e
    exact fin s' b I' R' hm hL jF hq
  ·exact iD I R H
 ·--nilCheck
  rename_i x
  split at H
  ·rename_i id off hz
   obtain⟨g1,g2,e1⟩:=fq R hz
   refine cL (q:=Mp (ff A x)) rfl rfl rfl ?_
   rw[e1]
   exact vW _ (bC (x:= .v (.l (.p id off))) I R rfl g1 trivial H)
  ·rename_i z i sz off hz
   obtain⟨g1,g2,e1⟩:=fq R hz
   refine cL (q:=Mp (ff A x)) rfl rfl rfl ?_
   rw[e1]
   cases off with
   |none=>exact vW _ (bC (x:= .v (.l (.e z i sz none))) I R rfl g1 trivial H)
   |some o=>exact vW _ (bC (x:= .v (.l (.e z i sz (some o)))) I R rfl g1 trivial H)
  ·rename_i v e hz
   obtain⟨g1,g2,e1⟩:=fq R hz
   refine cL (q:=Mp (ff A x)) rfl rfl rfl ?_
   exact M4 I R (by rw[e1];rfl) H
  ·exact iD I R H
 ·--makeFunc
  rename_i fn first cap
  split at H
  ·rename_i fs cs h1 h2
   obtain⟨a1,a2⟩:=Hk R h1
   obtain⟨b1,b2⟩:=Hk R h2
   refine cL (q:=Instr.makeFunc fn (mN (ff A) first.toList).toArray (mN (ff A) cap.toList).toArray) rfl rfl rfl ?_
   rw[a1,b1]
   exact My fn _ _ (bC (x:= .v (.l (.f fn fs cs))) I R rfl (by show(nI _ fs&&nI _ cs)=true;rw[a2,b2];rfl) trivial H)
  ·exact H.elim
 ·--fieldAddr
  rename_i t x i
  split at H
  ·rename_i id off o hz ho
   obtain⟨g1,g2,e1⟩:=fq R hz
   refine cL (q:=Instr.fieldAt t (ff A x) i) rfl rfl rfl ?_
   rw[e1]
   exact KO i ho _ _ (bC (x:= .v (.l (.p id (off+o)))) I R rfl g1 trivial H)
  ·rename_i z j sz o hz ho
   obtain⟨g1,g2,e1⟩:=fq R hz
   refine cL (q:=Instr.fieldAt t (ff A x) i) rfl rfl rfl ?_
   rw[e1]
   exact Ha i ho _ (bC (x:= .v (.l (.e z j sz (some o)))) I R rfl rfl trivial H)
  ·exact iD I R H
 ·--indexAddr
  rename_i t x ix
  split at H
  ·rename_i z kd j e hz hj hu
   have e1:=(fq R hz).2.2
   have e2:=(fq R hj).2.2
   split at H
   ·rename_i sz qv
    refine cL (q:=Instr.indexAt t (ff A x) (ff A ix)) rfl rfl rfl ?_
    rw[e1,e2]
    exact KR hu qv kd z j H.1 (bC (x:= .v (.l (.e z j sz none))) I R rfl rfl trivial H.2)
   ·exact H.elim
  ·exact iD I R H
 ·--extract
  rename_i t ix
  split at H
  ·rename_i xs hx
   obtain⟨g1,g2,g3⟩:=jb R hx
   split at H
   ·rename_i y hy
    obtain⟨a1,a2,a3⟩:=Jx (ρ:=ρ) (m:=s.m) hy
    refine cL (q:=Instr.extract (ff A t) ix) rfl rfl rfl ?_
    rw[g3]
    exact QF a1 (bC (x:= .v y) I R rfl (a2 g1) (a3 g2) H)
   ·exact H.elim
  ·exact iD I R H
 ·--field
  rename_i t x i
  split at H
  ·rename_i xs fs hx hu
   obtain⟨g1,g2,g3⟩:=jb R hx
   split at H
   ·rename_i f hf
    refine cL (q:=Instr.field t (ff A x) i) rfl rfl rfl ?_
    rw[g3]
    split at H
    ·rename_i h1
     split at H
     ·rename_i y hy
      obtain⟨c1,c2⟩:=pN hy g1 g2
      exact MX hu hf h1 (Cc hy) (bC (x:= .v (.l y)) I R rfl (cO.1 c1 y (by simp)) (bQ.1 c2 y (by simp)) H)
     ·exact H.elim
    ·split at H
     ·rename_i n h2
      split at H
      ·rename_i ys hy
       obtain⟨c1,c2⟩:=pN hy g1 g2
       exact MY hu hf h2 (bC (x:= .v (.a ys)) I R (by rw[QZ hy];rfl) c1 c2 H)
      ·exact H.elim
     ·exact H.elim
   ·exact H.elim
  ·exact iD I R H
 ·--build
  rename_i t parts
  split at H
  ·rename_i fs zs hu hz
   split at H
   ·rename_i cs hs L7
    unfold Jp at hz
    split at hz
    ·rename_i z hz0
     have hz:=Option.some.inj hz
     obtain⟨o1,o2,o3⟩:=Cb ρ z.cells.toList
     rw[hz]at o1 o2 o3
     obtain⟨f1,f2,f3⟩:=Jw R L7
     rw[o1]at f1
     refine cL (q:=Instr.build t (parts.toList.map fun p=>(p.1,ff A p.2)).toArray) rfl rfl rfl ?_
     exact KX hu hz0 hs f1 (bC (x:= .v (.a cs)) I R rfl (f2 (o2 _)) (f3 o3) H)
    ·cases hz
   ·exact H.elim
  ·exact iD I R H
 ·--load
  rename_i t x
  have hr:(fi P (ff A) (.load t x) ty h (iB A s ρ k)↔zN P (Instr.loadAt t (ff A x)) h fun v=>iB A s ρ k v h):=Iff.rfl
  rw[hr]
  exact QY I R H fun M5=>hr.1 (iD I R M5)
 ·--store
  rename_i t x v
  have hr:(fi P (ff A) (.store t x v) ty h (iB A s ρ k)↔Aj P (Instr.storeAt t (ff A x) (ff A v)) h (iB A s ρ k)):=Iff.rfl
  rw[hr]
  exact MV I R H fun M5=>hr.1 (iD I R M5)
 ·--box
  rename_i t v
  split at H
  ·rename_i y hy
   obtain⟨g1,g2,g3⟩:=jb R hy
   split at H
   ·rename_i cs L7
    obtain⟨f1,f2⟩:=Ca (ρ:=ρ) L7
    obtain⟨o1,o2⟩:=xx L7 g1 g2
    show jQ P (Instr.box t (ff A v)) h _
    rw[g3]
    exact QK t _ f1 I.vars fun b h1 hb f V=>AO I R hb f V o1 o2 H
   ·exact H.elim
  ·exact H.elim
 ·--alloc
  rename_i t
  split at H
  ·rename_i cs hz
   unfold Jp at hz
   split at hz
   ·rename_i z hz0
    have hz:=Option.some.inj hz
    obtain⟨o1,o2,o3⟩:=Cb ρ z.cells.toList
    rw[hz]at o1 o2 o3
    show jQ P (Instr.alloc t true (.tuple #[])) h _
    exact KP t hz0 (cs:=dB ρ cs) (by rw[o1]) I.vars fun b h1 hb f V=>AO I R hb f V (o2 _) o3 H
   ·cases hz
  ·exact H.elim
 all_goals exact iD I R H
theorem na{P:Program}{ops:List Oper}{A:aU}{h:Heap}{o:Oper}{k k':Value->Heap->Prop}(H:lh P ops A h o k)(hk:∀v h,k v h->k' v h):lh P ops A h o k':=by
 unfold lh at*
 cases hg:o.guard with
 |none=>rw[hg]at H;simp only[kF]at H⊢;exact iX hk H
 |some p=>
  obtain⟨j,want⟩:=p
  rw[hg]at H
  obtain⟨b,hb,h1,h2⟩:=H
  exact⟨b,hb,fun e=>by have:=h1 e;rw[kF]at this⊢;exact iX hk this,fun e=>hk _ _ (h2 e)⟩
theorem EN{P:Program}{ops:List Oper}{A:aU}{h:Heap}{o:Oper}{k:Value->Heap->Prop}(hq:(uZ o.op||zJ o.op)=true)(H:lh P ops A h o k):lh P ops A h o fun v h'=>h'=h/\Mq P ops A h o v/\k v h':=by
 unfold lh at*
 cases hg:o.guard with
 |none=>
  rw[hg]at H
  simp only[kF]at H⊢
  obtain⟨v,h1,h2⟩:=(gv hq).1 H
  exact(gv hq).2 ⟨v,h1,rfl,by unfold Mq;rw[hg];exact h1,h2⟩
 |some p=>
  obtain⟨j,want⟩:=p
  rw[hg]at H
  obtain⟨b,hb,h1,h2⟩:=H
  refine⟨b,hb,fun e=> ?_,fun e=>⟨rfl,by unfold Mq;rw[hg];exact⟨b,hb,fun e'=>absurd e' e,fun _=>rfl⟩,h2 e⟩⟩
  have h1:=h1 e
  rw[kF]at h1⊢
  obtain⟨v,h3,h4⟩:=(gv hq).1 h1
  exact(gv hq).2 ⟨v,h3,rfl,by unfold Mq;rw[hg];exact⟨b,hb,fun _=>h3,fun e'=>absurd e e'⟩,h4⟩
theorem wg{A:aU}{s s1:St}{ρ:List Nat}{k:St->Tv->Prop}{v:Value}{h:Heap}(hm:s1.m=s.m)(hL:s1.L=s.L)(jF:s1.md=s.md)(H:iB A s1 ρ k v h):iB A s ρ k v h:=by
 obtain⟨s',x,iS,a1,a2,a3,a4,a5,a6,a7⟩:=H
 exact⟨s',x,iS,a1,a2,a3,a4,a5,(fC hm hL jF).trans a6,a7⟩
theorem xy{P:Program}{ops:List Oper}{A:aU}{s:St}{ρ:List Nat}{h:Heap}{o:Oper}{k:St->Tv->Prop}(I:Inv s ρ h)(R:Rel ρ s.m s.E A)(H:EF P ops s o k):lh P ops A h o (iB A s ρ k):=by
 unfold EF at H
 unfold lh
 cases hg:o.guard with
 |none=>rw[hg]at H;simp only[kF];exact rV I R H
 |some p=>
  obtain⟨j,want⟩:=p
  rw[hg]at H
  simp only at H⊢
  have skip:k s (.v (.l .u))->iW ops A j=undef->GM (KB (iW ops A j) want) want (wT P A o.op o.type h) h (iB A s ρ k):=fun hk hu=>by
   rw[hu]
   exact⟨!want,rfl,fun e=>absurd e (by cases want<;>decide),fun _=>bC (x:= .v (.l .u)) I R rfl rfl trivial hk⟩
  cases ht:wJ ops j with
  |none=>
   rw[ht]at H
   exact skip H (by unfold iW;rw[ht])
  |some t=>
   rw[ht]at H
   simp only at H
   split at H
   ·rename_i x kn hx
    have hlf:lf s.E (.tmp t)=some (.b x kn):=by unfold lf xl;simp only[hx]
    have hv:iW ops A j= .bool x:=by unfold iW;rw[ht];exact(R.get t _ hx).2.2
    obtain⟨b1,b2⟩:=xu I R hlf H
    rw[hv]
    refine⟨x,rfl,fun e=> ?_,fun e=> ?_⟩
    ·rw[kF]
     cases want with
     |true=>
      obtain⟨s',I',R',hm,hL,jF,hq⟩:=b1 e
      exact iX (fun v h=>wg hm hL jF) (rV I' R' hq)
     |false=>
      obtain⟨s',I',R',hm,hL,jF,hq⟩:=b2 e
      exact iX (fun v h=>wg hm hL jF) (rV I' R' hq)
    ·cases want with
     |true=>
      obtain⟨s',I',R',hm,hL,jF,hq⟩:=b2 (by simpa using e)
      exact wg hm hL jF (bC (x:= .v (.l .u)) I' R' rfl rfl trivial hq)
     |false=>
      obtain⟨s',I',R',hm,hL,jF,hq⟩:=b1 (by simpa using e)
      exact wg hm hL jF (bC (x:= .v (.l .u)) I' R' rfl rfl trivial hq)
   ·rename_i hx
    exact skip H (by unfold iW;rw[ht];exact(R.get t _ hx).2.2)
   ·exact H.elim
def To(s0:St)(sX:List Nat)(K:St->Prop)(K':aU->Heap->Prop):Prop:=∀s ρ A h,Inv s ρ h->Rel ρ s.m s.E A->Nx s0 sX s ρ->K s->K' A h
theorem rW{n:Nat}{s:St}{ρ:List Nat}{h:Heap}{A:aU}{dst:Option Tmp}{x:Tv}{v:Value}(I:Inv s ρ h)(R:Rel ρ s.m s.E A)(hv:v=x.val ρ)(ho:x.ok s.m=true)(hf:x.fact):
 Inv (vE n s dst x) ρ h/\Rel ρ (vE n s dst x).m (vE n s dst x).E (wS n A dst v)/\(vE n s dst x).m=s.m/\(vE n s dst x).L=s.L/\(vE n s dst x).md=s.md:=by
 unfold vE wS
 cases dst with
 |none=>exact⟨I,R,rfl,rfl,rfl⟩
 |some d=>
  simp only
  cases hb:Nat.blt d n with
  |false=>exact⟨I,R,rfl,rfl,rfl⟩
  |true=>
   refine⟨⟨I.vars,I.len,I.ext,I.fr,I.cln,I.so,I.tu,I.wc⟩,⟨fun t y hy=> ?_⟩,rfl,rfl,rfl⟩
   simp only[p9]at hy
   simp only[lG]
   cases hd:Nat.beq d t with
   |true=>
    rw[hd]at hy
    have hy:=Option.some.inj hy
    subst hy
    exact⟨ho,hf,hv⟩
   |false=>rw[hd]at hy;exact R.get t y hy
theorem Na{P:Program}{n:Nat}{ops:List Oper}{s0:St}{sX:List Nat}{K:St->Prop}{K':aU->Heap->Prop}(hK:To s0 sX K K'):∀{l:List Oper}{s:St}{ρ:List Nat}{A:aU}{h:Heap},Inv s ρ h->Rel ρ s.m s.E A->Nx s0 sX s ρ->tIn P n ops l s K->Au P n ops l A h K'
 |[],s,ρ,A,h,I,R,N,H=>hK s ρ A h I R N H
 |o::os,s,ρ,A,h,I,R,N,H=>by
  simp only[tIn]at H
  simp only[Au]
  refine na (xy I R H) fun v h' ⟨s',x,iS,a1,a2,a3,a4,a5,a6,a7⟩=> ?_
  rw[gM]
  obtain⟨b1,b2,b3,b4,b5⟩:=rW (n:=n) (dst:=o.dst) a1 a2 a3 a4 a5
  exact Na hK b1 b2 ((N.trans a6).trans (fC b3 b4 b5)) a7
theorem tC(a b:List Nat):rS b (a++b)=a:=by
 unfold rS
 rw[lm,lm,List.length_append,Nat.add_sub_cancel]
 induction a with
 |nil=>rfl
 |cons x a ih=>simp only[List.length_cons,List.cons_append,rS.takeN];rw[ih]
def Nb(P:Program)(p:Heap->Prop)(t:Ht)(s:St)(ρ:List Nat):Prop:=
 match t with
 | .Ue=>∀g,p g
 | .bad=>True
 | .au id off t ys=>∃sb Q0,Nx sb Q0 s ρ/\id<sb.m/\cE s.L id=cE sb.L id/\∀s' iS g,Inv s' iS g->Nx sb Q0 s' iS->cE s'.L id=cE sb.L id->p g
 | .ce a v=>∀g,aR g a=some v->p g
 | .cs a vs=>∀g,lk g a vs->p g
 | .se q v=>∀g,(∀w:World,w.heap=g->q.run P w= .ok v w)->p g
inductive GD(P:Program)(s:St)(ρ:List Nat):j9->List (Nat×Ht)->Prop where
 |nil:GD P s ρ [] []
 |cons {i:Nat} {p:Heap->Prop} {t:Ht} {S:j9} {T:List (Nat×Ht)}:Nb P p t s ρ->GD P s ρ S T->GD P s ρ ((i,p)::S) ((i,t)::T)
theorem GD.keep{P:Program}{s:St}{ρ:List Nat}{bf:List Nat}:∀{S:j9}{T:List (Nat×Ht)},GD P s ρ S T->GD P s ρ (qo bf S) (AG bf T)
 |_,_,.nil=> .nil
 |_,_,.cons (i:=i) h1 h2=>by
  simp only[qo,AG]
  cases eH bf i with
  |true=>exact h2.keep
  |false=>exact .cons h1 h2.keep
theorem GD.step{P:Program}{s s':St}{ρ iS:List Nat}(N:Nx s ρ s' iS):∀{S:j9}{T:List (Nat×Ht)},GD P s ρ S T->oF (rS s.md s'.md) T=true->GD P s' iS S T
 |_,_,.nil,_=> .nil
 |_,_,.cons (t:=t) h1 h2,ha=>by
  cases t with
  |au id off ty ys=>
   simp only[oF,Bool.and_eq_true,Bool.not_eq_true']at ha
   refine .cons ?_ (h2.step N ha.2)
   obtain⟨sb,Q0,c1,c2,c3,c4⟩:=h1
   refine⟨sb,Q0,c1.trans N,c2,?_,c4⟩
   obtain⟨new,d1,d2⟩:=N.md
   rw[d1,tC]at ha
   rw[d2 id ha.1 (by have:=c1.m;omega),c3]
  |Ue=>exact .cons h1 (h2.step N ha)
  |bad=>exact .cons h1 (h2.step N ha)
  |ce a v=>exact .cons h1 (h2.step N ha)
  |cs a vs=>exact .cons h1 (h2.step N ha)
  |se q v=>exact .cons h1 (h2.step N ha)
theorem GD.tell{P:Program}{s:St}{ρ:List Nat}{g:Heap}{K:Prop}{K':Prop}(I:Inv s ρ g):∀{S:j9}{T:List (Nat×Ht)},GD P s ρ S T->AH P g K T->(K->K')->Ml g K' S
 |_,_,.nil,H,hk=>hk H
 |_,_,.cons (t:=t) h1 h2,H,hk=>by
  cases t with
  |Ue=>exact⟨h1 g,h2.tell I H hk⟩
  |bad=>exact H.elim
  |au id off ty ys=>
   obtain⟨sb,Q0,c1,c2,c3,c4⟩:=h1
   exact⟨c4 s ρ g I c1 c3,h2.tell I H hk⟩
  |ce a v=>exact⟨h1 g H.1,h2.tell I H.2 hk⟩
  |cs a vs=>exact⟨h1 g H.1,h2.tell I H.2 hk⟩
  |se q v=>exact⟨h1 g H.1,h2.tell I H.2 hk⟩
theorem Jy{P:Program}{s:St}{ρ:List Nat}{g:Heap}(I:Inv s ρ g){id off:Nat}{cs:List Lf}(hf:cE s.L id=some cs){t:TypeId}(h1:gN P t=true){y:Lf}(hy:kZ cs off 1=some [y]):∀w:World,w.heap=g->(Instr.loadAt t (VP (eM ρ id) off)).run P w= .ok (y.v ρ) w:=by
 obtain⟨i,hi,_⟩:=ks (ρ:=ρ) hf
 have:=Cc (ρ:=ρ) hy
 exact KT h1 I.vars i hi off (by simpa using this)
theorem EO{P:Program}{s:St}{ρ:List Nat}{g:Heap}(I:Inv s ρ g){id off n:Nat}{cs:List Lf}(hf:cE s.L id=some cs){t:TypeId}(h1:qK P t=some n){ys:List Lf}(hy:kZ cs off n=some ys):∀w:World,w.heap=g->(Instr.loadAt t (VP (eM ρ id) off)).run P w= .ok (.agg (dB ρ ys).toArray) w:=by
 obtain⟨i,hi,_⟩:=ks (ρ:=ρ) hf
 obtain⟨e1,e2⟩:=tz (ρ:=ρ) hy
 exact GY h1 I.vars i hi off e1 e2
def wAt(h:Heap):World:={heap:=h,tape:=fun _ _=>0,drawn:=0,os:=default,output:= #[]}
theorem Hl{s:St}{ρ:List Nat}{h:Heap}(I:Inv s ρ h){x:Tv}(hx:x.ok (ik s.ρ)=true):x.val ρ=x.val s.ρ:=by
 obtain⟨y,e,_,_⟩:=I.ext
 rw[e]
 exact B8 (by rw[<-lm];exact hx)
theorem EP{P:Program}{A:aU}{s:St}{ρ:List Nat}{h:Heap}{op:Op}{ty:TypeId}{x:Tv}{v:Value}(I:Inv s ρ h)(R:Rel ρ s.m s.E A)(hq:zJ op=true)(hv:v=x.val ρ):Nb P (fun g=>Yx P (ff A) op ty g v) (rQ.Jq P s op x) s ρ:=by
 unfold rQ.Jq
 split
 ·rename_i q hd hx hr
  intro g hg
  simp only[zJ,Bool.and_eq_true]at hq
  have h1:gu op=none:=by simpa using hq.1
  have h2:jA (ff A) ty op=none:=by
   have:=ld fk (ff A) 0 ty op
   have h3:(jA fk 0 op).isSome=false:=by simpa using hq.2.2.1
   rw[h3]at this
   cases hp:jA (ff A) ty op with
   |none=>rfl
   |some _=>rw[hp]at this;cases this
  have hc:nR (ff A) op=nR (Ea s.ρ s.E) op:=mR fun y hy=>lq I R hd y (by simpa using hy)
  unfold Yx
  simp only[h1,h2,hc,hr]
  rw[hv,Hl I hx]
  exact hg
 ·trivial
theorem EQ{P:Program}{A:aU}{s:St}{ρ:List Nat}{h:Heap}{op:Op}{ty:TypeId}{x:Tv}{v:Value}(I:Inv s ρ h)(R:Rel ρ s.m s.E A)(hq:zJ op=true)(hv:v=x.val ρ)(hy:Yx P (ff A) op ty h v):Nb P (fun g=>Yx P (ff A) op ty g v) (rQ P s op x) s ρ:=by
 unfold rQ
 split
 ·rename_i t a
  split
  ·rename_i id off hz
   have hp:ff A a=VP (eM ρ id) off:=(fq R hz).2.2
   have hy:∀w:World,w.heap=h->(Instr.loadAt t (ff A a)).run P w= .ok v w:=hy
   rw[hp]at hy
   have abb:∀g,(∀w:World,w.heap=g->(Instr.loadAt t (VP (eM ρ id) off)).run P w= .ok v w)->Yx P (ff A) (.load t a) ty g v:=fun g hg=>by
    show∀w:World,w.heap=g->(Instr.loadAt t (ff A a)).run P w= .ok v w
    rw[hp]
    exact hg
   split
   ·rename_i cs hf
    have hid:=(kH hf I.tu I.wc).1
    have GA:=(kH hf I.tu I.wc).2.1
    have later:∀s' iS g,Inv s' iS g->Nx s ρ s' iS->eM iS id=eM ρ id/\dB iS cs=dB ρ cs:=fun s' iS g I' N=>by
     obtain⟨y,hy⟩:=N.r
     rw[hy]
     exact⟨jE _ _ _ (by rw[I.len];exact hid),gW (by rw[I.len];exact GA)⟩
    split
    ·rename_i h1
     split
     ·rename_i y Hm
      have e0:=Jy I hf h1 Hm (wAt h) rfl
      rw[hy (wAt h) rfl]at e0
      have ev:v=y.v ρ:=by simpa using e0
      refine⟨s,ρ,Nx.refl _ _,hid,rfl,fun s' iS g I' N hf'=>abb g fun w hw=> ?_⟩
      have e1:=Jy I' (hf'.trans hf) h1 Hm w hw
      obtain⟨l1,l2⟩:=later s' iS g I' N
      rw[l1]at e1
      rw[e1,ev]
      have yo:y.ok ρ.length=true:=by
       rw[I.len]
       exact cO.1 (pN Hm GA (kH hf I.tu I.wc).2.2).1 y (by simp)
      obtain⟨z,hz⟩:=N.r
      rw[hz,Hh yo]
     ·trivial
    ·split
     ·rename_i n h2
      split
      ·rename_i ys Hm
       have e0:=EO I hf h2 Hm (wAt h) rfl
       rw[hy (wAt h) rfl]at e0
       have ev:v= .agg (dB ρ ys).toArray:=by simpa using e0
       refine⟨s,ρ,Nx.refl _ _,hid,rfl,fun s' iS g I' N hf'=>abb g fun w hw=> ?_⟩
       have e1:=EO I' (hf'.trans hf) h2 Hm w hw
       obtain⟨l1,l2⟩:=later s' iS g I' N
       rw[l1]at e1
       rw[e1,ev]
       have yo:bP ρ.length ys=true:=by
        rw[I.len]
        exact(pN Hm GA (kH hf I.tu I.wc).2.2).1
       obtain⟨z,hz⟩:=N.r
       rw[hz,gW yo]
      ·trivial
     ·trivial
   ·trivial
  ·rename_i z i sz off hz
   have hv0:=(fq R hz).2.2
   have ha:ff A a= .pointer (some (loadT.P5 z i sz off)):=by rw[hv0];cases off<;>rfl
   split
   ·rename_i z' hx
    split
    ·rename_i h1
     intro g hg
     show∀w:World,w.heap=g->(Instr.loadAt t (ff A a)).run P w= .ok v w
     rw[ha,hv,Hl I hx]
     exact AA h1 hg
    ·trivial
   ·rename_i zs hx
    split
    ·rename_i n h2
     split
     ·rename_i hn
      intro g hg
      show∀w:World,w.heap=g->(Instr.loadAt t (ff A a)).run P w= .ok v w
      rw[ha,hv,Hl I hx]
      exact AB h2 (dB s.ρ zs) (by rw[eC,List.length_map,<-ke];exact Nat.eq_of_beq_eq_true hn) hg
     ·trivial
    ·trivial
   ·trivial
  ·exact EP I R hq hv
 ·exact EP I R hq hv
theorem Q2{P:Program}{ops:List Oper}{A:aU}{s:St}{ρ:List Nat}{h:Heap}{o:Oper}{x:Tv}{v:Value}(I:Inv s ρ h)(R:Rel ρ s.m s.E A)(hq:zJ o.op=true)(hv:v=x.val ρ)(hy:Mq P ops A h o v):Nb P (fun g=>Mq P ops A g o v) (Hd P ops s o x) s ρ:=by
 unfold Hd
 unfold Mq at hy⊢
 cases hg:o.guard with
 |none=>rw[hg]at hy;exact EQ I R hq hv hy
 |some p=>
  obtain⟨j,want⟩:=p
  rw[hg]at hy
  simp only at hy⊢
  obtain⟨b,hb,h1,h2⟩:=hy
  have skip:b≠want->∀g,∃b:Bool,KB (iW ops A j) want= .bool b/\(b=want->Yx P (ff A) o.op o.type g v)/\(b≠want->v=undef):=fun dZ g=>⟨b,hb,fun e=>absurd e dZ,h2⟩
  have Nc:iW ops A j=undef->b≠want:=fun e=>by
   rw[e]at hb
   have:b= !want:=by
    have:KB undef want= .bool (!want):=rfl
    rw[this]at hb
    simpa using hb.symm
   rw[this]
   cases want<;>decide
  have yes:b=want->Nb P (fun g=>∃b:Bool,KB (iW ops A j) want= .bool b/\(b=want->Yx P (ff A) o.op o.type g v)/\(b≠want->v=undef)) (rQ P s o.op x) s ρ:=fun e=>by
   have:=EQ (x:=x) I R hq hv (h1 e)
   have up:∀g,Yx P (ff A) o.op o.type g v->∃b:Bool,KB (iW ops A j) want= .bool b/\(b=want->Yx P (ff A) o.op o.type g v)/\(b≠want->v=undef):=fun g hx=>⟨b,hb,fun _=>hx,h2⟩
   generalize rQ P s o.op x=t at this⊢
   cases t with
   |Ue=>exact fun g=>up g (this g)
   |bad=>trivial
   |au id off t ys=>
    obtain⟨sb,Q0,c1,c2,c3,c4⟩:=this
    exact⟨sb,Q0,c1,c2,c3,fun s' iS g a b c=>up g (c4 s' iS g a b c)⟩
   |ce a u=>exact fun g hg=>up g (this g hg)
   |cs a us=>exact fun g hg=>up g (this g hg)
   |se q u=>exact fun g hg=>up g (this g hg)
  cases ht:wJ ops j with
  |none=>exact skip (Nc (by unfold iW;rw[ht]))
  |some t=>
   simp only
   split
   ·rename_i z c l hx
    obtain⟨r1,r2,r3⟩:=R.get t _ hx
    have hz:z=c:=r2
    have hgv:iW ops A j= .bool z:=by unfold iW;rw[ht];exact r3
    have hbz:b=z:=by
     rw[hgv]at hb
     have:KB (.bool z) want= .bool z:=rfl
     rw[this]at hb
     simpa using hb.symm
    split
    ·exact yes (by rw[hbz,hz])
    ·exact yes (by rw[hbz,hz])
    ·rename_i n1 n2
     refine skip fun e=> ?_
     rw[hbz,hz]at e
     cases c<;>cases want<;>first|exact n1 rfl rfl|exact n2 rfl rfl|cases e
   ·rename_i hx
    exact skip (Nc (by unfold iW;rw[ht];exact(R.get t _ hx).2.2))
   ·trivial
theorem AP{f g:Nat->Oper->Prop}(hfg:∀i o,f i o->g i o):∀{l:List (Nat×Oper)},GO f l->GO g l
 |[],_=>trivial
 |[(i,o)],h=>hfg i o h
 |(i,o)::p::r,h=>⟨hfg i o h.1,AP hfg h.2⟩
theorem qw:∀{l:List (Nat×Oper)}{i:Nat}{o:Oper},cU l=some (i,o)->(uZ o.op||zJ o.op)=true
 |[],_,_,h=>by simp[cU]at h
 |(j,o')::r,i,o,h=>by
  unfold cU at h
  cases hq:(uZ o'.op||zJ o'.op)with
  |true=>
   rw[hq]at h
   simp only[Option.some.injEq,Prod.mk.injEq]at h
   obtain⟨rfl,rfl⟩:=h
   exact hq
  |false=>rw[hq]at h;exact qw h
theorem GD.eq{P:Program}{s s':St}{ρ:List Nat}(hm:s'.m=s.m)(hL:s'.L=s.L)(jF:s'.md=s.md):∀{S:j9}{T:List (Nat×Ht)},GD P s ρ S T->GD P s' ρ S T
 |_,_,.nil=> .nil
 |_,_,.cons (t:=t) h1 h2=>by
  cases t with
  |au id off ty ys=>
   obtain⟨sb,Q0,c1,c2,c3,c4⟩:=h1
   exact .cons ⟨sb,Q0,c1.trans (fC hm hL jF),c2,by rw[hL];exact c3,c4⟩ (h2.eq hm hL jF)
  |Ue=>exact .cons h1 (h2.eq hm hL jF)
  |bad=>exact .cons h1 (h2.eq hm hL jF)
  |ce a v=>exact .cons h1 (h2.eq hm hL jF)
  |cs a vs=>exact .cons h1 (h2.eq hm hL jF)
  |se q v=>exact .cons h1 (h2.eq hm hL jF)
theorem oI{P:Program}{n:Nat}{ops:List Oper}{s0:St}{sX:List Nat}{K:St->Prop}{K':aU->Heap->Prop}(hK:To s0 sX K K'):∀{m:Nat}{l:List Bool}{s:St}{ρ:List Nat}{A:aU}{h:Heap}{S:j9}{T:List (Nat×Ht)},Inv s ρ h->Rel ρ s.m s.E A->Nx s0 sX s ρ->GD P s ρ S T->vh P n ops K m l s T->jt P n ops K' m l A h S
 |0,l,s,ρ,A,h,S,T,I,R,N,G,H=>by
  simp only[vh]at H
  simp only[jt]
  cases hr:aY ops 0 l with
  |nil=>rw[hr]at H;exact hK s ρ A h I R N H
  |cons a b=>rw[hr]at H;exact H.elim
 |m+1,l,s,ρ,A,h,S,T,I,R,N,G,H=>by
  simp only[vh]at H
  simp only[jt]
  cases hq:cU (aY ops 0 l)with
  |some q=>
   obtain⟨i,o⟩:=q
   rw[hq]at H
   simp only at H⊢
   have hqu:=qw hq
   have st:=EN hqu (xy I R H)
   rw[rJ]
   cases hp:uZ o.op with
   |true=>
    refine na st fun v h' ⟨hh,hY,s',x,iS,a1,a2,a3,a4,a5,a6,a7⟩=> ?_
    rw[gM]
    obtain⟨b1,b2,b3,b4,b5⟩:=rW (n:=n) (dst:=o.dst) a1 a2 a3 a4 a5
    cases Q3:oF (rS s.md s'.md) T with
    |true=>
     simp only[Q3,hp]at a7
     exact oI hK b1 b2 ((N.trans a6).trans (fC b3 b4 b5)) ((G.step a6 Q3).eq b3 b4 b5) a7
    |false=>simp only[Q3]at a7
   |false=>
    have hR:zJ o.op=true:=by rw[hp,Bool.false_or]at hqu;exact hqu
    refine na st fun v h' ⟨hh,hY,s',x,iS,a1,a2,a3,a4,a5,a6,a7⟩=> ?_
    rw[gM]
    obtain⟨b1,b2,b3,b4,b5⟩:=rW (n:=n) (dst:=o.dst) a1 a2 a3 a4 a5
    cases Q3:oF (rS s.md s'.md) T with
    |true=>
     simp only[Q3,hp]at a7
     have abc:=Q2 (P:=P) (ops:=ops) (x:=x) a1 a2 hR a3 (by rw[hh];exact hY)
     exact oI hK b1 b2 ((N.trans a6).trans (fC b3 b4 b5)) ((GD.cons abc (G.step a6 Q3)).eq b3 b4 b5) a7
    |false=>simp only[Q3]at a7
  |none=>
   rw[hq]at H
   simp only at H⊢
   cases hr:aY ops 0 l with
   |nil=>rw[hr]at H;exact hK s ρ A h I R N H
   |cons a b=>
    rw[hr]at H
    simp only at H⊢
    refine AP (fun i o H=> ?_) H
    rw[rJ]
    refine na (xy I R H) fun v h' ⟨s',x,iS,a1,a2,a3,a4,a5,a6,a7⟩=> ?_
    rw[gM]
    have G2:=G.keep (bf:=u1 ops o)
    generalize AG (u1 ops o) T=T2 at G2 a7
    unfold lc
    generalize qo (u1 ops o) S=S2 at G2⊢
    cases T2 with
    |nil=>
     cases G2
     obtain⟨b1,b2,b3,b4,b5⟩:=rW (n:=n) (dst:=o.dst) a1 a2 a3 a4 a5
     exact oI hK b1 b2 ((N.trans a6).trans (fC b3 b4 b5)) .nil a7
    |cons e T3=>
     simp only at a7
     split at a7
     ·rename_i Q3
      obtain⟨s2,C,hE,hL,hm,jF,a8⟩:=iA a1 a7
      have R2:Rel iS s2.m s2.E A:=by rw[hE,hm];exact a2
      have N2:=fC (ρ:=iS) hm hL jF
      have G3:=(G2.step a6 Q3).eq hm hL jF
      obtain⟨b1,b2,b3,b4,b5⟩:=rW (n:=n) (dst:=o.dst) C.inv R2 a3 (by rw[hm];exact a4) a5
      rw[C.h]at a8
      exact G3.tell C.inv a8 fun a9=>oI hK b1 b2 (((N.trans a6).trans N2).trans (fC b3 b4 b5)) (G3.eq b3 b4 b5) a9
     ·exact a7.elim
theorem Ve{P:Program}{n:Nat}{ops:List Oper}{draw:Bool}{s0:St}{sX:List Nat}{K:St->Prop}{K':aU->Heap->Prop}(hK:To s0 sX K K'){s:St}{ρ:List Nat}{A:aU}{h:Heap}(I:Inv s ρ h)(R:Rel ρ s.m s.E A)(N:Nx s0 sX s ρ)(H:U6 P n ops draw s K):Mr P n ops draw A h K':=by
 unfold U6 at H
 unfold Mr
 cases draw with
 |false=>exact Na hK I R N H
 |true=>
  simp only at H⊢
  cases hp:fo ops ops 0 with
  |true=>rw[hp]at H;exact oI hK I R N .nil H
  |false=>rw[hp]at H;exact H.elim
def Nd:(sig:List Sh)->Eb sig->List Lf->(Heap->Prop)->Prop
 |[],J,[],J0=>J=J0
 | .i k::r,J,.i k' x::vs,J0=>k=k'/\Nd r (J x) vs J0
 | .b::r,J,.b x none::vs,J0=>Nd r (J x) vs J0
 | .s::r,J,.s x::vs,J0=>Nd r (J x) vs J0
 | .sl::r,J,.sl x::vs,J0=>Nd r (J x) vs J0
 | .r::r,J,.r x::vs,J0=>Nd r (J x) vs J0
 | .q e::r,J,.q x e'::vs,J0=>e=e'/\Nd r (J x) vs J0
 | .m::r,J,.m x::vs,J0=>Nd r (J x) vs J0
 | .n::r,J,.q (some ⟨b,0,none⟩) 0::vs,J0=>Nd r (J b) vs J0
 |_,_,_,_=>False
theorem Jz{x:Lf}{b:Nat}(h:He x=some b)(ρ:List Nat):x.v ρ=VP b 0:=by
 unfold He at h
 split at h
 ·have h:=Option.some.inj h
  subst h
  rfl
 ·cases h
theorem kf:∀{sig:List Sh}{J:Eb sig}{Q:List Lf->(Heap->Prop)->Prop}{xs:List Lf}{J0:Heap->Prop},vF sig J Q->Nd sig J xs J0->Q xs J0
 |[],J,Q,[],J0,h,ha=>by
  have ha:J=J0:=ha
  subst ha
  exact h
 | .i k::r,J,Q,.i k' x::xs,J0,h,ha=>by
   obtain⟨rfl,ha⟩:=ha
   exact kf (sig:=r) (J:=J x) (Q:=fun vs J'=>Q (.i k x::vs) J') (h x) ha
 | .b::r,J,Q,.b x none::xs,J0,h,ha=>kf (sig:=r) (J:=J x) (Q:=fun vs J'=>Q (.b x none::vs) J') (h x) ha
 | .s::r,J,Q,.s x::xs,J0,h,ha=>kf (sig:=r) (J:=J x) (Q:=fun vs J'=>Q (.s x::vs) J') (h x) ha
 | .sl::r,J,Q,.sl x::xs,J0,h,ha=>kf (sig:=r) (J:=J x) (Q:=fun vs J'=>Q (.sl x::vs) J') (h x) ha
 | .r::r,J,Q,.r x::xs,J0,h,ha=>kf (sig:=r) (J:=J x) (Q:=fun vs J'=>Q (.r x::vs) J') (h x) ha
 | .q e::r,J,Q,.q x e'::xs,J0,h,ha=>by
   obtain⟨rfl,ha⟩:=ha
   exact kf (sig:=r) (J:=J x) (Q:=fun vs J'=>Q (.q x e::vs) J') (h x) ha
 | .m::r,J,Q,.m x::xs,J0,h,ha=>kf (sig:=r) (J:=J x) (Q:=fun vs J'=>Q (.m x::vs) J') (h x) ha
 | .n::r,J,Q,.q (some ⟨b,0,none⟩) 0::xs,J0,h,ha=>kf (sig:=r) (J:=J b) (Q:=fun vs J'=>Q (.q (some ⟨b,0,none⟩) 0::vs) J') (h b) ha
theorem kg{ρ:List Nat}{h:Heap}:∀{sig:List Sh}{J:Eb sig}{vs:List Lf},qN ρ sig J vs h->∃xs J0,Nd sig J xs J0/\J0 h/\(∀m,bP m xs=true)/\cD xs/\dB ρ xs=dB ρ vs
 |[],J,[],hj=>⟨[],J,rfl,hj,fun _=>rfl,trivial,rfl⟩
 | .i k::r,J,.i k' x::vs,hj=>by
   simp only[qN]at hj
   split at hj
   ·rename_i hk
    obtain rfl:=of_decide_eq_true hk
    obtain⟨xs,J0,h1,h2,h3,h4,h5⟩:=kg hj
    exact⟨.i k x::xs,J0,⟨rfl,h1⟩,h2,fun m=>by simp[bP,Lf.ok,h3 m],⟨trivial,h4⟩,by simp only[dB,h5]⟩
   ·exact hj.elim
 | .b::r,J,.b x kn::vs,hj=>by
   obtain⟨xs,J0,h1,h2,h3,h4,h5⟩:=kg (sig:=r) (J:=J x) (vs:=vs) hj
   exact⟨.b x none::xs,J0,h1,h2,fun m=>by simp[bP,Lf.ok,h3 m],⟨trivial,h4⟩,by simp only[dB,h5];rfl⟩
 | .s::r,J,.s x::vs,hj=>by
   obtain⟨xs,J0,h1,h2,h3,h4,h5⟩:=kg (sig:=r) (J:=J x) (vs:=vs) hj
   exact⟨.s x::xs,J0,h1,h2,fun m=>by simp[bP,Lf.ok,h3 m],⟨trivial,h4⟩,by simp only[dB,h5]⟩
 | .sl::r,J,.sl x::vs,hj=>by
   obtain⟨xs,J0,h1,h2,h3,h4,h5⟩:=kg (sig:=r) (J:=J x) (vs:=vs) hj
   exact⟨.sl x::xs,J0,h1,h2,fun m=>by simp[bP,Lf.ok,h3 m],⟨trivial,h4⟩,by simp only[dB,h5]⟩
 | .r::r,J,x::vs,hj=>by
   obtain⟨xs,J0,h1,h2,h3,h4,h5⟩:=kg (sig:=r) (J:=J (x.v ρ)) (vs:=vs) (by cases x<;>exact hj)
   exact⟨.r (x.v ρ)::xs,J0,h1,h2,fun m=>by simp[bP,Lf.ok,h3 m],⟨trivial,h4⟩,by simp only[dB,h5];rfl⟩
 | .q e::r,J,.q x e'::vs,hj=>by
   obtain⟨xs,J0,h1,h2,h3,h4,h5⟩:=kg (sig:=r) (J:=J x) (vs:=vs) hj
   exact⟨.q x e::xs,J0,⟨rfl,h1⟩,h2,fun m=>by simp[bP,Lf.ok,h3 m],⟨trivial,h4⟩,by simp only[dB,h5];rfl⟩
 | .m::r,J,.m x::vs,hj=>by
   obtain⟨xs,J0,h1,h2,h3,h4,h5⟩:=kg (sig:=r) (J:=J x) (vs:=vs) hj
   exact⟨.m x::xs,J0,h1,h2,fun m=>by simp[bP,Lf.ok,h3 m],⟨trivial,h4⟩,by simp only[dB,h5]⟩
 | .n::r,J,x::vs,hj=>by
   have hj:(match He x with|some b=>qN ρ r (J b) vs h|none=>False):=by cases x<;>exact hj
   cases hb:He x with
   |none=>rw[hb]at hj;exact hj.elim
   |some b=>
    rw[hb]at hj
    obtain⟨xs,J0,h1,h2,h3,h4,h5⟩:=kg (sig:=r) (J:=J b) (vs:=vs) hj
    exact⟨.q (some ⟨b,0,none⟩) 0::xs,J0,h1,h2,fun m=>by simp[bP,Lf.ok,h3 m],⟨trivial,h4⟩,by simp only[dB,h5,Jz hb];rfl⟩
theorem nb:∀{ss:List Sh}{vs:List Lf}{K:List Lf->List Lf->Prop},vi ss vs K->K (vs.take ss.length) (vs.drop ss.length)
 |[],vs,K,h=>by simpa[vi]using h
 |s::ss,x::vs,K,h=>by
  simp only[vi]at h
  have:=nb h
  simpa using this
 |s::ss,[],K,h=>by simp[vi]at h
def KY:As->List Lf->Av
 | .l _,x::_=> .l x
 | .l _,[]=> .l .u
 | .a ss,vs=> .a (vs.take ss.length)
theorem Hn{sh:As}{vs:List Lf}{K:Av->List Lf->Prop}(h:Ug sh vs K):K (KY sh vs) (vs.drop (Uf sh).length):=by
 cases sh with
 |l x=>
  cases vs with
  |nil=>exact h.elim
  |cons y vs=>exact h
 |a ss=>
  have:=nb h
  exact this
def eI(n:Nat):List It->List Lf->List (Nat×Option Tv)->List (Nat×Option Tv)
 |[],_,E=>E
 |x::r,vs,E=>eI n r (vs.drop (Uf x.sh).length) (Hf n E x.t (some (.v (KY x.sh vs))))
theorem AQ{n:Nat}:∀{oG:List It}{vs:List Lf}{E:List (Nat×Option Tv)}{K:List Lf->List (Nat×Option Tv)->Prop},U7 n oG vs E K->K (vs.drop (qa oG).length) (eI n oG vs E)
 |[],vs,E,K,h=>h
 |x::r,vs,E,K,h=>by
  have:=AQ (Hn h)
  simp only[qa,List.length_append]
  rw[<-List.drop_drop]
  exact this
def l2(ch:List Nat):List (Nat×List Lf)->List Lf->List (Nat×List Lf)
 |[],_=>[]
 |(i,xs)::L,vs=>match eH ch i with
  |true=>(i,vs.take (oE xs).length)::l2 ch L (vs.drop (oE xs).length)
  |false=>(i,xs)::l2 ch L vs
theorem tD{ch:List Nat}:∀{L:List (Nat×List Lf)}{vs:List Lf}{K:List (Nat×List Lf)->List Lf->Prop},MM ch L vs K->K (l2 ch L vs) (vs.drop (zS ch L).length)
 |[],vs,K,h=>h
 |(i,xs)::L,vs,K,h=>by
  unfold MM at h
  unfold l2 zS
  cases hi:eH ch i with
  |true=>
   rw[hi]at h
   have:=tD (nb h)
   simp only[List.length_append]
   rw[<-List.drop_drop]
   exact this
  |false=>rw[hi]at h;exact tD h
theorem xz(ρ:List Nat)(xs:List Lf)(n:Nat):dB ρ (xs.take n)=(dB ρ xs).take n:=by rw[eC,eC,List.map_take]
theorem ma(ρ:List Nat)(xs:List Lf)(n:Nat):dB ρ (xs.drop n)=(dB ρ xs).drop n:=by rw[eC,eC,List.map_drop]
theorem jc(ρ:List Nat)(xs ys:List Lf):dB ρ (xs++ys)=dB ρ xs++dB ρ ys:=by rw[eC,eC,eC,List.map_append]
theorem fH(ρ:List Nat)(xs:List Lf):(dB ρ xs).length=xs.length:=by rw[eC,List.length_map]
theorem kh:∀xs:List Lf,(oE xs).length=xs.length
 |[]=>rfl
 |_::xs=>by simp[oE,kh xs]
theorem Cd:∀ss:List Sh,EH.zR ss=ss.length
 |[]=>rfl
 |_::ss=>by simp[EH.zR,Cd ss]
def avV:As->List Value->Value
 | .l _,v::_=>v
 | .l _,[]=>undef
 | .a ss,vs=> .agg (vs.take ss.length).toArray
theorem Vf(ρ:List Nat)(sh:As)(xs:List Lf):(KY sh xs).v ρ=avV sh (dB ρ xs):=by
 cases sh with
 |l x=>cases xs<;>rfl
 |a ss=>simp only[KY,avV,Av.v,xz]
theorem Q4{m:Nat}{sh:As}{xs:List Lf}(h:bP m xs=true)(hf:cD xs):(KY sh xs).ok m=true/\(KY sh xs).fact:=by
 cases sh with
 |l x=>
  cases xs with
  |nil=>exact⟨rfl,trivial⟩
  |cons y ys=>
   simp only[bP,Bool.and_eq_true]at h
   exact⟨h.1,hf.1⟩
 |a ss=>exact⟨cO.2 fun x hx=>cO.1 h x (List.mem_of_mem_take hx),bQ.2 fun x hx=>bQ.1 hf x (List.mem_of_mem_take hx)⟩
def Q5:List It->List Value->List Value
 |[],_=>[]
 |x::r,vs=>avV x.sh vs::Q5 r (vs.drop (Uf x.sh).length)
def tE(n:Nat)(j:Nat->Value):List Nat->aU->aU
 |[],A=>A
 |t::ts,A=>tE n j ts (wS n A (some t) (j t))
def nK(n:Nat):List Nat->List Value->aU->aU
 |[],_,A=>A
 |_::_,[],A=>A
 |t::ts,v::vs,A=>nK n ts vs (wS n A (some t) v)
theorem xA{α:Sort _}{n:Nat}{j:Nat->Value}{k:aU->α}:∀(L:List Nat)(A:aU),qJ n j L A k=k (tE n j L A)
 |[],A=>rfl
 |t::ts,A=>by simp only[qJ,tE,gM];exact xA ts _
theorem Ce{α:Sort _}{n:Nat}{k:aU->α}:∀(L:List Nat)(vs:List Value)(A:aU),rL n L vs A k=k (nK n L vs A)
 |[],_,A=>rfl
 |_::_,[],A=>rfl
 |t::ts,v::vs,A=>by simp only[rL,nK,gM];exact Ce ts vs _
theorem xB{ρ:List Nat}{m n:Nat}{E:List (Nat×Option Tv)}{A:aU}(R:Rel ρ m E A){t:Nat}{x:Option Tv}{v:Value}(hx:∀y,x=some y->y.ok m=true/\y.fact/\v=y.val ρ):Rel ρ m (Hf n E t x) (wS n A (some t) v):=by
 unfold Hf wS
 simp only
 cases hb:Nat.blt t n with
 |false=>exact R
 |true=>
  refine⟨fun t' y hy=> ?_⟩
  simp only[p9]at hy
  simp only[lG]
  cases hd:Nat.beq t t' with
  |true=>rw[hd]at hy;exact hx y hy
  |false=>rw[hd]at hy;exact R.get t' y hy
theorem AR{ρ:List Nat}{m n:Nat}{j:Nat->Value}:∀{ts:List Nat}{E:List (Nat×Option Tv)}{A:aU},Rel ρ m E A->Rel ρ m (EG n ts E) (tE n j ts A)
 |[],E,A,R=>R
 |t::ts,E,A,R=>by
  simp only[EG,tE]
  exact AR (xB R fun y hy=>by cases hy)
theorem Nf{ρ:List Nat}{m n:Nat}:∀{oG:List It}{xs:List Lf}{E:List (Nat×Option Tv)}{A:aU},Rel ρ m E A->bP m xs=true->cD xs->Rel ρ m (eI n oG xs E) (nK n (l9 oG) (Q5 oG (dB ρ xs)) A)
 |[],xs,E,A,R,_,_=>R
 |x::r,xs,E,A,R,ho,hf=>by
  simp only[eI,l9,Q5,nK]
  rw[<-ma]
  obtain⟨h1,h2⟩:=Q4 (sh:=x.sh) ho hf
  refine Nf (xB R fun y hy=> ?_) (cO.2 fun z hz=>cO.1 ho z (List.mem_of_mem_drop hz)) (bQ.2 fun z hz=>bQ.1 hf z (List.mem_of_mem_drop hz))
  have hy:=Option.some.inj hy
  subst hy
  exact⟨h1,h2,(Vf ρ x.sh xs).symm⟩
theorem tF{ρ:List Nat}{m:Nat}{E:List (Nat×Option Tv)}{A:aU}(R:Rel ρ m E A):∀{oG:List It}{K:List Lf->Prop},EH E oG K->∃vs,K vs/\vs.length=(qa oG).length/\∀rest,dI A (l9 oG)=Q5 oG (dB ρ (vs++rest))
 |[],K,h=>⟨[],h,rfl,fun _=>rfl⟩
 |x::r,K,h=>by
  unfold EH at h
  split at h
  ·rename_i y sh hy hs
   obtain⟨vs,h1,h2,h3⟩:=tF R h
   refine⟨y::vs,h1,by simp[qa,hs,Uf,h2,Nat.add_comm],fun rest=> ?_⟩
   simp only[l9,dI,Q5,hs,avV,Uf,List.cons_append,dB]
   rw[(R.get _ _ hy).2.2,h3 rest]
   rfl
  ·rename_i ys ss hy hs
   split at h
   ·rename_i hn
    have hl:ys.length=ss.length:=by rw[<-ke,<-Cd];exact Nat.eq_of_beq_eq_true hn
    obtain⟨vs,h1,h2,h3⟩:=tF R h
    refine⟨ys++vs,h1,by simp[qa,hs,Uf,h2,hl],fun rest=> ?_⟩
    simp only[l9,dI,Q5,hs,avV,Uf]
    rw[(R.get _ _ hy).2.2,h3 rest,List.append_assoc,jc ρ ys (vs++rest)]
    rw[List.take_left' (by rw[fH,hl]),List.drop_left' (by rw[fH,hl])]
    rfl
   ·exact h.elim
  ·exact h.elim
theorem Cf{ch:List Nat}(ρ:List Nat):∀(L:List (Nat×List Lf))(xs:List Lf),(kb ρ (l2 ch L xs)).map (·.1)=(kb ρ L).map (·.1)
 |[],_=>rfl
 |(i,ys)::L,xs=>by
  unfold l2
  cases eH ch i with
  |true=>simp only[kb,List.map_cons];rw[Cf ρ L]
  |false=>simp only[kb,List.map_cons];rw[Cf ρ L]
theorem ER{ch:List Nat}{m:Nat}:∀{L:List (Nat×List Lf)}{xs:List Lf},rB m L=true->oD L->bP m xs=true->cD xs->rB m (l2 ch L xs)=true/\oD (l2 ch L xs)
 |[],_,_,_,_,_=>⟨rfl,trivial⟩
 |(i,ys)::L,xs,h1,h2,h3,h4=>by
  simp only[rB,Bool.and_eq_true]at h1
  unfold l2
  cases eH ch i with
  |true=>
   obtain⟨a,b⟩:=ER (ch:=ch) h1.2 h2.2 (cO.2 fun z hz=>cO.1 h3 z (List.mem_of_mem_drop (i:=(oE ys).length) hz)) (bQ.2 fun z hz=>bQ.1 h4 z (List.mem_of_mem_drop (i:=(oE ys).length) hz))
   refine⟨?_,bQ.2 fun z hz=>bQ.1 h4 z (List.mem_of_mem_take hz),b⟩
   simp only[rB,Bool.and_eq_true]
   exact⟨⟨h1.1.1,cO.2 fun z hz=>cO.1 h3 z (List.mem_of_mem_take hz)⟩,a⟩
  |false=>
   obtain⟨a,b⟩:=ER (ch:=ch) h1.2 h2.2 h3 h4
   exact⟨by simp[rB,h1.1.1,h1.1.2,a],h2.1,b⟩
theorem Cg{ch:List Nat}:∀{L:List (Nat×List Lf)}{xs:List Lf}{id:Nat},eH ch id=false->cE (l2 ch L xs) id=cE L id
 |[],_,_,_=>rfl
 |(i,ys)::L,xs,id,h=>by
  unfold l2
  cases hi:eH ch i with
  |true=>
   simp only[cE]
   cases hb:Nat.beq i id with
   |true=>have:=Nat.eq_of_beq_eq_true hb;subst this;rw[hi]at h;cases h
   |false=>exact Cg h
  |false=>
   simp only[cE]
   cases Nat.beq i id with
   |true=>rfl
   |false=>exact Cg h
theorem tG{ρ:List Nat}{ch:List Nat}{L':List (Nat×List Lf)}:∀{L0:List (Nat×List Lf)}{K:List Lf->Prop},MN L' ch L0 K->∃vs,K vs/\vs.length=(zS ch L0).length/\∀xs tl,dB ρ xs=dB ρ vs++tl->∀p,p∈l2 ch L0 xs->(eH ch p.1=true/\∃cs,cE L' p.1=some cs/\dB ρ p.2=dB ρ cs)\/(eH ch p.1=false/\p∈L0)
 |[],K,h=>⟨[],h,rfl,fun xs _ _ p hp=>by simp[l2]at hp⟩
 |(i,ys)::L0,K,h=>by
  unfold MN at h
  unfold zS
  cases hi:eH ch i with
  |true=>
   rw[hi]at h
   simp only at h
   split at h
   ·rename_i cs GA
    split at h
    ·rename_i hn
     have hl:cs.length=ys.length:=by rw[<-ke,<-ke];exact Nat.eq_of_beq_eq_true hn
     obtain⟨vs,h1,h2,h3⟩:=tG (ρ:=ρ) h
     refine⟨cs++vs,h1,by simp only[List.length_append,kh];omega,fun xs tl hxs p hp=> ?_⟩
     unfold l2 at hp
     rw[hi]at hp
     rw[jc,List.append_assoc]at hxs
     rcases List.mem_cons.1 hp with rfl|hp
     ·refine .inl ⟨hi,cs,GA,?_⟩
      simp only
      rw[xz,hxs,kh,List.take_left' (by rw[fH,hl])]
     ·rcases h3 (xs.drop (oE ys).length) tl (by rw[ma,hxs,kh,List.drop_left' (by rw[fH,hl])]) p hp with h3|h3
      ·exact .inl h3
      ·exact .inr ⟨h3.1,List.mem_cons_of_mem _ h3.2⟩
    ·exact h.elim
   ·exact h.elim
  |false=>
   rw[hi]at h
   obtain⟨vs,h1,h2,h3⟩:=tG (ρ:=ρ) h
   refine⟨vs,h1,h2,fun xs tl hxs p hp=> ?_⟩
   unfold l2 at hp
   rw[hi]at hp
   rcases List.mem_cons.1 hp with rfl|hp
   ·exact .inr ⟨hi,by simp⟩
   ·rcases h3 xs tl hxs p hp with h3|h3
    ·exact .inl h3
    ·exact .inr ⟨h3.1,List.mem_cons_of_mem _ h3.2⟩
theorem Vars.sub{h h0:Heap}{VL:List (Nat×List Value)}(H:Vars h VL):∀{V0 VQ:List (Nat×List Value)},Vars h0 V0->VQ.map (·.1)=V0.map (·.1)->(∀q,q∈VQ->q∈VL)->Vars h VQ
 |[],[],_,_,_=> .nil
 |(b,cs)::V0,(b',lH)::VQ,.cons hv hn hl,hk,hm=>by
  simp only[List.map_cons,List.cons.injEq]at hk
  obtain⟨rfl,hk⟩:=hk
  refine .cons (H.mem _ (hm (b',lH) (by simp))) (fun p hp e=> ?_) (H.sub hl hk fun q hq=>hm q (by simp[hq]))
  have:p.1∈V0.map (·.1):=by rw[<-hk];exact List.mem_map.2 ⟨p,hp,rfl⟩
  obtain⟨q,hq,hqe⟩:=List.mem_map.1 this
  exact hn q hq (hqe.trans e)
 |[],_::_,_,hk,_=>by simp at hk
 |_::_,[],_,hk,_=>by simp at hk
theorem kk{ρ:List Nat}:∀{L:List (Nat×List Lf)}{q:Nat×List Value},q∈kb ρ L↔∃p,p∈L/\q=(eM ρ p.1,dB ρ p.2)
 |[],q=>by simp[kb]
 |(i,xs)::L,q=>by
  simp only[kb,List.mem_cons,kk (L:=L)]
  constructor
  ·rintro(rfl|⟨p,h1,h2⟩)
   ·exact⟨(i,xs),.inl rfl,rfl⟩
   ·exact⟨p,.inr h1,h2⟩
  ·rintro⟨p,(rfl|h1),h2⟩
   ·exact .inl h2
   ·exact .inr ⟨p,h1,h2⟩
theorem ku:∀{L:List (Nat×List Lf)}{id:Nat}{cs:List Lf},cE L id=some cs->(id,cs)∈L
 |[],id,cs,h=>by simp[cE]at h
 |(i,xs)::L,id,cs,h=>by
  unfold cE at h
  cases hb:Nat.beq i id with
  |true=>
   rw[hb]at h
   have:=Nat.eq_of_beq_eq_true hb
   subst this
   have h:=Option.some.inj h
   subst h
   simp
  |false=>rw[hb]at h;exact List.mem_cons_of_mem _ (ku h)
theorem nc{ρ:List Nat}{h:Heap}:∀{L:List (Nat×List Lf)}{id:Nat}{cs:List Lf},Vars h (kb ρ L)->(id,cs)∈L->cE L id=some cs
 |(i,xs)::L,id,cs,V,hm=>by
  unfold cE
  rcases List.mem_cons.1 hm with e|hm
  ·simp only[Prod.mk.injEq]at e
   obtain⟨rfl,rfl⟩:=e
   simp
  ·cases hb:Nat.beq i id with
   |true=>
    have:=Nat.eq_of_beq_eq_true hb
    subst this
    exact absurd rfl (V.ne (eM ρ i,dB ρ cs) (kk.2 ⟨(i,cs),hm,rfl⟩))
   |false=>exact nc V.tail hm
theorem qP{f:List Value->Prop}:∀{n:Nat},(∀vs,f vs)->ka n f
 |0,h=>h []
 |n+1,h=>fun v=>qP (n:=n) fun vs=>h (v::vs)
theorem xC:∀(oG:List It)(vs:List Value),(Q5 oG vs).length=(l9 oG).length
 |[],_=>rfl
 |x::r,vs=>by simp only[Q5,l9,List.length_cons,xC r]
theorem rX(A:aU):∀a b:List Nat,dI A (a++b)=dI A a++dI A b
 |[],b=>rfl
 |x::a,b=>by simp only[List.cons_append,dI,rX A a b]
theorem AU{n:Nat}:∀{a:List Nat}{va:List Value}{b:List Nat}{vb:List Value}{A:aU},va.length=a.length->nK n (a++b) (va++vb) A=nK n b vb (nK n a va A)
 |[],[],b,vb,A,_=>rfl
 |t::a,v::va,b,vb,A,h=>by
  simp only[List.cons_append,nK]
  exact AU (by simpa using h)
 |[],_::_,_,_,_,h=>by simp at h
 |_::_,[],_,_,_,h=>by simp at h
def Vg:List (Nat×List Sh)->List Value->List Value
 |[],_=>[]
 |(_,ss)::r,v::vs=>v::Vg r (vs.drop ss.length)
 |_::r,[]=>undef::Vg r []
def Vh:Value->Nat
 | .pointer (some a)=>a.block
 |_=>0
def vl:List (Nat×List Sh)->List Value->List (Nat×List Value)->List (Nat×List Value)
 |[],_,V=>V
 |(_,ss)::r,v::vs,V=>vl r (vs.drop ss.length) ((Vh v,vs.take ss.length)::V)
 |_::r,[],V=>vl r [] V
theorem AV{ρ:List Nat}{h:Heap}:∀{L:List (Nat×List Lf)}{i j:Nat}{c d:List Lf},Vars h (kb ρ L)->(i,c)∈L->(j,d)∈L->i≠j->eM ρ i≠eM ρ j
 |(k,xs)::L,i,j,c,d,V,hi,hj,dZ=>by
  rcases List.mem_cons.1 hi with e1|hi
  ·rcases List.mem_cons.1 hj with e2|hj
   ·simp only[Prod.mk.injEq]at e1 e2
    exact absurd (e1.1.trans e2.1.symm) dZ
   ·simp only[Prod.mk.injEq]at e1
    have:=V.ne (eM ρ j,dB ρ d) (kk.2 ⟨(j,d),hj,rfl⟩)
    rw[e1.1]
    exact fun e=>this e.symm
  ·rcases List.mem_cons.1 hj with e2|hj
   ·simp only[Prod.mk.injEq]at e2
    have:=V.ne (eM ρ i,dB ρ c) (kk.2 ⟨(i,c),hi,rfl⟩)
    rw[e2.1]
    exact this
   ·exact AV V.tail hi hj dZ
theorem AW{m0:Nat}{s:St}{ρ:List Nat}{h:Heap}{A:aU}(hr:s.ρ=ρ)(I:Vars h (kb ρ s.L))(R:Rel ρ s.m s.E A):∀{nv:List (Nat×List Sh)}{ids:List Nat}{K:List Lf->Prop},QU m0 s ids nv K->
 ∃vs,K vs/\dI A (lJ nv)=Vg nv (dB ρ vs)/\∀V,Vars h V->(∀q,q∈V->∃p,p∈s.L/\(p.1<m0\/eH ids p.1=true)/\q=(eM ρ p.1,dB ρ p.2))->Vars h (vl nv (dB ρ vs) V)
 |[],ids,K,H=>⟨[],H,rfl,fun V hV _=>hV⟩
 |(t,ss)::r,ids,K,H=>by
  unfold QU at H
  split at H
  ·rename_i id hid
   split at H
   ·rename_i h1 h2
    split at H
    ·rename_i cs GA
     split at H
     ·rename_i hn
      have hl:cs.length=ss.length:=by rw[<-ke,<-Cd];exact Nat.eq_of_beq_eq_true hn
      obtain⟨vs,k1,k2,k3⟩:=AW hr I R H
      refine⟨_,k1,?_,fun V hV hq=> ?_⟩
      ·simp only[lJ,dI,dB,Vg,jc]
       rw[k2,List.drop_left' (by rw[fH,hl]),(R.get _ _ hid).2.2,hr]
       rfl
      ·simp only[dB,vl,jc]
       rw[List.drop_left' (by rw[fH,hl]),List.take_left' (by rw[fH,hl])]
       have hm:=ku GA
       have hb:Vh ((Lf.q (some ⟨eM s.ρ id,0,none⟩) 0).v ρ)=eM ρ id:=by rw[hr];rfl
       rw[hb]
       refine k3 _ (.cons (I.mem _ (kk.2 ⟨(id,cs),hm,rfl⟩)) (fun q hqV e=> ?_) hV) fun q hqV=> ?_
       ·obtain⟨p,p1,p2,p3⟩:=hq q hqV
        have dZ:p.1≠id:=fun e=>by
         subst e
         rcases p2 with p2|p2
         ·rw[<-Nat.blt_eq]at p2;rw[h1]at p2;cases p2
         ·rw[h2]at p2;cases p2
        rw[p3]at e
        exact AV I p1 hm dZ e
       ·rcases List.mem_cons.1 hqV with rfl|hqV
        ·exact⟨(id,cs),hm,.inr (by simp[eH]),rfl⟩
        ·obtain⟨p,p1,p2,p3⟩:=hq q hqV
         refine⟨p,p1,?_,p3⟩
         rcases p2 with p2|p2
         ·exact .inl p2
         ·exact .inr (by simp[eH,p2])
     ·exact H.elim
    ·exact H.elim
   ·exact H.elim
  ·exact H.elim
def JV(a:An)(s:St)(ρ:List Nat)(J:Eb (MO a s.L))(vs:List Value)(h:Heap):Prop:=
 ∃xs J0,Nd _ J xs J0/\J0 h/\(∀m,bP m xs=true)/\cD xs/\vs=Q5 a.oG (dB ρ xs)++Vg a.nv (dB ρ ((xs.drop (qa a.oG).length).drop (zS a.ch s.L).length))/\
  Vars h (vl a.nv (dB ρ ((xs.drop (qa a.oG).length).drop (zS a.ch s.L).length)) (kb ρ (l2 a.ch s.L (xs.drop (qa a.oG).length))))
theorem xD{m:Nat}{ch:List Nat}:∀{l:List Nat},Jr m ch l=true->∀i,i<m->eH ch i=false->eH l i=false
 |[],_,_,_,_=>rfl
 |j::l,h,i,hi,hc=>by
  simp only[Jr,Bool.and_eq_true,Bool.or_eq_true,Bool.not_eq_true']at h
  simp only[eH,Bool.or_eq_false_iff]
  refine⟨?_,xD h.2 i hi hc⟩
  cases hb:Nat.beq j i with
  |false=>rfl
  |true=>
   have:=Nat.eq_of_beq_eq_true hb
   subst this
   rcases h.1 with h1|h1
   ·rw[h1]at hc;cases hc
   ·rw[<-Nat.blt_eq]at hi;rw[h1]at hi;cases hi
theorem Ci{m:Nat}:∀{L:List (Nat×List Lf)},rB m L=true->∀p,p∈L->p.1<m/\bP m p.2=true
 |[],_,p,hp=>by simp at hp
 |(i,ys)::L,hL,p,hp=>by
  simp only[rB,Bool.and_eq_true]at hL
  rcases List.mem_cons.1 hp with rfl|hp
  ·exact⟨fb.1 hL.1.1,hL.1.2⟩
  ·exact Ci hL.2 p hp
theorem iE{m n:Nat}{xs:List Lf}(h:bP m xs=true):bP m (xs.drop n)=true:=cO.2 fun z hz=>cO.1 h z (List.mem_of_mem_drop hz)
theorem jd{n:Nat}{xs:List Lf}(h:cD xs):cD (xs.drop n):=bQ.2 fun z hz=>bQ.1 h z (List.mem_of_mem_drop hz)
theorem Cj{a:An}{s:St}{ρ:List Nat}{h:Heap}(C:Cl s ρ h){J:Eb (MO a s.L)}{s':St}{iS:List Nat}{A:aU}{h':Heap}(I':Inv s' iS h')(R':Rel iS s'.m s'.E A)(N:Nx s ρ s' iS)
 (H:act a s s' fun vs=>qN s'.ρ _ J vs s'.h) (hr:s'.ρ=iS) (hh:s'.h=h'):JV a s ρ J (dI A (l9 a.oG++lJ a.nv)) h':=by
 unfold act at H
 split at H
 ·rename_i ho
  obtain⟨vs1,H1,hl,hv⟩:=tF R' H
  obtain⟨vs2,H2,hl2,hp⟩:=tG (ρ:=iS) H1
  obtain⟨vs3,H3,hv3,hN⟩:=AW hr I'.vars R' H2
  rw[hr,hh]at H3
  obtain⟨xs,J0,k1,k2,k3,k4,k5⟩:=kg H3
  obtain⟨y,hy⟩:=N.r
  have same:∀zs:List Lf,(∀m,bP m zs=true)->dB iS zs=dB ρ zs:=fun zs hz=>by rw[hy];exact gW (hz _)
  have hd:dB iS (xs.drop (qa a.oG).length)=dB iS vs2++dB iS vs3:=by
   rw[ma,k5,jc,List.drop_left' (by rw[fH,hl]),jc]
  have hd3:dB ρ ((xs.drop (qa a.oG).length).drop (zS a.ch s.L).length)=dB iS vs3:=by
   rw[<-same _ fun m=>iE (iE (k3 m)),ma,hd,List.drop_left' (by rw[fH,hl2])]
  refine⟨xs,J0,k1,k2,k3,k4,?_,?_⟩
  ·rw[rX,hv (vs2++vs3),<-k5,same _ k3,hd3,hv3]
  ·rw[hd3]
   refine hN _ ?_ ?_
   ·refine I'.vars.sub C.vars (Cf ρ s.L _) fun q hq=> ?_
    obtain⟨p,p1,p2⟩:=kk.1 hq
    have Ng:=Ci (ER (ch:=a.ch) C.tu C.wc (iE (n:=(qa a.oG).length) (k3 s.m)) (jd k4)).1 p p1
    have e1:eM ρ p.1=eM iS p.1:=by rw[hy];exact(jE _ _ _ (by rw[C.len];exact Ng.1)).symm
    have e2:dB ρ p.2=dB iS p.2:=by rw[hy];exact(gW (by rw[C.len];exact Ng.2)).symm
    rw[p2,e1,e2]
    rcases hp _ _ hd p p1 with⟨q1,cs,q2,q3⟩|⟨q1,q2⟩
    ·rw[q3]
     exact kk.2 ⟨(p.1,cs),ku q2,rfl⟩
    ·obtain⟨new,n1,n2⟩:=N.md
     rw[n1,tC]at ho
     have hf:=n2 p.1 (xD ho p.1 Ng.1 q1) Ng.1
     rw[nc C.vars q2]at hf
     exact kk.2 ⟨(p.1,p.2),ku hf,rfl⟩
   ·intro q hq
    obtain⟨p,p1,p2⟩:=kk.1 hq
    have Ng:=Ci (ER (ch:=a.ch) C.tu C.wc (iE (n:=(qa a.oG).length) (k3 s.m)) (jd k4)).1 p p1
    have e1:eM ρ p.1=eM iS p.1:=by rw[hy];exact(jE _ _ _ (by rw[C.len];exact Ng.1)).symm
    have e2:dB ρ p.2=dB iS p.2:=by rw[hy];exact(gW (by rw[C.len];exact Ng.2)).symm
    rw[p2,e1,e2]
    rcases hp _ _ hd p p1 with⟨q1,cs,q2,q3⟩|⟨q1,q2⟩
    ·rw[q3]
     exact⟨(p.1,cs),ku q2,.inl Ng.1,rfl⟩
    ·obtain⟨new,n1,n2⟩:=N.md
     rw[n1,tC]at ho
     have hf:=n2 p.1 (xD ho p.1 Ng.1 q1) Ng.1
     rw[nc C.vars q2]at hf
     exact⟨(p.1,p.2),ku hf,.inl Ng.1,rfl⟩
 ·exact H.elim
theorem JA{n:Nat}{h:Heap}:∀{nv:List (Nat×List Sh)}{vs:List Lf}{s:St}{ρ:List Nat}{A:aU}{K:St->Prop},(Vars h (kb ρ s.L)->Cl s ρ h)->Rel ρ s.m s.E A->(∀m,bP m vs=true)->cD vs->
 Vars h (vl nv (dB ρ vs) (kb ρ s.L))->QT n nv vs s K->∃s2 GC,Cl s2 GC h/\Rel GC s2.m s2.E (nK n (lJ nv) (Vg nv (dB ρ vs)) A)/\s.m<=s2.m/\s2.md=s.md/\(∀id,id<s.m->cE s2.L id=cE s.L id)/\(∃y,GC=ρ++y)/\K s2
 |[],vs,s,ρ,A,K,C,R,_,_,V,H=>⟨s,ρ,C V,R,Nat.le_refl _,rfl,fun _ _=>rfl,⟨[],by simp⟩,H⟩
 |(t,ss)::r,[],s,ρ,A,K,C,R,_,_,V,H=>H.elim
 |(t,ss)::r,x::vs,s,ρ,A,K,C,R,ho,hf,V,H=>by
  unfold QT at H
  cases hb:He x with
  |none=>rw[hb]at H;exact H.elim
  |some b=>
   rw[hb]at H
   have H:=nb H
   have hx:=Jz hb ρ
   simp only[dB,vl,hx]at V
   rw[<-ma,<-xz]at V
   have hvs:∀m,bP m vs=true:=fun m=>by have:=ho m;simp only[bP,Bool.and_eq_true]at this;exact this.2
   have hV0:∀{nv:List (Nat×List Sh)}{vs:List Value}{V:List (Nat×List Value)},Vars h (vl nv vs V)->Vars h V:=by
    intro nv
    induction nv with
    |nil=>intro vs V h;exact h
    |cons p r ih=>
     intro vs V h
     cases vs with
     |nil=>exact ih h
     |cons v vs=>exact(ih h).tail
   have C0:=C (hV0 V).tail
   have ht:∀m,bP m (vs.take ss.length)=true:=fun m=>cO.2 fun z hz=>cO.1 (hvs m) z (List.mem_of_mem_take hz)
   have hl:eM (ρ++[b]) s.m=b:=by rw[<-C0.len];exact rT ρ b []
   have eL:kb (ρ++[b]) ((s.m,vs.take ss.length)::s.L)=(Vh (VP b 0),dB ρ (vs.take ss.length))::kb ρ s.L:=by
    show(eM (ρ++[b]) s.m,dB (ρ++[b]) (vs.take ss.length))::kb (ρ++[b]) s.L=_
    rw[hl,gW (ht _),v7 (by rw[C0.len];exact C0.tu)]
    rfl
   have ed:dB (ρ++[b]) (vs.drop ss.length)=dB ρ (vs.drop ss.length):=gW (iE (hvs _))
   have Rx:=R.ext (y:=[b]) (n:=s.m+1) C0.len (by omega)
   obtain⟨s2,GC,c1,c2,c3,c4,c5,⟨y,c6⟩,c7⟩:=JA (s:={s with E:=Hf n s.E t (some (.v (.l (.p s.m 0)))),L:=(s.m,vs.take ss.length)::s.L,ρ:=s.ρ++[b],m:=s.m+1}) (ρ:=ρ++[b]) (A:=wS n A (some t) (VP b 0)) (fun W=>⟨W,by simp[C0.len],by rw[C0.r],C0.h,C0.nw,C0.so,C0.d,by
    have e1:=ht (s.m+1)
    have e2:=QW (Nat.le_succ s.m) C0.tu
    simp only[rB,Bool.and_eq_true]
    exact⟨⟨fb.2 (Nat.lt_succ_self _),e1⟩,e2⟩,⟨bQ.2 fun z hz=>bQ.1 hf.2 z (List.mem_of_mem_take hz),C0.wc⟩⟩)
    (xB Rx fun y hy=>by
     have hy:=Option.some.inj hy
     subst hy
     refine⟨fb.2 (Nat.lt_succ_self _),trivial,?_⟩
     show VP b 0=VP (eM (ρ++[b]) s.m) 0
     rw[hl]) (fun m=>iE (hvs m)) (jd hf.2) (by rw[eL,ed];exact V) H
   refine⟨s2,GC,c1,?_,by have:s.m+1<=s2.m:=c3
                         omega,c4,fun id hid=> ?_,⟨b::y,by rw[c6];simp⟩,c7⟩
   ·rw[ed]at c2
    simp only[lJ,dB,Vg,hx,nK]
    rw[<-ma]
    exact c2
   ·rw[c5 id (Nat.lt_succ_of_lt hid)]
    exact qO hid
theorem JB{n:Nat}{a:An}{ws:List Nat}{s:St}{ρ:List Nat}{h:Heap}(C:Cl s ρ h){A:aU}(R:Rel ρ s.m s.E A){J:Eb (MO a s.L)}{Q:St->Prop}{vs:List Value}{h':Heap}(hj:JV a s ρ J vs h')
 (H:vF _ J fun vs J'=>∀h':Heap,J' h'->bld n a ws vs {s with h:=h'} fun s2=>Vars h' (kb s2.ρ s2.L)->Q s2) (j:Nat->Value):
 ∃s2 GC,Inv s2 GC h'/\Rel GC s2.m s2.E (nK n (l9 a.oG++lJ a.nv) vs (tE n j ws A))/\Nx s ρ s2 GC/\Q s2:=by
 obtain⟨xs,J0,k1,k2,k3,k4,k5,k6⟩:=hj
 have h1:=kf H k1 h' k2
 unfold bld at h1
 have h2:=tD (AQ h1)
 obtain⟨o1,o2⟩:=ER (ch:=a.ch) C.tu C.wc (iE (n:=(qa a.oG).length) (k3 s.m)) (jd k4)
 rw[k5,AU (xC _ _)]
 obtain⟨s2,GC,c1,c2,c3,c4,c5,c6,c7⟩:=JA (h:=h') (s:={s with h:=h',E:=eI n a.oG xs (EG n ws s.E),L:=l2 a.ch s.L (xs.drop (qa a.oG).length),md:=a.ch++s.md}) (ρ:=ρ) (fun V=>⟨V,C.len,C.r,rfl,C.nw,C.so,C.d,o1,o2⟩) (Nf (AR (n:=n) (j:=j) (ts:=ws) R) (k3 _) k4) (fun m=>iE (iE (k3 m))) (jd (jd k4)) k6 h2
 exact⟨s2,GC,c1.inv,c2,⟨c3,⟨a.ch,c4,fun id hid hm=>(c5 id hm).trans (Cg hid)⟩,c6⟩,c7 (by rw[c1.r];exact c1.vars)⟩
def Uj(an:Nat->Option An)(p:Nat):Option (List Nat):=
 match an p with
 |some a=>some (l9 a.oG++lJ a.nv)
 |none=>none
theorem To.up{s0 s:St}{sX ρ:List Nat}{K:St->Prop}{K':aU->Heap->Prop}(N:Nx s0 sX s ρ)(h:To s0 sX K K'):To s ρ K K':=fun s' iS A h' I R N' k=>h s' iS A h' I R (N.trans N') k
theorem Vj{P:Program}{n:Nat}{an:Nat->Option An}:∀(c:Code){p:Nat}{kn:St->Prop}{kx:Nat->St->Prop}{kr:St->Prop}{pG:aU->Heap->Prop}{rG:Nat->aU->Heap->Prop}{ve:aU->Heap->Prop}{s0 s:St}{sX ρ:List Nat}{A:aU}{h:Heap},Inv s ρ h->Rel ρ s.m s.E A->Nx s0 sX s ρ->
 To s0 sX kn pG->(∀i,To s0 sX (kx i) (rG i))->To s0 sX kr ve->Hg P n an c p kn kx kr s->BS P n (Uj an) c p pG rG ve A h:=by
 intro c
 induction c with
 |skip=>intro p kn kx kr pG rG ve s0 s sX ρ A h I R N tn tx tr H;exact tn s ρ A h I R N H
 |region id ops draw=>intro p kn kx kr pG rG ve s0 s sX ρ A h I R N tn tx tr H;exact Ve tn I R N H
 |seq a b Qo Qq=>
  intro p kn kx kr pG rG ve s0 s sX ρ A h I R N tn tx tr H
  simp only[Hg]at H
  simp only[BS]
  cases Uk:an p with
  |none=>
   rw[Uk]at H
   rw[show Uj an p=none by unfold Uj;rw[Uk]]
   exact Qo I R N (fun s' iS A' h' I' R' N' k=>Qq I' R' N' tn tx tr k) tx tr H
  |some a'=>
   rw[Uk]at H
   rw[show Uj an p=some (l9 a'.oG++lJ a'.nv) by unfold Uj;rw[Uk]]
   simp only at H⊢
   obtain⟨s1,C,hE,hL,hm,jF,J,H1,H2⟩:=iA I H
   have R1:Rel ρ s1.m s1.E A:=by rw[hE,hm];exact R
   have N1:=N.trans (fC (ρ:=ρ) hm hL jF)
   refine⟨JV a' s1 ρ J,?_,fun ta=>qP fun vs h' hj=> ?_⟩
   ·refine Qo C.inv R1 (Nx.refl s1 ρ) (fun s' iS A' h' I' R' N' k=> ?_) (fun i=>(tx i).up N1) (tr.up N1) H1
    obtain⟨s2,C2,hE2,bW,JC,aey,k2⟩:=iA I' k
    have R2:Rel iS s2.m s2.E A':=by rw[hE2,JC];exact R'
    exact Cj C C2.inv R2 (N'.trans (fC JC bW aey)) k2 C2.r C2.h
   ·rw[xA,Ce]
    obtain⟨s2,GC,I2,R2,N2,q⟩:=JB C R1 hj H2 ta
    exact Qq I2 R2 (N1.trans N2) tn tx tr q
 |cond c a b Qo Qq=>
  intro p kn kx kr pG rG ve s0 s sX ρ A h I R N tn tx tr H
  simp only[Hg]at H
  simp only[BS]
  split at H
  ·rename_i x kn0 hx
   obtain⟨b1,b2⟩:=xu I R hx H
   rw[(fq R hx).2.2]
   refine QJ (fun e=> ?_) (fun e=> ?_)
   ·obtain⟨s',I',R',hm,hL,jF,q⟩:=b1 e
    exact Qo I' R' (N.trans (fC hm hL jF)) tn tx tr q
   ·obtain⟨s',I',R',hm,hL,jF,q⟩:=b2 e
    exact Qq I' R' (N.trans (fC hm hL jF)) tn tx tr q
  ·exact H.elim
 |block id c ih=>
  intro p kn kx kr pG rG ve s0 s sX ρ A h I R N tn tx tr H
  simp only[Hg]at H
  simp only[BS]
  refine ih I R N tn (fun i s' iS A' h' I' R' N' k=> ?_) tr H
  cases hb:Nat.beq i id with
  |true=>simp only[hb]at k⊢;exact tn s' iS A' h' I' R' N' k
  |false=>simp only[hb]at k⊢;exact tx i s' iS A' h' I' R' N' k
 |loop c ih=>
  intro p kn kx kr pG rG ve s0 s sX ρ A h I R N tn tx tr H
  simp only[Hg]at H
  simp only[BS]
  cases Uk:an p with
  |none=>rw[Uk]at H;exact H.elim
  |some a'=>
   rw[Uk]at H
   rw[show Uj an p=some (l9 a'.oG++lJ a'.nv) by unfold Uj;rw[Uk]]
   simp only at H⊢
   obtain⟨s1,C,hE,hL,hm,jF,J,⟨n0,H1⟩,H2⟩:=iA I H
   have R1:Rel ρ s1.m s1.E A:=by rw[hE,hm];exact R
   have N1:=N.trans (fC (ρ:=ρ) hm hL jF)
   refine GZ (J:=fun n vs h'=>JV a' s1 ρ (J n) vs h') n0 (Cj C C.inv R1 (Nx.refl s1 ρ) H1 C.r C.h) fun Iv μ hI ta=>qP fun vs h' hi=> ?_
   rw[xA,Ce]
   obtain⟨m0,hj,hn⟩:=hI vs h' hi
   obtain⟨s2,GC,I2,R2,N2,q⟩:=JB C R1 hj (H2 m0) ta
   refine ih I2 R2 N2 (fun s' iS A' kY I' R' N' k=> ?_) (fun i=>(tx i).up N1) (tr.up N1) q
   obtain⟨s3,C3,hE3,cF,hm3,aez,m,tf,k3⟩:=iA I' k
   have R3:Rel iS s3.m s3.E A':=by rw[hE3,hm3];exact R'
   exact hn _ _ ⟨m,tf,Cj C C3.inv R3 (N'.trans (fC hm3 cF aez)) k3 C3.r C3.h⟩
 |exit id=>intro p kn kx kr pG rG ve s0 s sX ρ A h I R N tn tx tr H;exact tx id s ρ A h I R N H
 |ret=>intro p kn kx kr pG rG ve s0 s sX ρ A h I R N tn tx tr H;exact tr s ρ A h I R N H
 |label l=>intro p kn kx kr pG rG ve s0 s sX ρ A h I R N tn tx tr H;exact tn s ρ A h I R N H
 |_=>intro p kn kx kr pG rG ve s0 s sX ρ A h I R N tn tx tr H;exact H.elim
def Vk:Lf->Bool
 | .b _ (some _)=>false
 |_=>true
def ES:List Lf->Bool
 |[]=>true
 |x::xs=>Vk x&&ES xs
def abg:Tv->Bool
 | .v (.l x)=>Vk x
 | .v (.a xs)=>ES xs
 | .t _=>false
def JD:List Tv->Bool
 |[]=>true
 |x::xs=>abg x&&JD xs
def nkL:List (Nat×List Lf)->Bool
 |[]=>true
 |(_,xs)::L=>ES xs&&nkL L
theorem JE{x:Lf}(h:Vk x=true):x.fact:=by
 cases x<;>try trivial
 case b x kn=>cases kn with
  |none=>trivial
  |some _=>cases h
theorem xE:∀{xs:List Lf},ES xs=true->cD xs
 |[],_=>trivial
 |x::xs,h=>by
  simp only[ES,Bool.and_eq_true]at h
  exact⟨JE h.1,xE h.2⟩
theorem Q8{x:Tv}(h:abg x=true):x.fact:=by
 cases x with
 |v x=>cases x with
  |l x=>exact JE h
  |a xs=>exact xE h
 |t xs=>cases h
theorem Nh:∀{L:List (Nat×List Lf)},nkL L=true->oD L
 |[],_=>trivial
 |(i,xs)::L,h=>by
  simp only[nkL,Bool.and_eq_true]at h
  exact⟨xE h.1,Nh h.2⟩
def Ni(args:List Tv)(L:List (Nat×List Lf))(ρ:List Nat):Bool:=EI (ik ρ) args&&(rB (ik ρ) L&&(JD args&&nkL L))
theorem JF{ρ:List Nat}{m:Nat}:∀{args:List Tv}{i t:Nat}{x:Tv},EI m args=true->JD args=true->p9 (QV.MP args i) t=some x->x.ok m=true/\x.fact/\lG (rM (tt ρ args) i) t=x.val ρ
 |[],_,_,_,_,_,h=>by simp[QV.MP,p9]at h
 |y::args,i,t,x,h1,h2,h=>by
  simp only[EI,Bool.and_eq_true]at h1
  simp only[JD,Bool.and_eq_true]at h2
  simp only[QV.MP,p9]at h
  simp only[tt,rM,lG]
  cases hb:Nat.beq i t with
  |true=>
   rw[hb]at h
   have h:=Option.some.inj h
   subst h
   exact⟨h1.1,Q8 h2.1,rfl⟩
  |false=>rw[hb]at h;exact JF h1.2 h2.2 h
theorem Ck{P:Program}{K:Value->Heap->Prop}:∀{rs:List ResultVar}{acc:List Tv}{s:St}{ρ:List Nat}{A:aU}{h:Heap},Inv s ρ h->Rel ρ s.m s.E A->vG P K rs acc s->BP P (lG A) h K rs (tt ρ acc)
 |[],acc,s,ρ,A,h,I,R,H=>by
  simp only[vG]at H
  obtain⟨s',C,_,_,_,_,H⟩:=iA I H
  split at H
  ·rw[C.r,C.h]at H
   exact H
  ·exact H.elim
 | .tmp t::rs,acc,s,ρ,A,h,I,R,H=>by
   simp only[vG]at H
   simp only[BP]
   split at H
   ·rename_i x hx
    have:=Ck I R H
    simp only[tt]at this
    rw[(R.get t x hx).2.2]
    exact this
   ·exact H.elim
 | .cell a t::rs,acc,s,ρ,A,h,I,R,H=>by
   simp only[vG]at H
   simp only[BP]
   split at H
   ·rename_i id off hx
    have hv:lG A a=VP (eM ρ id) off:=(fq R hx).2.2
    rw[hv]
    split at H
    ·rename_i cs hf
     obtain⟨i,hi,_⟩:=ks (ρ:=ρ) hf
     split at H
     ·rename_i h1
      split at H
      ·rename_i y hy
       have:=Cc (ρ:=ρ) hy
       exact Jj h1 I.vars i hi off (v:=y.v ρ) (by simpa using this) (Ck (acc:= .v (.l y)::acc) I R H)
      ·exact H.elim
     ·split at H
      ·rename_i n h2
       split at H
       ·rename_i ys hy
        obtain⟨e1,e2⟩:=tz (ρ:=ρ) hy
        exact Es h2 I.vars i hi off e1 e2 (Ck (acc:= .v (.a ys)::acc) I R H)
       ·exact H.elim
      ·exact H.elim
    ·exact H.elim
   ·exact H.elim
theorem Cm{P:Program}(hm:P.follows .mixedOrders=true){f:FuncId}{fn:Func}{c:Code}(hf:P.funcs[f]?=some fn)(hb:fn.body=some c)(hn:(fn.name== "runtime.NumGoroutine")=false)
 (an:Nat->Option An) {args:List Tv} {L:List (Nat×List Lf)} {ρ:List Nat} {h:Heap} {K:Value->Heap->Prop} (m n:Nat) (hk:fn.ntmps-(tt ρ args).length=m) (Mu:(tt ρ args).length+m=n) (rs:List ResultVar) (hr:fn.results.toList=rs)
 (ha:Ni args L ρ=true) (V:Vars h (kb ρ L))
 (H:Hg P n an c 1 (fun s=>vG P K rs [] s) (fun _ _=>False) (fun s=>vG P K rs [] s) (QV args L ρ h)):aE P f (tt ρ args).toArray h K:=by
 simp only[Ni,Bool.and_eq_true]at ha
 obtain⟨a1,a2,a3,a4⟩:=ha
 refine BT hm hf hb hn (Uj an) m n hk Mu rs hr ?_
 have C:Cl (QV args L ρ h) ρ h:=⟨V,(lm ρ).symm,rfl,rfl,rfl,rfl,rfl,a2,Nh a4⟩
 have R:Rel ρ (QV args L ρ h).m (QV args L ρ h).E (rM (tt ρ args) 0):=⟨fun t x hx=>JF a1 a3 hx⟩
 have tr:To (QV args L ρ h) ρ (fun s=>vG P K rs [] s) (fun A h=>Mt P A h K rs):=fun s ρ A h I R _ k=>Ck I R k
 exact Vj c C.inv R (Nx.refl _ _) tr (fun i s ρ A h _ _ _ k=>k.elim) tr H
end Go.Mx
