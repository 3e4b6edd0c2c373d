import Derived.Test.YtcnfcnoooecchaaGreatDoorM2
import Derived.Laws.OwnMore
set_option linter.unusedVariables false
set_option linter.unusedSimpArgs false
namespace Go.Mx
def pO(P:Program)(f:FuncId)(args:Array Value)(h:Heap)(v:Value):Prop:=∀K:Value->Heap->Prop,(∀h',Fr No h h'->K v h')->aE P f args h K
theorem Fr.aA{a b c:Heap}(h:Fr No a b)(k:Fr No b c):Fr No a c:=h.trans k
theorem Fr.aF{a b:Heap}(h:Fr (In []) a b):Fr No a b:=⟨h.size,fun k hk _=>h.same k hk (by simp[In])⟩
theorem mh{h:Heap}{a:Addr}{v:Value}(hc:aQ h a=some v):a.block<h.size:=by
 unfold aQ at hc
 cases ho:h[a.block]? with
 |none=>rw[ho]at hc;simp at hc
 |some o=>exact(Array.getElem?_eq_some_iff.1 ho).1
theorem dJ{T:Nat->Prop}{h h':Heap}{a:Addr}{v:Value}(hc:aQ h a=some v)(hf:Fr T h h')(hT:¬T a.block):aQ h' a=some v:=by
 have:=hf.same _ (mh hc) hT
 unfold aQ at*
 rw[this];exact hc
theorem ky(a:Addr)(n:Nat):(a.add n).block=a.block:=by unfold Addr.add;split<;>rfl
structure cY(S:Nat->Prop)(h:Heap)(sz:Nat)(s:Sl)(vs:List Value):Prop where
 len:vs.length=s.n*sz
 GY:s.n<=maxLen
 cap:s.n<=s.c
 cell:∀j(hj:j<vs.length),∃a,s.a=some a/\S a.block/\aQ h (a.add j)=some vs[j]
theorem cY.fr{S T:Nat->Prop}{h h':Heap}{sz:Nat}{s:Sl}{vs:List Value}(H:cY S h sz s vs)(hf:Fr T h h')(hd:∀k,S k->¬T k):cY S h' sz s vs:=
 ⟨H.len,H.GY,H.cap,fun j hj=>let⟨a,h1,h2,h3⟩:=H.cell j hj;⟨a,h1,h2,dJ h3 hf (by rw[ky];exact hd _ h2)⟩⟩
theorem cY.no{S:Nat->Prop}{h h':Heap}{sz:Nat}{s:Sl}{vs:List Value}(H:cY S h sz s vs)(hf:Fr No h h'):cY S h' sz s vs:=H.fr hf fun _ _ h=>h
theorem cY.mono{S S':Nat->Prop}{h:Heap}{sz:Nat}{s:Sl}{vs:List Value}(H:cY S h sz s vs)(hS:∀k,S k->S' k):cY S' h sz s vs:=
 ⟨H.len,H.GY,H.cap,fun j hj=>let⟨a,h1,h2,h3⟩:=H.cell j hj;⟨a,h1,hS _ h2,h3⟩⟩
theorem cY.nil(S:Nat->Prop)(h:Heap)(sz:Nat):cY S h sz aC []:=⟨by simp[aC],by simp[aC,maxLen],by simp[aC],fun j hj=>by simp at hj⟩
theorem cY.lt{S:Nat->Prop}{h:Heap}{sz:Nat}{s:Sl}{vs:List Value}(H:cY S h sz s vs):cY (fun k=>S k/\k<h.size) h sz s vs:=
 ⟨H.len,H.GY,H.cap,fun j hj=>let⟨a,h1,h2,h3⟩:=H.cell j hj;⟨a,h1,⟨h2,by have:=mh h3;rw[ky]at this;exact this⟩,h3⟩⟩
def aP(S:Nat->Prop)(h:Heap)(s:Sl)(xs:List Int):Prop:=cY S h 1 s (xs.map VI)
theorem aP.len{S:Nat->Prop}{h:Heap}{s:Sl}{xs:List Int}(H:aP S h s xs):s.n=xs.length:=by have:=cY.len H;simp at this;exact this.symm
theorem aP.fr{S T:Nat->Prop}{h h':Heap}{s:Sl}{xs:List Int}(H:aP S h s xs)(hf:Fr T h h')(hd:∀k,S k->¬T k):aP S h' s xs:=cY.fr H hf hd
theorem aP.no{S:Nat->Prop}{h h':Heap}{s:Sl}{xs:List Int}(H:aP S h s xs)(hf:Fr No h h'):aP S h' s xs:=cY.no H hf
theorem at_one{s:Sl}{a:Addr}(ha:s.a=some a)(i:Int):s.at i 1=a.add i.toNat:=by simp[Sl.at,ha]
theorem cY.bB{S:Nat->Prop}{h:Heap}{s:Sl}{vs:List Value}(H:cY S h 1 s vs){i:Int}(h0:0<=i)(h1:i<(vs.length:Int)):dW s i:=by
 have hl:=H.len
 obtain⟨a,ha,_,_⟩:=H.cell i.toNat (by omega)
 exact⟨by simp[ha],h0,by omega⟩
theorem cY.get{S:Nat->Prop}{h:Heap}{s:Sl}{vs:List Value}(H:cY S h 1 s vs){i:Int}(h0:0<=i)(h1:i<(vs.length:Int)):aQ h (s.at i 1)=some (vs[i.toNat]'(by omega)):=by
 obtain⟨a,ha,_,hc⟩:=H.cell i.toNat (by omega)
 rw[at_one ha];exact hc
theorem aP.bB{S:Nat->Prop}{h:Heap}{s:Sl}{xs:List Int}(H:aP S h s xs){i:Int}(h0:0<=i)(h1:i<(xs.length:Int)):dW s i:=cY.bB H h0 (by simpa using h1)
theorem aP.get{S:Nat->Prop}{h:Heap}{s:Sl}{xs:List Int}(H:aP S h s xs){i:Int}(h0:0<=i)(h1:i<(xs.length:Int)):aQ h (s.at i 1)=some (VI (xs[i.toNat]'(by omega))):=by
 have:=cY.get H h0 (by simpa using h1)
 simpa using this
structure bF(S:Nat->Prop)(h:Heap)(s:Sl)(aD:List (List Int)):Prop where
 out:∃ss:List Sl,ss.length=aD.length/\cY S h 1 s (ss.map Sl.v)/\∀i(h1:i<ss.length)(h2:i<aD.length),aP S h ss[i] aD[i]
theorem bF.len{S:Nat->Prop}{h:Heap}{s:Sl}{aD:List (List Int)}(H:bF S h s aD):s.n=aD.length:=by
 obtain⟨ss,h1,h2,_⟩:=H.out
 have:=h2.len
 simp at this
 omega
theorem bF.GY{S:Nat->Prop}{h:Heap}{s:Sl}{aD:List (List Int)}(H:bF S h s aD):s.n<=maxLen:=by obtain⟨ss,h1,h2,_⟩:=H.out;exact h2.GY
theorem bF.fr{S T:Nat->Prop}{h h':Heap}{s:Sl}{aD:List (List Int)}(H:bF S h s aD)(hf:Fr T h h')(hd:∀k,S k->¬T k):bF S h' s aD:=
 let⟨ss,h1,h2,h3⟩:=H.out;⟨ss,h1,h2.fr hf hd,fun i a b=>(h3 i a b).fr hf hd⟩
theorem bF.no{S:Nat->Prop}{h h':Heap}{s:Sl}{aD:List (List Int)}(H:bF S h s aD)(hf:Fr No h h'):bF S h' s aD:=H.fr hf fun _ _ h=>h
theorem bF.bB{S:Nat->Prop}{h:Heap}{s:Sl}{aD:List (List Int)}(H:bF S h s aD){i:Int}(h0:0<=i)(h1:i<(aD.length:Int)):dW s i:=by
 obtain⟨ss,e,h2,_⟩:=H.out
 exact h2.bB h0 (by simp;omega)
theorem bF.get{S:Nat->Prop}{h:Heap}{s:Sl}{aD:List (List Int)}(H:bF S h s aD){i:Int}(h0:0<=i)(h1:i<(aD.length:Int)):∃si:Sl,aQ h (s.at i 1)=some si.v/\aP S h si (aD[i.toNat]'(by omega)):=by
 obtain⟨ss,e,h2,h3⟩:=H.out
 have:=h2.get h0 (by simp;omega)
 simp only[List.getElem_map]at this
 exact⟨_,this,h3 i.toNat (by omega) (by omega)⟩
theorem kz{n:Nat}(h:n<=maxLen):(n:Int)<9223372036854775808:=by simp only[maxLen]at h;omega
theorem mm{i:Int}{n:Nat}(h0:0<=i)(h1:i<(n:Int))(hn:n<=maxLen):aL (i+1)=i+1:=aH _ (by omega) (by have:=kz hn;omega)
theorem drop_cons{α:Type}(xs:List α){i:Int}(h0:0<=i)(h1:i<(xs.length:Int)):xs.drop i.toNat=xs[i.toNat]'(by omega)::xs.drop (i+1).toNat:=by
 have e:(i+1).toNat=i.toNat+1:=by omega
 rw[e]
 exact List.drop_eq_getElem_cons (by omega)
theorem eB{α:Type}(xs:List α){i:Int}(h0:0<=i)(h1:i<(xs.length:Int)):xs.take (i+1).toNat=xs.take i.toNat++[xs[i.toNat]'(by omega)]:=by
 have e:(i+1).toNat=i.toNat+1:=by omega
 rw[e,List.take_succ_eq_append_getElem (by omega)]
theorem fk{i:Int}(h0:0<=i):(i+1).toNat=i.toNat+1:=by omega
theorem rV{α:Type}(as bs:List α)(i:Nat)(ha:i<as.length)(hb:i<bs.length):(as.take i++bs.drop i).set i as[i]=as.take (i+1)++bs.drop (i+1):=by
 have hl:(as.take i).length=i:=by simp;omega
 rw[List.set_append_right _ _ (by omega),hl,Nat.sub_self,List.drop_eq_getElem_cons hb,List.take_succ_eq_append_getElem ha,List.set_cons_zero,List.append_assoc]
 rfl
theorem aP.succ{S:Nat->Prop}{h:Heap}{s:Sl}{xs:List Int}(H:aP S h s xs){i:Int}(h0:0<=i)(h1:i<(xs.length:Int)):aL (i+1)=i+1:=
 mm (n:=s.n) h0 (by have:=H.len;omega) (cY.GY H)
theorem bF.succ{S:Nat->Prop}{h:Heap}{s:Sl}{aD:List (List Int)}(H:bF S h s aD){i:Int}(h0:0<=i)(h1:i<(aD.length:Int)):aL (i+1)=i+1:=
 mm (n:=s.n) h0 (by have:=H.len;omega) H.GY
theorem aP.lt{S:Nat->Prop}{h:Heap}{s:Sl}{xs:List Int}(H:aP S h s xs){i:Int}(e:decide (i<(s.n:Int))=true):i<(xs.length:Int):=by have:=H.len;simp at e;omega
theorem aP.ge{S:Nat->Prop}{h:Heap}{s:Sl}{xs:List Int}(H:aP S h s xs){i:Int}(e:decide (i<(s.n:Int))=false):(xs.length:Int)<=i:=by have:=H.len;simp at e;omega
theorem bF.lt{S:Nat->Prop}{h:Heap}{s:Sl}{xs:List (List Int)}(H:bF S h s xs){i:Int}(e:decide (i<(s.n:Int))=true):i<(xs.length:Int):=by have:=H.len;simp at e;omega
theorem bF.ge{S:Nat->Prop}{h:Heap}{s:Sl}{xs:List (List Int)}(H:bF S h s xs){i:Int}(e:decide (i<(s.n:Int))=false):(xs.length:Int)<=i:=by have:=H.len;simp at e;omega
theorem aP.low{S:Nat->Prop}{h:Heap}{s:Sl}{xs:List Int}(H:aP S h s xs):aP (fun k=>k<h.size) h s xs:=(cY.lt H).mono fun _ h=>h.2
theorem aP.mono{S S':Nat->Prop}{h:Heap}{s:Sl}{xs:List Int}(H:aP S h s xs)(hS:∀k,S k->S' k):aP S' h s xs:=cY.mono H hS
theorem bF.mono{S S':Nat->Prop}{h:Heap}{s:Sl}{aD:List (List Int)}(H:bF S h s aD)(hS:∀k,S k->S' k):bF S' h s aD:=
 let⟨ss,h1,h2,h3⟩:=H.out;⟨ss,h1,h2.mono hS,fun i a b=>(h3 i a b).mono hS⟩
theorem bF.low{S:Nat->Prop}{h:Heap}{s:Sl}{aD:List (List Int)}(H:bF S h s aD):bF (fun k=>k<h.size) h s aD:=
 let⟨ss,h1,h2,h3⟩:=H.out;⟨ss,h1,h2.lt.mono fun _ h=>h.2,fun i a b=>(h3 i a b).low⟩
theorem aP.on{S T:Nat->Prop}{h a b:Heap}{s:Sl}{xs:List Int}(H:aP S h s xs)(f:Fr No h a)(g:Fr T a b)(hT:∀k,T k->h.size<=k):aP (fun k=>k<h.size) b s xs:=(H.low.no f).fr g fun k hk aI=>by have:=hT k aI;omega
theorem bF.on{S T:Nat->Prop}{h a b:Heap}{s:Sl}{aD:List (List Int)}(H:bF S h s aD)(f:Fr No h a)(g:Fr T a b)(hT:∀k,T k->h.size<=k):bF (fun k=>k<h.size) b s aD:=(H.low.no f).fr g fun k hk aI=>by have:=hT k aI;omega
theorem bF.zY{S:Nat->Prop}{h:Heap}{s:Sl}{aD:List (List Int)}(H:bF S h s aD):bF (fun k=>S k/\k<h.size) h s aD:=
 let⟨ss,h1,h2,h3⟩:=H.out;⟨ss,h1,h2.lt,fun i a b=>cY.lt (h3 i a b)⟩
theorem Fr.B3{T U:Nat->Prop}{a b c:Heap}(h:Fr T a b)(k:Fr U b c)(hU:∀k,U k->a.size<=k):Fr T a c:=
 ⟨Nat.le_trans h.size k.size,fun i hi ht=>(k.same i (Nat.lt_of_lt_of_le hi h.size) fun hu=>by have:=hU i hu;omega).trans (h.same i hi ht)⟩
end Go.Mx
