import Derived.Test.YtcnfcnoooecchaaGreatDoorM2
import Derived.Laws.OwnMore
set_option linter.unusedVariables false
set_option linter.unusedSimpArgs false
namespace Go.Mx
def vf(P:Program)(f:FuncId)(args:Array Value)(h:Heap)(v:Value):Prop:=∀K:Value->Heap->Prop,(∀h',Fr No h h'->K v h')->aE P f args h K
theorem Fr.aA{a b c:Heap}(h:Fr No a b)(k:Fr No b c):Fr No a c:=h.trans k
theorem Fr.aF{a b:Heap}(h:Fr (In []) a b):Fr No a b:=⟨h.size,fun k hk _=>h.same k hk (by simp[In])⟩
theorem oC{h:Heap}{a:Addr}{v:Value}(hc:aR h a=some v):a.block<h.size:=by
 unfold aR at hc
 cases ho:h[a.block]? with
 |none=>rw[ho]at hc;simp at hc
 |some o=>exact(Array.getElem?_eq_some_iff.1 ho).1
theorem dD{T:Nat->Prop}{h h':Heap}{a:Addr}{v:Value}(hc:aR h a=some v)(hf:Fr T h h')(hT:¬T a.block):aR h' a=some v:=by
 have:=hf.same _ (oC hc) hT
 unfold aR at*
 rw[this];exact hc
theorem pJ(a:Addr)(n:Nat):(a.add n).block=a.block:=by unfold Addr.add;split<;>rfl
structure cM(S:Nat->Prop)(h:Heap)(sz:Nat)(s:Sl)(vs:List Value):Prop where
 len:vs.length=s.n*sz
 Jk:s.n<=maxLen
 cap:s.n<=s.c
 cell:∀j(hj:j<vs.length),∃a,s.a=some a/\S a.block/\aR h (a.add j)=some vs[j]
theorem cM.fr{S T:Nat->Prop}{h h':Heap}{sz:Nat}{s:Sl}{vs:List Value}(H:cM S h sz s vs)(hf:Fr T h h')(hd:∀k,S k->¬T k):cM S h' sz s vs:=
 ⟨H.len,H.Jk,H.cap,fun j hj=>let⟨a,h1,h2,h3⟩:=H.cell j hj;⟨a,h1,h2,dD h3 hf (by rw[pJ];exact hd _ h2)⟩⟩
theorem cM.no{S:Nat->Prop}{h h':Heap}{sz:Nat}{s:Sl}{vs:List Value}(H:cM S h sz s vs)(hf:Fr No h h'):cM S h' sz s vs:=H.fr hf fun _ _ h=>h
theorem cM.mono{S S':Nat->Prop}{h:Heap}{sz:Nat}{s:Sl}{vs:List Value}(H:cM S h sz s vs)(hS:∀k,S k->S' k):cM S' h sz s vs:=
 ⟨H.len,H.Jk,H.cap,fun j hj=>let⟨a,h1,h2,h3⟩:=H.cell j hj;⟨a,h1,hS _ h2,h3⟩⟩
theorem cM.nil(S:Nat->Prop)(h:Heap)(sz:Nat):cM S h sz aC []:=⟨by simp[aC],by simp[aC,maxLen],by simp[aC],fun j hj=>by simp at hj⟩
theorem cM.lt{S:Nat->Prop}{h:Heap}{sz:Nat}{s:Sl}{vs:List Value}(H:cM S h sz s vs):cM (fun k=>S k/\k<h.size) h sz s vs:=
 ⟨H.len,H.Jk,H.cap,fun j hj=>let⟨a,h1,h2,h3⟩:=H.cell j hj;⟨a,h1,⟨h2,by have:=oC h3;rw[pJ]at this;exact this⟩,h3⟩⟩
def aQ(S:Nat->Prop)(h:Heap)(s:Sl)(xs:List Int):Prop:=cM S h 1 s (xs.map VI)
theorem aQ.len{S:Nat->Prop}{h:Heap}{s:Sl}{xs:List Int}(H:aQ S h s xs):s.n=xs.length:=by have:=cM.len H;simp at this;exact this.symm
theorem aQ.fr{S T:Nat->Prop}{h h':Heap}{s:Sl}{xs:List Int}(H:aQ S h s xs)(hf:Fr T h h')(hd:∀k,S k->¬T k):aQ S h' s xs:=cM.fr H hf hd
theorem aQ.no{S:Nat->Prop}{h h':Heap}{s:Sl}{xs:List Int}(H:aQ S h s xs)(hf:Fr No h h'):aQ S h' s xs:=cM.no H hf
theorem at_one{s:Sl}{a:Addr}(ha:s.a=some a)(i:Int):s.at i 1=a.add i.toNat:=by simp[Sl.at,ha]
theorem cM.bB{S:Nat->Prop}{h:Heap}{s:Sl}{vs:List Value}(H:cM S h 1 s vs){i:Int}(h0:0<=i)(h1:i<(vs.length:Int)):dQ s i:=by
 have hl:=H.len
 obtain⟨a,ha,_,_⟩:=H.cell i.toNat (by omega)
 exact⟨by simp[ha],h0,by omega⟩
theorem cM.get{S:Nat->Prop}{h:Heap}{s:Sl}{vs:List Value}(H:cM S h 1 s vs){i:Int}(h0:0<=i)(h1:i<(vs.length:Int)):aR h (s.at i 1)=some (vs[i.toNat]'(by omega)):=by
 obtain⟨a,ha,_,hc⟩:=H.cell i.toNat (by omega)
 rw[at_one ha];exact hc
theorem aQ.bB{S:Nat->Prop}{h:Heap}{s:Sl}{xs:List Int}(H:aQ S h s xs){i:Int}(h0:0<=i)(h1:i<(xs.length:Int)):dQ s i:=cM.bB H h0 (by simpa using h1)
theorem aQ.get{S:Nat->Prop}{h:Heap}{s:Sl}{xs:List Int}(H:aQ S h s xs){i:Int}(h0:0<=i)(h1:i<(xs.length:Int)):aR h (s.at i 1)=some (VI (xs[i.toNat]'(by omega))):=by
 have:=cM.get H h0 (by simpa using h1)
 simpa using this
structure bU(S:Nat->Prop)(h:Heap)(s:Sl)(aD:List (List Int)):Prop where
 out:∃ss:List Sl,ss.length=aD.length/\cM S h 1 s (ss.map Sl.v)/\∀i(h1:i<ss.length)(h2:i<aD.length),aQ S h ss[i] aD[i]
theorem bU.len{S:Nat->Prop}{h:Heap}{s:Sl}{aD:List (List Int)}(H:bU S h s aD):s.n=aD.length:=by
 obtain⟨ss,h1,h2,_⟩:=H.out
 have:=h2.len
 simp at this
 omega
theorem bU.Jk{S:Nat->Prop}{h:Heap}{s:Sl}{aD:List (List Int)}(H:bU S h s aD):s.n<=maxLen:=by obtain⟨ss,h1,h2,_⟩:=H.out;exact h2.Jk
theorem bU.fr{S T:Nat->Prop}{h h':Heap}{s:Sl}{aD:List (List Int)}(H:bU S h s aD)(hf:Fr T h h')(hd:∀k,S k->¬T k):bU S h' s aD:=
 let⟨ss,h1,h2,h3⟩:=H.out;⟨ss,h1,h2.fr hf hd,fun i a b=>(h3 i a b).fr hf hd⟩
theorem bU.no{S:Nat->Prop}{h h':Heap}{s:Sl}{aD:List (List Int)}(H:bU S h s aD)(hf:Fr No h h'):bU S h' s aD:=H.fr hf fun _ _ h=>h
theorem bU.bB{S:Nat->Prop}{h:Heap}{s:Sl}{aD:List (List Int)}(H:bU S h s aD){i:Int}(h0:0<=i)(h1:i<(aD.length:Int)):dQ s i:=by
 obtain⟨ss,e,h2,_⟩:=H.out
 exact h2.bB h0 (by simp;omega)
theorem bU.get{S:Nat->Prop}{h:Heap}{s:Sl}{aD:List (List Int)}(H:bU S h s aD){i:Int}(h0:0<=i)(h1:i<(aD.length:Int)):∃si:Sl,aR h (s.at i 1)=some si.v/\aQ S h si (aD[i.toNat]'(by omega)):=by
 obtain⟨ss,e,h2,h3⟩:=H.out
 have:=h2.get h0 (by simp;omega)
 simp only[List.getElem_map]at this
 exact⟨_,this,h3 i.toNat (by omega) (by omega)⟩
theorem l8{n:Nat}(h:n<=maxLen):(n:Int)<9223372036854775808:=by simp only[maxLen]at h;omega
theorem Et{i:Int}{n:Nat}(h0:0<=i)(h1:i<(n:Int))(hn:n<=maxLen):aL (i+1)=i+1:=aG _ (by omega) (by have:=l8 hn;omega)
theorem drop_cons{α:Type}(xs:List α){i:Int}(h0:0<=i)(h1:i<(xs.length:Int)):xs.drop i.toNat=xs[i.toNat]'(by omega)::xs.drop (i+1).toNat:=by
 have e:(i+1).toNat=i.toNat+1:=by omega
 rw[e]
 exact List.drop_eq_getElem_cons (by omega)
theorem dX{α:Type}(xs:List α){i:Int}(h0:0<=i)(h1:i<(xs.length:Int)):xs.take (i+1).toNat=xs.take i.toNat++[xs[i.toNat]'(by omega)]:=by
 have e:(i+1).toNat=i.toNat+1:=by omega
 rw[e,List.take_succ_eq_append_getElem (by omega)]
theorem qL{i:Int}(h0:0<=i):(i+1).toNat=i.toNat+1:=by omega
theorem Jl{α:Type}(as bs:List α)(i:Nat)(ha:i<as.length)(hb:i<bs.length):(as.take i++bs.drop i).set i as[i]=as.take (i+1)++bs.drop (i+1):=by
 have hl:(as.take i).length=i:=by simp;omega
 rw[List.set_append_right _ _ (by omega),hl,Nat.sub_self,List.drop_eq_getElem_cons hb,List.take_succ_eq_append_getElem ha,List.set_cons_zero,List.append_assoc]
 rfl
theorem aQ.succ{S:Nat->Prop}{h:Heap}{s:Sl}{xs:List Int}(H:aQ S h s xs){i:Int}(h0:0<=i)(h1:i<(xs.length:Int)):aL (i+1)=i+1:=
 Et (n:=s.n) h0 (by have:=H.len;omega) (cM.Jk H)
theorem bU.succ{S:Nat->Prop}{h:Heap}{s:Sl}{aD:List (List Int)}(H:bU S h s aD){i:Int}(h0:0<=i)(h1:i<(aD.length:Int)):aL (i+1)=i+1:=
 Et (n:=s.n) h0 (by have:=H.len;omega) H.Jk
theorem aQ.lt{S:Nat->Prop}{h:Heap}{s:Sl}{xs:List Int}(H:aQ S h s xs){i:Int}(e:decide (i<(s.n:Int))=true):i<(xs.length:Int):=by have:=H.len;simp at e;omega
theorem aQ.ge{S:Nat->Prop}{h:Heap}{s:Sl}{xs:List Int}(H:aQ S h s xs){i:Int}(e:decide (i<(s.n:Int))=false):(xs.length:Int)<=i:=by have:=H.len;simp at e;omega
theorem bU.lt{S:Nat->Prop}{h:Heap}{s:Sl}{xs:List (List Int)}(H:bU S h s xs){i:Int}(e:decide (i<(s.n:Int))=true):i<(xs.length:Int):=by have:=H.len;simp at e;omega
theorem bU.ge{S:Nat->Prop}{h:Heap}{s:Sl}{xs:List (List Int)}(H:bU S h s xs){i:Int}(e:decide (i<(s.n:Int))=false):(xs.length:Int)<=i:=by have:=H.len;simp at e;omega
theorem aQ.low{S:Nat->Prop}{h:Heap}{s:Sl}{xs:List Int}(H:aQ S h s xs):aQ (fun k=>k<h.size) h s xs:=(cM.lt H).mono fun _ h=>h.2
theorem aQ.mono{S S':Nat->Prop}{h:Heap}{s:Sl}{xs:List Int}(H:aQ S h s xs)(hS:∀k,S k->S' k):aQ S' h s xs:=cM.mono H hS
theorem bU.mono{S S':Nat->Prop}{h:Heap}{s:Sl}{aD:List (List Int)}(H:bU S h s aD)(hS:∀k,S k->S' k):bU S' h s aD:=
 let⟨ss,h1,h2,h3⟩:=H.out;⟨ss,h1,h2.mono hS,fun i a b=>(h3 i a b).mono hS⟩
theorem bU.low{S:Nat->Prop}{h:Heap}{s:Sl}{aD:List (List Int)}(H:bU S h s aD):bU (fun k=>k<h.size) h s aD:=
 let⟨ss,h1,h2,h3⟩:=H.out;⟨ss,h1,h2.lt.mono fun _ h=>h.2,fun i a b=>(h3 i a b).low⟩
theorem aQ.on{S T:Nat->Prop}{h a b:Heap}{s:Sl}{xs:List Int}(H:aQ S h s xs)(f:Fr No h a)(g:Fr T a b)(hT:∀k,T k->h.size<=k):aQ (fun k=>k<h.size) b s xs:=(H.low.no f).fr g fun k hk aI=>by have:=hT k aI;omega
theorem bU.on{S T:Nat->Prop}{h a b:Heap}{s:Sl}{aD:List (List Int)}(H:bU S h s aD)(f:Fr No h a)(g:Fr T a b)(hT:∀k,T k->h.size<=k):bU (fun k=>k<h.size) b s aD:=(H.low.no f).fr g fun k hk aI=>by have:=hT k aI;omega
theorem bU.xd{S:Nat->Prop}{h:Heap}{s:Sl}{aD:List (List Int)}(H:bU S h s aD):bU (fun k=>S k/\k<h.size) h s aD:=
 let⟨ss,h1,h2,h3⟩:=H.out;⟨ss,h1,h2.lt,fun i a b=>cM.lt (h3 i a b)⟩
theorem Fr.BV{T U:Nat->Prop}{a b c:Heap}(h:Fr T a b)(k:Fr U b c)(hU:∀k,U k->a.size<=k):Fr T a c:=
 ⟨Nat.le_trans h.size k.size,fun i hi ht=>(k.same i (Nat.lt_of_lt_of_le hi h.size) fun hu=>by have:=hU i hu;omega).trans (h.same i hi ht)⟩
end Go.Mx
