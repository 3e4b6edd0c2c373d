import Derived.Test.YtcnfcnoooecchaaGreatDoorM2
import Derived.Laws.OwnMore
set_option linter.unusedVariables false
set_option linter.unusedSimpArgs false
namespace Go.Mx
def tY(P:Program)(f:FuncId)(args:Array Value)(h:Heap)(v:Value):Prop:=∀K:aL,(∀h',Fr No h h'->K v h')->aG P f args h K
theorem Fr.aA{a b c:Heap}(h:Fr No a b)(k:Fr No b c):Fr No a c:=h.trans k
theorem Fr.aM{a b:Heap}(h:Fr (In []) a b):Fr No a b:=⟨h.size,fun k hk _=>h.same k hk (by simp[In])⟩
theorem oL{h:Heap}{a:Addr}{v:Value}(hc:bF h a=some v):a.block<h.size:=by
 unfold bF at hc
 cases ho:h[a.block]? with
 |none=>rw[ho]at hc;simp at hc
 |some o=>exact(Ab.1 ho).1
theorem dG{T:aK}{h h':Heap}{a:Addr}{v:Value}(hc:bF h a=some v)(hf:Fr T h h')(hT:¬T a.block):bF h' a=some v:=by
 have:=hf.same _ (oL hc) hT
 unfold bF at*
 rw[this];exact hc
theorem mH(a:Addr)(n:Nat):(a.add n).block=a.block:=by unfold Addr.add;split<;>rfl
structure eC(S:aK)(h:Heap)(sz:Nat)(s:Sl)(vs:List Value):Prop where
 len:vs.length=s.n*sz
 PV:s.n<=maxLen
 cap:s.n<=s.c
 cell:∀j(hj:j<vs.length),∃a,s.a=some a/\S a.block/\bF h (a.add j)=some vs[j]
theorem eC.fr{S T:aK}{h h':Heap}{sz:Nat}{s:Sl}{vs:List Value}(H:eC S h sz s vs)(hf:Fr T h h')(hd:∀k,S k->¬T k):eC S h' sz s vs:=
 ⟨H.len,H.PV,H.cap,fun j hj=>let⟨a,h1,h2,h3⟩:=H.cell j hj;⟨a,h1,h2,dG h3 hf (by rw[mH];exact hd _ h2)⟩⟩
theorem eC.no{S:aK}{h h':Heap}{sz:Nat}{s:Sl}{vs:List Value}(H:eC S h sz s vs)(hf:Fr No h h'):eC S h' sz s vs:=H.fr hf fun _ _ h=>h
theorem eC.mono{S S':aK}{h:Heap}{sz:Nat}{s:Sl}{vs:List Value}(H:eC S h sz s vs)(hS:∀k,S k->S' k):eC S' h sz s vs:=
 ⟨H.len,H.PV,H.cap,fun j hj=>let⟨a,h1,h2,h3⟩:=H.cell j hj;⟨a,h1,hS _ h2,h3⟩⟩
theorem eC.nil(S:aK)(h:Heap)(sz:Nat):eC S h sz aD []:=⟨by simp[aD],by simp[aD,maxLen],by simp[aD],fun j hj=>by simp at hj⟩
theorem eC.lt{S:aK}{h:Heap}{sz:Nat}{s:Sl}{vs:List Value}(H:eC S h sz s vs):eC (fun k=>S k/\k<h.size) h sz s vs:=
 ⟨H.len,H.PV,H.cap,fun j hj=>let⟨a,h1,h2,h3⟩:=H.cell j hj;⟨a,h1,⟨h2,by have:=oL h3;rw[mH]at this;exact this⟩,h3⟩⟩
def bC(S:aK)(h:Heap)(s:Sl)(xs:aH):Prop:=eC S h 1 s (xs.map VI)
theorem bC.len{S:aK}{h:Heap}{s:Sl}{xs:aH}(H:bC S h s xs):s.n=xs.length:=by have:=eC.len H;simp at this;exact this.symm
theorem bC.fr{S T:aK}{h h':Heap}{s:Sl}{xs:aH}(H:bC S h s xs)(hf:Fr T h h')(hd:∀k,S k->¬T k):bC S h' s xs:=eC.fr H hf hd
theorem bC.no{S:aK}{h h':Heap}{s:Sl}{xs:aH}(H:bC S h s xs)(hf:Fr No h h'):bC S h' s xs:=eC.no H hf
theorem at_one{s:Sl}{a:Addr}(ha:s.a=some a)(i:Int):s.at i 1=a.add i.toNat:=by simp[Sl.at,ha]
theorem eC.bM{S:aK}{h:Heap}{s:Sl}{vs:List Value}(H:eC S h 1 s vs){i:Int}(h0:0<=i)(h1:i<(vs.length:Int)):fp s i:=by
 have hl:=H.len
 obtain⟨a,ha,_,_⟩:=H.cell i.toNat (by omega)
 exact⟨by simp[ha],h0,by omega⟩
theorem eC.get{S:aK}{h:Heap}{s:Sl}{vs:List Value}(H:eC S h 1 s vs){i:Int}(h0:0<=i)(h1:i<(vs.length:Int)):bF h (s.at i 1)=some (vs[i.toNat]'(by omega)):=by
 obtain⟨a,ha,_,hc⟩:=H.cell i.toNat (by omega)
 rw[at_one ha];exact hc
theorem bC.bM{S:aK}{h:Heap}{s:Sl}{xs:aH}(H:bC S h s xs){i:Int}(h0:0<=i)(h1:i<(xs.length:Int)):fp s i:=eC.bM H h0 (by simpa using h1)
theorem bC.get{S:aK}{h:Heap}{s:Sl}{xs:aH}(H:bC S h s xs){i:Int}(h0:0<=i)(h1:i<(xs.length:Int)):bF h (s.at i 1)=some (VI (xs[i.toNat]'(by omega))):=by
 have:=eC.get H h0 (by simpa using h1)
 simpa using this
structure cG(S:aK)(h:Heap)(s:Sl)(aI:aE):Prop where
 out:∃ss:List Sl,ss.length=aI.length/\eC S h 1 s (ss.map Sl.v)/\∀i(h1:i<ss.length)(h2:i<aI.length),bC S h ss[i] aI[i]
theorem cG.len{S:aK}{h:Heap}{s:Sl}{aI:aE}(H:cG S h s aI):s.n=aI.length:=by
 obtain⟨ss,h1,h2,_⟩:=H.out
 have:=h2.len
 simp at this
 omega
theorem cG.PV{S:aK}{h:Heap}{s:Sl}{aI:aE}(H:cG S h s aI):s.n<=maxLen:=by obtain⟨ss,h1,h2,_⟩:=H.out;exact h2.PV
theorem cG.fr{S T:aK}{h h':Heap}{s:Sl}{aI:aE}(H:cG S h s aI)(hf:Fr T h h')(hd:∀k,S k->¬T k):cG S h' s aI:=
 let⟨ss,h1,h2,h3⟩:=H.out;⟨ss,h1,h2.fr hf hd,fun i a b=>(h3 i a b).fr hf hd⟩
theorem cG.no{S:aK}{h h':Heap}{s:Sl}{aI:aE}(H:cG S h s aI)(hf:Fr No h h'):cG S h' s aI:=H.fr hf fun _ _ h=>h
theorem cG.bM{S:aK}{h:Heap}{s:Sl}{aI:aE}(H:cG S h s aI){i:Int}(h0:0<=i)(h1:i<(aI.length:Int)):fp s i:=by
 obtain⟨ss,e,h2,_⟩:=H.out
 exact h2.bM h0 (by simp;omega)
theorem cG.get{S:aK}{h:Heap}{s:Sl}{aI:aE}(H:cG S h s aI){i:Int}(h0:0<=i)(h1:i<(aI.length:Int)):∃si:Sl,bF h (s.at i 1)=some si.v/\bC S h si (aI[i.toNat]'(by omega)):=by
 obtain⟨ss,e,h2,h3⟩:=H.out
 have:=h2.get h0 (by simp;omega)
 simp only[cK]at this
 exact⟨_,this,h3 i.toNat (by omega) (by omega)⟩
theorem sB{n:Nat}(h:n<=maxLen):(n:Int)<9223372036854775808:=by simp only[maxLen]at h;omega
theorem Hv{i:Int}{n:Nat}(h0:0<=i)(h1:i<(n:Int))(hn:n<=maxLen):aX (i+1)=i+1:=aP _ (by omega) (by have:=sB hn;omega)
theorem drop_cons{α:Type}(xs:List α){i:Int}(h0:0<=i)(h1:i<(xs.length:Int)):xs.drop i.toNat=xs[i.toNat]'(by omega)::xs.drop (i+1).toNat:=by
 have e:(i+1).toNat=i.toNat+1:=by omega
 rw[e]
 exact wg (by omega)
theorem fu{α:Type}(xs:List α){i:Int}(h0:0<=i)(h1:i<(xs.length:Int)):xs.take (i+1).toNat=xs.take i.toNat++[xs[i.toNat]'(by omega)]:=by
 have e:(i+1).toNat=i.toNat+1:=by omega
 rw[e,og (by omega)]
theorem tZ{i:Int}(h0:0<=i):(i+1).toNat=i.toNat+1:=by omega
theorem UK{α:Type}(as bs:List α)(i:Nat)(ha:i<as.length)(hb:i<bs.length):(as.take i++bs.drop i).set i as[i]=as.take (i+1)++bs.drop (i+1):=by
 have hl:(as.take i).length=i:=by simp;omega
 rw[List.set_append_right _ _ (by omega),hl,Nat.sub_self,wg hb,og ha,List.set_cons_zero,gX]
 rfl
theorem bC.succ{S:aK}{h:Heap}{s:Sl}{xs:aH}(H:bC S h s xs){i:Int}(h0:0<=i)(h1:i<(xs.length:Int)):aX (i+1)=i+1:=
 Hv (n:=s.n) h0 (by have:=H.len;omega) (eC.PV H)
theorem cG.succ{S:aK}{h:Heap}{s:Sl}{aI:aE}(H:cG S h s aI){i:Int}(h0:0<=i)(h1:i<(aI.length:Int)):aX (i+1)=i+1:=
 Hv (n:=s.n) h0 (by have:=H.len;omega) H.PV
theorem bC.lt{S:aK}{h:Heap}{s:Sl}{xs:aH}(H:bC S h s xs){i:Int}(e:decide (i<(s.n:Int))=true):i<(xs.length:Int):=by have:=H.len;simp at e;omega
theorem bC.ge{S:aK}{h:Heap}{s:Sl}{xs:aH}(H:bC S h s xs){i:Int}(e:decide (i<(s.n:Int))=false):(xs.length:Int)<=i:=by have:=H.len;simp at e;omega
theorem cG.lt{S:aK}{h:Heap}{s:Sl}{xs:aE}(H:cG S h s xs){i:Int}(e:decide (i<(s.n:Int))=true):i<(xs.length:Int):=by have:=H.len;simp at e;omega
theorem cG.ge{S:aK}{h:Heap}{s:Sl}{xs:aE}(H:cG S h s xs){i:Int}(e:decide (i<(s.n:Int))=false):(xs.length:Int)<=i:=by have:=H.len;simp at e;omega
theorem bC.low{S:aK}{h:Heap}{s:Sl}{xs:aH}(H:bC S h s xs):bC (fun k=>k<h.size) h s xs:=(eC.lt H).mono fun _ h=>h.2
theorem bC.mono{S S':aK}{h:Heap}{s:Sl}{xs:aH}(H:bC S h s xs)(hS:∀k,S k->S' k):bC S' h s xs:=eC.mono H hS
theorem cG.mono{S S':aK}{h:Heap}{s:Sl}{aI:aE}(H:cG S h s aI)(hS:∀k,S k->S' k):cG S' h s aI:=
 let⟨ss,h1,h2,h3⟩:=H.out;⟨ss,h1,h2.mono hS,fun i a b=>(h3 i a b).mono hS⟩
theorem cG.low{S:aK}{h:Heap}{s:Sl}{aI:aE}(H:cG S h s aI):cG (fun k=>k<h.size) h s aI:=
 let⟨ss,h1,h2,h3⟩:=H.out;⟨ss,h1,h2.lt.mono fun _ h=>h.2,fun i a b=>(h3 i a b).low⟩
theorem cG.yG{S:aK}{h:Heap}{s:Sl}{aI:aE}(H:cG S h s aI):cG (fun k=>S k/\k<h.size) h s aI:=
 let⟨ss,h1,h2,h3⟩:=H.out;⟨ss,h1,h2.lt,fun i a b=>eC.lt (h3 i a b)⟩
theorem Fr.EL{T U:aK}{a b c:Heap}(h:Fr T a b)(k:Fr U b c)(hU:∀k,U k->a.size<=k):Fr T a c:=
 ⟨dD h.size k.size,fun i hi ht=>(k.same i (fQ hi h.size) fun hu=>by have:=hU i hu;omega).trans (h.same i hi ht)⟩
end Go.Mx
