import Derived.Test.YtcnfcnoooecchaaGreatDoorM2
import Derived.Laws.OwnMore
set_option linter.unusedVariables false
set_option linter.unusedSimpArgs false
namespace Go.Mx
def u4(P:Program)(f:FuncId)(args:Array Value)(h:Heap)(v:Value):Prop:=∀K:aL,(∀h',Fr No h h'->K v h')->aG P f args h K
theorem Fr.aA{a b c:Heap}(h:Fr No a b)(k:Fr No b c):Fr No a c:=h.trans k
theorem Fr.aM{a b:Heap}(h:Fr (In []) a b):Fr No a b:=⟨h.size,fun k hk _=>h.same k hk (by simp[In])⟩
theorem oK{h:Heap}{a:Addr}{v:Value}(hc:bG h a=some v):a.block<h.size:=by
 unfold bG at hc
 cases ho:h[a.block]? with
 |none=>rw[ho]at hc;simp at hc
 |some o=>exact(AE.1 ho).1
theorem eJ{T:aK}{h h':Heap}{a:Addr}{v:Value}(hc:bG h a=some v)(hf:Fr T h h')(hT:¬T a.block):bG h' a=some v:=by
 have:=hf.same _ (oK hc) hT
 unfold bG at*
 rw[this];exact hc
theorem oL(a:Addr)(n:Nat):(a.add n).block=a.block:=by unfold Addr.add;split<;>rfl
structure dK(S:aK)(h:Heap)(sz:Nat)(s:Sl)(vs:List Value):Prop where
 len:vs.length=s.n*sz
 PF:s.n<=maxLen
 cap:s.n<=s.c
 cell:∀j(hj:j<vs.length),∃a,s.a=some a/\S a.block/\bG h (a.add j)=some vs[j]
theorem dK.fr{S T:aK}{h h':Heap}{sz:Nat}{s:Sl}{vs:List Value}(H:dK S h sz s vs)(hf:Fr T h h')(hd:∀k,S k->¬T k):dK S h' sz s vs:=
 ⟨H.len,H.PF,H.cap,fun j hj=>let⟨a,h1,h2,h3⟩:=H.cell j hj;⟨a,h1,h2,eJ h3 hf (by rw[oL];exact hd _ h2)⟩⟩
theorem dK.no{S:aK}{h h':Heap}{sz:Nat}{s:Sl}{vs:List Value}(H:dK S h sz s vs)(hf:Fr No h h'):dK S h' sz s vs:=H.fr hf fun _ _ h=>h
theorem dK.mono{S S':aK}{h:Heap}{sz:Nat}{s:Sl}{vs:List Value}(H:dK S h sz s vs)(hS:∀k,S k->S' k):dK S' h sz s vs:=
 ⟨H.len,H.PF,H.cap,fun j hj=>let⟨a,h1,h2,h3⟩:=H.cell j hj;⟨a,h1,hS _ h2,h3⟩⟩
theorem dK.nil(S:aK)(h:Heap)(sz:Nat):dK S h sz aD []:=⟨by simp[aD],by simp[aD,maxLen],by simp[aD],fun j hj=>by simp at hj⟩
theorem dK.lt{S:aK}{h:Heap}{sz:Nat}{s:Sl}{vs:List Value}(H:dK S h sz s vs):dK (fun k=>S k/\k<h.size) h sz s vs:=
 ⟨H.len,H.PF,H.cap,fun j hj=>let⟨a,h1,h2,h3⟩:=H.cell j hj;⟨a,h1,⟨h2,by have:=oK h3;rw[oL]at this;exact this⟩,h3⟩⟩
def bE(S:aK)(h:Heap)(s:Sl)(xs:aH):Prop:=dK S h 1 s (xs.map VI)
theorem bE.len{S:aK}{h:Heap}{s:Sl}{xs:aH}(H:bE S h s xs):s.n=xs.length:=by have:=dK.len H;simp at this;exact this.symm
theorem bE.fr{S T:aK}{h h':Heap}{s:Sl}{xs:aH}(H:bE S h s xs)(hf:Fr T h h')(hd:∀k,S k->¬T k):bE S h' s xs:=dK.fr H hf hd
theorem bE.no{S:aK}{h h':Heap}{s:Sl}{xs:aH}(H:bE S h s xs)(hf:Fr No h h'):bE S h' s xs:=dK.no H hf
theorem at_one{s:Sl}{a:Addr}(ha:s.a=some a)(i:Int):s.at i 1=a.add i.toNat:=by simp[Sl.at,ha]
theorem dK.bQ{S:aK}{h:Heap}{s:Sl}{vs:List Value}(H:dK S h 1 s vs){i:Int}(h0:0<=i)(h1:i<(vs.length:Int)):fq s i:=by
 have hl:=H.len
 obtain⟨a,ha,_,_⟩:=H.cell i.toNat (by omega)
 exact⟨by simp[ha],h0,by omega⟩
theorem dK.get{S:aK}{h:Heap}{s:Sl}{vs:List Value}(H:dK S h 1 s vs){i:Int}(h0:0<=i)(h1:i<(vs.length:Int)):bG h (s.at i 1)=some (vs[i.toNat]'(by omega)):=by
 obtain⟨a,ha,_,hc⟩:=H.cell i.toNat (by omega)
 rw[at_one ha];exact hc
theorem bE.bQ{S:aK}{h:Heap}{s:Sl}{xs:aH}(H:bE S h s xs){i:Int}(h0:0<=i)(h1:i<(xs.length:Int)):fq s i:=dK.bQ H h0 (by simpa using h1)
theorem bE.get{S:aK}{h:Heap}{s:Sl}{xs:aH}(H:bE S h s xs){i:Int}(h0:0<=i)(h1:i<(xs.length:Int)):bG h (s.at i 1)=some (VI (xs[i.toNat]'(by omega))):=by
 have:=dK.get H h0 (by simpa using h1)
 simpa using this
structure dE(S:aK)(h:Heap)(s:Sl)(aI:aE):Prop where
 out:∃ss:List Sl,ss.length=aI.length/\dK S h 1 s (ss.map Sl.v)/\∀i(h1:i<ss.length)(h2:i<aI.length),bE S h ss[i] aI[i]
theorem dE.len{S:aK}{h:Heap}{s:Sl}{aI:aE}(H:dE S h s aI):s.n=aI.length:=by
 obtain⟨ss,h1,h2,_⟩:=H.out
 have:=h2.len
 simp at this
 omega
theorem dE.PF{S:aK}{h:Heap}{s:Sl}{aI:aE}(H:dE S h s aI):s.n<=maxLen:=by obtain⟨ss,h1,h2,_⟩:=H.out;exact h2.PF
theorem dE.fr{S T:aK}{h h':Heap}{s:Sl}{aI:aE}(H:dE S h s aI)(hf:Fr T h h')(hd:∀k,S k->¬T k):dE S h' s aI:=
 let⟨ss,h1,h2,h3⟩:=H.out;⟨ss,h1,h2.fr hf hd,fun i a b=>(h3 i a b).fr hf hd⟩
theorem dE.no{S:aK}{h h':Heap}{s:Sl}{aI:aE}(H:dE S h s aI)(hf:Fr No h h'):dE S h' s aI:=H.fr hf fun _ _ h=>h
theorem dE.bQ{S:aK}{h:Heap}{s:Sl}{aI:aE}(H:dE S h s aI){i:Int}(h0:0<=i)(h1:i<(aI.length:Int)):fq s i:=by
 obtain⟨ss,e,h2,_⟩:=H.out
 exact h2.bQ h0 (by simp;omega)
theorem dE.get{S:aK}{h:Heap}{s:Sl}{aI:aE}(H:dE S h s aI){i:Int}(h0:0<=i)(h1:i<(aI.length:Int)):∃si:Sl,bG h (s.at i 1)=some si.v/\bE S h si (aI[i.toNat]'(by omega)):=by
 obtain⟨ss,e,h2,h3⟩:=H.out
 have:=h2.get h0 (by simp;omega)
 simp only[bV]at this
 exact⟨_,this,h3 i.toNat (by omega) (by omega)⟩
theorem oM{n:Nat}(h:n<=maxLen):(n:Int)<9223372036854775808:=by simp only[maxLen]at h;omega
theorem HV{i:Int}{n:Nat}(h0:0<=i)(h1:i<(n:Int))(hn:n<=maxLen):aX (i+1)=i+1:=aP _ (by omega) (by have:=oM hn;omega)
theorem drop_cons{α:Type}(xs:List α){i:Int}(h0:0<=i)(h1:i<(xs.length:Int)):xs.drop i.toNat=xs[i.toNat]'(by omega)::xs.drop (i+1).toNat:=by
 have e:(i+1).toNat=i.toNat+1:=by omega
 rw[e]
 exact kM (by omega)
theorem fJ{α:Type}(xs:List α){i:Int}(h0:0<=i)(h1:i<(xs.length:Int)):xs.take (i+1).toNat=xs.take i.toNat++[xs[i.toNat]'(by omega)]:=by
 have e:(i+1).toNat=i.toNat+1:=by omega
 rw[e,og (by omega)]
theorem ux{i:Int}(h0:0<=i):(i+1).toNat=i.toNat+1:=by omega
theorem UN{α:Type}(as bs:List α)(i:Nat)(ha:i<as.length)(hb:i<bs.length):(as.take i++bs.drop i).set i as[i]=as.take (i+1)++bs.drop (i+1):=by
 have hl:(as.take i).length=i:=by simp;omega
 rw[List.set_append_right _ _ (by omega),hl,Nat.sub_self,kM hb,og ha,List.set_cons_zero,gu]
 rfl
theorem bE.succ{S:aK}{h:Heap}{s:Sl}{xs:aH}(H:bE S h s xs){i:Int}(h0:0<=i)(h1:i<(xs.length:Int)):aX (i+1)=i+1:=
 HV (n:=s.n) h0 (by have:=H.len;omega) (dK.PF H)
theorem dE.succ{S:aK}{h:Heap}{s:Sl}{aI:aE}(H:dE S h s aI){i:Int}(h0:0<=i)(h1:i<(aI.length:Int)):aX (i+1)=i+1:=
 HV (n:=s.n) h0 (by have:=H.len;omega) H.PF
theorem bE.lt{S:aK}{h:Heap}{s:Sl}{xs:aH}(H:bE S h s xs){i:Int}(e:decide (i<(s.n:Int))=true):i<(xs.length:Int):=by have:=H.len;simp at e;omega
theorem bE.ge{S:aK}{h:Heap}{s:Sl}{xs:aH}(H:bE S h s xs){i:Int}(e:decide (i<(s.n:Int))=false):(xs.length:Int)<=i:=by have:=H.len;simp at e;omega
theorem dE.lt{S:aK}{h:Heap}{s:Sl}{xs:aE}(H:dE S h s xs){i:Int}(e:decide (i<(s.n:Int))=true):i<(xs.length:Int):=by have:=H.len;simp at e;omega
theorem dE.ge{S:aK}{h:Heap}{s:Sl}{xs:aE}(H:dE S h s xs){i:Int}(e:decide (i<(s.n:Int))=false):(xs.length:Int)<=i:=by have:=H.len;simp at e;omega
theorem bE.low{S:aK}{h:Heap}{s:Sl}{xs:aH}(H:bE S h s xs):bE (fun k=>k<h.size) h s xs:=(dK.lt H).mono fun _ h=>h.2
theorem bE.mono{S S':aK}{h:Heap}{s:Sl}{xs:aH}(H:bE S h s xs)(hS:∀k,S k->S' k):bE S' h s xs:=dK.mono H hS
theorem dE.mono{S S':aK}{h:Heap}{s:Sl}{aI:aE}(H:dE S h s aI)(hS:∀k,S k->S' k):dE S' h s aI:=
 let⟨ss,h1,h2,h3⟩:=H.out;⟨ss,h1,h2.mono hS,fun i a b=>(h3 i a b).mono hS⟩
theorem dE.low{S:aK}{h:Heap}{s:Sl}{aI:aE}(H:dE S h s aI):dE (fun k=>k<h.size) h s aI:=
 let⟨ss,h1,h2,h3⟩:=H.out;⟨ss,h1,h2.lt.mono fun _ h=>h.2,fun i a b=>(h3 i a b).low⟩
theorem dE.wH{S:aK}{h:Heap}{s:Sl}{aI:aE}(H:dE S h s aI):dE (fun k=>S k/\k<h.size) h s aI:=
 let⟨ss,h1,h2,h3⟩:=H.out;⟨ss,h1,h2.lt,fun i a b=>dK.lt (h3 i a b)⟩
theorem Fr.E4{T U:aK}{a b c:Heap}(h:Fr T a b)(k:Fr U b c)(hU:∀k,U k->a.size<=k):Fr T a c:=
 ⟨cB h.size k.size,fun i hi ht=>(k.same i (fp hi h.size) fun hu=>by have:=hU i hu;omega).trans (h.same i hi ht)⟩
end Go.Mx
