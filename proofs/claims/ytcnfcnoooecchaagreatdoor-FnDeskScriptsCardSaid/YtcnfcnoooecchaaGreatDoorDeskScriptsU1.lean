import Derived.Test.YtcnfcnoooecchaaGreatDoorDeskScriptsU
import Derived.Test.YtcnfcnoooecchaaGreatDoorProg
import Derived.Test.YtcnfcnoooecchaaGreatDoorM8
set_option linter.unusedVariables false
set_option linter.unusedSimpArgs false
set_option maxRecDepth 100000
set_option maxHeartbeats 16000000
namespace Go.Proofs.YtcnfcnoooecchaaGreatDoor
open Go Go.Mx
def aku(P:Program)(a:Sl)(h:Heap)(K:KQ):Prop:=pk (
A2 h [] (fun c b=>(b,[aD.v])::((c,[a.v])::[])) fun c b e L=>
C1 VB P 50 #[(.agg #[a.v])] e L fun f d=>
Br (!f)
(A0 d [b] (Z0 [aD.v] L) fun g L=>
K (.tuple #[(.agg #[aD.v]),VB false]) g)
(A0 d [b] (Z0 [a.v] L) fun i L=>
K (.tuple #[(.agg #[a.v]),VB true]) i))
theorem akv(b:Sl)(h:Heap)(K:KQ)(H:aku aB b h K):aG aB 200 #[(.agg #[b.v])] h K:=cw mixed Tryz.func200 [] [.v (.a [.sl b])] [] [] .nil 9 (by kernel_rfl) H
def akw(P:Program)(s:Sl)(t:Sl)(u:Int)(h:Heap)(K:KQ):Prop:=pk (
A2 h [] (fun x y=>(y,[t.v,VI u])::((x,[s.v])::[])) fun x y a5 L=>
E1 (fun a=>(Value.map a)) P (Instr.makeMap 257 none) a5 L fun a a6=>
C2 (fun b c=>(.agg #[(Sl.v b),VI c])) P 110 #[(.agg #[t.v,VI u])] a6 L fun b c a7=>
A1 a7 [] (fun e=>Z0 [b.v,VI c] ((e,[aD.v,VI 0])::L)) fun e a8 L=>
∃f:Sl->Int->Heap->Prop,(O3 0 b c a8 fun a9 aa(d:Int)(g:Sl)(i:Int) j=>
Vi j (Z0 [g.v,VI i] L) fun L=>
Br (decide (d<=2000))
(C1 VS P 55 #[(.agg #[g.v,VI i])] j L fun z k=>
Da P (Instr.lookup 257 (Value.map a) (VS z) true) k fun ab=>∃l:Int,∃a0:Bool,ab=(.tuple #[VI l,VB a0])/\
Br a0
(K (.tuple #[VI l,(VI (aX (d-l))),VB true]) k)
(Hz P (Instr.mapUpdate 257 (Value.map a) (VS z) (VI d)) k fun ad a1=>Va a1 L fun L=>
aG P 254 #[(.agg #[s.v]),(VP e 0)] a1 fun ac o=>∃p:Sl,∃q:Int,∃a2:Bool,ac=(VB a2)/\Va o (Z0 [p.v,VI q] L) fun L=>
Br (!a2)
(f p q o)
(Nj aa fun m=>a9 m (aX (d+1)) p q o)))
(f g i j))/\
∀(a3:Sl)(a4:Int)(r:Heap),f a3 a4 r->Vi r (Z0 [a3.v,VI a4] L) fun L=>
K (.tuple #[VI 0,VI 0,VB false]) r)
theorem v203(b:Sl)(c:Sl)(d:Int)(h:Heap)(K:KQ)(H:akw aB b c d h K):aG aB 203 #[(.agg #[b.v]),(.agg #[c.v,VI d])] h K:=cw mixed Tryz.func203 [(7,⟨[],[2],[]⟩),(58,⟨[⟨9,.l (.i .i64)⟩],[2],[]⟩)] [.v (.a [.sl b]),.v (.a [.sl c,.i .i64 d])] [] [] .nil 39 (by kernel_rfl) H
def akx(P:Program)(c:Sl)(j:Sl)(k:Int)(h:Heap)(K:KQ):Prop:=pk (
A1 h [] (fun d=>(d,[c.v])::[]) fun d l L=>
E1 Sl.v P (Instr.buildSlice 27 0 #[]) l L fun o p=>
O2 k o p fun q r(a:Int)(b:Sl) e=>
Vars e L->
C1 VB P 255 #[b.v,VI a] e L fun s f=>
Br (!s)
(E1 Sl.v P (Instr.buildSlice 27 1 #[(0,(VI a))]) f L fun t u=>
E1 Sl.v P (cD 27 27 27 b.v t.v) u L fun x y=>
C1 VI P 256 #[(.agg #[c.v]),j.v,VI a] y L fun g i=>
Br (decide (g<0))
(K (.tuple #[aD.v,VB false]) i)
(Nj r fun m=>q m g x i))
(C1 VI P 257 #[b.v,VI a] f L fun z a0=>
Q1 Sl.v P (Instr.sliceAt 27 b.v (some (VI z)) none none) fun a1=>
K (.tuple #[a1.v,VB true]) a0))
theorem aky(b:Sl)(c:Sl)(d:Int)(h:Heap)(K:KQ)(H:akx aB b c d h K):aG aB 204 #[(.agg #[b.v]),c.v,VI d] h K:=cw mixed Tryz.func204 [(28,⟨[⟨2,.l (.i .i64)⟩,⟨8,.l .sl⟩],[],[]⟩)] [.v (.a [.sl b]),.v (.l (.sl c)),.v (.l (.i .i64 d))] [] [] .nil 29 (by kernel_rfl) H
def akz(P:Program)(a:Sl)(b:Sl)(c:Int)(g:Int)(i:Int)(h:Heap)(K:KQ):Prop:=pk (
A2 h [] (fun d e=>(e,[b.v,VI c])::((d,[a.v])::[])) fun d e j L=>
C1 VB P 77 #[(.agg #[a.v]),(.agg #[b.v,VI c])] j L fun k f=>
Br k
(C1 VB P 52 #[VI g,VI 0,VI i] f L fun l o=>
K (VB l) o)
(K (VB false) f))
theorem akA(b:Sl)(c:Sl)(d:Int)(e:Int)(f:Int)(h:Heap)(K:KQ)(H:akz aB b c d e f h K):aG aB 205 #[(.agg #[b.v]),(.agg #[c.v,VI d]),VI e,VI f] h K:=cw mixed Tryz.func205 [] [.v (.a [.sl b]),.v (.a [.sl c,.i .i64 d]),.v (.l (.i .i64 e)),.v (.l (.i .i64 f))] [] [] .nil 17 (by kernel_rfl) H
def akB(P:Program)(c:Sl)(d:Nat)(e:Sl)(f:Int)(q:Int)(r:Value)(h:Heap)(K:KQ):Prop:=pk (
Lt [(d,[e.v,VI f])] fun L=>
A1 h [] (fun g=>(g,[c.v])::L) fun g s L=>
O3 0 e f s fun t u(i:Int)(x:Sl)(j:Int) a=>
Vi a (Z1 [x.v,VI j] L) fun L=>
Br (decide (i<q))
(aG P 254 #[(.agg #[c.v]),(VP d 0)] a fun y b=>∃k:Sl,∃l:Int,∃o:Bool,y=(VB o)/\Va b (Z1 [k.v,VI l] L) fun L=>
Br (!o)
(K (VB false) b)
(iW P r [VI j] b fun z p=>Va p L fun L=>
Nj u fun m=>t m (aX (i+1)) k l p))
(K (VB true) a))
theorem v206(c:Sl)(b:Nat)(d:Sl)(e:Int)(f:Int)(g:Value)(h:Heap)(K:KQ)(hL:Vars h [(b,[d.v,VI e])])(H:akB aB c b d e f g h K):aG aB 206 #[(.agg #[c.v]),(VP b 0),VI f,g] h K:=cw mixed Tryz.func206 [(26,⟨[⟨11,.l (.i .i64)⟩],[0],[]⟩)] [.v (.a [.sl c]),.v (.l (.p 0 0)),.v (.l (.i .i64 f)),.v (.l (.r g))] [(0,[.sl d,.i .i64 e])] [b] hL 25 (by kernel_rfl) H
def akC(P:Program)(a:Int)(h:Heap)(K:KQ):Prop:=pk (
K (.tuple #[]) h)
theorem akD(a:Int)(h:Heap)(K:KQ)(H:akC aB a h K):aG aB 207 #[VI a] h K:=cw mixed Tryz.func207 [] [.v (.l (.i .i64 a))] [] [] .nil 2 (by kernel_rfl) H
def akE(P:Program)(l:Int)(a:Nat)(b:Sl)(d:Nat)(e:Sl)(c:Int)(h:Heap)(K:KQ):Prop:=pk (
Lt [(a,[b.v]),(d,[e.v,VI c])] fun L=>
E1 Sl.v P (Instr.buildSlice 27 1 #[(0,(VI c))]) h L fun f g=>
E1 Sl.v P (cD 27 27 27 b.v f.v) g L fun i j=>
A0 j [a] (Z0 [i.v] L) fun k L=>
K (.tuple #[]) k)
theorem v208(c:Int)(a:Nat)(d:Sl)(b:Nat)(e:Sl)(f:Int)(h:Heap)(K:KQ)(hL:Vars h [(a,[d.v]),(b,[e.v,VI f])])(H:akE aB c a d b e f h K):aG aB 208 #[VI c,(VP a 0),(VP b 0)] h K:=cw mixed Tryz.func208 [] [.v (.l (.i .i64 c)),.v (.l (.p 0 0)),.v (.l (.p 1 0))] [(0,[.sl d]),(1,[.sl e,.i .i64 f])] [a,b] hL 9 (by kernel_rfl) H
def akF(P:Program)(i:Int)(c:Nat)(a:Sl)(d:Nat)(e:Sl)(b:Int)(h:Heap)(K:KQ):Prop:=pk (
Lt [(c,[a.v]),(d,[e.v,VI b])] fun L=>
G1 VI h a b 1 fun f=>
fq a b/\
S1 h (Sl.at a b 1) (VI (aX (f+1))) L fun g=>
K (.tuple #[]) g)
theorem akG(c:Int)(a:Nat)(d:Sl)(b:Nat)(e:Sl)(f:Int)(h:Heap)(K:KQ)(hL:Vars h [(a,[d.v]),(b,[e.v,VI f])])(H:akF aB c a d b e f h K):aG aB 209 #[VI c,(VP a 0),(VP b 0)] h K:=cw mixed Tryz.func209 [] [.v (.l (.i .i64 c)),.v (.l (.p 0 0)),.v (.l (.p 1 0))] [(0,[.sl d]),(1,[.sl e,.i .i64 f])] [a,b] hL 11 (by kernel_rfl) H
def akH(P:Program)(f:Sl)(k:Sl)(l:Int)(a3:Int)(a4:Value)(h:Heap)(K:KQ):Prop:=pk (
A2 h [] (fun o p=>(p,[k.v,VI l])::((o,[f.v])::[])) fun o p a5 L=>
C2 (fun b c=>(.agg #[(Sl.v b),VI c])) P 110 #[(.agg #[k.v,VI l])] a5 L fun b c a6=>
A1 a6 [] (fun d=>Z0 [b.v,VI c] ((d,[aD.v,VI 0])::L)) fun d a7 L=>
O3 0 b c a7 fun q r(a:Int)(s:Sl)(t:Int) e=>
Vi e (Z0 [s.v,VI t] L) fun L=>
Br (decide (a<=2000))
(Br (decide (a3<=a))
(iW P a4 [(.agg #[s.v,VI t])] e fun a8 g=>∃u:Bool,a8=(VB u)/\Va g L fun L=>
Br u
(K (.tuple #[VI a,VB true]) g)
(aG P 254 #[(.agg #[f.v]),(VP d 0)] g fun a9 i=>∃x:Sl,∃y:Int,∃z:Bool,a9=(VB z)/\Va i (Z0 [x.v,VI y] L) fun L=>
Br (!z)
(K (.tuple #[VI 0,VB false]) i)
(Nj r fun m=>q m (aX (a+1)) x y i)))
(aG P 254 #[(.agg #[f.v]),(VP d 0)] e fun aa j=>∃a0:Sl,∃a1:Int,∃a2:Bool,aa=(VB a2)/\Va j (Z0 [a0.v,VI a1] L) fun L=>
Br (!a2)
(K (.tuple #[VI 0,VB false]) j)
(Nj r fun m=>q m (aX (a+1)) a0 a1 j)))
(K (.tuple #[VI 0,VB false]) e))
theorem v210(b:Sl)(c:Sl)(d:Int)(e:Int)(f:Value)(h:Heap)(K:KQ)(H:akH aB b c d e f h K):aG aB 210 #[(.agg #[b.v]),(.agg #[c.v,VI d]),VI e,f] h K:=cw mixed Tryz.func210 [(58,⟨[⟨11,.l (.i .i64)⟩],[2],[]⟩)] [.v (.a [.sl b]),.v (.a [.sl c,.i .i64 d]),.v (.l (.i .i64 e)),.v (.l (.r f))] [] [] .nil 30 (by kernel_rfl) H
def akI(P:Program)(d:Sl)(a:Int)(e:Nat)(b:Int)(h:Heap)(K:KQ):Prop:=pk (
Lt [(e,[VI b])] fun L=>
A1 h [] (fun c=>(c,[d.v,VI a])::L) fun c f L=>
K (VB (decide (a=b))) f)
theorem akJ(c:Sl)(d:Int)(b:Nat)(e:Int)(h:Heap)(K:KQ)(hL:Vars h [(b,[VI e])])(H:akI aB c d b e h K):aG aB 211 #[(.agg #[c.v,VI d]),(VP b 0)] h K:=cw mixed Tryz.func211 [] [.v (.a [.sl c,.i .i64 d]),.v (.l (.p 0 0))] [(0,[.i .i64 e])] [b] hL 8 (by kernel_rfl) H
def akK(P:Program)(g:Sl)(h:Heap)(K:KQ):Prop:=pk (
E1 Sl.v P (Instr.buildSlice 24 0 #[]) h [] fun a7 a8=>
O2 a7 0 a8 fun a9 aa(b:Sl)(t:Int) s=>
Vars s []->
Br (decide (t<(g.n:Int)))
(G1 Sl.v s g t 1 fun ab=>
C1 Sl.v P 152 #[ab.v] s [] fun ac ad=>
E1 Sl.v P (Instr.buildSlice 24 1 #[(0,ac.v)]) ad [] fun ae af=>
E1 Sl.v P (cD 24 24 24 b.v ae.v) af [] fun ag ah=>
Nj aa fun m=>a9 m ag (aX (t+1)) ah)
(O3 1 1 0 s fun a1 a2(k:Int)(l:Int)(a:Int) u=>
Vars u []->
Br (decide (a<(g.n:Int)))
(O1 a u fun ai aj(d:Int) c=>
Vars c []->
Br (decide (d<(g.n:Int)))
(G1 Sl.v c b d 1 fun ak=>
G1 VI c ak a 1 fun al=>
Br (decide (al=0))
(Nj aj fun m=>ai m (aX (d+1)) c)
(Br (decide (d=(g.n:Int)))
(K (VI 0) c)
(∃x:Int->Heap->Prop,(Br (!decide (d=a))
(G1 Sl.v c b a 1 fun am=>
G1 Sl.v c b d 1 fun an=>
fq b d/\
S1 c (Sl.at b d 1) am.v [] fun ao=>
fq b a/\
S1 ao (Sl.at b a 1) an.v [] fun ap=>
x (aX (0-k)) ap)
(x k c))/\
∀(a3:Int)(y:Heap),x a3 y->Vars y []->
O1 (aX (a+1)) y fun aq ar(o:Int) p=>
Vars p []->
Br (decide (o<(g.n:Int)))
(O1 (aX (a+1)) p fun au av(i:Int) e=>
Vars e []->
Br (decide (i<(g.n:Int)))
(G1 Sl.v e b o 1 fun a4=>
G1 Sl.v e b o 1 fun aw=>
G1 VI e aw i 1 fun ax=>
G1 Sl.v e b a 1 fun ay=>
G1 VI e ay a 1 fun az=>
G1 Sl.v e b o 1 fun b0=>
G1 VI e b0 a 1 fun b1=>
G1 Sl.v e b a 1 fun b2=>
G1 VI e b2 i 1 fun b3=>
l≠0/\
fq a4 i/\
S1 e (Sl.at a4 i 1) (VI (aX (Int.tdiv (aX ((aX (ax*az))-(aX (b1*b3)))) l))) [] fun b4=>
Nj av fun m=>au m (aX (i+1)) b4)
(Nj ar fun m=>aq m (aX (o+1)) e))
(G1 Sl.v p b a 1 fun b5=>
G1 VI p b5 a 1 fun b6=>
Nj a2 fun m=>a1 m a3 b6 (aX (a+1)) p))))
(Br (decide (d=(g.n:Int)))
(K (VI 0) c)
(∃z:Int->Heap->Prop,(Br (!decide (d=a))
(G1 Sl.v c b a 1 fun b7=>
G1 Sl.v c b d 1 fun b8=>
fq b d/\
S1 c (Sl.at b d 1) b7.v [] fun b9=>
fq b a/\
S1 b9 (Sl.at b a 1) b8.v [] fun ba=>
z (aX (0-k)) ba)
(z k c))/\
∀(a5:Int)(a0:Heap),z a5 a0->Vars a0 []->
O1 (aX (a+1)) a0 fun bb bc(q:Int) r=>
Vars r []->
Br (decide (q<(g.n:Int)))
(O1 (aX (a+1)) r fun bd be(j:Int) f=>
Vars f []->
Br (decide (j<(g.n:Int)))
(G1 Sl.v f b q 1 fun a6=>
G1 Sl.v f b q 1 fun bf=>
G1 VI f bf j 1 fun bg=>
G1 Sl.v f b a 1 fun bh=>
G1 VI f bh a 1 fun bi=>
G1 Sl.v f b q 1 fun bj=>
G1 VI f bj a 1 fun bk=>
G1 Sl.v f b a 1 fun bl=>
G1 VI f bl j 1 fun bm=>
l≠0/\
fq a6 j/\
S1 f (Sl.at a6 j 1) (VI (aX (Int.tdiv (aX ((aX (bg*bi))-(aX (bk*bm)))) l))) [] fun bn=>
Nj be fun m=>bd m (aX (j+1)) bn)
(Nj bc fun m=>bb m (aX (q+1)) f))
(G1 Sl.v r b a 1 fun bo=>
G1 VI r bo a 1 fun bp=>
Nj a2 fun m=>a1 m a5 bp (aX (a+1)) r))))
(K (VI (aX (k*l))) u)))
theorem v212(a:Sl)(h:Heap)(K:KQ)(H:akK aB a h K):aG aB 212 #[a.v] h K:=cw mixed Tryz.func212 [(122,⟨[⟨6,.l .sl⟩,⟨18,.l (.i .i64)⟩],[],[]⟩),(250,⟨[⟨4,.l (.i .i64)⟩,⟨5,.l (.i .i64)⟩,⟨29,.l (.i .i64)⟩],[],[]⟩),(128204,⟨[⟨10,.l (.i .i64)⟩],[],[]⟩),(128207,⟨[⟨4,.l (.i .i64)⟩],[],[]⟩),(2051322,⟨[⟨11,.l (.i .i64)⟩],[],[]⟩),(131284626,⟨[⟨12,.l (.i .i64)⟩],[],[]⟩)] [.v (.l (.sl a))] [] [] .nil 134 (by kernel_rfl) H
def akL(P:Program)(c:Sl)(f:Int)(h:Heap)(K:KQ):Prop:=pk (
A1 h [] (fun l=>(l,[c.v])::[]) fun l q L=>
E1 Sl.v P (Instr.buildSlice 24 0 #[]) q L fun r s=>
O2 r 0 s fun o p(g:Sl)(a:Int) d=>
Vars d L->
Br (decide (a<(c.n:Int)))
(G1 Sl.v d c a 1 fun i=>
Br (decide (a=f))
(Nj p fun m=>o m g (aX (a+1)) d)
(E1 Sl.v P (Instr.makeSlice 27 (VI (c.n:Int)) (VI (c.n:Int))) d L fun b t=>
fq b a/\
S1 t (Sl.at b a 1) (VI (i.n:Int)) L fun u=>
O1 0 u fun x y(j:Int) e=>
Vars e L->
Br (decide (j<(i.n:Int)))
(G1 VI e i j 1 fun k=>
G1 VI e b k 1 fun z=>
fq b k/\
S1 e (Sl.at b k 1) (VI (aX (z-1))) L fun a0=>
Nj y fun m=>x m (aX (j+1)) a0)
(C1 Sl.v P 258 #[b.v,VI f,(VI (aX (f+1)))] e L fun a1 a2=>
E1 Sl.v P (Instr.buildSlice 24 1 #[(0,a1.v)]) a2 L fun a3 a4=>
E1 Sl.v P (cD 24 24 24 g.v a3.v) a4 L fun a5 a6=>
Nj p fun m=>o m a5 (aX (a+1)) a6)))
(K g.v d))
theorem akM(b:Sl)(c:Int)(h:Heap)(K:KQ)(H:akL aB b c h K):aG aB 213 #[(.agg #[b.v]),VI c] h K:=cw mixed Tryz.func213 [(58,⟨[⟨5,.l .sl⟩,⟨15,.l (.i .i64)⟩],[],[]⟩),(239226,⟨[⟨34,.l (.i .i64)⟩],[],[]⟩)] [.v (.a [.sl b]),.v (.l (.i .i64 c))] [] [] .nil 55 (by kernel_rfl) H
def akN(P:Program)(a:Sl)(b:Int)(h:Heap)(K:KQ):Prop:=pk (
A1 h [] (fun c=>(c,[a.v])::[]) fun c e L=>
E1 Sl.v P (Instr.buildSlice 27 1 #[(0,(VI b))]) e L fun f g=>
C1 VB P 107 #[(.agg #[a.v]),f.v] g L fun i d=>
Br i
(C1 VB P 259 #[(.agg #[a.v]),VI b] d L fun j k=>
K (VB j) k)
(K (VB false) d))
theorem akO(b:Sl)(c:Int)(h:Heap)(K:KQ)(H:akN aB b c h K):aG aB 214 #[(.agg #[b.v]),VI c] h K:=cw mixed Tryz.func214 [] [.v (.a [.sl b]),.v (.l (.i .i64 c))] [] [] .nil 14 (by kernel_rfl) H
def akP(P:Program)(c:Sl)(i:Int)(h:Heap)(K:KQ):Prop:=pk (
A1 h [] (fun e=>(e,[c.v])::[]) fun e j L=>
E1 Sl.v P (Instr.buildSlice 27 0 #[]) j L fun k l=>
O2 k 0 l fun f g(d:Sl)(a:Int) b=>
Vars b L->
Br (decide (a<(c.n:Int)))
(G1 Sl.v b c a 1 fun o=>
Br (decide (a=i))
(E1 Sl.v P (Instr.buildSlice 27 1 #[(0,(.int .i64 0))]) b L fun p q=>
E1 Sl.v P (cD 27 27 27 d.v p.v) q L fun r s=>
Nj g fun m=>f m r (aX (a+1)) s)
(E1 Sl.v P (Instr.buildSlice 27 1 #[(0,(VI (aX ((o.n:Int)-1))))]) b L fun t u=>
E1 Sl.v P (cD 27 27 27 d.v t.v) u L fun x y=>
Nj g fun m=>f m x (aX (a+1)) y))
(K d.v b))
theorem akQ(b:Sl)(c:Int)(h:Heap)(K:KQ)(H:akP aB b c h K):aG aB 215 #[(.agg #[b.v]),VI c] h K:=cw mixed Tryz.func215 [(58,⟨[⟨5,.l .sl⟩,⟨12,.l (.i .i64)⟩],[],[]⟩)] [.v (.a [.sl b]),.v (.l (.i .i64 c))] [] [] .nil 31 (by kernel_rfl) H
def akR(P:Program)(e:Sl)(b:Int)(g:Int)(h:Heap)(K:KQ):Prop:=pk (
A2 h [] (fun i c=>(c,[aD.v])::((i,[e.v])::[])) fun i c q L=>
E1 Sl.v P (Instr.buildSlice 27 2 #[(0,(VI b)),(1,(VI g))]) q L fun r s=>
C1 VB P 107 #[(.agg #[e.v]),r.v] s L fun t j=>
Br (!t)
(A0 j [c] (Z0 [aD.v] L) fun u L=>
K (.tuple #[(.agg #[aD.v]),VB false]) u)
(C1 (fun a=>(.agg #[(Sl.v a)])) P 109 #[(.agg #[e.v])] j L fun a x=>
fq a b/\
A1 x [] (fun k=>Z0 [a.v] ((k,[aD.v])::L)) fun k l L=>
H1 Sl.v l (Sl.at a b 1) fun o=>
E1 Sl.v P (Instr.buildSlice 27 1 #[(0,(VI g))]) l L fun y p=>
bG p (Sl.at a b 1)=some o.v/\
E1 Sl.v P (cD 27 27 27 o.v y.v) p L fun z a0=>
fq a b/\
S1 a0 (Sl.at a b 1) z.v L fun a1=>
C2 (fun d f=>(.tuple #[(.agg #[(Sl.v d)]),VB f])) P 200 #[(.agg #[a.v])] a1 L fun d f a2=>
A0 a2 [c] (Z1 [d.v] L) fun a3 L=>
K (.tuple #[(.agg #[d.v]),VB f]) a3))
theorem akS(b:Sl)(c:Int)(d:Int)(h:Heap)(K:KQ)(H:akR aB b c d h K):aG aB 216 #[(.agg #[b.v]),VI c,VI d] h K:=cw mixed Tryz.func216 [] [.v (.a [.sl b]),.v (.l (.i .i64 c)),.v (.l (.i .i64 d))] [] [] .nil 34 (by kernel_rfl) H
def akT(P:Program)(e:Sl)(f:Int)(g:Int)(h:Heap)(K:KQ):Prop:=pk (
A1 h [] (fun k=>(k,[e.v])::[]) fun k p L=>
E1 Sl.v P (Instr.buildSlice 27 2 #[(0,(VI f)),(1,(VI g))]) p L fun q r=>
C1 VB P 107 #[(.agg #[e.v]),q.v] r L fun s j=>
Br (!s)
(K (VB false) j)
(Br (decide (f=g))
(K (VB false) j)
(O1 0 j fun c d(a:Int) i=>
Vars i L->
Br (decide (a<(e.n:Int)))
(G1 Sl.v i e a 1 fun l=>
C1 Sl.v P 260 #[(.agg #[e.v]),VI a] i L fun o b=>
G1 VI b o f 1 fun t=>
Br (decide (t<0))
(G1 VI b o g 1 fun u=>
Br (decide (u<0))
(K (VB false) b)
(Br (!decide (a=f))
(Br (!decide (a=g))
(Br (decide ((l.n:Int)=0))
(K (VB false) b)
(Nj d fun m=>c m (aX (a+1)) b))
(Nj d fun m=>c m (aX (a+1)) b))
(Nj d fun m=>c m (aX (a+1)) b)))
(Br (!decide (a=f))
(Br (!decide (a=g))
(Br (decide ((l.n:Int)=0))
(K (VB false) b)
(Nj d fun m=>c m (aX (a+1)) b))
(Nj d fun m=>c m (aX (a+1)) b))
(Nj d fun m=>c m (aX (a+1)) b)))
(K (VB true) i))))
theorem akU(b:Sl)(c:Int)(d:Int)(h:Heap)(K:KQ)(H:akT aB b c d h K):aG aB 217 #[(.agg #[b.v]),VI c,VI d] h K:=cw mixed Tryz.func217 [(58,⟨[⟨24,.l (.i .i64)⟩],[],[]⟩)] [.v (.a [.sl b]),.v (.l (.i .i64 c)),.v (.l (.i .i64 d))] [] [] .nil 60 (by kernel_rfl) H
def akV(P:Program)(c:Sl)(e:Int)(f:Int)(h:Heap)(K:KQ):Prop:=pk (
A1 h [] (fun d=>(d,[c.v])::[]) fun d g L=>
C2 (fun a b=>(.tuple #[(Sl.v a),VI b])) P 261 #[(.agg #[c.v]),VI e,VI f,(Value.func (.func 262) #[] #[]),VI 1,VI 0] g L fun a b i=>
K (.tuple #[a.v,VI b]) i)
theorem v218(b:Sl)(c:Int)(d:Int)(h:Heap)(K:KQ)(H:akV aB b c d h K):aG aB 218 #[(.agg #[b.v]),VI c,VI d] h K:=cw mixed Tryz.func218 [] [.v (.a [.sl b]),.v (.l (.i .i64 c)),.v (.l (.i .i64 d))] [] [] .nil 14 (by kernel_rfl) H
def akW(P:Program)(c:Int)(b:Int)(h:Heap)(K:KQ):Prop:=pk (
A1 h [] (fun d=>(d,[VI 0,VI 0])::[]) fun d j L=>
C1 VI P 263 #[VI c,VI b] j L fun g i=>
∃e:Int->Heap->Prop,(Br (decide (b<0))
(e (aX (0-g)) i)
(e g i))/\
∀(a:Int)(f:Heap),e a f->Vars f L->
a≠0/\
a≠0/\
A0 f [d] (Z0 [(VI (aX (Int.tdiv c a))),(VI (aX (Int.tdiv b a)))] L) fun k L=>
K (.agg #[(VI (aX (Int.tdiv c a))),(VI (aX (Int.tdiv b a)))]) k)
theorem akX(a:Int)(b:Int)(h:Heap)(K:KQ)(H:akW aB a b h K):aG aB 219 #[VI a,VI b] h K:=cw mixed Tryz.func219 [(7,⟨[⟨5,.l (.i .i64)⟩],[],[]⟩)] [.v (.l (.i .i64 a)),.v (.l (.i .i64 b))] [] [] .nil 20 (by kernel_rfl) H
def akY(P:Program)(b:Int)(c:Int)(h:Heap)(K:KQ):Prop:=pk (
C1 VB P 52 #[VI b,VI 0,VI 250] h [] fun f d=>
Br (!f)
(K (.tuple #[(.pointer none),VB false]) d)
(C1 VB P 52 #[VI c,VI 0,VI 3] d [] fun g e=>
Br (!g)
(K (.tuple #[(.pointer none),VB false]) e)
(C1 (fun a=>(.pointer a)) P 264 #[VI b,VI c,VI 4,(Value.func (.func 265) #[] #[])] e [] fun a i=>
K (.tuple #[(.pointer a),VB true]) i)))
theorem akZ(a:Int)(b:Int)(h:Heap)(K:KQ)(H:akY aB a b h K):aG aB 220 #[VI a,VI b] h K:=cw mixed Tryz.func220 [] [.v (.l (.i .i64 a)),.v (.l (.i .i64 b))] [] [] .nil 17 (by kernel_rfl) H
def ak0(P:Program)(b:Int)(a:Int)(d:Int)(a6:Int)(h:Heap)(K:KQ):Prop:=pk (
C1 VB P 266 #[VI b,VI a] h [] fun ba a7=>
Br (!ba)
(K (.tuple #[(.pointer none),VB false]) a7)
(C1 VB P 52 #[VI d,VI 0,VI b] a7 [] fun bb a8=>
Br (!bb)
(K (.tuple #[(.pointer none),VB false]) a8)
(C1 VB P 52 #[VI a6,VI 0,VI 200] a8 [] fun bc e=>
Br (!bc)
(K (.tuple #[(.pointer none),VB false]) e)
(∃c:Nat->Int->Int->Sl->Sl->Sl->Sl->Heap->Prop,((E1 Sl.v P (Instr.buildSlice 27 1 #[(0,(VI d))]) e [] fun j a9=>
(C1 VI P 268 #[VI b,(VI (aX (a-1)))] a9 [] fun aa ab=>
(C1 Sl.v P 267 #[j.v,VI aa] ab [] fun ac bd=>
E1 Sl.v P (Instr.makeSlice 27 (VI (aX (a+1))) (VI (aX (a+1)))) bd [] fun ad be=>
A1 be [] (fun k=>(k,[VI b,VI a,ac.v,aD.v,aD.v,ad.v])::[]) fun k bf L=>
c k b a ac aD aD ad bf)/\
(E1 Sl.v P (Instr.makeSlice 27 (VI (aX (a+1))) (VI (aX (a+1)))) ab [] fun ae bg=>
C1 Sl.v P 267 #[j.v,VI aa] bg [] fun af bh=>
A1 bh [] (fun l=>(l,[VI b,VI a,af.v,aD.v,aD.v,ae.v])::[]) fun l bi L=>
c l b a af aD aD ae bi))/\
(E1 Sl.v P (Instr.makeSlice 27 (VI (aX (a+1))) (VI (aX (a+1)))) a9 [] fun ag bj=>
C1 VI P 268 #[VI b,(VI (aX (a-1)))] bj [] fun bk bl=>
C1 Sl.v P 267 #[j.v,VI bk] bl [] fun ah bm=>
A1 bm [] (fun o=>(o,[VI b,VI a,ah.v,aD.v,aD.v,ag.v])::[]) fun o bn L=>
c o b a ah aD aD ag bn))/\
(C1 VI P 268 #[VI b,(VI (aX (a-1)))] e [] fun p ai=>
(E1 Sl.v P (Instr.buildSlice 27 1 #[(0,(VI d))]) ai [] fun aj ak=>
(C1 Sl.v P 267 #[aj.v,VI p] ak [] fun al bo=>
E1 Sl.v P (Instr.makeSlice 27 (VI (aX (a+1))) (VI (aX (a+1)))) bo [] fun am bp=>
A1 bp [] (fun q=>(q,[VI b,VI a,al.v,aD.v,aD.v,am.v])::[]) fun q bq L=>
c q b a al aD aD am bq)/\
(E1 Sl.v P (Instr.makeSlice 27 (VI (aX (a+1))) (VI (aX (a+1)))) ak [] fun an br=>
C1 Sl.v P 267 #[aj.v,VI p] br [] fun ao bs=>
A1 bs [] (fun r=>(r,[VI b,VI a,ao.v,aD.v,aD.v,an.v])::[]) fun r bt L=>
c r b a ao aD aD an bt))/\
(E1 Sl.v P (Instr.makeSlice 27 (VI (aX (a+1))) (VI (aX (a+1)))) ai [] fun ap bu=>
E1 Sl.v P (Instr.buildSlice 27 1 #[(0,(VI d))]) bu [] fun bv bw=>
C1 Sl.v P 267 #[bv.v,VI p] bw [] fun aq bx=>
A1 bx [] (fun s=>(s,[VI b,VI a,aq.v,aD.v,aD.v,ap.v])::[]) fun s bz L=>
c s b a aq aD aD ap bz))/\
(E1 Sl.v P (Instr.makeSlice 27 (VI (aX (a+1))) (VI (aX (a+1)))) e [] fun f ar=>
(E1 Sl.v P (Instr.buildSlice 27 1 #[(0,(VI d))]) ar [] fun c0 c1=>
C1 VI P 268 #[VI b,(VI (aX (a-1)))] c1 [] fun c2 c3=>
C1 Sl.v P 267 #[c0.v,VI c2] c3 [] fun au c4=>
A1 c4 [] (fun t=>(t,[VI b,VI a,au.v,aD.v,aD.v,f.v])::[]) fun t c5 L=>
c t b a au aD aD f c5)/\
(C1 VI P 268 #[VI b,(VI (aX (a-1)))] ar [] fun c6 c7=>
E1 Sl.v P (Instr.buildSlice 27 1 #[(0,(VI d))]) c7 [] fun c8 c9=>
C1 Sl.v P 267 #[c8.v,VI c6] c9 [] fun av ca=>
A1 ca [] (fun u=>(u,[VI b,VI a,av.v,aD.v,aD.v,f.v])::[]) fun u cb L=>
c u b a av aD aD f cb)))/\
∀(g:Nat)(x:Int)(y:Int)(z:Sl)(a0:Sl)(a1:Sl)(a2:Sl)(a3:Heap),c g x y z a0 a1 a2 a3->Vi a3 ((g,[VI x,VI y,z.v,a0.v,a1.v,a2.v])::[]) fun L=>
∃a4:Nat->Int->Int->Int->Sl->Sl->Sl->Sl->Heap->Prop,(∃n0:Nat,a4 n0 0 x y z a0 a1 a2 a3)/\
∀(aw:Nat)(a5:Int)(ax:Int)(ay:Int)(az:Sl)(b0:Sl)(b1:Sl)(b2:Sl)(i:Heap),a4 aw a5 ax ay az b0 b1 b2 i->Vi i (Z0 [VI ax,VI ay,az.v,b0.v,b1.v,b2.v] L) fun L=>
Br (decide (a5<a6))
(aG P 269 #[(VP g 0)] i fun cc b3=>∃b4:Int,∃b5:Int,∃b6:Sl,∃b7:Sl,∃b8:Sl,∃b9:Sl,Va b3 (Z0 [VI b4,VI b5,b6.v,b7.v,b8.v,b9.v] L) fun L=>
Nj aw fun m=>a4 m (aX (a5+1)) b4 b5 b6 b7 b8 b9 b3)
(K (.tuple #[(VP g 0),VB true]) i)))))
theorem ak1(a:Int)(b:Int)(c:Int)(d:Int)(h:Heap)(K:KQ)(H:ak0 aB a b c d h K):aG aB 221 #[VI a,VI b,VI c,VI d] h K:=cw mixed Tryz.func221 [(7,⟨[],[],[(10,[.i .i64,.i .i64,.sl,.sl,.sl,.sl])]⟩),(122,⟨[⟨41,.l (.i .i64)⟩],[0],[]⟩)] [.v (.l (.i .i64 a)),.v (.l (.i .i64 b)),.v (.l (.i .i64 c)),.v (.l (.i .i64 d))] [] [] .nil 47 (by kernel_rfl) H
def ak2(P:Program)(a:Int)(h:Heap)(K:KQ):Prop:=pk (
Br (decide (a<0))
(C1 VS P 73 #[(VI (aX (0-a)))] h [] fun b c=>
ByteArray.size ({data:= #[45]})+b.size<=9223372036854775807/\
K (VS (({data:= #[45]})++b)) c)
(C1 VS P 73 #[VI a] h [] fun d e=>
K (VS d) e))
theorem ak3(a:Int)(h:Heap)(K:KQ)(H:ak2 aB a h K):aG aB 225 #[VI a] h K:=cw mixed Tryz.func225 [] [.v (.l (.i .i64 a))] [] [] .nil 11 (by kernel_rfl) H
def ak4(P:Program)(c:Sl)(g:Int)(e:Sl)(i:Int)(h:Heap)(K:KQ):Prop:=pk (
Br (!decide (g=i))
(A2 h [] (fun a b=>(b,[e.v,VI i])::((a,[c.v,VI g])::[])) fun a b f L=>
K (VB false) f)
(Br (!decide ((c.n:Int)=(e.n:Int)))
(A2 h [] (fun a b=>(b,[e.v,VI i])::((a,[c.v,VI g])::[])) fun a b f L=>
K (VB false) f)
(A2 h [] (fun a b=>(b,[e.v,VI i])::((a,[c.v,VI g])::[])) fun a b f L=>
O1 0 f fun k l(j:Int) d=>
Vars d L->
Br (decide (j<(c.n:Int)))
(G1 VI d c j 1 fun o=>
G1 VI d e j 1 fun p=>
Br (!decide (o=p))
(K (VB false) d)
(Nj l fun m=>k m (aX (j+1)) d))
(K (VB true) d))))
theorem v226(b:Sl)(c:Int)(d:Sl)(e:Int)(h:Heap)(K:KQ)(H:ak4 aB b c d e h K):aG aB 226 #[(.agg #[b.v,VI c]),(.agg #[d.v,VI e])] h K:=cw mixed Tryz.func226 [(58,⟨[⟨24,.l (.i .i64)⟩],[],[]⟩)] [.v (.a [.sl b,.i .i64 c]),.v (.a [.sl d,.i .i64 e])] [] [] .nil 37 (by kernel_rfl) H
def ak5(P:Program)(k:Sl)(d:Sl)(e:Int)(t:Int)(h:Heap)(K:KQ):Prop:=pk (
A3 h [] (fun l o f=>Z0 [d.v,VI e] ((f,[aD.v,VI 0])::((o,[d.v,VI e])::((l,[k.v])::[])))) fun l o f u L=>
O3 1 d e u fun x y(g:Int)(p:Sl)(q:Int) i=>
Vi i (Z0 [p.v,VI q] L) fun L=>
Br (decide (g<=t))
(C3 (fun a b j=>(.tuple #[(.agg #[(Sl.v a),VI b]),VB j])) P 177 #[(.agg #[k.v]),(.agg #[p.v,VI q])] i L fun a b j r=>
Br (!j)
(A1 r [] (fun c=>Z0 [a.v,VI b] ((c,[aD.v,VI 0])::L)) fun c z L=>
K (VI 0) z)
(A1 r [f] (fun c=>Z1 [a.v,VI b] (Z0 [a.v,VI b] ((c,[aD.v,VI 0])::L))) fun c a0 L=>
C1 VB P 226 #[(.agg #[a.v,VI b]),(.agg #[d.v,VI e])] a0 L fun a1 s=>
Br a1
(K (VI g) s)
(Nj y fun m=>x m (aX (g+1)) a b s)))
(K (VI 0) i))
theorem v227(b:Sl)(c:Sl)(d:Int)(e:Int)(h:Heap)(K:KQ)(H:ak5 aB b c d e h K):aG aB 227 #[(.agg #[b.v]),(.agg #[c.v,VI d]),VI e] h K:=cw mixed Tryz.func227 [(58,⟨[⟨8,.l (.i .i64)⟩],[2],[]⟩)] [.v (.a [.sl b]),.v (.a [.sl c,.i .i64 d]),.v (.l (.i .i64 e))] [] [] .nil 30 (by kernel_rfl) H
def ak6(P:Program)(a:Sl)(c:Sl)(o:Int)(h:Heap)(K:KQ):Prop:=pk (
A1 h [] (fun g=>(g,[a.v])::[]) fun g p L=>
O2 o 0 p fun q r(b:Int)(i:Int) d=>
Vars d L->
Br (decide (i<(a.n:Int)))
(C1 VI P 230 #[(.agg #[a.v]),c.v,VI b] d L fun j k=>
Br (decide (j<0))
(K (.tuple #[aD.v,VB false]) k)
(Nj r fun m=>q m j (aX (i+1)) k))
(E1 Sl.v P (Instr.buildSlice 27 1 #[(0,(VI b))]) d L fun s t=>
C1 VI P 230 #[(.agg #[a.v]),c.v,VI b] t L fun u x=>
O2 s u x fun y z(l:Sl)(e:Int) f=>
Vars f L->
Br (!decide (e=b))
(E1 Sl.v P (Instr.buildSlice 27 1 #[(0,(VI e))]) f L fun a0 a1=>
E1 Sl.v P (cD 27 27 27 l.v a0.v) a1 L fun a2 a3=>
C1 VI P 230 #[(.agg #[a.v]),c.v,VI e] a3 L fun a4 a5=>
Nj z fun m=>y m a2 a4 a5)
(K (.tuple #[l.v,VB true]) f)))
theorem v228(b:Sl)(c:Sl)(d:Int)(h:Heap)(K:KQ)(H:ak6 aB b c d h K):aG aB 228 #[(.agg #[b.v]),c.v,VI d] h K:=cw mixed Tryz.func228 [(26,⟨[⟨2,.l (.i .i64)⟩,⟨8,.l (.i .i64)⟩],[],[]⟩),(122,⟨[⟨9,.l .sl⟩,⟨10,.l (.i .i64)⟩],[],[]⟩)] [.v (.a [.sl b]),.v (.l (.sl c)),.v (.l (.i .i64 d))] [] [] .nil 42 (by kernel_rfl) H
def ak7(P:Program)(c:Sl)(d:Int)(h:Heap)(K:KQ):Prop:=pk (
O1 0 h fun e f(b:Int) a=>
Vars a []->
Br (decide (b<(c.n:Int)))
(G1 VI a c b 1 fun g=>
Br (decide (g=d))
(K (VB true) a)
(Nj f fun m=>e m (aX (b+1)) a))
(K (VB false) a))
theorem v229(a:Sl)(b:Int)(h:Heap)(K:KQ)(H:ak7 aB a b h K):aG aB 229 #[a.v,VI b] h K:=cw mixed Tryz.func229 [(26,⟨[⟨9,.l (.i .i64)⟩],[],[]⟩)] [.v (.l (.sl a)),.v (.l (.i .i64 b))] [] [] .nil 17 (by kernel_rfl) H
def ak8(P:Program)(b:Sl)(e:Sl)(c:Int)(h:Heap)(K:KQ):Prop:=pk (
fq b c/\
A1 h [] (fun d=>(d,[b.v])::[]) fun d a L=>
H1 Sl.v a (Sl.at b c 1) fun f=>
Br (decide ((f.n:Int)=0))
(K (VI (-1)) a)
(G1 Sl.v a b c 1 fun g=>
G1 VI a e c 1 fun i=>
G1 VI a g i 1 fun j=>
K (VI j) a))
theorem ak9(b:Sl)(c:Sl)(d:Int)(h:Heap)(K:KQ)(H:ak8 aB b c d h K):aG aB 230 #[(.agg #[b.v]),c.v,VI d] h K:=cw mixed Tryz.func230 [] [.v (.a [.sl b]),.v (.l (.sl c)),.v (.l (.i .i64 d))] [] [] .nil 25 (by kernel_rfl) H
def ala(P:Program)(a:Sl)(e:Sl)(b:Int)(h:Heap)(K:KQ):Prop:=pk (
A1 h [] (fun f=>(f,[a.v])::[]) fun f i L=>
E1 Sl.v P (Instr.buildSlice 27 1 #[(0,(VI b))]) i L fun j k=>
C1 VI P 230 #[(.agg #[a.v]),e.v,VI b] k L fun l o=>
O2 j l o fun p q(g:Sl)(c:Int) d=>
Vars d L->
Br (!decide (c=b))
(E1 Sl.v P (Instr.buildSlice 27 1 #[(0,(VI c))]) d L fun r s=>
E1 Sl.v P (cD 27 27 27 g.v r.v) s L fun t u=>
C1 VI P 230 #[(.agg #[a.v]),e.v,VI c] u L fun x y=>
Nj q fun m=>p m t x y)
(K g.v d))
theorem alb(b:Sl)(c:Sl)(d:Int)(h:Heap)(K:KQ)(H:ala aB b c d h K):aG aB 231 #[(.agg #[b.v]),c.v,VI d] h K:=cw mixed Tryz.func231 [(58,⟨[⟨7,.l .sl⟩,⟨8,.l (.i .i64)⟩],[],[]⟩)] [.v (.a [.sl b]),.v (.l (.sl c)),.v (.l (.i .i64 d))] [] [] .nil 27 (by kernel_rfl) H
def alc(P:Program)(a:Sl)(b:Int)(c:Int)(h:Heap)(K:KQ):Prop:=pk (
A1 h [] (fun d=>(d,[a.v])::[]) fun d g L=>
C1 VB P 121 #[(.agg #[a.v]),VI b] g L fun i e=>
Br i
(C1 VB P 121 #[(.agg #[a.v]),VI c] e L fun j f=>
Br j
(K (VB (!decide (b=c))) f)
(K (VB false) f))
(K (VB false) e))
theorem v232(b:Sl)(c:Int)(d:Int)(h:Heap)(K:KQ)(H:alc aB b c d h K):aG aB 232 #[(.agg #[b.v]),VI c,VI d] h K:=cw mixed Tryz.func232 [] [.v (.a [.sl b]),.v (.l (.i .i64 c)),.v (.l (.i .i64 d))] [] [] .nil 20 (by kernel_rfl) H
def ald(P:Program)(e:Sl)(g:Int)(i:Int)(h:Heap)(K:KQ):Prop:=pk (
A1 h [] (fun j=>(j,[e.v])::[]) fun j o L=>
O1 0 o fun c d(a:Int) f=>
Vars f L->
Br (decide (a<(e.n:Int)))
(G1 Sl.v f e a 1 fun k=>
C1 Sl.v P 271 #[(.agg #[e.v]),VI a] f L fun l b=>
G1 VI b l g 1 fun p=>
Br (decide (p<0))
(G1 VI b l i 1 fun q=>
Br (decide (q<0))
(K (VB false) b)
(Br (!decide (a=g))
(Br (!decide (a=i))
(Br (decide ((k.n:Int)=0))
(K (VB false) b)
(Nj d fun m=>c m (aX (a+1)) b))
(Nj d fun m=>c m (aX (a+1)) b))
(Nj d fun m=>c m (aX (a+1)) b)))
(Br (!decide (a=g))
(Br (!decide (a=i))
(Br (decide ((k.n:Int)=0))
(K (VB false) b)
(Nj d fun m=>c m (aX (a+1)) b))
(Nj d fun m=>c m (aX (a+1)) b))
(Nj d fun m=>c m (aX (a+1)) b)))
(K (VB true) f))
theorem v233(b:Sl)(c:Int)(d:Int)(h:Heap)(K:KQ)(H:ald aB b c d h K):aG aB 233 #[(.agg #[b.v]),VI c,VI d] h K:=cw mixed Tryz.func233 [(26,⟨[⟨13,.l (.i .i64)⟩],[],[]⟩)] [.v (.a [.sl b]),.v (.l (.i .i64 c)),.v (.l (.i .i64 d))] [] [] .nil 49 (by kernel_rfl) H
def ale(P:Program)(i:Sl)(a1:Int)(a2:Int)(h:Heap)(K:KQ):Prop:=pk (
A1 h [] (fun t=>(t,[i.v])::[]) fun t a3 L=>
O2 aD 0 a3 fun o p(a:Sl)(c:Int) g=>
Vars g L->
Br (decide (c<(i.n:Int)))
(Br (!decide (c=a1))
(Br (!decide (c=a2))
(E1 Sl.v P (Instr.buildSlice 27 1 #[(0,(VI c))]) g L fun a4 a5=>
E1 Sl.v P (cD 27 27 27 a.v a4.v) a5 L fun a6 a7=>
Nj p fun m=>o m a6 (aX (c+1)) a7)
(Nj p fun m=>o m a (aX (c+1)) g))
(Nj p fun m=>o m a (aX (c+1)) g))
(O2 aD 0 g fun a8 a9(u:Sl)(q:Int) j=>
Vars j L->
Br (decide (q<(a.n:Int)))
(G1 VI j a q 1 fun r=>
E1 Sl.v P (Instr.makeSlice 27 (VI (a.n:Int)) (VI (a.n:Int))) j L fun d aa=>
O1 0 aa fun ab ac(b:Int) e=>
Vars e L->
Br (decide (b<(a.n:Int)))
(G1 VI e a b 1 fun x=>
∃s:Heap->Prop,(Br (decide (x=r))
(G1 VI e d b 1 fun ad=>
G1 Sl.v e i r 1 fun ae=>
fq d b/\
S1 e (Sl.at d b 1) (VI (aX (ad+(ae.n:Int)))) L fun af=>
s af)
(s e))/\
∀(k:Heap),s k->Vars k L->
G1 Sl.v k i r 1 fun y=>
O1 0 k fun z a0(l:Int) f=>
Vars f L->
Br (decide (l<(y.n:Int)))
(G1 VI f y l 1 fun ag=>
Br (decide (ag=x))
(G1 VI f d b 1 fun ah=>
fq d b/\
S1 f (Sl.at d b 1) (VI (aX (ah-1))) L fun ai=>
Nj a0 fun m=>z m (aX (l+1)) ai)
(Nj a0 fun m=>z m (aX (l+1)) f))
(Nj ac fun m=>ab m (aX (b+1)) f))
(E1 Sl.v P (Instr.buildSlice 24 1 #[(0,d.v)]) e L fun aj ak=>
E1 Sl.v P (cD 24 24 24 u.v aj.v) ak L fun al am=>
Nj a9 fun m=>a8 m al (aX (q+1)) am))
(K (.tuple #[a.v,u.v]) j)))
theorem v234(b:Sl)(c:Int)(d:Int)(h:Heap)(K:KQ)(H:ale aB b c d h K):aG aB 234 #[(.agg #[b.v]),VI c,VI d] h K:=cw mixed Tryz.func234 [(58,⟨[⟨8,.l .sl⟩,⟨21,.l (.i .i64)⟩],[],[]⟩),(250,⟨[⟨10,.l .sl⟩,⟨39,.l (.i .i64)⟩],[],[]⟩),(256410,⟨[⟨48,.l (.i .i64)⟩],[],[]⟩),(16410265,⟨[],[],[]⟩),(131282126,⟨[⟨74,.l (.i .i64)⟩],[],[]⟩)] [.v (.a [.sl b]),.v (.l (.i .i64 c)),.v (.l (.i .i64 d))] [] [] .nil 96 (by kernel_rfl) H
def alf(P:Program)(a:Sl)(k:Sl)(h:Heap)(K:KQ):Prop:=pk (
C1 VI P 182 #[a.v] h [] fun l o=>
O2 aD 0 o fun p q(g:Sl)(b:Int) e=>
Vars e []->
Br (decide (b<(a.n:Int)))
(O2 aD 0 e fun r s(i:Sl)(c:Int) d=>
Vars d []->
Br (decide (c<(a.n:Int)))
(G1 Sl.v d a c 1 fun t=>
C1 Sl.v P 87 #[t.v] d [] fun f j=>
G1 VI j k c 1 fun u=>
fq f b/\
S1 j (Sl.at f b 1) (VI u) [] fun x=>
E1 Sl.v P (Instr.buildSlice 24 1 #[(0,f.v)]) x [] fun y z=>
E1 Sl.v P (cD 24 24 24 i.v y.v) z [] fun a0 a1=>
Nj s fun m=>r m a0 (aX (c+1)) a1)
(C1 VI P 182 #[i.v] d [] fun a2 a3=>
E1 Sl.v P (Instr.buildSlice 27 1 #[(0,(VI a2))]) a3 [] fun a4 a5=>
E1 Sl.v P (cD 27 27 27 g.v a4.v) a5 [] fun a6 a7=>
Nj q fun m=>p m a6 (aX (b+1)) a7))
(K (.tuple #[g.v,VI l]) e))
theorem alg(a:Sl)(b:Sl)(h:Heap)(K:KQ)(H:alf aB a b h K):aG aB 235 #[a.v,b.v] h K:=cw mixed Tryz.func235 [(122,⟨[⟨7,.l .sl⟩,⟨17,.l (.i .i64)⟩],[],[]⟩),(125338,⟨[⟨9,.l .sl⟩,⟨22,.l (.i .i64)⟩],[],[]⟩)] [.v (.l (.sl a)),.v (.l (.sl b))] [] [] .nil 49 (by kernel_rfl) H
def alh(P:Program)(k:Int)(e:Int)(h:Heap)(K:KQ):Prop:=pk (
A1 h [] (fun f=>(f,[VI 0,VI 0])::[]) fun f l L=>
∃g:Int->Int->Heap->Prop,(Br (decide (e<0))
(g (aX (0-k)) (aX (0-e)) l)
(g k e l))/\
∀(b:Int)(c:Int)(i:Heap),g b c i->Vars i L->
C1 VI P 272 #[VI b] i L fun o p=>
O2 o c p fun q r(a:Int)(d:Int) j=>
Vars j L->
Br (decide (0<d))
(d≠0/\
Nj r fun m=>q m d (Int.tmod a d) j)
(a≠0/\
a≠0/\
A0 j [f] (Z0 [(VI (aX (Int.tdiv b a))),(VI (aX (Int.tdiv c a)))] L) fun s L=>
K (.agg #[(VI (aX (Int.tdiv b a))),(VI (aX (Int.tdiv c a)))]) s))
theorem v236(a:Int)(b:Int)(h:Heap)(K:KQ)(H:alh aB a b h K):aG aB 236 #[VI a,VI b] h K:=cw mixed Tryz.func236 [(3,⟨[⟨0,.l (.i .i64)⟩,⟨1,.l (.i .i64)⟩],[],[]⟩),(60,⟨[⟨5,.l (.i .i64)⟩,⟨6,.l (.i .i64)⟩],[],[]⟩)] [.v (.l (.i .i64 a)),.v (.l (.i .i64 b))] [] [] .nil 29 (by kernel_rfl) H
def ali(P:Program)(a:Sl)(f:Int)(h:Heap)(K:KQ):Prop:=pk (
A1 h [] (fun e=>(e,[a.v])::[]) fun e g L=>
O1 0 g fun i j(b:Int) c=>
Vars c L->
Br (decide (b<(a.n:Int)))
(C1 Sl.v P 271 #[(.agg #[a.v]),VI b] c L fun k d=>
G1 VI d k f 1 fun l=>
Br (decide (l<0))
(K (VB false) d)
(Nj j fun m=>i m (aX (b+1)) d))
(K (VB true) c))
theorem alj(b:Sl)(c:Int)(h:Heap)(K:KQ)(H:ali aB b c h K):aG aB 237 #[(.agg #[b.v]),VI c] h K:=cw mixed Tryz.func237 [(26,⟨[⟨9,.l (.i .i64)⟩],[],[]⟩)] [.v (.a [.sl b]),.v (.l (.i .i64 c))] [] [] .nil 20 (by kernel_rfl) H
def alk(P:Program)(b:Int)(d:Int)(h:Heap)(K:KQ):Prop:=pk (
C1 VB P 119 #[VI b,VI 2,VI 3] h [] fun j e=>
Br (!j)
(K (VI 0) e)
(C1 VB P 119 #[VI d,VI 1,VI 6] e [] fun k f=>
Br (!k)
(K (VI 0) f)
(O3 1 1 0 f fun l o(c:Int)(g:Int)(i:Int) a=>
Vars a []->
Br (decide (i<d))
(Nj o fun m=>l m (aX (c+(aX (g*b)))) (aX (g*b)) (aX (i+1)) a)
(Br (decide (130<c))
(K (VI 0) a)
(K (VI c) a)))))
theorem alm(a:Int)(b:Int)(h:Heap)(K:KQ)(H:alk aB a b h K):aG aB 238 #[VI a,VI b] h K:=cw mixed Tryz.func238 [(122,⟨[⟨5,.l (.i .i64)⟩,⟨6,.l (.i .i64)⟩,⟨7,.l (.i .i64)⟩],[],[]⟩)] [.v (.l (.i .i64 a)),.v (.l (.i .i64 b))] [] [] .nil 30 (by kernel_rfl) H
def aln(P:Program)(b:Int)(a:Int)(af:Int)(h:Heap)(K:KQ):Prop:=pk (
∃d:Nat->Int->Int->Int->Sl->Sl->Sl->Sl->Heap->Prop,((C1 VI P 238 #[VI b,VI a] h [] fun e a5=>
(C1 VI P 273 #[VI b,VI a] a5 [] fun a6 ag=>
E1 Sl.v P (Instr.makeSlice 27 (VI (aX (a+1))) (VI (aX (a+1)))) ag [] fun a7 ah=>
A1 ah [] (fun p=>(p,[VI b,VI a,(VI (aX (e-a6))),aD.v,aD.v,aD.v,a7.v])::[]) fun p ai L=>
d p b a (aX (e-a6)) aD aD aD a7 ai)/\
(E1 Sl.v P (Instr.makeSlice 27 (VI (aX (a+1))) (VI (aX (a+1)))) a5 [] fun a8 aj=>
C1 VI P 273 #[VI b,VI a] aj [] fun a9 ak=>
A1 ak [] (fun q=>(q,[VI b,VI a,(VI (aX (e-a9))),aD.v,aD.v,aD.v,a8.v])::[]) fun q al L=>
d q b a (aX (e-a9)) aD aD aD a8 al))/\
(E1 Sl.v P (Instr.makeSlice 27 (VI (aX (a+1))) (VI (aX (a+1)))) h [] fun aa am=>
C1 VI P 238 #[VI b,VI a] am [] fun ab an=>
C1 VI P 273 #[VI b,VI a] an [] fun ac ao=>
A1 ao [] (fun r=>(r,[VI b,VI a,(VI (aX (ab-ac))),aD.v,aD.v,aD.v,aa.v])::[]) fun r ap L=>
d r b a (aX (ab-ac)) aD aD aD aa ap))/\
∀(f:Nat)(s:Int)(t:Int)(u:Int)(x:Sl)(y:Sl)(z:Sl)(a0:Sl)(a1:Heap),d f s t u x y z a0 a1->Vi a1 ((f,[VI s,VI t,VI u,x.v,y.v,z.v,a0.v])::[]) fun L=>
∃a2:Nat->Int->Int->Int->Int->Sl->Sl->Sl->Sl->Heap->Prop,(∃n0:Nat,a2 n0 0 s t u x y z a0 a1)/\
∀(ad:Nat)(a3:Int)(g:Int)(i:Int)(c:Int)(a4:Sl)(j:Sl)(k:Sl)(l:Sl)(o:Heap),a2 ad a3 g i c a4 j k l o->Vi o (Z0 [VI g,VI i,VI c,a4.v,j.v,k.v,l.v] L) fun L=>
Br (decide (a3<c))
(E1 Sl.v P (Instr.buildSlice 27 1 #[(0,(VI af))]) o L fun aq ar=>
E1 Sl.v P (cD 27 27 27 a4.v aq.v) ar L fun ae au=>
A0 au [f] (Z0 [VI g,VI i,VI c,ae.v,j.v,k.v,l.v] L) fun av L=>
Nj ad fun m=>a2 m (aX (a3+1)) g i c ae j k l av)
(K (VP f 0) o))
theorem alo(a:Int)(b:Int)(c:Int)(h:Heap)(K:KQ)(H:aln aB a b c h K):aG aB 239 #[VI a,VI b,VI c] h K:=cw mixed Tryz.func239 [(3,⟨[],[],[(7,[.i .i64,.i .i64,.i .i64,.sl,.sl,.sl,.sl])]⟩),(58,⟨[⟨8,.l (.i .i64)⟩],[0],[]⟩)] [.v (.l (.i .i64 a)),.v (.l (.i .i64 b)),.v (.l (.i .i64 c))] [] [] .nil 42 (by kernel_rfl) H
def ae3(P:Program)(i:Nat)(c:Int)(j:Int)(g:Int)(d:Sl)(r:Sl)(k:Sl)(a:Sl)(h:Heap)(K:KQ):Prop:=pk (
Lt [(i,[VI c,VI j,VI g,d.v,r.v,k.v,a.v])] fun L=>
G1 VI h a 0 1 fun a7=>
fq a 0/\
S1 h (Sl.at a 0 1) (VI (aX (a7+1))) L fun a8=>
O3 0 0 0 a8 fun a0 a1(b:Int)(s:Int)(o:Int) e=>
Vars e L->
Br (decide (0<=b))
(Br (decide (b<g))
(G1 VI e d b 1 fun a9=>
(aX (c+1))≠0/\
fq d b/\
S1 e (Sl.at d b 1) (VI (Int.tmod (aX (a9+1)) (aX (c+1)))) L fun p=>
∃q:Int->Int->Heap->Prop,(G1 VI p d b 1 fun a2=>
Br (decide (0<a2))
(q (aX ((aX (b*c))+a2)) (aX (s+1)) p)
(Br (decide (b=0))
(q (-1) (aX (s-1)) p)
(c≠0/\
q (aX (Int.tdiv (aX (b-1)) c)) (aX (s-1)) p)))/\
∀(t:Int)(f:Int)(l:Heap),q t f l->Vars l L->
Br (decide (0<=f))
(G1 VI l a f 1 fun aa=>
fq a f/\
S1 l (Sl.at a f 1) (VI (aX (aa+1))) L fun ab=>
Nj a1 fun m=>a0 m t f (aX (o+1)) ab)
(Nj a1 fun m=>a0 m t f (aX (o+1)) l))
(∃u:Int->Heap->Prop,(Br (decide (0<b))
(u 1 e)
(u 0 e))/\
∀(a3:Int)(x:Heap),u a3 x->Vars x L->
E1 Sl.v P (Instr.buildSlice 27 1 #[(0,(VI a3))]) x L fun ac ad=>
E1 Sl.v P (cD 27 27 27 r.v ac.v) ad L fun a4 ae=>
A0 ae [i] (Z0 [VI c,VI j,VI g,d.v,a4.v,k.v,a.v] L) fun af L=>
E1 Sl.v P (Instr.buildSlice 27 1 #[(0,(VI o))]) af L fun ag ah=>
E1 Sl.v P (cD 27 27 27 k.v ag.v) ah L fun ai aj=>
A0 aj [i] (Z0 [VI c,VI j,VI g,d.v,a4.v,ai.v,a.v] L) fun ak L=>
K (.tuple #[]) ak))
(∃y:Int->Heap->Prop,(Br (decide (0<b))
(y 1 e)
(y 0 e))/\
∀(a5:Int)(z:Heap),y a5 z->Vars z L->
E1 Sl.v P (Instr.buildSlice 27 1 #[(0,(VI a5))]) z L fun al am=>
E1 Sl.v P (cD 27 27 27 r.v al.v) am L fun a6 an=>
A0 an [i] (Z0 [VI c,VI j,VI g,d.v,a6.v,k.v,a.v] L) fun ao L=>
E1 Sl.v P (Instr.buildSlice 27 1 #[(0,(VI o))]) ao L fun ap aq=>
E1 Sl.v P (cD 27 27 27 k.v ap.v) aq L fun ar au=>
A0 au [i] (Z0 [VI c,VI j,VI g,d.v,a6.v,ar.v,a.v] L) fun av L=>
K (.tuple #[]) av))
theorem alp(a:Nat)(b:Int)(c:Int)(d:Int)(e:Sl)(f:Sl)(g:Sl)(j:Sl)(h:Heap)(K:KQ)(hL:Vars h [(a,[VI b,VI c,VI d,e.v,f.v,g.v,j.v])])(H:ae3 aB a b c d e f g j h K):aG aB 240 #[(VP a 0)] h K:=cw mixed Tryz.func240 [(28,⟨[⟨2,.l (.i .i64)⟩,⟨3,.l (.i .i64)⟩,⟨4,.l (.i .i64)⟩],[],[]⟩),(31,⟨[⟨6,.l (.i .i64)⟩],[],[]⟩),(907,⟨[⟨2,.l (.i .i64)⟩,⟨3,.l (.i .i64)⟩],[],[]⟩)] [.v (.l (.p 0 0))] [(0,[.i .i64 b,.i .i64 c,.i .i64 d,.sl e,.sl f,.sl g,.sl j])] [a] hL 110 (by kernel_rfl) H
def ae4(P:Program)(a:Int)(b:Int)(h:Heap)(K:KQ):Prop:=pk (
K (VI (aX ((aX ((aX ((aX (a+60))*121))+b))+60))) h)
theorem alq(a:Int)(b:Int)(h:Heap)(K:KQ)(H:ae4 aB a b h K):aG aB 241 #[VI a,VI b] h K:=cw mixed Tryz.func241 [] [.v (.l (.i .i64 a)),.v (.l (.i .i64 b))] [] [] .nil 11 (by kernel_rfl) H
def alr(P:Program)(a:Int)(b:Int)(c:Int)(h:Heap)(K:KQ):Prop:=pk (
Br (decide (c=0))
(K (.tuple #[(VI (aX (a+1))),VI b]) h)
(Br (decide (c=1))
(K (.tuple #[VI a,(VI (aX (b+1)))]) h)
(Br (decide (c=2))
(K (.tuple #[(VI (aX (a-1))),VI b]) h)
(K (.tuple #[VI a,(VI (aX (b-1)))]) h))))
theorem als(a:Int)(b:Int)(c:Int)(h:Heap)(K:KQ)(H:alr aB a b c h K):aG aB 242 #[VI a,VI b,VI c] h K:=cw mixed Tryz.func242 [] [.v (.l (.i .i64 a)),.v (.l (.i .i64 b)),.v (.l (.i .i64 c))] [] [] .nil 27 (by kernel_rfl) H
def alt(P:Program)(e:Sl)(g:Nat)(b:Sl)(a:Int)(h:Heap)(K:KQ):Prop:=pk (
Lt [(g,[b.v,VI a])] fun L=>
fq e a/\
A1 h [] (fun i=>(i,[e.v])::L) fun i c L=>
H1 Sl.v c (Sl.at e a 1) fun d=>
Br (decide ((d.n:Int)=0))
(K (VB false) c)
(G1 VI c b a 1 fun j=>
(d.n:Int)≠0/\
fq b a/\
S1 c (Sl.at b a 1) (VI (Int.tmod (aX (j+1)) (d.n:Int))) L fun f=>
G1 VI f b a 1 fun k=>
G1 VI f d k 1 fun l=>
A0 f [g] (Z1 [b.v,VI l] L) fun o L=>
K (VB true) o))
theorem alu(c:Sl)(b:Nat)(d:Sl)(e:Int)(h:Heap)(K:KQ)(hL:Vars h [(b,[d.v,VI e])])(H:alt aB c b d e h K):aG aB 254 #[(.agg #[c.v]),(VP b 0)] h K:=cw mixed Tryz.func254 [] [.v (.a [.sl c]),.v (.l (.p 0 0))] [(0,[.sl d,.i .i64 e])] [b] hL 56 (by kernel_rfl) H
def alv(P:Program)(a:Sl)(b:Int)(h:Heap)(K:KQ):Prop:=pk (
C1 VI P 257 #[a.v,VI b] h [] fun c d=>
K (VB (decide (0<=c))) d)
theorem alw(a:Sl)(b:Int)(h:Heap)(K:KQ)(H:alv aB a b h K):aG aB 255 #[a.v,VI b] h K:=cw mixed Tryz.func255 [] [.v (.l (.sl a)),.v (.l (.i .i64 b))] [] [] .nil 9 (by kernel_rfl) H
def alx(P:Program)(b:Sl)(e:Sl)(c:Int)(h:Heap)(K:KQ):Prop:=pk (
fq b c/\
A1 h [] (fun d=>(d,[b.v])::[]) fun d a L=>
H1 Sl.v a (Sl.at b c 1) fun f=>
Br (decide ((f.n:Int)=0))
(K (VI (-1)) a)
(G1 Sl.v a b c 1 fun g=>
G1 VI a e c 1 fun i=>
G1 VI a g i 1 fun j=>
K (VI j) a))
theorem aly(b:Sl)(c:Sl)(d:Int)(h:Heap)(K:KQ)(H:alx aB b c d h K):aG aB 256 #[(.agg #[b.v]),c.v,VI d] h K:=cw mixed Tryz.func256 [] [.v (.a [.sl b]),.v (.l (.sl c)),.v (.l (.i .i64 d))] [] [] .nil 25 (by kernel_rfl) H
def alz(P:Program)(c:Sl)(d:Int)(h:Heap)(K:KQ):Prop:=pk (
O1 0 h fun e f(b:Int) a=>
Vars a []->
Br (decide (b<(c.n:Int)))
(G1 VI a c b 1 fun g=>
Br (decide (d=g))
(K (VI b) a)
(Nj f fun m=>e m (aX (b+1)) a))
(K (VI (-1)) a))
theorem alA(a:Sl)(b:Int)(h:Heap)(K:KQ)(H:alz aB a b h K):aG aB 257 #[a.v,VI b] h K:=cw mixed Tryz.func257 [(26,⟨[⟨8,.l (.i .i64)⟩],[],[]⟩)] [.v (.l (.sl a)),.v (.l (.i .i64 b))] [] [] .nil 19 (by kernel_rfl) H
def alB(P:Program)(a:Sl)(f:Int)(h:Heap)(K:KQ):Prop:=pk (
A1 h [] (fun e=>(e,[a.v])::[]) fun e g L=>
O1 0 g fun i j(b:Int) c=>
Vars c L->
Br (decide (b<(a.n:Int)))
(C1 Sl.v P 260 #[(.agg #[a.v]),VI b] c L fun k d=>
G1 VI d k f 1 fun l=>
Br (decide (l<0))
(K (VB false) d)
(Nj j fun m=>i m (aX (b+1)) d))
(K (VB true) c))
theorem alC(b:Sl)(c:Int)(h:Heap)(K:KQ)(H:alB aB b c h K):aG aB 259 #[(.agg #[b.v]),VI c] h K:=cw mixed Tryz.func259 [(26,⟨[⟨9,.l (.i .i64)⟩],[],[]⟩)] [.v (.a [.sl b]),.v (.l (.i .i64 c))] [] [] .nil 20 (by kernel_rfl) H
def alD(P:Program)(g:Sl)(i:Int)(h:Heap)(K:KQ):Prop:=pk (
A1 h [] (fun k=>(k,[g.v])::[]) fun k q L=>
E1 Sl.v P (Instr.buildSlice 27 1 #[(0,(.int .i64 (-1)))]) q L fun r s=>
C1 Sl.v P 267 #[r.v,(VI (g.n:Int))] s L fun b t=>
fq b i/\
S1 t (Sl.at b i 1) (VI 0) L fun u=>
E1 Sl.v P (Instr.buildSlice 27 1 #[(0,(VI i))]) u L fun x y=>
O1 x y fun z a0(j:Sl) c=>
Vars c L->
Br (decide (0<(j.n:Int)))
(G1 VI c j 0 1 fun a1=>
G1 Sl.v c g a1 1 fun l=>
O2 j 0 c fun o p(d:Sl)(e:Int) a=>
Vars a L->
Br (decide (e<(l.n:Int)))
(G1 VI a l e 1 fun f=>
G1 VI a b f 1 fun a2=>
Br (decide (a2<0))
(G1 VI a d 0 1 fun a3=>
G1 VI a b a3 1 fun a4=>
fq b f/\
S1 a (Sl.at b f 1) (VI (aX (a4+1))) L fun a5=>
E1 Sl.v P (Instr.buildSlice 27 1 #[(0,(VI f))]) a5 L fun a6 a7=>
E1 Sl.v P (cD 27 27 27 d.v a6.v) a7 L fun a8 a9=>
Nj p fun m=>o m a8 (aX (e+1)) a9)
(Nj p fun m=>o m d (aX (e+1)) a))
(Q1 Sl.v P (Instr.sliceAt 27 d.v (some (.int .i64 1)) none none) fun aa=>
Nj a0 fun m=>z m aa a))
(K b.v c))
theorem alE(b:Sl)(c:Int)(h:Heap)(K:KQ)(H:alD aB b c h K):aG aB 260 #[(.agg #[b.v]),VI c] h K:=cw mixed Tryz.func260 [(122,⟨[⟨6,.l .sl⟩],[],[]⟩),(7826,⟨[⟨6,.l .sl⟩,⟨32,.l (.i .i64)⟩],[],[]⟩)] [.v (.a [.sl b]),.v (.l (.i .i64 c))] [] [] .nil 57 (by kernel_rfl) H
def alF(P:Program)(g:Sl)(o:Int)(p:Int)(a8:Value)(a9:Int)(aa:Int)(h:Heap)(K:KQ):Prop:=pk (
A1 h [] (fun ab=>(ab,[g.v])::[]) fun ab an L=>
E1 Sl.v P (Instr.buildSlice 27 0 #[]) an L fun ao ap=>
O2 ao 0 ap fun y z(a:Sl)(d:Int) i=>
Vars i L->
Br (decide (d<(g.n:Int)))
(Br (!decide (d=o))
(Br (!decide (d=p))
(E1 Sl.v P (Instr.buildSlice 27 1 #[(0,(VI d))]) i L fun aq ar=>
E1 Sl.v P (cD 27 27 27 a.v aq.v) ar L fun au av=>
Nj z fun m=>y m au (aX (d+1)) av)
(Nj z fun m=>y m a (aX (d+1)) i))
(Nj z fun m=>y m a (aX (d+1)) i))
(E1 Sl.v P (Instr.buildSlice 24 0 #[]) i L fun aw ax=>
E1 Sl.v P (Instr.buildSlice 27 0 #[]) ax L fun ay az=>
O3 aw ay 0 az fun b0 b1(e:Sl)(ac:Sl)(a0:Int) j=>
Vars j L->
Br (decide (a0<(a.n:Int)))
(G1 VI j a a0 1 fun q=>
∃a1:Sl->Int->Heap->Prop,((E1 Sl.v P (Instr.makeSlice 27 (VI (a.n:Int)) (VI (a.n:Int))) j L fun b2 b3=>
iW P a8 [VI q] b3 fun b4 ad=>∃ae:Int,b4=(VI ae)/\Va ad L fun L=>
a1 b2 ae ad)/\
(iW P a8 [VI q] j fun b5 af=>∃ag:Int,b5=(VI ag)/\Va af L fun L=>
E1 Sl.v P (Instr.makeSlice 27 (VI (a.n:Int)) (VI (a.n:Int))) af L fun b6 b7=>
a1 b6 ag b7))/\
∀(b:Sl)(ah:Int)(r:Heap),a1 b ah r->Vars r L->
G1 Sl.v r g q 1 fun ai=>
O2 ah 0 r fun a2 a3(s:Int)(k:Int) c=>
Vars c L->
Br (decide (k<(ai.n:Int)))
(G1 VI c ai k 1 fun a4=>
Br (decide (a4=o))
(Nj a3 fun m=>a2 m (aX (s+a9)) (aX (k+1)) c)
(Br (decide (a4=p))
(Nj a3 fun m=>a2 m (aX (s+aa)) (aX (k+1)) c)
(C1 VI P 257 #[a.v,VI a4] c L fun a5 aj=>
G1 VI aj b a5 1 fun b8=>
fq b a5/\
S1 aj (Sl.at b a5 1) (VI (aX (b8-1))) L fun b9=>
Nj a3 fun m=>a2 m s (aX (k+1)) b9)))
(G1 VI c b (e.n:Int) 1 fun ba=>
G1 Sl.v c g q 1 fun bb=>
fq b (e.n:Int)/\
S1 c (Sl.at b (e.n:Int) 1) (VI (aX (ba+(bb.n:Int)))) L fun bc=>
E1 Sl.v P (Instr.buildSlice 24 1 #[(0,b.v)]) bc L fun bd be=>
E1 Sl.v P (cD 24 24 24 e.v bd.v) be L fun bf bg=>
E1 Sl.v P (Instr.buildSlice 27 1 #[(0,(VI s))]) bg L fun bh bi=>
E1 Sl.v P (cD 27 27 27 ac.v bh.v) bi L fun bj bk=>
Nj b1 fun m=>b0 m bf bj (aX (a0+1)) bk))
(C1 VI P 212 #[e.v] j L fun a6 bl=>
E1 Sl.v P (Instr.makeSlice 27 (VI (g.n:Int)) (VI (g.n:Int))) bl L fun f bm=>
fq f o/\
S1 bm (Sl.at f o 1) (VI (aX (a9*a6))) L fun bn=>
fq f p/\
S1 bn (Sl.at f p 1) (VI (aX (aa*a6))) L fun bo=>
O1 0 bo fun bp bq(l:Int) t=>
Vars t L->
Br (decide (l<(a.n:Int)))
(G1 VI t a l 1 fun ak=>
E1 Sl.v P (Instr.buildSlice 24 0 #[]) t L fun br bs=>
O2 br 0 bs fun bt bu(al:Sl)(u:Int) x=>
Vars x L->
Br (decide (u<(e.n:Int)))
(G1 Sl.v x e u 1 fun bv=>
C1 Sl.v P 152 #[bv.v] x L fun a7 am=>
G1 VI am ac u 1 fun bw=>
fq a7 l/\
S1 am (Sl.at a7 l 1) (VI bw) L fun bx=>
E1 Sl.v P (Instr.buildSlice 24 1 #[(0,a7.v)]) bx L fun bz c0=>
E1 Sl.v P (cD 24 24 24 al.v bz.v) c0 L fun c1 c2=>
Nj bu fun m=>bt m c1 (aX (u+1)) c2)
(C1 VI P 212 #[al.v] x L fun c3 c4=>
fq f ak/\
S1 c4 (Sl.at f ak 1) (VI c3) L fun c5=>
Nj bq fun m=>bp m (aX (l+1)) c5))
(K (.tuple #[f.v,VI a6]) t))))
theorem alG(b:Sl)(c:Int)(d:Int)(e:Value)(f:Int)(g:Int)(h:Heap)(K:KQ)(H:alF aB b c d e f g h K):aG aB 261 #[(.agg #[b.v]),VI c,VI d,e,VI f,VI g] h K:=cw mixed Tryz.func261 [(58,⟨[⟨14,.l .sl⟩,⟨35,.l (.i .i64)⟩],[],[]⟩),(250,⟨[⟨16,.l .sl⟩,⟨17,.l .sl⟩,⟨55,.l (.i .i64)⟩],[],[]⟩),(4090,⟨[⟨139,.l (.i .i64)⟩],[],[]⟩),(16025,⟨[⟨20,.l .sl⟩,⟨21,.l (.i .i64)⟩],[],[]⟩),(256410,⟨[⟨21,.l (.i .i64)⟩,⟨71,.l (.i .i64)⟩],[],[]⟩),(4188570,⟨[⟨28,.l .sl⟩,⟨147,.l (.i .i64)⟩],[],[]⟩)] [.v (.a [.sl b]),.v (.l (.i .i64 c)),.v (.l (.i .i64 d)),.v (.l (.r e)),.v (.l (.i .i64 f)),.v (.l (.i .i64 g))] [] [] .nil 174 (by kernel_rfl) H
def alH(P:Program)(a:Int)(h:Heap)(K:KQ):Prop:=pk (
K (VI 0) h)
theorem alI(a:Int)(h:Heap)(K:KQ)(H:alH aB a h K):aG aB 262 #[VI a] h K:=cw mixed Tryz.func262 [] [.v (.l (.i .i64 a))] [] [] .nil 3 (by kernel_rfl) H
def alJ(P:Program)(c:Int)(d:Int)(h:Heap)(K:KQ):Prop:=pk (
Q1 VI P (Builtin.max_ #[3,3] 3 #[VI c,(VI (aX (0-c)))]) fun f=>
Q1 VI P (Builtin.max_ #[3,3] 3 #[VI d,(VI (aX (0-d)))]) fun g=>
O2 f g h fun i j(e:Int)(a:Int) b=>
Vars b []->
Br (!decide (a=0))
(a≠0/\
Nj j fun m=>i m a (Int.tmod e a) b)
(K (VI e) b))
theorem alK(a:Int)(b:Int)(h:Heap)(K:KQ)(H:alJ aB a b h K):aG aB 263 #[VI a,VI b] h K:=cw mixed Tryz.func263 [(28,⟨[⟨0,.l (.i .i64)⟩,⟨1,.l (.i .i64)⟩],[],[]⟩)] [.v (.l (.i .i64 a)),.v (.l (.i .i64 b))] [] [] .nil 20 (by kernel_rfl) H
def alL(P:Program)(a2:Int)(a3:Int)(j:Int)(a4:Value)(h:Heap)(K:KQ):Prop:=pk (
E1 (fun f=>(Value.map f)) P (Instr.makeMap 221 none) h [] fun f a5=>
A1 a5 [] (fun d=>(d,[(Value.map f),aD.v,VI 0])::[]) fun d a6 L=>
O4 0 f aD 0 a6 fun a7 a8(r:Int)(s:Option Nat)(t:Sl)(u:Int) k=>
Vi k (Z0 [(Value.map s),t.v,VI u] L) fun L=>
Br (decide (r<a2))
(A1 k [] (fun l=>Z0 [VI 0,VI 0] ((l,[VI 0,VI 0])::L)) fun l a9 L=>
O5 0 0 s t u a9 fun aa ab(b:Int)(c:Int)(a:Option Nat)(g:Sl)(e:Int) i=>
Vi i (Z1 [(Value.map a),g.v,VI e] (Z0 [VI b,VI c] L)) fun L=>
Da P (Instr.lookup 221 (Value.map a) (.agg #[VI b,VI c]) true) i fun ac=>∃o:Int,∃x:Bool,ac=(.tuple #[VI o,VB x])/\
Br (!x)
(Hz P (Instr.mapUpdate 221 (Value.map a) (.agg #[VI b,VI c]) (VI a3)) i fun aj y=>Va y L fun L=>
E1 Sl.v P (Instr.buildSlice 222 1 #[(0,(.agg #[VI b,VI c]))]) y L fun ad ae=>
E1 Sl.v P (cD 222 222 222 g.v ad.v) ae L fun z af=>
A0 af [d] (Z1 [(Value.map a),z.v,VI e] L) fun ag L=>
Nj a8 fun m=>a7 m (aX (r+1)) a z e ag)
(j≠0/\
Hz P (Instr.mapUpdate 221 (Value.map a) (.agg #[VI b,VI c]) (VI (Int.tmod (aX (o+1)) j))) i fun ak a0=>Va a0 L fun L=>
iW P a4 [(.agg #[VI b,VI c]),(VI (Int.tmod (aX (o+1)) j))] a0 fun ah a1=>∃p:Int,∃q:Int,ah=(.agg #[VI p,VI q])/\Va a1 L fun L=>
A0 a1 [d,l] (Z1 [(Value.map a),g.v,(VI (aX (e+1)))] (Z0 [VI p,VI q] L)) fun ai L=>
Nj ab fun m=>aa m p q a g (aX (e+1)) ai))
(K (VP d 0) k))
theorem alM(a:Int)(b:Int)(c:Int)(d:Value)(h:Heap)(K:KQ)(H:alL aB a b c d h K):aG aB 264 #[VI a,VI b,VI c,d] h K:=cw mixed Tryz.func264 [(58,⟨[⟨17,.l (.i .i64)⟩],[0],[]⟩),(14948,⟨[],[1,0],[]⟩)] [.v (.l (.i .i64 a)),.v (.l (.i .i64 b)),.v (.l (.i .i64 c)),.v (.l (.r d))] [] [] .nil 70 (by kernel_rfl) H
def alN(P:Program)(a:Int)(b:Int)(e:Int)(h:Heap)(K:KQ):Prop:=pk (
Br (decide (e=0))
(A2 h [] (fun c d=>Z0 [(VI (aX (a+1))),VI b] ((d,[VI 0,VI 0])::((c,[VI a,VI b])::[]))) fun c d f L=>
K (.agg #[(VI (aX (a+1))),VI b]) f)
(Br (decide (e=1))
(A2 h [] (fun c d=>Z0 [VI a,(VI (aX (b+1)))] ((d,[VI 0,VI 0])::((c,[VI a,VI b])::[]))) fun c d g L=>
K (.agg #[VI a,(VI (aX (b+1)))]) g)
(Br (decide (e=2))
(A2 h [] (fun c d=>Z0 [(VI (aX (a-1))),VI b] ((d,[VI 0,VI 0])::((c,[VI a,VI b])::[]))) fun c d i L=>
K (.agg #[(VI (aX (a-1))),VI b]) i)
(A2 h [] (fun c d=>Z0 [VI a,(VI (aX (b-1)))] ((d,[VI 0,VI 0])::((c,[VI a,VI b])::[]))) fun c d j L=>
K (.agg #[VI a,(VI (aX (b-1)))]) j))))
theorem alO(b:Int)(c:Int)(d:Int)(h:Heap)(K:KQ)(H:alN aB b c d h K):aG aB 265 #[(.agg #[VI b,VI c]),VI d] h K:=cw mixed Tryz.func265 [] [.v (.a [.i .i64 b,.i .i64 c]),.v (.l (.i .i64 d))] [] [] .nil 36 (by kernel_rfl) H
def alP(P:Program)(a:Int)(b:Int)(h:Heap)(K:KQ):Prop:=pk (
C1 VB P 52 #[VI a,VI 2,VI 3] h [] fun e c=>
Br e
(C1 VB P 52 #[VI b,VI 1,VI 6] c [] fun f d=>
Br f
(C1 VI P 268 #[VI a,VI b] d [] fun g i=>
K (VB (decide (g<=130))) i)
(K (VB false) d))
(K (VB false) c))
theorem alQ(a:Int)(b:Int)(h:Heap)(K:KQ)(H:alP aB a b h K):aG aB 266 #[VI a,VI b] h K:=cw mixed Tryz.func266 [] [.v (.l (.i .i64 a)),.v (.l (.i .i64 b))] [] [] .nil 17 (by kernel_rfl) H
def alR(P:Program)(k:Sl)(l:Int)(h:Heap)(K:KQ):Prop:=pk (
∃o:Heap->Prop,(Br (decide (l<0))
(Q1 (fun p=>p) P (Instr.makeInterface 9 (.string {data:= #[99,97,110,110,111,116,32,98,101,32,110,101,103,97,116,105,118,101]})) fun p=>
False)
(o h))/\
∀(a:Heap),o a->Vars a []->
R1 (fun f=>(.int .u64 f)) P (convert 3 166 (VI (k.n:Int))) a fun f=>
R1 (fun g=>(.int .u64 g)) P (convert 3 166 (VI l)) a fun g=>
C2 (fun i c=>(.tuple #[(.int .u64 i),(.int .u64 c)])) P 282 #[(.int .u64 f),(.int .u64 g)] a [] fun i c u=>
∃q:Heap->Prop,(Br (decide (0<i))
(Q1 (fun r=>r) P (Instr.makeInterface 9 (.string {data:= #[116,104,101,32,114,101,115,117,108,116,32,111,102,32,40,108,101,110,40,120,41,32,42,32,99,111,117,110,116,41,32,111,118,101,114,102,108,111,119,115]})) fun r=>
False)
(Br (decide (9223372036854775807<c))
(Q1 (fun s=>s) P (Instr.makeInterface 9 (.string {data:= #[116,104,101,32,114,101,115,117,108,116,32,111,102,32,40,108,101,110,40,120,41,32,42,32,99,111,117,110,116,41,32,111,118,101,114,102,108,111,119,115]})) fun s=>
False)
(q u)))/\
∀(d:Heap),q d->Vars d []->
R1 VI P (convert 166 3 (.int .u64 c)) d fun t=>
E1 Sl.v P (Instr.makeSlice 27 (VI t) (VI t)) d [] fun b x=>
E1 VI P (Builtin.copy_ #[27,27] 3 #[b.v,k.v]) x [] fun y z=>
O1 y z fun a0 a1(e:Int) j=>
Vars j []->
Br (decide (e<(b.n:Int)))
(Q1 Sl.v P (Instr.sliceAt 27 b.v (some (VI e)) none none) fun a2=>
Q1 Sl.v P (Instr.sliceAt 27 b.v none (some (VI e)) none) fun a3=>
E1 VI P (Builtin.copy_ #[27,27] 3 #[a2.v,a3.v]) j [] fun a4 a5=>
Nj a1 fun m=>a0 m (aX (e+a4)) a5)
(K b.v j))
theorem alS(a:Sl)(b:Int)(h:Heap)(K:KQ)(H:alR aB a b h K):aG aB 267 #[a.v,VI b] h K:=cw mixed Tryz.func267 [(3,⟨[],[],[]⟩),(15,⟨[],[],[]⟩),(508,⟨[⟨8,.l (.i .i64)⟩],[],[]⟩)] [.v (.l (.sl a)),.v (.l (.i .i64 b))] [] [] .nil 48 (by kernel_rfl) H
def alT(P:Program)(b:Int)(f:Int)(h:Heap)(K:KQ):Prop:=pk (
O3 1 1 0 h fun g i(c:Int)(d:Int)(e:Int) a=>
Vars a []->
Br (decide (e<f))
(Nj i fun m=>g m (aX (c+(aX (d*b)))) (aX (d*b)) (aX (e+1)) a)
(K (VI c) a))
theorem alU(a:Int)(b:Int)(h:Heap)(K:KQ)(H:alT aB a b h K):aG aB 268 #[VI a,VI b] h K:=cw mixed Tryz.func268 [(58,⟨[⟨5,.l (.i .i64)⟩,⟨6,.l (.i .i64)⟩,⟨8,.l (.i .i64)⟩],[],[]⟩)] [.v (.l (.i .i64 a)),.v (.l (.i .i64 b))] [] [] .nil 18 (by kernel_rfl) H
def ae5(P:Program)(e:Nat)(a:Int)(d:Int)(c:Sl)(j:Sl)(f:Sl)(b:Sl)(h:Heap)(K:KQ):Prop:=pk (
Lt [(e,[VI a,VI d,c.v,j.v,f.v,b.v])] fun L=>
C1 VI P 268 #[VI a,(VI (aX (d-1)))] h L fun af a1=>
G1 VI a1 b 0 1 fun ag=>
fq b 0/\
S1 a1 (Sl.at b 0 1) (VI (aX (ag+1))) L fun ah=>
O3 0 0 0 ah fun a2 a3(g:Int)(u:Int)(i:Int) k=>
Vars k L->
Br (!decide (g=(-1)))
(Br (decide (g<af))
(G1 VI k c g 1 fun ai=>
(aX (a+1))≠0/\
fq c g/\
S1 k (Sl.at c g 1) (VI (Int.tmod (aX (ai+1)) (aX (a+1)))) L fun p=>
∃q:Int->Int->Heap->Prop,(G1 VI p c g 1 fun a4=>
Br (decide (0<a4))
(q (aX ((aX (g*a))+a4)) (aX (u+1)) p)
(Br (decide (g=0))
(q (-1) u p)
(a≠0/\
q (aX (Int.tdiv (aX (g-1)) a)) (aX (u-1)) p)))/\
∀(r:Int)(l:Int)(o:Heap),q r l o->Vars o L->
Br (!decide (r=(-1)))
(G1 VI o b l 1 fun aj=>
fq b l/\
S1 o (Sl.at b l 1) (VI (aX (aj+1))) L fun ak=>
Nj a3 fun m=>a2 m r l (aX (i+1)) ak)
(Nj a3 fun m=>a2 m r l (aX (i+1)) o))
(∃x:Int->Heap->Prop,(Br (decide (g=(-1)))
(x 0 k)
(x 1 k))/\
∀(y:Int)(s:Heap),x y s->Vars s L->
(E1 Sl.v P (Instr.buildSlice 27 1 #[(0,(VI y))]) s L fun a5 a6=>
(E1 Sl.v P (cD 27 27 27 j.v a5.v) a6 L fun a7 al=>
E1 Sl.v P (Instr.buildSlice 27 1 #[(0,(VI i))]) al L fun am an=>
E1 Sl.v P (cD 27 27 27 f.v am.v) an L fun ao ap=>
A0 ap [e,e] (Z0 [VI a,VI d,c.v,a7.v,ao.v,b.v] (Z0 [VI a,VI d,c.v,a7.v,f.v,b.v] L)) fun aq L=>
K (.tuple #[]) aq)/\
(E1 Sl.v P (Instr.buildSlice 27 1 #[(0,(VI i))]) a6 L fun ar au=>
E1 Sl.v P (cD 27 27 27 j.v a5.v) au L fun a8 av=>
E1 Sl.v P (cD 27 27 27 f.v ar.v) av L fun aw ax=>
A0 ax [e,e] (Z0 [VI a,VI d,c.v,a8.v,aw.v,b.v] (Z0 [VI a,VI d,c.v,a8.v,f.v,b.v] L)) fun ay L=>
K (.tuple #[]) ay))/\
(E1 Sl.v P (Instr.buildSlice 27 1 #[(0,(VI i))]) s L fun az b0=>
E1 Sl.v P (Instr.buildSlice 27 1 #[(0,(VI y))]) b0 L fun b1 b2=>
E1 Sl.v P (cD 27 27 27 j.v b1.v) b2 L fun a9 b3=>
E1 Sl.v P (cD 27 27 27 f.v az.v) b3 L fun b4 b5=>
A0 b5 [e,e] (Z0 [VI a,VI d,c.v,a9.v,b4.v,b.v] (Z0 [VI a,VI d,c.v,a9.v,f.v,b.v] L)) fun b6 L=>
K (.tuple #[]) b6)))
(∃z:Int->Heap->Prop,(Br (decide (g=(-1)))
(z 0 k)
(z 1 k))/\
∀(a0:Int)(t:Heap),z a0 t->Vars t L->
(E1 Sl.v P (Instr.buildSlice 27 1 #[(0,(VI a0))]) t L fun aa ab=>
(E1 Sl.v P (cD 27 27 27 j.v aa.v) ab L fun ac b7=>
E1 Sl.v P (Instr.buildSlice 27 1 #[(0,(VI i))]) b7 L fun b8 b9=>
E1 Sl.v P (cD 27 27 27 f.v b8.v) b9 L fun ba bb=>
A0 bb [e,e] (Z0 [VI a,VI d,c.v,ac.v,ba.v,b.v] (Z0 [VI a,VI d,c.v,ac.v,f.v,b.v] L)) fun bc L=>
K (.tuple #[]) bc)/\
(E1 Sl.v P (Instr.buildSlice 27 1 #[(0,(VI i))]) ab L fun bd be=>
E1 Sl.v P (cD 27 27 27 j.v aa.v) be L fun ad bf=>
E1 Sl.v P (cD 27 27 27 f.v bd.v) bf L fun bg bh=>
A0 bh [e,e] (Z0 [VI a,VI d,c.v,ad.v,bg.v,b.v] (Z0 [VI a,VI d,c.v,ad.v,f.v,b.v] L)) fun bi L=>
K (.tuple #[]) bi))/\
(E1 Sl.v P (Instr.buildSlice 27 1 #[(0,(VI i))]) t L fun bj bk=>
E1 Sl.v P (Instr.buildSlice 27 1 #[(0,(VI a0))]) bk L fun bl bm=>
E1 Sl.v P (cD 27 27 27 j.v bl.v) bm L fun ae bn=>
E1 Sl.v P (cD 27 27 27 f.v bj.v) bn L fun bo bp=>
A0 bp [e,e] (Z0 [VI a,VI d,c.v,ae.v,bo.v,b.v] (Z0 [VI a,VI d,c.v,ae.v,f.v,b.v] L)) fun bq L=>
K (.tuple #[]) bq)))
theorem alV(a:Nat)(b:Int)(c:Int)(d:Sl)(e:Sl)(f:Sl)(g:Sl)(h:Heap)(K:KQ)(hL:Vars h [(a,[VI b,VI c,d.v,e.v,f.v,g.v])])(H:ae5 aB a b c d e f g h K):aG aB 269 #[(VP a 0)] h K:=cw mixed Tryz.func269 [(28,⟨[⟨2,.l (.i .i64)⟩,⟨3,.l (.i .i64)⟩,⟨4,.l (.i .i64)⟩],[],[]⟩),(31,⟨[⟨7,.l (.i .i64)⟩],[],[]⟩),(907,⟨[⟨2,.l (.i .i64)⟩,⟨3,.l (.i .i64)⟩],[],[]⟩)] [.v (.l (.p 0 0))] [(0,[.i .i64 b,.i .i64 c,.sl d,.sl e,.sl f,.sl g])] [a] hL 120 (by kernel_rfl) H
def alW(P:Program)(d:Sl)(k:Int)(h:Heap)(K:KQ):Prop:=pk (
A1 h [] (fun p=>(p,[d.v])::[]) fun p t L=>
E1 Sl.v P (Instr.makeSlice 27 (VI (d.n:Int)) (VI (d.n:Int))) t L fun a u=>
O1 0 u fun x y(e:Int) l=>
Vars l L->
Br (decide (e<(a.n:Int)))
(fq a e/\
S1 l (Sl.at a e 1) (VI (-1)) L fun z=>
Nj y fun m=>x m (aX (e+1)) z)
(fq a k/\
S1 l (Sl.at a k 1) (VI 0) L fun a0=>
E1 Sl.v P (Instr.buildSlice 27 1 #[(0,(VI k))]) a0 L fun a1 a2=>
O2 a1 0 a2 fun a3 a4(o:Sl)(f:Int) c=>
Vars c L->
Br (decide (f<(o.n:Int)))
(G1 VI c o f 1 fun a5=>
G1 Sl.v c d a5 1 fun q=>
O2 o 0 c fun r s(g:Sl)(i:Int) b=>
Vars b L->
Br (decide (i<(q.n:Int)))
(G1 VI b q i 1 fun j=>
G1 VI b a j 1 fun a6=>
Br (decide (a6<0))
(G1 VI b g f 1 fun a7=>
G1 VI b a a7 1 fun a8=>
fq a j/\
S1 b (Sl.at a j 1) (VI (aX (a8+1))) L fun a9=>
E1 Sl.v P (Instr.buildSlice 27 1 #[(0,(VI j))]) a9 L fun aa ab=>
E1 Sl.v P (cD 27 27 27 g.v aa.v) ab L fun ac ad=>
Nj s fun m=>r m ac (aX (i+1)) ad)
(Nj s fun m=>r m g (aX (i+1)) b))
(Nj a4 fun m=>a3 m g (aX (f+1)) b))
(K a.v c)))
theorem alX(b:Sl)(c:Int)(h:Heap)(K:KQ)(H:alW aB b c h K):aG aB 271 #[(.agg #[b.v]),VI c] h K:=cw mixed Tryz.func271 [(58,⟨[⟨17,.l (.i .i64)⟩],[],[]⟩),(506,⟨[⟨7,.l .sl⟩,⟨8,.l (.i .i64)⟩],[],[]⟩),(32402,⟨[⟨7,.l .sl⟩,⟨44,.l (.i .i64)⟩],[],[]⟩)] [.v (.a [.sl b]),.v (.l (.i .i64 c))] [] [] .nil 70 (by kernel_rfl) H
def alY(P:Program)(a:Int)(h:Heap)(K:KQ):Prop:=pk (
C1 VI P 122 #[VI a,(VI (aX (0-a)))] h [] fun b c=>
K (VI b) c)
theorem alZ(a:Int)(h:Heap)(K:KQ)(H:alY aB a h K):aG aB 272 #[VI a] h K:=cw mixed Tryz.func272 [] [.v (.l (.i .i64 a))] [] [] .nil 7 (by kernel_rfl) H
def al0(P:Program)(d:Int)(e:Int)(h:Heap)(K:KQ):Prop:=pk (
O2 e 1 h fun f g(b:Int)(c:Int) a=>
Vars a []->
Br (decide (0<b))
(Nj g fun m=>f m (aX (b-1)) (aX (c*d)) a)
(K (VI c) a))
theorem al1(a:Int)(b:Int)(h:Heap)(K:KQ)(H:al0 aB a b h K):aG aB 273 #[VI a,VI b] h K:=cw mixed Tryz.func273 [(28,⟨[⟨1,.l (.i .i64)⟩,⟨5,.l (.i .i64)⟩],[],[]⟩)] [.v (.l (.i .i64 a)),.v (.l (.i .i64 b))] [] [] .nil 14 (by kernel_rfl) H
def al2(P:Program)(c:Int)(d:Int)(h:Heap)(K:KQ):Prop:=pk (
C2 (fun a b=>(.tuple #[(.int .u64 a),(.int .u64 b)])) P 288 #[(.int .u64 c),(.int .u64 d)] h [] fun a b e=>
K (.tuple #[(.int .u64 a),(.int .u64 b)]) e)
theorem al3(a:Int)(b:Int)(h:Heap)(K:KQ)(H:al2 aB a b h K):aG aB 282 #[(.int .u64 a),(.int .u64 b)] h K:=cw mixed Tryz.func282 [] [.v (.l (.i .u64 a)),.v (.l (.i .u64 b))] [] [] .nil 30 (by kernel_rfl) H
def al4(P:Program)(f:Int)(g:Int)(h:Heap)(K:KQ):Prop:=pk (
Q1 (fun c=>(.int .u64 c)) P (jm .and 66 (.int .u64 f) (.int IntKind.u64 4294967295)) fun c=>
Q1 (fun a=>(.int .u64 a)) P (jm .shr 66 (.int .u64 f) (.int IntKind.u64 32)) fun a=>
Q1 (fun b=>(.int .u64 b)) P (jm .and 66 (.int .u64 g) (.int IntKind.u64 4294967295)) fun b=>
Q1 (fun d=>(.int .u64 d)) P (jm .shr 66 (.int .u64 g) (.int IntKind.u64 32)) fun d=>
Q1 (fun e=>(.int .u64 e)) P (jm .shr 66 (.int .u64 (IntKind.wrap .u64 (c*b))) (.int IntKind.u64 32)) fun e=>
Q1 (fun i=>(.int .u64 i)) P (jm .and 66 (.int .u64 (IntKind.wrap .u64 ((IntKind.wrap .u64 (a*b))+e))) (.int IntKind.u64 4294967295)) fun i=>
Q1 (fun j=>(.int .u64 j)) P (jm .shr 66 (.int .u64 (IntKind.wrap .u64 ((IntKind.wrap .u64 (a*b))+e))) (.int IntKind.u64 32)) fun j=>
Q1 (fun k=>(.int .u64 k)) P (jm .shr 66 (.int .u64 (IntKind.wrap .u64 (i+(IntKind.wrap .u64 (c*d))))) (.int IntKind.u64 32)) fun k=>
K (.tuple #[(.int .u64 (IntKind.wrap .u64 ((IntKind.wrap .u64 ((IntKind.wrap .u64 (a*d))+j))+k))),(.int .u64 (IntKind.wrap .u64 (f*g)))]) h)
theorem al5(a:Int)(b:Int)(h:Heap)(K:KQ)(H:al4 aB a b h K):aG aB 288 #[(.int .u64 a),(.int .u64 b)] h K:=cw mixed Tryz.func288 [] [.v (.l (.i .u64 a)),.v (.l (.i .u64 b))] [] [] .nil 51 (by kernel_rfl) H
end Go.Proofs.YtcnfcnoooecchaaGreatDoor
