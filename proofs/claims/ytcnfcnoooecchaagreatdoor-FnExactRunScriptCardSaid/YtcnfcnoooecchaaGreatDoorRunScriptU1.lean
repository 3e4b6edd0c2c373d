import Derived.Test.YtcnfcnoooecchaaGreatDoorRunScriptU
import Derived.Test.YtcnfcnoooecchaaGreatDoorProg
import Derived.Test.YtcnfcnoooecchaaGreatDoorM8
set_option linter.unusedVariables false
set_option linter.unusedSimpArgs false
set_option maxRecDepth 100000
set_option maxHeartbeats 16000000
namespace Go.Proofs.YtcnfcnoooecchaaGreatDoor
open Go Go.Mx
def ahn(P:Program)(a:Sl)(b:Int)(c:Int)(h:Heap)(K:KQ):Prop:=pk (
A1 h [] (fun d=>(d,[a.v])::[]) fun d g L=>
C1 VB P 121 #[(Value.agg #[a.v]),(VI b)] g L fun i e=>
Br i
(C1 VB P 121 #[(Value.agg #[a.v]),(VI c)] e L fun j f=>
Br j
(K (VB (!decide (b=c))) f)
(K (VB false) f))
(K (VB false) e))
theorem v232(b:Sl)(c:Int)(d:Int)(h:Heap)(K:KQ)(H:ahn Tryz.prog b c d h K):aE Tryz.prog 232 #[(Value.agg #[b.v]),(VI c),(VI d)] h K:=cw mixed Tryz.func232 [] [.v (.a [.sl b]),.v (.l (.i .i64 c)),.v (.l (.i .i64 d))] [] [] .nil 20 (by kernel_rfl) H
def aho(P:Program)(e:Sl)(g:Int)(i:Int)(h:Heap)(K:KQ):Prop:=pk (
A1 h [] (fun j=>(j,[e.v])::[]) fun j o L=>
O1 0 o fun c d(a:Int) f=>
Vars f L->
Br (decide (a<(e.n:Int)))
(G1 Sl.v f e a 1 fun k=>
C1 Sl.v P 271 #[(Value.agg #[e.v]),(VI a)] f L fun l b=>
G1 VI b l g 1 fun p=>
Br (decide (p<0))
(G1 VI b l i 1 fun q=>
Br (decide (q<0))
(K (VB false) b)
(Br (!decide (a=g))
(Br (!decide (a=i))
(Br (decide ((k.n:Int)=0))
(K (VB false) b)
(Nj d fun m=>c m (aL (a+1)) b))
(Nj d fun m=>c m (aL (a+1)) b))
(Nj d fun m=>c m (aL (a+1)) b)))
(Br (!decide (a=g))
(Br (!decide (a=i))
(Br (decide ((k.n:Int)=0))
(K (VB false) b)
(Nj d fun m=>c m (aL (a+1)) b))
(Nj d fun m=>c m (aL (a+1)) b))
(Nj d fun m=>c m (aL (a+1)) b)))
(K (VB true) f))
theorem v233(b:Sl)(c:Int)(d:Int)(h:Heap)(K:KQ)(H:aho Tryz.prog b c d h K):aE Tryz.prog 233 #[(Value.agg #[b.v]),(VI c),(VI d)] h K:=cw mixed Tryz.func233 [(26,⟨[⟨13,.l (.i .i64)⟩],[],[]⟩)] [.v (.a [.sl b]),.v (.l (.i .i64 c)),.v (.l (.i .i64 d))] [] [] .nil 49 (by kernel_rfl) H
def ahp(P:Program)(i:Sl)(a1:Int)(a2:Int)(h:Heap)(K:KQ):Prop:=pk (
A1 h [] (fun t=>(t,[i.v])::[]) fun t a3 L=>
O2 aC 0 a3 fun o p(a:Sl)(c:Int) g=>
Vars g L->
Br (decide (c<(i.n:Int)))
(Br (!decide (c=a1))
(Br (!decide (c=a2))
(E1 Sl.v P (Instr.buildSlice 27 1 #[(0,(VI c))]) g L fun a4 a5=>
E1 Sl.v P (bK 27 27 27 a.v a4.v) a5 L fun a6 a7=>
Nj p fun m=>o m a6 (aL (c+1)) a7)
(Nj p fun m=>o m a (aL (c+1)) g))
(Nj p fun m=>o m a (aL (c+1)) g))
(O2 aC 0 g fun a8 a9(u:Sl)(q:Int) j=>
Vars j L->
Br (decide (q<(a.n:Int)))
(G1 VI j a q 1 fun r=>
E1 Sl.v P (Instr.makeSlice 27 (VI (a.n:Int)) (VI (a.n:Int))) j L fun d aa=>
O1 0 aa fun ab ac(b:Int) e=>
Vars e L->
Br (decide (b<(a.n:Int)))
(G1 VI e a b 1 fun x=>
∃s:Heap->Prop,(Br (decide (x=r))
(G1 VI e d b 1 fun ad=>
G1 Sl.v e i r 1 fun ae=>
dQ d b/\
S1 e (Sl.at d b 1) (VI (aL (ad+(ae.n:Int)))) L fun af=>
s af)
(s e))/\
∀(k:Heap),s k->Vars k L->
G1 Sl.v k i r 1 fun y=>
O1 0 k fun z a0(l:Int) f=>
Vars f L->
Br (decide (l<(y.n:Int)))
(G1 VI f y l 1 fun ag=>
Br (decide (ag=x))
(G1 VI f d b 1 fun ah=>
dQ d b/\
S1 f (Sl.at d b 1) (VI (aL (ah-1))) L fun ai=>
Nj a0 fun m=>z m (aL (l+1)) ai)
(Nj a0 fun m=>z m (aL (l+1)) f))
(Nj ac fun m=>ab m (aL (b+1)) f))
(E1 Sl.v P (Instr.buildSlice 24 1 #[(0,d.v)]) e L fun aj ak=>
E1 Sl.v P (bK 24 24 24 u.v aj.v) ak L fun al am=>
Nj a9 fun m=>a8 m al (aL (q+1)) am))
(K (Value.tuple #[a.v,u.v]) j)))
theorem v234(b:Sl)(c:Int)(d:Int)(h:Heap)(K:KQ)(H:ahp Tryz.prog b c d h K):aE Tryz.prog 234 #[(Value.agg #[b.v]),(VI c),(VI d)] h K:=cw mixed Tryz.func234 [(58,⟨[⟨8,.l .sl⟩,⟨21,.l (.i .i64)⟩],[],[]⟩),(250,⟨[⟨10,.l .sl⟩,⟨39,.l (.i .i64)⟩],[],[]⟩),(256410,⟨[⟨48,.l (.i .i64)⟩],[],[]⟩),(16410265,⟨[],[],[]⟩),(131282126,⟨[⟨74,.l (.i .i64)⟩],[],[]⟩)] [.v (.a [.sl b]),.v (.l (.i .i64 c)),.v (.l (.i .i64 d))] [] [] .nil 96 (by kernel_rfl) H
def ahq(P:Program)(a:Sl)(k:Sl)(h:Heap)(K:KQ):Prop:=pk (
C1 VI P 182 #[a.v] h [] fun l o=>
O2 aC 0 o fun p q(g:Sl)(b:Int) e=>
Vars e []->
Br (decide (b<(a.n:Int)))
(O2 aC 0 e fun r s(i:Sl)(c:Int) d=>
Vars d []->
Br (decide (c<(a.n:Int)))
(G1 Sl.v d a c 1 fun t=>
C1 Sl.v P 87 #[t.v] d [] fun f j=>
G1 VI j k c 1 fun u=>
dQ f b/\
S1 j (Sl.at f b 1) (VI u) [] fun x=>
E1 Sl.v P (Instr.buildSlice 24 1 #[(0,f.v)]) x [] fun y z=>
E1 Sl.v P (bK 24 24 24 i.v y.v) z [] fun a0 a1=>
Nj s fun m=>r m a0 (aL (c+1)) a1)
(C1 VI P 182 #[i.v] d [] fun a2 a3=>
E1 Sl.v P (Instr.buildSlice 27 1 #[(0,(VI a2))]) a3 [] fun a4 a5=>
E1 Sl.v P (bK 27 27 27 g.v a4.v) a5 [] fun a6 a7=>
Nj q fun m=>p m a6 (aL (b+1)) a7))
(K (Value.tuple #[g.v,(VI l)]) e))
theorem ahr(a:Sl)(b:Sl)(h:Heap)(K:KQ)(H:ahq Tryz.prog a b h K):aE Tryz.prog 235 #[a.v,b.v] h K:=cw mixed Tryz.func235 [(122,⟨[⟨7,.l .sl⟩,⟨17,.l (.i .i64)⟩],[],[]⟩),(125338,⟨[⟨9,.l .sl⟩,⟨22,.l (.i .i64)⟩],[],[]⟩)] [.v (.l (.sl a)),.v (.l (.sl b))] [] [] .nil 49 (by kernel_rfl) H
def ahs(P:Program)(k:Int)(e:Int)(h:Heap)(K:KQ):Prop:=pk (
A1 h [] (fun f=>(f,[(VI 0),(VI 0)])::[]) fun f l L=>
∃g:Int->Int->Heap->Prop,(Br (decide (e<0))
(g (aL (0-k)) (aL (0-e)) l)
(g k e l))/\
∀(b:Int)(c:Int)(i:Heap),g b c i->Vars i L->
C1 VI P 272 #[(VI b)] i L fun o p=>
O2 o c p fun q r(a:Int)(d:Int) j=>
Vars j L->
Br (decide (0<d))
(d≠0/\
Nj r fun m=>q m d (Int.tmod a d) j)
(a≠0/\
a≠0/\
A0 j [f] (Z0 [(VI (aL (Int.tdiv b a))),(VI (aL (Int.tdiv c a)))] L) fun s L=>
K (Value.agg #[(VI (aL (Int.tdiv b a))),(VI (aL (Int.tdiv c a)))]) s))
theorem v236(a:Int)(b:Int)(h:Heap)(K:KQ)(H:ahs Tryz.prog a b h K):aE Tryz.prog 236 #[(VI a),(VI b)] h K:=cw mixed Tryz.func236 [(3,⟨[⟨0,.l (.i .i64)⟩,⟨1,.l (.i .i64)⟩],[],[]⟩),(60,⟨[⟨5,.l (.i .i64)⟩,⟨6,.l (.i .i64)⟩],[],[]⟩)] [.v (.l (.i .i64 a)),.v (.l (.i .i64 b))] [] [] .nil 29 (by kernel_rfl) H
def aht(P:Program)(a:Sl)(f:Int)(h:Heap)(K:KQ):Prop:=pk (
A1 h [] (fun e=>(e,[a.v])::[]) fun e g L=>
O1 0 g fun i j(b:Int) c=>
Vars c L->
Br (decide (b<(a.n:Int)))
(C1 Sl.v P 271 #[(Value.agg #[a.v]),(VI b)] c L fun k d=>
G1 VI d k f 1 fun l=>
Br (decide (l<0))
(K (VB false) d)
(Nj j fun m=>i m (aL (b+1)) d))
(K (VB true) c))
theorem ahu(b:Sl)(c:Int)(h:Heap)(K:KQ)(H:aht Tryz.prog b c h K):aE Tryz.prog 237 #[(Value.agg #[b.v]),(VI c)] h K:=cw mixed Tryz.func237 [(26,⟨[⟨9,.l (.i .i64)⟩],[],[]⟩)] [.v (.a [.sl b]),.v (.l (.i .i64 c))] [] [] .nil 20 (by kernel_rfl) H
def ahv(P:Program)(b:Int)(d:Int)(h:Heap)(K:KQ):Prop:=pk (
C1 VB P 119 #[(VI b),(VI 2),(VI 3)] h [] fun j e=>
Br (!j)
(K (VI 0) e)
(C1 VB P 119 #[(VI d),(VI 1),(VI 6)] e [] fun k f=>
Br (!k)
(K (VI 0) f)
(O3 1 1 0 f fun l o(c:Int)(g:Int)(i:Int) a=>
Vars a []->
Br (decide (i<d))
(Nj o fun m=>l m (aL (c+(aL (g*b)))) (aL (g*b)) (aL (i+1)) a)
(Br (decide (130<c))
(K (VI 0) a)
(K (VI c) a)))))
theorem ahw(a:Int)(b:Int)(h:Heap)(K:KQ)(H:ahv Tryz.prog a b h K):aE Tryz.prog 238 #[(VI a),(VI b)] h K:=cw mixed Tryz.func238 [(122,⟨[⟨5,.l (.i .i64)⟩,⟨6,.l (.i .i64)⟩,⟨7,.l (.i .i64)⟩],[],[]⟩)] [.v (.l (.i .i64 a)),.v (.l (.i .i64 b))] [] [] .nil 30 (by kernel_rfl) H
def ahx(P:Program)(b:Int)(a:Int)(af:Int)(h:Heap)(K:KQ):Prop:=pk (
∃d:Nat->Int->Int->Int->Sl->Sl->Sl->Sl->Heap->Prop,((C1 VI P 238 #[(VI b),(VI a)] h [] fun e a5=>
(C1 VI P 273 #[(VI b),(VI a)] a5 [] fun a6 ag=>
E1 Sl.v P (Instr.makeSlice 27 (VI (aL (a+1))) (VI (aL (a+1)))) ag [] fun a7 ah=>
A1 ah [] (fun p=>(p,[(VI b),(VI a),(VI (aL (e-a6))),aC.v,aC.v,aC.v,a7.v])::[]) fun p ai L=>
d p b a (aL (e-a6)) aC aC aC a7 ai)/\
(E1 Sl.v P (Instr.makeSlice 27 (VI (aL (a+1))) (VI (aL (a+1)))) a5 [] fun a8 aj=>
C1 VI P 273 #[(VI b),(VI a)] aj [] fun a9 ak=>
A1 ak [] (fun q=>(q,[(VI b),(VI a),(VI (aL (e-a9))),aC.v,aC.v,aC.v,a8.v])::[]) fun q al L=>
d q b a (aL (e-a9)) aC aC aC a8 al))/\
(E1 Sl.v P (Instr.makeSlice 27 (VI (aL (a+1))) (VI (aL (a+1)))) h [] fun aa am=>
C1 VI P 238 #[(VI b),(VI a)] am [] fun ab an=>
C1 VI P 273 #[(VI b),(VI a)] an [] fun ac ao=>
A1 ao [] (fun r=>(r,[(VI b),(VI a),(VI (aL (ab-ac))),aC.v,aC.v,aC.v,aa.v])::[]) fun r ap L=>
d r b a (aL (ab-ac)) aC aC aC aa ap))/\
∀(f:Nat)(s:Int)(t:Int)(u:Int)(x:Sl)(y:Sl)(z:Sl)(a0:Sl)(a1:Heap),d f s t u x y z a0 a1->Vi a1 ((f,[(VI s),(VI t),(VI u),x.v,y.v,z.v,a0.v])::[]) fun L=>
∃a2:Nat->Int->Int->Int->Int->Sl->Sl->Sl->Sl->Heap->Prop,(∃n0:Nat,a2 n0 0 s t u x y z a0 a1)/\
∀(ad:Nat)(a3:Int)(g:Int)(i:Int)(c:Int)(a4:Sl)(j:Sl)(k:Sl)(l:Sl)(o:Heap),a2 ad a3 g i c a4 j k l o->Vi o (Z0 [(VI g),(VI i),(VI c),a4.v,j.v,k.v,l.v] L) fun L=>
Br (decide (a3<c))
(E1 Sl.v P (Instr.buildSlice 27 1 #[(0,(VI af))]) o L fun aq ar=>
E1 Sl.v P (bK 27 27 27 a4.v aq.v) ar L fun ae au=>
A0 au [f] (Z0 [(VI g),(VI i),(VI c),ae.v,j.v,k.v,l.v] L) fun av L=>
Nj ad fun m=>a2 m (aL (a3+1)) g i c ae j k l av)
(K (VP f 0) o))
theorem ahy(a:Int)(b:Int)(c:Int)(h:Heap)(K:KQ)(H:ahx Tryz.prog a b c h K):aE Tryz.prog 239 #[(VI a),(VI b),(VI c)] h K:=cw mixed Tryz.func239 [(3,⟨[],[],[(7,[.i .i64,.i .i64,.i .i64,.sl,.sl,.sl,.sl])]⟩),(58,⟨[⟨8,.l (.i .i64)⟩],[0],[]⟩)] [.v (.l (.i .i64 a)),.v (.l (.i .i64 b)),.v (.l (.i .i64 c))] [] [] .nil 42 (by kernel_rfl) H
def abk(P:Program)(i:Nat)(c:Int)(j:Int)(g:Int)(d:Sl)(r:Sl)(k:Sl)(a:Sl)(h:Heap)(K:KQ):Prop:=pk (
Lt [(i,[(VI c),(VI j),(VI g),d.v,r.v,k.v,a.v])] fun L=>
G1 VI h a 0 1 fun a7=>
dQ a 0/\
S1 h (Sl.at a 0 1) (VI (aL (a7+1))) L fun a8=>
O3 0 0 0 a8 fun a0 a1(b:Int)(s:Int)(o:Int) e=>
Vars e L->
Br (decide (0<=b))
(Br (decide (b<g))
(G1 VI e d b 1 fun a9=>
(aL (c+1))≠0/\
dQ d b/\
S1 e (Sl.at d b 1) (VI (Int.tmod (aL (a9+1)) (aL (c+1)))) L fun p=>
∃q:Int->Int->Heap->Prop,(G1 VI p d b 1 fun a2=>
Br (decide (0<a2))
(q (aL ((aL (b*c))+a2)) (aL (s+1)) p)
(Br (decide (b=0))
(q (-1) (aL (s-1)) p)
(c≠0/\
q (aL (Int.tdiv (aL (b-1)) c)) (aL (s-1)) p)))/\
∀(t:Int)(f:Int)(l:Heap),q t f l->Vars l L->
Br (decide (0<=f))
(G1 VI l a f 1 fun aa=>
dQ a f/\
S1 l (Sl.at a f 1) (VI (aL (aa+1))) L fun ab=>
Nj a1 fun m=>a0 m t f (aL (o+1)) ab)
(Nj a1 fun m=>a0 m t f (aL (o+1)) l))
(∃u:Int->Heap->Prop,(Br (decide (0<b))
(u 1 e)
(u 0 e))/\
∀(a3:Int)(x:Heap),u a3 x->Vars x L->
E1 Sl.v P (Instr.buildSlice 27 1 #[(0,(VI a3))]) x L fun ac ad=>
E1 Sl.v P (bK 27 27 27 r.v ac.v) ad L fun a4 ae=>
A0 ae [i] (Z0 [(VI c),(VI j),(VI g),d.v,a4.v,k.v,a.v] L) fun af L=>
E1 Sl.v P (Instr.buildSlice 27 1 #[(0,(VI o))]) af L fun ag ah=>
E1 Sl.v P (bK 27 27 27 k.v ag.v) ah L fun ai aj=>
A0 aj [i] (Z0 [(VI c),(VI j),(VI g),d.v,a4.v,ai.v,a.v] L) fun ak L=>
K (Value.tuple #[]) ak))
(∃y:Int->Heap->Prop,(Br (decide (0<b))
(y 1 e)
(y 0 e))/\
∀(a5:Int)(z:Heap),y a5 z->Vars z L->
E1 Sl.v P (Instr.buildSlice 27 1 #[(0,(VI a5))]) z L fun al am=>
E1 Sl.v P (bK 27 27 27 r.v al.v) am L fun a6 an=>
A0 an [i] (Z0 [(VI c),(VI j),(VI g),d.v,a6.v,k.v,a.v] L) fun ao L=>
E1 Sl.v P (Instr.buildSlice 27 1 #[(0,(VI o))]) ao L fun ap aq=>
E1 Sl.v P (bK 27 27 27 k.v ap.v) aq L fun ar au=>
A0 au [i] (Z0 [(VI c),(VI j),(VI g),d.v,a6.v,ar.v,a.v] L) fun av L=>
K (Value.tuple #[]) av))
theorem ahz(a:Nat)(b:Int)(c:Int)(d:Int)(e:Sl)(f:Sl)(g:Sl)(j:Sl)(h:Heap)(K:KQ)(hL:Vars h [(a,[(VI b),(VI c),(VI d),e.v,f.v,g.v,j.v])])(H:abk Tryz.prog a b c d e f g j h K):aE Tryz.prog 240 #[(VP a 0)] h K:=cw mixed Tryz.func240 [(28,⟨[⟨2,.l (.i .i64)⟩,⟨3,.l (.i .i64)⟩,⟨4,.l (.i .i64)⟩],[],[]⟩),(31,⟨[⟨6,.l (.i .i64)⟩],[],[]⟩),(907,⟨[⟨2,.l (.i .i64)⟩,⟨3,.l (.i .i64)⟩],[],[]⟩)] [.v (.l (.p 0 0))] [(0,[.i .i64 b,.i .i64 c,.i .i64 d,.sl e,.sl f,.sl g,.sl j])] [a] hL 110 (by kernel_rfl) H
def abl(P:Program)(a:Int)(b:Int)(h:Heap)(K:KQ):Prop:=pk (
K (VI (aL ((aL ((aL ((aL (a+60))*121))+b))+60))) h)
theorem ahA(a:Int)(b:Int)(h:Heap)(K:KQ)(H:abl Tryz.prog a b h K):aE Tryz.prog 241 #[(VI a),(VI b)] h K:=cw mixed Tryz.func241 [] [.v (.l (.i .i64 a)),.v (.l (.i .i64 b))] [] [] .nil 11 (by kernel_rfl) H
def ahB(P:Program)(a:Int)(b:Int)(c:Int)(h:Heap)(K:KQ):Prop:=pk (
Br (decide (c=0))
(K (Value.tuple #[(VI (aL (a+1))),(VI b)]) h)
(Br (decide (c=1))
(K (Value.tuple #[(VI a),(VI (aL (b+1)))]) h)
(Br (decide (c=2))
(K (Value.tuple #[(VI (aL (a-1))),(VI b)]) h)
(K (Value.tuple #[(VI a),(VI (aL (b-1)))]) h))))
theorem ahC(a:Int)(b:Int)(c:Int)(h:Heap)(K:KQ)(H:ahB Tryz.prog a b c h K):aE Tryz.prog 242 #[(VI a),(VI b),(VI c)] h K:=cw mixed Tryz.func242 [] [.v (.l (.i .i64 a)),.v (.l (.i .i64 b)),.v (.l (.i .i64 c))] [] [] .nil 27 (by kernel_rfl) H
def ahD(P:Program)(e:Sl)(g:Nat)(b:Sl)(a:Int)(h:Heap)(K:KQ):Prop:=pk (
Lt [(g,[b.v,(VI a)])] fun L=>
dQ e a/\
A1 h [] (fun i=>(i,[e.v])::L) fun i c L=>
H1 Sl.v c (Sl.at e a 1) fun d=>
Br (decide ((d.n:Int)=0))
(K (VB false) c)
(G1 VI c b a 1 fun j=>
(d.n:Int)≠0/\
dQ b a/\
S1 c (Sl.at b a 1) (VI (Int.tmod (aL (j+1)) (d.n:Int))) L fun f=>
G1 VI f b a 1 fun k=>
G1 VI f d k 1 fun l=>
A0 f [g] (Z1 [b.v,(VI l)] L) fun o L=>
K (VB true) o))
theorem ahE(c:Sl)(b:Nat)(d:Sl)(e:Int)(h:Heap)(K:KQ)(hL:Vars h [(b,[d.v,(VI e)])])(H:ahD Tryz.prog c b d e h K):aE Tryz.prog 254 #[(Value.agg #[c.v]),(VP b 0)] h K:=cw mixed Tryz.func254 [] [.v (.a [.sl c]),.v (.l (.p 0 0))] [(0,[.sl d,.i .i64 e])] [b] hL 56 (by kernel_rfl) H
def ahF(P:Program)(a:Sl)(b:Int)(h:Heap)(K:KQ):Prop:=pk (
C1 VI P 257 #[a.v,(VI b)] h [] fun c d=>
K (VB (decide (0<=c))) d)
theorem ahG(a:Sl)(b:Int)(h:Heap)(K:KQ)(H:ahF Tryz.prog a b h K):aE Tryz.prog 255 #[a.v,(VI b)] h K:=cw mixed Tryz.func255 [] [.v (.l (.sl a)),.v (.l (.i .i64 b))] [] [] .nil 9 (by kernel_rfl) H
def ahH(P:Program)(b:Sl)(e:Sl)(c:Int)(h:Heap)(K:KQ):Prop:=pk (
dQ b c/\
A1 h [] (fun d=>(d,[b.v])::[]) fun d a L=>
H1 Sl.v a (Sl.at b c 1) fun f=>
Br (decide ((f.n:Int)=0))
(K (VI (-1)) a)
(G1 Sl.v a b c 1 fun g=>
G1 VI a e c 1 fun i=>
G1 VI a g i 1 fun j=>
K (VI j) a))
theorem ahI(b:Sl)(c:Sl)(d:Int)(h:Heap)(K:KQ)(H:ahH Tryz.prog b c d h K):aE Tryz.prog 256 #[(Value.agg #[b.v]),c.v,(VI d)] h K:=cw mixed Tryz.func256 [] [.v (.a [.sl b]),.v (.l (.sl c)),.v (.l (.i .i64 d))] [] [] .nil 25 (by kernel_rfl) H
def ahJ(P:Program)(c:Sl)(d:Int)(h:Heap)(K:KQ):Prop:=pk (
O1 0 h fun e f(b:Int) a=>
Vars a []->
Br (decide (b<(c.n:Int)))
(G1 VI a c b 1 fun g=>
Br (decide (d=g))
(K (VI b) a)
(Nj f fun m=>e m (aL (b+1)) a))
(K (VI (-1)) a))
theorem ahK(a:Sl)(b:Int)(h:Heap)(K:KQ)(H:ahJ Tryz.prog a b h K):aE Tryz.prog 257 #[a.v,(VI b)] h K:=cw mixed Tryz.func257 [(26,⟨[⟨8,.l (.i .i64)⟩],[],[]⟩)] [.v (.l (.sl a)),.v (.l (.i .i64 b))] [] [] .nil 19 (by kernel_rfl) H
def ahL(P:Program)(a:Sl)(f:Int)(h:Heap)(K:KQ):Prop:=pk (
A1 h [] (fun e=>(e,[a.v])::[]) fun e g L=>
O1 0 g fun i j(b:Int) c=>
Vars c L->
Br (decide (b<(a.n:Int)))
(C1 Sl.v P 260 #[(Value.agg #[a.v]),(VI b)] c L fun k d=>
G1 VI d k f 1 fun l=>
Br (decide (l<0))
(K (VB false) d)
(Nj j fun m=>i m (aL (b+1)) d))
(K (VB true) c))
theorem ahM(b:Sl)(c:Int)(h:Heap)(K:KQ)(H:ahL Tryz.prog b c h K):aE Tryz.prog 259 #[(Value.agg #[b.v]),(VI c)] h K:=cw mixed Tryz.func259 [(26,⟨[⟨9,.l (.i .i64)⟩],[],[]⟩)] [.v (.a [.sl b]),.v (.l (.i .i64 c))] [] [] .nil 20 (by kernel_rfl) H
def ahN(P:Program)(g:Sl)(i:Int)(h:Heap)(K:KQ):Prop:=pk (
A1 h [] (fun k=>(k,[g.v])::[]) fun k q L=>
E1 Sl.v P (Instr.buildSlice 27 1 #[(0,(.int .i64 (-1)))]) q L fun r s=>
C1 Sl.v P 267 #[r.v,(VI (g.n:Int))] s L fun b t=>
dQ b i/\
S1 t (Sl.at b i 1) (VI 0) L fun u=>
E1 Sl.v P (Instr.buildSlice 27 1 #[(0,(VI i))]) u L fun x y=>
O1 x y fun z a0(j:Sl) c=>
Vars c L->
Br (decide (0<(j.n:Int)))
(G1 VI c j 0 1 fun a1=>
G1 Sl.v c g a1 1 fun l=>
O2 j 0 c fun o p(d:Sl)(e:Int) a=>
Vars a L->
Br (decide (e<(l.n:Int)))
(G1 VI a l e 1 fun f=>
G1 VI a b f 1 fun a2=>
Br (decide (a2<0))
(G1 VI a d 0 1 fun a3=>
G1 VI a b a3 1 fun a4=>
dQ b f/\
S1 a (Sl.at b f 1) (VI (aL (a4+1))) L fun a5=>
E1 Sl.v P (Instr.buildSlice 27 1 #[(0,(VI f))]) a5 L fun a6 a7=>
E1 Sl.v P (bK 27 27 27 d.v a6.v) a7 L fun a8 a9=>
Nj p fun m=>o m a8 (aL (e+1)) a9)
(Nj p fun m=>o m d (aL (e+1)) a))
(Q1 Sl.v P (Instr.sliceAt 27 d.v (some (.int .i64 1)) none none) fun aa=>
Nj a0 fun m=>z m aa a))
(K b.v c))
theorem ahO(b:Sl)(c:Int)(h:Heap)(K:KQ)(H:ahN Tryz.prog b c h K):aE Tryz.prog 260 #[(Value.agg #[b.v]),(VI c)] h K:=cw mixed Tryz.func260 [(122,⟨[⟨6,.l .sl⟩],[],[]⟩),(7826,⟨[⟨6,.l .sl⟩,⟨32,.l (.i .i64)⟩],[],[]⟩)] [.v (.a [.sl b]),.v (.l (.i .i64 c))] [] [] .nil 57 (by kernel_rfl) H
def ahP(P:Program)(g:Sl)(o:Int)(p:Int)(a8:Value)(a9:Int)(aa:Int)(h:Heap)(K:KQ):Prop:=pk (
A1 h [] (fun ab=>(ab,[g.v])::[]) fun ab an L=>
E1 Sl.v P (Instr.buildSlice 27 0 #[]) an L fun ao ap=>
O2 ao 0 ap fun y z(a:Sl)(d:Int) i=>
Vars i L->
Br (decide (d<(g.n:Int)))
(Br (!decide (d=o))
(Br (!decide (d=p))
(E1 Sl.v P (Instr.buildSlice 27 1 #[(0,(VI d))]) i L fun aq ar=>
E1 Sl.v P (bK 27 27 27 a.v aq.v) ar L fun au av=>
Nj z fun m=>y m au (aL (d+1)) av)
(Nj z fun m=>y m a (aL (d+1)) i))
(Nj z fun m=>y m a (aL (d+1)) i))
(E1 Sl.v P (Instr.buildSlice 24 0 #[]) i L fun aw ax=>
E1 Sl.v P (Instr.buildSlice 27 0 #[]) ax L fun ay az=>
O3 aw ay 0 az fun b0 b1(e:Sl)(ac:Sl)(a0:Int) j=>
Vars j L->
Br (decide (a0<(a.n:Int)))
(G1 VI j a a0 1 fun q=>
∃a1:Sl->Int->Heap->Prop,((E1 Sl.v P (Instr.makeSlice 27 (VI (a.n:Int)) (VI (a.n:Int))) j L fun b2 b3=>
fA P a8 [(VI q)] b3 fun b4 ad=>∃ae:Int,b4=(VI ae)/\Va ad L fun L=>
a1 b2 ae ad)/\
(fA P a8 [(VI q)] j fun b5 af=>∃ag:Int,b5=(VI ag)/\Va af L fun L=>
E1 Sl.v P (Instr.makeSlice 27 (VI (a.n:Int)) (VI (a.n:Int))) af L fun b6 b7=>
a1 b6 ag b7))/\
∀(b:Sl)(ah:Int)(r:Heap),a1 b ah r->Vars r L->
G1 Sl.v r g q 1 fun ai=>
O2 ah 0 r fun a2 a3(s:Int)(k:Int) c=>
Vars c L->
Br (decide (k<(ai.n:Int)))
(G1 VI c ai k 1 fun a4=>
Br (decide (a4=o))
(Nj a3 fun m=>a2 m (aL (s+a9)) (aL (k+1)) c)
(Br (decide (a4=p))
(Nj a3 fun m=>a2 m (aL (s+aa)) (aL (k+1)) c)
(C1 VI P 257 #[a.v,(VI a4)] c L fun a5 aj=>
G1 VI aj b a5 1 fun b8=>
dQ b a5/\
S1 aj (Sl.at b a5 1) (VI (aL (b8-1))) L fun b9=>
Nj a3 fun m=>a2 m s (aL (k+1)) b9)))
(G1 VI c b (e.n:Int) 1 fun ba=>
G1 Sl.v c g q 1 fun bb=>
dQ b (e.n:Int)/\
S1 c (Sl.at b (e.n:Int) 1) (VI (aL (ba+(bb.n:Int)))) L fun bc=>
E1 Sl.v P (Instr.buildSlice 24 1 #[(0,b.v)]) bc L fun bd be=>
E1 Sl.v P (bK 24 24 24 e.v bd.v) be L fun bf bg=>
E1 Sl.v P (Instr.buildSlice 27 1 #[(0,(VI s))]) bg L fun bh bi=>
E1 Sl.v P (bK 27 27 27 ac.v bh.v) bi L fun bj bk=>
Nj b1 fun m=>b0 m bf bj (aL (a0+1)) bk))
(C1 VI P 212 #[e.v] j L fun a6 bl=>
E1 Sl.v P (Instr.makeSlice 27 (VI (g.n:Int)) (VI (g.n:Int))) bl L fun f bm=>
dQ f o/\
S1 bm (Sl.at f o 1) (VI (aL (a9*a6))) L fun bn=>
dQ f p/\
S1 bn (Sl.at f p 1) (VI (aL (aa*a6))) L fun bo=>
O1 0 bo fun bp bq(l:Int) t=>
Vars t L->
Br (decide (l<(a.n:Int)))
(G1 VI t a l 1 fun ak=>
E1 Sl.v P (Instr.buildSlice 24 0 #[]) t L fun br bs=>
O2 br 0 bs fun bt bu(al:Sl)(u:Int) x=>
Vars x L->
Br (decide (u<(e.n:Int)))
(G1 Sl.v x e u 1 fun bv=>
C1 Sl.v P 152 #[bv.v] x L fun a7 am=>
G1 VI am ac u 1 fun bw=>
dQ a7 l/\
S1 am (Sl.at a7 l 1) (VI bw) L fun bx=>
E1 Sl.v P (Instr.buildSlice 24 1 #[(0,a7.v)]) bx L fun bz c0=>
E1 Sl.v P (bK 24 24 24 al.v bz.v) c0 L fun c1 c2=>
Nj bu fun m=>bt m c1 (aL (u+1)) c2)
(C1 VI P 212 #[al.v] x L fun c3 c4=>
dQ f ak/\
S1 c4 (Sl.at f ak 1) (VI c3) L fun c5=>
Nj bq fun m=>bp m (aL (l+1)) c5))
(K (Value.tuple #[f.v,(VI a6)]) t))))
theorem ahQ(b:Sl)(c:Int)(d:Int)(e:Value)(f:Int)(g:Int)(h:Heap)(K:KQ)(H:ahP Tryz.prog b c d e f g h K):aE Tryz.prog 261 #[(Value.agg #[b.v]),(VI c),(VI d),e,(VI f),(VI g)] h K:=cw mixed Tryz.func261 [(58,⟨[⟨14,.l .sl⟩,⟨35,.l (.i .i64)⟩],[],[]⟩),(250,⟨[⟨16,.l .sl⟩,⟨17,.l .sl⟩,⟨55,.l (.i .i64)⟩],[],[]⟩),(4090,⟨[⟨139,.l (.i .i64)⟩],[],[]⟩),(16025,⟨[⟨20,.l .sl⟩,⟨21,.l (.i .i64)⟩],[],[]⟩),(256410,⟨[⟨21,.l (.i .i64)⟩,⟨71,.l (.i .i64)⟩],[],[]⟩),(4188570,⟨[⟨28,.l .sl⟩,⟨147,.l (.i .i64)⟩],[],[]⟩)] [.v (.a [.sl b]),.v (.l (.i .i64 c)),.v (.l (.i .i64 d)),.v (.l (.r e)),.v (.l (.i .i64 f)),.v (.l (.i .i64 g))] [] [] .nil 174 (by kernel_rfl) H
def ahR(P:Program)(a:Int)(h:Heap)(K:KQ):Prop:=pk (
K (VI 0) h)
theorem ahS(a:Int)(h:Heap)(K:KQ)(H:ahR Tryz.prog a h K):aE Tryz.prog 262 #[(VI a)] h K:=cw mixed Tryz.func262 [] [.v (.l (.i .i64 a))] [] [] .nil 3 (by kernel_rfl) H
def ahT(P:Program)(c:Int)(d:Int)(h:Heap)(K:KQ):Prop:=pk (
Q1 VI P (Builtin.max_ #[3,3] 3 #[(VI c),(VI (aL (0-c)))]) fun f=>
Q1 VI P (Builtin.max_ #[3,3] 3 #[(VI d),(VI (aL (0-d)))]) fun g=>
O2 f g h fun i j(e:Int)(a:Int) b=>
Vars b []->
Br (!decide (a=0))
(a≠0/\
Nj j fun m=>i m a (Int.tmod e a) b)
(K (VI e) b))
theorem ahU(a:Int)(b:Int)(h:Heap)(K:KQ)(H:ahT Tryz.prog a b h K):aE Tryz.prog 263 #[(VI a),(VI b)] h K:=cw mixed Tryz.func263 [(28,⟨[⟨0,.l (.i .i64)⟩,⟨1,.l (.i .i64)⟩],[],[]⟩)] [.v (.l (.i .i64 a)),.v (.l (.i .i64 b))] [] [] .nil 20 (by kernel_rfl) H
def ahV(P:Program)(a2:Int)(a3:Int)(j:Int)(a4:Value)(h:Heap)(K:KQ):Prop:=pk (
E1 (fun f=>(Value.map f)) P (Instr.makeMap 221 none) h [] fun f a5=>
A1 a5 [] (fun d=>(d,[(Value.map f),aC.v,(VI 0)])::[]) fun d a6 L=>
O4 0 f aC 0 a6 fun a7 a8(r:Int)(s:Option Nat)(t:Sl)(u:Int) k=>
Vi k (Z0 [(Value.map s),t.v,(VI u)] L) fun L=>
Br (decide (r<a2))
(A1 k [] (fun l=>Z0 [(VI 0),(VI 0)] ((l,[(VI 0),(VI 0)])::L)) fun l a9 L=>
O5 0 0 s t u a9 fun aa ab(b:Int)(c:Int)(a:Option Nat)(g:Sl)(e:Int) i=>
Vi i (Z1 [(Value.map a),g.v,(VI e)] (Z0 [(VI b),(VI c)] L)) fun L=>
zN P (Instr.lookup 221 (Value.map a) (Value.agg #[(VI b),(VI c)]) true) i fun ac=>∃o:Int,∃x:Bool,ac=(Value.tuple #[(VI o),(VB x)])/\
Br (!x)
(Aj P (Instr.mapUpdate 221 (Value.map a) (Value.agg #[(VI b),(VI c)]) (VI a3)) i fun aj y=>Va y L fun L=>
E1 Sl.v P (Instr.buildSlice 222 1 #[(0,(Value.agg #[(VI b),(VI c)]))]) y L fun ad ae=>
E1 Sl.v P (bK 222 222 222 g.v ad.v) ae L fun z af=>
A0 af [d] (Z1 [(Value.map a),z.v,(VI e)] L) fun ag L=>
Nj a8 fun m=>a7 m (aL (r+1)) a z e ag)
(j≠0/\
Aj P (Instr.mapUpdate 221 (Value.map a) (Value.agg #[(VI b),(VI c)]) (VI (Int.tmod (aL (o+1)) j))) i fun ak a0=>Va a0 L fun L=>
fA P a4 [(Value.agg #[(VI b),(VI c)]),(VI (Int.tmod (aL (o+1)) j))] a0 fun ah a1=>∃p:Int,∃q:Int,ah=(Value.agg #[(VI p),(VI q)])/\Va a1 L fun L=>
A0 a1 [d,l] (Z1 [(Value.map a),g.v,(VI (aL (e+1)))] (Z0 [(VI p),(VI q)] L)) fun ai L=>
Nj ab fun m=>aa m p q a g (aL (e+1)) ai))
(K (VP d 0) k))
theorem ahW(a:Int)(b:Int)(c:Int)(d:Value)(h:Heap)(K:KQ)(H:ahV Tryz.prog a b c d h K):aE Tryz.prog 264 #[(VI a),(VI b),(VI c),d] h K:=cw mixed Tryz.func264 [(58,⟨[⟨17,.l (.i .i64)⟩],[0],[]⟩),(14948,⟨[],[1,0],[]⟩)] [.v (.l (.i .i64 a)),.v (.l (.i .i64 b)),.v (.l (.i .i64 c)),.v (.l (.r d))] [] [] .nil 70 (by kernel_rfl) H
def ahX(P:Program)(a:Int)(b:Int)(e:Int)(h:Heap)(K:KQ):Prop:=pk (
Br (decide (e=0))
(A2 h [] (fun c d=>Z0 [(VI (aL (a+1))),(VI b)] ((d,[(VI 0),(VI 0)])::((c,[(VI a),(VI b)])::[]))) fun c d f L=>
K (Value.agg #[(VI (aL (a+1))),(VI b)]) f)
(Br (decide (e=1))
(A2 h [] (fun c d=>Z0 [(VI a),(VI (aL (b+1)))] ((d,[(VI 0),(VI 0)])::((c,[(VI a),(VI b)])::[]))) fun c d g L=>
K (Value.agg #[(VI a),(VI (aL (b+1)))]) g)
(Br (decide (e=2))
(A2 h [] (fun c d=>Z0 [(VI (aL (a-1))),(VI b)] ((d,[(VI 0),(VI 0)])::((c,[(VI a),(VI b)])::[]))) fun c d i L=>
K (Value.agg #[(VI (aL (a-1))),(VI b)]) i)
(A2 h [] (fun c d=>Z0 [(VI a),(VI (aL (b-1)))] ((d,[(VI 0),(VI 0)])::((c,[(VI a),(VI b)])::[]))) fun c d j L=>
K (Value.agg #[(VI a),(VI (aL (b-1)))]) j))))
theorem ahY(b:Int)(c:Int)(d:Int)(h:Heap)(K:KQ)(H:ahX Tryz.prog b c d h K):aE Tryz.prog 265 #[(Value.agg #[(VI b),(VI c)]),(VI d)] h K:=cw mixed Tryz.func265 [] [.v (.a [.i .i64 b,.i .i64 c]),.v (.l (.i .i64 d))] [] [] .nil 36 (by kernel_rfl) H
def ahZ(P:Program)(a:Int)(b:Int)(h:Heap)(K:KQ):Prop:=pk (
C1 VB P 52 #[(VI a),(VI 2),(VI 3)] h [] fun e c=>
Br e
(C1 VB P 52 #[(VI b),(VI 1),(VI 6)] c [] fun f d=>
Br f
(C1 VI P 268 #[(VI a),(VI b)] d [] fun g i=>
K (VB (decide (g<=130))) i)
(K (VB false) d))
(K (VB false) c))
theorem ah0(a:Int)(b:Int)(h:Heap)(K:KQ)(H:ahZ Tryz.prog a b h K):aE Tryz.prog 266 #[(VI a),(VI b)] h K:=cw mixed Tryz.func266 [] [.v (.l (.i .i64 a)),.v (.l (.i .i64 b))] [] [] .nil 17 (by kernel_rfl) H
def ah1(P:Program)(k:Sl)(l:Int)(h:Heap)(K:KQ):Prop:=pk (
∃o:Heap->Prop,(Br (decide (l<0))
(Q1 (fun p=>p) P (Instr.makeInterface 9 (Value.string {data:= #[99,97,110,110,111,116,32,98,101,32,110,101,103,97,116,105,118,101]})) fun p=>
False)
(o h))/\
∀(a:Heap),o a->Vars a []->
R1 (fun f=>(Value.int .u64 f)) P (convert 3 166 (VI (k.n:Int))) a fun f=>
R1 (fun g=>(Value.int .u64 g)) P (convert 3 166 (VI l)) a fun g=>
C2 (fun i c=>(Value.tuple #[(Value.int .u64 i),(Value.int .u64 c)])) P 282 #[(Value.int .u64 f),(Value.int .u64 g)] a [] fun i c u=>
∃q:Heap->Prop,(Br (decide (0<i))
(Q1 (fun r=>r) P (Instr.makeInterface 9 (Value.string {data:= #[116,104,101,32,114,101,115,117,108,116,32,111,102,32,40,108,101,110,40,120,41,32,42,32,99,111,117,110,116,41,32,111,118,101,114,102,108,111,119,115]})) fun r=>
False)
(Br (decide (9223372036854775807<c))
(Q1 (fun s=>s) P (Instr.makeInterface 9 (Value.string {data:= #[116,104,101,32,114,101,115,117,108,116,32,111,102,32,40,108,101,110,40,120,41,32,42,32,99,111,117,110,116,41,32,111,118,101,114,102,108,111,119,115]})) fun s=>
False)
(q u)))/\
∀(d:Heap),q d->Vars d []->
R1 VI P (convert 166 3 (Value.int .u64 c)) d fun t=>
E1 Sl.v P (Instr.makeSlice 27 (VI t) (VI t)) d [] fun b x=>
E1 VI P (Builtin.copy_ #[27,27] 3 #[b.v,k.v]) x [] fun y z=>
O1 y z fun a0 a1(e:Int) j=>
Vars j []->
Br (decide (e<(b.n:Int)))
(Q1 Sl.v P (Instr.sliceAt 27 b.v (some (VI e)) none none) fun a2=>
Q1 Sl.v P (Instr.sliceAt 27 b.v none (some (VI e)) none) fun a3=>
E1 VI P (Builtin.copy_ #[27,27] 3 #[a2.v,a3.v]) j [] fun a4 a5=>
Nj a1 fun m=>a0 m (aL (e+a4)) a5)
(K b.v j))
theorem ah2(a:Sl)(b:Int)(h:Heap)(K:KQ)(H:ah1 Tryz.prog a b h K):aE Tryz.prog 267 #[a.v,(VI b)] h K:=cw mixed Tryz.func267 [(3,⟨[],[],[]⟩),(15,⟨[],[],[]⟩),(508,⟨[⟨8,.l (.i .i64)⟩],[],[]⟩)] [.v (.l (.sl a)),.v (.l (.i .i64 b))] [] [] .nil 48 (by kernel_rfl) H
def ah3(P:Program)(b:Int)(f:Int)(h:Heap)(K:KQ):Prop:=pk (
O3 1 1 0 h fun g i(c:Int)(d:Int)(e:Int) a=>
Vars a []->
Br (decide (e<f))
(Nj i fun m=>g m (aL (c+(aL (d*b)))) (aL (d*b)) (aL (e+1)) a)
(K (VI c) a))
theorem ah4(a:Int)(b:Int)(h:Heap)(K:KQ)(H:ah3 Tryz.prog a b h K):aE Tryz.prog 268 #[(VI a),(VI b)] h K:=cw mixed Tryz.func268 [(58,⟨[⟨5,.l (.i .i64)⟩,⟨6,.l (.i .i64)⟩,⟨8,.l (.i .i64)⟩],[],[]⟩)] [.v (.l (.i .i64 a)),.v (.l (.i .i64 b))] [] [] .nil 18 (by kernel_rfl) H
def abm(P:Program)(e:Nat)(a:Int)(d:Int)(c:Sl)(j:Sl)(f:Sl)(b:Sl)(h:Heap)(K:KQ):Prop:=pk (
Lt [(e,[(VI a),(VI d),c.v,j.v,f.v,b.v])] fun L=>
C1 VI P 268 #[(VI a),(VI (aL (d-1)))] h L fun af a1=>
G1 VI a1 b 0 1 fun ag=>
dQ b 0/\
S1 a1 (Sl.at b 0 1) (VI (aL (ag+1))) L fun ah=>
O3 0 0 0 ah fun a2 a3(g:Int)(u:Int)(i:Int) k=>
Vars k L->
Br (!decide (g=(-1)))
(Br (decide (g<af))
(G1 VI k c g 1 fun ai=>
(aL (a+1))≠0/\
dQ c g/\
S1 k (Sl.at c g 1) (VI (Int.tmod (aL (ai+1)) (aL (a+1)))) L fun p=>
∃q:Int->Int->Heap->Prop,(G1 VI p c g 1 fun a4=>
Br (decide (0<a4))
(q (aL ((aL (g*a))+a4)) (aL (u+1)) p)
(Br (decide (g=0))
(q (-1) u p)
(a≠0/\
q (aL (Int.tdiv (aL (g-1)) a)) (aL (u-1)) p)))/\
∀(r:Int)(l:Int)(o:Heap),q r l o->Vars o L->
Br (!decide (r=(-1)))
(G1 VI o b l 1 fun aj=>
dQ b l/\
S1 o (Sl.at b l 1) (VI (aL (aj+1))) L fun ak=>
Nj a3 fun m=>a2 m r l (aL (i+1)) ak)
(Nj a3 fun m=>a2 m r l (aL (i+1)) o))
(∃x:Int->Heap->Prop,(Br (decide (g=(-1)))
(x 0 k)
(x 1 k))/\
∀(y:Int)(s:Heap),x y s->Vars s L->
(E1 Sl.v P (Instr.buildSlice 27 1 #[(0,(VI y))]) s L fun a5 a6=>
(E1 Sl.v P (bK 27 27 27 j.v a5.v) a6 L fun a7 al=>
E1 Sl.v P (Instr.buildSlice 27 1 #[(0,(VI i))]) al L fun am an=>
E1 Sl.v P (bK 27 27 27 f.v am.v) an L fun ao ap=>
A0 ap [e,e] (Z0 [(VI a),(VI d),c.v,a7.v,ao.v,b.v] (Z0 [(VI a),(VI d),c.v,a7.v,f.v,b.v] L)) fun aq L=>
K (Value.tuple #[]) aq)/\
(E1 Sl.v P (Instr.buildSlice 27 1 #[(0,(VI i))]) a6 L fun ar au=>
E1 Sl.v P (bK 27 27 27 j.v a5.v) au L fun a8 av=>
E1 Sl.v P (bK 27 27 27 f.v ar.v) av L fun aw ax=>
A0 ax [e,e] (Z0 [(VI a),(VI d),c.v,a8.v,aw.v,b.v] (Z0 [(VI a),(VI d),c.v,a8.v,f.v,b.v] L)) fun ay L=>
K (Value.tuple #[]) ay))/\
(E1 Sl.v P (Instr.buildSlice 27 1 #[(0,(VI i))]) s L fun az b0=>
E1 Sl.v P (Instr.buildSlice 27 1 #[(0,(VI y))]) b0 L fun b1 b2=>
E1 Sl.v P (bK 27 27 27 j.v b1.v) b2 L fun a9 b3=>
E1 Sl.v P (bK 27 27 27 f.v az.v) b3 L fun b4 b5=>
A0 b5 [e,e] (Z0 [(VI a),(VI d),c.v,a9.v,b4.v,b.v] (Z0 [(VI a),(VI d),c.v,a9.v,f.v,b.v] L)) fun b6 L=>
K (Value.tuple #[]) b6)))
(∃z:Int->Heap->Prop,(Br (decide (g=(-1)))
(z 0 k)
(z 1 k))/\
∀(a0:Int)(t:Heap),z a0 t->Vars t L->
(E1 Sl.v P (Instr.buildSlice 27 1 #[(0,(VI a0))]) t L fun aa ab=>
(E1 Sl.v P (bK 27 27 27 j.v aa.v) ab L fun ac b7=>
E1 Sl.v P (Instr.buildSlice 27 1 #[(0,(VI i))]) b7 L fun b8 b9=>
E1 Sl.v P (bK 27 27 27 f.v b8.v) b9 L fun ba bb=>
A0 bb [e,e] (Z0 [(VI a),(VI d),c.v,ac.v,ba.v,b.v] (Z0 [(VI a),(VI d),c.v,ac.v,f.v,b.v] L)) fun bc L=>
K (Value.tuple #[]) bc)/\
(E1 Sl.v P (Instr.buildSlice 27 1 #[(0,(VI i))]) ab L fun bd be=>
E1 Sl.v P (bK 27 27 27 j.v aa.v) be L fun ad bf=>
E1 Sl.v P (bK 27 27 27 f.v bd.v) bf L fun bg bh=>
A0 bh [e,e] (Z0 [(VI a),(VI d),c.v,ad.v,bg.v,b.v] (Z0 [(VI a),(VI d),c.v,ad.v,f.v,b.v] L)) fun bi L=>
K (Value.tuple #[]) bi))/\
(E1 Sl.v P (Instr.buildSlice 27 1 #[(0,(VI i))]) t L fun bj bk=>
E1 Sl.v P (Instr.buildSlice 27 1 #[(0,(VI a0))]) bk L fun bl bm=>
E1 Sl.v P (bK 27 27 27 j.v bl.v) bm L fun ae bn=>
E1 Sl.v P (bK 27 27 27 f.v bj.v) bn L fun bo bp=>
A0 bp [e,e] (Z0 [(VI a),(VI d),c.v,ae.v,bo.v,b.v] (Z0 [(VI a),(VI d),c.v,ae.v,f.v,b.v] L)) fun bq L=>
K (Value.tuple #[]) bq)))
theorem ah5(a:Nat)(b:Int)(c:Int)(d:Sl)(e:Sl)(f:Sl)(g:Sl)(h:Heap)(K:KQ)(hL:Vars h [(a,[(VI b),(VI c),d.v,e.v,f.v,g.v])])(H:abm Tryz.prog a b c d e f g h K):aE Tryz.prog 269 #[(VP a 0)] h K:=cw mixed Tryz.func269 [(28,⟨[⟨2,.l (.i .i64)⟩,⟨3,.l (.i .i64)⟩,⟨4,.l (.i .i64)⟩],[],[]⟩),(31,⟨[⟨7,.l (.i .i64)⟩],[],[]⟩),(907,⟨[⟨2,.l (.i .i64)⟩,⟨3,.l (.i .i64)⟩],[],[]⟩)] [.v (.l (.p 0 0))] [(0,[.i .i64 b,.i .i64 c,.sl d,.sl e,.sl f,.sl g])] [a] hL 120 (by kernel_rfl) H
def ah6(P:Program)(d:Sl)(k:Int)(h:Heap)(K:KQ):Prop:=pk (
A1 h [] (fun p=>(p,[d.v])::[]) fun p t L=>
E1 Sl.v P (Instr.makeSlice 27 (VI (d.n:Int)) (VI (d.n:Int))) t L fun a u=>
O1 0 u fun x y(e:Int) l=>
Vars l L->
Br (decide (e<(a.n:Int)))
(dQ a e/\
S1 l (Sl.at a e 1) (VI (-1)) L fun z=>
Nj y fun m=>x m (aL (e+1)) z)
(dQ a k/\
S1 l (Sl.at a k 1) (VI 0) L fun a0=>
E1 Sl.v P (Instr.buildSlice 27 1 #[(0,(VI k))]) a0 L fun a1 a2=>
O2 a1 0 a2 fun a3 a4(o:Sl)(f:Int) c=>
Vars c L->
Br (decide (f<(o.n:Int)))
(G1 VI c o f 1 fun a5=>
G1 Sl.v c d a5 1 fun q=>
O2 o 0 c fun r s(g:Sl)(i:Int) b=>
Vars b L->
Br (decide (i<(q.n:Int)))
(G1 VI b q i 1 fun j=>
G1 VI b a j 1 fun a6=>
Br (decide (a6<0))
(G1 VI b g f 1 fun a7=>
G1 VI b a a7 1 fun a8=>
dQ a j/\
S1 b (Sl.at a j 1) (VI (aL (a8+1))) L fun a9=>
E1 Sl.v P (Instr.buildSlice 27 1 #[(0,(VI j))]) a9 L fun aa ab=>
E1 Sl.v P (bK 27 27 27 g.v aa.v) ab L fun ac ad=>
Nj s fun m=>r m ac (aL (i+1)) ad)
(Nj s fun m=>r m g (aL (i+1)) b))
(Nj a4 fun m=>a3 m g (aL (f+1)) b))
(K a.v c)))
theorem ah7(b:Sl)(c:Int)(h:Heap)(K:KQ)(H:ah6 Tryz.prog b c h K):aE Tryz.prog 271 #[(Value.agg #[b.v]),(VI c)] h K:=cw mixed Tryz.func271 [(58,⟨[⟨17,.l (.i .i64)⟩],[],[]⟩),(506,⟨[⟨7,.l .sl⟩,⟨8,.l (.i .i64)⟩],[],[]⟩),(32402,⟨[⟨7,.l .sl⟩,⟨44,.l (.i .i64)⟩],[],[]⟩)] [.v (.a [.sl b]),.v (.l (.i .i64 c))] [] [] .nil 70 (by kernel_rfl) H
def ah8(P:Program)(a:Int)(h:Heap)(K:KQ):Prop:=pk (
C1 VI P 122 #[(VI a),(VI (aL (0-a)))] h [] fun b c=>
K (VI b) c)
theorem ah9(a:Int)(h:Heap)(K:KQ)(H:ah8 Tryz.prog a h K):aE Tryz.prog 272 #[(VI a)] h K:=cw mixed Tryz.func272 [] [.v (.l (.i .i64 a))] [] [] .nil 7 (by kernel_rfl) H
def aia(P:Program)(d:Int)(e:Int)(h:Heap)(K:KQ):Prop:=pk (
O2 e 1 h fun f g(b:Int)(c:Int) a=>
Vars a []->
Br (decide (0<b))
(Nj g fun m=>f m (aL (b-1)) (aL (c*d)) a)
(K (VI c) a))
theorem aib(a:Int)(b:Int)(h:Heap)(K:KQ)(H:aia Tryz.prog a b h K):aE Tryz.prog 273 #[(VI a),(VI b)] h K:=cw mixed Tryz.func273 [(28,⟨[⟨1,.l (.i .i64)⟩,⟨5,.l (.i .i64)⟩],[],[]⟩)] [.v (.l (.i .i64 a)),.v (.l (.i .i64 b))] [] [] .nil 14 (by kernel_rfl) H
def aic(P:Program)(c:Int)(d:Int)(h:Heap)(K:KQ):Prop:=pk (
C2 (fun a b=>(Value.tuple #[(Value.int .u64 a),(Value.int .u64 b)])) P 288 #[(Value.int .u64 c),(Value.int .u64 d)] h [] fun a b e=>
K (Value.tuple #[(Value.int .u64 a),(Value.int .u64 b)]) e)
theorem aid(a:Int)(b:Int)(h:Heap)(K:KQ)(H:aic Tryz.prog a b h K):aE Tryz.prog 282 #[(Value.int .u64 a),(Value.int .u64 b)] h K:=cw mixed Tryz.func282 [] [.v (.l (.i .u64 a)),.v (.l (.i .u64 b))] [] [] .nil 30 (by kernel_rfl) H
def aie(P:Program)(f:Int)(g:Int)(h:Heap)(K:KQ):Prop:=pk (
Q1 (fun c=>(Value.int .u64 c)) P (gL .and 66 (Value.int .u64 f) (Value.int IntKind.u64 4294967295)) fun c=>
Q1 (fun a=>(Value.int .u64 a)) P (gL .shr 66 (Value.int .u64 f) (Value.int IntKind.u64 32)) fun a=>
Q1 (fun b=>(Value.int .u64 b)) P (gL .and 66 (Value.int .u64 g) (Value.int IntKind.u64 4294967295)) fun b=>
Q1 (fun d=>(Value.int .u64 d)) P (gL .shr 66 (Value.int .u64 g) (Value.int IntKind.u64 32)) fun d=>
Q1 (fun e=>(Value.int .u64 e)) P (gL .shr 66 (Value.int .u64 (IntKind.wrap .u64 (c*b))) (Value.int IntKind.u64 32)) fun e=>
Q1 (fun i=>(Value.int .u64 i)) P (gL .and 66 (Value.int .u64 (IntKind.wrap .u64 ((IntKind.wrap .u64 (a*b))+e))) (Value.int IntKind.u64 4294967295)) fun i=>
Q1 (fun j=>(Value.int .u64 j)) P (gL .shr 66 (Value.int .u64 (IntKind.wrap .u64 ((IntKind.wrap .u64 (a*b))+e))) (Value.int IntKind.u64 32)) fun j=>
Q1 (fun k=>(Value.int .u64 k)) P (gL .shr 66 (Value.int .u64 (IntKind.wrap .u64 (i+(IntKind.wrap .u64 (c*d))))) (Value.int IntKind.u64 32)) fun k=>
K (Value.tuple #[(Value.int .u64 (IntKind.wrap .u64 ((IntKind.wrap .u64 ((IntKind.wrap .u64 (a*d))+j))+k))),(Value.int .u64 (IntKind.wrap .u64 (f*g)))]) h)
theorem aif(a:Int)(b:Int)(h:Heap)(K:KQ)(H:aie Tryz.prog a b h K):aE Tryz.prog 288 #[(Value.int .u64 a),(Value.int .u64 b)] h K:=cw mixed Tryz.func288 [] [.v (.l (.i .u64 a)),.v (.l (.i .u64 b))] [] [] .nil 51 (by kernel_rfl) H
end Go.Proofs.YtcnfcnoooecchaaGreatDoor
