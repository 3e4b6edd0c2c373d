import Derived.Test.YtcnfcnoooecchaaGreatDoorProg
import Derived.Test.YtcnfcnoooecchaaGreatDoorM8
set_option linter.unusedVariables false
set_option linter.unusedSimpArgs false
set_option maxRecDepth 100000
set_option maxHeartbeats 16000000
namespace Go.Proofs.YtcnfcnoooecchaaGreatDoor
open Go Go.Mx
noncomputable abbrev aB:=Tryz.prog
theorem mixed:Tryz.prog.follows .mixedOrders=true:=by kernel_rfl
def u5(P:Program)(ak:Sl)(aw:Sl)(h:Heap)(K:KQ):Prop:=pk (
C1 VB P 9 #[ak.v,aw.v] h [] fun ax al=>
Br ax
(K (VB true) al)
(C1 VS P 24 #[ak.v] al [] fun e ay=>
C2 (fun f o=>(.tuple #[(Sl.v f),VB o])) P 25 #[VS e] ay [] fun f o az=>
C2 (fun a5 a6=>(.tuple #[(Sl.v a5),VB a6])) P 26 #[VS e] az [] fun a5 a6 b0=>
C4 (fun x y z a7=>(.tuple #[(.agg #[(Sl.v x),(Sl.v y),VI z]),VB a7])) P 27 #[VS e] b0 [] fun x y z a7 b1=>
A1 b1 [] (fun am=>Z0 [x.v,y.v,VI z] ((am,[aD.v,aD.v,VI 0])::[])) fun am b2 L=>
C2 (fun g a8=>(.tuple #[(Sl.v g),VB a8])) P 28 #[VS e] b2 L fun g a8 an=>
Br (!(o==a6))
(K (VB false) an)
(C1 VB P 29 #[f.v,a5.v] an L fun b3 q=>
Br (!b3)
(K (VB false) q)
(Br (!(a7==o))
(K (VB false) q)
(Br (!(a8==o))
(K (VB false) q)
(Br (!o)
(K (VB true) q)
(C3 (fun a0 a1 a2=>(.agg #[(Sl.v a0),(Sl.v a1),VI a2])) P 30 #[] q L fun a0 a1 a2 b4=>
A1 b4 [] (fun a9=>Z0 [a0.v,a1.v,VI a2] ((a9,[aD.v,aD.v,VI 0])::L)) fun a9 b5 L=>
∃aa:Nat->ByteArray->Int->Int->Int->Sl->Sl->Int->Heap->Prop,(∃n0:Nat,aa n0 ({data:= #[]}) 0 0 0 a0 a1 a2 b5)/\
∀(ao:Nat)(a3:ByteArray)(c:Int)(b:Int)(p:Int)(r:Sl)(s:Sl)(t:Int)(i:Heap),aa ao a3 c b p r s t i->Vi i (Z0 [r.v,s.v,VI t] L) fun L=>
Br (decide (p<(e.size:Int)))
(∃ab:ByteArray->Int->Int->Sl->Sl->Int->Heap->Prop,(Q1 (fun ac=>(.int .u8 ac)) P (Instr.index 9 (VS e) (VI p)) fun ac=>
Br (!decide (ac=10))
(Q1 VS P (Instr.sliceAt 9 (VS e) (some (VI p)) (some (VI (aX (p+1)))) none) fun ap=>
a3.size+ap.size<=9223372036854775807/\
ab (a3++ap) c b r s t i)
(C5 (fun j k l u ad=>(.tuple #[(.agg #[(Sl.v j),(Sl.v k),VI l]),VS u,VB ad])) P 11 #[(.agg #[r.v,s.v,VI t]),VS a3] i L fun j k l u ad ae=>
Br (!ad)
(A1 ae [] (fun d=>Z0 [j.v,k.v,VI l] ((d,[aD.v,aD.v,VI 0])::L)) fun d a L=>
K (VB false) a)
(Br (decide ((f.n:Int)<=c))
(A1 ae [] (fun d=>Z0 [j.v,k.v,VI l] ((d,[aD.v,aD.v,VI 0])::L)) fun d a L=>
K (VB false) a)
(fq f c/\
A1 ae [] (fun d=>Z0 [j.v,k.v,VI l] ((d,[aD.v,aD.v,VI 0])::L)) fun d a L=>
H1 VS a (Sl.at f c 1) fun b6=>
Br (!(b6.toList==u.toList))
(K (VB false) a)
(∃a4:Int->Heap->Prop,(Br (u.toList==ByteArray.toList ({data:= #[110,111]}))
(Br (decide ((g.n:Int)<=b))
(K (VB false) a)
(G1 VI a g b 1 fun b7=>
Br (!decide (b7=(aX (c+1))))
(K (VB false) a)
(a4 (aX (b+1)) a)))
(Br (u.toList==ByteArray.toList ({data:= #[119,104,97,116]}))
(Br (decide ((g.n:Int)<=b))
(K (VB false) a)
(G1 VI a g b 1 fun b8=>
Br (!decide (b8=(aX (c+1))))
(K (VB false) a)
(a4 (aX (b+1)) a)))
(a4 b a)))/\
∀(aq:Int)(af:Heap),a4 aq af->Vars af L->
A0 af [a9] (Z1 [j.v,k.v,VI l] L) fun b9 L=>
ab ({data:= #[]}) (aX (c+1)) aq j k l b9)))))/\
∀(ar:ByteArray)(au:Int)(av:Int)(ag:Sl)(ah:Sl)(ai:Int)(aj:Heap),ab ar au av ag ah ai aj->Vi aj (Z0 [ag.v,ah.v,VI ai] L) fun L=>
Nj ao fun m=>aa m ar au av (aX (p+1)) ag ah ai aj)
(Br (decide (c=(f.n:Int)))
(Br (decide (b=(g.n:Int)))
(C1 VB P 13 #[(.agg #[r.v,s.v,VI t]),(.agg #[x.v,y.v,VI z])] i L fun ba bb=>
K (VB ba) bb)
(K (VB false) i))
(K (VB false) i)))))))))
theorem v5(a:Sl)(b:Sl)(h:Heap)(K:KQ)(H:u5 aB a b h K):aG aB 5 #[a.v,b.v] h K:=cw mixed Tryz.func5 [(65530,⟨[⟨15,.l .s⟩,⟨16,.l (.i .i64)⟩,⟨17,.l (.i .i64)⟩,⟨18,.l (.i .i64)⟩],[1],[]⟩),(262121,⟨[⟨15,.l .s⟩,⟨16,.l (.i .i64)⟩,⟨17,.l (.i .i64)⟩],[1],[]⟩),(16775759,⟨[⟨17,.l (.i .i64)⟩],[],[]⟩)] [.v (.l (.sl a)),.v (.l (.sl b))] [] [] .nil 147 (by kernel_rfl) H
def u9(P:Program)(a:Sl)(b:Sl)(h:Heap)(K:KQ):Prop:=pk (
Br (decide (1048576<(a.n:Int)))
(K (VB true) h)
(K (VB (decide ((aX (1048576-(a.n:Int)))<(b.n:Int)))) h))
theorem v9(a:Sl)(b:Sl)(h:Heap)(K:KQ)(H:u9 aB a b h K):aG aB 9 #[a.v,b.v] h K:=cw mixed Tryz.func9 [] [.v (.l (.sl a)),.v (.l (.sl b))] [] [] .nil 16 (by kernel_rfl) H
def u11(P:Program)(e:Sl)(f:Sl)(g:Int)(i:ByteArray)(h:Heap)(K:KQ):Prop:=pk (
A2 h [] (fun l a=>(a,[aD.v,aD.v,VI 0])::((l,[e.v,f.v,VI g])::[])) fun l a q L=>
C1 VB P 42 #[(.agg #[e.v,f.v,VI g])] q L fun r j=>
Br (!r)
(A0 j [a] (Z0 [aD.v,aD.v,VI 0] L) fun s L=>
K (.tuple #[(.agg #[aD.v,aD.v,VI 0]),(VS ({data:= #[]})),VB false]) s)
(Br (decide (3000<(i.size:Int)))
(A0 j [a] (Z0 [aD.v,aD.v,VI 0] L) fun t L=>
K (.tuple #[(.agg #[aD.v,aD.v,VI 0]),(VS ({data:= #[]})),VB false]) t)
(C1 VB P 43 #[VS i,(VS ({data:= #[10]}))] j L fun u o=>
Br u
(A0 o [a] (Z0 [aD.v,aD.v,VI 0] L) fun x L=>
K (.tuple #[(.agg #[aD.v,aD.v,VI 0]),(VS ({data:= #[]})),VB false]) x)
(C4 (fun b c d k=>(.tuple #[(.agg #[(Sl.v b),(Sl.v c),VI d]),VS k])) P 44 #[(.agg #[e.v,f.v,VI g]),VS i] o L fun b c d k y=>
A1 y [a] (fun p=>Z1 [b.v,c.v,VI d] (Z0 [b.v,c.v,VI d] ((p,[aD.v,aD.v,VI 0])::L))) fun p z L=>
K (.tuple #[(.agg #[b.v,c.v,VI d]),VS k,VB true]) z))))
theorem v11(b:Sl)(c:Sl)(d:Int)(e:ByteArray)(h:Heap)(K:KQ)(H:u11 aB b c d e h K):aG aB 11 #[(.agg #[b.v,c.v,VI d]),VS e] h K:=cw mixed Tryz.func11 [] [.v (.a [.sl b,.sl c,.i .i64 d]),.v (.l (.s e))] [] [] .nil 30 (by kernel_rfl) H
def u13(P:Program)(b:Sl)(c:Sl)(d:Int)(e:Sl)(f:Sl)(g:Int)(h:Heap)(K:KQ):Prop:=pk (
A2 h [] (fun i j=>(j,[e.v,f.v,VI g])::((i,[b.v,c.v,VI d])::[])) fun i j k L=>
C1 VB P 17 #[b.v,e.v] k L fun l a=>
Br l
(Br (decide (d=g))
(C1 VB P 49 #[c.v,f.v] a L fun o p=>
K (VB o) p)
(K (VB false) a))
(K (VB false) a))
theorem v13(b:Sl)(c:Sl)(d:Int)(e:Sl)(f:Sl)(g:Int)(h:Heap)(K:KQ)(H:u13 aB b c d e f g h K):aG aB 13 #[(.agg #[b.v,c.v,VI d]),(.agg #[e.v,f.v,VI g])] h K:=cw mixed Tryz.func13 [] [.v (.a [.sl b,.sl c,.i .i64 d]),.v (.a [.sl e,.sl f,.i .i64 g])] [] [] .nil 30 (by kernel_rfl) H
def u17(P:Program)(c:Sl)(d:Sl)(h:Heap)(K:KQ):Prop:=pk (
Br (!decide ((c.n:Int)=(d.n:Int)))
(K (VB false) h)
(O1 0 h fun f g(b:Int) a=>
Vars a []->
Br (decide (b<(c.n:Int)))
(G1 Sl.v a c b 1 fun i=>
G1 Sl.v a d b 1 fun j=>
C1 VB P 49 #[i.v,j.v] a [] fun k e=>
Br (!k)
(K (VB false) e)
(Nj g fun m=>f m (aX (b+1)) e))
(K (VB true) a)))
theorem v17(a:Sl)(b:Sl)(h:Heap)(K:KQ)(H:u17 aB a b h K):aG aB 17 #[a.v,b.v] h K:=cw mixed Tryz.func17 [(58,⟨[⟨13,.l (.i .i64)⟩],[],[]⟩)] [.v (.l (.sl a)),.v (.l (.sl b))] [] [] .nil 27 (by kernel_rfl) H
def u24(P:Program)(d:Sl)(h:Heap)(K:KQ):Prop:=pk (
A1 h [] (fun a=>(a,[d.v,VI 0,(.int .u64 0)])::[]) fun a e L=>
aG P 66 #[(VP a 0)] e fun f b=>∃g:Sl,∃i:Int,∃j:Int,∃c:ByteArray,f=(VS c)/\Va b (Z0 [g.v,VI i,(.int .u64 j)] L) fun L=>
K (VS c) b)
theorem v24(a:Sl)(h:Heap)(K:KQ)(H:u24 aB a h K):aG aB 24 #[a.v] h K:=cw mixed Tryz.func24 [] [.v (.l (.sl a))] [] [] .nil 9 (by kernel_rfl) H
def u25(P:Program)(g:ByteArray)(h:Heap)(K:KQ):Prop:=pk (
C5 (fun a b c d e=>(.tuple #[(.agg #[(Sl.v a),(Sl.v b),VI c]),(Sl.v d),VB e])) P 67 #[VS g] h [] fun a b c d e i=>
A1 i [] (fun f=>Z0 [a.v,b.v,VI c] ((f,[aD.v,aD.v,VI 0])::[])) fun f j L=>
K (.tuple #[d.v,VB e]) j)
theorem v25(a:ByteArray)(h:Heap)(K:KQ)(H:u25 aB a h K):aG aB 25 #[VS a] h K:=cw mixed Tryz.func25 [] [.v (.l (.s a))] [] [] .nil 15 (by kernel_rfl) H
def u26(P:Program)(g:ByteArray)(h:Heap)(K:KQ):Prop:=pk (
C5 (fun a b c d e=>(.tuple #[(.agg #[(Sl.v a),(Sl.v b),VI c]),(Sl.v d),VB e])) P 68 #[VS g] h [] fun a b c d e i=>
A1 i [] (fun f=>Z0 [a.v,b.v,VI c] ((f,[aD.v,aD.v,VI 0])::[])) fun f j L=>
K (.tuple #[d.v,VB e]) j)
theorem v26(a:ByteArray)(h:Heap)(K:KQ)(H:u26 aB a h K):aG aB 26 #[VS a] h K:=cw mixed Tryz.func26 [] [.v (.l (.s a))] [] [] .nil 15 (by kernel_rfl) H
def u27(P:Program)(i:ByteArray)(h:Heap)(K:KQ):Prop:=pk (
A1 h [] (fun d=>(d,[aD.v,aD.v,VI 0])::[]) fun d j L=>
C5 (fun a b c f e=>(.tuple #[(.agg #[(Sl.v a),(Sl.v b),VI c]),(Sl.v f),VB e])) P 67 #[VS i] j L fun a b c f e k=>
A1 k [d] (fun g=>Z1 [a.v,b.v,VI c] (Z0 [a.v,b.v,VI c] ((g,[aD.v,aD.v,VI 0])::L))) fun g l L=>
K (.tuple #[(.agg #[a.v,b.v,VI c]),VB e]) l)
theorem v27(a:ByteArray)(h:Heap)(K:KQ)(H:u27 aB a h K):aG aB 27 #[VS a] h K:=cw mixed Tryz.func27 [] [.v (.l (.s a))] [] [] .nil 15 (by kernel_rfl) H
def u28(P:Program)(r:ByteArray)(h:Heap)(K:KQ):Prop:=pk (
C5 (fun d e f g j=>(.tuple #[(.agg #[(Sl.v d),(Sl.v e),VI f]),(Sl.v g),VB j])) P 67 #[VS r] h [] fun d e f g j p=>
Br (!j)
(A1 p [] (fun c=>Z0 [d.v,e.v,VI f] ((c,[aD.v,aD.v,VI 0])::[])) fun c k L=>
K (.tuple #[aD.v,VB false]) k)
(A1 p [] (fun c=>Z0 [d.v,e.v,VI f] ((c,[aD.v,aD.v,VI 0])::[])) fun c k L=>
E1 Sl.v P (Instr.buildSlice 27 0 #[]) k L fun s t=>
O2 s 0 t fun l o(i:Sl)(a:Int) b=>
Vars b L->
Br (decide (a<(g.n:Int)))
(G1 VS b g a 1 fun q=>
Br (q.toList==ByteArray.toList ({data:= #[110,111]}))
(E1 Sl.v P (Instr.buildSlice 27 1 #[(0,(VI (aX (a+1))))]) b L fun u x=>
E1 Sl.v P (cD 27 27 27 i.v u.v) x L fun y z=>
Nj o fun m=>l m y (aX (a+1)) z)
(Br (q.toList==ByteArray.toList ({data:= #[119,104,97,116]}))
(E1 Sl.v P (Instr.buildSlice 27 1 #[(0,(VI (aX (a+1))))]) b L fun a0 a1=>
E1 Sl.v P (cD 27 27 27 i.v a0.v) a1 L fun a2 a3=>
Nj o fun m=>l m a2 (aX (a+1)) a3)
(Nj o fun m=>l m i (aX (a+1)) b)))
(K (.tuple #[i.v,VB true]) b)))
theorem v28(a:ByteArray)(h:Heap)(K:KQ)(H:u28 aB a h K):aG aB 28 #[VS a] h K:=cw mixed Tryz.func28 [(250,⟨[⟨7,.l .sl⟩,⟨21,.l (.i .i64)⟩],[],[]⟩)] [.v (.l (.s a))] [] [] .nil 39 (by kernel_rfl) H
def u29(P:Program)(c:Sl)(d:Sl)(h:Heap)(K:KQ):Prop:=pk (
Br (!decide ((c.n:Int)=(d.n:Int)))
(K (VB false) h)
(O1 0 h fun e f(b:Int) a=>
Vars a []->
Br (decide (b<(c.n:Int)))
(G1 VS a c b 1 fun g=>
G1 VS a d b 1 fun i=>
Br (!(g.toList==i.toList))
(K (VB false) a)
(Nj f fun m=>e m (aX (b+1)) a))
(K (VB true) a)))
theorem v29(a:Sl)(b:Sl)(h:Heap)(K:KQ)(H:u29 aB a b h K):aG aB 29 #[a.v,b.v] h K:=cw mixed Tryz.func29 [(58,⟨[⟨13,.l (.i .i64)⟩],[],[]⟩)] [.v (.l (.sl a)),.v (.l (.sl b))] [] [] .nil 26 (by kernel_rfl) H
def u30(P:Program)(h:Heap)(K:KQ):Prop:=pk (
A1 h [] (fun d=>(d,[aD.v,aD.v,VI 0])::[]) fun d e L=>
E1 Sl.v P (Instr.buildSlice 27 2 #[(0,(.int .i64 1)),(1,(.int .i64 2))]) e L fun f g=>
E1 Sl.v P (Instr.buildSlice 27 2 #[(0,(.int .i64 0)),(1,(.int .i64 2))]) g L fun i j=>
E1 Sl.v P (Instr.buildSlice 27 1 #[(0,(.int .i64 0))]) j L fun k l=>
E1 Sl.v P (Instr.buildSlice 24 3 #[(0,f.v),(1,i.v),(2,k.v)]) l L fun o p=>
C3 (fun a b c=>(.agg #[(Sl.v a),(Sl.v b),VI c])) P 69 #[(.agg #[o.v])] p L fun a b c q=>
A0 q [d] (Z0 [a.v,b.v,VI c] L) fun r L=>
K (.agg #[a.v,b.v,VI c]) r)
theorem v30(h:Heap)(K:KQ)(H:u30 aB h K):aG aB 30 #[] h K:=cw mixed Tryz.func30 [] [] [] [] .nil 7 (by kernel_rfl) H
def u40(P:Program)(a:Nat)(d:Sl)(e:Int)(f:Int)(g:Int)(h:Heap)(K:KQ):Prop:=pk (
Lt [(a,[d.v,VI e,(.int .u64 f)])] fun L=>
aG P 72 #[(VP a 0),VI g] h fun i b=>∃j:Sl,∃k:Int,∃l:Int,∃c:Int,i=(VI c)/\Va b (Z0 [j.v,VI k,(.int .u64 l)] L) fun L=>
K (VB (decide (c=0))) b)
theorem v40(a:Nat)(b:Sl)(c:Int)(d:Int)(e:Int)(h:Heap)(K:KQ)(hL:Vars h [(a,[b.v,VI c,(.int .u64 d)])])(H:u40 aB a b c d e h K):aG aB 40 #[(VP a 0),VI e] h K:=cw mixed Tryz.func40 [] [.v (.l (.p 0 0)),.v (.l (.i .i64 e))] [(0,[.sl b,.i .i64 c,.i .u64 d])] [a] hL 9 (by kernel_rfl) H
def u41(P:Program)(a:Nat)(av:Sl)(aw:Int)(ax:Int)(h:Heap)(K:KQ):Prop:=pk (
Lt [(a,[av.v,VI aw,(.int .u64 ax)])] fun L=>
aG P 72 #[(VP a 0),VI 5] h fun ay s=>∃az:Sl,∃b0:Int,∃b1:Int,∃t:Int,ay=(VI t)/\Va s (Z0 [az.v,VI b0,(.int .u64 b1)] L) fun L=>
C1 VS P 73 #[VI t] s L fun c b2=>
aG P 72 #[(VP a 0),VI 5] b2 fun b3 u=>∃b4:Sl,∃b5:Int,∃b6:Int,∃x:Int,b3=(VI x)/\Va u (Z0 [b4.v,VI b5,(.int .u64 b6)] L) fun L=>
C1 VS P 73 #[VI x] u L fun j b7=>
aG P 72 #[(VP a 0),VI 12] b7 fun b8 e=>∃b9:Sl,∃ba:Int,∃bb:Int,∃b:Int,b8=(VI b)/\Va e (Z0 [b9.v,VI ba,(.int .u64 bb)] L) fun L=>
Br (decide (b=0))
(aG P 75 #[(VP a 0),VI 5] e fun bc y=>∃bd:Sl,∃be:Int,∃bf:Int,∃z:Sl,bc=(.agg #[z.v])/\Va y (Z0 [bd.v,VI be,(.int .u64 bf)] L) fun L=>
C1 VS P 74 #[(.agg #[z.v])] y L fun a0 bg=>
ByteArray.size ({data:= #[103,114,97,112,104,32]})+a0.size<=9223372036854775807/\
K (VS (({data:= #[103,114,97,112,104,32]})++a0)) bg)
(Br (decide (b=1))
(E1 Sl.v P (Instr.buildSlice 52 2 #[(0,(.string {data:= #[97,100,100,32]})),(1,(.string {data:= #[116,117,114,110,32]}))]) e L fun bh bi=>
aG P 76 #[(VP a 0),bh.v] bi fun bj a1=>∃bk:Sl,∃bl:Int,∃bm:Int,∃f:ByteArray,bj=(VS f)/\Va a1 (Z0 [bk.v,VI bl,(.int .u64 bm)] L) fun L=>
f.size+c.size<=9223372036854775807/\
ByteArray.size (f++c)+ByteArray.size ({data:= #[32]})<=9223372036854775807/\
ByteArray.size ((f++c)++({data:= #[32]}))+j.size<=9223372036854775807/\
K (VS (((f++c)++({data:= #[32]}))++j)) a1)
(∃l:Bool->Heap->Prop,(Br (decide (b=2))
(l (decide (b=2)) e)
(l (decide (b=3)) e))/\
∀(a2:Bool)(g:Heap),l a2 g->Vars g L->
Br a2
(ByteArray.size ({data:= #[97,116,32]})+c.size<=9223372036854775807/\
aG P 72 #[(VP a 0),VI 30] g fun bn a3=>∃bo:Sl,∃bp:Int,∃bq:Int,∃a4:Int,bn=(VI a4)/\Va a3 (Z0 [bo.v,VI bp,(.int .u64 bq)] L) fun L=>
C1 VS P 73 #[VI a4] a3 L fun a5 br=>
ByteArray.size ({data:= #[114,117,110,32]})+a5.size<=9223372036854775807/\
E1 Sl.v P (Instr.buildSlice 52 4 #[(0,(.string {data:= #[115,116,101,112]})),(1,(.string {data:= #[115,116,101,112]})),(2,(VS (({data:= #[97,116,32]})++c))),(3,(VS (({data:= #[114,117,110,32]})++a5)))]) br L fun bs bt=>
aG P 76 #[(VP a 0),bs.v] bt fun bu a6=>∃bv:Sl,∃bw:Int,∃bx:Int,∃a7:ByteArray,bu=(VS a7)/\Va a6 (Z0 [bv.v,VI bw,(.int .u64 bx)] L) fun L=>
K (VS a7) a6)
(∃o:Bool->Heap->Prop,(Br (decide (b=4))
(o (decide (b=4)) g)
(o (decide (b=5)) g))/\
∀(a8:Bool)(i:Heap),o a8 i->Vars i L->
Br a8
(E1 Sl.v P (Instr.buildSlice 52 4 #[(0,(.string {data:= #[115,104,111,119]})),(1,(.string {data:= #[119,97,108,107]})),(2,(.string {data:= #[112,101,114,105,111,100]})),(3,(.string {data:= #[99,121,99,108,101]}))]) i L fun bz c0=>
aG P 76 #[(VP a 0),bz.v] c0 fun c1 a9=>∃c2:Sl,∃c3:Int,∃c4:Int,∃aa:ByteArray,c1=(VS aa)/\Va a9 (Z0 [c2.v,VI c3,(.int .u64 c4)] L) fun L=>
K (VS aa) a9)
(∃p:Bool->Heap->Prop,(Br (decide (b=6))
(p (decide (b=6)) i)
(p (decide (b=7)) i))/\
∀(ab:Bool)(d:Heap),p ab d->Vars d L->
Br ab
(E1 Sl.v P (Instr.buildSlice 52 3 #[(0,(.string {data:= #[112,97,115,115,32]})),(1,(.string {data:= #[118,105,115,105,116,115,32]})),(2,(.string {data:= #[104,105,116,32]}))]) d L fun c5 c6=>
aG P 76 #[(VP a 0),c5.v] c6 fun c7 ac=>∃c8:Sl,∃c9:Int,∃ca:Int,∃q:ByteArray,c7=(VS q)/\Va ac (Z0 [c8.v,VI c9,(.int .u64 ca)] L) fun L=>
aG P 72 #[(VP a 0),VI 9] ac fun cb ad=>∃cc:Sl,∃cd:Int,∃ce:Int,∃ae:Int,cb=(VI ae)/\Va ad (Z0 [cc.v,VI cd,(.int .u64 ce)] L) fun L=>
C1 VS P 73 #[VI ae] ad L fun af cf=>
q.size+af.size<=9223372036854775807/\
K (VS (q++af)) cf)
(Br (decide (b=8))
(E1 Sl.v P (Instr.buildSlice 52 2 #[(0,(.string {data:= #[116,114,101,101,115,32]})),(1,(.string {data:= #[102,117,108,108,32]}))]) d L fun cg ch=>
aG P 76 #[(VP a 0),cg.v] ch fun ci ag=>∃cj:Sl,∃ck:Int,∃cl:Int,∃r:ByteArray,ci=(VS r)/\Va ag (Z0 [cj.v,VI ck,(.int .u64 cl)] L) fun L=>
r.size+c.size<=9223372036854775807/\
K (VS (r++c)) ag)
(Br (decide (b=9))
(ByteArray.size ({data:= #[99,104,97,110,99,101,32]})+c.size<=9223372036854775807/\
ByteArray.size (({data:= #[99,104,97,110,99,101,32]})++c)+ByteArray.size ({data:= #[32]})<=9223372036854775807/\
ByteArray.size ((({data:= #[99,104,97,110,99,101,32]})++c)++({data:= #[32]}))+j.size<=9223372036854775807/\
K (VS (((({data:= #[99,104,97,110,99,101,32]})++c)++({data:= #[32]}))++j)) d)
(Br (decide (b=10))
(aG P 72 #[(VP a 0),VI 30] d fun cm ah=>∃cn:Sl,∃co:Int,∃cp:Int,∃ai:Int,cm=(VI ai)/\Va ah (Z0 [cn.v,VI co,(.int .u64 cp)] L) fun L=>
C1 VS P 73 #[VI ai] ah L fun aj cq=>
ByteArray.size ({data:= #[101,115,99,97,112,101,115,32,50,32,51,32,48,32]})+aj.size<=9223372036854775807/\
aG P 72 #[(VP a 0),VI 40] cq fun cr ak=>∃cs:Sl,∃ct:Int,∃cu:Int,∃al:Int,cr=(VI al)/\Va ak (Z0 [cs.v,VI ct,(.int .u64 cu)] L) fun L=>
C1 VS P 73 #[VI al] ak L fun k cv=>
ByteArray.size ({data:= #[103,114,111,119,32]})+k.size<=9223372036854775807/\
ByteArray.size (({data:= #[103,114,111,119,32]})++k)+ByteArray.size ({data:= #[32]})<=9223372036854775807/\
aG P 72 #[(VP a 0),VI 5] cv fun cx am=>∃cy:Sl,∃cz:Int,∃d0:Int,∃an:Int,cx=(VI an)/\Va am (Z0 [cy.v,VI cz,(.int .u64 d0)] L) fun L=>
C1 VS P 73 #[VI an] am L fun ao d1=>
ByteArray.size ((({data:= #[103,114,111,119,32]})++k)++({data:= #[32]}))+ao.size<=9223372036854775807/\
E1 Sl.v P (Instr.buildSlice 52 2 #[(0,(VS (({data:= #[101,115,99,97,112,101,115,32,50,32,51,32,48,32]})++aj))),(1,(VS (((({data:= #[103,114,111,119,32]})++k)++({data:= #[32]}))++ao)))]) d1 L fun d2 d3=>
aG P 76 #[(VP a 0),d2.v] d3 fun d4 ap=>∃d5:Sl,∃d6:Int,∃d7:Int,∃aq:ByteArray,d4=(VS aq)/\Va ap (Z0 [d5.v,VI d6,(.int .u64 d7)] L) fun L=>
K (VS aq) ap)
(E1 Sl.v P (Instr.buildSlice 52 16 #[(0,(.string {data:= #[102,108,121]})),(1,(.string {data:= #[]})),(2,(.string {data:= #[115,104,111,119,32]})),(3,(.string {data:= #[103,114,97,112,104,32]})),(4,(.string {data:= #[103,114,97,112,104,32,45]})),(5,(.string {data:= #[103,114,97,112,104,32,48]})),(6,(.string {data:= #[103,114,97,112,104,32,53]})),(7,(.string {data:= #[97,116,32,57]})),(8,(.string {data:= #[116,117,114,110,32,48,32,57]})),(9,(.string {data:= #[114,117,110,32,50,48,48,49]})),(10,(.string {data:= #[114,117,110,32,120]})),(11,(.string {data:= #[112,97,115,115,32,50,48,49]})),(12,(.string {data:= #[115,116,101,112,32,49]})),(13,(.string {data:= #[101,115,99,97,112,101,115,32,52,32,49,32,48,32,48]})),(14,(.string {data:= #[103,114,111,119,32,48,32,48]})),(15,(.string {data:= #[99,104,97,110,99,101,32,49,32,49]}))]) d L fun d8 d9=>
aG P 76 #[(VP a 0),d8.v] d9 fun da ar=>∃db:Sl,∃dc:Int,∃dd:Int,∃au:ByteArray,da=(VS au)/\Va ar (Z0 [db.v,VI dc,(.int .u64 dd)] L) fun L=>
K (VS au) ar)))))))))
theorem v41(a:Nat)(c:Sl)(d:Int)(e:Int)(h:Heap)(K:KQ)(hL:Vars h [(a,[c.v,VI d,(.int .u64 e)])])(H:u41 aB a c d e h K):aG aB 41 #[(VP a 0)] h K:=cw mixed Tryz.func41 [(943,⟨[⟨29,.l .b⟩],[],[]⟩),(3775,⟨[⟨41,.l .b⟩],[],[]⟩),(15103,⟨[⟨47,.l .b⟩],[],[]⟩)] [.v (.l (.p 0 0))] [(0,[.sl c,.i .i64 d,.i .u64 e])] [a] hL 92 (by kernel_rfl) H
def u42(P:Program)(a:Sl)(b:Sl)(c:Int)(h:Heap)(K:KQ):Prop:=pk (
A1 h [] (fun d=>(d,[a.v,b.v,VI c])::[]) fun d e L=>
C1 VB P 77 #[(.agg #[a.v]),(.agg #[b.v,VI c])] e L fun f g=>
K (VB f) g)
theorem v42(b:Sl)(c:Sl)(d:Int)(h:Heap)(K:KQ)(H:u42 aB b c d h K):aG aB 42 #[(.agg #[b.v,c.v,VI d])] h K:=cw mixed Tryz.func42 [] [.v (.a [.sl b,.sl c,.i .i64 d])] [] [] .nil 8 (by kernel_rfl) H
def u44(P:Program)(e:Sl)(f:Sl)(g:Int)(a3:ByteArray)(h:Heap)(K:KQ):Prop:=pk (
A2 h [] (fun a1 b=>(b,[aD.v,aD.v,VI 0])::((a1,[e.v,f.v,VI g])::[])) fun a1 b a4 L=>
C3 (fun r s t=>(.agg #[(Sl.v r),(Sl.v s),VI t])) P 79 #[(.agg #[e.v,f.v,VI g])] a4 L fun r s t a5=>
A1 a5 [] (fun u=>(u,[r.v,s.v,VI t,VB false])::L) fun u a6 L=>
C1 Sl.v P 81 #[VS a3,(VS ({data:= #[32]}))] a6 L fun a7 a8=>
aG P 80 #[(VP u 0),a7.v] a8 fun a9 i=>∃x:Sl,∃y:Sl,∃z:Int,∃a2:Bool,∃c:ByteArray,∃d:Bool,a9=(.agg #[VS c,VB d])/\Va i (Z0 [x.v,y.v,VI z,VB a2] L) fun L=>
Br a2
(A1 i [] (fun a=>Z0 [VS c,VB d] ((a,[(VS (⟨#[]⟩:ByteArray)),VB false])::L)) fun a a0 L=>
C3 (fun j k l=>(.agg #[(Sl.v j),(Sl.v k),VI l])) P 79 #[(.agg #[e.v,f.v,VI g])] a0 L fun j k l aa=>
A0 aa [b] (Z2 [j.v,k.v,VI l] L) fun ab L=>
K (.tuple #[(.agg #[j.v,k.v,VI l]),(VS ({data:= #[119,104,97,116]}))]) ab)
(Br (!d)
(A1 i [] (fun a=>Z0 [VS c,VB d] ((a,[(VS (⟨#[]⟩:ByteArray)),VB false])::L)) fun a a0 L=>
C3 (fun o p q=>(.agg #[(Sl.v o),(Sl.v p),VI q])) P 79 #[(.agg #[e.v,f.v,VI g])] a0 L fun o p q ac=>
A0 ac [b] (Z2 [o.v,p.v,VI q] L) fun ad L=>
K (.tuple #[(.agg #[o.v,p.v,VI q]),(VS ({data:= #[110,111]}))]) ad)
(A1 i [b] (fun a=>Z2 [x.v,y.v,VI z] (Z0 [VS c,VB d] ((a,[(VS (⟨#[]⟩:ByteArray)),VB false])::L))) fun a ae L=>
K (.tuple #[(.agg #[x.v,y.v,VI z]),VS c]) ae)))
theorem v44(b:Sl)(c:Sl)(d:Int)(e:ByteArray)(h:Heap)(K:KQ)(H:u44 aB b c d e h K):aG aB 44 #[(.agg #[b.v,c.v,VI d]),VS e] h K:=cw mixed Tryz.func44 [] [.v (.a [.sl b,.sl c,.i .i64 d]),.v (.l (.s e))] [] [] .nil 35 (by kernel_rfl) H
def u46(P:Program)(b:ByteArray)(l:Int)(h:Heap)(K:KQ):Prop:=pk (
O3 aD 0 0 h fun o p(d:Sl)(e:Int)(a:Int) c=>
Vars c []->
Br (decide (a<(b.size:Int)))
(∃f:Sl->Int->Heap->Prop,(Q1 (fun g=>(.int .u8 g)) P (Instr.index 9 (VS b) (VI a)) fun g=>
Br (decide (g=l))
(Q1 VS P (Instr.sliceAt 9 (VS b) (some (VI e)) (some (VI a)) none) fun q=>
E1 Sl.v P (Instr.buildSlice 52 1 #[(0,(VS q))]) c [] fun r s=>
E1 Sl.v P (cD 52 52 52 d.v r.v) s [] fun t u=>
f t (aX (a+1)) u)
(f d e c))/\
∀(j:Sl)(k:Int)(i:Heap),f j k i->Vars i []->
Nj p fun m=>o m j k (aX (a+1)) i)
(Q1 VS P (Instr.sliceAt 9 (VS b) (some (VI e)) none none) fun x=>
E1 Sl.v P (Instr.buildSlice 52 1 #[(0,(VS x))]) c [] fun y z=>
E1 Sl.v P (cD 52 52 52 d.v y.v) z [] fun a0 a1=>
K a0.v a1))
theorem v46(a:ByteArray)(b:Int)(h:Heap)(K:KQ)(H:u46 aB a b h K):aG aB 46 #[VS a,(.int .u8 b)] h K:=cw mixed Tryz.func46 [(122,⟨[⟨5,.l .sl⟩,⟨6,.l (.i .i64)⟩,⟨7,.l (.i .i64)⟩],[],[]⟩),(489,⟨[⟨5,.l .sl⟩,⟨6,.l (.i .i64)⟩],[],[]⟩)] [.v (.l (.s a)),.v (.l (.i .u8 b))] [] [] .nil 34 (by kernel_rfl) H
def u47(P:Program)(d:Sl)(e:Sl)(f:Int)(a4:ByteArray)(h:Heap)(K:KQ):Prop:=pk (
A2 h [] (fun x i=>(i,[aD.v,aD.v,VI 0])::((x,[d.v,e.v,VI f])::[])) fun x i a5 L=>
aG P 84 #[(.agg #[d.v,e.v,VI f]),VS a4] a5 fun a6 k=>∃a:ByteArray,∃l:Sl,∃o:Sl,∃p:Int,∃q:Sl,∃r:Sl,∃y:Bool,a6=(.tuple #[VS a,(.agg #[l.v,o.v,VI p,q.v,r.v]),VB y])/\Va k L fun L=>
Br (!y)
(A1 k [i] (fun b=>Z1 [d.v,e.v,VI f] (Z0 [l.v,o.v,VI p,q.v,r.v] ((b,[aD.v,aD.v,VI 0,aD.v,aD.v])::L))) fun b a7 L=>
K (.tuple #[(.agg #[d.v,e.v,VI f]),(VS ({data:= #[119,104,97,116]}))]) a7)
(A1 k [] (fun b=>Z0 [l.v,o.v,VI p,q.v,r.v] ((b,[aD.v,aD.v,VI 0,aD.v,aD.v])::L)) fun b g L=>
∃c:Bool->Heap->Prop,(Br (a.toList==ByteArray.toList ({data:= #[103,114,97,112,104]}))
(c (a.toList==ByteArray.toList ({data:= #[103,114,97,112,104]})) g)
(Br (a.toList==ByteArray.toList ({data:= #[97,100,100]}))
(c (a.toList==ByteArray.toList ({data:= #[97,100,100]})) g)
(Br (a.toList==ByteArray.toList ({data:= #[97,116]}))
(c (a.toList==ByteArray.toList ({data:= #[97,116]})) g)
(Br (a.toList==ByteArray.toList ({data:= #[116,117,114,110]}))
(c (a.toList==ByteArray.toList ({data:= #[116,117,114,110]})) g)
(Br (a.toList==ByteArray.toList ({data:= #[115,116,101,112]}))
(c (a.toList==ByteArray.toList ({data:= #[115,116,101,112]})) g)
(c (a.toList==ByteArray.toList ({data:= #[114,117,110]})) g))))))/\
∀(z:Bool)(j:Heap),c z j->Vars j L->
Br z
(aG P 85 #[(VP b 0),VS a] j fun a8 a0=>∃s:Sl,∃t:Sl,∃u:Int,∃a9:Sl,∃aa:Sl,∃a1:ByteArray,a8=(VS a1)/\Va a0 (Z0 [s.v,t.v,VI u,a9.v,aa.v] L) fun L=>
A0 a0 [i] (Z1 [s.v,t.v,VI u] L) fun ab L=>
K (.tuple #[(.agg #[s.v,t.v,VI u]),VS a1]) ab)
(aG P 86 #[(VP b 0),VS a] j fun ac a2=>∃ad:Sl,∃ae:Sl,∃af:Int,∃ag:Sl,∃ah:Sl,∃a3:ByteArray,ac=(VS a3)/\Va a2 (Z0 [ad.v,ae.v,VI af,ag.v,ah.v] L) fun L=>
A0 a2 [i] (Z1 [d.v,e.v,VI f] L) fun ai L=>
K (.tuple #[(.agg #[d.v,e.v,VI f]),VS a3]) ai)))
theorem v47(c:Sl)(d:Sl)(e:Int)(f:ByteArray)(h:Heap)(K:KQ)(H:u47 aB c d e f h K):aG aB 47 #[(.agg #[c.v,d.v,VI e]),VS f] h K:=cw mixed Tryz.func47 [(122,⟨[⟨21,.l .b⟩],[],[]⟩)] [.v (.a [.sl c,.sl d,.i .i64 e]),.v (.l (.s f))] [] [] .nil 36 (by kernel_rfl) H
def u49(P:Program)(c:Sl)(d:Sl)(h:Heap)(K:KQ):Prop:=pk (
Br (!decide ((c.n:Int)=(d.n:Int)))
(K (VB false) h)
(O1 0 h fun e f(b:Int) a=>
Vars a []->
Br (decide (b<(c.n:Int)))
(G1 VI a c b 1 fun g=>
G1 VI a d b 1 fun i=>
Br (!decide (g=i))
(K (VB false) a)
(Nj f fun m=>e m (aX (b+1)) a))
(K (VB true) a)))
theorem v49(a:Sl)(b:Sl)(h:Heap)(K:KQ)(H:u49 aB a b h K):aG aB 49 #[a.v,b.v] h K:=cw mixed Tryz.func49 [(58,⟨[⟨13,.l (.i .i64)⟩],[],[]⟩)] [.v (.l (.sl a)),.v (.l (.sl b))] [] [] .nil 26 (by kernel_rfl) H
def u50(P:Program)(a:Sl)(h:Heap)(K:KQ):Prop:=pk (
A2 h [] (fun f c=>Z0 [(VI (a.n:Int))] ((c,[VI 0])::((f,[a.v])::[]))) fun f c l L=>
C1 VB P 52 #[(VI (a.n:Int)),VI 1,VI 8] l L fun o g=>
Br (!o)
(K (VB false) g)
(O2 0 (a.n:Int) g fun p q(d:Int)(r:Int) b=>
Vi b (Z0 [VI r] L) fun L=>
Br (decide (d<(a.n:Int)))
(G1 Sl.v b a d 1 fun i=>
Br (decide (5<(i.n:Int)))
(K (VB false) b)
(aG P 53 #[i.v,(Value.func (Fn.func 88) #[] #[(VP c 0)])] b fun s e=>∃j:Int,∃k:Bool,s=(VB k)/\Va e (Z0 [VI j] L) fun L=>
Br k
(K (VB false) e)
(Nj q fun m=>p m (aX (d+1)) j e)))
(K (VB true) b)))
theorem v50(b:Sl)(h:Heap)(K:KQ)(H:u50 aB b h K):aG aB 50 #[(.agg #[b.v])] h K:=cw mixed Tryz.func50 [(122,⟨[⟨15,.l (.i .i64)⟩],[1],[]⟩)] [.v (.a [.sl b])] [] [] .nil 28 (by kernel_rfl) H
def u51(P:Program)(b:Sl)(h:Heap)(K:KQ):Prop:=pk (
A1 h [] (fun d=>(d,[b.v])::[]) fun d f L=>
E1 Sl.v P (Instr.buildSlice 52 0 #[]) f L fun g i=>
O2 g 0 i fun j k(e:Sl)(c:Int) a=>
Vars a L->
Br (decide (c<(b.n:Int)))
(G1 Sl.v a b c 1 fun l=>
C1 VS P 89 #[l.v] a L fun o p=>
E1 Sl.v P (Instr.buildSlice 52 1 #[(0,(VS o))]) p L fun q r=>
E1 Sl.v P (cD 52 52 52 e.v q.v) r L fun s t=>
Nj k fun m=>j m s (aX (c+1)) t)
(C1 VS P 90 #[e.v,(VS ({data:= #[59]}))] a L fun u x=>
K (VS u) x))
theorem v51(b:Sl)(h:Heap)(K:KQ)(H:u51 aB b h K):aG aB 51 #[(.agg #[b.v])] h K:=cw mixed Tryz.func51 [(58,⟨[⟨3,.l .sl⟩,⟨10,.l (.i .i64)⟩],[],[]⟩)] [.v (.a [.sl b])] [] [] .nil 22 (by kernel_rfl) H
def u52(P:Program)(a:Int)(b:Int)(c:Int)(h:Heap)(K:KQ):Prop:=pk (
Br (decide (b<=a))
(K (VB (decide (a<=c))) h)
(K (VB false) h))
theorem v52(a:Int)(b:Int)(c:Int)(h:Heap)(K:KQ)(H:u52 aB a b c h K):aG aB 52 #[VI a,VI b,VI c] h K:=cw mixed Tryz.func52 [] [.v (.l (.i .i64 a)),.v (.l (.i .i64 b)),.v (.l (.i .i64 c))] [] [] .nil 15 (by kernel_rfl) H
def u53(P:Program)(a:Sl)(b:Value)(h:Heap)(K:KQ):Prop:=pk (
C1 VI P 91 #[a.v,b] h [] fun c d=>
K (VB (decide (0<=c))) d)
theorem v53(a:Sl)(b:Value)(h:Heap)(K:KQ)(H:u53 aB a b h K):aG aB 53 #[a.v,b] h K:=cw mixed Tryz.func53 [] [.v (.l (.sl a)),.v (.l (.r b))] [] [] .nil 9 (by kernel_rfl) H
def u55(P:Program)(b:Sl)(c:Int)(h:Heap)(K:KQ):Prop:=pk (
A1 h [] (fun d=>(d,[b.v,VI c])::[]) fun d f L=>
C1 VS P 92 #[VI c] f L fun a g=>
a.size+ByteArray.size ({data:= #[58]})<=9223372036854775807/\
C1 VS P 89 #[b.v] g L fun e i=>
ByteArray.size (a++({data:= #[58]}))+e.size<=9223372036854775807/\
K (VS ((a++({data:= #[58]}))++e)) i)
theorem v55(b:Sl)(c:Int)(h:Heap)(K:KQ)(H:u55 aB b c h K):aG aB 55 #[(.agg #[b.v,VI c])] h K:=cw mixed Tryz.func55 [] [.v (.a [.sl b,.i .i64 c])] [] [] .nil 11 (by kernel_rfl) H
def u66(P:Program)(a:Nat)(x:Sl)(y:Int)(z:Int)(h:Heap)(K:KQ):Prop:=pk (
Lt [(a,[x.v,VI y,(.int .u64 z)])] fun L=>
E1 Sl.v P (Instr.buildSlice 27 7 #[(0,(.int .i64 0)),(1,(.int .i64 1)),(2,(.int .i64 5)),(3,(.int .i64 10)),(4,(.int .i64 20)),(5,(.int .i64 50)),(6,(.int .i64 51))]) h L fun a0 a1=>
aG P 100 #[(VP a 0),a0.v] a1 fun a2 f=>∃g:Sl,∃i:Int,∃j:Int,∃k:Int,a2=(VI k)/\Va f (Z0 [g.v,VI i,(.int .u64 j)] L) fun L=>
O5 ({data:= #[]}) k g i j f fun a3 a4(b:ByteArray)(l:Int)(a5:Sl)(a6:Int)(a7:Int) d=>
Vi d (Z0 [a5.v,VI a6,(.int .u64 a7)] L) fun L=>
Br (decide (0<l))
(aG P 41 #[(VP a 0)] d fun a8 o=>∃p:Sl,∃q:Int,∃r:Int,∃c:ByteArray,a8=(VS c)/\Va o (Z0 [p.v,VI q,(.int .u64 r)] L) fun L=>
c.size+ByteArray.size ({data:= #[10]})<=9223372036854775807/\
b.size+ByteArray.size (c++({data:= #[10]}))<=9223372036854775807/\
Nj a4 fun m=>a3 m (b++(c++({data:= #[10]}))) (aX (l-1)) p q r o)
(aG P 40 #[(VP a 0),VI 12] d fun a9 e=>∃aa:Sl,∃ab:Int,∃ac:Int,∃s:Bool,a9=(VB s)/\Va e (Z0 [aa.v,VI ab,(.int .u64 ac)] L) fun L=>
Br s
(b.size+ByteArray.size ({data:= #[115,104,111,119]})<=9223372036854775807/\
aG P 101 #[(VP a 0),(VS (b++({data:= #[115,104,111,119]}))),(VS ({data:= #[48,49,50,59,44,45,32,120,10]}))] e fun ad t=>∃ae:Sl,∃af:Int,∃ag:Int,∃u:ByteArray,ad=(VS u)/\Va t (Z0 [ae.v,VI af,(.int .u64 ag)] L) fun L=>
K (VS u) t)
(K (VS b) e)))
theorem v66(a:Nat)(b:Sl)(c:Int)(d:Int)(h:Heap)(K:KQ)(hL:Vars h [(a,[b.v,VI c,(.int .u64 d)])])(H:u66 aB a b c d h K):aG aB 66 #[(VP a 0)] h K:=cw mixed Tryz.func66 [(58,⟨[⟨3,.l .s⟩,⟨4,.l (.i .i64)⟩],[0],[]⟩)] [.v (.l (.p 0 0))] [(0,[.sl b,.i .i64 c,.i .u64 d])] [a] hL 24 (by kernel_rfl) H
def u67(P:Program)(r:ByteArray)(h:Heap)(K:KQ):Prop:=pk (
A1 h [] (fun a=>(a,[aD.v,aD.v,VI 0])::[]) fun a a0 L=>
C3 (fun b c d=>(.agg #[(Sl.v b),(Sl.v c),VI d])) P 30 #[] a0 L fun b c d a1=>
E1 Sl.v P (Instr.buildSlice 52 0 #[]) a1 L fun u x=>
Br (r.toList==ByteArray.toList ({data:= #[]}))
(A1 x [a] (fun f=>Z1 [b.v,c.v,VI d] (Z0 [b.v,c.v,VI d] ((f,[aD.v,aD.v,VI 0])::L))) fun f a2 L=>
K (.tuple #[(.agg #[b.v,c.v,VI d]),u.v,VB true]) a2)
(A1 x [] (fun f=>Z0 [b.v,c.v,VI d] ((f,[aD.v,aD.v,VI 0])::L)) fun f a3 L=>
C1 Sl.v P 81 #[VS r,(VS ({data:= #[10]}))] a3 L fun e g=>
Br (decide (3000<(r.size:Int)))
(A0 g [a] (Z1 [aD.v,aD.v,VI 0] L) fun a4 L=>
K (.tuple #[(.agg #[aD.v,aD.v,VI 0]),aD.v,VB false]) a4)
(fq e (aX ((e.n:Int)-1))/\
H1 VS g (Sl.at e (aX ((e.n:Int)-1)) 1) fun a5=>
Br (!(a5.toList==ByteArray.toList ({data:= #[]})))
(A0 g [a] (Z1 [aD.v,aD.v,VI 0] L) fun a6 L=>
K (.tuple #[(.agg #[aD.v,aD.v,VI 0]),aD.v,VB false]) a6)
(Br (decide (50<(aX ((e.n:Int)-1))))
(A0 g [a] (Z1 [aD.v,aD.v,VI 0] L) fun a7 L=>
K (.tuple #[(.agg #[aD.v,aD.v,VI 0]),aD.v,VB false]) a7)
(Q1 Sl.v P (Instr.sliceAt 52 e.v none (some (VI (aX ((e.n:Int)-1)))) none) fun y=>
O5 u 0 b c d g fun a8 a9(z:Sl)(s:Int)(i:Sl)(j:Sl)(k:Int) l=>
Vi l (Z0 [i.v,j.v,VI k] L) fun L=>
Br (decide (s<(y.n:Int)))
(G1 VS l y s 1 fun aa=>
C4 (fun o p q t=>(.tuple #[(.agg #[(Sl.v o),(Sl.v p),VI q]),VS t])) P 44 #[(.agg #[i.v,j.v,VI k]),VS aa] l L fun o p q t ab=>
A0 ab [f] (Z0 [o.v,p.v,VI q] L) fun ac L=>
E1 Sl.v P (Instr.buildSlice 52 1 #[(0,(VS t))]) ac L fun ad ae=>
E1 Sl.v P (cD 52 52 52 z.v ad.v) ae L fun af ag=>
Nj a9 fun m=>a8 m af (aX (s+1)) o p q ag)
(A0 l [a] (Z1 [i.v,j.v,VI k] L) fun ah L=>
K (.tuple #[(.agg #[i.v,j.v,VI k]),z.v,VB true]) ah))))))
theorem v67(a:ByteArray)(h:Heap)(K:KQ)(H:u67 aB a h K):aG aB 67 #[VS a] h K:=cw mixed Tryz.func67 [(1018,⟨[⟨6,.l .sl⟩,⟨42,.l (.i .i64)⟩],[1],[]⟩)] [.v (.l (.s a))] [] [] .nil 59 (by kernel_rfl) H
def u68(P:Program)(t:ByteArray)(h:Heap)(K:KQ):Prop:=pk (
Br (decide (3000<(t.size:Int)))
(A1 h [] (fun a=>Z0 [aD.v,aD.v,VI 0] ((a,[aD.v,aD.v,VI 0])::[])) fun a z L=>
K (.tuple #[(.agg #[aD.v,aD.v,VI 0]),aD.v,VB false]) z)
(A1 h [] (fun a=>(a,[aD.v,aD.v,VI 0])::[]) fun a a0 L=>
C1 Sl.v P 46 #[VS t,(.int .u8 10)] a0 L fun b f=>
fq b (aX ((b.n:Int)-1))/\
H1 VS f (Sl.at b (aX ((b.n:Int)-1)) 1) fun a1=>
Br (!(a1.toList==ByteArray.toList ({data:= #[]})))
(A0 f [a] (Z0 [aD.v,aD.v,VI 0] L) fun a2 L=>
K (.tuple #[(.agg #[aD.v,aD.v,VI 0]),aD.v,VB false]) a2)
(Br (decide (50<(aX ((b.n:Int)-1))))
(A0 f [a] (Z0 [aD.v,aD.v,VI 0] L) fun a3 L=>
K (.tuple #[(.agg #[aD.v,aD.v,VI 0]),aD.v,VB false]) a3)
(C3 (fun g i j=>(.agg #[(Sl.v g),(Sl.v i),VI j])) P 102 #[] f L fun g i j a4=>
Q1 Sl.v P (Instr.sliceAt 52 b.v none (some (VI (aX ((b.n:Int)-1)))) none) fun u=>
A1 a4 [] (fun q=>Z0 [g.v,i.v,VI j] ((q,[aD.v,aD.v,VI 0])::L)) fun q a5 L=>
O5 aD 0 g i j a5 fun a6 a7(x:Sl)(r:Int)(k:Sl)(l:Sl)(o:Int) p=>
Vi p (Z0 [k.v,l.v,VI o] L) fun L=>
Br (decide (r<(u.n:Int)))
(G1 VS p u r 1 fun a8=>
C4 (fun c d e s=>(.tuple #[(.agg #[(Sl.v c),(Sl.v d),VI e]),VS s])) P 47 #[(.agg #[k.v,l.v,VI o]),VS a8] p L fun c d e s a9=>
A1 a9 [q] (fun y=>Z1 [c.v,d.v,VI e] (Z0 [c.v,d.v,VI e] ((y,[aD.v,aD.v,VI 0])::L))) fun y aa L=>
E1 Sl.v P (Instr.buildSlice 52 1 #[(0,(VS s))]) aa L fun ab ac=>
E1 Sl.v P (cD 52 52 52 x.v ab.v) ac L fun ad ae=>
Nj a7 fun m=>a6 m ad (aX (r+1)) c d e ae)
(A0 p [a] (Z1 [k.v,l.v,VI o] L) fun af L=>
K (.tuple #[(.agg #[k.v,l.v,VI o]),x.v,VB true]) af)))))
theorem v68(a:ByteArray)(h:Heap)(K:KQ)(H:u68 aB a h K):aG aB 68 #[VS a] h K:=cw mixed Tryz.func68 [(2042,⟨[⟨8,.l .sl⟩,⟨37,.l (.i .i64)⟩],[1],[]⟩)] [.v (.l (.s a))] [] [] .nil 55 (by kernel_rfl) H
def u69(P:Program)(a:Sl)(h:Heap)(K:KQ):Prop:=pk (
A2 h [] (fun c b=>(b,[aD.v,aD.v,VI 0])::((c,[a.v])::[])) fun c b e L=>
E1 Sl.v P (Instr.makeSlice 27 (VI (a.n:Int)) (VI (a.n:Int))) e L fun d f=>
A0 f [b] (Z0 [a.v,d.v,VI 0] L) fun g L=>
K (.agg #[a.v,d.v,VI 0]) g)
theorem v69(b:Sl)(h:Heap)(K:KQ)(H:u69 aB b h K):aG aB 69 #[(.agg #[b.v])] h K:=cw mixed Tryz.func69 [] [.v (.a [.sl b])] [] [] .nil 10 (by kernel_rfl) H
def u72(P:Program)(b:Nat)(x:Sl)(y:Int)(z:Int)(a:Int)(h:Heap)(K:KQ):Prop:=pk (
Lt [(b,[x.v,VI y,(.int .u64 z)])] fun L=>
Br (decide (a<=1))
(K (VI 0) h)
(aG P 105 #[(VP b 0)] h fun a0 c=>∃g:Sl,∃i:Int,∃j:Int,∃d:Int,a0=(VI d)/\Va c (Z0 [g.v,VI i,(.int .u64 j)] L) fun L=>
∃e:Int->Sl->Int->Int->Heap->Prop,(Br (decide (200<a))
(aG P 105 #[(VP b 0)] c fun a1 k=>∃l:Sl,∃o:Int,∃p:Int,∃q:Int,a1=(VI q)/\Va k (Z0 [l.v,VI o,(.int .u64 p)] L) fun L=>
e (aX ((aX (d*256))+q)) l o p k)
(e d g i j c))/\
∀(r:Int)(s:Sl)(t:Int)(u:Int)(f:Heap),e r s t u f->Vi f (Z0 [s.v,VI t,(.int .u64 u)] L) fun L=>
a≠0/\
K (VI (Int.tmod r a)) f))
theorem v72(a:Nat)(b:Sl)(c:Int)(d:Int)(e:Int)(h:Heap)(K:KQ)(hL:Vars h [(a,[b.v,VI c,(.int .u64 d)])])(H:u72 aB a b c d e h K):aG aB 72 #[(VP a 0),VI e] h K:=cw mixed Tryz.func72 [(15,⟨[⟨5,.l (.i .i64)⟩],[0],[]⟩)] [.v (.l (.p 0 0)),.v (.l (.i .i64 e))] [(0,[.sl b,.i .i64 c,.i .u64 d])] [a] hL 20 (by kernel_rfl) H
def u73(P:Program)(a:Int)(h:Heap)(K:KQ):Prop:=pk (
Br (decide (a<10))
(R1 (fun c=>(.int .u8 c)) P (convert 3 5 (VI (aX (48+a)))) h fun c=>
E1 Sl.v P (Instr.buildSlice 22 1 #[(0,(.int .u8 c))]) h [] fun q e=>
R1 VS P (convert 22 9 q.v) e fun r=>
K (VS r) e)
(R1 (fun b=>(.int .u8 b)) P (convert 3 5 (VI (aX (48+(Int.tmod a 10))))) h fun b=>
(C1 VS P 73 #[(VI (aX (Int.tdiv a 10)))] h [] fun f g=>
(∀w:World,w.heap=g->(convert 3 5 (VI (aX (48+(Int.tmod a 10))))).run P w= .ok (.int .u8 b) w)/\
E1 Sl.v P (Instr.buildSlice 22 1 #[(0,(.int .u8 b))]) g [] fun s i=>
R1 VS P (convert 22 9 s.v) i fun j=>
f.size+j.size<=9223372036854775807/\
K (VS (f++j)) i)/\
(E1 Sl.v P (Instr.buildSlice 22 1 #[(0,(.int .u8 b))]) h [] fun k l=>
R1 VS P (convert 22 9 k.v) l fun d=>
C1 VS P 73 #[(VI (aX (Int.tdiv a 10)))] l [] fun o p=>
(∀w:World,w.heap=p->(convert 22 9 k.v).run P w= .ok (VS d) w)/\
o.size+d.size<=9223372036854775807/\
K (VS (o++d)) p)))
theorem v73(a:Int)(h:Heap)(K:KQ)(H:u73 aB a h K):aG aB 73 #[VI a] h K:=cw mixed Tryz.func73 [] [.v (.l (.i .i64 a))] [] [] .nil 20 (by kernel_rfl) H
def u74(P:Program)(j:Sl)(h:Heap)(K:KQ):Prop:=pk (
A1 h [] (fun t=>(t,[j.v])::[]) fun t y L=>
O2 ({data:= #[]}) 0 y fun z a0(c:ByteArray)(d:Int) a=>
Vars a L->
Br (decide (d<(j.n:Int)))
(G1 Sl.v a j d 1 fun k=>
∃l:ByteArray->Heap->Prop,(Br (decide (0<d))
(c.size+ByteArray.size ({data:= #[59]})<=9223372036854775807/\
l (c++({data:= #[59]})) a)
(l c a))/\
∀(e:ByteArray)(f:Heap),l e f->Vars f L->
∃o:ByteArray->Heap->Prop,(Br (decide ((k.n:Int)=0))
(e.size+ByteArray.size ({data:= #[45]})<=9223372036854775807/\
o (e++({data:= #[45]})) f)
(o e f))/\
∀(u:ByteArray)(p:Heap),o u p->Vars p L->
O2 u 0 p fun a1 a2(g:ByteArray)(i:Int) b=>
Vars b L->
Br (decide (i<(k.n:Int)))
(G1 VI b k i 1 fun a3=>
∃q:ByteArray->Heap->Prop,(Br (decide (0<i))
(g.size+ByteArray.size ({data:= #[44]})<=9223372036854775807/\
q (g++({data:= #[44]})) b)
(q g b))/\
∀(r:ByteArray)(s:Heap),q r s->Vars s L->
C1 VS P 73 #[VI a3] s L fun x a4=>
r.size+x.size<=9223372036854775807/\
Nj a2 fun m=>a1 m (r++x) (aX (i+1)) a4)
(Nj a0 fun m=>z m g (aX (d+1)) b))
(K (VS c) a))
theorem v74(b:Sl)(h:Heap)(K:KQ)(H:u74 aB b h K):aG aB 74 #[(.agg #[b.v])] h K:=cw mixed Tryz.func74 [(58,⟨[⟨3,.l .s⟩,⟨11,.l (.i .i64)⟩],[],[]⟩),(3737,⟨[⟨3,.l .s⟩],[],[]⟩),(7475,⟨[⟨3,.l .s⟩],[],[]⟩),(59806,⟨[⟨3,.l .s⟩,⟨27,.l (.i .i64)⟩],[],[]⟩),(3827609,⟨[⟨3,.l .s⟩],[],[]⟩)] [.v (.a [.sl b])] [] [] .nil 43 (by kernel_rfl) H
def u75(P:Program)(b:Nat)(aq:Sl)(ar:Int)(au:Int)(av:Int)(h:Heap)(K:KQ):Prop:=pk (
Lt [(b,[aq.v,VI ar,(.int .u64 au)])] fun L=>
A1 h [] (fun e=>(e,[aD.v])::L) fun e aw L=>
aG P 72 #[(VP b 0),VI av] aw fun ax a0=>∃ay:Sl,∃az:Int,∃b0:Int,∃d:Int,ax=(VI d)/\Va a0 (Z1 [ay.v,VI az,(.int .u64 b0)] L) fun L=>
aG P 40 #[(VP b 0),VI 4] a0 fun b1 i=>∃a1:Sl,∃a2:Int,∃a3:Int,∃a4:Bool,b1=(VB a4)/\Va i (Z1 [a1.v,VI a2,(.int .u64 a3)] L) fun L=>
Br a4
(aG P 40 #[(VP b 0),VI 2] i fun b2 a5=>∃b3:Sl,∃b4:Int,∃b5:Int,∃a6:Bool,b2=(VB a6)/\Va a5 (Z1 [b3.v,VI b4,(.int .u64 b5)] L) fun L=>
C1 (fun f=>(.agg #[(Sl.v f)])) P 106 #[(VI (aX (1+d))),VB a6] a5 L fun f b6=>
A0 b6 [e] (Z0 [f.v] L) fun b7 L=>
K (.agg #[f.v]) b7)
(A1 i [] (fun j=>Z0 [aD.v] ((j,[aD.v])::L)) fun j b8 L=>
O5 0 aD a1 a2 a3 b8 fun b9 ba(a7:Int)(a:Sl)(bb:Sl)(bc:Int)(bd:Int) k=>
Vi k (Z2 [bb.v,VI bc,(.int .u64 bd)] (Z0 [a.v] L)) fun L=>
Br (decide (a7<(aX (1+d))))
(aG P 72 #[(VP b 0),VI 3] k fun be a8=>∃a9:Sl,∃aa:Int,∃ab:Int,∃ac:Int,be=(VI ac)/\Va a8 (Z2 [a9.v,VI aa,(.int .u64 ab)] L) fun L=>
O5 aD (aX (1+ac)) a9 aa ab a8 fun bf bg(ad:Sl)(ae:Int)(bh:Sl)(bi:Int)(bj:Int) l=>
Vi l (Z2 [bh.v,VI bi,(.int .u64 bj)] L) fun L=>
Br (decide (0<ae))
(aG P 72 #[(VP b 0),(VI (aX (1+d)))] l fun bk af=>∃ag:Sl,∃ah:Int,∃ai:Int,∃aj:Int,bk=(VI aj)/\Va af (Z2 [ag.v,VI ah,(.int .u64 ai)] L) fun L=>
E1 Sl.v P (Instr.buildSlice 27 1 #[(0,(VI aj))]) af L fun bl bm=>
E1 Sl.v P (cD 27 27 27 ad.v bl.v) bm L fun bn bo=>
Nj bg fun m=>bf m bn (aX (ae-1)) ag ah ai bo)
(∃o:Sl->Sl->Int->Int->Heap->Prop,(aG P 40 #[(VP b 0),VI 8] l fun bp p=>∃q:Sl,∃r:Int,∃s:Int,∃ak:Bool,bp=(VB ak)/\Va p (Z2 [q.v,VI r,(.int .u64 s)] L) fun L=>
Br ak
(o aD q r s p)
(o ad q r s p))/\
∀(al:Sl)(t:Sl)(u:Int)(x:Int)(y:Heap),o al t u x y->Vi y (Z2 [t.v,VI u,(.int .u64 x)] L) fun L=>
E1 Sl.v P (Instr.buildSlice 24 1 #[(0,al.v)]) y L fun bq br=>
E1 Sl.v P (cD 24 24 24 a.v bq.v) br L fun am bs=>
A0 bs [j] (Z0 [am.v] L) fun bt L=>
Nj ba fun m=>b9 m (aX (a7+1)) am t u x bt))
(aG P 40 #[(VP b 0),VI 2] k fun bu z=>∃bv:Sl,∃bw:Int,∃bx:Int,∃an:Bool,bu=(VB an)/\Va z (Z2 [bv.v,VI bw,(.int .u64 bx)] L) fun L=>
Br an
(O1 0 z fun bz c0(c:Int) g=>
Vars g L->
Br (decide (c<(a.n:Int)))
(G1 Sl.v g a c 1 fun ao=>
(aX (1+d))≠0/\
E1 Sl.v P (Instr.buildSlice 27 1 #[(0,(VI (Int.tmod (aX (c+1)) (aX (1+d)))))]) g L fun c1 ap=>
bG ap (Sl.at a c 1)=some ao.v/\
E1 Sl.v P (cD 27 27 27 ao.v c1.v) ap L fun c2 c3=>
fq a c/\
S1 c3 (Sl.at a c 1) c2.v L fun c4=>
Nj c0 fun m=>bz m (aX (c+1)) c4)
(A0 g [e] (Z1 [a.v] L) fun c5 L=>
K (.agg #[a.v]) c5))
(A0 z [e] (Z1 [a.v] L) fun c6 L=>
K (.agg #[a.v]) c6))))
theorem v75(a:Nat)(b:Sl)(c:Int)(d:Int)(e:Int)(h:Heap)(K:KQ)(hL:Vars h [(a,[b.v,VI c,(.int .u64 d)])])(H:u75 aB a b c d e h K):aG aB 75 #[(VP a 0),VI e] h K:=cw mixed Tryz.func75 [(250,⟨[⟨7,.l (.i .i64)⟩],[2,0],[]⟩),(2026,⟨[⟨53,.l (.i .i64)⟩],[],[]⟩),(16019,⟨[⟨8,.l .sl⟩],[0],[]⟩),(64074,⟨[⟨8,.l .sl⟩,⟨9,.l (.i .i64)⟩],[0],[]⟩)] [.v (.l (.p 0 0)),.v (.l (.i .i64 e))] [(0,[.sl b,.i .i64 c,.i .u64 d])] [a] hL 73 (by kernel_rfl) H
def u76(P:Program)(b:Nat)(e:Sl)(f:Int)(g:Int)(c:Sl)(h:Heap)(K:KQ):Prop:=pk (
Lt [(b,[e.v,VI f,(.int .u64 g)])] fun L=>
aG P 72 #[(VP b 0),(VI (c.n:Int))] h fun i a=>∃j:Sl,∃k:Int,∃l:Int,∃d:Int,i=(VI d)/\Va a (Z0 [j.v,VI k,(.int .u64 l)] L) fun L=>
G1 VS a c d 1 fun o=>
K (VS o) a)
theorem v76(a:Nat)(b:Sl)(c:Int)(d:Int)(e:Sl)(h:Heap)(K:KQ)(hL:Vars h [(a,[b.v,VI c,(.int .u64 d)])])(H:u76 aB a b c d e h K):aG aB 76 #[(VP a 0),e.v] h K:=cw mixed Tryz.func76 [] [.v (.l (.p 0 0)),.v (.l (.sl e))] [(0,[.sl b,.i .i64 c,.i .u64 d])] [a] hL 12 (by kernel_rfl) H
def u77(P:Program)(b:Sl)(c:Sl)(f:Int)(h:Heap)(K:KQ):Prop:=pk (
A2 h [] (fun g i=>(i,[c.v,VI f])::((g,[b.v])::[])) fun g i k L=>
E1 Sl.v P (Instr.buildSlice 27 1 #[(0,(VI f))]) k L fun l o=>
C1 VB P 107 #[(.agg #[b.v]),l.v] o L fun p e=>
Br (!p)
(K (VB false) e)
(Br (!decide ((c.n:Int)=(b.n:Int)))
(K (VB false) e)
(O1 0 e fun q r(d:Int) a=>
Vars a L->
Br (decide (d<(c.n:Int)))
(G1 VI a c d 1 fun s=>
G1 Sl.v a b d 1 fun t=>
Q1 VI P (Builtin.max_ #[3,3] 3 #[(VI (aX ((t.n:Int)-1))),(.int .i64 0)]) fun u=>
C1 VB P 52 #[VI s,VI 0,VI u] a L fun x j=>
Br (!x)
(K (VB false) j)
(Nj r fun m=>q m (aX (d+1)) j))
(K (VB true) a))))
theorem v77(b:Sl)(c:Sl)(d:Int)(h:Heap)(K:KQ)(H:u77 aB b c d h K):aG aB 77 #[(.agg #[b.v]),(.agg #[c.v,VI d])] h K:=cw mixed Tryz.func77 [(58,⟨[⟨25,.l (.i .i64)⟩],[],[]⟩)] [.v (.a [.sl b]),.v (.a [.sl c,.i .i64 d])] [] [] .nil 42 (by kernel_rfl) H
def u79(P:Program)(e:Sl)(f:Sl)(g:Int)(h:Heap)(K:KQ):Prop:=pk (
A2 h [] (fun i d=>(d,[aD.v,aD.v,VI 0])::((i,[e.v,f.v,VI g])::[])) fun i d j L=>
C1 (fun a=>(.agg #[(Sl.v a)])) P 109 #[(.agg #[e.v])] j L fun a k=>
C2 (fun b c=>(.agg #[(Sl.v b),VI c])) P 110 #[(.agg #[f.v,VI g])] k L fun b c l=>
A0 l [d] (Z0 [a.v,b.v,VI c] L) fun o L=>
K (.agg #[a.v,b.v,VI c]) o)
theorem v79(b:Sl)(c:Sl)(d:Int)(h:Heap)(K:KQ)(H:u79 aB b c d h K):aG aB 79 #[(.agg #[b.v,c.v,VI d])] h K:=cw mixed Tryz.func79 [] [.v (.a [.sl b,.sl c,.i .i64 d])] [] [] .nil 10 (by kernel_rfl) H
def u80(P:Program)(e:Nat)(au:Sl)(av:Sl)(aw:Int)(ax:Bool)(d:Sl)(h:Heap)(K:KQ):Prop:=pk (
Lt [(e,[au.v,av.v,VI aw,VB ax])] fun L=>
Br (decide ((d.n:Int)=2))
(fq d 0/\
A1 h [] (fun c=>(c,[(VS (⟨#[]⟩:ByteArray)),VB false])::L) fun c i L=>
H1 VS i (Sl.at d 0 1) fun ay=>
Br (ay.toList==ByteArray.toList ({data:= #[103,114,97,112,104]}))
(G1 VS i d 1 1 fun az=>
aG P 111 #[(VP e 0),VS az] i fun b0 ad=>∃b1:Sl,∃b2:Sl,∃b3:Int,∃b4:Bool,∃p:ByteArray,∃q:Bool,b0=(.agg #[VS p,VB q])/\Va ad (Z1 [b1.v,b2.v,VI b3,VB b4] L) fun L=>
A0 ad [c] (Z0 [VS p,VB q] L) fun b5 L=>
K (.agg #[VS p,VB q]) b5)
(Q1 Sl.v P (Instr.sliceAt 52 d.v (some (.int .i64 1)) none none) fun b6=>
aG P 112 #[(VP e 0),b6.v] i fun b7 a=>∃ae:Sl,∃af:Sl,∃ag:Int,∃ah:Bool,∃f:Sl,b7=f.v/\Va a (Z1 [ae.v,af.v,VI ag,VB ah] L) fun L=>
Br ah
(A0 a [c] (Z0 [(VS (⟨#[]⟩:ByteArray)),VB false] L) fun b8 L=>
K (.agg #[(VS (⟨#[]⟩:ByteArray)),VB false]) b8)
(∃r:Heap->Prop,(Br (decide ((f.n:Int)=0))
(G1 VS a d 0 1 fun b9=>
aG P 113 #[(VP e 0),VS b9] a fun ba ai=>∃bb:Sl,∃bc:Sl,∃bd:Int,∃be:Bool,∃s:ByteArray,∃t:Bool,ba=(.agg #[VS s,VB t])/\Va ai (Z1 [bb.v,bc.v,VI bd,VB be] L) fun L=>
A0 ai [c] (Z0 [VS s,VB t] L) fun bf L=>
K (.agg #[VS s,VB t]) bf)
(Br (decide ((f.n:Int)=1))
(G1 VS a d 0 1 fun bg=>
G1 VI a f 0 1 fun bh=>
aG P 114 #[(VP e 0),VS bg,VI bh] a fun bi aj=>∃bj:Sl,∃bk:Sl,∃bl:Int,∃bm:Bool,∃u:ByteArray,∃x:Bool,bi=(.agg #[VS u,VB x])/\Va aj (Z1 [bj.v,bk.v,VI bl,VB bm] L) fun L=>
A0 aj [c] (Z0 [VS u,VB x] L) fun bn L=>
K (.agg #[VS u,VB x]) bn)
(Br (decide ((f.n:Int)=2))
(G1 VS a d 0 1 fun bo=>
G1 VI a f 0 1 fun bp=>
G1 VI a f 1 1 fun bq=>
aG P 115 #[(VP e 0),VS bo,VI bp,VI bq] a fun br ak=>∃bs:Sl,∃bt:Sl,∃bu:Int,∃bv:Bool,∃y:ByteArray,∃z:Bool,br=(.agg #[VS y,VB z])/\Va ak (Z1 [bs.v,bt.v,VI bu,VB bv] L) fun L=>
A0 ak [c] (Z0 [VS y,VB z] L) fun bw L=>
K (.agg #[VS y,VB z]) bw)
(Br (decide ((f.n:Int)=4))
(G1 VS a d 0 1 fun bx=>
Br (bx.toList==ByteArray.toList ({data:= #[101,115,99,97,112,101,115]}))
(G1 VI a f 0 1 fun bz=>
G1 VI a f 1 1 fun c0=>
G1 VI a f 2 1 fun c1=>
G1 VI a f 3 1 fun c2=>
C2 (fun a0 a1=>(.tuple #[VI a0,VB a1])) P 117 #[VI bz,VI c0,VI c1,VI c2] a L fun a0 a1 c3=>
C2 (fun j k=>(.agg #[VS j,VB k])) P 116 #[VI a0,VB a1] c3 L fun j k c4=>
A0 c4 [c] (Z0 [VS j,VB k] L) fun c5 L=>
K (.agg #[VS j,VB k]) c5)
(r a))
(r a)))))/\
∀(a2:Heap),r a2->Vars a2 L->
A0 a2 [c,e] (Z0 [(VS (⟨#[]⟩:ByteArray)),VB false] (Z1 [ae.v,af.v,VI ag,VB true] L)) fun c6 L=>
K (.agg #[(VS (⟨#[]⟩:ByteArray)),VB false]) c6)))
(Q1 Sl.v P (Instr.sliceAt 52 d.v (some (.int .i64 1)) none none) fun c7=>
A1 h [] (fun c=>(c,[(VS (⟨#[]⟩:ByteArray)),VB false])::L) fun c i L=>
aG P 112 #[(VP e 0),c7.v] i fun c8 b=>∃al:Sl,∃am:Sl,∃an:Int,∃ao:Bool,∃g:Sl,c8=g.v/\Va b (Z1 [al.v,am.v,VI an,VB ao] L) fun L=>
Br ao
(A0 b [c] (Z0 [(VS (⟨#[]⟩:ByteArray)),VB false] L) fun c9 L=>
K (.agg #[(VS (⟨#[]⟩:ByteArray)),VB false]) c9)
(∃a3:Heap->Prop,(Br (decide ((g.n:Int)=0))
(G1 VS b d 0 1 fun ca=>
aG P 113 #[(VP e 0),VS ca] b fun cb ap=>∃cc:Sl,∃cd:Sl,∃ce:Int,∃cf:Bool,∃a4:ByteArray,∃a5:Bool,cb=(.agg #[VS a4,VB a5])/\Va ap (Z1 [cc.v,cd.v,VI ce,VB cf] L) fun L=>
A0 ap [c] (Z0 [VS a4,VB a5] L) fun cg L=>
K (.agg #[VS a4,VB a5]) cg)
(Br (decide ((g.n:Int)=1))
(G1 VS b d 0 1 fun ch=>
G1 VI b g 0 1 fun ci=>
aG P 114 #[(VP e 0),VS ch,VI ci] b fun cj aq=>∃ck:Sl,∃cl:Sl,∃cm:Int,∃cn:Bool,∃a6:ByteArray,∃a7:Bool,cj=(.agg #[VS a6,VB a7])/\Va aq (Z1 [ck.v,cl.v,VI cm,VB cn] L) fun L=>
A0 aq [c] (Z0 [VS a6,VB a7] L) fun co L=>
K (.agg #[VS a6,VB a7]) co)
(Br (decide ((g.n:Int)=2))
(G1 VS b d 0 1 fun cp=>
G1 VI b g 0 1 fun cq=>
G1 VI b g 1 1 fun cr=>
aG P 115 #[(VP e 0),VS cp,VI cq,VI cr] b fun cs ar=>∃ct:Sl,∃cu:Sl,∃cv:Int,∃cx:Bool,∃a8:ByteArray,∃a9:Bool,cs=(.agg #[VS a8,VB a9])/\Va ar (Z1 [ct.v,cu.v,VI cv,VB cx] L) fun L=>
A0 ar [c] (Z0 [VS a8,VB a9] L) fun cy L=>
K (.agg #[VS a8,VB a9]) cy)
(Br (decide ((g.n:Int)=4))
(G1 VS b d 0 1 fun cz=>
Br (cz.toList==ByteArray.toList ({data:= #[101,115,99,97,112,101,115]}))
(G1 VI b g 0 1 fun d0=>
G1 VI b g 1 1 fun d1=>
G1 VI b g 2 1 fun d2=>
G1 VI b g 3 1 fun d3=>
C2 (fun aa ab=>(.tuple #[VI aa,VB ab])) P 117 #[VI d0,VI d1,VI d2,VI d3] b L fun aa ab d4=>
C2 (fun l o=>(.agg #[VS l,VB o])) P 116 #[VI aa,VB ab] d4 L fun l o d5=>
A0 d5 [c] (Z0 [VS l,VB o] L) fun d6 L=>
K (.agg #[VS l,VB o]) d6)
(a3 b))
(a3 b)))))/\
∀(ac:Heap),a3 ac->Vars ac L->
A0 ac [c,e] (Z0 [(VS (⟨#[]⟩:ByteArray)),VB false] (Z1 [al.v,am.v,VI an,VB true] L)) fun d7 L=>
K (.agg #[(VS (⟨#[]⟩:ByteArray)),VB false]) d7)))
theorem v80(a:Nat)(c:Sl)(d:Sl)(e:Int)(f:Bool)(g:Sl)(h:Heap)(K:KQ)(hL:Vars h [(a,[c.v,d.v,VI e,VB f])])(H:u80 aB a c d e f g h K):aG aB 80 #[(VP a 0),g.v] h K:=cw mixed Tryz.func80 [(31,⟨[],[],[]⟩)] [.v (.l (.p 0 0)),.v (.l (.sl g))] [(0,[.sl c,.sl d,.i .i64 e,.b f none])] [a] hL 87 (by kernel_rfl) H
def u82(P:Program)(a:Sl)(h:Heap)(K:KQ):Prop:=pk (
A1 h [] (fun d=>(d,[a.v])::[]) fun d i L=>
C1 VB P 119 #[(VI (a.n:Int)),VI 1,VI 8] i L fun j e=>
Br (!j)
(K (VB false) e)
(O1 0 e fun k l(c:Int) b=>
Vars b L->
Br (decide (c<(a.n:Int)))
(G1 Sl.v b a c 1 fun f=>
Br (decide (5<(f.n:Int)))
(K (VB false) b)
(C1 VB P 120 #[f.v,VI 0,(VI (aX ((a.n:Int)-1)))] b L fun o g=>
Br (!o)
(K (VB false) g)
(Nj l fun m=>k m (aX (c+1)) g)))
(K (VB true) b)))
theorem v82(b:Sl)(h:Heap)(K:KQ)(H:u82 aB b h K):aG aB 82 #[(.agg #[b.v])] h K:=cw mixed Tryz.func82 [(122,⟨[⟨15,.l (.i .i64)⟩],[],[]⟩)] [.v (.a [.sl b])] [] [] .nil 30 (by kernel_rfl) H
def u83(P:Program)(a:Sl)(d:Sl)(f:Int)(h:Heap)(K:KQ):Prop:=pk (
A2 h [] (fun g i=>(i,[d.v,VI f])::((g,[a.v])::[])) fun g i o L=>
C1 VB P 121 #[(.agg #[a.v]),VI f] o L fun p e=>
Br (!p)
(K (VB false) e)
(Br (!decide ((d.n:Int)=(a.n:Int)))
(K (VB false) e)
(O1 0 e fun q r(b:Int) c=>
Vars c L->
Br (decide (b<(a.n:Int)))
(G1 Sl.v c a b 1 fun s=>
G1 VI c d b 1 fun j=>
C1 VI P 122 #[VI 0,(VI (aX ((s.n:Int)-1)))] c L fun t k=>
bG k (Sl.at d b 1)=some (VI j)/\
C1 VB P 119 #[VI j,VI 0,VI t] k L fun u l=>
Br (!u)
(K (VB false) l)
(Nj r fun m=>q m (aX (b+1)) l))
(K (VB true) c))))
theorem v83(b:Sl)(c:Sl)(d:Int)(h:Heap)(K:KQ)(H:u83 aB b c d h K):aG aB 83 #[(.agg #[b.v]),(.agg #[c.v,VI d])] h K:=cw mixed Tryz.func83 [(58,⟨[⟨24,.l (.i .i64)⟩],[],[]⟩)] [.v (.a [.sl b]),.v (.a [.sl c,.i .i64 d])] [] [] .nil 41 (by kernel_rfl) H
def u84(P:Program)(g:Sl)(i:Sl)(j:Int)(ab:ByteArray)(h:Heap)(K:KQ):Prop:=pk (
A3 h [] (fun a2 k s=>Z0 [g.v,i.v,VI j,aD.v,aD.v] ((s,[aD.v,aD.v,VI 0,aD.v,aD.v])::((k,[aD.v,aD.v,VI 0,aD.v,aD.v])::((a2,[g.v,i.v,VI j])::[])))) fun a2 k s ac L=>
C1 Sl.v P 46 #[VS ab,(.int .u8 32)] ac L fun t a3=>
G1 VS a3 t 0 1 fun ad=>
C1 VS P 123 #[VS ad] a3 L fun a4 a5=>
Br (!decide ((a4.size:Int)=(aX ((t.n:Int)-1))))
(A0 a5 [k] (Z1 [g.v,i.v,VI j,aD.v,aD.v] L) fun ae L=>
K (.tuple #[(VS ({data:= #[]})),(.agg #[g.v,i.v,VI j,aD.v,aD.v]),VB false]) ae)
(Q1 Sl.v P (Instr.sliceAt 52 t.v (some (.int .i64 1)) none none) fun a6=>
O6 0 g i j aD aD a5 fun af ag(u:Int)(a:Sl)(b:Sl)(c:Int)(f:Sl)(d:Sl) e=>
Vi e (Z0 [a.v,b.v,VI c,f.v,d.v] L) fun L=>
Br (decide (u<(a6.n:Int)))
(G1 VS e a6 u 1 fun a7=>
∃x:Bool->Sl->Sl->Int->Sl->Sl->Heap->Prop,(Q1 (fun y=>(.int .u8 y)) P (Instr.index 9 (VS a4) (VI u)) fun y=>
Br (decide (y=110))
(C1 VI P 124 #[VS a7] e L fun a8 ah=>
E1 Sl.v P (Instr.buildSlice 27 1 #[(0,(VI a8))]) ah L fun ai aj=>
E1 Sl.v P (cD 27 27 27 d.v ai.v) aj L fun a9 ak=>
A0 ak [s] (Z0 [a.v,b.v,VI c,f.v,a9.v] L) fun al L=>
x (decide (0<=a8)) a b c f a9 al)
(Br (decide (y=103))
(C2 (fun z a1=>(.tuple #[(.agg #[(Sl.v z)]),VB a1])) P 125 #[VS a7] e L fun z a1 am=>
A0 am [s] (Z0 [a.v,b.v,VI c,z.v,d.v] L) fun an L=>
x a1 a b c z d an)
(x false a b c f d e)))/\
∀(aa:Bool)(l:Sl)(o:Sl)(p:Int)(q:Sl)(r:Sl)(a0:Heap),x aa l o p q r a0->Vi a0 (Z0 [l.v,o.v,VI p,q.v,r.v] L) fun L=>
Br (!aa)
(A0 a0 [k] (Z1 [l.v,o.v,VI p,q.v,r.v] L) fun ao L=>
K (.tuple #[(VS ({data:= #[]})),(.agg #[l.v,o.v,VI p,q.v,r.v]),VB false]) ao)
(Nj ag fun m=>af m (aX (u+1)) l o p q r a0))
(G1 VS e t 0 1 fun ap=>
A0 e [k] (Z1 [a.v,b.v,VI c,f.v,d.v] L) fun aq L=>
K (.tuple #[VS ap,(.agg #[a.v,b.v,VI c,f.v,d.v]),VB true]) aq)))
theorem v84(c:Sl)(d:Sl)(e:Int)(f:ByteArray)(h:Heap)(K:KQ)(H:u84 aB c d e f h K):aG aB 84 #[(.agg #[c.v,d.v,VI e]),VS f] h K:=cw mixed Tryz.func84 [(506,⟨[⟨32,.l (.i .i64)⟩],[2],[]⟩),(64819,⟨[⟨12,.l .b⟩],[2],[]⟩)] [.v (.a [.sl c,.sl d,.i .i64 e]),.v (.l (.s f))] [] [] .nil 68 (by kernel_rfl) H
def u85(P:Program)(d:Nat)(k:Sl)(f:Sl)(g:Int)(e:Sl)(a:Sl)(l:ByteArray)(h:Heap)(K:KQ):Prop:=pk (
Lt [(d,[k.v,f.v,VI g,e.v,a.v])] fun L=>
∃a0:Nat->Sl->Nat->Sl->Int->Heap->Prop,((A1 h [] (fun p=>(p,[aD.v])::L) fun p av L=>
A1 av [] (fun q=>(q,[aD.v,VI 0])::L) fun q aw L=>
A0 aw [p] (Z1 [k.v] L) fun ax L=>
A0 ax [q] (Z0 [f.v,VI g] L) fun ay L=>
a0 p k q f g ay)/\
(A1 h [] (fun r=>(r,[aD.v,VI 0])::L) fun r az L=>
A1 az [] (fun s=>(s,[aD.v])::L) fun s b0 L=>
A0 b0 [s] (Z0 [k.v] L) fun b1 L=>
A0 b1 [r] (Z1 [f.v,VI g] L) fun b2 L=>
a0 s k r f g b2))/\
∀(ag:Nat)(c:Sl)(ah:Nat)(i:Sl)(o:Int)(b:Heap),a0 ag c ah i o b->Vi b ((ah,[i.v,VI o])::((ag,[c.v])::L)) fun L=>
Br (l.toList==ByteArray.toList ({data:= #[103,114,97,112,104]}))
(E1 Sl.v P (Instr.makeSlice 27 (VI (e.n:Int)) (VI (e.n:Int))) b L fun b3 b4=>
A0 b4 [d] (Z2 [e.v,b3.v,VI 0,e.v,a.v] L) fun b5 L=>
C1 VS P 74 #[(.agg #[e.v])] b5 L fun b6 b7=>
K (VS b6) b7)
(Br (l.toList==ByteArray.toList ({data:= #[97,100,100]}))
(∃a1:Bool->Nat->Sl->Heap->Prop,(G1 VI b a 0 1 fun a2=>
G1 VI b a 1 1 fun a3=>
(C2 (fun t a4=>(.tuple #[(.agg #[(Sl.v t)]),VB a4])) P 126 #[(.agg #[c.v]),VI a2,VI a3] b L fun t a4 b8=>
A1 b8 [] (fun a5=>Z0 [t.v] ((a5,[aD.v])::L)) fun a5 b9 L=>
a1 a4 a5 t b9)/\
(A1 b [] (fun u=>(u,[aD.v])::L) fun u a6 L=>
bG a6 (Sl.at a 1 1)=some (VI a3)/\
bG a6 (Sl.at a 0 1)=some (VI a2)/\
C2 (fun x a7=>(.tuple #[(.agg #[(Sl.v x)]),VB a7])) P 126 #[(.agg #[c.v]),VI a2,VI a3] a6 L fun x a7 ba=>
A0 ba [u] (Z0 [x.v] L) fun bb L=>
a1 a7 u x bb))/\
∀(ai:Bool)(aj:Nat)(y:Sl)(z:Heap),a1 ai aj y z->Vi z ((aj,[y.v])::L) fun L=>
Br (!ai)
(K (VS ({data:= #[110,111]})) z)
(A0 z [d] (Z3 [y.v,f.v,VI g,e.v,a.v] L) fun bc L=>
C1 VS P 74 #[(.agg #[y.v])] bc L fun bd be=>
K (VS bd) be))
(Br (l.toList==ByteArray.toList ({data:= #[97,116]}))
(G1 VI b a 0 1 fun bf=>
aG P 127 #[(VP d 0),(.agg #[i.v,VI bf]),VB true] b fun bg ak=>∃bh:Sl,∃bi:Sl,∃bj:Int,∃bk:Sl,∃bl:Sl,∃al:ByteArray,bg=(VS al)/\Va ak (Z2 [bh.v,bi.v,VI bj,bk.v,bl.v] L) fun L=>
K (VS al) ak)
(Br (l.toList==ByteArray.toList ({data:= #[116,117,114,110]}))
(G1 VI b a 0 1 fun bm=>
C1 VB P 121 #[(.agg #[c.v]),VI bm] b L fun bn j=>
Br (!bn)
(K (VS ({data:= #[110,111]})) j)
(G1 VI j a 1 1 fun bo=>
G1 VI j a 0 1 fun bp=>
G1 Sl.v j c bp 1 fun bq=>
Br (decide ((bq.n:Int)<=bo))
(K (VS ({data:= #[110,111]})) j)
(C1 Sl.v P 87 #[i.v] j L fun a8 a9=>
G1 VI a9 a 0 1 fun am=>
G1 VI a9 a 1 1 fun br=>
fq a8 am/\
S1 a9 (Sl.at a8 am 1) (VI br) L fun bs=>
aG P 127 #[(VP d 0),(.agg #[a8.v,VI o]),VB true] bs fun bt an=>∃bu:Sl,∃bv:Sl,∃bw:Int,∃bx:Sl,∃bz:Sl,∃ao:ByteArray,bt=(VS ao)/\Va an (Z2 [bu.v,bv.v,VI bw,bx.v,bz.v] L) fun L=>
K (VS ao) an)))
(Br (l.toList==ByteArray.toList ({data:= #[115,116,101,112]}))
(C3 (fun aa ab ac=>(.tuple #[(.agg #[(Sl.v aa),VI ab]),VB ac])) P 128 #[(.agg #[c.v]),(.agg #[i.v,VI o])] b L fun aa ab ac c0=>
aG P 127 #[(VP d 0),(.agg #[aa.v,VI ab]),VB ac] c0 fun c1 ap=>∃c2:Sl,∃c3:Sl,∃c4:Int,∃c5:Sl,∃c6:Sl,∃aq:ByteArray,c1=(VS aq)/\Va ap (Z2 [c2.v,c3.v,VI c4,c5.v,c6.v] L) fun L=>
K (VS aq) ap)
(G1 VI b a 0 1 fun c7=>
C3 (fun ad ae af=>(.tuple #[(.agg #[(Sl.v ad),VI ae]),VB af])) P 129 #[(.agg #[c.v]),(.agg #[i.v,VI o]),VI c7] b L fun ad ae af c8=>
aG P 127 #[(VP d 0),(.agg #[ad.v,VI ae]),VB af] c8 fun c9 ar=>∃ca:Sl,∃cb:Sl,∃cc:Int,∃cd:Sl,∃ce:Sl,∃au:ByteArray,c9=(VS au)/\Va ar (Z2 [ca.v,cb.v,VI cc,cd.v,ce.v] L) fun L=>
K (VS au) ar))))))
theorem v85(a:Nat)(c:Sl)(d:Sl)(e:Int)(f:Sl)(g:Sl)(j:ByteArray)(h:Heap)(K:KQ)(hL:Vars h [(a,[c.v,d.v,VI e,f.v,g.v])])(H:u85 aB a c d e f g j h K):aG aB 85 #[(VP a 0),VS j] h K:=cw mixed Tryz.func85 [(3,⟨[],[],[(5,[.sl]),(6,[.sl,.i .i64])]⟩),(942,⟨[⟨8,.l .b⟩],[],[(7,[.sl])]⟩)] [.v (.l (.p 0 0)),.v (.l (.s j))] [(0,[.sl c,.sl d,.i .i64 e,.sl f,.sl g])] [a] hL 161 (by kernel_rfl) H
def u86(P:Program)(az:Nat)(g:Sl)(i:Sl)(j:Int)(b0:Sl)(b:Sl)(d:ByteArray)(h:Heap)(K:KQ):Prop:=pk (
Lt [(az,[g.v,i.v,VI j,b0.v,b.v])] fun L=>
∃y:Nat->Sl->Nat->Sl->Int->Heap->Prop,((A1 h [] (fun k=>(k,[aD.v])::L) fun k b1 L=>
A1 b1 [] (fun l=>(l,[aD.v,VI 0])::L) fun l b2 L=>
A0 b2 [k] (Z1 [g.v] L) fun b3 L=>
A0 b3 [l] (Z0 [i.v,VI j] L) fun b4 L=>
y k g l i j b4)/\
(A1 h [] (fun o=>(o,[aD.v,VI 0])::L) fun o b5 L=>
A1 b5 [] (fun p=>(p,[aD.v])::L) fun p b6 L=>
A0 b6 [p] (Z0 [g.v] L) fun b7 L=>
A0 b7 [o] (Z1 [i.v,VI j] L) fun b8 L=>
y p g o i j b8))/\
∀(au:Nat)(c:Sl)(av:Nat)(f:Sl)(e:Int)(a:Heap),y au c av f e a->Vi a ((av,[f.v,VI e])::((au,[c.v])::L)) fun L=>
Br (d.toList==ByteArray.toList ({data:= #[115,104,111,119]}))
(C1 VS P 74 #[(.agg #[c.v])] a L fun b9 ba=>
K (VS b9) ba)
(Br (d.toList==ByteArray.toList ({data:= #[119,97,108,107]}))
(C1 VS P 130 #[(.agg #[f.v,VI e])] a L fun bb bc=>
K (VS bb) bc)
(Br (d.toList==ByteArray.toList ({data:= #[112,97,115,115]}))
(G1 VI a b 0 1 fun bd=>
C2 (fun z a0=>(.tuple #[(Sl.v z),VB a0])) P 132 #[(.agg #[c.v]),(.agg #[f.v,VI e]),VI bd] a L fun z a0 be=>
C1 VS P 131 #[z.v,VB a0] be L fun bf bg=>
K (VS bf) bg)
(Br (d.toList==ByteArray.toList ({data:= #[118,105,115,105,116,115]}))
(G1 VI a b 0 1 fun bh=>
C2 (fun a1 a2=>(.tuple #[(Sl.v a1),VB a2])) P 133 #[(.agg #[c.v]),(.agg #[f.v,VI e]),VI bh] a L fun a1 a2 bi=>
C1 VS P 131 #[a1.v,VB a2] bi L fun bj bk=>
K (VS bj) bk)
(Br (d.toList==ByteArray.toList ({data:= #[104,105,116]}))
(G1 VI a b 0 1 fun bl=>
C2 (fun a3 a4=>(.tuple #[VI a3,VB a4])) P 135 #[(.agg #[c.v]),(.agg #[f.v,VI e]),VI bl] a L fun a3 a4 bm=>
C1 VS P 134 #[VI a3,VB a4] bm L fun bn bo=>
K (VS bn) bo)
(Br (d.toList==ByteArray.toList ({data:= #[112,101,114,105,111,100]}))
(C3 (fun a5 a6 a7=>(.tuple #[VI a5,VI a6,VB a7])) P 136 #[(.agg #[c.v]),(.agg #[f.v,VI e])] a L fun a5 a6 a7 bp=>
E1 Sl.v P (Instr.buildSlice 27 2 #[(0,(VI a5)),(1,(VI a6))]) bp L fun bq br=>
C1 VS P 131 #[bq.v,VB a7] br L fun bs bt=>
K (VS bs) bt)
(Br (d.toList==ByteArray.toList ({data:= #[116,114,101,101,115]}))
(G1 VI a b 0 1 fun bu=>
C2 (fun a8 a9=>(.tuple #[VI a8,VB a9])) P 137 #[(.agg #[c.v]),VI bu] a L fun a8 a9 bv=>
C1 VS P 134 #[VI a8,VB a9] bv L fun bw bx=>
K (VS bw) bx)
(Br (d.toList==ByteArray.toList ({data:= #[99,121,99,108,101]}))
(C2 (fun aa ab=>(.tuple #[(Sl.v aa),VB ab])) P 138 #[(.agg #[c.v]),(.agg #[f.v,VI e])] a L fun aa ab bz=>
C1 VS P 131 #[aa.v,VB ab] bz L fun c0 c1=>
K (VS c0) c1)
(Br (d.toList==ByteArray.toList ({data:= #[99,104,97,110,99,101]}))
(∃ac:Bool->Nat->Int->Int->Heap->Prop,(G1 VI a b 0 1 fun ad=>
G1 VI a b 1 1 fun ae=>
(C3 (fun q r af=>(.tuple #[(.agg #[VI q,VI r]),VB af])) P 139 #[(.agg #[c.v]),VI e,VI ad,VI ae] a L fun q r af c2=>
A1 c2 [] (fun ag=>Z0 [VI q,VI r] ((ag,[VI 0,VI 0])::L)) fun ag c3 L=>
ac af ag q r c3)/\
(A1 a [] (fun s=>(s,[VI 0,VI 0])::L) fun s ah L=>
bG ah (Sl.at b 1 1)=some (VI ae)/\
bG ah (Sl.at b 0 1)=some (VI ad)/\
C3 (fun t u ai=>(.tuple #[(.agg #[VI t,VI u]),VB ai])) P 139 #[(.agg #[c.v]),VI e,VI ad,VI ae] ah L fun t u ai c4=>
A0 c4 [s] (Z0 [VI t,VI u] L) fun c5 L=>
ac ai s t u c5))/\
∀(aw:Bool)(ax:Nat)(aj:Int)(ak:Int)(x:Heap),ac aw ax aj ak x->Vi x ((ax,[VI aj,VI ak])::L) fun L=>
Br (!aw)
(K (VS ({data:= #[110,111]})) x)
(C1 VS P 73 #[VI aj] x L fun al c6=>
al.size+ByteArray.size ({data:= #[47]})<=9223372036854775807/\
C1 VS P 73 #[VI ak] c6 L fun ay c7=>
ByteArray.size (al++({data:= #[47]}))+ay.size<=9223372036854775807/\
K (VS ((al++({data:= #[47]}))++ay)) c7))
(Br (d.toList==ByteArray.toList ({data:= #[102,117,108,108]}))
(G1 VI a b 0 1 fun c8=>
C2 (fun am an=>(.tuple #[(Sl.v am),VB an])) P 140 #[(.agg #[c.v]),VI c8] a L fun am an c9=>
C1 VS P 131 #[am.v,VB an] c9 L fun ca cb=>
K (VS ca) cb)
(Br (d.toList==ByteArray.toList ({data:= #[101,115,99,97,112,101,115]}))
(G1 VI a b 0 1 fun cc=>
G1 VI a b 1 1 fun cd=>
G1 VI a b 2 1 fun ce=>
G1 VI a b 3 1 fun cf=>
C2 (fun ao ap=>(.tuple #[VI ao,VB ap])) P 141 #[VI cc,VI cd,VI ce,VI cf] a L fun ao ap cg=>
C1 VS P 134 #[VI ao,VB ap] cg L fun ch ci=>
K (VS ch) ci)
(G1 VI a b 0 1 fun cj=>
G1 VI a b 1 1 fun ck=>
C2 (fun aq ar=>(.tuple #[(Sl.v aq),VB ar])) P 142 #[VI cj,VI ck] a L fun aq ar cl=>
C1 VS P 131 #[aq.v,VB ar] cl L fun cm cn=>
K (VS cm) cn))))))))))))
theorem v86(a:Nat)(c:Sl)(d:Sl)(e:Int)(f:Sl)(g:Sl)(j:ByteArray)(h:Heap)(K:KQ)(hL:Vars h [(a,[c.v,d.v,VI e,f.v,g.v])])(H:u86 aB a c d e f g j h K):aG aB 86 #[(VP a 0),VS j] h K:=cw mixed Tryz.func86 [(3,⟨[],[],[(5,[.sl]),(6,[.sl,.i .i64])]⟩),(15466494,⟨[⟨11,.l .b⟩],[],[(10,[.i .i64,.i .i64])]⟩)] [.v (.l (.p 0 0)),.v (.l (.s j))] [(0,[.sl c,.sl d,.i .i64 e,.sl f,.sl g])] [a] hL 198 (by kernel_rfl) H
def u87(P:Program)(a:Sl)(h:Heap)(K:KQ):Prop:=pk (
E1 Sl.v P (Instr.buildSlice 27 0 #[]) h [] fun b c=>
E1 Sl.v P (cD 27 27 27 b.v a.v) c [] fun d e=>
K d.v e)
theorem v87(a:Sl)(h:Heap)(K:KQ)(H:u87 aB a h K):aG aB 87 #[a.v] h K:=cw mixed Tryz.func87 [] [.v (.l (.sl a))] [] [] .nil 6 (by kernel_rfl) H
def u88(P:Program)(b:Int)(c:Nat)(a:Int)(h:Heap)(K:KQ):Prop:=pk (
Lt [(c,[VI a])] fun L=>
C1 VB P 52 #[VI b,VI 0,(VI (aX (a-1)))] h L fun d e=>
K (VB (!d)) e)
theorem v88(b:Int)(a:Nat)(c:Int)(h:Heap)(K:KQ)(hL:Vars h [(a,[VI c])])(H:u88 aB b a c h K):aG aB 88 #[VI b,(VP a 0)] h K:=cw mixed Tryz.func88 [] [.v (.l (.i .i64 b)),.v (.l (.p 0 0))] [(0,[.i .i64 c])] [a] hL 9 (by kernel_rfl) H
def u89(P:Program)(b:Sl)(h:Heap)(K:KQ):Prop:=pk (
Br (decide ((b.n:Int)=0))
(K (VS ({data:= #[45]})) h)
(E1 Sl.v P (Instr.buildSlice 52 0 #[]) h [] fun e f=>
O2 e 0 f fun g i(d:Sl)(c:Int) a=>
Vars a []->
Br (decide (c<(b.n:Int)))
(G1 VI a b c 1 fun j=>
C1 VS P 92 #[VI j] a [] fun k l=>
E1 Sl.v P (Instr.buildSlice 52 1 #[(0,(VS k))]) l [] fun o p=>
E1 Sl.v P (cD 52 52 52 d.v o.v) p [] fun q r=>
Nj i fun m=>g m q (aX (c+1)) r)
(C1 VS P 90 #[d.v,(VS ({data:= #[44]}))] a [] fun s t=>
K (VS s) t)))
theorem v89(a:Sl)(h:Heap)(K:KQ)(H:u89 aB a h K):aG aB 89 #[a.v] h K:=cw mixed Tryz.func89 [(122,⟨[⟨3,.l .sl⟩,⟨12,.l (.i .i64)⟩],[],[]⟩)] [.v (.l (.sl a))] [] [] .nil 24 (by kernel_rfl) H
def u91(P:Program)(d:Sl)(f:Value)(h:Heap)(K:KQ):Prop:=pk (
O1 0 h fun g i(a:Int) b=>
Vars b []->
Br (decide (a<(d.n:Int)))
(G1 VI b d a 1 fun j=>
iW P f [VI j] b fun k c=>∃e:Bool,k=(VB e)/\Va c [] fun L=>
Br e
(K (VI a) c)
(Nj i fun m=>g m (aX (a+1)) c))
(K (VI (-1)) b))
theorem v91(a:Sl)(b:Value)(h:Heap)(K:KQ)(H:u91 aB a b h K):aG aB 91 #[a.v,b] h K:=cw mixed Tryz.func91 [(26,⟨[⟨8,.l (.i .i64)⟩],[],[]⟩)] [.v (.l (.sl a)),.v (.l (.r b))] [] [] .nil 19 (by kernel_rfl) H
def aij(P:Program)(b:Nat)(e:Sl)(f:Int)(g:Int)(c:Sl)(h:Heap)(K:KQ):Prop:=pk (
Lt [(b,[e.v,VI f,(.int .u64 g)])] fun L=>
aG P 72 #[(VP b 0),(VI (c.n:Int))] h fun i a=>∃j:Sl,∃k:Int,∃l:Int,∃d:Int,i=(VI d)/\Va a (Z0 [j.v,VI k,(.int .u64 l)] L) fun L=>
G1 VI a c d 1 fun o=>
K (VI o) a)
theorem aik(a:Nat)(b:Sl)(c:Int)(d:Int)(e:Sl)(h:Heap)(K:KQ)(hL:Vars h [(a,[b.v,VI c,(.int .u64 d)])])(H:aij aB a b c d e h K):aG aB 100 #[(VP a 0),e.v] h K:=cw mixed Tryz.func100 [] [.v (.l (.p 0 0)),.v (.l (.sl e))] [(0,[.sl b,.i .i64 c,.i .u64 d])] [a] hL 12 (by kernel_rfl) H
def ail(P:Program)(d:Nat)(ad:Sl)(ae:Int)(af:Int)(ag:ByteArray)(x:ByteArray)(h:Heap)(K:KQ):Prop:=pk (
Lt [(d,[ad.v,VI ae,(.int .u64 af)])] fun L=>
aG P 72 #[(VP d 0),VI 2] h fun ah y=>∃z:Sl,∃a0:Int,∃a1:Int,∃a2:Int,ah=(VI a2)/\Va y (Z0 [z.v,VI a0,(.int .u64 a1)] L) fun L=>
O5 ag (aX (1+a2)) z a0 a1 y fun ai aj(a:ByteArray)(a3:Int)(ak:Sl)(al:Int)(am:Int) e=>
Vi e (Z0 [ak.v,VI al,(.int .u64 am)] L) fun L=>
Br (decide (0<a3))
(Br (decide (0<(a.size:Int)))
(∃f:ByteArray->Sl->Int->Int->Heap->Prop,(aG P 72 #[(VP d 0),(VI (a.size:Int))] e fun an a4=>∃ao:Sl,∃ap:Int,∃aq:Int,∃b:Int,an=(VI b)/\Va a4 (Z0 [ao.v,VI ap,(.int .u64 aq)] L) fun L=>
aG P 72 #[(VP d 0),(VI (x.size:Int))] a4 fun ar a5=>∃au:Sl,∃av:Int,∃aw:Int,∃a6:Int,ar=(VI a6)/\Va a5 (Z0 [au.v,VI av,(.int .u64 aw)] L) fun L=>
Q1 (fun l=>(.int .u8 l)) P (Instr.index 9 (VS x) (VI a6)) fun l=>
E1 Sl.v P (Instr.buildSlice 22 1 #[(0,(.int .u8 l))]) a5 L fun ax a7=>
R1 VS P (convert 22 9 ax.v) a7 fun c=>
aG P 72 #[(VP d 0),VI 3] a7 fun ay g=>∃i:Sl,∃j:Int,∃k:Int,∃o:Int,ay=(VI o)/\Va g (Z0 [i.v,VI j,(.int .u64 k)] L) fun L=>
Br (decide (o=0))
(Q1 VS P (Instr.sliceAt 9 (VS a) none (some (VI b)) none) fun p=>
p.size+c.size<=9223372036854775807/\
Q1 VS P (Instr.sliceAt 9 (VS a) (some (VI b)) none none) fun a8=>
ByteArray.size (p++c)+a8.size<=9223372036854775807/\
f ((p++c)++a8) i j k g)
(Br (decide (o=1))
(Q1 VS P (Instr.sliceAt 9 (VS a) none (some (VI b)) none) fun q=>
q.size+c.size<=9223372036854775807/\
Q1 VS P (Instr.sliceAt 9 (VS a) (some (VI (aX (b+1)))) none none) fun a9=>
ByteArray.size (q++c)+a9.size<=9223372036854775807/\
f ((q++c)++a9) i j k g)
(Q1 VS P (Instr.sliceAt 9 (VS a) none (some (VI b)) none) fun aa=>
Q1 VS P (Instr.sliceAt 9 (VS a) (some (VI (aX (b+1)))) none none) fun ab=>
aa.size+ab.size<=9223372036854775807/\
f (aa++ab) i j k g)))/\
∀(ac:ByteArray)(r:Sl)(s:Int)(t:Int)(u:Heap),f ac r s t u->Vi u (Z0 [r.v,VI s,(.int .u64 t)] L) fun L=>
Nj aj fun m=>ai m ac (aX (a3-1)) r s t u)
(K (VS a) e))
(K (VS a) e))
theorem aim(a:Nat)(b:Sl)(c:Int)(d:Int)(e:ByteArray)(f:ByteArray)(h:Heap)(K:KQ)(hL:Vars h [(a,[b.v,VI c,(.int .u64 d)])])(H:ail aB a b c d e f h K):aG aB 101 #[(VP a 0),VS e,VS f] h K:=cw mixed Tryz.func101 [(26,⟨[⟨1,.l .s⟩,⟨7,.l (.i .i64)⟩],[0],[]⟩),(105,⟨[⟨1,.l .s⟩],[0],[]⟩)] [.v (.l (.p 0 0)),.v (.l (.s e)),.v (.l (.s f))] [(0,[.sl b,.i .i64 c,.i .u64 d])] [a] hL 68 (by kernel_rfl) H
def ain(P:Program)(h:Heap)(K:KQ):Prop:=pk (
A1 h [] (fun a=>(a,[aD.v,aD.v,VI 0])::[]) fun a d L=>
E1 Sl.v P (Instr.buildSlice 27 2 #[(0,(.int .i64 1)),(1,(.int .i64 2))]) d L fun e f=>
E1 Sl.v P (Instr.buildSlice 27 2 #[(0,(.int .i64 0)),(1,(.int .i64 2))]) f L fun g i=>
E1 Sl.v P (Instr.buildSlice 27 1 #[(0,(.int .i64 0))]) i L fun j k=>
E1 Sl.v P (Instr.buildSlice 24 3 #[(0,e.v),(1,g.v),(2,j.v)]) k L fun b l=>
E1 Sl.v P (Instr.buildSlice 27 3 #[(0,(.int .i64 0)),(1,(.int .i64 0)),(2,(.int .i64 0))]) l L fun c o=>
A0 o [a] (Z0 [b.v,c.v,VI 0] L) fun p L=>
K (.agg #[b.v,c.v,VI 0]) p)
theorem aio(h:Heap)(K:KQ)(H:ain aB h K):aG aB 102 #[] h K:=cw mixed Tryz.func102 [] [] [] [] .nil 9 (by kernel_rfl) H
def aip(P:Program)(e:Nat)(a:Sl)(b:Int)(c:Int)(h:Heap)(K:KQ):Prop:=pk (
Lt [(e,[a.v,VI b,(.int .u64 c)])] fun L=>
∃g:Int->Heap->Prop,(Br (decide (b<(a.n:Int)))
(fq a b/\
H1 (fun i=>(.int .u8 i)) h (Sl.at a b 1) fun i=>
R1 VI P (convert 5 3 (.int .u8 i)) h fun q=>
g q h)
(g 0 h))/\
∀(j:Int)(k:Heap),g j k->Vars k L->
A0 k [e] (Z0 [a.v,(VI (aX (b+1))),(.int .u64 c)] L) fun l L=>
R1 (fun d=>(.int .u64 d)) P (convert 3 66 (VI j)) l fun d=>
Br (decide ((aX (b+1))<=(a.n:Int)))
(A0 l [e] (Z0 [a.v,(VI (aX (b+1))),(.int .u64 (IntKind.wrap .u64 ((IntKind.wrap .u64 ((IntKind.wrap .u64 (c*6364136223846793005))+d))+1442695040888963407)))] L) fun f L=>
K (VI j) f)
(Q1 (fun o=>(.int .u64 o)) P (jm .shr 66 (.int .u64 (IntKind.wrap .u64 ((IntKind.wrap .u64 ((IntKind.wrap .u64 (c*6364136223846793005))+d))+1442695040888963407))) (.int IntKind.u64 40)) fun o=>
Q1 (fun p=>(.int .u64 p)) P (jm .and 66 (.int .u64 o) (.int IntKind.u64 255)) fun p=>
A0 l [e] (Z0 [a.v,(VI (aX (b+1))),(.int .u64 (IntKind.wrap .u64 ((IntKind.wrap .u64 ((IntKind.wrap .u64 (c*6364136223846793005))+d))+1442695040888963407)))] L) fun f L=>
R1 VI P (convert 66 3 (.int .u64 p)) f fun r=>
K (VI r) f))
theorem v105(a:Nat)(b:Sl)(c:Int)(d:Int)(h:Heap)(K:KQ)(hL:Vars h [(a,[b.v,VI c,(.int .u64 d)])])(H:aip aB a b c d h K):aG aB 105 #[(VP a 0)] h K:=cw mixed Tryz.func105 [(7,⟨[⟨3,.l (.i .i64)⟩],[],[]⟩)] [.v (.l (.p 0 0))] [(0,[.sl b,.i .i64 c,.i .u64 d])] [a] hL 62 (by kernel_rfl) H
def aiq(P:Program)(a:Int)(p:Bool)(h:Heap)(K:KQ):Prop:=pk (
A2 h [] (fun d e=>Z0 [aD.v] ((e,[aD.v])::((d,[aD.v])::[]))) fun d e q L=>
O2 0 aD q fun r s(b:Int)(c:Sl) f=>
Vi f (Z0 [c.v] L) fun L=>
Br (decide (b<a))
(a≠0/\
E1 Sl.v P (Instr.buildSlice 27 1 #[(0,(VI (Int.tmod (aX (b+1)) a)))]) f L fun j k=>
∃g:Sl->Heap->Prop,(Br p
(a≠0/\
E1 Sl.v P (Instr.buildSlice 27 1 #[(0,(VI (Int.tmod (aX ((aX (b+a))-1)) a)))]) k L fun t u=>
E1 Sl.v P (cD 27 27 27 j.v t.v) u L fun x y=>
g x y)
(g j k))/\
∀(l:Sl)(i:Heap),g l i->Vars i L->
E1 Sl.v P (Instr.buildSlice 24 1 #[(0,l.v)]) i L fun z a0=>
E1 Sl.v P (cD 24 24 24 c.v z.v) a0 L fun o a1=>
A0 a1 [e] (Z0 [o.v] L) fun a2 L=>
Nj s fun m=>r m (aX (b+1)) o a2)
(A0 f [d] (Z1 [c.v] L) fun a3 L=>
K (.agg #[c.v]) a3))
theorem air(a:Int)(c:Bool)(h:Heap)(K:KQ)(H:aiq aB a c h K):aG aB 106 #[VI a,VB c] h K:=cw mixed Tryz.func106 [(58,⟨[⟨6,.l (.i .i64)⟩],[1],[]⟩),(1865,⟨[⟨7,.l .sl⟩],[],[]⟩)] [.v (.l (.i .i64 a)),.v (.l (.b c none))] [] [] .nil 36 (by kernel_rfl) H
def ais(P:Program)(b:Sl)(f:Sl)(h:Heap)(K:KQ):Prop:=pk (
A1 h [] (fun a=>(a,[b.v])::[]) fun a g L=>
C1 VB P 50 #[(.agg #[b.v])] g L fun i c=>
Br i
(aG P 53 #[f.v,(Value.func (Fn.func 147) #[] #[(VP a 0)])] c fun j d=>∃k:Sl,∃e:Bool,j=(VB e)/\Va d (Z0 [k.v] L) fun L=>
K (VB (!e)) d)
(K (VB false) c))
theorem v107(b:Sl)(c:Sl)(h:Heap)(K:KQ)(H:ais aB b c h K):aG aB 107 #[(.agg #[b.v]),c.v] h K:=cw mixed Tryz.func107 [] [.v (.a [.sl b]),.v (.l (.sl c))] [] [] .nil 13 (by kernel_rfl) H
def ait(P:Program)(c:Sl)(h:Heap)(K:KQ):Prop:=pk (
A3 h [] (fun g d e=>Z0 [aD.v] ((e,[aD.v])::((d,[aD.v])::((g,[c.v])::[])))) fun g d e j L=>
O2 0 aD j fun k l(f:Int)(a:Sl) b=>
Vi b (Z0 [a.v] L) fun L=>
Br (decide (f<(c.n:Int)))
(G1 Sl.v b c f 1 fun o=>
C1 Sl.v P 152 #[o.v] b L fun p q=>
E1 Sl.v P (Instr.buildSlice 24 1 #[(0,p.v)]) q L fun r s=>
E1 Sl.v P (cD 24 24 24 a.v r.v) s L fun i t=>
A0 t [e] (Z0 [i.v] L) fun u L=>
Nj l fun m=>k m (aX (f+1)) i u)
(A0 b [d] (Z1 [a.v] L) fun x L=>
K (.agg #[a.v]) x))
theorem v109(b:Sl)(h:Heap)(K:KQ)(H:ait aB b h K):aG aB 109 #[(.agg #[b.v])] h K:=cw mixed Tryz.func109 [(58,⟨[⟨10,.l (.i .i64)⟩],[2],[]⟩)] [.v (.a [.sl b])] [] [] .nil 23 (by kernel_rfl) H
def aiu(P:Program)(c:Sl)(a:Int)(h:Heap)(K:KQ):Prop:=pk (
A2 h [] (fun d b=>(b,[aD.v,VI 0])::((d,[c.v,VI a])::[])) fun d b f L=>
C1 Sl.v P 152 #[c.v] f L fun e g=>
A0 g [b] (Z0 [e.v,VI a] L) fun i L=>
K (.agg #[e.v,VI a]) i)
theorem aiv(b:Sl)(c:Int)(h:Heap)(K:KQ)(H:aiu aB b c h K):aG aB 110 #[(.agg #[b.v,VI c])] h K:=cw mixed Tryz.func110 [] [.v (.a [.sl b,.i .i64 c])] [] [] .nil 9 (by kernel_rfl) H
def aiw(P:Program)(d:Nat)(j:Sl)(k:Sl)(l:Int)(o:Bool)(r:ByteArray)(h:Heap)(K:KQ):Prop:=pk (
Lt [(d,[j.v,k.v,VI l,VB o])] fun L=>
A1 h [] (fun c=>(c,[(VS (⟨#[]⟩:ByteArray)),VB false])::L) fun c s L=>
C2 (fun a e=>(.tuple #[(.agg #[(Sl.v a)]),VB e])) P 153 #[VS r] s L fun a e p=>
Br (!e)
(A1 p [c,d] (fun b=>Z1 [(VS (⟨#[]⟩:ByteArray)),VB false] (Z2 [j.v,k.v,VI l,VB true] (Z0 [a.v] ((b,[aD.v])::L)))) fun b t L=>
K (.agg #[(VS (⟨#[]⟩:ByteArray)),VB false]) t)
(A1 p [] (fun b=>Z0 [a.v] ((b,[aD.v])::L)) fun b u L=>
C3 (fun f g i=>(.agg #[(Sl.v f),(Sl.v g),VI i])) P 69 #[(.agg #[a.v])] u L fun f g i x=>
A0 x [d] (Z2 [f.v,g.v,VI i,VB o] L) fun y L=>
C1 VS P 51 #[(.agg #[a.v])] y L fun q z=>
A0 z [c] (Z1 [VS q,VB true] L) fun a0 L=>
K (.agg #[VS q,VB true]) a0))
theorem aix(a:Nat)(c:Sl)(d:Sl)(e:Int)(f:Bool)(g:ByteArray)(h:Heap)(K:KQ)(hL:Vars h [(a,[c.v,d.v,VI e,VB f])])(H:aiw aB a c d e f g h K):aG aB 111 #[(VP a 0),VS g] h K:=cw mixed Tryz.func111 [] [.v (.l (.p 0 0)),.v (.l (.s g))] [(0,[.sl c,.sl d,.i .i64 e,.b f none])] [a] hL 26 (by kernel_rfl) H
def aiy(P:Program)(f:Nat)(r:Sl)(s:Sl)(t:Int)(u:Bool)(x:Sl)(h:Heap)(K:KQ):Prop:=pk (
Lt [(f,[r.v,s.v,VI t,VB u])] fun L=>
E1 Sl.v P (Instr.buildSlice 27 0 #[]) h L fun a4 a5=>
O6 a4 0 r s t u a5 fun a6 a7(y:Sl)(i:Int)(a:Sl)(b:Sl)(c:Int)(z:Bool) g=>
Vi g (Z0 [a.v,b.v,VI c,VB z] L) fun L=>
Br (decide (i<(x.n:Int)))
(G1 VS g x i 1 fun a0=>
C2 (fun d j=>(.tuple #[VI d,j])) P 154 #[VS a0] g L fun d j a1=>
∃e:Sl->Sl->Int->Bool->Heap->Prop,(Q1 VB P (od .neq 163 (.tmp 22) (.const Value.nilIface) j Value.nilIface) fun a8=>
Br a8
(A0 a1 [f] (Z0 [a.v,b.v,VI c,VB true] L) fun a9 L=>
e a b c true a9)
(C1 VB P 52 #[VI d,VI 0,VI 999999] a1 L fun aa a2=>
Br (!aa)
(A0 a2 [f] (Z0 [a.v,b.v,VI c,VB true] L) fun ab L=>
e a b c true ab)
(C1 VS P 92 #[VI d] a2 L fun ac a3=>
Br (!(ac.toList==a0.toList))
(A0 a3 [f] (Z0 [a.v,b.v,VI c,VB true] L) fun ad L=>
e a b c true ad)
(e a b c z a3))))/\
∀(k:Sl)(l:Sl)(o:Int)(p:Bool)(q:Heap),e k l o p q->Vi q (Z0 [k.v,l.v,VI o,VB p] L) fun L=>
E1 Sl.v P (Instr.buildSlice 27 1 #[(0,(VI d))]) q L fun ae af=>
E1 Sl.v P (cD 27 27 27 y.v ae.v) af L fun ag ah=>
Nj a7 fun m=>a6 m ag (aX (i+1)) k l o p ah)
(K y.v g))
theorem aiz(a:Nat)(c:Sl)(d:Sl)(e:Int)(f:Bool)(g:Sl)(h:Heap)(K:KQ)(hL:Vars h [(a,[c.v,d.v,VI e,VB f])])(H:aiy aB a c d e f g h K):aG aB 112 #[(VP a 0),g.v] h K:=cw mixed Tryz.func112 [(58,⟨[⟨5,.l .sl⟩,⟨13,.l (.i .i64)⟩],[0],[]⟩),(7475,⟨[],[0],[]⟩)] [.v (.l (.p 0 0)),.v (.l (.sl g))] [(0,[.sl c,.sl d,.i .i64 e,.b f none])] [a] hL 44 (by kernel_rfl) H
def aiA(P:Program)(u:Nat)(c:Sl)(d:Sl)(e:Int)(ae:Bool)(j:ByteArray)(h:Heap)(K:KQ):Prop:=pk (
Lt [(u,[c.v,d.v,VI e,VB ae])] fun L=>
A1 h [] (fun a=>(a,[(VS (⟨#[]⟩:ByteArray)),VB false])::L) fun a a8 L=>
∃x:Nat->Sl->Nat->Sl->Int->Heap->Prop,((A1 a8 [] (fun k=>(k,[aD.v])::L) fun k af L=>
A1 af [] (fun l=>(l,[aD.v,VI 0])::L) fun l ag L=>
A0 ag [k] (Z1 [c.v] L) fun ah L=>
A0 ah [l] (Z0 [d.v,VI e] L) fun ai L=>
x k c l d e ai)/\
(A1 a8 [] (fun o=>(o,[aD.v,VI 0])::L) fun o aj L=>
A1 aj [] (fun p=>(p,[aD.v])::L) fun p ak L=>
A0 ak [p] (Z0 [c.v] L) fun al L=>
A0 al [o] (Z1 [d.v,VI e] L) fun am L=>
x p c o d e am))/\
∀(a9:Nat)(f:Sl)(aa:Nat)(g:Sl)(i:Int)(b:Heap),x a9 f aa g i b->Vi b ((aa,[g.v,VI i])::((a9,[f.v])::L)) fun L=>
Br (j.toList==ByteArray.toList ({data:= #[115,116,101,112]}))
(C3 (fun y z a0=>(.tuple #[(.agg #[(Sl.v y),VI z]),VB a0])) P 156 #[(.agg #[f.v]),(.agg #[g.v,VI i])] b L fun y z a0 an=>
aG P 155 #[(VP u 0),(.agg #[y.v,VI z]),VB a0] an fun ao ab=>∃ap:Sl,∃aq:Sl,∃ar:Int,∃au:Bool,∃a1:ByteArray,∃a2:Bool,ao=(.agg #[VS a1,VB a2])/\Va ab (Z3 [ap.v,aq.v,VI ar,VB au] L) fun L=>
A0 ab [a] (Z2 [VS a1,VB a2] L) fun av L=>
K (.agg #[VS a1,VB a2]) av)
(Br (j.toList==ByteArray.toList ({data:= #[115,104,111,119]}))
(C1 VS P 51 #[(.agg #[f.v])] b L fun ac aw=>
A0 aw [a] (Z2 [VS ac,VB true] L) fun ax L=>
K (.agg #[VS ac,VB true]) ax)
(Br (j.toList==ByteArray.toList ({data:= #[119,97,108,107]}))
(C1 VS P 55 #[(.agg #[g.v,VI i])] b L fun ad ay=>
A0 ay [a] (Z2 [VS ad,VB true] L) fun az L=>
K (.agg #[VS ad,VB true]) az)
(Br (j.toList==ByteArray.toList ({data:= #[112,101,114,105,111,100]}))
(C3 (fun a3 a4 a5=>(.tuple #[VI a3,VI a4,VB a5])) P 157 #[(.agg #[f.v]),(.agg #[g.v,VI i])] b L fun a3 a4 a5 b0=>
E1 Sl.v P (Instr.buildSlice 27 2 #[(0,(VI a3)),(1,(VI a4))]) b0 L fun b1 b2=>
C2 (fun q r=>(.agg #[VS q,VB r])) P 158 #[b1.v,VB a5] b2 L fun q r b3=>
A0 b3 [a] (Z2 [VS q,VB r] L) fun b4 L=>
K (.agg #[VS q,VB r]) b4)
(Br (j.toList==ByteArray.toList ({data:= #[99,121,99,108,101]}))
(C2 (fun a6 a7=>(.tuple #[(Sl.v a6),VB a7])) P 159 #[(.agg #[f.v]),(.agg #[g.v,VI i])] b L fun a6 a7 b5=>
C2 (fun s t=>(.agg #[VS s,VB t])) P 158 #[a6.v,VB a7] b5 L fun s t b6=>
A0 b6 [a] (Z2 [VS s,VB t] L) fun b7 L=>
K (.agg #[VS s,VB t]) b7)
(A0 b [a,u] (Z2 [(VS (⟨#[]⟩:ByteArray)),VB false] (Z3 [c.v,d.v,VI e,VB true] L)) fun b8 L=>
K (.agg #[(VS (⟨#[]⟩:ByteArray)),VB false]) b8))))))
theorem aiB(a:Nat)(c:Sl)(d:Sl)(e:Int)(f:Bool)(g:ByteArray)(h:Heap)(K:KQ)(hL:Vars h [(a,[c.v,d.v,VI e,VB f])])(H:aiA aB a c d e f g h K):aG aB 113 #[(VP a 0),VS g] h K:=cw mixed Tryz.func113 [(3,⟨[],[],[(5,[.sl]),(6,[.sl,.i .i64])]⟩)] [.v (.l (.p 0 0)),.v (.l (.s g))] [(0,[.sl c,.sl d,.i .i64 e,.b f none])] [a] hL 66 (by kernel_rfl) H
def aiC(P:Program)(l:Nat)(f:Sl)(g:Sl)(i:Int)(ar:Bool)(d:ByteArray)(e:Int)(h:Heap)(K:KQ):Prop:=pk (
Lt [(l,[f.v,g.v,VI i,VB ar])] fun L=>
A1 h [] (fun a=>(a,[(VS (⟨#[]⟩:ByteArray)),VB false])::L) fun a am L=>
∃a4:Nat->Sl->Nat->Sl->Int->Heap->Prop,((A1 am [] (fun o=>(o,[aD.v])::L) fun o au L=>
A1 au [] (fun p=>(p,[aD.v,VI 0])::L) fun p av L=>
A0 av [o] (Z1 [f.v] L) fun aw L=>
A0 aw [p] (Z0 [g.v,VI i] L) fun ax L=>
a4 o f p g i ax)/\
(A1 am [] (fun q=>(q,[aD.v,VI 0])::L) fun q ay L=>
A1 ay [] (fun r=>(r,[aD.v])::L) fun r az L=>
A0 az [r] (Z0 [f.v] L) fun b0 L=>
A0 b0 [q] (Z1 [g.v,VI i] L) fun b1 L=>
a4 r f q g i b1))/\
∀(an:Nat)(c:Sl)(ao:Nat)(j:Sl)(k:Int)(b:Heap),a4 an c ao j k b->Vi b ((ao,[j.v,VI k])::((an,[c.v])::L)) fun L=>
Br (d.toList==ByteArray.toList ({data:= #[97,116]}))
(aG P 160 #[(VP l 0),VI e] b fun b2 ap=>∃b3:Sl,∃b4:Sl,∃b5:Int,∃b6:Bool,∃a5:ByteArray,∃a6:Bool,b2=(.agg #[VS a5,VB a6])/\Va ap (Z3 [b3.v,b4.v,VI b5,VB b6] L) fun L=>
A0 ap [a] (Z2 [VS a5,VB a6] L) fun b7 L=>
K (.agg #[VS a5,VB a6]) b7)
(Br (d.toList==ByteArray.toList ({data:= #[114,117,110]}))
(C3 (fun a7 a8 a9=>(.tuple #[(.agg #[(Sl.v a7),VI a8]),VB a9])) P 161 #[(.agg #[c.v]),(.agg #[j.v,VI k]),VI e] b L fun a7 a8 a9 b8=>
aG P 155 #[(VP l 0),(.agg #[a7.v,VI a8]),VB a9] b8 fun b9 aq=>∃ba:Sl,∃bb:Sl,∃bc:Int,∃bd:Bool,∃aa:ByteArray,∃ab:Bool,b9=(.agg #[VS aa,VB ab])/\Va aq (Z3 [ba.v,bb.v,VI bc,VB bd] L) fun L=>
A0 aq [a] (Z2 [VS aa,VB ab] L) fun be L=>
K (.agg #[VS aa,VB ab]) be)
(Br (d.toList==ByteArray.toList ({data:= #[112,97,115,115]}))
(C2 (fun ac ad=>(.tuple #[(Sl.v ac),VB ad])) P 162 #[(.agg #[c.v]),(.agg #[j.v,VI k]),VI e] b L fun ac ad bf=>
C2 (fun s t=>(.agg #[VS s,VB t])) P 158 #[ac.v,VB ad] bf L fun s t bg=>
A0 bg [a] (Z2 [VS s,VB t] L) fun bh L=>
K (.agg #[VS s,VB t]) bh)
(Br (d.toList==ByteArray.toList ({data:= #[118,105,115,105,116,115]}))
(C2 (fun ae af=>(.tuple #[(Sl.v ae),VB af])) P 163 #[(.agg #[c.v]),(.agg #[j.v,VI k]),VI e] b L fun ae af bi=>
C2 (fun u x=>(.agg #[VS u,VB x])) P 158 #[ae.v,VB af] bi L fun u x bj=>
A0 bj [a] (Z2 [VS u,VB x] L) fun bk L=>
K (.agg #[VS u,VB x]) bk)
(Br (d.toList==ByteArray.toList ({data:= #[104,105,116]}))
(C2 (fun ag ah=>(.tuple #[VI ag,VB ah])) P 164 #[(.agg #[c.v]),(.agg #[j.v,VI k]),VI e] b L fun ag ah bl=>
C2 (fun y z=>(.agg #[VS y,VB z])) P 116 #[VI ag,VB ah] bl L fun y z bm=>
A0 bm [a] (Z2 [VS y,VB z] L) fun bn L=>
K (.agg #[VS y,VB z]) bn)
(Br (d.toList==ByteArray.toList ({data:= #[116,114,101,101,115]}))
(C2 (fun ai aj=>(.tuple #[VI ai,VB aj])) P 165 #[(.agg #[c.v]),VI e] b L fun ai aj bo=>
C2 (fun a0 a1=>(.agg #[VS a0,VB a1])) P 116 #[VI ai,VB aj] bo L fun a0 a1 bp=>
A0 bp [a] (Z2 [VS a0,VB a1] L) fun bq L=>
K (.agg #[VS a0,VB a1]) bq)
(Br (d.toList==ByteArray.toList ({data:= #[102,117,108,108]}))
(C2 (fun ak al=>(.tuple #[(Sl.v ak),VB al])) P 166 #[(.agg #[c.v]),VI e] b L fun ak al br=>
C2 (fun a2 a3=>(.agg #[VS a2,VB a3])) P 158 #[ak.v,VB al] br L fun a2 a3 bs=>
A0 bs [a] (Z2 [VS a2,VB a3] L) fun bt L=>
K (.agg #[VS a2,VB a3]) bt)
(A0 b [a,l] (Z2 [(VS (⟨#[]⟩:ByteArray)),VB false] (Z3 [f.v,g.v,VI i,VB true] L)) fun bu L=>
K (.agg #[(VS (⟨#[]⟩:ByteArray)),VB false]) bu))))))))
theorem aiD(a:Nat)(c:Sl)(d:Sl)(e:Int)(f:Bool)(g:ByteArray)(j:Int)(h:Heap)(K:KQ)(hL:Vars h [(a,[c.v,d.v,VI e,VB f])])(H:aiC aB a c d e f g j h K):aG aB 114 #[(VP a 0),VS g,VI j] h K:=cw mixed Tryz.func114 [(3,⟨[],[],[(7,[.sl]),(8,[.sl,.i .i64])]⟩)] [.v (.l (.p 0 0)),.v (.l (.s g)),.v (.l (.i .i64 j))] [(0,[.sl c,.sl d,.i .i64 e,.b f none])] [a] hL 82 (by kernel_rfl) H
def aiE(P:Program)(e:Nat)(f:Sl)(aa:Sl)(g:Int)(ae:Bool)(i:ByteArray)(c:Int)(d:Int)(h:Heap)(K:KQ):Prop:=pk (
Lt [(e,[f.v,aa.v,VI g,VB ae])] fun L=>
Br (i.toList==ByteArray.toList ({data:= #[97,100,100]}))
(A1 h [] (fun a=>(a,[(VS (⟨#[]⟩:ByteArray)),VB false])::L) fun a b L=>
aG P 167 #[(VP e 0),VI c,VI d] b fun af ab=>∃ag:Sl,∃ah:Sl,∃ai:Int,∃aj:Bool,∃t:ByteArray,∃u:Bool,af=(.agg #[VS t,VB u])/\Va ab (Z1 [ag.v,ah.v,VI ai,VB aj] L) fun L=>
A0 ab [a] (Z0 [VS t,VB u] L) fun ak L=>
K (.agg #[VS t,VB u]) ak)
(Br (i.toList==ByteArray.toList ({data:= #[116,117,114,110]}))
(A1 h [] (fun a=>(a,[(VS (⟨#[]⟩:ByteArray)),VB false])::L) fun a b L=>
aG P 168 #[(VP e 0),VI c,VI d] b fun al ac=>∃am:Sl,∃an:Sl,∃ao:Int,∃ap:Bool,∃x:ByteArray,∃y:Bool,al=(.agg #[VS x,VB y])/\Va ac (Z1 [am.v,an.v,VI ao,VB ap] L) fun L=>
A0 ac [a] (Z0 [VS x,VB y] L) fun aq L=>
K (.agg #[VS x,VB y]) aq)
(Br (i.toList==ByteArray.toList ({data:= #[99,104,97,110,99,101]}))
(A1 h [] (fun a=>(a,[(VS (⟨#[]⟩:ByteArray)),VB false])::L) fun a b L=>
∃z:Bool->Nat->Int->Int->Heap->Prop,((C3 (fun j k a0=>(.tuple #[(.agg #[VI j,VI k]),VB a0])) P 169 #[(.agg #[f.v]),VI g,VI c,VI d] b L fun j k a0 ar=>
A1 ar [] (fun a1=>Z0 [VI j,VI k] ((a1,[VI 0,VI 0])::L)) fun a1 au L=>
z a0 a1 j k au)/\
(A1 b [] (fun l=>(l,[VI 0,VI 0])::L) fun l av L=>
C3 (fun o p a2=>(.tuple #[(.agg #[VI o,VI p]),VB a2])) P 169 #[(.agg #[f.v]),VI g,VI c,VI d] av L fun o p a2 aw=>
A0 aw [l] (Z0 [VI o,VI p] L) fun ax L=>
z a2 l o p ax))/\
∀(a3:Bool)(ad:Nat)(a4:Int)(a5:Int)(a6:Heap),z a3 ad a4 a5 a6->Vi a6 ((ad,[VI a4,VI a5])::L) fun L=>
C1 VS P 92 #[VI a4] a6 L fun q ay=>
q.size+ByteArray.size ({data:= #[47]})<=9223372036854775807/\
C1 VS P 92 #[VI a5] ay L fun a7 az=>
ByteArray.size (q++({data:= #[47]}))+a7.size<=9223372036854775807/\
A0 az [a] (Z1 [(VS ((q++({data:= #[47]}))++a7)),VB a3] L) fun b0 L=>
K (.agg #[(VS ((q++({data:= #[47]}))++a7)),VB a3]) b0)
(Br (i.toList==ByteArray.toList ({data:= #[103,114,111,119]}))
(A1 h [] (fun a=>(a,[(VS (⟨#[]⟩:ByteArray)),VB false])::L) fun a b L=>
C2 (fun a8 a9=>(.tuple #[(Sl.v a8),VB a9])) P 170 #[VI c,VI d] b L fun a8 a9 b1=>
C2 (fun r s=>(.agg #[VS r,VB s])) P 158 #[a8.v,VB a9] b1 L fun r s b2=>
A0 b2 [a] (Z0 [VS r,VB s] L) fun b3 L=>
K (.agg #[VS r,VB s]) b3)
(A1 h [e] (fun a=>Z0 [(VS (⟨#[]⟩:ByteArray)),VB false] (Z1 [f.v,aa.v,VI g,VB true] ((a,[(VS (⟨#[]⟩:ByteArray)),VB false])::L))) fun a b4 L=>
K (.agg #[(VS (⟨#[]⟩:ByteArray)),VB false]) b4)))))
theorem aiF(a:Nat)(c:Sl)(d:Sl)(e:Int)(f:Bool)(g:ByteArray)(j:Int)(k:Int)(h:Heap)(K:KQ)(hL:Vars h [(a,[c.v,d.v,VI e,VB f])])(H:aiE aB a c d e f g j k h K):aG aB 115 #[(VP a 0),VS g,VI j,VI k] h K:=cw mixed Tryz.func115 [(1726,⟨[⟨10,.l .b⟩],[],[(9,[.i .i64,.i .i64])]⟩)] [.v (.l (.p 0 0)),.v (.l (.s g)),.v (.l (.i .i64 j)),.v (.l (.i .i64 k))] [(0,[.sl c,.sl d,.i .i64 e,.b f none])] [a] hL 65 (by kernel_rfl) H
def aiG(P:Program)(d:Int)(b:Bool)(h:Heap)(K:KQ):Prop:=pk (
A1 h [] (fun a=>(a,[(VS (⟨#[]⟩:ByteArray)),VB false])::[]) fun a e L=>
C1 VS P 92 #[VI d] e L fun c f=>
A0 f [a] (Z0 [VS c,VB b] L) fun g L=>
K (.agg #[VS c,VB b]) g)
theorem aiH(a:Int)(c:Bool)(h:Heap)(K:KQ)(H:aiG aB a c h K):aG aB 116 #[VI a,VB c] h K:=cw mixed Tryz.func116 [] [.v (.l (.i .i64 a)),.v (.l (.b c none))] [] [] .nil 9 (by kernel_rfl) H
def aiI(P:Program)(c:Int)(d:Int)(e:Int)(f:Int)(h:Heap)(K:KQ):Prop:=pk (
C2 (fun a b=>(.tuple #[(Sl.v a),VB b])) P 171 #[VI c,VI d,VI e,VI f] h [] fun a b g=>
C1 VI P 172 #[a.v] g [] fun i j=>
K (.tuple #[VI i,VB b]) j)
theorem v117(a:Int)(b:Int)(c:Int)(d:Int)(h:Heap)(K:KQ)(H:aiI aB a b c d h K):aG aB 117 #[VI a,VI b,VI c,VI d] h K:=cw mixed Tryz.func117 [] [.v (.l (.i .i64 a)),.v (.l (.i .i64 b)),.v (.l (.i .i64 c)),.v (.l (.i .i64 d))] [] [] .nil 23 (by kernel_rfl) H
def aiJ(P:Program)(a:Int)(b:Int)(c:Int)(h:Heap)(K:KQ):Prop:=pk (
Br (decide (b<=a))
(K (VB (decide (a<=c))) h)
(K (VB false) h))
theorem aiK(a:Int)(b:Int)(c:Int)(h:Heap)(K:KQ)(H:aiJ aB a b c h K):aG aB 119 #[VI a,VI b,VI c] h K:=cw mixed Tryz.func119 [] [.v (.l (.i .i64 a)),.v (.l (.i .i64 b)),.v (.l (.i .i64 c))] [] [] .nil 15 (by kernel_rfl) H
def aiL(P:Program)(c:Sl)(e:Int)(f:Int)(h:Heap)(K:KQ):Prop:=pk (
O1 0 h fun g i(b:Int) a=>
Vars a []->
Br (decide (b<(c.n:Int)))
(G1 VI a c b 1 fun j=>
C1 VB P 119 #[VI j,VI e,VI f] a [] fun k d=>
Br (!k)
(K (VB false) d)
(Nj i fun m=>g m (aX (b+1)) d))
(K (VB true) a))
theorem aiM(a:Sl)(b:Int)(c:Int)(h:Heap)(K:KQ)(H:aiL aB a b c h K):aG aB 120 #[a.v,VI b,VI c] h K:=cw mixed Tryz.func120 [(26,⟨[⟨11,.l (.i .i64)⟩],[],[]⟩)] [.v (.l (.sl a)),.v (.l (.i .i64 b)),.v (.l (.i .i64 c))] [] [] .nil 21 (by kernel_rfl) H
def aiN(P:Program)(a:Sl)(d:Int)(h:Heap)(K:KQ):Prop:=pk (
A1 h [] (fun b=>(b,[a.v])::[]) fun b e L=>
C1 VB P 82 #[(.agg #[a.v])] e L fun f c=>
Br f
(C1 VB P 119 #[VI d,VI 0,(VI (aX ((a.n:Int)-1)))] c L fun g i=>
K (VB g) i)
(K (VB false) c))
theorem aiO(b:Sl)(c:Int)(h:Heap)(K:KQ)(H:aiN aB b c h K):aG aB 121 #[(.agg #[b.v]),VI c] h K:=cw mixed Tryz.func121 [] [.v (.a [.sl b]),.v (.l (.i .i64 c))] [] [] .nil 15 (by kernel_rfl) H
def aiP(P:Program)(a:Int)(b:Int)(h:Heap)(K:KQ):Prop:=pk (
Br (decide (b<a))
(K (VI a) h)
(K (VI b) h))
theorem ae2(a:Int)(b:Int)(h:Heap)(K:KQ)(H:aiP aB a b h K):aG aB 122 #[VI a,VI b] h K:=cw mixed Tryz.func122 [] [.v (.l (.i .i64 a)),.v (.l (.i .i64 b))] [] [] .nil 10 (by kernel_rfl) H
def aiQ(P:Program)(a:ByteArray)(h:Heap)(K:KQ):Prop:=pk (
∃e:Bool->Heap->Prop,(Br (a.toList==ByteArray.toList ({data:= #[115,116,101,112]}))
(e (a.toList==ByteArray.toList ({data:= #[115,116,101,112]})) h)
(Br (a.toList==ByteArray.toList ({data:= #[115,104,111,119]}))
(e (a.toList==ByteArray.toList ({data:= #[115,104,111,119]})) h)
(Br (a.toList==ByteArray.toList ({data:= #[119,97,108,107]}))
(e (a.toList==ByteArray.toList ({data:= #[119,97,108,107]})) h)
(Br (a.toList==ByteArray.toList ({data:= #[112,101,114,105,111,100]}))
(e (a.toList==ByteArray.toList ({data:= #[112,101,114,105,111,100]})) h)
(e (a.toList==ByteArray.toList ({data:= #[99,121,99,108,101]})) h)))))/\
∀(i:Bool)(b:Heap),e i b->Vars b []->
Br i
(K (VS ({data:= #[]})) b)
(∃c:Bool->Heap->Prop,(Br (a.toList==ByteArray.toList ({data:= #[97,116]}))
(c (a.toList==ByteArray.toList ({data:= #[97,116]})) b)
(Br (a.toList==ByteArray.toList ({data:= #[114,117,110]}))
(c (a.toList==ByteArray.toList ({data:= #[114,117,110]})) b)
(Br (a.toList==ByteArray.toList ({data:= #[112,97,115,115]}))
(c (a.toList==ByteArray.toList ({data:= #[112,97,115,115]})) b)
(Br (a.toList==ByteArray.toList ({data:= #[118,105,115,105,116,115]}))
(c (a.toList==ByteArray.toList ({data:= #[118,105,115,105,116,115]})) b)
(Br (a.toList==ByteArray.toList ({data:= #[104,105,116]}))
(c (a.toList==ByteArray.toList ({data:= #[104,105,116]})) b)
(Br (a.toList==ByteArray.toList ({data:= #[116,114,101,101,115]}))
(c (a.toList==ByteArray.toList ({data:= #[116,114,101,101,115]})) b)
(c (a.toList==ByteArray.toList ({data:= #[102,117,108,108]})) b)))))))/\
∀(j:Bool)(d:Heap),c j d->Vars d []->
Br j
(K (VS ({data:= #[110]})) d)
(∃g:Bool->Heap->Prop,(Br (a.toList==ByteArray.toList ({data:= #[97,100,100]}))
(g (a.toList==ByteArray.toList ({data:= #[97,100,100]})) d)
(Br (a.toList==ByteArray.toList ({data:= #[116,117,114,110]}))
(g (a.toList==ByteArray.toList ({data:= #[116,117,114,110]})) d)
(Br (a.toList==ByteArray.toList ({data:= #[99,104,97,110,99,101]}))
(g (a.toList==ByteArray.toList ({data:= #[99,104,97,110,99,101]})) d)
(g (a.toList==ByteArray.toList ({data:= #[103,114,111,119]})) d))))/\
∀(k:Bool)(f:Heap),g k f->Vars f []->
Br k
(K (VS ({data:= #[110,110]})) f)
(Br (a.toList==ByteArray.toList ({data:= #[101,115,99,97,112,101,115]}))
(K (VS ({data:= #[110,110,110,110]})) f)
(Br (a.toList==ByteArray.toList ({data:= #[103,114,97,112,104]}))
(K (VS ({data:= #[103]})) f)
(K (VS ({data:= #[63]})) f))))))
theorem aiR(a:ByteArray)(h:Heap)(K:KQ)(H:aiQ aB a h K):aG aB 123 #[VS a] h K:=cw mixed Tryz.func123 [(26,⟨[⟨4,.l .b⟩],[],[]⟩),(107,⟨[⟨10,.l .b⟩],[],[]⟩),(431,⟨[⟨18,.l .b⟩],[],[]⟩)] [.v (.l (.s a))] [] [] .nil 27 (by kernel_rfl) H
def aiS(P:Program)(a:ByteArray)(h:Heap)(K:KQ):Prop:=pk (
C1 VB P 119 #[(VI (a.size:Int)),VI 1,VI 6] h [] fun s f=>
Br (!s)
(K (VI (-1)) f)
(Q1 (fun g=>(.int .u8 g)) P (Instr.index 9 (VS a) (.int .i64 0)) fun g=>
Br (decide (g=48))
(Br (decide (1<(a.size:Int)))
(K (VI (-1)) f)
(O2 0 0 f fun t u(q:Int)(d:Int) b=>
Vars b []->
Br (decide (d<(a.size:Int)))
(Q1 (fun i=>(.int .u8 i)) P (Instr.index 9 (VS a) (VI d)) fun i=>
Br (decide (i<48))
(K (VI (-1)) b)
(Q1 (fun j=>(.int .u8 j)) P (Instr.index 9 (VS a) (VI d)) fun j=>
Br (decide (57<j))
(K (VI (-1)) b)
(Q1 (fun k=>(.int .u8 k)) P (Instr.index 9 (VS a) (VI d)) fun k=>
R1 VI P (convert 5 3 (.int .u8 (IntKind.wrap .u8 (k-48)))) b fun v=>
Nj u fun m=>t m (aX ((aX (10*q))+v)) (aX (d+1)) b)))
(K (VI q) b)))
(O2 0 0 f fun x y(r:Int)(e:Int) c=>
Vars c []->
Br (decide (e<(a.size:Int)))
(Q1 (fun l=>(.int .u8 l)) P (Instr.index 9 (VS a) (VI e)) fun l=>
Br (decide (l<48))
(K (VI (-1)) c)
(Q1 (fun o=>(.int .u8 o)) P (Instr.index 9 (VS a) (VI e)) fun o=>
Br (decide (57<o))
(K (VI (-1)) c)
(Q1 (fun p=>(.int .u8 p)) P (Instr.index 9 (VS a) (VI e)) fun p=>
R1 VI P (convert 5 3 (.int .u8 (IntKind.wrap .u8 (p-48)))) c fun z=>
Nj y fun m=>x m (aX ((aX (10*r))+z)) (aX (e+1)) c)))
(K (VI r) c))))
theorem v124(a:ByteArray)(h:Heap)(K:KQ)(H:aiS aB a h K):aG aB 124 #[VS a] h K:=cw mixed Tryz.func124 [(122,⟨[⟨3,.l (.i .i64)⟩,⟨4,.l (.i .i64)⟩],[],[]⟩)] [.v (.l (.s a))] [] [] .nil 44 (by kernel_rfl) H
def aiT(P:Program)(j:ByteArray)(h:Heap)(K:KQ):Prop:=pk (
Br (decide (200<(j.size:Int)))
(A1 h [] (fun a=>Z0 [aD.v] ((a,[aD.v])::[])) fun a u L=>
K (.tuple #[(.agg #[aD.v]),VB false]) u)
(A2 h [] (fun a g=>Z0 [aD.v] ((g,[aD.v])::((a,[aD.v])::[]))) fun a g x L=>
O3 aD 0 aD x fun y z(e:Sl)(k:Int)(c:Sl) b=>
Vi b (Z0 [c.v] L) fun L=>
Br (decide (k<(j.size:Int)))
(∃f:Sl->Sl->Heap->Prop,(Q1 (fun d=>(.int .u8 d)) P (Instr.index 9 (VS j) (VI k)) fun d=>
Br (decide (48<=d))
(Br (decide (d<=55))
(R1 VI P (convert 5 3 (.int .u8 (IntKind.wrap .u8 (d-48)))) b fun a0=>
E1 Sl.v P (Instr.buildSlice 27 1 #[(0,(VI a0))]) b L fun a1 a2=>
E1 Sl.v P (cD 27 27 27 e.v a1.v) a2 L fun a3 a4=>
f a3 c a4)
(Br (decide (d=59))
(E1 Sl.v P (Instr.buildSlice 24 1 #[(0,e.v)]) b L fun a5 a6=>
E1 Sl.v P (cD 24 24 24 c.v a5.v) a6 L fun p a7=>
A0 a7 [g] (Z0 [p.v] L) fun a8 L=>
f aD p a8)
(f e c b)))
(Br (decide (d=59))
(E1 Sl.v P (Instr.buildSlice 24 1 #[(0,e.v)]) b L fun a9 aa=>
E1 Sl.v P (cD 24 24 24 c.v a9.v) aa L fun q ab=>
A0 ab [g] (Z0 [q.v] L) fun ac L=>
f aD q ac)
(f e c b)))/\
∀(r:Sl)(l:Sl)(o:Heap),f r l o->Vi o (Z0 [l.v] L) fun L=>
Nj z fun m=>y m r (aX (k+1)) l o)
(E1 Sl.v P (Instr.buildSlice 24 1 #[(0,e.v)]) b L fun ad ae=>
E1 Sl.v P (cD 24 24 24 c.v ad.v) ae L fun i af=>
A0 af [g] (Z0 [i.v] L) fun ag L=>
C1 VB P 82 #[(.agg #[i.v])] ag L fun ah s=>
Br (!ah)
(A0 s [a] (Z1 [aD.v] L) fun ai L=>
K (.tuple #[(.agg #[aD.v]),VB false]) ai)
(C1 VS P 74 #[(.agg #[i.v])] s L fun aj t=>
Br (!(aj.toList==j.toList))
(A0 t [a] (Z1 [aD.v] L) fun ak L=>
K (.tuple #[(.agg #[aD.v]),VB false]) ak)
(A0 t [a] (Z1 [i.v] L) fun al L=>
K (.tuple #[(.agg #[i.v]),VB true]) al)))))
theorem aiU(a:ByteArray)(h:Heap)(K:KQ)(H:aiT aB a h K):aG aB 125 #[VS a] h K:=cw mixed Tryz.func125 [(250,⟨[⟨5,.l .sl⟩,⟨6,.l (.i .i64)⟩],[1],[]⟩),(1001,⟨[⟨5,.l .sl⟩],[1],[]⟩)] [.v (.l (.s a))] [] [] .nil 61 (by kernel_rfl) H
def aiV(P:Program)(d:Sl)(b:Int)(g:Int)(h:Heap)(K:KQ):Prop:=pk (
A2 h [] (fun i c=>(c,[aD.v])::((i,[d.v])::[])) fun i c r L=>
C1 VB P 121 #[(.agg #[d.v]),VI b] r L fun s j=>
Br (!s)
(A0 j [c] (Z0 [aD.v] L) fun t L=>
K (.tuple #[(.agg #[aD.v]),VB false]) t)
(C1 VB P 121 #[(.agg #[d.v]),VI g] j L fun u k=>
Br (!u)
(A0 k [c] (Z0 [aD.v] L) fun x L=>
K (.tuple #[(.agg #[aD.v]),VB false]) x)
(C1 (fun a=>(.agg #[(Sl.v a)])) P 175 #[(.agg #[d.v])] k L fun a y=>
fq a b/\
A1 y [] (fun l=>Z0 [a.v] ((l,[aD.v])::L)) fun l o L=>
H1 Sl.v o (Sl.at a b 1) fun p=>
E1 Sl.v P (Instr.buildSlice 27 1 #[(0,(VI g))]) o L fun z q=>
bG q (Sl.at a b 1)=some p.v/\
E1 Sl.v P (cD 27 27 27 p.v z.v) q L fun a0 a1=>
fq a b/\
S1 a1 (Sl.at a b 1) a0.v L fun a2=>
C2 (fun e f=>(.tuple #[(.agg #[(Sl.v e)]),VB f])) P 176 #[(.agg #[a.v])] a2 L fun e f a3=>
A0 a3 [c] (Z1 [e.v] L) fun a4 L=>
K (.tuple #[(.agg #[e.v]),VB f]) a4)))
theorem aiW(b:Sl)(c:Int)(d:Int)(h:Heap)(K:KQ)(H:aiV aB b c d h K):aG aB 126 #[(.agg #[b.v]),VI c,VI d] h K:=cw mixed Tryz.func126 [] [.v (.a [.sl b]),.v (.l (.i .i64 c)),.v (.l (.i .i64 d))] [] [] .nil 38 (by kernel_rfl) H
def aiX(P:Program)(f:Nat)(d:Sl)(k:Sl)(l:Int)(g:Sl)(i:Sl)(a:Sl)(b:Int)(o:Bool)(h:Heap)(K:KQ):Prop:=pk (
Lt [(f,[d.v,k.v,VI l,g.v,i.v])] fun L=>
Br (!o)
(A1 h [] (fun c=>(c,[a.v,VI b])::L) fun c e L=>
K (VS ({data:= #[110,111]})) e)
(A1 h [] (fun c=>(c,[a.v,VI b])::L) fun c e L=>
C1 VB P 83 #[(.agg #[d.v]),(.agg #[a.v,VI b])] e L fun p j=>
Br (!p)
(K (VS ({data:= #[110,111]})) j)
(A0 j [f] (Z1 [d.v,a.v,VI b,g.v,i.v] L) fun q L=>
C1 VS P 130 #[(.agg #[a.v,VI b])] q L fun r s=>
K (VS r) s)))
theorem v127(c:Nat)(d:Sl)(e:Sl)(f:Int)(g:Sl)(j:Sl)(k:Sl)(o:Int)(q:Bool)(h:Heap)(K:KQ)(hL:Vars h [(c,[d.v,e.v,VI f,g.v,j.v])])(H:aiX aB c d e f g j k o q h K):aG aB 127 #[(VP c 0),(.agg #[k.v,VI o]),VB q] h K:=cw mixed Tryz.func127 [] [.v (.l (.p 0 0)),.v (.a [.sl k,.i .i64 o]),.v (.l (.b q none))] [(0,[.sl d,.sl e,.i .i64 f,.sl g,.sl j])] [c] hL 26 (by kernel_rfl) H
def aiY(P:Program)(e:Sl)(f:Sl)(g:Int)(h:Heap)(K:KQ):Prop:=pk (
A3 h [] (fun j k c=>(c,[aD.v,VI 0])::((k,[f.v,VI g])::((j,[e.v])::[]))) fun j k c p L=>
C1 VB P 83 #[(.agg #[e.v]),(.agg #[f.v,VI g])] p L fun q l=>
Br (!q)
(A0 l [c] (Z0 [aD.v,VI 0] L) fun r L=>
K (.tuple #[(.agg #[aD.v,VI 0]),VB false]) r)
(C3 (fun a b i=>(.tuple #[(.agg #[(Sl.v a),VI b]),VB i])) P 177 #[(.agg #[e.v]),(.agg #[f.v,VI g])] l L fun a b i o=>
Br (!i)
(A1 o [c] (fun d=>Z1 [aD.v,VI 0] (Z0 [a.v,VI b] ((d,[aD.v,VI 0])::L))) fun d s L=>
K (.tuple #[(.agg #[aD.v,VI 0]),VB false]) s)
(A1 o [c] (fun d=>Z1 [a.v,VI b] (Z0 [a.v,VI b] ((d,[aD.v,VI 0])::L))) fun d t L=>
K (.tuple #[(.agg #[a.v,VI b]),VB true]) t)))
theorem aiZ(b:Sl)(c:Sl)(d:Int)(h:Heap)(K:KQ)(H:aiY aB b c d h K):aG aB 128 #[(.agg #[b.v]),(.agg #[c.v,VI d])] h K:=cw mixed Tryz.func128 [] [.v (.a [.sl b]),.v (.a [.sl c,.i .i64 d])] [] [] .nil 23 (by kernel_rfl) H
def ai0(P:Program)(i:Sl)(j:Sl)(k:Int)(o:Int)(h:Heap)(K:KQ):Prop:=pk (
A3 h [] (fun p q b=>(b,[aD.v,VI 0])::((q,[j.v,VI k])::((p,[i.v])::[]))) fun p q b u L=>
C1 VB P 178 #[(.agg #[i.v]),(.agg #[j.v,VI k]),VI o] u L fun x r=>
Br (!x)
(A0 r [b] (Z0 [aD.v,VI 0] L) fun y L=>
K (.tuple #[(.agg #[aD.v,VI 0]),VB false]) y)
(C6 (fun c a e f g l=>(.tuple #[(.agg #[(Sl.v c),VI a,(Sl.v e),(Sl.v f),(Sl.v g)]),VB l])) P 179 #[(.agg #[i.v]),(.agg #[j.v,VI k]),VI o] r L fun c a e f g l s=>
Br (!l)
(A1 s [b] (fun d=>Z1 [aD.v,VI 0] (Z0 [c.v,VI a,e.v,f.v,g.v] ((d,[aD.v,VI 0,aD.v,aD.v,aD.v])::L))) fun d z L=>
K (.tuple #[(.agg #[aD.v,VI 0]),VB false]) z)
(A1 s [] (fun d=>Z0 [c.v,VI a,e.v,f.v,g.v] ((d,[aD.v,VI 0,aD.v,aD.v,aD.v])::L)) fun d a0 L=>
C1 Sl.v P 87 #[c.v] a0 L fun t a1=>
A0 a1 [b] (Z1 [t.v,VI a] L) fun a2 L=>
K (.tuple #[(.agg #[t.v,VI a]),VB true]) a2)))
theorem ai1(b:Sl)(c:Sl)(d:Int)(e:Int)(h:Heap)(K:KQ)(H:ai0 aB b c d e h K):aG aB 129 #[(.agg #[b.v]),(.agg #[c.v,VI d]),VI e] h K:=cw mixed Tryz.func129 [] [.v (.a [.sl b]),.v (.a [.sl c,.i .i64 d]),.v (.l (.i .i64 e))] [] [] .nil 34 (by kernel_rfl) H
def ai2(P:Program)(b:Sl)(c:Int)(h:Heap)(K:KQ):Prop:=pk (
A1 h [] (fun d=>(d,[b.v,VI c])::[]) fun d f L=>
C1 VS P 73 #[VI c] f L fun a g=>
a.size+ByteArray.size ({data:= #[58]})<=9223372036854775807/\
C1 VS P 180 #[b.v] g L fun e i=>
ByteArray.size (a++({data:= #[58]}))+e.size<=9223372036854775807/\
K (VS ((a++({data:= #[58]}))++e)) i)
theorem v130(b:Sl)(c:Int)(h:Heap)(K:KQ)(H:ai2 aB b c h K):aG aB 130 #[(.agg #[b.v,VI c])] h K:=cw mixed Tryz.func130 [] [.v (.a [.sl b,.i .i64 c])] [] [] .nil 11 (by kernel_rfl) H
def ai3(P:Program)(a:Sl)(b:Bool)(h:Heap)(K:KQ):Prop:=pk (
Br (!b)
(K (VS ({data:= #[110,111]})) h)
(C1 VS P 180 #[a.v] h [] fun c d=>
K (VS c) d))
theorem v131(a:Sl)(c:Bool)(h:Heap)(K:KQ)(H:ai3 aB a c h K):aG aB 131 #[a.v,VB c] h K:=cw mixed Tryz.func131 [] [.v (.l (.sl a)),.v (.l (.b c none))] [] [] .nil 9 (by kernel_rfl) H
def ai4(P:Program)(b:Sl)(c:Sl)(d:Int)(k:Int)(h:Heap)(K:KQ):Prop:=pk (
A2 h [] (fun l o=>(o,[c.v,VI d])::((l,[b.v])::[])) fun l o s L=>
C1 VB P 83 #[(.agg #[b.v]),(.agg #[c.v,VI d])] s L fun t p=>
Br (!t)
(K (.tuple #[aD.v,VB false]) p)
(C1 VB P 119 #[VI k,VI 0,VI 200] p L fun u q=>
Br (!u)
(K (.tuple #[aD.v,VB false]) q)
(C6 (fun e f a g i j=>(.tuple #[(.agg #[(Sl.v e),VI f,(Sl.v a),(Sl.v g),(Sl.v i)]),VB j])) P 179 #[(.agg #[b.v]),(.agg #[c.v,VI d]),VI k] q L fun e f a g i j x=>
A1 x [] (fun r=>Z0 [e.v,VI f,a.v,g.v,i.v] ((r,[aD.v,VI 0,aD.v,aD.v,aD.v])::L)) fun r y L=>
K (.tuple #[a.v,VB j]) y)))
theorem ai5(b:Sl)(c:Sl)(d:Int)(e:Int)(h:Heap)(K:KQ)(H:ai4 aB b c d e h K):aG aB 132 #[(.agg #[b.v]),(.agg #[c.v,VI d]),VI e] h K:=cw mixed Tryz.func132 [] [.v (.a [.sl b]),.v (.a [.sl c,.i .i64 d]),.v (.l (.i .i64 e))] [] [] .nil 29 (by kernel_rfl) H
def ai6(P:Program)(b:Sl)(c:Sl)(d:Int)(k:Int)(h:Heap)(K:KQ):Prop:=pk (
A2 h [] (fun l o=>(o,[c.v,VI d])::((l,[b.v])::[])) fun l o r L=>
C1 VB P 178 #[(.agg #[b.v]),(.agg #[c.v,VI d]),VI k] r L fun s p=>
Br (!s)
(K (.tuple #[aD.v,VB false]) p)
(C6 (fun e f g a i j=>(.tuple #[(.agg #[(Sl.v e),VI f,(Sl.v g),(Sl.v a),(Sl.v i)]),VB j])) P 179 #[(.agg #[b.v]),(.agg #[c.v,VI d]),VI k] p L fun e f g a i j t=>
A1 t [] (fun q=>Z0 [e.v,VI f,g.v,a.v,i.v] ((q,[aD.v,VI 0,aD.v,aD.v,aD.v])::L)) fun q u L=>
K (.tuple #[a.v,VB j]) u))
theorem ai7(b:Sl)(c:Sl)(d:Int)(e:Int)(h:Heap)(K:KQ)(H:ai6 aB b c d e h K):aG aB 133 #[(.agg #[b.v]),(.agg #[c.v,VI d]),VI e] h K:=cw mixed Tryz.func133 [] [.v (.a [.sl b]),.v (.a [.sl c,.i .i64 d]),.v (.l (.i .i64 e))] [] [] .nil 25 (by kernel_rfl) H
def ai8(P:Program)(a:Int)(b:Bool)(h:Heap)(K:KQ):Prop:=pk (
Br (!b)
(K (VS ({data:= #[110,111]})) h)
(C1 VS P 73 #[VI a] h [] fun c d=>
K (VS c) d))
theorem ai9(a:Int)(c:Bool)(h:Heap)(K:KQ)(H:ai8 aB a c h K):aG aB 134 #[VI a,VB c] h K:=cw mixed Tryz.func134 [] [.v (.l (.i .i64 a)),.v (.l (.b c none))] [] [] .nil 9 (by kernel_rfl) H
def aja(P:Program)(d:Sl)(f:Sl)(g:Int)(o:Int)(h:Heap)(K:KQ):Prop:=pk (
A2 h [] (fun p i=>(i,[f.v,VI g])::((p,[d.v])::[])) fun p i u L=>
C1 VB P 83 #[(.agg #[d.v]),(.agg #[f.v,VI g])] u L fun x q=>
Br (!x)
(K (.tuple #[VI 0,VB false]) q)
(C1 VB P 121 #[(.agg #[d.v]),VI o] q L fun y r=>
Br (!y)
(K (.tuple #[VI 0,VB false]) r)
(O3 0 f g r fun z a0(j:Int)(s:Sl)(k:Int) e=>
Vi e (Z0 [s.v,VI k] L) fun L=>
Br (decide (j<=2000))
(Br (decide (k=o))
(K (.tuple #[VI j,VB true]) e)
(C3 (fun a b l=>(.tuple #[(.agg #[(Sl.v a),VI b]),VB l])) P 177 #[(.agg #[d.v]),(.agg #[s.v,VI k])] e L fun a b l t=>
Br (!l)
(A1 t [] (fun c=>Z0 [a.v,VI b] ((c,[aD.v,VI 0])::L)) fun c a1 L=>
K (.tuple #[VI 0,VB false]) a1)
(A1 t [i] (fun c=>Z1 [a.v,VI b] (Z0 [a.v,VI b] ((c,[aD.v,VI 0])::L))) fun c a2 L=>
Nj a0 fun m=>z m (aX (j+1)) a b a2)))
(K (.tuple #[VI 0,VB false]) e))))
theorem ajb(b:Sl)(c:Sl)(d:Int)(e:Int)(h:Heap)(K:KQ)(H:aja aB b c d e h K):aG aB 135 #[(.agg #[b.v]),(.agg #[c.v,VI d]),VI e] h K:=cw mixed Tryz.func135 [(58,⟨[⟨8,.l (.i .i64)⟩],[1],[]⟩)] [.v (.a [.sl b]),.v (.a [.sl c,.i .i64 d]),.v (.l (.i .i64 e))] [] [] .nil 39 (by kernel_rfl) H
def ajc(P:Program)(e:Sl)(f:Sl)(g:Int)(h:Heap)(K:KQ):Prop:=pk (
A2 h [] (fun k l=>(l,[f.v,VI g])::((k,[e.v])::[])) fun k l q L=>
C1 VB P 83 #[(.agg #[e.v]),(.agg #[f.v,VI g])] q L fun r o=>
Br (!r)
(K (.tuple #[VI 0,VI 0,VB false]) o)
(C4 (fun i b c d=>(.tuple #[VI i,(.agg #[(Sl.v b),VI c]),VI d])) P 181 #[(.agg #[e.v]),(.agg #[f.v,VI g])] o L fun i b c d p=>
Br (decide (d=0))
(A1 p [] (fun a=>Z0 [b.v,VI c] ((a,[aD.v,VI 0])::L)) fun a j L=>
K (.tuple #[VI 0,VI 0,VB false]) j)
(A1 p [] (fun a=>Z0 [b.v,VI c] ((a,[aD.v,VI 0])::L)) fun a j L=>
K (.tuple #[VI i,VI d,VB true]) j)))
theorem ajd(b:Sl)(c:Sl)(d:Int)(h:Heap)(K:KQ)(H:ajc aB b c d h K):aG aB 136 #[(.agg #[b.v]),(.agg #[c.v,VI d])] h K:=cw mixed Tryz.func136 [] [.v (.a [.sl b]),.v (.a [.sl c,.i .i64 d])] [] [] .nil 25 (by kernel_rfl) H
def aje(P:Program)(a:Sl)(b:Int)(h:Heap)(K:KQ):Prop:=pk (
A1 h [] (fun c=>(c,[a.v])::[]) fun c e L=>
C1 VB P 121 #[(.agg #[a.v]),VI b] e L fun f d=>
Br (!f)
(K (.tuple #[VI 0,VB false]) d)
(C1 Sl.v P 183 #[(.agg #[a.v]),VI b] d L fun g i=>
C1 VI P 182 #[g.v] i L fun j k=>
K (.tuple #[VI j,VB true]) k))
theorem ajf(b:Sl)(c:Int)(h:Heap)(K:KQ)(H:aje aB b c h K):aG aB 137 #[(.agg #[b.v]),VI c] h K:=cw mixed Tryz.func137 [] [.v (.a [.sl b]),.v (.l (.i .i64 c))] [] [] .nil 14 (by kernel_rfl) H
def ajg(P:Program)(a:Sl)(b:Sl)(c:Int)(h:Heap)(K:KQ):Prop:=pk (
A2 h [] (fun f g=>(g,[b.v,VI c])::((f,[a.v])::[])) fun f g j L=>
C1 VB P 83 #[(.agg #[a.v]),(.agg #[b.v,VI c])] j L fun k i=>
Br (!k)
(K (.tuple #[aD.v,VB false]) i)
(C2 (fun d e=>(.tuple #[(Sl.v d),VB e])) P 184 #[(.agg #[a.v]),(.agg #[b.v,VI c])] i L fun d e l=>
K (.tuple #[d.v,VB e]) l))
theorem v138(b:Sl)(c:Sl)(d:Int)(h:Heap)(K:KQ)(H:ajg aB b c d h K):aG aB 138 #[(.agg #[b.v]),(.agg #[c.v,VI d])] h K:=cw mixed Tryz.func138 [] [.v (.a [.sl b]),.v (.a [.sl c,.i .i64 d])] [] [] .nil 15 (by kernel_rfl) H
def ajh(P:Program)(b:Sl)(c:Int)(f:Int)(g:Int)(h:Heap)(K:KQ):Prop:=pk (
A2 h [] (fun i a=>(a,[VI 0,VI 0])::((i,[b.v])::[])) fun i a p L=>
C1 VB P 185 #[(.agg #[b.v]),VI f,VI g] p L fun q j=>
Br (!q)
(A0 j [a] (Z0 [VI 0,VI 0] L) fun r L=>
K (.tuple #[(.agg #[VI 0,VI 0]),VB false]) r)
(C1 VB P 121 #[(.agg #[b.v]),VI c] j L fun s k=>
Br (!s)
(A0 k [a] (Z0 [VI 0,VI 0] L) fun t L=>
K (.tuple #[(.agg #[VI 0,VI 0]),VB false]) t)
(C1 Sl.v P 186 #[(.agg #[b.v]),VI f,VI g] k L fun l o=>
fq l c/\
∃d:Int,∃e:Int,pM o (Sl.at l c 2) [VI d,VI e]/\
A0 o [a] (Z0 [VI d,VI e] L) fun u L=>
K (.tuple #[(.agg #[VI d,VI e]),VB true]) u)))
theorem v139(b:Sl)(c:Int)(d:Int)(e:Int)(h:Heap)(K:KQ)(H:ajh aB b c d e h K):aG aB 139 #[(.agg #[b.v]),VI c,VI d,VI e] h K:=cw mixed Tryz.func139 [] [.v (.a [.sl b]),.v (.l (.i .i64 c)),.v (.l (.i .i64 d)),.v (.l (.i .i64 e))] [] [] .nil 29 (by kernel_rfl) H
def aji(P:Program)(a:Sl)(b:Int)(h:Heap)(K:KQ):Prop:=pk (
A1 h [] (fun c=>(c,[a.v])::[]) fun c e L=>
C1 VB P 187 #[(.agg #[a.v]),VI b] e L fun f d=>
Br (!f)
(K (.tuple #[aD.v,VB false]) d)
(C1 Sl.v P 188 #[(.agg #[a.v]),VI b] d L fun g i=>
K (.tuple #[g.v,VB true]) i))
theorem ajj(b:Sl)(c:Int)(h:Heap)(K:KQ)(H:aji aB b c h K):aG aB 140 #[(.agg #[b.v]),VI c] h K:=cw mixed Tryz.func140 [] [.v (.a [.sl b]),.v (.l (.i .i64 c))] [] [] .nil 13 (by kernel_rfl) H
def ajk(P:Program)(b:Int)(c:Int)(d:Int)(e:Int)(h:Heap)(K:KQ):Prop:=pk (
C1 VB P 189 #[VI b,VI c,VI d,VI e] h [] fun k f=>
Br (!k)
(K (.tuple #[VI 0,VB false]) f)
(C1 (fun a=>(.pointer a)) P 191 #[VI b,VI c,VI d,VI e] f [] fun a g=>
∃i:Nat,∃l:Int,∃o:Int,∃p:Int,∃q:Sl,∃j:Sl,∃r:Sl,∃s:Sl,a=some ⟨i,0,none⟩/\Va g ((i,[VI l,VI o,VI p,q.v,j.v,r.v,s.v])::[]) fun L=>
C1 VI P 190 #[j.v] g L fun t u=>
K (.tuple #[VI t,VB true]) u))
theorem v141(a:Int)(b:Int)(c:Int)(d:Int)(h:Heap)(K:KQ)(H:ajk aB a b c d h K):aG aB 141 #[VI a,VI b,VI c,VI d] h K:=cw mixed Tryz.func141 [] [.v (.l (.i .i64 a)),.v (.l (.i .i64 b)),.v (.l (.i .i64 c)),.v (.l (.i .i64 d))] [] [] .nil 25 (by kernel_rfl) H
def ajl(P:Program)(a:Int)(e:Int)(h:Heap)(K:KQ):Prop:=pk (
C1 VB P 192 #[VI a,VI e] h [] fun i b=>
Br (!i)
(K (.tuple #[aD.v,VB false]) b)
(Br (decide (a=0))
(K (.tuple #[aD.v,VB false]) b)
(C1 (fun c=>(.pointer c)) P 193 #[VI a,VI e] b [] fun c d=>
∃f:Nat,∃j:Sl,∃k:Sl,∃g:Sl,∃l:Int,c=some ⟨f,0,none⟩/\Va d ((f,[j.v,k.v,g.v,VI l])::[]) fun L=>
G1 Sl.v d g (aX (a-1)) 1 fun o=>
K (.tuple #[o.v,VB true]) d)))
theorem ajm(a:Int)(b:Int)(h:Heap)(K:KQ)(H:ajl aB a b h K):aG aB 142 #[VI a,VI b] h K:=cw mixed Tryz.func142 [] [.v (.l (.i .i64 a)),.v (.l (.i .i64 b))] [] [] .nil 24 (by kernel_rfl) H
def ajn(P:Program)(b:Int)(c:Nat)(a:Sl)(h:Heap)(K:KQ):Prop:=pk (
Lt [(c,[a.v])] fun L=>
C1 VB P 52 #[VI b,VI 0,(VI (aX ((a.n:Int)-1)))] h L fun d e=>
K (VB (!d)) e)
theorem ajo(b:Int)(a:Nat)(c:Sl)(h:Heap)(K:KQ)(hL:Vars h [(a,[c.v])])(H:ajn aB b a c h K):aG aB 147 #[VI b,(VP a 0)] h K:=cw mixed Tryz.func147 [] [.v (.l (.i .i64 b)),.v (.l (.p 0 0))] [(0,[.sl c])] [a] hL 11 (by kernel_rfl) H
def ajp(P:Program)(a:Sl)(h:Heap)(K:KQ):Prop:=pk (
Q1 VB P (od .eql 27 (.tmp 3) (.const (Value.slice none 0 0)) a.v (Value.slice none 0 0)) fun b=>
Br b
(K aD.v h)
(E1 Sl.v P (Instr.buildSlice 27 0 #[]) h [] fun c d=>
E1 Sl.v P (cD 27 27 27 c.v a.v) d [] fun e f=>
K e.v f))
theorem v152(a:Sl)(h:Heap)(K:KQ)(H:ajp aB a h K):aG aB 152 #[a.v] h K:=cw mixed Tryz.func152 [] [.v (.l (.sl a))] [] [] .nil 8 (by kernel_rfl) H
def ajq(P:Program)(p:ByteArray)(h:Heap)(K:KQ):Prop:=pk (
A2 h [] (fun a d=>Z0 [aD.v] ((d,[aD.v])::((a,[aD.v])::[]))) fun a d q L=>
C1 Sl.v P 81 #[VS p,(VS ({data:= #[59]}))] q L fun k r=>
O2 0 aD r fun s t(e:Int)(f:Sl) b=>
Vi b (Z0 [f.v] L) fun L=>
Br (decide (e<(k.n:Int)))
(G1 VS b k e 1 fun u=>
C2 (fun g i=>(.tuple #[(Sl.v g),VB i])) P 199 #[VS u] b L fun g i l=>
Br (!i)
(A0 l [a] (Z1 [aD.v] L) fun x L=>
K (.tuple #[(.agg #[aD.v]),VB false]) x)
(E1 Sl.v P (Instr.buildSlice 24 1 #[(0,g.v)]) l L fun y z=>
E1 Sl.v P (cD 24 24 24 f.v y.v) z L fun o a0=>
A0 a0 [d] (Z0 [o.v] L) fun a1 L=>
Nj t fun m=>s m (aX (e+1)) o a1))
(C2 (fun c j=>(.tuple #[(.agg #[(Sl.v c)]),VB j])) P 200 #[(.agg #[f.v])] b L fun c j a2=>
A0 a2 [a] (Z1 [c.v] L) fun a3 L=>
K (.tuple #[(.agg #[c.v]),VB j]) a3))
theorem ajr(a:ByteArray)(h:Heap)(K:KQ)(H:ajq aB a h K):aG aB 153 #[VS a] h K:=cw mixed Tryz.func153 [(58,⟨[⟨13,.l (.i .i64)⟩],[1],[]⟩)] [.v (.l (.s a))] [] [] .nil 36 (by kernel_rfl) H
def ajs(P:Program)(j:Nat)(a:Sl)(k:Sl)(l:Int)(b:Bool)(c:Sl)(d:Int)(e:Bool)(h:Heap)(K:KQ):Prop:=pk (
Lt [(j,[a.v,k.v,VI l,VB b])] fun L=>
A2 h [] (fun o f=>(f,[(VS (⟨#[]⟩:ByteArray)),VB false])::((o,[c.v,VI d])::L)) fun o f p L=>
∃g:Sl->Sl->Int->Bool->Heap->Prop,(Br e
(A0 p [j] (Z2 [a.v,c.v,VI d,VB b] L) fun x L=>
g a c d b x)
(g a k l b p))/\
∀(q:Sl)(r:Sl)(s:Int)(t:Bool)(i:Heap),g q r s t i->Vi i (Z2 [q.v,r.v,VI s,VB t] L) fun L=>
C1 VS P 55 #[(.agg #[c.v,VI d])] i L fun u y=>
A0 y [f] (Z0 [VS u,VB e] L) fun z L=>
K (.agg #[VS u,VB e]) z)
theorem ajt(c:Nat)(d:Sl)(e:Sl)(f:Int)(g:Bool)(j:Sl)(k:Int)(o:Bool)(h:Heap)(K:KQ)(hL:Vars h [(c,[d.v,e.v,VI f,VB g])])(H:ajs aB c d e f g j k o h K):aG aB 155 #[(VP c 0),(.agg #[j.v,VI k]),VB o] h K:=cw mixed Tryz.func155 [(3,⟨[],[0],[]⟩)] [.v (.l (.p 0 0)),.v (.a [.sl j,.i .i64 k]),.v (.l (.b o none))] [(0,[.sl d,.sl e,.i .i64 f,.b g none])] [c] hL 17 (by kernel_rfl) H
def aju(P:Program)(e:Sl)(f:Sl)(g:Int)(h:Heap)(K:KQ):Prop:=pk (
A3 h [] (fun i j c=>(c,[aD.v,VI 0])::((j,[f.v,VI g])::((i,[e.v])::[]))) fun i j c k L=>
C3 (fun a b d=>(.tuple #[(.agg #[(Sl.v a),VI b]),VB d])) P 161 #[(.agg #[e.v]),(.agg #[f.v,VI g]),VI 1] k L fun a b d l=>
A0 l [c] (Z0 [a.v,VI b] L) fun o L=>
K (.tuple #[(.agg #[a.v,VI b]),VB d]) o)
theorem ajv(b:Sl)(c:Sl)(d:Int)(h:Heap)(K:KQ)(H:aju aB b c d h K):aG aB 156 #[(.agg #[b.v]),(.agg #[c.v,VI d])] h K:=cw mixed Tryz.func156 [] [.v (.a [.sl b]),.v (.a [.sl c,.i .i64 d])] [] [] .nil 11 (by kernel_rfl) H
def ajw(P:Program)(a:Sl)(b:Sl)(c:Int)(h:Heap)(K:KQ):Prop:=pk (
A2 h [] (fun g i=>(i,[b.v,VI c])::((g,[a.v])::[])) fun g i k L=>
C1 VB P 77 #[(.agg #[a.v]),(.agg #[b.v,VI c])] k L fun l j=>
Br (!l)
(K (.tuple #[VI 0,VI 0,VB false]) j)
(C3 (fun d e f=>(.tuple #[VI d,VI e,VB f])) P 203 #[(.agg #[a.v]),(.agg #[b.v,VI c])] j L fun d e f o=>
K (.tuple #[VI d,VI e,VB f]) o))
theorem v157(b:Sl)(c:Sl)(d:Int)(h:Heap)(K:KQ)(H:ajw aB b c d h K):aG aB 157 #[(.agg #[b.v]),(.agg #[c.v,VI d])] h K:=cw mixed Tryz.func157 [] [.v (.a [.sl b]),.v (.a [.sl c,.i .i64 d])] [] [] .nil 17 (by kernel_rfl) H
def ajx(P:Program)(d:Sl)(b:Bool)(h:Heap)(K:KQ):Prop:=pk (
A1 h [] (fun a=>(a,[(VS (⟨#[]⟩:ByteArray)),VB false])::[]) fun a e L=>
C1 VS P 89 #[d.v] e L fun c f=>
A0 f [a] (Z0 [VS c,VB b] L) fun g L=>
K (.agg #[VS c,VB b]) g)
theorem ajy(a:Sl)(c:Bool)(h:Heap)(K:KQ)(H:ajx aB a c h K):aG aB 158 #[a.v,VB c] h K:=cw mixed Tryz.func158 [] [.v (.l (.sl a)),.v (.l (.b c none))] [] [] .nil 9 (by kernel_rfl) H
def ajz(P:Program)(a:Sl)(b:Sl)(c:Int)(h:Heap)(K:KQ):Prop:=pk (
A2 h [] (fun f g=>(g,[b.v,VI c])::((f,[a.v])::[])) fun f g j L=>
C1 VB P 77 #[(.agg #[a.v]),(.agg #[b.v,VI c])] j L fun k i=>
Br (!k)
(K (.tuple #[aD.v,VB false]) i)
(C2 (fun d e=>(.tuple #[(Sl.v d),VB e])) P 204 #[(.agg #[a.v]),b.v,VI c] i L fun d e l=>
K (.tuple #[d.v,VB e]) l))
theorem v159(b:Sl)(c:Sl)(d:Int)(h:Heap)(K:KQ)(H:ajz aB b c d h K):aG aB 159 #[(.agg #[b.v]),(.agg #[c.v,VI d])] h K:=cw mixed Tryz.func159 [] [.v (.a [.sl b]),.v (.a [.sl c,.i .i64 d])] [] [] .nil 18 (by kernel_rfl) H
def ajA(P:Program)(g:Nat)(i:Sl)(j:Sl)(k:Int)(p:Bool)(b:Int)(h:Heap)(K:KQ):Prop:=pk (
Lt [(g,[i.v,j.v,VI k,VB p])] fun L=>
A1 h [] (fun c=>(c,[(VS (⟨#[]⟩:ByteArray)),VB false])::L) fun c q L=>
C2 (fun a d=>(.agg #[(Sl.v a),VI d])) P 110 #[(.agg #[j.v,VI k])] q L fun a d r=>
A1 r [] (fun l=>Z0 [a.v,VI b] (Z0 [a.v,VI d] ((l,[aD.v,VI 0])::L))) fun l s L=>
E1 Sl.v P (Instr.buildSlice 27 1 #[(0,(VI b))]) s L fun t u=>
C1 VB P 107 #[(.agg #[i.v]),t.v] u L fun x y=>
aG P 155 #[(VP g 0),(.agg #[a.v,VI b]),VB x] y fun z o=>∃a0:Sl,∃a1:Sl,∃a2:Int,∃a3:Bool,∃e:ByteArray,∃f:Bool,z=(.agg #[VS e,VB f])/\Va o (Z2 [a0.v,a1.v,VI a2,VB a3] L) fun L=>
A0 o [c] (Z1 [VS e,VB f] L) fun a4 L=>
K (.agg #[VS e,VB f]) a4)
theorem v160(a:Nat)(c:Sl)(d:Sl)(e:Int)(f:Bool)(g:Int)(h:Heap)(K:KQ)(hL:Vars h [(a,[c.v,d.v,VI e,VB f])])(H:ajA aB a c d e f g h K):aG aB 160 #[(VP a 0),VI g] h K:=cw mixed Tryz.func160 [] [.v (.l (.p 0 0)),.v (.l (.i .i64 g))] [(0,[.sl c,.sl d,.i .i64 e,.b f none])] [a] hL 25 (by kernel_rfl) H
def ajB(P:Program)(b:Sl)(c:Sl)(d:Int)(l:Int)(h:Heap)(K:KQ):Prop:=pk (
A3 h [] (fun o p a=>(a,[aD.v,VI 0])::((p,[c.v,VI d])::((o,[b.v])::[]))) fun o p a s L=>
C1 VB P 205 #[(.agg #[b.v]),(.agg #[c.v,VI d]),VI l,VI 2000] s L fun t q=>
Br (!t)
(A0 q [a] (Z0 [aD.v,VI 0] L) fun u L=>
K (.tuple #[(.agg #[aD.v,VI 0]),VB false]) u)
(C2 (fun e f=>(.agg #[(Sl.v e),VI f])) P 110 #[(.agg #[c.v,VI d])] q L fun e f x=>
A1 x [] (fun g=>Z0 [e.v,VI f] ((g,[aD.v,VI 0])::L)) fun g y L=>
aG P 206 #[(.agg #[b.v]),(VP g 0),VI l,(Value.func (.func 207) #[] #[])] y fun z i=>∃j:Sl,∃k:Int,∃r:Bool,z=(VB r)/\Va i (Z0 [j.v,VI k] L) fun L=>
Br (!r)
(A0 i [a] (Z1 [aD.v,VI 0] L) fun a0 L=>
K (.tuple #[(.agg #[aD.v,VI 0]),VB false]) a0)
(A0 i [a] (Z1 [j.v,VI k] L) fun a1 L=>
K (.tuple #[(.agg #[j.v,VI k]),VB true]) a1)))
theorem ajC(b:Sl)(c:Sl)(d:Int)(e:Int)(h:Heap)(K:KQ)(H:ajB aB b c d e h K):aG aB 161 #[(.agg #[b.v]),(.agg #[c.v,VI d]),VI e] h K:=cw mixed Tryz.func161 [] [.v (.a [.sl b]),.v (.a [.sl c,.i .i64 d]),.v (.l (.i .i64 e))] [] [] .nil 23 (by kernel_rfl) H
def ajD(P:Program)(b2:Sl)(c:Sl)(a:Int)(bq:Int)(h:Heap)(K:KQ):Prop:=pk (
A2 h [] (fun br bs=>(bs,[c.v,VI a])::((br,[b2.v])::[])) fun br bs d0 L=>
C1 VB P 205 #[(.agg #[b2.v]),(.agg #[c.v,VI a]),VI bq,VI 200] d0 L fun d1 a7=>
Br (!d1)
(K (.tuple #[aD.v,VB false]) a7)
(∃b:Nat->Sl->Int->Nat->Sl->Heap->Prop,((C2 (fun d e=>(.agg #[(Sl.v d),VI e])) P 110 #[(.agg #[c.v,VI a])] a7 L fun d e b3=>
(E1 Sl.v P (Instr.buildSlice 27 1 #[(0,(VI a))]) b3 L fun a8 bt=>
(A2 bt [] (fun b4 b5=>Z0 [a8.v] (Z1 [d.v,VI e] ((b5,[aD.v])::((b4,[aD.v,VI 0])::L)))) fun b4 b5 d2 L=>
b b4 d e b5 a8 d2)/\
(A2 bt [] (fun b6 b7=>Z1 [a8.v] (Z0 [d.v,VI e] ((b7,[aD.v,VI 0])::((b6,[aD.v])::L)))) fun b6 b7 d3 L=>
b b7 d e b6 a8 d3))/\
(A1 b3 [] (fun j=>(j,[aD.v,VI 0])::L) fun j bu L=>
(E1 Sl.v P (Instr.buildSlice 27 1 #[(0,(VI a))]) bu L fun bv d4=>
A1 d4 [j] (fun b8=>Z0 [bv.v] (Z1 [d.v,VI e] ((b8,[aD.v])::L))) fun b8 d5 L=>
b j d e b8 bv d5)/\
(A1 bu [] (fun t=>(t,[aD.v])::L) fun t bw L=>
(E1 Sl.v P (Instr.buildSlice 27 1 #[(0,(VI a))]) bw L fun bx d6=>
A0 d6 [t,j] (Z0 [bx.v] (Z1 [d.v,VI e] L)) fun d7 L=>
b j d e t bx d7)/\
(A0 bw [j] (Z1 [d.v,VI e] L) fun d8 L=>
E1 Sl.v P (Instr.buildSlice 27 1 #[(0,(VI a))]) d8 L fun bz d9=>
A0 d9 [t] (Z0 [bz.v] L) fun da L=>
b j d e t bz da)))/\
(A1 b3 [] (fun k=>(k,[aD.v])::L) fun k c0 L=>
(E1 Sl.v P (Instr.buildSlice 27 1 #[(0,(VI a))]) c0 L fun c1 db=>
A1 db [k] (fun b9=>Z1 [c1.v] (Z0 [d.v,VI e] ((b9,[aD.v,VI 0])::L))) fun b9 dc L=>
b b9 d e k c1 dc)/\
(A1 c0 [] (fun u=>(u,[aD.v,VI 0])::L) fun u c2 L=>
(E1 Sl.v P (Instr.buildSlice 27 1 #[(0,(VI a))]) c2 L fun c3 dd=>
A0 dd [k,u] (Z1 [c3.v] (Z0 [d.v,VI e] L)) fun de L=>
b u d e k c3 de)/\
(A0 c2 [u] (Z0 [d.v,VI e] L) fun df L=>
E1 Sl.v P (Instr.buildSlice 27 1 #[(0,(VI a))]) df L fun c4 dg=>
A0 dg [k] (Z1 [c4.v] L) fun dh L=>
b u d e k c4 dh))))/\
(E1 Sl.v P (Instr.buildSlice 27 1 #[(0,(VI a))]) a7 L fun i ba=>
(C2 (fun x y=>(.agg #[(Sl.v x),VI y])) P 110 #[(.agg #[c.v,VI a])] ba L fun x y c5=>
(A2 c5 [] (fun bb bc=>Z0 [i.v] (Z1 [x.v,VI y] ((bc,[aD.v])::((bb,[aD.v,VI 0])::L)))) fun bb bc di L=>
b bb x y bc i di)/\
(A2 c5 [] (fun bd be=>Z1 [i.v] (Z0 [x.v,VI y] ((be,[aD.v,VI 0])::((bd,[aD.v])::L)))) fun bd be dj L=>
b be x y bd i dj))/\
(A1 ba [] (fun z=>(z,[aD.v,VI 0])::L) fun z c6 L=>
(C2 (fun a9 aa=>(.agg #[(Sl.v a9),VI aa])) P 110 #[(.agg #[c.v,VI a])] c6 L fun a9 aa dk=>
A1 dk [z] (fun bf=>Z0 [i.v] (Z1 [a9.v,VI aa] ((bf,[aD.v])::L))) fun bf dl L=>
b z a9 aa bf i dl)/\
(A1 c6 [] (fun ab=>(ab,[aD.v])::L) fun ab dm L=>
C2 (fun ac ad=>(.agg #[(Sl.v ac),VI ad])) P 110 #[(.agg #[c.v,VI a])] dm L fun ac ad dn=>
A0 dn [ab,z] (Z0 [i.v] (Z1 [ac.v,VI ad] L)) fun dp L=>
b z ac ad ab i dp))/\
(A1 ba [] (fun a0=>(a0,[aD.v])::L) fun a0 c7 L=>
(C2 (fun ae af=>(.agg #[(Sl.v ae),VI af])) P 110 #[(.agg #[c.v,VI a])] c7 L fun ae af dq=>
A1 dq [a0] (fun bg=>Z1 [i.v] (Z0 [ae.v,VI af] ((bg,[aD.v,VI 0])::L))) fun bg dr L=>
b bg ae af a0 i dr)/\
(A1 c7 [] (fun ag=>(ag,[aD.v,VI 0])::L) fun ag ds L=>
C2 (fun ah ai=>(.agg #[(Sl.v ah),VI ai])) P 110 #[(.agg #[c.v,VI a])] ds L fun ah ai dt=>
A0 dt [a0,ag] (Z1 [i.v] (Z0 [ah.v,VI ai] L)) fun du L=>
b ag ah ai a0 i du)))/\
(A1 a7 [] (fun f=>(f,[aD.v,VI 0])::L) fun f bh L=>
(C2 (fun l o=>(.agg #[(Sl.v l),VI o])) P 110 #[(.agg #[c.v,VI a])] bh L fun l o c8=>
(E1 Sl.v P (Instr.buildSlice 27 1 #[(0,(VI a))]) c8 L fun c9 dv=>
A1 dv [f] (fun bi=>Z0 [c9.v] (Z1 [l.v,VI o] ((bi,[aD.v])::L))) fun bi dw L=>
b f l o bi c9 dw)/\
(A1 c8 [] (fun a1=>(a1,[aD.v])::L) fun a1 ca L=>
(E1 Sl.v P (Instr.buildSlice 27 1 #[(0,(VI a))]) ca L fun cb dx=>
A0 dx [a1,f] (Z0 [cb.v] (Z1 [l.v,VI o] L)) fun dy L=>
b f l o a1 cb dy)/\
(A0 ca [f] (Z1 [l.v,VI o] L) fun dz L=>
E1 Sl.v P (Instr.buildSlice 27 1 #[(0,(VI a))]) dz L fun cc e0=>
A0 e0 [a1] (Z0 [cc.v] L) fun e1 L=>
b f l o a1 cc e1)))/\
(E1 Sl.v P (Instr.buildSlice 27 1 #[(0,(VI a))]) bh L fun aj cd=>
(C2 (fun ak al=>(.agg #[(Sl.v ak),VI al])) P 110 #[(.agg #[c.v,VI a])] cd L fun ak al e2=>
A1 e2 [f] (fun bj=>Z0 [aj.v] (Z1 [ak.v,VI al] ((bj,[aD.v])::L))) fun bj e3 L=>
b f ak al bj aj e3)/\
(A1 cd [] (fun am=>(am,[aD.v])::L) fun am e4 L=>
C2 (fun an ao=>(.agg #[(Sl.v an),VI ao])) P 110 #[(.agg #[c.v,VI a])] e4 L fun an ao e5=>
A0 e5 [am,f] (Z0 [aj.v] (Z1 [an.v,VI ao] L)) fun e6 L=>
b f an ao am aj e6))/\
(A1 bh [] (fun p=>(p,[aD.v])::L) fun p ce L=>
(C2 (fun a2 a3=>(.agg #[(Sl.v a2),VI a3])) P 110 #[(.agg #[c.v,VI a])] ce L fun a2 a3 cf=>
(E1 Sl.v P (Instr.buildSlice 27 1 #[(0,(VI a))]) cf L fun cg e7=>
A0 e7 [p,f] (Z0 [cg.v] (Z1 [a2.v,VI a3] L)) fun e8 L=>
b f a2 a3 p cg e8)/\
(A0 cf [f] (Z1 [a2.v,VI a3] L) fun e9 L=>
E1 Sl.v P (Instr.buildSlice 27 1 #[(0,(VI a))]) e9 L fun ch ea=>
A0 ea [p] (Z0 [ch.v] L) fun eb L=>
b f a2 a3 p ch eb))/\
(E1 Sl.v P (Instr.buildSlice 27 1 #[(0,(VI a))]) ce L fun ci ec=>
C2 (fun ap aq=>(.agg #[(Sl.v ap),VI aq])) P 110 #[(.agg #[c.v,VI a])] ec L fun ap aq ed=>
A0 ed [p,f] (Z0 [ci.v] (Z1 [ap.v,VI aq] L)) fun ee L=>
b f ap aq p ci ee)))/\
(A1 a7 [] (fun g=>(g,[aD.v])::L) fun g bk L=>
(C2 (fun q r=>(.agg #[(Sl.v q),VI r])) P 110 #[(.agg #[c.v,VI a])] bk L fun q r cj=>
(E1 Sl.v P (Instr.buildSlice 27 1 #[(0,(VI a))]) cj L fun ck ef=>
A1 ef [g] (fun bl=>Z1 [ck.v] (Z0 [q.v,VI r] ((bl,[aD.v,VI 0])::L))) fun bl eg L=>
b bl q r g ck eg)/\
(A1 cj [] (fun a4=>(a4,[aD.v,VI 0])::L) fun a4 cl L=>
(E1 Sl.v P (Instr.buildSlice 27 1 #[(0,(VI a))]) cl L fun cm eh=>
A0 eh [g,a4] (Z1 [cm.v] (Z0 [q.v,VI r] L)) fun ei L=>
b a4 q r g cm ei)/\
(A0 cl [a4] (Z0 [q.v,VI r] L) fun ej L=>
E1 Sl.v P (Instr.buildSlice 27 1 #[(0,(VI a))]) ej L fun cn ek=>
A0 ek [g] (Z1 [cn.v] L) fun el L=>
b a4 q r g cn el)))/\
(E1 Sl.v P (Instr.buildSlice 27 1 #[(0,(VI a))]) bk L fun ar co=>
(C2 (fun au av=>(.agg #[(Sl.v au),VI av])) P 110 #[(.agg #[c.v,VI a])] co L fun au av em=>
A1 em [g] (fun bm=>Z1 [ar.v] (Z0 [au.v,VI av] ((bm,[aD.v,VI 0])::L))) fun bm en L=>
b bm au av g ar en)/\
(A1 co [] (fun aw=>(aw,[aD.v,VI 0])::L) fun aw eo L=>
C2 (fun ax ay=>(.agg #[(Sl.v ax),VI ay])) P 110 #[(.agg #[c.v,VI a])] eo L fun ax ay ep=>
A0 ep [g,aw] (Z1 [ar.v] (Z0 [ax.v,VI ay] L)) fun eq L=>
b aw ax ay g ar eq))/\
(A1 bk [] (fun s=>(s,[aD.v,VI 0])::L) fun s cp L=>
(C2 (fun a5 a6=>(.agg #[(Sl.v a5),VI a6])) P 110 #[(.agg #[c.v,VI a])] cp L fun a5 a6 cq=>
(E1 Sl.v P (Instr.buildSlice 27 1 #[(0,(VI a))]) cq L fun cr er=>
A0 er [g,s] (Z1 [cr.v] (Z0 [a5.v,VI a6] L)) fun es L=>
b s a5 a6 g cr es)/\
(A0 cq [s] (Z0 [a5.v,VI a6] L) fun et L=>
E1 Sl.v P (Instr.buildSlice 27 1 #[(0,(VI a))]) et L fun cs eu=>
A0 eu [g] (Z1 [cs.v] L) fun ev L=>
b s a5 a6 g cs ev))/\
(E1 Sl.v P (Instr.buildSlice 27 1 #[(0,(VI a))]) cp L fun ct ew=>
C2 (fun az b0=>(.agg #[(Sl.v az),VI b0])) P 110 #[(.agg #[c.v,VI a])] ew L fun az b0 ex=>
A0 ex [g,s] (Z1 [ct.v] (Z0 [az.v,VI b0] L)) fun ey L=>
b s az b0 g ct ey))))/\
∀(b1:Nat)(cu:Sl)(cv:Int)(bn:Nat)(cx:Sl)(bo:Heap),b b1 cu cv bn cx bo->Vi bo ((bn,[cx.v])::((b1,[cu.v,VI cv])::L)) fun L=>
aG P 206 #[(.agg #[b2.v]),(VP b1 0),VI bq,(Value.func (Fn.func 208) #[] #[(VP bn 0),(VP b1 0)])] bo fun ez bp=>∃cy:Sl,∃f0:Sl,∃f1:Int,∃cz:Bool,ez=(VB cz)/\Va bp (Z1 [f0.v,VI f1] (Z0 [cy.v] L)) fun L=>
Br (!cz)
(K (.tuple #[aD.v,VB false]) bp)
(K (.tuple #[cy.v,VB true]) bp)))
theorem v162(b:Sl)(c:Sl)(d:Int)(e:Int)(h:Heap)(K:KQ)(H:ajD aB b c d e h K):aG aB 162 #[(.agg #[b.v]),(.agg #[c.v,VI d]),VI e] h K:=cw mixed Tryz.func162 [(7,⟨[],[],[(8,[.sl,.i .i64]),(9,[.sl])]⟩)] [.v (.a [.sl b]),.v (.a [.sl c,.i .i64 d]),.v (.l (.i .i64 e))] [] [] .nil 26 (by kernel_rfl) H
def ajE(P:Program)(a:Sl)(c:Sl)(d:Int)(bq:Int)(h:Heap)(K:KQ):Prop:=pk (
A2 h [] (fun br bs=>(bs,[c.v,VI d])::((br,[a.v])::[])) fun br bs d0 L=>
C1 VB P 205 #[(.agg #[a.v]),(.agg #[c.v,VI d]),VI bq,VI 2000] d0 L fun d1 a8=>
Br (!d1)
(K (.tuple #[aD.v,VB false]) a8)
(∃b:Nat->Sl->Int->Nat->Sl->Heap->Prop,((C2 (fun e f=>(.agg #[(Sl.v e),VI f])) P 110 #[(.agg #[c.v,VI d])] a8 L fun e f b3=>
(E1 Sl.v P (Instr.makeSlice 27 (VI (a.n:Int)) (VI (a.n:Int))) b3 L fun a9 bt=>
(A2 bt [] (fun b4 b5=>Z0 [a9.v] (Z1 [e.v,VI f] ((b5,[aD.v])::((b4,[aD.v,VI 0])::L)))) fun b4 b5 d2 L=>
b b4 e f b5 a9 d2)/\
(A2 bt [] (fun b6 b7=>Z1 [a9.v] (Z0 [e.v,VI f] ((b7,[aD.v,VI 0])::((b6,[aD.v])::L)))) fun b6 b7 d3 L=>
b b7 e f b6 a9 d3))/\
(A1 b3 [] (fun k=>(k,[aD.v,VI 0])::L) fun k bu L=>
(E1 Sl.v P (Instr.makeSlice 27 (VI (a.n:Int)) (VI (a.n:Int))) bu L fun bv d4=>
A1 d4 [k] (fun b8=>Z0 [bv.v] (Z1 [e.v,VI f] ((b8,[aD.v])::L))) fun b8 d5 L=>
b k e f b8 bv d5)/\
(A1 bu [] (fun u=>(u,[aD.v])::L) fun u bw L=>
(E1 Sl.v P (Instr.makeSlice 27 (VI (a.n:Int)) (VI (a.n:Int))) bw L fun bx d6=>
A0 d6 [u,k] (Z0 [bx.v] (Z1 [e.v,VI f] L)) fun d7 L=>
b k e f u bx d7)/\
(A0 bw [k] (Z1 [e.v,VI f] L) fun d8 L=>
E1 Sl.v P (Instr.makeSlice 27 (VI (a.n:Int)) (VI (a.n:Int))) d8 L fun bz d9=>
A0 d9 [u] (Z0 [bz.v] L) fun da L=>
b k e f u bz da)))/\
(A1 b3 [] (fun l=>(l,[aD.v])::L) fun l c0 L=>
(E1 Sl.v P (Instr.makeSlice 27 (VI (a.n:Int)) (VI (a.n:Int))) c0 L fun c1 db=>
A1 db [l] (fun b9=>Z1 [c1.v] (Z0 [e.v,VI f] ((b9,[aD.v,VI 0])::L))) fun b9 dc L=>
b b9 e f l c1 dc)/\
(A1 c0 [] (fun x=>(x,[aD.v,VI 0])::L) fun x c2 L=>
(E1 Sl.v P (Instr.makeSlice 27 (VI (a.n:Int)) (VI (a.n:Int))) c2 L fun c3 dd=>
A0 dd [l,x] (Z1 [c3.v] (Z0 [e.v,VI f] L)) fun de L=>
b x e f l c3 de)/\
(A0 c2 [x] (Z0 [e.v,VI f] L) fun df L=>
E1 Sl.v P (Instr.makeSlice 27 (VI (a.n:Int)) (VI (a.n:Int))) df L fun c4 dg=>
A0 dg [l] (Z1 [c4.v] L) fun dh L=>
b x e f l c4 dh))))/\
(E1 Sl.v P (Instr.makeSlice 27 (VI (a.n:Int)) (VI (a.n:Int))) a8 L fun j ba=>
(C2 (fun y z=>(.agg #[(Sl.v y),VI z])) P 110 #[(.agg #[c.v,VI d])] ba L fun y z c5=>
(A2 c5 [] (fun bb bc=>Z0 [j.v] (Z1 [y.v,VI z] ((bc,[aD.v])::((bb,[aD.v,VI 0])::L)))) fun bb bc di L=>
b bb y z bc j di)/\
(A2 c5 [] (fun bd be=>Z1 [j.v] (Z0 [y.v,VI z] ((be,[aD.v,VI 0])::((bd,[aD.v])::L)))) fun bd be dj L=>
b be y z bd j dj))/\
(A1 ba [] (fun a0=>(a0,[aD.v,VI 0])::L) fun a0 c6 L=>
(C2 (fun aa ab=>(.agg #[(Sl.v aa),VI ab])) P 110 #[(.agg #[c.v,VI d])] c6 L fun aa ab dk=>
A1 dk [a0] (fun bf=>Z0 [j.v] (Z1 [aa.v,VI ab] ((bf,[aD.v])::L))) fun bf dl L=>
b a0 aa ab bf j dl)/\
(A1 c6 [] (fun ac=>(ac,[aD.v])::L) fun ac dm L=>
C2 (fun ad ae=>(.agg #[(Sl.v ad),VI ae])) P 110 #[(.agg #[c.v,VI d])] dm L fun ad ae dn=>
A0 dn [ac,a0] (Z0 [j.v] (Z1 [ad.v,VI ae] L)) fun dp L=>
b a0 ad ae ac j dp))/\
(A1 ba [] (fun a1=>(a1,[aD.v])::L) fun a1 c7 L=>
(C2 (fun af ag=>(.agg #[(Sl.v af),VI ag])) P 110 #[(.agg #[c.v,VI d])] c7 L fun af ag dq=>
A1 dq [a1] (fun bg=>Z1 [j.v] (Z0 [af.v,VI ag] ((bg,[aD.v,VI 0])::L))) fun bg dr L=>
b bg af ag a1 j dr)/\
(A1 c7 [] (fun ah=>(ah,[aD.v,VI 0])::L) fun ah ds L=>
C2 (fun ai aj=>(.agg #[(Sl.v ai),VI aj])) P 110 #[(.agg #[c.v,VI d])] ds L fun ai aj dt=>
A0 dt [a1,ah] (Z1 [j.v] (Z0 [ai.v,VI aj] L)) fun du L=>
b ah ai aj a1 j du)))/\
(A1 a8 [] (fun g=>(g,[aD.v,VI 0])::L) fun g bh L=>
(C2 (fun o p=>(.agg #[(Sl.v o),VI p])) P 110 #[(.agg #[c.v,VI d])] bh L fun o p c8=>
(E1 Sl.v P (Instr.makeSlice 27 (VI (a.n:Int)) (VI (a.n:Int))) c8 L fun c9 dv=>
A1 dv [g] (fun bi=>Z0 [c9.v] (Z1 [o.v,VI p] ((bi,[aD.v])::L))) fun bi dw L=>
b g o p bi c9 dw)/\
(A1 c8 [] (fun a2=>(a2,[aD.v])::L) fun a2 ca L=>
(E1 Sl.v P (Instr.makeSlice 27 (VI (a.n:Int)) (VI (a.n:Int))) ca L fun cb dx=>
A0 dx [a2,g] (Z0 [cb.v] (Z1 [o.v,VI p] L)) fun dy L=>
b g o p a2 cb dy)/\
(A0 ca [g] (Z1 [o.v,VI p] L) fun dz L=>
E1 Sl.v P (Instr.makeSlice 27 (VI (a.n:Int)) (VI (a.n:Int))) dz L fun cc e0=>
A0 e0 [a2] (Z0 [cc.v] L) fun e1 L=>
b g o p a2 cc e1)))/\
(E1 Sl.v P (Instr.makeSlice 27 (VI (a.n:Int)) (VI (a.n:Int))) bh L fun ak cd=>
(C2 (fun al am=>(.agg #[(Sl.v al),VI am])) P 110 #[(.agg #[c.v,VI d])] cd L fun al am e2=>
A1 e2 [g] (fun bj=>Z0 [ak.v] (Z1 [al.v,VI am] ((bj,[aD.v])::L))) fun bj e3 L=>
b g al am bj ak e3)/\
(A1 cd [] (fun an=>(an,[aD.v])::L) fun an e4 L=>
C2 (fun ao ap=>(.agg #[(Sl.v ao),VI ap])) P 110 #[(.agg #[c.v,VI d])] e4 L fun ao ap e5=>
A0 e5 [an,g] (Z0 [ak.v] (Z1 [ao.v,VI ap] L)) fun e6 L=>
b g ao ap an ak e6))/\
(A1 bh [] (fun q=>(q,[aD.v])::L) fun q ce L=>
(C2 (fun a3 a4=>(.agg #[(Sl.v a3),VI a4])) P 110 #[(.agg #[c.v,VI d])] ce L fun a3 a4 cf=>
(E1 Sl.v P (Instr.makeSlice 27 (VI (a.n:Int)) (VI (a.n:Int))) cf L fun cg e7=>
A0 e7 [q,g] (Z0 [cg.v] (Z1 [a3.v,VI a4] L)) fun e8 L=>
b g a3 a4 q cg e8)/\
(A0 cf [g] (Z1 [a3.v,VI a4] L) fun e9 L=>
E1 Sl.v P (Instr.makeSlice 27 (VI (a.n:Int)) (VI (a.n:Int))) e9 L fun ch ea=>
A0 ea [q] (Z0 [ch.v] L) fun eb L=>
b g a3 a4 q ch eb))/\
(E1 Sl.v P (Instr.makeSlice 27 (VI (a.n:Int)) (VI (a.n:Int))) ce L fun ci ec=>
C2 (fun aq ar=>(.agg #[(Sl.v aq),VI ar])) P 110 #[(.agg #[c.v,VI d])] ec L fun aq ar ed=>
A0 ed [q,g] (Z0 [ci.v] (Z1 [aq.v,VI ar] L)) fun ee L=>
b g aq ar q ci ee)))/\
(A1 a8 [] (fun i=>(i,[aD.v])::L) fun i bk L=>
(C2 (fun r s=>(.agg #[(Sl.v r),VI s])) P 110 #[(.agg #[c.v,VI d])] bk L fun r s cj=>
(E1 Sl.v P (Instr.makeSlice 27 (VI (a.n:Int)) (VI (a.n:Int))) cj L fun ck ef=>
A1 ef [i] (fun bl=>Z1 [ck.v] (Z0 [r.v,VI s] ((bl,[aD.v,VI 0])::L))) fun bl eg L=>
b bl r s i ck eg)/\
(A1 cj [] (fun a5=>(a5,[aD.v,VI 0])::L) fun a5 cl L=>
(E1 Sl.v P (Instr.makeSlice 27 (VI (a.n:Int)) (VI (a.n:Int))) cl L fun cm eh=>
A0 eh [i,a5] (Z1 [cm.v] (Z0 [r.v,VI s] L)) fun ei L=>
b a5 r s i cm ei)/\
(A0 cl [a5] (Z0 [r.v,VI s] L) fun ej L=>
E1 Sl.v P (Instr.makeSlice 27 (VI (a.n:Int)) (VI (a.n:Int))) ej L fun cn ek=>
A0 ek [i] (Z1 [cn.v] L) fun el L=>
b a5 r s i cn el)))/\
(E1 Sl.v P (Instr.makeSlice 27 (VI (a.n:Int)) (VI (a.n:Int))) bk L fun au co=>
(C2 (fun av aw=>(.agg #[(Sl.v av),VI aw])) P 110 #[(.agg #[c.v,VI d])] co L fun av aw em=>
A1 em [i] (fun bm=>Z1 [au.v] (Z0 [av.v,VI aw] ((bm,[aD.v,VI 0])::L))) fun bm en L=>
b bm av aw i au en)/\
(A1 co [] (fun ax=>(ax,[aD.v,VI 0])::L) fun ax eo L=>
C2 (fun ay az=>(.agg #[(Sl.v ay),VI az])) P 110 #[(.agg #[c.v,VI d])] eo L fun ay az ep=>
A0 ep [i,ax] (Z1 [au.v] (Z0 [ay.v,VI az] L)) fun eq L=>
b ax ay az i au eq))/\
(A1 bk [] (fun t=>(t,[aD.v,VI 0])::L) fun t cp L=>
(C2 (fun a6 a7=>(.agg #[(Sl.v a6),VI a7])) P 110 #[(.agg #[c.v,VI d])] cp L fun a6 a7 cq=>
(E1 Sl.v P (Instr.makeSlice 27 (VI (a.n:Int)) (VI (a.n:Int))) cq L fun cr er=>
A0 er [i,t] (Z1 [cr.v] (Z0 [a6.v,VI a7] L)) fun es L=>
b t a6 a7 i cr es)/\
(A0 cq [t] (Z0 [a6.v,VI a7] L) fun et L=>
E1 Sl.v P (Instr.makeSlice 27 (VI (a.n:Int)) (VI (a.n:Int))) et L fun cs eu=>
A0 eu [i] (Z1 [cs.v] L) fun ev L=>
b t a6 a7 i cs ev))/\
(E1 Sl.v P (Instr.makeSlice 27 (VI (a.n:Int)) (VI (a.n:Int))) cp L fun ct ew=>
C2 (fun b0 b1=>(.agg #[(Sl.v b0),VI b1])) P 110 #[(.agg #[c.v,VI d])] ew L fun b0 b1 ex=>
A0 ex [i,t] (Z1 [ct.v] (Z0 [b0.v,VI b1] L)) fun ey L=>
b t b0 b1 i ct ey))))/\
∀(b2:Nat)(cu:Sl)(cv:Int)(bn:Nat)(cx:Sl)(bo:Heap),b b2 cu cv bn cx bo->Vi bo ((bn,[cx.v])::((b2,[cu.v,VI cv])::L)) fun L=>
aG P 206 #[(.agg #[a.v]),(VP b2 0),VI bq,(Value.func (Fn.func 209) #[] #[(VP bn 0),(VP b2 0)])] bo fun ez bp=>∃cy:Sl,∃f0:Sl,∃f1:Int,∃cz:Bool,ez=(VB cz)/\Va bp (Z1 [f0.v,VI f1] (Z0 [cy.v] L)) fun L=>
Br (!cz)
(K (.tuple #[aD.v,VB false]) bp)
(K (.tuple #[cy.v,VB true]) bp)))
theorem ajF(b:Sl)(c:Sl)(d:Int)(e:Int)(h:Heap)(K:KQ)(H:ajE aB b c d e h K):aG aB 163 #[(.agg #[b.v]),(.agg #[c.v,VI d]),VI e] h K:=cw mixed Tryz.func163 [(7,⟨[],[],[(8,[.sl,.i .i64]),(9,[.sl])]⟩)] [.v (.a [.sl b]),.v (.a [.sl c,.i .i64 d]),.v (.l (.i .i64 e))] [] [] .nil 27 (by kernel_rfl) H
def ajG(P:Program)(a:Sl)(b:Sl)(c:Int)(e:Int)(h:Heap)(K:KQ):Prop:=pk (
A3 h [] (fun f g d=>(d,[VI e])::((g,[b.v,VI c])::((f,[a.v])::[]))) fun f g d p L=>
C1 VB P 77 #[(.agg #[a.v]),(.agg #[b.v,VI c])] p L fun q i=>
Br (!q)
(K (.tuple #[VI 0,VB false]) i)
(E1 Sl.v P (Instr.buildSlice 27 1 #[(0,(VI e))]) i L fun r s=>
C1 VB P 107 #[(.agg #[a.v]),r.v] s L fun t j=>
Br (!t)
(K (.tuple #[VI 0,VB false]) j)
(aG P 210 #[(.agg #[a.v]),(.agg #[b.v,VI c]),VI 0,(Value.func (Fn.func 211) #[] #[(VP d 0)])] j fun u k=>∃x:Int,∃l:Int,∃o:Bool,u=(.tuple #[VI l,VB o])/\Va k (Z0 [VI x] L) fun L=>
K (.tuple #[VI l,VB o]) k)))
theorem v164(b:Sl)(c:Sl)(d:Int)(e:Int)(h:Heap)(K:KQ)(H:ajG aB b c d e h K):aG aB 164 #[(.agg #[b.v]),(.agg #[c.v,VI d]),VI e] h K:=cw mixed Tryz.func164 [] [.v (.a [.sl b]),.v (.a [.sl c,.i .i64 d]),.v (.l (.i .i64 e))] [] [] .nil 25 (by kernel_rfl) H
def ajH(P:Program)(a:Sl)(b:Int)(h:Heap)(K:KQ):Prop:=pk (
A1 h [] (fun c=>(c,[a.v])::[]) fun c e L=>
E1 Sl.v P (Instr.buildSlice 27 1 #[(0,(VI b))]) e L fun f g=>
C1 VB P 107 #[(.agg #[a.v]),f.v] g L fun i d=>
Br (!i)
(K (.tuple #[VI 0,VB false]) d)
(C1 Sl.v P 213 #[(.agg #[a.v]),VI b] d L fun j k=>
C1 VI P 212 #[j.v] k L fun l o=>
K (.tuple #[VI l,VB true]) o))
theorem ajI(b:Sl)(c:Int)(h:Heap)(K:KQ)(H:ajH aB b c h K):aG aB 165 #[(.agg #[b.v]),VI c] h K:=cw mixed Tryz.func165 [] [.v (.a [.sl b]),.v (.l (.i .i64 c))] [] [] .nil 15 (by kernel_rfl) H
def ajJ(P:Program)(a:Sl)(b:Int)(h:Heap)(K:KQ):Prop:=pk (
A1 h [] (fun c=>(c,[a.v])::[]) fun c e L=>
C1 VB P 214 #[(.agg #[a.v]),VI b] e L fun f d=>
Br (!f)
(K (.tuple #[aD.v,VB false]) d)
(C1 Sl.v P 215 #[(.agg #[a.v]),VI b] d L fun g i=>
K (.tuple #[g.v,VB true]) i))
theorem ajK(b:Sl)(c:Int)(h:Heap)(K:KQ)(H:ajJ aB b c h K):aG aB 166 #[(.agg #[b.v]),VI c] h K:=cw mixed Tryz.func166 [] [.v (.a [.sl b]),.v (.l (.i .i64 c))] [] [] .nil 13 (by kernel_rfl) H
def ajL(P:Program)(k:Nat)(f:Sl)(c:Sl)(d:Int)(e:Bool)(u:Int)(x:Int)(h:Heap)(K:KQ):Prop:=pk (
Lt [(k,[f.v,c.v,VI d,VB e])] fun L=>
A1 h [] (fun g=>(g,[(VS (⟨#[]⟩:ByteArray)),VB false])::L) fun g y L=>
C2 (fun a b=>(.tuple #[(.agg #[(Sl.v a)]),VB b])) P 216 #[(.agg #[f.v]),VI u,VI x] y L fun a b z=>
A1 z [] (fun l=>Z0 [a.v] ((l,[aD.v])::L)) fun l o L=>
∃i:Sl->Sl->Int->Bool->Heap->Prop,(Br b
(A0 o [k] (Z2 [a.v,c.v,VI d,VB e] L) fun a0 L=>
i a c d e a0)
(i f c d e o))/\
∀(p:Sl)(q:Sl)(r:Int)(s:Bool)(j:Heap),i p q r s j->Vi j (Z2 [p.v,q.v,VI r,VB s] L) fun L=>
C1 VS P 51 #[(.agg #[a.v])] j L fun t a1=>
A0 a1 [g] (Z1 [VS t,VB b] L) fun a2 L=>
K (.agg #[VS t,VB b]) a2)
theorem v167(a:Nat)(c:Sl)(d:Sl)(e:Int)(f:Bool)(g:Int)(j:Int)(h:Heap)(K:KQ)(hL:Vars h [(a,[c.v,d.v,VI e,VB f])])(H:ajL aB a c d e f g j h K):aG aB 167 #[(VP a 0),VI g,VI j] h K:=cw mixed Tryz.func167 [(7,⟨[],[0],[]⟩)] [.v (.l (.p 0 0)),.v (.l (.i .i64 g)),.v (.l (.i .i64 j))] [(0,[.sl c,.sl d,.i .i64 e,.b f none])] [a] hL 30 (by kernel_rfl) H
def ajM(P:Program)(j:Nat)(e:Sl)(k:Sl)(l:Int)(s:Bool)(c:Int)(o:Int)(h:Heap)(K:KQ):Prop:=pk (
Lt [(j,[e.v,k.v,VI l,VB s])] fun L=>
A1 h [] (fun b=>(b,[(VS (⟨#[]⟩:ByteArray)),VB false])::L) fun b t L=>
E1 Sl.v P (Instr.buildSlice 27 1 #[(0,(VI c))]) t L fun u x=>
C1 VB P 107 #[(.agg #[e.v]),u.v] x L fun y f=>
Br (!y)
(A0 f [b] (Z0 [(VS (⟨#[]⟩:ByteArray)),VB false] L) fun z L=>
K (.agg #[(VS (⟨#[]⟩:ByteArray)),VB false]) z)
(G1 Sl.v f e c 1 fun a0=>
C1 VB P 52 #[VI o,VI 0,(VI (aX ((a0.n:Int)-1)))] f L fun a1 p=>
Br (!a1)
(A0 p [b] (Z0 [(VS (⟨#[]⟩:ByteArray)),VB false] L) fun a2 L=>
K (.agg #[(VS (⟨#[]⟩:ByteArray)),VB false]) a2)
(C2 (fun a d=>(.agg #[(Sl.v a),VI d])) P 110 #[(.agg #[k.v,VI l])] p L fun a d a3=>
fq a c/\
A1 a3 [] (fun q=>Z0 [a.v,VI d] ((q,[aD.v,VI 0])::L)) fun q a4 L=>
S1 a4 (Sl.at a c 1) (VI o) L fun a5=>
aG P 155 #[(VP j 0),(.agg #[a.v,VI d]),VB true] a5 fun a6 r=>∃a7:Sl,∃a8:Sl,∃a9:Int,∃aa:Bool,∃g:ByteArray,∃i:Bool,a6=(.agg #[VS g,VB i])/\Va r (Z2 [a7.v,a8.v,VI a9,VB aa] L) fun L=>
A0 r [b] (Z1 [VS g,VB i] L) fun ab L=>
K (.agg #[VS g,VB i]) ab)))
theorem v168(a:Nat)(c:Sl)(d:Sl)(e:Int)(f:Bool)(g:Int)(j:Int)(h:Heap)(K:KQ)(hL:Vars h [(a,[c.v,d.v,VI e,VB f])])(H:ajM aB a c d e f g j h K):aG aB 168 #[(VP a 0),VI g,VI j] h K:=cw mixed Tryz.func168 [] [.v (.l (.p 0 0)),.v (.l (.i .i64 g)),.v (.l (.i .i64 j))] [(0,[.sl c,.sl d,.i .i64 e,.b f none])] [a] hL 48 (by kernel_rfl) H
def ajN(P:Program)(b:Sl)(g:Int)(i:Int)(j:Int)(h:Heap)(K:KQ):Prop:=pk (
A2 h [] (fun k a=>(a,[VI 0,VI 0])::((k,[b.v])::[])) fun k a q L=>
C1 VB P 217 #[(.agg #[b.v]),VI i,VI j] q L fun r l=>
Br (!r)
(A0 l [a] (Z0 [VI 0,VI 0] L) fun s L=>
K (.tuple #[(.agg #[VI 0,VI 0]),VB false]) s)
(E1 Sl.v P (Instr.buildSlice 27 1 #[(0,(VI g))]) l L fun t u=>
C1 VB P 107 #[(.agg #[b.v]),t.v] u L fun x o=>
Br (!x)
(A0 o [a] (Z0 [VI 0,VI 0] L) fun y L=>
K (.tuple #[(.agg #[VI 0,VI 0]),VB false]) y)
(C2 (fun e f=>(.tuple #[(Sl.v e),VI f])) P 218 #[(.agg #[b.v]),VI i,VI j] o L fun e f p=>
G1 VI p e g 1 fun z=>
C2 (fun c d=>(.agg #[VI c,VI d])) P 219 #[VI z,VI f] p L fun c d a0=>
A0 a0 [a] (Z0 [VI c,VI d] L) fun a1 L=>
K (.tuple #[(.agg #[VI c,VI d]),VB true]) a1)))
theorem ajO(b:Sl)(c:Int)(d:Int)(e:Int)(h:Heap)(K:KQ)(H:ajN aB b c d e h K):aG aB 169 #[(.agg #[b.v]),VI c,VI d,VI e] h K:=cw mixed Tryz.func169 [] [.v (.a [.sl b]),.v (.l (.i .i64 c)),.v (.l (.i .i64 d)),.v (.l (.i .i64 e))] [] [] .nil 38 (by kernel_rfl) H
def ajP(P:Program)(b:Int)(k:Int)(h:Heap)(K:KQ):Prop:=pk (
C2 (fun c d=>(.tuple #[(.pointer c),VB d])) P 220 #[VI b,VI k] h [] fun c d a=>
Br (!d)
(K (.tuple #[aD.v,VB false]) a)
(Br (decide (b=0))
(K (.tuple #[aD.v,VB false]) a)
(∃i:Nat,∃l:Option Nat,∃e:Sl,∃o:Int,c=some ⟨i,0,none⟩/\Va a ((i,[(Value.map l),e.v,VI o])::[]) fun L=>
fq e (aX (b-1))/\
∃f:Int,∃g:Int,pM a (Sl.at e (aX (b-1)) 2) [VI f,VI g]/\
A1 a [] (fun j=>Z0 [VI f,VI g] ((j,[VI 0,VI 0])::L)) fun j p L=>
E1 Sl.v P (Instr.buildSlice 27 2 #[(0,(VI f)),(1,(VI g))]) p L fun q r=>
K (.tuple #[q.v,VB true]) r)))
theorem ajQ(a:Int)(b:Int)(h:Heap)(K:KQ)(H:ajP aB a b h K):aG aB 170 #[VI a,VI b] h K:=cw mixed Tryz.func170 [] [.v (.l (.i .i64 a)),.v (.l (.i .i64 b))] [] [] .nil 34 (by kernel_rfl) H
def ajR(P:Program)(f:Int)(g:Int)(i:Int)(j:Int)(h:Heap)(K:KQ):Prop:=pk (
C2 (fun a b=>(.tuple #[(.pointer a),VB b])) P 221 #[VI f,VI g,VI i,VI j] h [] fun a b c=>
Br (!b)
(K (.tuple #[aD.v,VB false]) c)
(∃d:Nat,∃k:Int,∃l:Int,∃o:Sl,∃e:Sl,∃p:Sl,∃q:Sl,a=some ⟨d,0,none⟩/\Va c ((d,[VI k,VI l,o.v,e.v,p.v,q.v])::[]) fun L=>
K (.tuple #[e.v,VB true]) c))
theorem v171(a:Int)(b:Int)(c:Int)(d:Int)(h:Heap)(K:KQ)(H:ajR aB a b c d h K):aG aB 171 #[VI a,VI b,VI c,VI d] h K:=cw mixed Tryz.func171 [] [.v (.l (.i .i64 a)),.v (.l (.i .i64 b)),.v (.l (.i .i64 c)),.v (.l (.i .i64 d))] [] [] .nil 26 (by kernel_rfl) H
def ajS(P:Program)(c:Sl)(h:Heap)(K:KQ):Prop:=pk (
O2 0 0 h fun e f(d:Int)(b:Int) a=>
Vars a []->
Br (decide (b<(c.n:Int)))
(G1 VI a c b 1 fun g=>
Nj f fun m=>e m (aX (d+g)) (aX (b+1)) a)
(K (VI d) a))
theorem ajT(a:Sl)(h:Heap)(K:KQ)(H:ajS aB a h K):aG aB 172 #[a.v] h K:=cw mixed Tryz.func172 [(58,⟨[⟨3,.l (.i .i64)⟩,⟨8,.l (.i .i64)⟩],[],[]⟩)] [.v (.l (.sl a))] [] [] .nil 17 (by kernel_rfl) H
def ajU(P:Program)(c:Sl)(h:Heap)(K:KQ):Prop:=pk (
A3 h [] (fun g d e=>Z0 [aD.v] ((e,[aD.v])::((d,[aD.v])::((g,[c.v])::[])))) fun g d e j L=>
O2 0 aD j fun k l(f:Int)(a:Sl) b=>
Vi b (Z0 [a.v] L) fun L=>
Br (decide (f<(c.n:Int)))
(G1 Sl.v b c f 1 fun o=>
C1 Sl.v P 87 #[o.v] b L fun p q=>
E1 Sl.v P (Instr.buildSlice 24 1 #[(0,p.v)]) q L fun r s=>
E1 Sl.v P (cD 24 24 24 a.v r.v) s L fun i t=>
A0 t [e] (Z0 [i.v] L) fun u L=>
Nj l fun m=>k m (aX (f+1)) i u)
(A0 b [d] (Z1 [a.v] L) fun x L=>
K (.agg #[a.v]) x))
theorem v175(b:Sl)(h:Heap)(K:KQ)(H:ajU aB b h K):aG aB 175 #[(.agg #[b.v])] h K:=cw mixed Tryz.func175 [(58,⟨[⟨10,.l (.i .i64)⟩],[2],[]⟩)] [.v (.a [.sl b])] [] [] .nil 23 (by kernel_rfl) H
def ajV(P:Program)(a:Sl)(h:Heap)(K:KQ):Prop:=pk (
A2 h [] (fun c b=>(b,[aD.v])::((c,[a.v])::[])) fun c b e L=>
C1 VB P 82 #[(.agg #[a.v])] e L fun f d=>
Br (!f)
(A0 d [b] (Z0 [aD.v] L) fun g L=>
K (.tuple #[(.agg #[aD.v]),VB false]) g)
(A0 d [b] (Z0 [a.v] L) fun i L=>
K (.tuple #[(.agg #[a.v]),VB true]) i))
theorem ajW(b:Sl)(h:Heap)(K:KQ)(H:ajV aB b h K):aG aB 176 #[(.agg #[b.v])] h K:=cw mixed Tryz.func176 [] [.v (.a [.sl b])] [] [] .nil 9 (by kernel_rfl) H
def ajX(P:Program)(f:Sl)(c:Sl)(a:Int)(h:Heap)(K:KQ):Prop:=pk (
fq f a/\
A3 h [] (fun l o e=>(e,[aD.v,VI 0])::((o,[c.v,VI a])::((l,[f.v])::[]))) fun l o e g L=>
H1 Sl.v g (Sl.at f a 1) fun b=>
Br (decide ((b.n:Int)=0))
(A0 g [e] (Z0 [c.v,VI a] L) fun r L=>
K (.tuple #[(.agg #[c.v,VI a]),VB false]) r)
(C1 Sl.v P 87 #[c.v] g L fun d s=>
fq c a/\
A1 s [] (fun i=>Z0 [d.v,VI 0] ((i,[aD.v,VI 0])::L)) fun i p L=>
H1 VI p (Sl.at c a 1) fun j=>
(b.n:Int)≠0/\
fq d a/\
S1 p (Sl.at d a 1) (VI (Int.tmod (aX (j+1)) (b.n:Int))) L fun q=>
fq b (Int.tmod (aX (j+1)) (b.n:Int))/\
H1 VI q (Sl.at b (Int.tmod (aX (j+1)) (b.n:Int)) 1) fun k=>
A0 q [e,i] (Z1 [d.v,VI k] (Z0 [d.v,VI k] L)) fun t L=>
K (.tuple #[(.agg #[d.v,VI k]),VB true]) t))
theorem ajY(b:Sl)(c:Sl)(d:Int)(h:Heap)(K:KQ)(H:ajX aB b c d h K):aG aB 177 #[(.agg #[b.v]),(.agg #[c.v,VI d])] h K:=cw mixed Tryz.func177 [] [.v (.a [.sl b]),.v (.a [.sl c,.i .i64 d])] [] [] .nil 45 (by kernel_rfl) H
def ajZ(P:Program)(a:Sl)(b:Sl)(c:Int)(g:Int)(h:Heap)(K:KQ):Prop:=pk (
A2 h [] (fun d e=>(e,[b.v,VI c])::((d,[a.v])::[])) fun d e i L=>
C1 VB P 83 #[(.agg #[a.v]),(.agg #[b.v,VI c])] i L fun j f=>
Br j
(C1 VB P 119 #[VI g,VI 0,VI 2000] f L fun k l=>
K (VB k) l)
(K (VB false) f))
theorem aj0(b:Sl)(c:Sl)(d:Int)(e:Int)(h:Heap)(K:KQ)(H:ajZ aB b c d e h K):aG aB 178 #[(.agg #[b.v]),(.agg #[c.v,VI d]),VI e] h K:=cw mixed Tryz.func178 [] [.v (.a [.sl b]),.v (.a [.sl c,.i .i64 d]),.v (.l (.i .i64 e))] [] [] .nil 14 (by kernel_rfl) H
def aj1(P:Program)(b:Sl)(c:Sl)(a:Int)(b4:Int)(h:Heap)(K:KQ):Prop:=pk (
A3 h [] (fun ak al q=>(q,[aD.v,VI 0,aD.v,aD.v,aD.v])::((al,[c.v,VI a])::((ak,[b.v])::[]))) fun ak al q a6 L=>
∃i:Nat->Sl->Int->Sl->Sl->Sl->Heap->Prop,((E1 Sl.v P (Instr.buildSlice 27 1 #[(0,(VI a))]) a6 L fun r am=>
(E1 Sl.v P (Instr.makeSlice 27 (VI (b.n:Int)) (VI (b.n:Int))) am L fun an b5=>
A1 b5 [] (fun s=>(s,[aD.v,VI 0,aD.v,aD.v,aD.v])::L) fun s b6 L=>
A0 b6 [s] (Z0 [c.v,VI a,r.v,an.v,aD.v] L) fun b7 L=>
i s c a r an aD b7)/\
(A1 am [] (fun t=>(t,[aD.v,VI 0,aD.v,aD.v,aD.v])::L) fun t b8 L=>
E1 Sl.v P (Instr.makeSlice 27 (VI (b.n:Int)) (VI (b.n:Int))) b8 L fun ao b9=>
A0 b9 [t] (Z0 [c.v,VI a,r.v,ao.v,aD.v] L) fun ba L=>
i t c a r ao aD ba))/\
(E1 Sl.v P (Instr.makeSlice 27 (VI (b.n:Int)) (VI (b.n:Int))) a6 L fun u ap=>
(E1 Sl.v P (Instr.buildSlice 27 1 #[(0,(VI a))]) ap L fun aq bb=>
A1 bb [] (fun x=>(x,[aD.v,VI 0,aD.v,aD.v,aD.v])::L) fun x bc L=>
A0 bc [x] (Z0 [c.v,VI a,aq.v,u.v,aD.v] L) fun bd L=>
i x c a aq u aD bd)/\
(A1 ap [] (fun y=>(y,[aD.v,VI 0,aD.v,aD.v,aD.v])::L) fun y be L=>
E1 Sl.v P (Instr.buildSlice 27 1 #[(0,(VI a))]) be L fun ar bf=>
A0 bf [y] (Z0 [c.v,VI a,ar.v,u.v,aD.v] L) fun bg L=>
i y c a ar u aD bg))/\
(A1 a6 [] (fun k=>(k,[aD.v,VI 0,aD.v,aD.v,aD.v])::L) fun k au L=>
(E1 Sl.v P (Instr.buildSlice 27 1 #[(0,(VI a))]) au L fun av bh=>
E1 Sl.v P (Instr.makeSlice 27 (VI (b.n:Int)) (VI (b.n:Int))) bh L fun aw bi=>
A0 bi [k] (Z0 [c.v,VI a,av.v,aw.v,aD.v] L) fun bj L=>
i k c a av aw aD bj)/\
(E1 Sl.v P (Instr.makeSlice 27 (VI (b.n:Int)) (VI (b.n:Int))) au L fun ax bk=>
E1 Sl.v P (Instr.buildSlice 27 1 #[(0,(VI a))]) bk L fun ay bl=>
A0 bl [k] (Z0 [c.v,VI a,ay.v,ax.v,aD.v] L) fun bm L=>
i k c a ay ax aD bm)))/\
∀(l:Nat)(a7:Sl)(a8:Int)(a9:Sl)(aa:Sl)(ab:Sl)(ac:Heap),i l a7 a8 a9 aa ab ac->Vi ac ((l,[a7.v,VI a8,a9.v,aa.v,ab.v])::L) fun L=>
O6 0 a7 a8 a9 aa ab ac fun bn bo(ad:Int)(z:Sl)(a0:Int)(a1:Sl)(a2:Sl)(ae:Sl) a3=>
Vi a3 (Z0 [z.v,VI a0,a1.v,a2.v,ae.v] L) fun L=>
Br (decide (ad<(b.n:Int)))
(G1 Sl.v a3 b ad 1 fun az=>
E1 Sl.v P (Instr.makeSlice 27 (VI (az.n:Int)) (VI (az.n:Int))) a3 L fun bp bq=>
E1 Sl.v P (Instr.buildSlice 24 1 #[(0,bp.v)]) bq L fun br bs=>
E1 Sl.v P (cD 24 24 24 ae.v br.v) bs L fun b0 bt=>
A0 bt [l] (Z0 [z.v,VI a0,a1.v,a2.v,b0.v] L) fun bu L=>
Nj bo fun m=>bn m (aX (ad+1)) z a0 a1 a2 b0 bu)
(O6 b4 z a0 a1 a2 ae a3 fun bv bw(b1:Int)(o:Sl)(f:Int)(a4:Sl)(e:Sl)(g:Sl) af=>
Vi af (Z0 [o.v,VI f,a4.v,e.v,g.v] L) fun L=>
Br (decide (0<b1))
(C3 (fun j d ag=>(.tuple #[(.agg #[(Sl.v j),VI d]),VB ag])) P 177 #[(.agg #[b.v]),(.agg #[o.v,VI f])] af L fun j d ag b2=>
Br (!ag)
(A1 b2 [q] (fun p=>Z2 [aD.v,VI 0,aD.v,aD.v,aD.v] (Z0 [j.v,VI d] ((p,[aD.v,VI 0])::L))) fun p bx L=>
K (.tuple #[(.agg #[aD.v,VI 0,aD.v,aD.v,aD.v]),VB false]) bx)
(fq g f/\
A1 b2 [] (fun p=>Z0 [j.v,VI d] ((p,[aD.v,VI 0])::L)) fun p a5 L=>
H1 Sl.v a5 (Sl.at g f 1) fun ah=>
G1 VI a5 j f 1 fun ai=>
G1 VI a5 ah ai 1 fun bz=>
fq ah ai/\
S1 a5 (Sl.at ah ai 1) (VI (aX (bz+1))) L fun b3=>
G1 VI b3 e d 1 fun c0=>
fq e d/\
S1 b3 (Sl.at e d 1) (VI (aX (c0+1))) L fun c1=>
E1 Sl.v P (Instr.buildSlice 27 1 #[(0,(VI d))]) c1 L fun c2 c3=>
E1 Sl.v P (cD 27 27 27 a4.v c2.v) c3 L fun aj c4=>
A0 c4 [l,l] (Z1 [j.v,VI d,aj.v,e.v,g.v] (Z1 [o.v,VI f,aj.v,e.v,g.v] L)) fun c5 L=>
Nj bw fun m=>bv m (aX (b1-1)) j d aj e g c5))
(A0 af [q] (Z1 [o.v,VI f,a4.v,e.v,g.v] L) fun c6 L=>
K (.tuple #[(.agg #[o.v,VI f,a4.v,e.v,g.v]),VB true]) c6)))
theorem aj2(b:Sl)(c:Sl)(d:Int)(e:Int)(h:Heap)(K:KQ)(H:aj1 aB b c d e h K):aG aB 179 #[(.agg #[b.v]),(.agg #[c.v,VI d]),VI e] h K:=cw mixed Tryz.func179 [(3,⟨[],[],[(8,[.sl,.i .i64,.sl,.sl,.sl])]⟩),(58,⟨[⟨26,.l (.i .i64)⟩],[3],[]⟩),(60,⟨[⟨2,.l (.i .i64)⟩],[3],[]⟩)] [.v (.a [.sl b]),.v (.a [.sl c,.i .i64 d]),.v (.l (.i .i64 e))] [] [] .nil 90 (by kernel_rfl) H
def aj3(P:Program)(g:Sl)(h:Heap)(K:KQ):Prop:=pk (
O2 ({data:= #[]}) 0 h fun j k(b:ByteArray)(c:Int) a=>
Vars a []->
Br (decide (c<(g.n:Int)))
(G1 VI a g c 1 fun l=>
∃d:ByteArray->Heap->Prop,(Br (decide (0<c))
(b.size+ByteArray.size ({data:= #[44]})<=9223372036854775807/\
d (b++({data:= #[44]})) a)
(d b a))/\
∀(e:ByteArray)(f:Heap),d e f->Vars f []->
C1 VS P 225 #[VI l] f [] fun i o=>
e.size+i.size<=9223372036854775807/\
Nj k fun m=>j m (e++i) (aX (c+1)) o)
(K (VS b) a))
theorem aj4(a:Sl)(h:Heap)(K:KQ)(H:aj3 aB a h K):aG aB 180 #[a.v] h K:=cw mixed Tryz.func180 [(58,⟨[⟨3,.l .s⟩,⟨8,.l (.i .i64)⟩],[],[]⟩),(3737,⟨[⟨3,.l .s⟩],[],[]⟩)] [.v (.l (.sl a))] [] [] .nil 23 (by kernel_rfl) H
def aj5(P:Program)(d:Sl)(a:Sl)(b:Int)(h:Heap)(K:KQ):Prop:=pk (
A3 h [] (fun c0 c1 c=>(c,[aD.v,VI 0])::((c1,[a.v,VI b])::((c0,[d.v])::[]))) fun c0 c1 c c2 L=>
∃aw:Nat->Sl->Int->Nat->Sl->Int->Heap->Prop,((A1 c2 [] (fun a2=>(a2,[aD.v,VI 0])::L) fun a2 ci L=>
A1 ci [] (fun a3=>(a3,[aD.v,VI 0])::L) fun a3 cj L=>
A0 cj [a2] (Z1 [a.v,VI b] L) fun ck L=>
A0 ck [a3] (Z0 [a.v,VI b] L) fun cl L=>
aw a2 a b a3 a b cl)/\
(A1 c2 [] (fun a4=>(a4,[aD.v,VI 0])::L) fun a4 cm L=>
A1 cm [] (fun a5=>(a5,[aD.v,VI 0])::L) fun a5 cn L=>
A0 cn [a5] (Z0 [a.v,VI b] L) fun co L=>
A0 co [a4] (Z1 [a.v,VI b] L) fun cp L=>
aw a5 a b a4 a b cp))/\
∀(ax:Nat)(ay:Sl)(az:Int)(b0:Nat)(b1:Sl)(b2:Int)(b3:Heap),aw ax ay az b0 b1 b2 b3->Vi b3 ((b0,[b1.v,VI b2])::((ax,[ay.v,VI az])::L)) fun L=>
O6 false 1 b1 b2 ay az b3 fun cq cr(b4:Bool)(c3:Int)(c4:Sl)(c5:Int)(a6:Sl)(a7:Int) o=>
Vi o (Z1 [a6.v,VI a7] (Z0 [c4.v,VI c5] L)) fun L=>
Br (decide ((aX (2*c3))<=4000))
(Br (!b4)
(C3 (fun p q b5=>(.tuple #[(.agg #[(Sl.v p),VI q]),VB b5])) P 177 #[(.agg #[d.v]),(.agg #[a6.v,VI a7])] o L fun p q b5 cs=>
A1 cs [] (fun c6=>Z0 [p.v,VI q] ((c6,[aD.v,VI 0])::L)) fun c6 ct L=>
C3 (fun r s b6=>(.tuple #[(.agg #[(Sl.v r),VI s]),VB b6])) P 177 #[(.agg #[d.v]),(.agg #[c4.v,VI c5])] ct L fun r s b6 b7=>
Br (!b5)
(A1 b7 [c] (fun e=>Z4 [a.v,VI b] (Z0 [r.v,VI s] ((e,[aD.v,VI 0])::L))) fun e cu L=>
K (.tuple #[VI 0,(.agg #[a.v,VI b]),VI 0]) cu)
(Br (!b6)
(A1 b7 [c] (fun e=>Z4 [a.v,VI b] (Z0 [r.v,VI s] ((e,[aD.v,VI 0])::L))) fun e cv L=>
K (.tuple #[VI 0,(.agg #[a.v,VI b]),VI 0]) cv)
(A1 b7 [] (fun e=>Z0 [r.v,VI s] ((e,[aD.v,VI 0])::L)) fun e cx L=>
C3 (fun f g b8=>(.tuple #[(.agg #[(Sl.v f),VI g]),VB b8])) P 177 #[(.agg #[d.v]),(.agg #[r.v,VI s])] cx L fun f g b8 c7=>
Br (!b8)
(A1 c7 [c] (fun z=>Z5 [a.v,VI b] (Z0 [f.v,VI g] ((z,[aD.v,VI 0])::L))) fun z cy L=>
K (.tuple #[VI 0,(.agg #[a.v,VI b]),VI 0]) cy)
(A1 c7 [b0,ax] (fun z=>Z3 [f.v,VI g] (Z4 [p.v,VI q] (Z0 [f.v,VI g] ((z,[aD.v,VI 0])::L)))) fun z cz L=>
C1 VB P 226 #[(.agg #[p.v,VI q]),(.agg #[f.v,VI g])] cz L fun d0 d1=>
Nj cr fun m=>cq m d0 (aX (c3+1)) f g p q d1))))
(Br (!b4)
(A0 o [c] (Z2 [a.v,VI b] L) fun d2 L=>
K (.tuple #[VI 0,(.agg #[a.v,VI b]),VI 0]) d2)
(C1 VI P 227 #[(.agg #[d.v]),(.agg #[a6.v,VI a7]),VI 2000] o L fun t b9=>
Br (decide (t=0))
(A0 b9 [c] (Z2 [a.v,VI b] L) fun d3 L=>
K (.tuple #[VI 0,(.agg #[a.v,VI b]),VI 0]) d3)
(∃ba:Nat->Sl->Int->Nat->Sl->Int->Heap->Prop,((A1 b9 [] (fun a8=>(a8,[aD.v,VI 0])::L) fun a8 d4 L=>
A1 d4 [] (fun a9=>(a9,[aD.v,VI 0])::L) fun a9 d5 L=>
A0 d5 [a8] (Z1 [a.v,VI b] L) fun d6 L=>
A0 d6 [a9] (Z0 [a.v,VI b] L) fun d7 L=>
ba a8 a b a9 a b d7)/\
(A1 b9 [] (fun aa=>(aa,[aD.v,VI 0])::L) fun aa d8 L=>
A1 d8 [] (fun ab=>(ab,[aD.v,VI 0])::L) fun ab d9 L=>
A0 d9 [ab] (Z0 [a.v,VI b] L) fun da L=>
A0 da [aa] (Z1 [a.v,VI b] L) fun db L=>
ba ab a b aa a b db))/\
∀(bb:Nat)(bc:Sl)(bd:Int)(ac:Nat)(be:Sl)(bf:Int)(bg:Heap),ba bb bc bd ac be bf bg->Vi bg ((ac,[be.v,VI bf])::((bb,[bc.v,VI bd])::L)) fun L=>
O3 0 be bf bg fun dc dd(c8:Int)(bh:Sl)(bi:Int) bj=>
Vi bj (Z0 [bh.v,VI bi] L) fun L=>
Br (decide (c8<t))
(C3 (fun ad ae c9=>(.tuple #[(.agg #[(Sl.v ad),VI ae]),VB c9])) P 177 #[(.agg #[d.v]),(.agg #[bh.v,VI bi])] bj L fun ad ae c9 de=>
A0 de [ac] (Z0 [ad.v,VI ae] L) fun df L=>
Nj dd fun m=>dc m (aX (c8+1)) ad ae df)
(O5 0 bh bi bc bd bj fun dg dh(u:Int)(bk:Sl)(bl:Int)(i:Sl)(j:Int) ca=>
Vi ca (Z1 [i.v,VI j] (Z0 [bk.v,VI bl] L)) fun L=>
C1 VB P 226 #[(.agg #[i.v,VI j]),(.agg #[bk.v,VI bl])] ca L fun di a0=>
Br (!di)
(Br (decide (u<=2000))
(C3 (fun af ag cb=>(.tuple #[(.agg #[(Sl.v af),VI ag]),VB cb])) P 177 #[(.agg #[d.v]),(.agg #[i.v,VI j])] a0 L fun af ag cb dj=>
A0 dj [bb] (Z1 [af.v,VI ag] L) fun dk L=>
C3 (fun ah ai cc=>(.tuple #[(.agg #[(Sl.v ah),VI ai]),VB cc])) P 177 #[(.agg #[d.v]),(.agg #[bk.v,VI bl])] dk L fun ah ai cc dl=>
A0 dl [ac] (Z0 [ah.v,VI ai] L) fun dm L=>
Nj dh fun m=>dg m (aX (u+1)) ah ai af ag dm)
(Br (decide (2000<(aX (u+t))))
(A0 a0 [c] (Z4 [a.v,VI b] L) fun dn L=>
K (.tuple #[VI 0,(.agg #[a.v,VI b]),VI 0]) dn)
(A0 a0 [c] (Z4 [i.v,VI j] L) fun dp L=>
K (.tuple #[VI u,(.agg #[i.v,VI j]),VI t]) dp)))
(Br (decide (2000<(aX (u+t))))
(A0 a0 [c] (Z4 [a.v,VI b] L) fun dq L=>
K (.tuple #[VI 0,(.agg #[a.v,VI b]),VI 0]) dq)
(A0 a0 [c] (Z4 [i.v,VI j] L) fun dr L=>
K (.tuple #[VI u,(.agg #[i.v,VI j]),VI t]) dr)))))))
(Br (!b4)
(A0 o [c] (Z2 [a.v,VI b] L) fun ds L=>
K (.tuple #[VI 0,(.agg #[a.v,VI b]),VI 0]) ds)
(C1 VI P 227 #[(.agg #[d.v]),(.agg #[a6.v,VI a7]),VI 2000] o L fun x bm=>
Br (decide (x=0))
(A0 bm [c] (Z2 [a.v,VI b] L) fun dt L=>
K (.tuple #[VI 0,(.agg #[a.v,VI b]),VI 0]) dt)
(∃bn:Nat->Sl->Int->Nat->Sl->Int->Heap->Prop,((A1 bm [] (fun aj=>(aj,[aD.v,VI 0])::L) fun aj du L=>
A1 du [] (fun ak=>(ak,[aD.v,VI 0])::L) fun ak dv L=>
A0 dv [aj] (Z1 [a.v,VI b] L) fun dw L=>
A0 dw [ak] (Z0 [a.v,VI b] L) fun dx L=>
bn aj a b ak a b dx)/\
(A1 bm [] (fun al=>(al,[aD.v,VI 0])::L) fun al dy L=>
A1 dy [] (fun am=>(am,[aD.v,VI 0])::L) fun am dz L=>
A0 dz [am] (Z0 [a.v,VI b] L) fun e0 L=>
A0 e0 [al] (Z1 [a.v,VI b] L) fun e1 L=>
bn am a b al a b e1))/\
∀(bo:Nat)(bp:Sl)(bq:Int)(an:Nat)(br:Sl)(bs:Int)(bt:Heap),bn bo bp bq an br bs bt->Vi bt ((an,[br.v,VI bs])::((bo,[bp.v,VI bq])::L)) fun L=>
O3 0 br bs bt fun e2 e3(cd:Int)(bu:Sl)(bv:Int) bw=>
Vi bw (Z0 [bu.v,VI bv] L) fun L=>
Br (decide (cd<x))
(C3 (fun ao ap ce=>(.tuple #[(.agg #[(Sl.v ao),VI ap]),VB ce])) P 177 #[(.agg #[d.v]),(.agg #[bu.v,VI bv])] bw L fun ao ap ce e4=>
A0 e4 [an] (Z0 [ao.v,VI ap] L) fun e5 L=>
Nj e3 fun m=>e2 m (aX (cd+1)) ao ap e5)
(O5 0 bu bv bp bq bw fun e6 e7(y:Int)(bx:Sl)(bz:Int)(k:Sl)(l:Int) cf=>
Vi cf (Z1 [k.v,VI l] (Z0 [bx.v,VI bz] L)) fun L=>
C1 VB P 226 #[(.agg #[k.v,VI l]),(.agg #[bx.v,VI bz])] cf L fun e8 a1=>
Br (!e8)
(Br (decide (y<=2000))
(C3 (fun aq ar cg=>(.tuple #[(.agg #[(Sl.v aq),VI ar]),VB cg])) P 177 #[(.agg #[d.v]),(.agg #[k.v,VI l])] a1 L fun aq ar cg e9=>
A0 e9 [bo] (Z1 [aq.v,VI ar] L) fun ea L=>
C3 (fun au av ch=>(.tuple #[(.agg #[(Sl.v au),VI av]),VB ch])) P 177 #[(.agg #[d.v]),(.agg #[bx.v,VI bz])] ea L fun au av ch eb=>
A0 eb [an] (Z0 [au.v,VI av] L) fun ec L=>
Nj e7 fun m=>e6 m (aX (y+1)) au av aq ar ec)
(Br (decide (2000<(aX (y+x))))
(A0 a1 [c] (Z4 [a.v,VI b] L) fun ed L=>
K (.tuple #[VI 0,(.agg #[a.v,VI b]),VI 0]) ed)
(A0 a1 [c] (Z4 [k.v,VI l] L) fun ee L=>
K (.tuple #[VI y,(.agg #[k.v,VI l]),VI x]) ee)))
(Br (decide (2000<(aX (y+x))))
(A0 a1 [c] (Z4 [a.v,VI b] L) fun ef L=>
K (.tuple #[VI 0,(.agg #[a.v,VI b]),VI 0]) ef)
(A0 a1 [c] (Z4 [k.v,VI l] L) fun eg L=>
K (.tuple #[VI y,(.agg #[k.v,VI l]),VI x]) eg)))))))
theorem aj6(c:Sl)(d:Sl)(e:Int)(h:Heap)(K:KQ)(H:aj5 aB c d e h K):aG aB 181 #[(.agg #[c.v]),(.agg #[d.v,VI e])] h K:=cw mixed Tryz.func181 [(3,⟨[],[],[(7,[.sl,.i .i64]),(8,[.sl,.i .i64])]⟩),(122,⟨[⟨9,.l .b⟩,⟨10,.l (.i .i64)⟩],[4,3],[]⟩),(255,⟨[],[],[(18,[.sl,.i .i64]),(19,[.sl,.i .i64])]⟩),(4090,⟨[⟨20,.l (.i .i64)⟩],[6],[]⟩),(8188,⟨[⟨21,.l (.i .i64)⟩],[6,5],[]⟩)] [.v (.a [.sl c]),.v (.a [.sl d,.i .i64 e])] [] [] .nil 118 (by kernel_rfl) H
def aj7(P:Program)(d:Sl)(h:Heap)(K:KQ):Prop:=pk (
Br (decide ((d.n:Int)=0))
(K (VI 1) h)
(G1 Sl.v h d 0 1 fun j=>
O3 0 1 0 h fun s t(e:Int)(k:Int)(a:Int) b=>
Vars b []->
Br (decide (a<(j.n:Int)))
(G1 VI b j a 1 fun l=>
∃f:Int->Heap->Prop,(Br (!decide (l=0))
(Q1 Sl.v P (Instr.sliceAt 24 d.v (some (.int .i64 1)) none none) fun o=>
O2 aD 0 b fun u x(p:Sl)(g:Int) c=>
Vars c []->
Br (decide (g<(o.n:Int)))
(G1 Sl.v c o g 1 fun q=>
Q1 Sl.v P (Instr.sliceAt 27 q.v none (some (VI a)) none) fun y=>
Q1 Sl.v P (Instr.sliceAt 27 q.v (some (VI (aX (a+1)))) none none) fun z=>
C1 Sl.v P 87 #[y.v] c [] fun a0 a1=>
E1 Sl.v P (cD 27 27 27 a0.v z.v) a1 [] fun a2 a3=>
E1 Sl.v P (Instr.buildSlice 24 1 #[(0,a2.v)]) a3 [] fun a4 a5=>
E1 Sl.v P (cD 24 24 24 p.v a4.v) a5 [] fun a6 a7=>
Nj x fun m=>u m a6 (aX (g+1)) a7)
(C1 VI P 182 #[p.v] c [] fun a8 a9=>
f (aX (e+(aX ((aX (k*l))*a8)))) a9))
(f e b))/\
∀(r:Int)(i:Heap),f r i->Vars i []->
Nj t fun m=>s m r (aX (0-k)) (aX (a+1)) i)
(K (VI e) b)))
theorem v182(a:Sl)(h:Heap)(K:KQ)(H:aj7 aB a h K):aG aB 182 #[a.v] h K:=cw mixed Tryz.func182 [(122,⟨[⟨3,.l (.i .i64)⟩,⟨4,.l (.i .i64)⟩,⟨17,.l (.i .i64)⟩],[],[]⟩),(7833,⟨[⟨3,.l (.i .i64)⟩],[],[]⟩),(1002666,⟨[⟨7,.l .sl⟩,⟨27,.l (.i .i64)⟩],[],[]⟩)] [.v (.l (.sl a))] [] [] .nil 56 (by kernel_rfl) H
def aj8(P:Program)(c:Sl)(f:Int)(h:Heap)(K:KQ):Prop:=pk (
A1 h [] (fun l=>(l,[c.v])::[]) fun l q L=>
O2 aD 0 q fun o p(g:Sl)(a:Int) d=>
Vars d L->
Br (decide (a<(c.n:Int)))
(G1 Sl.v d c a 1 fun i=>
Br (decide (a=f))
(Nj p fun m=>o m g (aX (a+1)) d)
(E1 Sl.v P (Instr.makeSlice 27 (VI (c.n:Int)) (VI (c.n:Int))) d L fun b r=>
fq b a/\
S1 r (Sl.at b a 1) (VI (i.n:Int)) L fun s=>
O1 0 s fun t u(j:Int) e=>
Vars e L->
Br (decide (j<(i.n:Int)))
(G1 VI e i j 1 fun k=>
G1 VI e b k 1 fun x=>
fq b k/\
S1 e (Sl.at b k 1) (VI (aX (x-1))) L fun y=>
Nj u fun m=>t m (aX (j+1)) y)
(Q1 Sl.v P (Instr.sliceAt 27 b.v none (some (VI f)) none) fun z=>
Q1 Sl.v P (Instr.sliceAt 27 b.v (some (VI (aX (f+1)))) none none) fun a0=>
C1 Sl.v P 87 #[z.v] e L fun a1 a2=>
E1 Sl.v P (cD 27 27 27 a1.v a0.v) a2 L fun a3 a4=>
E1 Sl.v P (Instr.buildSlice 24 1 #[(0,a3.v)]) a4 L fun a5 a6=>
E1 Sl.v P (cD 24 24 24 g.v a5.v) a6 L fun a7 a8=>
Nj p fun m=>o m a7 (aX (a+1)) a8)))
(K g.v d))
theorem v183(b:Sl)(c:Int)(h:Heap)(K:KQ)(H:aj8 aB b c h K):aG aB 183 #[(.agg #[b.v]),VI c] h K:=cw mixed Tryz.func183 [(58,⟨[⟨5,.l .sl⟩,⟨14,.l (.i .i64)⟩],[],[]⟩),(239226,⟨[⟨33,.l (.i .i64)⟩],[],[]⟩)] [.v (.a [.sl b]),.v (.l (.i .i64 c))] [] [] .nil 58 (by kernel_rfl) H
def aj9(P:Program)(a:Sl)(b:Sl)(c:Int)(h:Heap)(K:KQ):Prop:=pk (
A2 h [] (fun g i=>(i,[b.v,VI c])::((g,[a.v])::[])) fun g i o L=>
C2 (fun d e=>(.tuple #[(Sl.v d),VB e])) P 228 #[(.agg #[a.v]),b.v,VI c] o L fun d e j=>
Br (!e)
(K (.tuple #[aD.v,VB false]) j)
(O1 c j fun p q(f:Int) k=>
Vars k L->
C1 VB P 229 #[d.v,VI f] k L fun r l=>
Br (!r)
(C1 VI P 230 #[(.agg #[a.v]),b.v,VI f] l L fun s t=>
Nj q fun m=>p m s t)
(C1 Sl.v P 231 #[(.agg #[a.v]),b.v,VI f] l L fun u x=>
K (.tuple #[u.v,VB true]) x)))
theorem aka(b:Sl)(c:Sl)(d:Int)(h:Heap)(K:KQ)(H:aj9 aB b c d h K):aG aB 184 #[(.agg #[b.v]),(.agg #[c.v,VI d])] h K:=cw mixed Tryz.func184 [(124,⟨[⟨8,.l (.i .i64)⟩],[],[]⟩)] [.v (.a [.sl b]),.v (.a [.sl c,.i .i64 d])] [] [] .nil 36 (by kernel_rfl) H
def akb(P:Program)(a:Sl)(b:Int)(c:Int)(h:Heap)(K:KQ):Prop:=pk (
A1 h [] (fun d=>(d,[a.v])::[]) fun d f L=>
C1 VB P 232 #[(.agg #[a.v]),VI b,VI c] f L fun g e=>
Br g
(C1 VB P 233 #[(.agg #[a.v]),VI b,VI c] e L fun i j=>
K (VB i) j)
(K (VB false) e))
theorem akc(b:Sl)(c:Int)(d:Int)(h:Heap)(K:KQ)(H:akb aB b c d h K):aG aB 185 #[(.agg #[b.v]),VI c,VI d] h K:=cw mixed Tryz.func185 [] [.v (.a [.sl b]),.v (.l (.i .i64 c)),.v (.l (.i .i64 d))] [] [] .nil 17 (by kernel_rfl) H
def akd(P:Program)(c:Sl)(g:Int)(k:Int)(h:Heap)(K:KQ):Prop:=pk (
A1 h [] (fun u=>(u,[c.v])::[]) fun u a5 L=>
C2 (fun b l=>(.tuple #[(Sl.v b),(Sl.v l)])) P 234 #[(.agg #[c.v]),VI g,VI k] a5 L fun b l a6=>
O2 aD 0 a6 fun a7 a8(x:Sl)(o:Int) d=>
Vars d L->
Br (decide (o<(b.n:Int)))
(G1 VI d b o 1 fun a9=>
G1 Sl.v d c a9 1 fun y=>
O2 0 0 d fun z a0(p:Int)(i:Int) e=>
Vars e L->
Br (decide (i<(y.n:Int)))
(G1 VI e y i 1 fun aa=>
Br (decide (aa=g))
(Nj a0 fun m=>z m (aX (p+1)) (aX (i+1)) e)
(Nj a0 fun m=>z m p (aX (i+1)) e))
(E1 Sl.v P (Instr.buildSlice 27 1 #[(0,(VI p))]) e L fun ab ac=>
E1 Sl.v P (cD 27 27 27 x.v ab.v) ac L fun ad ae=>
Nj a8 fun m=>a7 m ad (aX (o+1)) ae))
(C2 (fun q r=>(.tuple #[(Sl.v q),VI r])) P 235 #[l.v,x.v] d L fun q r af=>
E1 Sl.v P (Instr.makeSlice 186 (VI (c.n:Int)) (VI (c.n:Int))) af L fun a ag=>
fq a g/\
Hz P (Instr.storeAt 153 (.pointer (some (Sl.at a g 2))) (.agg #[VI 1,VI 1])) ag fun al a1=>Va a1 L fun L=>
fq a k/\
Hz P (Instr.storeAt 153 (.pointer (some (Sl.at a k 2))) (.agg #[VI 0,VI 1])) a1 fun am a2=>Va a2 L fun L=>
O1 0 a2 fun ah ai(j:Int) f=>
Vars f L->
Br (decide (j<(b.n:Int)))
(G1 VI f b j 1 fun a3=>
G1 VI f q j 1 fun aj=>
C2 (fun s t=>(.agg #[VI s,VI t])) P 236 #[VI aj,VI r] f L fun s t ak=>
fq a a3/\
Hz P (Instr.storeAt 153 (.pointer (some (Sl.at a a3 2))) (.agg #[VI s,VI t])) ak fun an a4=>Va a4 L fun L=>
Nj ai fun m=>ah m (aX (j+1)) a4)
(K a.v f)))
theorem ake(b:Sl)(c:Int)(d:Int)(h:Heap)(K:KQ)(H:akd aB b c d h K):aG aB 186 #[(.agg #[b.v]),VI c,VI d] h K:=cw mixed Tryz.func186 [(122,⟨[⟨9,.l .sl⟩,⟨29,.l (.i .i64)⟩],[],[]⟩),(4090,⟨[⟨74,.l (.i .i64)⟩],[],[]⟩),(125338,⟨[⟨12,.l (.i .i64)⟩,⟨39,.l (.i .i64)⟩],[],[]⟩)] [.v (.a [.sl b]),.v (.l (.i .i64 c)),.v (.l (.i .i64 d))] [] [] .nil 90 (by kernel_rfl) H
def akf(P:Program)(a:Sl)(b:Int)(h:Heap)(K:KQ):Prop:=pk (
A1 h [] (fun c=>(c,[a.v])::[]) fun c e L=>
C1 VB P 121 #[(.agg #[a.v]),VI b] e L fun f d=>
Br f
(C1 VB P 237 #[(.agg #[a.v]),VI b] d L fun g i=>
K (VB g) i)
(K (VB false) d))
theorem akg(b:Sl)(c:Int)(h:Heap)(K:KQ)(H:akf aB b c h K):aG aB 187 #[(.agg #[b.v]),VI c] h K:=cw mixed Tryz.func187 [] [.v (.a [.sl b]),.v (.l (.i .i64 c))] [] [] .nil 13 (by kernel_rfl) H
def akh(P:Program)(c:Sl)(j:Int)(h:Heap)(K:KQ):Prop:=pk (
A1 h [] (fun f=>(f,[c.v])::[]) fun f k L=>
O2 aD 0 k fun l o(g:Sl)(b:Int) a=>
Vars a L->
Br (decide (b<(c.n:Int)))
(G1 Sl.v a c b 1 fun p=>
∃d:Int->Heap->Prop,(Br (decide (b=j))
(d 0 a)
(d (aX ((p.n:Int)-1)) a))/\
∀(i:Int)(e:Heap),d i e->Vars e L->
E1 Sl.v P (Instr.buildSlice 27 1 #[(0,(VI i))]) e L fun q r=>
E1 Sl.v P (cD 27 27 27 g.v q.v) r L fun s t=>
Nj o fun m=>l m s (aX (b+1)) t)
(K g.v a))
theorem aki(b:Sl)(c:Int)(h:Heap)(K:KQ)(H:akh aB b c h K):aG aB 188 #[(.agg #[b.v]),VI c] h K:=cw mixed Tryz.func188 [(58,⟨[⟨5,.l .sl⟩,⟨12,.l (.i .i64)⟩],[],[]⟩),(7475,⟨[⟨8,.l (.i .i64)⟩],[],[]⟩)] [.v (.a [.sl b]),.v (.l (.i .i64 c))] [] [] .nil 29 (by kernel_rfl) H
def akj(P:Program)(a:Int)(d:Int)(e:Int)(f:Int)(h:Heap)(K:KQ):Prop:=pk (
C1 VI P 238 #[VI a,VI d] h [] fun g b=>
Br (decide (0<g))
(C1 VB P 119 #[VI e,VI 0,VI a] b [] fun i c=>
Br i
(C1 VB P 119 #[VI f,VI 0,VI 200] c [] fun j k=>
K (VB j) k)
(K (VB false) c))
(K (VB false) b))
theorem akk(a:Int)(b:Int)(c:Int)(d:Int)(h:Heap)(K:KQ)(H:akj aB a b c d h K):aG aB 189 #[VI a,VI b,VI c,VI d] h K:=cw mixed Tryz.func189 [] [.v (.l (.i .i64 a)),.v (.l (.i .i64 b)),.v (.l (.i .i64 c)),.v (.l (.i .i64 d))] [] [] .nil 22 (by kernel_rfl) H
def akl(P:Program)(c:Sl)(h:Heap)(K:KQ):Prop:=pk (
O2 0 0 h fun e f(d:Int)(b:Int) a=>
Vars a []->
Br (decide (b<(c.n:Int)))
(G1 VI a c b 1 fun g=>
Nj f fun m=>e m (aX (d+g)) (aX (b+1)) a)
(K (VI d) a))
theorem akm(a:Sl)(h:Heap)(K:KQ)(H:akl aB a h K):aG aB 190 #[a.v] h K:=cw mixed Tryz.func190 [(58,⟨[⟨3,.l (.i .i64)⟩,⟨8,.l (.i .i64)⟩],[],[]⟩)] [.v (.l (.sl a))] [] [] .nil 17 (by kernel_rfl) H
def akn(P:Program)(e:Int)(f:Int)(g:Int)(i:Int)(h:Heap)(K:KQ):Prop:=pk (
C1 (fun a=>(.pointer a)) P 239 #[VI e,VI f,VI g] h [] fun a j=>
O1 0 j fun k l(c:Int) b=>
Vars b []->
Br (decide (c<i))
(aG P 240 #[(.pointer a)] b fun o d=>Va d [] fun L=>
Nj l fun m=>k m (aX (c+1)) d)
(K (.pointer a) b))
theorem ako(a:Int)(b:Int)(c:Int)(d:Int)(h:Heap)(K:KQ)(H:akn aB a b c d h K):aG aB 191 #[VI a,VI b,VI c,VI d] h K:=cw mixed Tryz.func191 [(58,⟨[⟨10,.l (.i .i64)⟩],[],[]⟩)] [.v (.l (.i .i64 a)),.v (.l (.i .i64 b)),.v (.l (.i .i64 c)),.v (.l (.i .i64 d))] [] [] .nil 23 (by kernel_rfl) H
def akp(P:Program)(b:Int)(c:Int)(h:Heap)(K:KQ):Prop:=pk (
C1 VB P 119 #[VI b,VI 0,VI 250] h [] fun d a=>
Br d
(C1 VB P 119 #[VI c,VI 0,VI 3] a [] fun e f=>
K (VB e) f)
(K (VB false) a))
theorem akq(a:Int)(b:Int)(h:Heap)(K:KQ)(H:akp aB a b h K):aG aB 192 #[VI a,VI b] h K:=cw mixed Tryz.func192 [] [.v (.l (.i .i64 a)),.v (.l (.i .i64 b))] [] [] .nil 11 (by kernel_rfl) H
def akr(P:Program)(af:Int)(ag:Int)(h:Heap)(K:KQ):Prop:=pk (
∃l:Nat->Sl->Sl->Sl->Int->Heap->Prop,((E1 Sl.v P (Instr.makeSlice 195 (.int .i64 14641) (.int .i64 14641)) h [] fun a1 ah=>
E1 Sl.v P (Instr.makeSlice 27 (.int .i64 14641) (.int .i64 14641)) ah [] fun a2 ai=>
A1 ai [] (fun o=>(o,[a1.v,a2.v,aD.v,VI 0])::[]) fun o aj L=>
l o a1 a2 aD 0 aj)/\
(E1 Sl.v P (Instr.makeSlice 27 (.int .i64 14641) (.int .i64 14641)) h [] fun a3 ak=>
E1 Sl.v P (Instr.makeSlice 195 (.int .i64 14641) (.int .i64 14641)) ak [] fun a4 al=>
A1 al [] (fun p=>(p,[a4.v,a3.v,aD.v,VI 0])::[]) fun p am L=>
l p a4 a3 aD 0 am))/\
∀(d:Nat)(q:Sl)(c:Sl)(r:Sl)(s:Int)(t:Heap),l d q c r s t->Vi t ((d,[q.v,c.v,r.v,VI s])::[]) fun L=>
O1 0 t fun an ao(i:Int) u=>
Vars u L->
Br (decide (i<(c.n:Int)))
(fq c i/\
S1 u (Sl.at c i 1) (VI ag) L fun ap=>
Nj ao fun m=>an m (aX (i+1)) ap)
(O5 af q c r s u fun aq ar(a5:Int)(a6:Sl)(a7:Sl)(a8:Sl)(a9:Int) x=>
Vi x (Z0 [a6.v,a7.v,a8.v,VI a9] L) fun L=>
Br (decide (0<a5))
(O6 0 0 a6 a7 a8 a9 x fun au av(e:Int)(f:Int)(b:Sl)(a:Sl)(j:Sl)(g:Int) aa=>
Vi aa (Z0 [b.v,a.v,j.v,VI g] L) fun L=>
C1 VI P 241 #[VI e,VI f] aa L fun aw y=>
G1 VB y b aw 1 fun ax=>
Br ax
(C1 VI P 241 #[VI e,VI f] y L fun k ab=>
G1 VI ab a k 1 fun ay=>
fq a k/\
S1 ab (Sl.at a k 1) (VI (Int.tmod (aX (ay+1)) 4)) L fun ac=>
G1 VI ac a k 1 fun az=>
C2 (fun z a0=>(.tuple #[VI z,VI a0])) P 242 #[VI e,VI f,VI az] ac L fun z a0 b0=>
A0 b0 [d] (Z0 [b.v,a.v,j.v,(VI (aX (g+1)))] L) fun b1 L=>
Nj av fun m=>au m z a0 b a j (aX (g+1)) b1)
(C1 VI P 241 #[VI e,VI f] y L fun ad b2=>
fq b ad/\
S1 b2 (Sl.at b ad 1) (VB true) L fun b3=>
E1 Sl.v P (Instr.buildSlice 27 2 #[(0,(VI e)),(1,(VI f))]) b3 L fun b4 b5=>
E1 Sl.v P (Instr.buildSlice 24 1 #[(0,b4.v)]) b5 L fun b6 b7=>
E1 Sl.v P (cD 24 24 24 j.v b6.v) b7 L fun ae b8=>
A0 b8 [d] (Z0 [b.v,a.v,ae.v,VI g] L) fun b9 L=>
Nj ar fun m=>aq m (aX (a5-1)) b a ae g b9))
(K (VP d 0) x)))
theorem v193(a:Int)(b:Int)(h:Heap)(K:KQ)(H:akr aB a b h K):aG aB 193 #[VI a,VI b] h K:=cw mixed Tryz.func193 [(3,⟨[],[],[(5,[.sl,.sl,.sl,.i .i64])]⟩),(58,⟨[⟨19,.l (.i .i64)⟩],[],[]⟩),(60,⟨[⟨0,.l (.i .i64)⟩],[0],[]⟩),(7716,⟨[⟨7,.l (.i .i64)⟩,⟨8,.l (.i .i64)⟩],[0],[]⟩)] [.v (.l (.i .i64 a)),.v (.l (.i .i64 b))] [] [] .nil 102 (by kernel_rfl) H
def aks(P:Program)(e:ByteArray)(h:Heap)(K:KQ):Prop:=pk (
E1 Sl.v P (Instr.buildSlice 27 0 #[]) h [] fun f g=>
Br (e.toList==ByteArray.toList ({data:= #[45]}))
(K (.tuple #[f.v,VB true]) g)
(C1 Sl.v P 81 #[VS e,(VS ({data:= #[44]}))] g [] fun i p=>
O2 f 0 p fun q r(j:Sl)(c:Int) a=>
Vars a []->
Br (decide (c<(i.n:Int)))
(G1 VS a i c 1 fun k=>
C2 (fun b d=>(.tuple #[VI b,d])) P 154 #[VS k] a [] fun b d l=>
Q1 VB P (od .neq 163 (.tmp 25) (.const Value.nilIface) d Value.nilIface) fun s=>
Br s
(K (.tuple #[aD.v,VB false]) l)
(C1 VS P 92 #[VI b] l [] fun t o=>
Br (!(t.toList==k.toList))
(K (.tuple #[aD.v,VB false]) o)
(E1 Sl.v P (Instr.buildSlice 27 1 #[(0,(VI b))]) o [] fun u x=>
E1 Sl.v P (cD 27 27 27 j.v u.v) x [] fun y z=>
Nj r fun m=>q m y (aX (c+1)) z)))
(K (.tuple #[j.v,VB true]) a)))
theorem akt(a:ByteArray)(h:Heap)(K:KQ)(H:aks aB a h K):aG aB 199 #[VS a] h K:=cw mixed Tryz.func199 [(122,⟨[⟨4,.l .sl⟩,⟨16,.l (.i .i64)⟩],[],[]⟩)] [.v (.l (.s a))] [] [] .nil 39 (by kernel_rfl) H
end Go.Proofs.YtcnfcnoooecchaaGreatDoor
