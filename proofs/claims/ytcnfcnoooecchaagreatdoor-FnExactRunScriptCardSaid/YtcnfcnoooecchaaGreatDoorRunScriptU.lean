import Derived.Test.YtcnfcnoooecchaaGreatDoorProg
import Derived.Test.YtcnfcnoooecchaaGreatDoorM8
set_option linter.unusedVariables false
set_option linter.unusedSimpArgs false
set_option maxRecDepth 100000
set_option maxHeartbeats 16000000
namespace Go.Proofs.YtcnfcnoooecchaaGreatDoor
open Go Go.Mx
theorem mixed:Tryz.prog.follows .mixedOrders=true:=by kernel_rfl
def u6(P:Program)(b:ByteArray)(h:Heap)(K:KQ):Prop:=pk (
Br (decide (1048576<(b.size:Int)))
(K (VB true) h)
(C2 (fun c d=>(Value.tuple #[(Sl.v c),(VB d)])) P 26 #[(VS b)] h [] fun c d r=>
C2 (fun a e=>(Value.tuple #[(Sl.v a),(VB e)])) P 25 #[(VS b)] r [] fun a e s=>
C1 VB P 31 #[a.v,c.v] s [] fun t f=>
Br (!t)
(K (VB false) f)
(Br (!(e==d))
(K (VB false) f)
(C1 VI P 32 #[a.v,(VI 1)] f [] fun o u=>
C1 VI P 33 #[a.v,(VI 1)] u [] fun p g=>
Br (decide (p<0))
(K (VB false) g)
(Br (!decide (p=o))
(K (VB false) g)
(C2 (fun i j=>(Value.tuple #[(Sl.v i),(VB j)])) P 25 #[(VS b)] g [] fun i j x=>
C1 VB P 31 #[i.v,c.v] x [] fun y k=>
Br (!y)
(K (VB false) k)
(Br (!(j==d))
(K (VB false) k)
(C1 VI P 33 #[a.v,(VI 1)] k [] fun q l=>
Br (decide (q<0))
(K (VB false) l)
(Br (!decide (q=o))
(K (VB false) l)
(K (VB true) l))))))))))
theorem v6(a:ByteArray)(h:Heap)(K:KQ)(H:u6 Tryz.prog a h K):aE Tryz.prog 6 #[(VS a)] h K:=cw mixed Tryz.func6 [] [.v (.l (.s a))] [] [] .nil 66 (by kernel_rfl) H
def u25(P:Program)(g:ByteArray)(h:Heap)(K:KQ):Prop:=pk (
C5 (fun a b c d e=>(Value.tuple #[(Value.agg #[(Sl.v a),(Sl.v b),(VI c)]),(Sl.v d),(VB e)])) P 67 #[(VS g)] h [] fun a b c d e i=>
A1 i [] (fun f=>Z0 [a.v,b.v,(VI c)] ((f,[aC.v,aC.v,(VI 0)])::[])) fun f j L=>
K (Value.tuple #[d.v,(VB e)]) j)
theorem v25(a:ByteArray)(h:Heap)(K:KQ)(H:u25 Tryz.prog a h K):aE Tryz.prog 25 #[(VS a)] h K:=cw mixed Tryz.func25 [] [.v (.l (.s a))] [] [] .nil 15 (by kernel_rfl) H
def u26(P:Program)(g:ByteArray)(h:Heap)(K:KQ):Prop:=pk (
C5 (fun a b c d e=>(Value.tuple #[(Value.agg #[(Sl.v a),(Sl.v b),(VI c)]),(Sl.v d),(VB e)])) P 68 #[(VS g)] h [] fun a b c d e i=>
A1 i [] (fun f=>Z0 [a.v,b.v,(VI c)] ((f,[aC.v,aC.v,(VI 0)])::[])) fun f j L=>
K (Value.tuple #[d.v,(VB e)]) j)
theorem v26(a:ByteArray)(h:Heap)(K:KQ)(H:u26 Tryz.prog a h K):aE Tryz.prog 26 #[(VS a)] h K:=cw mixed Tryz.func26 [] [.v (.l (.s a))] [] [] .nil 15 (by kernel_rfl) H
def u30(P:Program)(h:Heap)(K:KQ):Prop:=pk (
A1 h [] (fun d=>(d,[aC.v,aC.v,(VI 0)])::[]) fun d e L=>
E1 Sl.v P (Instr.buildSlice 27 2 #[(0,(.int .i64 1)),(1,(.int .i64 2))]) e L fun f g=>
E1 Sl.v P (Instr.buildSlice 27 2 #[(0,(.int .i64 0)),(1,(.int .i64 2))]) g L fun i j=>
E1 Sl.v P (Instr.buildSlice 27 1 #[(0,(.int .i64 0))]) j L fun k l=>
E1 Sl.v P (Instr.buildSlice 24 3 #[(0,f.v),(1,i.v),(2,k.v)]) l L fun o p=>
C3 (fun a b c=>(Value.agg #[(Sl.v a),(Sl.v b),(VI c)])) P 69 #[(Value.agg #[o.v])] p L fun a b c q=>
A0 q [d] (Z0 [a.v,b.v,(VI c)] L) fun r L=>
K (Value.agg #[a.v,b.v,(VI c)]) r)
theorem v30(h:Heap)(K:KQ)(H:u30 Tryz.prog h K):aE Tryz.prog 30 #[] h K:=cw mixed Tryz.func30 [] [] [] [] .nil 7 (by kernel_rfl) H
def u31(P:Program)(c:Sl)(d:Sl)(h:Heap)(K:KQ):Prop:=pk (
Br (!decide ((c.n:Int)=(d.n:Int)))
(K (VB false) h)
(O1 0 h fun e f(b:Int) a=>
Vars a []->
Br (decide (b<(c.n:Int)))
(G1 VS a c b 1 fun g=>
G1 VS a d b 1 fun i=>
Br (!(ByteArray.toList g==ByteArray.toList i))
(K (VB false) a)
(Nj f fun m=>e m (aL (b+1)) a))
(K (VB true) a)))
theorem v31(a:Sl)(b:Sl)(h:Heap)(K:KQ)(H:u31 Tryz.prog a b h K):aE Tryz.prog 31 #[a.v,b.v] h K:=cw mixed Tryz.func31 [(58,⟨[⟨5,.l (.i .i64)⟩],[],[]⟩)] [.v (.l (.sl a)),.v (.l (.sl b))] [] [] .nil 26 (by kernel_rfl) H
def u32(P:Program)(b:Sl)(e:Int)(h:Heap)(K:KQ):Prop:=pk (
O2 e 0 h fun f g(c:Int)(a:Int) d=>
Vars d []->
Br (decide (a<(b.n:Int)))
(C1 VS P 70 #[(VI c)] d [] fun i j=>
dQ b a/\
S1 j (Sl.at b a 1) (VS i) [] fun k=>
Nj g fun m=>f m (aL (c+1)) (aL (a+1)) k)
(K (VI c) d))
theorem v32(a:Sl)(b:Int)(h:Heap)(K:KQ)(H:u32 Tryz.prog a b h K):aE Tryz.prog 32 #[a.v,(VI b)] h K:=cw mixed Tryz.func32 [(26,⟨[⟨1,.l (.i .i64)⟩,⟨5,.l (.i .i64)⟩],[],[]⟩)] [.v (.l (.sl a)),.v (.l (.i .i64 b))] [] [] .nil 20 (by kernel_rfl) H
def u33(P:Program)(c:Sl)(g:Int)(h:Heap)(K:KQ):Prop:=pk (
O2 g 0 h fun i j(d:Int)(a:Int) b=>
Vars b []->
Br (decide (a<(c.n:Int)))
(G1 VS b c a 1 fun f=>
C1 VS P 70 #[(VI d)] b [] fun k e=>
aR e (Sl.at c a 1)=some (VS f)/\
Br (!(ByteArray.toList f==ByteArray.toList k))
(K (VI (-1)) e)
(Nj j fun m=>i m (aL (d+1)) (aL (a+1)) e))
(K (VI d) b))
theorem v33(a:Sl)(b:Int)(h:Heap)(K:KQ)(H:u33 Tryz.prog a b h K):aE Tryz.prog 33 #[a.v,(VI b)] h K:=cw mixed Tryz.func33 [(26,⟨[⟨1,.l (.i .i64)⟩,⟨5,.l (.i .i64)⟩],[],[]⟩)] [.v (.l (.sl a)),.v (.l (.i .i64 b))] [] [] .nil 22 (by kernel_rfl) H
def u44(P:Program)(e:Sl)(f:Sl)(g:Int)(a3:ByteArray)(h:Heap)(K:KQ):Prop:=pk (
A2 h [] (fun a1 b=>(b,[aC.v,aC.v,(VI 0)])::((a1,[e.v,f.v,(VI g)])::[])) fun a1 b a4 L=>
C3 (fun r s t=>(Value.agg #[(Sl.v r),(Sl.v s),(VI t)])) P 79 #[(Value.agg #[e.v,f.v,(VI g)])] a4 L fun r s t a5=>
A1 a5 [] (fun u=>(u,[r.v,s.v,(VI t),(VB false)])::L) fun u a6 L=>
C1 Sl.v P 81 #[(VS a3),(VS ({data:= #[32]}))] a6 L fun a7 a8=>
aE P 80 #[(VP u 0),a7.v] a8 fun a9 i=>∃x:Sl,∃y:Sl,∃z:Int,∃a2:Bool,∃c:ByteArray,∃d:Bool,a9=(Value.agg #[(VS c),(VB d)])/\Va i (Z0 [x.v,y.v,(VI z),(VB a2)] L) fun L=>
Br a2
(A1 i [] (fun a=>Z0 [(VS c),(VB d)] ((a,[(VS (⟨#[]⟩:ByteArray)),(VB false)])::L)) fun a a0 L=>
C3 (fun j k l=>(Value.agg #[(Sl.v j),(Sl.v k),(VI l)])) P 79 #[(Value.agg #[e.v,f.v,(VI g)])] a0 L fun j k l aa=>
A0 aa [b] (Z2 [j.v,k.v,(VI l)] L) fun ab L=>
K (Value.tuple #[(Value.agg #[j.v,k.v,(VI l)]),(VS ({data:= #[119,104,97,116]}))]) ab)
(Br (!d)
(A1 i [] (fun a=>Z0 [(VS c),(VB d)] ((a,[(VS (⟨#[]⟩:ByteArray)),(VB false)])::L)) fun a a0 L=>
C3 (fun o p q=>(Value.agg #[(Sl.v o),(Sl.v p),(VI q)])) P 79 #[(Value.agg #[e.v,f.v,(VI g)])] a0 L fun o p q ac=>
A0 ac [b] (Z2 [o.v,p.v,(VI q)] L) fun ad L=>
K (Value.tuple #[(Value.agg #[o.v,p.v,(VI q)]),(VS ({data:= #[110,111]}))]) ad)
(A1 i [b] (fun a=>Z2 [x.v,y.v,(VI z)] (Z0 [(VS c),(VB d)] ((a,[(VS (⟨#[]⟩:ByteArray)),(VB false)])::L))) fun a ae L=>
K (Value.tuple #[(Value.agg #[x.v,y.v,(VI z)]),(VS c)]) ae)))
theorem v44(b:Sl)(c:Sl)(d:Int)(e:ByteArray)(h:Heap)(K:KQ)(H:u44 Tryz.prog b c d e h K):aE Tryz.prog 44 #[(Value.agg #[b.v,c.v,(VI d)]),(VS e)] h K:=cw mixed Tryz.func44 [] [.v (.a [.sl b,.sl c,.i .i64 d]),.v (.l (.s e))] [] [] .nil 35 (by kernel_rfl) H
def u46(P:Program)(b:ByteArray)(l:Int)(h:Heap)(K:KQ):Prop:=pk (
O3 aC 0 0 h fun o p(d:Sl)(e:Int)(a:Int) c=>
Vars c []->
Br (decide (a<(b.size:Int)))
(∃f:Sl->Int->Heap->Prop,(Q1 (fun g=>(Value.int .u8 g)) P (Instr.index 9 (VS b) (VI a)) fun g=>
Br (decide (g=l))
(Q1 VS P (Instr.sliceAt 9 (VS b) (some (VI e)) (some (VI a)) none) fun q=>
E1 Sl.v P (Instr.buildSlice 52 1 #[(0,(VS q))]) c [] fun r s=>
E1 Sl.v P (bK 52 52 52 d.v r.v) s [] fun t u=>
f t (aL (a+1)) u)
(f d e c))/\
∀(j:Sl)(k:Int)(i:Heap),f j k i->Vars i []->
Nj p fun m=>o m j k (aL (a+1)) i)
(Q1 VS P (Instr.sliceAt 9 (VS b) (some (VI e)) none none) fun x=>
E1 Sl.v P (Instr.buildSlice 52 1 #[(0,(VS x))]) c [] fun y z=>
E1 Sl.v P (bK 52 52 52 d.v y.v) z [] fun a0 a1=>
K a0.v a1))
theorem v46(a:ByteArray)(b:Int)(h:Heap)(K:KQ)(H:u46 Tryz.prog a b h K):aE Tryz.prog 46 #[(VS a),(Value.int .u8 b)] h K:=cw mixed Tryz.func46 [(122,⟨[⟨5,.l .sl⟩,⟨6,.l (.i .i64)⟩,⟨7,.l (.i .i64)⟩],[],[]⟩),(489,⟨[⟨5,.l .sl⟩,⟨6,.l (.i .i64)⟩],[],[]⟩)] [.v (.l (.s a)),.v (.l (.i .u8 b))] [] [] .nil 34 (by kernel_rfl) H
def u47(P:Program)(d:Sl)(e:Sl)(f:Int)(a4:ByteArray)(h:Heap)(K:KQ):Prop:=pk (
A2 h [] (fun x i=>(i,[aC.v,aC.v,(VI 0)])::((x,[d.v,e.v,(VI f)])::[])) fun x i a5 L=>
aE P 84 #[(Value.agg #[d.v,e.v,(VI f)]),(VS a4)] a5 fun a6 k=>∃a:ByteArray,∃l:Sl,∃o:Sl,∃p:Int,∃q:Sl,∃r:Sl,∃y:Bool,a6=(Value.tuple #[(VS a),(Value.agg #[l.v,o.v,(VI p),q.v,r.v]),(VB y)])/\Va k L fun L=>
Br (!y)
(A1 k [i] (fun b=>Z1 [d.v,e.v,(VI f)] (Z0 [l.v,o.v,(VI p),q.v,r.v] ((b,[aC.v,aC.v,(VI 0),aC.v,aC.v])::L))) fun b a7 L=>
K (Value.tuple #[(Value.agg #[d.v,e.v,(VI f)]),(VS ({data:= #[119,104,97,116]}))]) a7)
(A1 k [] (fun b=>Z0 [l.v,o.v,(VI p),q.v,r.v] ((b,[aC.v,aC.v,(VI 0),aC.v,aC.v])::L)) fun b g L=>
∃c:Bool->Heap->Prop,(Br (ByteArray.toList a==ByteArray.toList ({data:= #[103,114,97,112,104]}))
(c (ByteArray.toList a==ByteArray.toList ({data:= #[103,114,97,112,104]})) g)
(Br (ByteArray.toList a==ByteArray.toList ({data:= #[97,100,100]}))
(c (ByteArray.toList a==ByteArray.toList ({data:= #[97,100,100]})) g)
(Br (ByteArray.toList a==ByteArray.toList ({data:= #[97,116]}))
(c (ByteArray.toList a==ByteArray.toList ({data:= #[97,116]})) g)
(Br (ByteArray.toList a==ByteArray.toList ({data:= #[116,117,114,110]}))
(c (ByteArray.toList a==ByteArray.toList ({data:= #[116,117,114,110]})) g)
(Br (ByteArray.toList a==ByteArray.toList ({data:= #[115,116,101,112]}))
(c (ByteArray.toList a==ByteArray.toList ({data:= #[115,116,101,112]})) g)
(c (ByteArray.toList a==ByteArray.toList ({data:= #[114,117,110]})) g))))))/\
∀(z:Bool)(j:Heap),c z j->Vars j L->
Br z
(aE P 85 #[(VP b 0),(VS a)] j fun a8 a0=>∃s:Sl,∃t:Sl,∃u:Int,∃a9:Sl,∃aa:Sl,∃a1:ByteArray,a8=(VS a1)/\Va a0 (Z0 [s.v,t.v,(VI u),a9.v,aa.v] L) fun L=>
A0 a0 [i] (Z1 [s.v,t.v,(VI u)] L) fun ab L=>
K (Value.tuple #[(Value.agg #[s.v,t.v,(VI u)]),(VS a1)]) ab)
(aE P 86 #[(VP b 0),(VS a)] j fun ac a2=>∃ad:Sl,∃ae:Sl,∃af:Int,∃ag:Sl,∃ah:Sl,∃a3:ByteArray,ac=(VS a3)/\Va a2 (Z0 [ad.v,ae.v,(VI af),ag.v,ah.v] L) fun L=>
A0 a2 [i] (Z1 [d.v,e.v,(VI f)] L) fun ai L=>
K (Value.tuple #[(Value.agg #[d.v,e.v,(VI f)]),(VS a3)]) ai)))
theorem v47(c:Sl)(d:Sl)(e:Int)(f:ByteArray)(h:Heap)(K:KQ)(H:u47 Tryz.prog c d e f h K):aE Tryz.prog 47 #[(Value.agg #[c.v,d.v,(VI e)]),(VS f)] h K:=cw mixed Tryz.func47 [(122,⟨[⟨21,.l .b⟩],[],[]⟩)] [.v (.a [.sl c,.sl d,.i .i64 e]),.v (.l (.s f))] [] [] .nil 36 (by kernel_rfl) H
def u50(P:Program)(a:Sl)(h:Heap)(K:KQ):Prop:=pk (
A2 h [] (fun f c=>Z0 [(VI (a.n:Int))] ((c,[(VI 0)])::((f,[a.v])::[]))) fun f c l L=>
C1 VB P 52 #[(VI (a.n:Int)),(VI 1),(VI 8)] l L fun o g=>
Br (!o)
(K (VB false) g)
(O2 0 (a.n:Int) g fun p q(d:Int)(r:Int) b=>
Vi b (Z0 [(VI r)] L) fun L=>
Br (decide (d<(a.n:Int)))
(G1 Sl.v b a d 1 fun i=>
Br (decide (5<(i.n:Int)))
(K (VB false) b)
(aE P 53 #[i.v,(Value.func (Fn.func 88) #[] #[(VP c 0)])] b fun s e=>∃j:Int,∃k:Bool,s=(VB k)/\Va e (Z0 [(VI j)] L) fun L=>
Br k
(K (VB false) e)
(Nj q fun m=>p m (aL (d+1)) j e)))
(K (VB true) b)))
theorem v50(b:Sl)(h:Heap)(K:KQ)(H:u50 Tryz.prog b h K):aE Tryz.prog 50 #[(Value.agg #[b.v])] h K:=cw mixed Tryz.func50 [(122,⟨[⟨15,.l (.i .i64)⟩],[1],[]⟩)] [.v (.a [.sl b])] [] [] .nil 28 (by kernel_rfl) H
def u51(P:Program)(b:Sl)(h:Heap)(K:KQ):Prop:=pk (
A1 h [] (fun d=>(d,[b.v])::[]) fun d f L=>
E1 Sl.v P (Instr.buildSlice 52 0 #[]) f L fun g i=>
O2 g 0 i fun j k(e:Sl)(c:Int) a=>
Vars a L->
Br (decide (c<(b.n:Int)))
(G1 Sl.v a b c 1 fun l=>
C1 VS P 89 #[l.v] a L fun o p=>
E1 Sl.v P (Instr.buildSlice 52 1 #[(0,(VS o))]) p L fun q r=>
E1 Sl.v P (bK 52 52 52 e.v q.v) r L fun s t=>
Nj k fun m=>j m s (aL (c+1)) t)
(C1 VS P 90 #[e.v,(VS ({data:= #[59]}))] a L fun u x=>
K (VS u) x))
theorem v51(b:Sl)(h:Heap)(K:KQ)(H:u51 Tryz.prog b h K):aE Tryz.prog 51 #[(Value.agg #[b.v])] h K:=cw mixed Tryz.func51 [(58,⟨[⟨3,.l .sl⟩,⟨10,.l (.i .i64)⟩],[],[]⟩)] [.v (.a [.sl b])] [] [] .nil 22 (by kernel_rfl) H
def u52(P:Program)(a:Int)(b:Int)(c:Int)(h:Heap)(K:KQ):Prop:=pk (
Br (decide (b<=a))
(K (VB (decide (a<=c))) h)
(K (VB false) h))
theorem v52(a:Int)(b:Int)(c:Int)(h:Heap)(K:KQ)(H:u52 Tryz.prog a b c h K):aE Tryz.prog 52 #[(VI a),(VI b),(VI c)] h K:=cw mixed Tryz.func52 [] [.v (.l (.i .i64 a)),.v (.l (.i .i64 b)),.v (.l (.i .i64 c))] [] [] .nil 15 (by kernel_rfl) H
def u53(P:Program)(a:Sl)(b:Value)(h:Heap)(K:KQ):Prop:=pk (
C1 VI P 91 #[a.v,b] h [] fun c d=>
K (VB (decide (0<=c))) d)
theorem v53(a:Sl)(b:Value)(h:Heap)(K:KQ)(H:u53 Tryz.prog a b h K):aE Tryz.prog 53 #[a.v,b] h K:=cw mixed Tryz.func53 [] [.v (.l (.sl a)),.v (.l (.r b))] [] [] .nil 9 (by kernel_rfl) H
def u55(P:Program)(b:Sl)(c:Int)(h:Heap)(K:KQ):Prop:=pk (
A1 h [] (fun d=>(d,[b.v,(VI c)])::[]) fun d f L=>
C1 VS P 92 #[(VI c)] f L fun a g=>
ByteArray.size a+ByteArray.size ({data:= #[58]})<=9223372036854775807/\
C1 VS P 89 #[b.v] g L fun e i=>
ByteArray.size (a++({data:= #[58]}))+ByteArray.size e<=9223372036854775807/\
K (VS ((a++({data:= #[58]}))++e)) i)
theorem v55(b:Sl)(c:Int)(h:Heap)(K:KQ)(H:u55 Tryz.prog b c h K):aE Tryz.prog 55 #[(Value.agg #[b.v,(VI c)])] h K:=cw mixed Tryz.func55 [] [.v (.a [.sl b,.i .i64 c])] [] [] .nil 11 (by kernel_rfl) H
def u67(P:Program)(r:ByteArray)(h:Heap)(K:KQ):Prop:=pk (
A1 h [] (fun a=>(a,[aC.v,aC.v,(VI 0)])::[]) fun a a0 L=>
C3 (fun b c d=>(Value.agg #[(Sl.v b),(Sl.v c),(VI d)])) P 30 #[] a0 L fun b c d a1=>
E1 Sl.v P (Instr.buildSlice 52 0 #[]) a1 L fun u x=>
Br (ByteArray.toList r==ByteArray.toList ({data:= #[]}))
(A1 x [a] (fun f=>Z1 [b.v,c.v,(VI d)] (Z0 [b.v,c.v,(VI d)] ((f,[aC.v,aC.v,(VI 0)])::L))) fun f a2 L=>
K (Value.tuple #[(Value.agg #[b.v,c.v,(VI d)]),u.v,(VB true)]) a2)
(A1 x [] (fun f=>Z0 [b.v,c.v,(VI d)] ((f,[aC.v,aC.v,(VI 0)])::L)) fun f a3 L=>
C1 Sl.v P 81 #[(VS r),(VS ({data:= #[10]}))] a3 L fun e g=>
Br (decide (3000<(r.size:Int)))
(A0 g [a] (Z1 [aC.v,aC.v,(VI 0)] L) fun a4 L=>
K (Value.tuple #[(Value.agg #[aC.v,aC.v,(VI 0)]),aC.v,(VB false)]) a4)
(dQ e (aL ((e.n:Int)-1))/\
H1 VS g (Sl.at e (aL ((e.n:Int)-1)) 1) fun a5=>
Br (!(ByteArray.toList a5==ByteArray.toList ({data:= #[]})))
(A0 g [a] (Z1 [aC.v,aC.v,(VI 0)] L) fun a6 L=>
K (Value.tuple #[(Value.agg #[aC.v,aC.v,(VI 0)]),aC.v,(VB false)]) a6)
(Br (decide (50<(aL ((e.n:Int)-1))))
(A0 g [a] (Z1 [aC.v,aC.v,(VI 0)] L) fun a7 L=>
K (Value.tuple #[(Value.agg #[aC.v,aC.v,(VI 0)]),aC.v,(VB false)]) a7)
(Q1 Sl.v P (Instr.sliceAt 52 e.v none (some (VI (aL ((e.n:Int)-1)))) none) fun y=>
O5 u 0 b c d g fun a8 a9(z:Sl)(s:Int)(i:Sl)(j:Sl)(k:Int) l=>
Vi l (Z0 [i.v,j.v,(VI k)] L) fun L=>
Br (decide (s<(y.n:Int)))
(G1 VS l y s 1 fun aa=>
C4 (fun o p q t=>(Value.tuple #[(Value.agg #[(Sl.v o),(Sl.v p),(VI q)]),(VS t)])) P 44 #[(Value.agg #[i.v,j.v,(VI k)]),(VS aa)] l L fun o p q t ab=>
A0 ab [f] (Z0 [o.v,p.v,(VI q)] L) fun ac L=>
E1 Sl.v P (Instr.buildSlice 52 1 #[(0,(VS t))]) ac L fun ad ae=>
E1 Sl.v P (bK 52 52 52 z.v ad.v) ae L fun af ag=>
Nj a9 fun m=>a8 m af (aL (s+1)) o p q ag)
(A0 l [a] (Z1 [i.v,j.v,(VI k)] L) fun ah L=>
K (Value.tuple #[(Value.agg #[i.v,j.v,(VI k)]),z.v,(VB true)]) ah))))))
theorem v67(a:ByteArray)(h:Heap)(K:KQ)(H:u67 Tryz.prog a h K):aE Tryz.prog 67 #[(VS a)] h K:=cw mixed Tryz.func67 [(1018,⟨[⟨6,.l .sl⟩,⟨42,.l (.i .i64)⟩],[1],[]⟩)] [.v (.l (.s a))] [] [] .nil 59 (by kernel_rfl) H
def u68(P:Program)(t:ByteArray)(h:Heap)(K:KQ):Prop:=pk (
Br (decide (3000<(t.size:Int)))
(A1 h [] (fun a=>Z0 [aC.v,aC.v,(VI 0)] ((a,[aC.v,aC.v,(VI 0)])::[])) fun a z L=>
K (Value.tuple #[(Value.agg #[aC.v,aC.v,(VI 0)]),aC.v,(VB false)]) z)
(A1 h [] (fun a=>(a,[aC.v,aC.v,(VI 0)])::[]) fun a a0 L=>
C1 Sl.v P 46 #[(VS t),(Value.int .u8 10)] a0 L fun b f=>
dQ b (aL ((b.n:Int)-1))/\
H1 VS f (Sl.at b (aL ((b.n:Int)-1)) 1) fun a1=>
Br (!(ByteArray.toList a1==ByteArray.toList ({data:= #[]})))
(A0 f [a] (Z0 [aC.v,aC.v,(VI 0)] L) fun a2 L=>
K (Value.tuple #[(Value.agg #[aC.v,aC.v,(VI 0)]),aC.v,(VB false)]) a2)
(Br (decide (50<(aL ((b.n:Int)-1))))
(A0 f [a] (Z0 [aC.v,aC.v,(VI 0)] L) fun a3 L=>
K (Value.tuple #[(Value.agg #[aC.v,aC.v,(VI 0)]),aC.v,(VB false)]) a3)
(C3 (fun g i j=>(Value.agg #[(Sl.v g),(Sl.v i),(VI j)])) P 102 #[] f L fun g i j a4=>
Q1 Sl.v P (Instr.sliceAt 52 b.v none (some (VI (aL ((b.n:Int)-1)))) none) fun u=>
A1 a4 [] (fun q=>Z0 [g.v,i.v,(VI j)] ((q,[aC.v,aC.v,(VI 0)])::L)) fun q a5 L=>
O5 aC 0 g i j a5 fun a6 a7(x:Sl)(r:Int)(k:Sl)(l:Sl)(o:Int) p=>
Vi p (Z0 [k.v,l.v,(VI o)] L) fun L=>
Br (decide (r<(u.n:Int)))
(G1 VS p u r 1 fun a8=>
C4 (fun c d e s=>(Value.tuple #[(Value.agg #[(Sl.v c),(Sl.v d),(VI e)]),(VS s)])) P 47 #[(Value.agg #[k.v,l.v,(VI o)]),(VS a8)] p L fun c d e s a9=>
A1 a9 [q] (fun y=>Z1 [c.v,d.v,(VI e)] (Z0 [c.v,d.v,(VI e)] ((y,[aC.v,aC.v,(VI 0)])::L))) fun y aa L=>
E1 Sl.v P (Instr.buildSlice 52 1 #[(0,(VS s))]) aa L fun ab ac=>
E1 Sl.v P (bK 52 52 52 x.v ab.v) ac L fun ad ae=>
Nj a7 fun m=>a6 m ad (aL (r+1)) c d e ae)
(A0 p [a] (Z1 [k.v,l.v,(VI o)] L) fun af L=>
K (Value.tuple #[(Value.agg #[k.v,l.v,(VI o)]),x.v,(VB true)]) af)))))
theorem v68(a:ByteArray)(h:Heap)(K:KQ)(H:u68 Tryz.prog a h K):aE Tryz.prog 68 #[(VS a)] h K:=cw mixed Tryz.func68 [(2042,⟨[⟨8,.l .sl⟩,⟨37,.l (.i .i64)⟩],[1],[]⟩)] [.v (.l (.s a))] [] [] .nil 55 (by kernel_rfl) H
def u69(P:Program)(a:Sl)(h:Heap)(K:KQ):Prop:=pk (
A2 h [] (fun c b=>(b,[aC.v,aC.v,(VI 0)])::((c,[a.v])::[])) fun c b e L=>
E1 Sl.v P (Instr.makeSlice 27 (VI (a.n:Int)) (VI (a.n:Int))) e L fun d f=>
A0 f [b] (Z0 [a.v,d.v,(VI 0)] L) fun g L=>
K (Value.agg #[a.v,d.v,(VI 0)]) g)
theorem v69(b:Sl)(h:Heap)(K:KQ)(H:u69 Tryz.prog b h K):aE Tryz.prog 69 #[(Value.agg #[b.v])] h K:=cw mixed Tryz.func69 [] [.v (.a [.sl b])] [] [] .nil 10 (by kernel_rfl) H
def u70(P:Program)(e:Int)(h:Heap)(K:KQ):Prop:=pk (
Br (decide (e<=0))
(K (VS ({data:= #[109,48]})) h)
(O2 e ({data:= #[]}) h fun i j(c:Int)(a:ByteArray) b=>
Vars b []->
Br (decide (0<c))
(R1 (fun d=>(Value.int .u8 d)) P (convert 3 5 (VI (aL (48+(Int.tmod c 10))))) b fun d=>
E1 Sl.v P (Instr.buildSlice 22 1 #[(0,(Value.int .u8 d))]) b [] fun k f=>
R1 VS P (convert 22 9 k.v) f fun g=>
ByteArray.size g+ByteArray.size a<=9223372036854775807/\
Nj j fun m=>i m (aL (Int.tdiv c 10)) (g++a) f)
(ByteArray.size ({data:= #[109]})+ByteArray.size a<=9223372036854775807/\
K (VS (({data:= #[109]})++a)) b)))
theorem v70(a:Int)(h:Heap)(K:KQ)(H:u70 Tryz.prog a h K):aE Tryz.prog 70 #[(VI a)] h K:=cw mixed Tryz.func70 [(60,⟨[⟨0,.l (.i .i64)⟩,⟨3,.l .s⟩],[],[]⟩)] [.v (.l (.i .i64 a))] [] [] .nil 20 (by kernel_rfl) H
def u73(P:Program)(a:Int)(h:Heap)(K:KQ):Prop:=pk (
Br (decide (a<10))
(R1 (fun c=>(Value.int .u8 c)) P (convert 3 5 (VI (aL (48+a)))) h fun c=>
E1 Sl.v P (Instr.buildSlice 22 1 #[(0,(Value.int .u8 c))]) h [] fun q e=>
R1 VS P (convert 22 9 q.v) e fun r=>
K (VS r) e)
(R1 (fun b=>(Value.int .u8 b)) P (convert 3 5 (VI (aL (48+(Int.tmod a 10))))) h fun b=>
(C1 VS P 73 #[(VI (aL (Int.tdiv a 10)))] h [] fun f g=>
(∀w:World,w.heap=g->(convert 3 5 (VI (aL (48+(Int.tmod a 10))))).run P w= .ok (Value.int .u8 b) w)/\
E1 Sl.v P (Instr.buildSlice 22 1 #[(0,(Value.int .u8 b))]) g [] fun s i=>
R1 VS P (convert 22 9 s.v) i fun j=>
ByteArray.size f+ByteArray.size j<=9223372036854775807/\
K (VS (f++j)) i)/\
(E1 Sl.v P (Instr.buildSlice 22 1 #[(0,(Value.int .u8 b))]) h [] fun k l=>
R1 VS P (convert 22 9 k.v) l fun d=>
C1 VS P 73 #[(VI (aL (Int.tdiv a 10)))] l [] fun o p=>
(∀w:World,w.heap=p->(convert 22 9 k.v).run P w= .ok (VS d) w)/\
ByteArray.size o+ByteArray.size d<=9223372036854775807/\
K (VS (o++d)) p)))
theorem v73(a:Int)(h:Heap)(K:KQ)(H:u73 Tryz.prog a h K):aE Tryz.prog 73 #[(VI a)] h K:=cw mixed Tryz.func73 [] [.v (.l (.i .i64 a))] [] [] .nil 20 (by kernel_rfl) H
def u74(P:Program)(j:Sl)(h:Heap)(K:KQ):Prop:=pk (
A1 h [] (fun t=>(t,[j.v])::[]) fun t y L=>
O2 ({data:= #[]}) 0 y fun z a0(c:ByteArray)(d:Int) a=>
Vars a L->
Br (decide (d<(j.n:Int)))
(G1 Sl.v a j d 1 fun k=>
∃l:ByteArray->Heap->Prop,(Br (decide (0<d))
(ByteArray.size c+ByteArray.size ({data:= #[59]})<=9223372036854775807/\
l (c++({data:= #[59]})) a)
(l c a))/\
∀(e:ByteArray)(f:Heap),l e f->Vars f L->
∃o:ByteArray->Heap->Prop,(Br (decide ((k.n:Int)=0))
(ByteArray.size e+ByteArray.size ({data:= #[45]})<=9223372036854775807/\
o (e++({data:= #[45]})) f)
(o e f))/\
∀(u:ByteArray)(p:Heap),o u p->Vars p L->
O2 u 0 p fun a1 a2(g:ByteArray)(i:Int) b=>
Vars b L->
Br (decide (i<(k.n:Int)))
(G1 VI b k i 1 fun a3=>
∃q:ByteArray->Heap->Prop,(Br (decide (0<i))
(ByteArray.size g+ByteArray.size ({data:= #[44]})<=9223372036854775807/\
q (g++({data:= #[44]})) b)
(q g b))/\
∀(r:ByteArray)(s:Heap),q r s->Vars s L->
C1 VS P 73 #[(VI a3)] s L fun x a4=>
ByteArray.size r+ByteArray.size x<=9223372036854775807/\
Nj a2 fun m=>a1 m (r++x) (aL (i+1)) a4)
(Nj a0 fun m=>z m g (aL (d+1)) b))
(K (VS c) a))
theorem v74(b:Sl)(h:Heap)(K:KQ)(H:u74 Tryz.prog b h K):aE Tryz.prog 74 #[(Value.agg #[b.v])] h K:=cw mixed Tryz.func74 [(58,⟨[⟨3,.l .s⟩,⟨11,.l (.i .i64)⟩],[],[]⟩),(3737,⟨[⟨3,.l .s⟩],[],[]⟩),(7475,⟨[⟨3,.l .s⟩],[],[]⟩),(59806,⟨[⟨3,.l .s⟩,⟨27,.l (.i .i64)⟩],[],[]⟩),(3827609,⟨[⟨3,.l .s⟩],[],[]⟩)] [.v (.a [.sl b])] [] [] .nil 43 (by kernel_rfl) H
def u77(P:Program)(b:Sl)(c:Sl)(f:Int)(h:Heap)(K:KQ):Prop:=pk (
A2 h [] (fun g i=>(i,[c.v,(VI f)])::((g,[b.v])::[])) fun g i k L=>
E1 Sl.v P (Instr.buildSlice 27 1 #[(0,(VI f))]) k L fun l o=>
C1 VB P 107 #[(Value.agg #[b.v]),l.v] o L fun p e=>
Br (!p)
(K (VB false) e)
(Br (!decide ((c.n:Int)=(b.n:Int)))
(K (VB false) e)
(O1 0 e fun q r(d:Int) a=>
Vars a L->
Br (decide (d<(c.n:Int)))
(G1 VI a c d 1 fun s=>
G1 Sl.v a b d 1 fun t=>
Q1 VI P (Builtin.max_ #[3,3] 3 #[(VI (aL ((t.n:Int)-1))),(.int .i64 0)]) fun u=>
C1 VB P 52 #[(VI s),(VI 0),(VI u)] a L fun x j=>
Br (!x)
(K (VB false) j)
(Nj r fun m=>q m (aL (d+1)) j))
(K (VB true) a))))
theorem v77(b:Sl)(c:Sl)(d:Int)(h:Heap)(K:KQ)(H:u77 Tryz.prog b c d h K):aE Tryz.prog 77 #[(Value.agg #[b.v]),(Value.agg #[c.v,(VI d)])] h K:=cw mixed Tryz.func77 [(58,⟨[⟨25,.l (.i .i64)⟩],[],[]⟩)] [.v (.a [.sl b]),.v (.a [.sl c,.i .i64 d])] [] [] .nil 42 (by kernel_rfl) H
def u79(P:Program)(e:Sl)(f:Sl)(g:Int)(h:Heap)(K:KQ):Prop:=pk (
A2 h [] (fun i d=>(d,[aC.v,aC.v,(VI 0)])::((i,[e.v,f.v,(VI g)])::[])) fun i d j L=>
C1 (fun a=>(Value.agg #[(Sl.v a)])) P 109 #[(Value.agg #[e.v])] j L fun a k=>
C2 (fun b c=>(Value.agg #[(Sl.v b),(VI c)])) P 110 #[(Value.agg #[f.v,(VI g)])] k L fun b c l=>
A0 l [d] (Z0 [a.v,b.v,(VI c)] L) fun o L=>
K (Value.agg #[a.v,b.v,(VI c)]) o)
theorem v79(b:Sl)(c:Sl)(d:Int)(h:Heap)(K:KQ)(H:u79 Tryz.prog b c d h K):aE Tryz.prog 79 #[(Value.agg #[b.v,c.v,(VI d)])] h K:=cw mixed Tryz.func79 [] [.v (.a [.sl b,.sl c,.i .i64 d])] [] [] .nil 10 (by kernel_rfl) H
def u80(P:Program)(e:Nat)(au:Sl)(av:Sl)(aw:Int)(ax:Bool)(d:Sl)(h:Heap)(K:KQ):Prop:=pk (
Lt [(e,[au.v,av.v,(VI aw),(VB ax)])] fun L=>
Br (decide ((d.n:Int)=2))
(dQ d 0/\
A1 h [] (fun c=>(c,[(VS (⟨#[]⟩:ByteArray)),(VB false)])::L) fun c i L=>
H1 VS i (Sl.at d 0 1) fun ay=>
Br (ByteArray.toList ay==ByteArray.toList ({data:= #[103,114,97,112,104]}))
(G1 VS i d 1 1 fun az=>
aE P 111 #[(VP e 0),(VS az)] i fun b0 ad=>∃b1:Sl,∃b2:Sl,∃b3:Int,∃b4:Bool,∃p:ByteArray,∃q:Bool,b0=(Value.agg #[(VS p),(VB q)])/\Va ad (Z1 [b1.v,b2.v,(VI b3),(VB b4)] L) fun L=>
A0 ad [c] (Z0 [(VS p),(VB q)] L) fun b5 L=>
K (Value.agg #[(VS p),(VB q)]) b5)
(Q1 Sl.v P (Instr.sliceAt 52 d.v (some (.int .i64 1)) none none) fun b6=>
aE P 112 #[(VP e 0),b6.v] i fun b7 a=>∃ae:Sl,∃af:Sl,∃ag:Int,∃ah:Bool,∃f:Sl,b7=f.v/\Va a (Z1 [ae.v,af.v,(VI ag),(VB ah)] L) fun L=>
Br ah
(A0 a [c] (Z0 [(VS (⟨#[]⟩:ByteArray)),(VB false)] L) fun b8 L=>
K (Value.agg #[(VS (⟨#[]⟩:ByteArray)),(VB false)]) b8)
(∃r:Heap->Prop,(Br (decide ((f.n:Int)=0))
(G1 VS a d 0 1 fun b9=>
aE P 113 #[(VP e 0),(VS b9)] a fun ba ai=>∃bb:Sl,∃bc:Sl,∃bd:Int,∃be:Bool,∃s:ByteArray,∃t:Bool,ba=(Value.agg #[(VS s),(VB t)])/\Va ai (Z1 [bb.v,bc.v,(VI bd),(VB be)] L) fun L=>
A0 ai [c] (Z0 [(VS s),(VB t)] L) fun bf L=>
K (Value.agg #[(VS s),(VB t)]) bf)
(Br (decide ((f.n:Int)=1))
(G1 VS a d 0 1 fun bg=>
G1 VI a f 0 1 fun bh=>
aE P 114 #[(VP e 0),(VS bg),(VI bh)] a fun bi aj=>∃bj:Sl,∃bk:Sl,∃bl:Int,∃bm:Bool,∃u:ByteArray,∃x:Bool,bi=(Value.agg #[(VS u),(VB x)])/\Va aj (Z1 [bj.v,bk.v,(VI bl),(VB bm)] L) fun L=>
A0 aj [c] (Z0 [(VS u),(VB x)] L) fun bn L=>
K (Value.agg #[(VS u),(VB x)]) bn)
(Br (decide ((f.n:Int)=2))
(G1 VS a d 0 1 fun bo=>
G1 VI a f 0 1 fun bp=>
G1 VI a f 1 1 fun bq=>
aE P 115 #[(VP e 0),(VS bo),(VI bp),(VI bq)] a fun br ak=>∃bs:Sl,∃bt:Sl,∃bu:Int,∃bv:Bool,∃y:ByteArray,∃z:Bool,br=(Value.agg #[(VS y),(VB z)])/\Va ak (Z1 [bs.v,bt.v,(VI bu),(VB bv)] L) fun L=>
A0 ak [c] (Z0 [(VS y),(VB z)] L) fun bw L=>
K (Value.agg #[(VS y),(VB z)]) bw)
(Br (decide ((f.n:Int)=4))
(G1 VS a d 0 1 fun bx=>
Br (ByteArray.toList bx==ByteArray.toList ({data:= #[101,115,99,97,112,101,115]}))
(G1 VI a f 0 1 fun bz=>
G1 VI a f 1 1 fun c0=>
G1 VI a f 2 1 fun c1=>
G1 VI a f 3 1 fun c2=>
C2 (fun a0 a1=>(Value.tuple #[(VI a0),(VB a1)])) P 117 #[(VI bz),(VI c0),(VI c1),(VI c2)] a L fun a0 a1 c3=>
C2 (fun j k=>(Value.agg #[(VS j),(VB k)])) P 116 #[(VI a0),(VB a1)] c3 L fun j k c4=>
A0 c4 [c] (Z0 [(VS j),(VB k)] L) fun c5 L=>
K (Value.agg #[(VS j),(VB k)]) c5)
(r a))
(r a)))))/\
∀(a2:Heap),r a2->Vars a2 L->
A0 a2 [c,e] (Z0 [(VS (⟨#[]⟩:ByteArray)),(VB false)] (Z1 [ae.v,af.v,(VI ag),(VB true)] L)) fun c6 L=>
K (Value.agg #[(VS (⟨#[]⟩:ByteArray)),(VB false)]) c6)))
(Q1 Sl.v P (Instr.sliceAt 52 d.v (some (.int .i64 1)) none none) fun c7=>
A1 h [] (fun c=>(c,[(VS (⟨#[]⟩:ByteArray)),(VB false)])::L) fun c i L=>
aE P 112 #[(VP e 0),c7.v] i fun c8 b=>∃al:Sl,∃am:Sl,∃an:Int,∃ao:Bool,∃g:Sl,c8=g.v/\Va b (Z1 [al.v,am.v,(VI an),(VB ao)] L) fun L=>
Br ao
(A0 b [c] (Z0 [(VS (⟨#[]⟩:ByteArray)),(VB false)] L) fun c9 L=>
K (Value.agg #[(VS (⟨#[]⟩:ByteArray)),(VB false)]) c9)
(∃a3:Heap->Prop,(Br (decide ((g.n:Int)=0))
(G1 VS b d 0 1 fun ca=>
aE P 113 #[(VP e 0),(VS ca)] b fun cb ap=>∃cc:Sl,∃cd:Sl,∃ce:Int,∃cf:Bool,∃a4:ByteArray,∃a5:Bool,cb=(Value.agg #[(VS a4),(VB a5)])/\Va ap (Z1 [cc.v,cd.v,(VI ce),(VB cf)] L) fun L=>
A0 ap [c] (Z0 [(VS a4),(VB a5)] L) fun cg L=>
K (Value.agg #[(VS a4),(VB a5)]) cg)
(Br (decide ((g.n:Int)=1))
(G1 VS b d 0 1 fun ch=>
G1 VI b g 0 1 fun ci=>
aE P 114 #[(VP e 0),(VS ch),(VI ci)] b fun cj aq=>∃ck:Sl,∃cl:Sl,∃cm:Int,∃cn:Bool,∃a6:ByteArray,∃a7:Bool,cj=(Value.agg #[(VS a6),(VB a7)])/\Va aq (Z1 [ck.v,cl.v,(VI cm),(VB cn)] L) fun L=>
A0 aq [c] (Z0 [(VS a6),(VB a7)] L) fun co L=>
K (Value.agg #[(VS a6),(VB a7)]) co)
(Br (decide ((g.n:Int)=2))
(G1 VS b d 0 1 fun cp=>
G1 VI b g 0 1 fun cq=>
G1 VI b g 1 1 fun cr=>
aE P 115 #[(VP e 0),(VS cp),(VI cq),(VI cr)] b fun cs ar=>∃ct:Sl,∃cu:Sl,∃cv:Int,∃cx:Bool,∃a8:ByteArray,∃a9:Bool,cs=(Value.agg #[(VS a8),(VB a9)])/\Va ar (Z1 [ct.v,cu.v,(VI cv),(VB cx)] L) fun L=>
A0 ar [c] (Z0 [(VS a8),(VB a9)] L) fun cy L=>
K (Value.agg #[(VS a8),(VB a9)]) cy)
(Br (decide ((g.n:Int)=4))
(G1 VS b d 0 1 fun cz=>
Br (ByteArray.toList cz==ByteArray.toList ({data:= #[101,115,99,97,112,101,115]}))
(G1 VI b g 0 1 fun d0=>
G1 VI b g 1 1 fun d1=>
G1 VI b g 2 1 fun d2=>
G1 VI b g 3 1 fun d3=>
C2 (fun aa ab=>(Value.tuple #[(VI aa),(VB ab)])) P 117 #[(VI d0),(VI d1),(VI d2),(VI d3)] b L fun aa ab d4=>
C2 (fun l o=>(Value.agg #[(VS l),(VB o)])) P 116 #[(VI aa),(VB ab)] d4 L fun l o d5=>
A0 d5 [c] (Z0 [(VS l),(VB o)] L) fun d6 L=>
K (Value.agg #[(VS l),(VB o)]) d6)
(a3 b))
(a3 b)))))/\
∀(ac:Heap),a3 ac->Vars ac L->
A0 ac [c,e] (Z0 [(VS (⟨#[]⟩:ByteArray)),(VB false)] (Z1 [al.v,am.v,(VI an),(VB true)] L)) fun d7 L=>
K (Value.agg #[(VS (⟨#[]⟩:ByteArray)),(VB false)]) d7)))
theorem v80(a:Nat)(c:Sl)(d:Sl)(e:Int)(f:Bool)(g:Sl)(h:Heap)(K:KQ)(hL:Vars h [(a,[c.v,d.v,(VI e),(VB f)])])(H:u80 Tryz.prog a c d e f g h K):aE Tryz.prog 80 #[(VP a 0),g.v] h K:=cw mixed Tryz.func80 [(31,⟨[],[],[]⟩)] [.v (.l (.p 0 0)),.v (.l (.sl g))] [(0,[.sl c,.sl d,.i .i64 e,.b f none])] [a] hL 87 (by kernel_rfl) H
def u82(P:Program)(a:Sl)(h:Heap)(K:KQ):Prop:=pk (
A1 h [] (fun d=>(d,[a.v])::[]) fun d i L=>
C1 VB P 119 #[(VI (a.n:Int)),(VI 1),(VI 8)] i L fun j e=>
Br (!j)
(K (VB false) e)
(O1 0 e fun k l(c:Int) b=>
Vars b L->
Br (decide (c<(a.n:Int)))
(G1 Sl.v b a c 1 fun f=>
Br (decide (5<(f.n:Int)))
(K (VB false) b)
(C1 VB P 120 #[f.v,(VI 0),(VI (aL ((a.n:Int)-1)))] b L fun o g=>
Br (!o)
(K (VB false) g)
(Nj l fun m=>k m (aL (c+1)) g)))
(K (VB true) b)))
theorem v82(b:Sl)(h:Heap)(K:KQ)(H:u82 Tryz.prog b h K):aE Tryz.prog 82 #[(Value.agg #[b.v])] h K:=cw mixed Tryz.func82 [(122,⟨[⟨15,.l (.i .i64)⟩],[],[]⟩)] [.v (.a [.sl b])] [] [] .nil 30 (by kernel_rfl) H
def u83(P:Program)(a:Sl)(d:Sl)(f:Int)(h:Heap)(K:KQ):Prop:=pk (
A2 h [] (fun g i=>(i,[d.v,(VI f)])::((g,[a.v])::[])) fun g i o L=>
C1 VB P 121 #[(Value.agg #[a.v]),(VI f)] o L fun p e=>
Br (!p)
(K (VB false) e)
(Br (!decide ((d.n:Int)=(a.n:Int)))
(K (VB false) e)
(O1 0 e fun q r(b:Int) c=>
Vars c L->
Br (decide (b<(a.n:Int)))
(G1 Sl.v c a b 1 fun s=>
G1 VI c d b 1 fun j=>
C1 VI P 122 #[(VI 0),(VI (aL ((s.n:Int)-1)))] c L fun t k=>
aR k (Sl.at d b 1)=some (VI j)/\
C1 VB P 119 #[(VI j),(VI 0),(VI t)] k L fun u l=>
Br (!u)
(K (VB false) l)
(Nj r fun m=>q m (aL (b+1)) l))
(K (VB true) c))))
theorem v83(b:Sl)(c:Sl)(d:Int)(h:Heap)(K:KQ)(H:u83 Tryz.prog b c d h K):aE Tryz.prog 83 #[(Value.agg #[b.v]),(Value.agg #[c.v,(VI d)])] h K:=cw mixed Tryz.func83 [(58,⟨[⟨24,.l (.i .i64)⟩],[],[]⟩)] [.v (.a [.sl b]),.v (.a [.sl c,.i .i64 d])] [] [] .nil 41 (by kernel_rfl) H
def u84(P:Program)(g:Sl)(i:Sl)(j:Int)(ab:ByteArray)(h:Heap)(K:KQ):Prop:=pk (
A3 h [] (fun a2 k s=>Z0 [g.v,i.v,(VI j),aC.v,aC.v] ((s,[aC.v,aC.v,(VI 0),aC.v,aC.v])::((k,[aC.v,aC.v,(VI 0),aC.v,aC.v])::((a2,[g.v,i.v,(VI j)])::[])))) fun a2 k s ac L=>
C1 Sl.v P 46 #[(VS ab),(Value.int .u8 32)] ac L fun t a3=>
G1 VS a3 t 0 1 fun ad=>
C1 VS P 123 #[(VS ad)] a3 L fun a4 a5=>
Br (!decide ((a4.size:Int)=(aL ((t.n:Int)-1))))
(A0 a5 [k] (Z1 [g.v,i.v,(VI j),aC.v,aC.v] L) fun ae L=>
K (Value.tuple #[(VS ({data:= #[]})),(Value.agg #[g.v,i.v,(VI j),aC.v,aC.v]),(VB false)]) ae)
(Q1 Sl.v P (Instr.sliceAt 52 t.v (some (.int .i64 1)) none none) fun a6=>
O6 0 g i j aC aC a5 fun af ag(u:Int)(a:Sl)(b:Sl)(c:Int)(f:Sl)(d:Sl) e=>
Vi e (Z0 [a.v,b.v,(VI c),f.v,d.v] L) fun L=>
Br (decide (u<(a6.n:Int)))
(G1 VS e a6 u 1 fun a7=>
∃x:Bool->Sl->Sl->Int->Sl->Sl->Heap->Prop,(Q1 (fun y=>(Value.int .u8 y)) P (Instr.index 9 (VS a4) (VI u)) fun y=>
Br (decide (y=110))
(C1 VI P 124 #[(VS a7)] e L fun a8 ah=>
E1 Sl.v P (Instr.buildSlice 27 1 #[(0,(VI a8))]) ah L fun ai aj=>
E1 Sl.v P (bK 27 27 27 d.v ai.v) aj L fun a9 ak=>
A0 ak [s] (Z0 [a.v,b.v,(VI c),f.v,a9.v] L) fun al L=>
x (decide (0<=a8)) a b c f a9 al)
(Br (decide (y=103))
(C2 (fun z a1=>(Value.tuple #[(Value.agg #[(Sl.v z)]),(VB a1)])) P 125 #[(VS a7)] e L fun z a1 am=>
A0 am [s] (Z0 [a.v,b.v,(VI c),z.v,d.v] L) fun an L=>
x a1 a b c z d an)
(x false a b c f d e)))/\
∀(aa:Bool)(l:Sl)(o:Sl)(p:Int)(q:Sl)(r:Sl)(a0:Heap),x aa l o p q r a0->Vi a0 (Z0 [l.v,o.v,(VI p),q.v,r.v] L) fun L=>
Br (!aa)
(A0 a0 [k] (Z1 [l.v,o.v,(VI p),q.v,r.v] L) fun ao L=>
K (Value.tuple #[(VS ({data:= #[]})),(Value.agg #[l.v,o.v,(VI p),q.v,r.v]),(VB false)]) ao)
(Nj ag fun m=>af m (aL (u+1)) l o p q r a0))
(G1 VS e t 0 1 fun ap=>
A0 e [k] (Z1 [a.v,b.v,(VI c),f.v,d.v] L) fun aq L=>
K (Value.tuple #[(VS ap),(Value.agg #[a.v,b.v,(VI c),f.v,d.v]),(VB true)]) aq)))
theorem v84(c:Sl)(d:Sl)(e:Int)(f:ByteArray)(h:Heap)(K:KQ)(H:u84 Tryz.prog c d e f h K):aE Tryz.prog 84 #[(Value.agg #[c.v,d.v,(VI e)]),(VS f)] h K:=cw mixed Tryz.func84 [(506,⟨[⟨32,.l (.i .i64)⟩],[2],[]⟩),(64819,⟨[⟨12,.l .b⟩],[2],[]⟩)] [.v (.a [.sl c,.sl d,.i .i64 e]),.v (.l (.s f))] [] [] .nil 68 (by kernel_rfl) H
def u85(P:Program)(d:Nat)(k:Sl)(f:Sl)(g:Int)(e:Sl)(a:Sl)(l:ByteArray)(h:Heap)(K:KQ):Prop:=pk (
Lt [(d,[k.v,f.v,(VI g),e.v,a.v])] fun L=>
∃a0:Nat->Sl->Nat->Sl->Int->Heap->Prop,((A1 h [] (fun p=>(p,[aC.v])::L) fun p av L=>
A1 av [] (fun q=>(q,[aC.v,(VI 0)])::L) fun q aw L=>
A0 aw [p] (Z1 [k.v] L) fun ax L=>
A0 ax [q] (Z0 [f.v,(VI g)] L) fun ay L=>
a0 p k q f g ay)/\
(A1 h [] (fun r=>(r,[aC.v,(VI 0)])::L) fun r az L=>
A1 az [] (fun s=>(s,[aC.v])::L) fun s b0 L=>
A0 b0 [s] (Z0 [k.v] L) fun b1 L=>
A0 b1 [r] (Z1 [f.v,(VI g)] L) fun b2 L=>
a0 s k r f g b2))/\
∀(ag:Nat)(c:Sl)(ah:Nat)(i:Sl)(o:Int)(b:Heap),a0 ag c ah i o b->Vi b ((ah,[i.v,(VI o)])::((ag,[c.v])::L)) fun L=>
Br (ByteArray.toList l==ByteArray.toList ({data:= #[103,114,97,112,104]}))
(E1 Sl.v P (Instr.makeSlice 27 (VI (e.n:Int)) (VI (e.n:Int))) b L fun b3 b4=>
A0 b4 [d] (Z2 [e.v,b3.v,(VI 0),e.v,a.v] L) fun b5 L=>
C1 VS P 74 #[(Value.agg #[e.v])] b5 L fun b6 b7=>
K (VS b6) b7)
(Br (ByteArray.toList l==ByteArray.toList ({data:= #[97,100,100]}))
(∃a1:Bool->Nat->Sl->Heap->Prop,(G1 VI b a 0 1 fun a2=>
G1 VI b a 1 1 fun a3=>
(C2 (fun t a4=>(Value.tuple #[(Value.agg #[(Sl.v t)]),(VB a4)])) P 126 #[(Value.agg #[c.v]),(VI a2),(VI a3)] b L fun t a4 b8=>
A1 b8 [] (fun a5=>Z0 [t.v] ((a5,[aC.v])::L)) fun a5 b9 L=>
a1 a4 a5 t b9)/\
(A1 b [] (fun u=>(u,[aC.v])::L) fun u a6 L=>
aR a6 (Sl.at a 1 1)=some (VI a3)/\
aR a6 (Sl.at a 0 1)=some (VI a2)/\
C2 (fun x a7=>(Value.tuple #[(Value.agg #[(Sl.v x)]),(VB a7)])) P 126 #[(Value.agg #[c.v]),(VI a2),(VI a3)] a6 L fun x a7 ba=>
A0 ba [u] (Z0 [x.v] L) fun bb L=>
a1 a7 u x bb))/\
∀(ai:Bool)(aj:Nat)(y:Sl)(z:Heap),a1 ai aj y z->Vi z ((aj,[y.v])::L) fun L=>
Br (!ai)
(K (VS ({data:= #[110,111]})) z)
(A0 z [d] (Z3 [y.v,f.v,(VI g),e.v,a.v] L) fun bc L=>
C1 VS P 74 #[(Value.agg #[y.v])] bc L fun bd be=>
K (VS bd) be))
(Br (ByteArray.toList l==ByteArray.toList ({data:= #[97,116]}))
(G1 VI b a 0 1 fun bf=>
aE P 127 #[(VP d 0),(Value.agg #[i.v,(VI bf)]),(VB true)] b fun bg ak=>∃bh:Sl,∃bi:Sl,∃bj:Int,∃bk:Sl,∃bl:Sl,∃al:ByteArray,bg=(VS al)/\Va ak (Z2 [bh.v,bi.v,(VI bj),bk.v,bl.v] L) fun L=>
K (VS al) ak)
(Br (ByteArray.toList l==ByteArray.toList ({data:= #[116,117,114,110]}))
(G1 VI b a 0 1 fun bm=>
C1 VB P 121 #[(Value.agg #[c.v]),(VI bm)] b L fun bn j=>
Br (!bn)
(K (VS ({data:= #[110,111]})) j)
(G1 VI j a 1 1 fun bo=>
G1 VI j a 0 1 fun bp=>
G1 Sl.v j c bp 1 fun bq=>
Br (decide ((bq.n:Int)<=bo))
(K (VS ({data:= #[110,111]})) j)
(C1 Sl.v P 87 #[i.v] j L fun a8 a9=>
G1 VI a9 a 0 1 fun am=>
G1 VI a9 a 1 1 fun br=>
dQ a8 am/\
S1 a9 (Sl.at a8 am 1) (VI br) L fun bs=>
aE P 127 #[(VP d 0),(Value.agg #[a8.v,(VI o)]),(VB true)] bs fun bt an=>∃bu:Sl,∃bv:Sl,∃bw:Int,∃bx:Sl,∃bz:Sl,∃ao:ByteArray,bt=(VS ao)/\Va an (Z2 [bu.v,bv.v,(VI bw),bx.v,bz.v] L) fun L=>
K (VS ao) an)))
(Br (ByteArray.toList l==ByteArray.toList ({data:= #[115,116,101,112]}))
(C3 (fun aa ab ac=>(Value.tuple #[(Value.agg #[(Sl.v aa),(VI ab)]),(VB ac)])) P 128 #[(Value.agg #[c.v]),(Value.agg #[i.v,(VI o)])] b L fun aa ab ac c0=>
aE P 127 #[(VP d 0),(Value.agg #[aa.v,(VI ab)]),(VB ac)] c0 fun c1 ap=>∃c2:Sl,∃c3:Sl,∃c4:Int,∃c5:Sl,∃c6:Sl,∃aq:ByteArray,c1=(VS aq)/\Va ap (Z2 [c2.v,c3.v,(VI c4),c5.v,c6.v] L) fun L=>
K (VS aq) ap)
(G1 VI b a 0 1 fun c7=>
C3 (fun ad ae af=>(Value.tuple #[(Value.agg #[(Sl.v ad),(VI ae)]),(VB af)])) P 129 #[(Value.agg #[c.v]),(Value.agg #[i.v,(VI o)]),(VI c7)] b L fun ad ae af c8=>
aE P 127 #[(VP d 0),(Value.agg #[ad.v,(VI ae)]),(VB af)] c8 fun c9 ar=>∃ca:Sl,∃cb:Sl,∃cc:Int,∃cd:Sl,∃ce:Sl,∃au:ByteArray,c9=(VS au)/\Va ar (Z2 [ca.v,cb.v,(VI cc),cd.v,ce.v] L) fun L=>
K (VS au) ar))))))
theorem v85(a:Nat)(c:Sl)(d:Sl)(e:Int)(f:Sl)(g:Sl)(j:ByteArray)(h:Heap)(K:KQ)(hL:Vars h [(a,[c.v,d.v,(VI e),f.v,g.v])])(H:u85 Tryz.prog a c d e f g j h K):aE Tryz.prog 85 #[(VP a 0),(VS j)] h K:=cw mixed Tryz.func85 [(3,⟨[],[],[(5,[.sl]),(6,[.sl,.i .i64])]⟩),(942,⟨[⟨8,.l .b⟩],[],[(7,[.sl])]⟩)] [.v (.l (.p 0 0)),.v (.l (.s j))] [(0,[.sl c,.sl d,.i .i64 e,.sl f,.sl g])] [a] hL 161 (by kernel_rfl) H
def u86(P:Program)(az:Nat)(g:Sl)(i:Sl)(j:Int)(b0:Sl)(b:Sl)(d:ByteArray)(h:Heap)(K:KQ):Prop:=pk (
Lt [(az,[g.v,i.v,(VI j),b0.v,b.v])] fun L=>
∃y:Nat->Sl->Nat->Sl->Int->Heap->Prop,((A1 h [] (fun k=>(k,[aC.v])::L) fun k b1 L=>
A1 b1 [] (fun l=>(l,[aC.v,(VI 0)])::L) fun l b2 L=>
A0 b2 [k] (Z1 [g.v] L) fun b3 L=>
A0 b3 [l] (Z0 [i.v,(VI j)] L) fun b4 L=>
y k g l i j b4)/\
(A1 h [] (fun o=>(o,[aC.v,(VI 0)])::L) fun o b5 L=>
A1 b5 [] (fun p=>(p,[aC.v])::L) fun p b6 L=>
A0 b6 [p] (Z0 [g.v] L) fun b7 L=>
A0 b7 [o] (Z1 [i.v,(VI j)] L) fun b8 L=>
y p g o i j b8))/\
∀(au:Nat)(c:Sl)(av:Nat)(f:Sl)(e:Int)(a:Heap),y au c av f e a->Vi a ((av,[f.v,(VI e)])::((au,[c.v])::L)) fun L=>
Br (ByteArray.toList d==ByteArray.toList ({data:= #[115,104,111,119]}))
(C1 VS P 74 #[(Value.agg #[c.v])] a L fun b9 ba=>
K (VS b9) ba)
(Br (ByteArray.toList d==ByteArray.toList ({data:= #[119,97,108,107]}))
(C1 VS P 130 #[(Value.agg #[f.v,(VI e)])] a L fun bb bc=>
K (VS bb) bc)
(Br (ByteArray.toList d==ByteArray.toList ({data:= #[112,97,115,115]}))
(G1 VI a b 0 1 fun bd=>
C2 (fun z a0=>(Value.tuple #[(Sl.v z),(VB a0)])) P 132 #[(Value.agg #[c.v]),(Value.agg #[f.v,(VI e)]),(VI bd)] a L fun z a0 be=>
C1 VS P 131 #[z.v,(VB a0)] be L fun bf bg=>
K (VS bf) bg)
(Br (ByteArray.toList d==ByteArray.toList ({data:= #[118,105,115,105,116,115]}))
(G1 VI a b 0 1 fun bh=>
C2 (fun a1 a2=>(Value.tuple #[(Sl.v a1),(VB a2)])) P 133 #[(Value.agg #[c.v]),(Value.agg #[f.v,(VI e)]),(VI bh)] a L fun a1 a2 bi=>
C1 VS P 131 #[a1.v,(VB a2)] bi L fun bj bk=>
K (VS bj) bk)
(Br (ByteArray.toList d==ByteArray.toList ({data:= #[104,105,116]}))
(G1 VI a b 0 1 fun bl=>
C2 (fun a3 a4=>(Value.tuple #[(VI a3),(VB a4)])) P 135 #[(Value.agg #[c.v]),(Value.agg #[f.v,(VI e)]),(VI bl)] a L fun a3 a4 bm=>
C1 VS P 134 #[(VI a3),(VB a4)] bm L fun bn bo=>
K (VS bn) bo)
(Br (ByteArray.toList d==ByteArray.toList ({data:= #[112,101,114,105,111,100]}))
(C3 (fun a5 a6 a7=>(Value.tuple #[(VI a5),(VI a6),(VB a7)])) P 136 #[(Value.agg #[c.v]),(Value.agg #[f.v,(VI e)])] a L fun a5 a6 a7 bp=>
E1 Sl.v P (Instr.buildSlice 27 2 #[(0,(VI a5)),(1,(VI a6))]) bp L fun bq br=>
C1 VS P 131 #[bq.v,(VB a7)] br L fun bs bt=>
K (VS bs) bt)
(Br (ByteArray.toList d==ByteArray.toList ({data:= #[116,114,101,101,115]}))
(G1 VI a b 0 1 fun bu=>
C2 (fun a8 a9=>(Value.tuple #[(VI a8),(VB a9)])) P 137 #[(Value.agg #[c.v]),(VI bu)] a L fun a8 a9 bv=>
C1 VS P 134 #[(VI a8),(VB a9)] bv L fun bw bx=>
K (VS bw) bx)
(Br (ByteArray.toList d==ByteArray.toList ({data:= #[99,121,99,108,101]}))
(C2 (fun aa ab=>(Value.tuple #[(Sl.v aa),(VB ab)])) P 138 #[(Value.agg #[c.v]),(Value.agg #[f.v,(VI e)])] a L fun aa ab bz=>
C1 VS P 131 #[aa.v,(VB ab)] bz L fun c0 c1=>
K (VS c0) c1)
(Br (ByteArray.toList d==ByteArray.toList ({data:= #[99,104,97,110,99,101]}))
(∃ac:Bool->Nat->Int->Int->Heap->Prop,(G1 VI a b 0 1 fun ad=>
G1 VI a b 1 1 fun ae=>
(C3 (fun q r af=>(Value.tuple #[(Value.agg #[(VI q),(VI r)]),(VB af)])) P 139 #[(Value.agg #[c.v]),(VI e),(VI ad),(VI ae)] a L fun q r af c2=>
A1 c2 [] (fun ag=>Z0 [(VI q),(VI r)] ((ag,[(VI 0),(VI 0)])::L)) fun ag c3 L=>
ac af ag q r c3)/\
(A1 a [] (fun s=>(s,[(VI 0),(VI 0)])::L) fun s ah L=>
aR ah (Sl.at b 1 1)=some (VI ae)/\
aR ah (Sl.at b 0 1)=some (VI ad)/\
C3 (fun t u ai=>(Value.tuple #[(Value.agg #[(VI t),(VI u)]),(VB ai)])) P 139 #[(Value.agg #[c.v]),(VI e),(VI ad),(VI ae)] ah L fun t u ai c4=>
A0 c4 [s] (Z0 [(VI t),(VI u)] L) fun c5 L=>
ac ai s t u c5))/\
∀(aw:Bool)(ax:Nat)(aj:Int)(ak:Int)(x:Heap),ac aw ax aj ak x->Vi x ((ax,[(VI aj),(VI ak)])::L) fun L=>
Br (!aw)
(K (VS ({data:= #[110,111]})) x)
(C1 VS P 73 #[(VI aj)] x L fun al c6=>
ByteArray.size al+ByteArray.size ({data:= #[47]})<=9223372036854775807/\
C1 VS P 73 #[(VI ak)] c6 L fun ay c7=>
ByteArray.size (al++({data:= #[47]}))+ByteArray.size ay<=9223372036854775807/\
K (VS ((al++({data:= #[47]}))++ay)) c7))
(Br (ByteArray.toList d==ByteArray.toList ({data:= #[102,117,108,108]}))
(G1 VI a b 0 1 fun c8=>
C2 (fun am an=>(Value.tuple #[(Sl.v am),(VB an)])) P 140 #[(Value.agg #[c.v]),(VI c8)] a L fun am an c9=>
C1 VS P 131 #[am.v,(VB an)] c9 L fun ca cb=>
K (VS ca) cb)
(Br (ByteArray.toList d==ByteArray.toList ({data:= #[101,115,99,97,112,101,115]}))
(G1 VI a b 0 1 fun cc=>
G1 VI a b 1 1 fun cd=>
G1 VI a b 2 1 fun ce=>
G1 VI a b 3 1 fun cf=>
C2 (fun ao ap=>(Value.tuple #[(VI ao),(VB ap)])) P 141 #[(VI cc),(VI cd),(VI ce),(VI cf)] a L fun ao ap cg=>
C1 VS P 134 #[(VI ao),(VB ap)] cg L fun ch ci=>
K (VS ch) ci)
(G1 VI a b 0 1 fun cj=>
G1 VI a b 1 1 fun ck=>
C2 (fun aq ar=>(Value.tuple #[(Sl.v aq),(VB ar)])) P 142 #[(VI cj),(VI ck)] a L fun aq ar cl=>
C1 VS P 131 #[aq.v,(VB ar)] cl L fun cm cn=>
K (VS cm) cn))))))))))))
theorem v86(a:Nat)(c:Sl)(d:Sl)(e:Int)(f:Sl)(g:Sl)(j:ByteArray)(h:Heap)(K:KQ)(hL:Vars h [(a,[c.v,d.v,(VI e),f.v,g.v])])(H:u86 Tryz.prog a c d e f g j h K):aE Tryz.prog 86 #[(VP a 0),(VS j)] h K:=cw mixed Tryz.func86 [(3,⟨[],[],[(5,[.sl]),(6,[.sl,.i .i64])]⟩),(15466494,⟨[⟨11,.l .b⟩],[],[(10,[.i .i64,.i .i64])]⟩)] [.v (.l (.p 0 0)),.v (.l (.s j))] [(0,[.sl c,.sl d,.i .i64 e,.sl f,.sl g])] [a] hL 198 (by kernel_rfl) H
def u87(P:Program)(a:Sl)(h:Heap)(K:KQ):Prop:=pk (
E1 Sl.v P (Instr.buildSlice 27 0 #[]) h [] fun b c=>
E1 Sl.v P (bK 27 27 27 b.v a.v) c [] fun d e=>
K d.v e)
theorem v87(a:Sl)(h:Heap)(K:KQ)(H:u87 Tryz.prog a h K):aE Tryz.prog 87 #[a.v] h K:=cw mixed Tryz.func87 [] [.v (.l (.sl a))] [] [] .nil 6 (by kernel_rfl) H
def u88(P:Program)(b:Int)(c:Nat)(a:Int)(h:Heap)(K:KQ):Prop:=pk (
Lt [(c,[(VI a)])] fun L=>
C1 VB P 52 #[(VI b),(VI 0),(VI (aL (a-1)))] h L fun d e=>
K (VB (!d)) e)
theorem v88(b:Int)(a:Nat)(c:Int)(h:Heap)(K:KQ)(hL:Vars h [(a,[(VI c)])])(H:u88 Tryz.prog b a c h K):aE Tryz.prog 88 #[(VI b),(VP a 0)] h K:=cw mixed Tryz.func88 [] [.v (.l (.i .i64 b)),.v (.l (.p 0 0))] [(0,[.i .i64 c])] [a] hL 9 (by kernel_rfl) H
def u89(P:Program)(b:Sl)(h:Heap)(K:KQ):Prop:=pk (
Br (decide ((b.n:Int)=0))
(K (VS ({data:= #[45]})) h)
(E1 Sl.v P (Instr.buildSlice 52 0 #[]) h [] fun e f=>
O2 e 0 f fun g i(d:Sl)(c:Int) a=>
Vars a []->
Br (decide (c<(b.n:Int)))
(G1 VI a b c 1 fun j=>
C1 VS P 92 #[(VI j)] a [] fun k l=>
E1 Sl.v P (Instr.buildSlice 52 1 #[(0,(VS k))]) l [] fun o p=>
E1 Sl.v P (bK 52 52 52 d.v o.v) p [] fun q r=>
Nj i fun m=>g m q (aL (c+1)) r)
(C1 VS P 90 #[d.v,(VS ({data:= #[44]}))] a [] fun s t=>
K (VS s) t)))
theorem v89(a:Sl)(h:Heap)(K:KQ)(H:u89 Tryz.prog a h K):aE Tryz.prog 89 #[a.v] h K:=cw mixed Tryz.func89 [(122,⟨[⟨3,.l .sl⟩,⟨12,.l (.i .i64)⟩],[],[]⟩)] [.v (.l (.sl a))] [] [] .nil 24 (by kernel_rfl) H
def u91(P:Program)(d:Sl)(f:Value)(h:Heap)(K:KQ):Prop:=pk (
O1 0 h fun g i(a:Int) b=>
Vars b []->
Br (decide (a<(d.n:Int)))
(G1 VI b d a 1 fun j=>
fA P f [(VI j)] b fun k c=>∃e:Bool,k=(VB e)/\Va c [] fun L=>
Br e
(K (VI a) c)
(Nj i fun m=>g m (aL (a+1)) c))
(K (VI (-1)) b))
theorem v91(a:Sl)(b:Value)(h:Heap)(K:KQ)(H:u91 Tryz.prog a b h K):aE Tryz.prog 91 #[a.v,b] h K:=cw mixed Tryz.func91 [(26,⟨[⟨8,.l (.i .i64)⟩],[],[]⟩)] [.v (.l (.sl a)),.v (.l (.r b))] [] [] .nil 19 (by kernel_rfl) H
def aeA(P:Program)(h:Heap)(K:KQ):Prop:=pk (
A1 h [] (fun a=>(a,[aC.v,aC.v,(VI 0)])::[]) fun a d L=>
E1 Sl.v P (Instr.buildSlice 27 2 #[(0,(.int .i64 1)),(1,(.int .i64 2))]) d L fun e f=>
E1 Sl.v P (Instr.buildSlice 27 2 #[(0,(.int .i64 0)),(1,(.int .i64 2))]) f L fun g i=>
E1 Sl.v P (Instr.buildSlice 27 1 #[(0,(.int .i64 0))]) i L fun j k=>
E1 Sl.v P (Instr.buildSlice 24 3 #[(0,e.v),(1,g.v),(2,j.v)]) k L fun b l=>
E1 Sl.v P (Instr.buildSlice 27 3 #[(0,(.int .i64 0)),(1,(.int .i64 0)),(2,(.int .i64 0))]) l L fun c o=>
A0 o [a] (Z0 [b.v,c.v,(VI 0)] L) fun p L=>
K (Value.agg #[b.v,c.v,(VI 0)]) p)
theorem aeB(h:Heap)(K:KQ)(H:aeA Tryz.prog h K):aE Tryz.prog 102 #[] h K:=cw mixed Tryz.func102 [] [] [] [] .nil 9 (by kernel_rfl) H
def aeC(P:Program)(b:Sl)(f:Sl)(h:Heap)(K:KQ):Prop:=pk (
A1 h [] (fun a=>(a,[b.v])::[]) fun a g L=>
C1 VB P 50 #[(Value.agg #[b.v])] g L fun i c=>
Br i
(aE P 53 #[f.v,(Value.func (Fn.func 147) #[] #[(VP a 0)])] c fun j d=>∃k:Sl,∃e:Bool,j=(VB e)/\Va d (Z0 [k.v] L) fun L=>
K (VB (!e)) d)
(K (VB false) c))
theorem v107(b:Sl)(c:Sl)(h:Heap)(K:KQ)(H:aeC Tryz.prog b c h K):aE Tryz.prog 107 #[(Value.agg #[b.v]),c.v] h K:=cw mixed Tryz.func107 [] [.v (.a [.sl b]),.v (.l (.sl c))] [] [] .nil 13 (by kernel_rfl) H
def aeD(P:Program)(c:Sl)(h:Heap)(K:KQ):Prop:=pk (
A3 h [] (fun g d e=>Z0 [aC.v] ((e,[aC.v])::((d,[aC.v])::((g,[c.v])::[])))) fun g d e j L=>
O2 0 aC j fun k l(f:Int)(a:Sl) b=>
Vi b (Z0 [a.v] L) fun L=>
Br (decide (f<(c.n:Int)))
(G1 Sl.v b c f 1 fun o=>
C1 Sl.v P 152 #[o.v] b L fun p q=>
E1 Sl.v P (Instr.buildSlice 24 1 #[(0,p.v)]) q L fun r s=>
E1 Sl.v P (bK 24 24 24 a.v r.v) s L fun i t=>
A0 t [e] (Z0 [i.v] L) fun u L=>
Nj l fun m=>k m (aL (f+1)) i u)
(A0 b [d] (Z1 [a.v] L) fun x L=>
K (Value.agg #[a.v]) x))
theorem v109(b:Sl)(h:Heap)(K:KQ)(H:aeD Tryz.prog b h K):aE Tryz.prog 109 #[(Value.agg #[b.v])] h K:=cw mixed Tryz.func109 [(58,⟨[⟨10,.l (.i .i64)⟩],[2],[]⟩)] [.v (.a [.sl b])] [] [] .nil 23 (by kernel_rfl) H
def aeE(P:Program)(c:Sl)(a:Int)(h:Heap)(K:KQ):Prop:=pk (
A2 h [] (fun d b=>(b,[aC.v,(VI 0)])::((d,[c.v,(VI a)])::[])) fun d b f L=>
C1 Sl.v P 152 #[c.v] f L fun e g=>
A0 g [b] (Z0 [e.v,(VI a)] L) fun i L=>
K (Value.agg #[e.v,(VI a)]) i)
theorem aeF(b:Sl)(c:Int)(h:Heap)(K:KQ)(H:aeE Tryz.prog b c h K):aE Tryz.prog 110 #[(Value.agg #[b.v,(VI c)])] h K:=cw mixed Tryz.func110 [] [.v (.a [.sl b,.i .i64 c])] [] [] .nil 9 (by kernel_rfl) H
def aeG(P:Program)(d:Nat)(j:Sl)(k:Sl)(l:Int)(o:Bool)(r:ByteArray)(h:Heap)(K:KQ):Prop:=pk (
Lt [(d,[j.v,k.v,(VI l),(VB o)])] fun L=>
A1 h [] (fun c=>(c,[(VS (⟨#[]⟩:ByteArray)),(VB false)])::L) fun c s L=>
C2 (fun a e=>(Value.tuple #[(Value.agg #[(Sl.v a)]),(VB e)])) P 153 #[(VS r)] s L fun a e p=>
Br (!e)
(A1 p [c,d] (fun b=>Z1 [(VS (⟨#[]⟩:ByteArray)),(VB false)] (Z2 [j.v,k.v,(VI l),(VB true)] (Z0 [a.v] ((b,[aC.v])::L)))) fun b t L=>
K (Value.agg #[(VS (⟨#[]⟩:ByteArray)),(VB false)]) t)
(A1 p [] (fun b=>Z0 [a.v] ((b,[aC.v])::L)) fun b u L=>
C3 (fun f g i=>(Value.agg #[(Sl.v f),(Sl.v g),(VI i)])) P 69 #[(Value.agg #[a.v])] u L fun f g i x=>
A0 x [d] (Z2 [f.v,g.v,(VI i),(VB o)] L) fun y L=>
C1 VS P 51 #[(Value.agg #[a.v])] y L fun q z=>
A0 z [c] (Z1 [(VS q),(VB true)] L) fun a0 L=>
K (Value.agg #[(VS q),(VB true)]) a0))
theorem aeH(a:Nat)(c:Sl)(d:Sl)(e:Int)(f:Bool)(g:ByteArray)(h:Heap)(K:KQ)(hL:Vars h [(a,[c.v,d.v,(VI e),(VB f)])])(H:aeG Tryz.prog a c d e f g h K):aE Tryz.prog 111 #[(VP a 0),(VS g)] h K:=cw mixed Tryz.func111 [] [.v (.l (.p 0 0)),.v (.l (.s g))] [(0,[.sl c,.sl d,.i .i64 e,.b f none])] [a] hL 26 (by kernel_rfl) H
def aeI(P:Program)(f:Nat)(r:Sl)(s:Sl)(t:Int)(u:Bool)(x:Sl)(h:Heap)(K:KQ):Prop:=pk (
Lt [(f,[r.v,s.v,(VI t),(VB u)])] fun L=>
E1 Sl.v P (Instr.buildSlice 27 0 #[]) h L fun a4 a5=>
O6 a4 0 r s t u a5 fun a6 a7(y:Sl)(i:Int)(a:Sl)(b:Sl)(c:Int)(z:Bool) g=>
Vi g (Z0 [a.v,b.v,(VI c),(VB z)] L) fun L=>
Br (decide (i<(x.n:Int)))
(G1 VS g x i 1 fun a0=>
C2 (fun d j=>(Value.tuple #[(VI d),j])) P 154 #[(VS a0)] g L fun d j a1=>
∃e:Sl->Sl->Int->Bool->Heap->Prop,(Q1 VB P (lF .neq 163 (.tmp 22) (.const Value.nilIface) j Value.nilIface) fun a8=>
Br a8
(A0 a1 [f] (Z0 [a.v,b.v,(VI c),(VB true)] L) fun a9 L=>
e a b c true a9)
(C1 VB P 52 #[(VI d),(VI 0),(VI 999999)] a1 L fun aa a2=>
Br (!aa)
(A0 a2 [f] (Z0 [a.v,b.v,(VI c),(VB true)] L) fun ab L=>
e a b c true ab)
(C1 VS P 92 #[(VI d)] a2 L fun ac a3=>
Br (!(ByteArray.toList ac==ByteArray.toList a0))
(A0 a3 [f] (Z0 [a.v,b.v,(VI c),(VB true)] L) fun ad L=>
e a b c true ad)
(e a b c z a3))))/\
∀(k:Sl)(l:Sl)(o:Int)(p:Bool)(q:Heap),e k l o p q->Vi q (Z0 [k.v,l.v,(VI o),(VB p)] L) fun L=>
E1 Sl.v P (Instr.buildSlice 27 1 #[(0,(VI d))]) q L fun ae af=>
E1 Sl.v P (bK 27 27 27 y.v ae.v) af L fun ag ah=>
Nj a7 fun m=>a6 m ag (aL (i+1)) k l o p ah)
(K y.v g))
theorem aeJ(a:Nat)(c:Sl)(d:Sl)(e:Int)(f:Bool)(g:Sl)(h:Heap)(K:KQ)(hL:Vars h [(a,[c.v,d.v,(VI e),(VB f)])])(H:aeI Tryz.prog a c d e f g h K):aE Tryz.prog 112 #[(VP a 0),g.v] h K:=cw mixed Tryz.func112 [(58,⟨[⟨5,.l .sl⟩,⟨13,.l (.i .i64)⟩],[0],[]⟩),(7475,⟨[],[0],[]⟩)] [.v (.l (.p 0 0)),.v (.l (.sl g))] [(0,[.sl c,.sl d,.i .i64 e,.b f none])] [a] hL 44 (by kernel_rfl) H
def aeK(P:Program)(u:Nat)(c:Sl)(d:Sl)(e:Int)(ae:Bool)(j:ByteArray)(h:Heap)(K:KQ):Prop:=pk (
Lt [(u,[c.v,d.v,(VI e),(VB ae)])] fun L=>
A1 h [] (fun a=>(a,[(VS (⟨#[]⟩:ByteArray)),(VB false)])::L) fun a a8 L=>
∃x:Nat->Sl->Nat->Sl->Int->Heap->Prop,((A1 a8 [] (fun k=>(k,[aC.v])::L) fun k af L=>
A1 af [] (fun l=>(l,[aC.v,(VI 0)])::L) fun l ag L=>
A0 ag [k] (Z1 [c.v] L) fun ah L=>
A0 ah [l] (Z0 [d.v,(VI e)] L) fun ai L=>
x k c l d e ai)/\
(A1 a8 [] (fun o=>(o,[aC.v,(VI 0)])::L) fun o aj L=>
A1 aj [] (fun p=>(p,[aC.v])::L) fun p ak L=>
A0 ak [p] (Z0 [c.v] L) fun al L=>
A0 al [o] (Z1 [d.v,(VI e)] L) fun am L=>
x p c o d e am))/\
∀(a9:Nat)(f:Sl)(aa:Nat)(g:Sl)(i:Int)(b:Heap),x a9 f aa g i b->Vi b ((aa,[g.v,(VI i)])::((a9,[f.v])::L)) fun L=>
Br (ByteArray.toList j==ByteArray.toList ({data:= #[115,116,101,112]}))
(C3 (fun y z a0=>(Value.tuple #[(Value.agg #[(Sl.v y),(VI z)]),(VB a0)])) P 156 #[(Value.agg #[f.v]),(Value.agg #[g.v,(VI i)])] b L fun y z a0 an=>
aE P 155 #[(VP u 0),(Value.agg #[y.v,(VI z)]),(VB a0)] an fun ao ab=>∃ap:Sl,∃aq:Sl,∃ar:Int,∃au:Bool,∃a1:ByteArray,∃a2:Bool,ao=(Value.agg #[(VS a1),(VB a2)])/\Va ab (Z3 [ap.v,aq.v,(VI ar),(VB au)] L) fun L=>
A0 ab [a] (Z2 [(VS a1),(VB a2)] L) fun av L=>
K (Value.agg #[(VS a1),(VB a2)]) av)
(Br (ByteArray.toList j==ByteArray.toList ({data:= #[115,104,111,119]}))
(C1 VS P 51 #[(Value.agg #[f.v])] b L fun ac aw=>
A0 aw [a] (Z2 [(VS ac),(VB true)] L) fun ax L=>
K (Value.agg #[(VS ac),(VB true)]) ax)
(Br (ByteArray.toList j==ByteArray.toList ({data:= #[119,97,108,107]}))
(C1 VS P 55 #[(Value.agg #[g.v,(VI i)])] b L fun ad ay=>
A0 ay [a] (Z2 [(VS ad),(VB true)] L) fun az L=>
K (Value.agg #[(VS ad),(VB true)]) az)
(Br (ByteArray.toList j==ByteArray.toList ({data:= #[112,101,114,105,111,100]}))
(C3 (fun a3 a4 a5=>(Value.tuple #[(VI a3),(VI a4),(VB a5)])) P 157 #[(Value.agg #[f.v]),(Value.agg #[g.v,(VI i)])] b L fun a3 a4 a5 b0=>
E1 Sl.v P (Instr.buildSlice 27 2 #[(0,(VI a3)),(1,(VI a4))]) b0 L fun b1 b2=>
C2 (fun q r=>(Value.agg #[(VS q),(VB r)])) P 158 #[b1.v,(VB a5)] b2 L fun q r b3=>
A0 b3 [a] (Z2 [(VS q),(VB r)] L) fun b4 L=>
K (Value.agg #[(VS q),(VB r)]) b4)
(Br (ByteArray.toList j==ByteArray.toList ({data:= #[99,121,99,108,101]}))
(C2 (fun a6 a7=>(Value.tuple #[(Sl.v a6),(VB a7)])) P 159 #[(Value.agg #[f.v]),(Value.agg #[g.v,(VI i)])] b L fun a6 a7 b5=>
C2 (fun s t=>(Value.agg #[(VS s),(VB t)])) P 158 #[a6.v,(VB a7)] b5 L fun s t b6=>
A0 b6 [a] (Z2 [(VS s),(VB t)] L) fun b7 L=>
K (Value.agg #[(VS s),(VB t)]) b7)
(A0 b [a,u] (Z2 [(VS (⟨#[]⟩:ByteArray)),(VB false)] (Z3 [c.v,d.v,(VI e),(VB true)] L)) fun b8 L=>
K (Value.agg #[(VS (⟨#[]⟩:ByteArray)),(VB false)]) b8))))))
theorem aeL(a:Nat)(c:Sl)(d:Sl)(e:Int)(f:Bool)(g:ByteArray)(h:Heap)(K:KQ)(hL:Vars h [(a,[c.v,d.v,(VI e),(VB f)])])(H:aeK Tryz.prog a c d e f g h K):aE Tryz.prog 113 #[(VP a 0),(VS g)] h K:=cw mixed Tryz.func113 [(3,⟨[],[],[(5,[.sl]),(6,[.sl,.i .i64])]⟩)] [.v (.l (.p 0 0)),.v (.l (.s g))] [(0,[.sl c,.sl d,.i .i64 e,.b f none])] [a] hL 66 (by kernel_rfl) H
def aeM(P:Program)(l:Nat)(f:Sl)(g:Sl)(i:Int)(ar:Bool)(d:ByteArray)(e:Int)(h:Heap)(K:KQ):Prop:=pk (
Lt [(l,[f.v,g.v,(VI i),(VB ar)])] fun L=>
A1 h [] (fun a=>(a,[(VS (⟨#[]⟩:ByteArray)),(VB false)])::L) fun a am L=>
∃a4:Nat->Sl->Nat->Sl->Int->Heap->Prop,((A1 am [] (fun o=>(o,[aC.v])::L) fun o au L=>
A1 au [] (fun p=>(p,[aC.v,(VI 0)])::L) fun p av L=>
A0 av [o] (Z1 [f.v] L) fun aw L=>
A0 aw [p] (Z0 [g.v,(VI i)] L) fun ax L=>
a4 o f p g i ax)/\
(A1 am [] (fun q=>(q,[aC.v,(VI 0)])::L) fun q ay L=>
A1 ay [] (fun r=>(r,[aC.v])::L) fun r az L=>
A0 az [r] (Z0 [f.v] L) fun b0 L=>
A0 b0 [q] (Z1 [g.v,(VI i)] L) fun b1 L=>
a4 r f q g i b1))/\
∀(an:Nat)(c:Sl)(ao:Nat)(j:Sl)(k:Int)(b:Heap),a4 an c ao j k b->Vi b ((ao,[j.v,(VI k)])::((an,[c.v])::L)) fun L=>
Br (ByteArray.toList d==ByteArray.toList ({data:= #[97,116]}))
(aE P 160 #[(VP l 0),(VI e)] b fun b2 ap=>∃b3:Sl,∃b4:Sl,∃b5:Int,∃b6:Bool,∃a5:ByteArray,∃a6:Bool,b2=(Value.agg #[(VS a5),(VB a6)])/\Va ap (Z3 [b3.v,b4.v,(VI b5),(VB b6)] L) fun L=>
A0 ap [a] (Z2 [(VS a5),(VB a6)] L) fun b7 L=>
K (Value.agg #[(VS a5),(VB a6)]) b7)
(Br (ByteArray.toList d==ByteArray.toList ({data:= #[114,117,110]}))
(C3 (fun a7 a8 a9=>(Value.tuple #[(Value.agg #[(Sl.v a7),(VI a8)]),(VB a9)])) P 161 #[(Value.agg #[c.v]),(Value.agg #[j.v,(VI k)]),(VI e)] b L fun a7 a8 a9 b8=>
aE P 155 #[(VP l 0),(Value.agg #[a7.v,(VI a8)]),(VB a9)] b8 fun b9 aq=>∃ba:Sl,∃bb:Sl,∃bc:Int,∃bd:Bool,∃aa:ByteArray,∃ab:Bool,b9=(Value.agg #[(VS aa),(VB ab)])/\Va aq (Z3 [ba.v,bb.v,(VI bc),(VB bd)] L) fun L=>
A0 aq [a] (Z2 [(VS aa),(VB ab)] L) fun be L=>
K (Value.agg #[(VS aa),(VB ab)]) be)
(Br (ByteArray.toList d==ByteArray.toList ({data:= #[112,97,115,115]}))
(C2 (fun ac ad=>(Value.tuple #[(Sl.v ac),(VB ad)])) P 162 #[(Value.agg #[c.v]),(Value.agg #[j.v,(VI k)]),(VI e)] b L fun ac ad bf=>
C2 (fun s t=>(Value.agg #[(VS s),(VB t)])) P 158 #[ac.v,(VB ad)] bf L fun s t bg=>
A0 bg [a] (Z2 [(VS s),(VB t)] L) fun bh L=>
K (Value.agg #[(VS s),(VB t)]) bh)
(Br (ByteArray.toList d==ByteArray.toList ({data:= #[118,105,115,105,116,115]}))
(C2 (fun ae af=>(Value.tuple #[(Sl.v ae),(VB af)])) P 163 #[(Value.agg #[c.v]),(Value.agg #[j.v,(VI k)]),(VI e)] b L fun ae af bi=>
C2 (fun u x=>(Value.agg #[(VS u),(VB x)])) P 158 #[ae.v,(VB af)] bi L fun u x bj=>
A0 bj [a] (Z2 [(VS u),(VB x)] L) fun bk L=>
K (Value.agg #[(VS u),(VB x)]) bk)
(Br (ByteArray.toList d==ByteArray.toList ({data:= #[104,105,116]}))
(C2 (fun ag ah=>(Value.tuple #[(VI ag),(VB ah)])) P 164 #[(Value.agg #[c.v]),(Value.agg #[j.v,(VI k)]),(VI e)] b L fun ag ah bl=>
C2 (fun y z=>(Value.agg #[(VS y),(VB z)])) P 116 #[(VI ag),(VB ah)] bl L fun y z bm=>
A0 bm [a] (Z2 [(VS y),(VB z)] L) fun bn L=>
K (Value.agg #[(VS y),(VB z)]) bn)
(Br (ByteArray.toList d==ByteArray.toList ({data:= #[116,114,101,101,115]}))
(C2 (fun ai aj=>(Value.tuple #[(VI ai),(VB aj)])) P 165 #[(Value.agg #[c.v]),(VI e)] b L fun ai aj bo=>
C2 (fun a0 a1=>(Value.agg #[(VS a0),(VB a1)])) P 116 #[(VI ai),(VB aj)] bo L fun a0 a1 bp=>
A0 bp [a] (Z2 [(VS a0),(VB a1)] L) fun bq L=>
K (Value.agg #[(VS a0),(VB a1)]) bq)
(Br (ByteArray.toList d==ByteArray.toList ({data:= #[102,117,108,108]}))
(C2 (fun ak al=>(Value.tuple #[(Sl.v ak),(VB al)])) P 166 #[(Value.agg #[c.v]),(VI e)] b L fun ak al br=>
C2 (fun a2 a3=>(Value.agg #[(VS a2),(VB a3)])) P 158 #[ak.v,(VB al)] br L fun a2 a3 bs=>
A0 bs [a] (Z2 [(VS a2),(VB a3)] L) fun bt L=>
K (Value.agg #[(VS a2),(VB a3)]) bt)
(A0 b [a,l] (Z2 [(VS (⟨#[]⟩:ByteArray)),(VB false)] (Z3 [f.v,g.v,(VI i),(VB true)] L)) fun bu L=>
K (Value.agg #[(VS (⟨#[]⟩:ByteArray)),(VB false)]) bu))))))))
theorem aeN(a:Nat)(c:Sl)(d:Sl)(e:Int)(f:Bool)(g:ByteArray)(j:Int)(h:Heap)(K:KQ)(hL:Vars h [(a,[c.v,d.v,(VI e),(VB f)])])(H:aeM Tryz.prog a c d e f g j h K):aE Tryz.prog 114 #[(VP a 0),(VS g),(VI j)] h K:=cw mixed Tryz.func114 [(3,⟨[],[],[(7,[.sl]),(8,[.sl,.i .i64])]⟩)] [.v (.l (.p 0 0)),.v (.l (.s g)),.v (.l (.i .i64 j))] [(0,[.sl c,.sl d,.i .i64 e,.b f none])] [a] hL 82 (by kernel_rfl) H
def aeO(P:Program)(e:Nat)(f:Sl)(aa:Sl)(g:Int)(ae:Bool)(i:ByteArray)(c:Int)(d:Int)(h:Heap)(K:KQ):Prop:=pk (
Lt [(e,[f.v,aa.v,(VI g),(VB ae)])] fun L=>
Br (ByteArray.toList i==ByteArray.toList ({data:= #[97,100,100]}))
(A1 h [] (fun a=>(a,[(VS (⟨#[]⟩:ByteArray)),(VB false)])::L) fun a b L=>
aE P 167 #[(VP e 0),(VI c),(VI d)] b fun af ab=>∃ag:Sl,∃ah:Sl,∃ai:Int,∃aj:Bool,∃t:ByteArray,∃u:Bool,af=(Value.agg #[(VS t),(VB u)])/\Va ab (Z1 [ag.v,ah.v,(VI ai),(VB aj)] L) fun L=>
A0 ab [a] (Z0 [(VS t),(VB u)] L) fun ak L=>
K (Value.agg #[(VS t),(VB u)]) ak)
(Br (ByteArray.toList i==ByteArray.toList ({data:= #[116,117,114,110]}))
(A1 h [] (fun a=>(a,[(VS (⟨#[]⟩:ByteArray)),(VB false)])::L) fun a b L=>
aE P 168 #[(VP e 0),(VI c),(VI d)] b fun al ac=>∃am:Sl,∃an:Sl,∃ao:Int,∃ap:Bool,∃x:ByteArray,∃y:Bool,al=(Value.agg #[(VS x),(VB y)])/\Va ac (Z1 [am.v,an.v,(VI ao),(VB ap)] L) fun L=>
A0 ac [a] (Z0 [(VS x),(VB y)] L) fun aq L=>
K (Value.agg #[(VS x),(VB y)]) aq)
(Br (ByteArray.toList i==ByteArray.toList ({data:= #[99,104,97,110,99,101]}))
(A1 h [] (fun a=>(a,[(VS (⟨#[]⟩:ByteArray)),(VB false)])::L) fun a b L=>
∃z:Bool->Nat->Int->Int->Heap->Prop,((C3 (fun j k a0=>(Value.tuple #[(Value.agg #[(VI j),(VI k)]),(VB a0)])) P 169 #[(Value.agg #[f.v]),(VI g),(VI c),(VI d)] b L fun j k a0 ar=>
A1 ar [] (fun a1=>Z0 [(VI j),(VI k)] ((a1,[(VI 0),(VI 0)])::L)) fun a1 au L=>
z a0 a1 j k au)/\
(A1 b [] (fun l=>(l,[(VI 0),(VI 0)])::L) fun l av L=>
C3 (fun o p a2=>(Value.tuple #[(Value.agg #[(VI o),(VI p)]),(VB a2)])) P 169 #[(Value.agg #[f.v]),(VI g),(VI c),(VI d)] av L fun o p a2 aw=>
A0 aw [l] (Z0 [(VI o),(VI p)] L) fun ax L=>
z a2 l o p ax))/\
∀(a3:Bool)(ad:Nat)(a4:Int)(a5:Int)(a6:Heap),z a3 ad a4 a5 a6->Vi a6 ((ad,[(VI a4),(VI a5)])::L) fun L=>
C1 VS P 92 #[(VI a4)] a6 L fun q ay=>
ByteArray.size q+ByteArray.size ({data:= #[47]})<=9223372036854775807/\
C1 VS P 92 #[(VI a5)] ay L fun a7 az=>
ByteArray.size (q++({data:= #[47]}))+ByteArray.size a7<=9223372036854775807/\
A0 az [a] (Z1 [(VS ((q++({data:= #[47]}))++a7)),(VB a3)] L) fun b0 L=>
K (Value.agg #[(VS ((q++({data:= #[47]}))++a7)),(VB a3)]) b0)
(Br (ByteArray.toList i==ByteArray.toList ({data:= #[103,114,111,119]}))
(A1 h [] (fun a=>(a,[(VS (⟨#[]⟩:ByteArray)),(VB false)])::L) fun a b L=>
C2 (fun a8 a9=>(Value.tuple #[(Sl.v a8),(VB a9)])) P 170 #[(VI c),(VI d)] b L fun a8 a9 b1=>
C2 (fun r s=>(Value.agg #[(VS r),(VB s)])) P 158 #[a8.v,(VB a9)] b1 L fun r s b2=>
A0 b2 [a] (Z0 [(VS r),(VB s)] L) fun b3 L=>
K (Value.agg #[(VS r),(VB s)]) b3)
(A1 h [e] (fun a=>Z0 [(VS (⟨#[]⟩:ByteArray)),(VB false)] (Z1 [f.v,aa.v,(VI g),(VB true)] ((a,[(VS (⟨#[]⟩:ByteArray)),(VB false)])::L))) fun a b4 L=>
K (Value.agg #[(VS (⟨#[]⟩:ByteArray)),(VB false)]) b4)))))
theorem aeP(a:Nat)(c:Sl)(d:Sl)(e:Int)(f:Bool)(g:ByteArray)(j:Int)(k:Int)(h:Heap)(K:KQ)(hL:Vars h [(a,[c.v,d.v,(VI e),(VB f)])])(H:aeO Tryz.prog a c d e f g j k h K):aE Tryz.prog 115 #[(VP a 0),(VS g),(VI j),(VI k)] h K:=cw mixed Tryz.func115 [(1726,⟨[⟨10,.l .b⟩],[],[(9,[.i .i64,.i .i64])]⟩)] [.v (.l (.p 0 0)),.v (.l (.s g)),.v (.l (.i .i64 j)),.v (.l (.i .i64 k))] [(0,[.sl c,.sl d,.i .i64 e,.b f none])] [a] hL 65 (by kernel_rfl) H
def aeQ(P:Program)(d:Int)(b:Bool)(h:Heap)(K:KQ):Prop:=pk (
A1 h [] (fun a=>(a,[(VS (⟨#[]⟩:ByteArray)),(VB false)])::[]) fun a e L=>
C1 VS P 92 #[(VI d)] e L fun c f=>
A0 f [a] (Z0 [(VS c),(VB b)] L) fun g L=>
K (Value.agg #[(VS c),(VB b)]) g)
theorem aeR(a:Int)(c:Bool)(h:Heap)(K:KQ)(H:aeQ Tryz.prog a c h K):aE Tryz.prog 116 #[(VI a),(VB c)] h K:=cw mixed Tryz.func116 [] [.v (.l (.i .i64 a)),.v (.l (.b c none))] [] [] .nil 9 (by kernel_rfl) H
def aeS(P:Program)(c:Int)(d:Int)(e:Int)(f:Int)(h:Heap)(K:KQ):Prop:=pk (
C2 (fun a b=>(Value.tuple #[(Sl.v a),(VB b)])) P 171 #[(VI c),(VI d),(VI e),(VI f)] h [] fun a b g=>
C1 VI P 172 #[a.v] g [] fun i j=>
K (Value.tuple #[(VI i),(VB b)]) j)
theorem v117(a:Int)(b:Int)(c:Int)(d:Int)(h:Heap)(K:KQ)(H:aeS Tryz.prog a b c d h K):aE Tryz.prog 117 #[(VI a),(VI b),(VI c),(VI d)] h K:=cw mixed Tryz.func117 [] [.v (.l (.i .i64 a)),.v (.l (.i .i64 b)),.v (.l (.i .i64 c)),.v (.l (.i .i64 d))] [] [] .nil 23 (by kernel_rfl) H
def aeT(P:Program)(a:Int)(b:Int)(c:Int)(h:Heap)(K:KQ):Prop:=pk (
Br (decide (b<=a))
(K (VB (decide (a<=c))) h)
(K (VB false) h))
theorem aeU(a:Int)(b:Int)(c:Int)(h:Heap)(K:KQ)(H:aeT Tryz.prog a b c h K):aE Tryz.prog 119 #[(VI a),(VI b),(VI c)] h K:=cw mixed Tryz.func119 [] [.v (.l (.i .i64 a)),.v (.l (.i .i64 b)),.v (.l (.i .i64 c))] [] [] .nil 15 (by kernel_rfl) H
def aeV(P:Program)(c:Sl)(e:Int)(f:Int)(h:Heap)(K:KQ):Prop:=pk (
O1 0 h fun g i(b:Int) a=>
Vars a []->
Br (decide (b<(c.n:Int)))
(G1 VI a c b 1 fun j=>
C1 VB P 119 #[(VI j),(VI e),(VI f)] a [] fun k d=>
Br (!k)
(K (VB false) d)
(Nj i fun m=>g m (aL (b+1)) d))
(K (VB true) a))
theorem aeW(a:Sl)(b:Int)(c:Int)(h:Heap)(K:KQ)(H:aeV Tryz.prog a b c h K):aE Tryz.prog 120 #[a.v,(VI b),(VI c)] h K:=cw mixed Tryz.func120 [(26,⟨[⟨11,.l (.i .i64)⟩],[],[]⟩)] [.v (.l (.sl a)),.v (.l (.i .i64 b)),.v (.l (.i .i64 c))] [] [] .nil 21 (by kernel_rfl) H
def aeX(P:Program)(a:Sl)(d:Int)(h:Heap)(K:KQ):Prop:=pk (
A1 h [] (fun b=>(b,[a.v])::[]) fun b e L=>
C1 VB P 82 #[(Value.agg #[a.v])] e L fun f c=>
Br f
(C1 VB P 119 #[(VI d),(VI 0),(VI (aL ((a.n:Int)-1)))] c L fun g i=>
K (VB g) i)
(K (VB false) c))
theorem aeY(b:Sl)(c:Int)(h:Heap)(K:KQ)(H:aeX Tryz.prog b c h K):aE Tryz.prog 121 #[(Value.agg #[b.v]),(VI c)] h K:=cw mixed Tryz.func121 [] [.v (.a [.sl b]),.v (.l (.i .i64 c))] [] [] .nil 15 (by kernel_rfl) H
def aeZ(P:Program)(a:Int)(b:Int)(h:Heap)(K:KQ):Prop:=pk (
Br (decide (b<a))
(K (VI a) h)
(K (VI b) h))
theorem abj(a:Int)(b:Int)(h:Heap)(K:KQ)(H:aeZ Tryz.prog a b h K):aE Tryz.prog 122 #[(VI a),(VI b)] h K:=cw mixed Tryz.func122 [] [.v (.l (.i .i64 a)),.v (.l (.i .i64 b))] [] [] .nil 10 (by kernel_rfl) H
def ae0(P:Program)(a:ByteArray)(h:Heap)(K:KQ):Prop:=pk (
∃e:Bool->Heap->Prop,(Br (ByteArray.toList a==ByteArray.toList ({data:= #[115,116,101,112]}))
(e (ByteArray.toList a==ByteArray.toList ({data:= #[115,116,101,112]})) h)
(Br (ByteArray.toList a==ByteArray.toList ({data:= #[115,104,111,119]}))
(e (ByteArray.toList a==ByteArray.toList ({data:= #[115,104,111,119]})) h)
(Br (ByteArray.toList a==ByteArray.toList ({data:= #[119,97,108,107]}))
(e (ByteArray.toList a==ByteArray.toList ({data:= #[119,97,108,107]})) h)
(Br (ByteArray.toList a==ByteArray.toList ({data:= #[112,101,114,105,111,100]}))
(e (ByteArray.toList a==ByteArray.toList ({data:= #[112,101,114,105,111,100]})) h)
(e (ByteArray.toList a==ByteArray.toList ({data:= #[99,121,99,108,101]})) h)))))/\
∀(i:Bool)(b:Heap),e i b->Vars b []->
Br i
(K (VS ({data:= #[]})) b)
(∃c:Bool->Heap->Prop,(Br (ByteArray.toList a==ByteArray.toList ({data:= #[97,116]}))
(c (ByteArray.toList a==ByteArray.toList ({data:= #[97,116]})) b)
(Br (ByteArray.toList a==ByteArray.toList ({data:= #[114,117,110]}))
(c (ByteArray.toList a==ByteArray.toList ({data:= #[114,117,110]})) b)
(Br (ByteArray.toList a==ByteArray.toList ({data:= #[112,97,115,115]}))
(c (ByteArray.toList a==ByteArray.toList ({data:= #[112,97,115,115]})) b)
(Br (ByteArray.toList a==ByteArray.toList ({data:= #[118,105,115,105,116,115]}))
(c (ByteArray.toList a==ByteArray.toList ({data:= #[118,105,115,105,116,115]})) b)
(Br (ByteArray.toList a==ByteArray.toList ({data:= #[104,105,116]}))
(c (ByteArray.toList a==ByteArray.toList ({data:= #[104,105,116]})) b)
(Br (ByteArray.toList a==ByteArray.toList ({data:= #[116,114,101,101,115]}))
(c (ByteArray.toList a==ByteArray.toList ({data:= #[116,114,101,101,115]})) b)
(c (ByteArray.toList a==ByteArray.toList ({data:= #[102,117,108,108]})) b)))))))/\
∀(j:Bool)(d:Heap),c j d->Vars d []->
Br j
(K (VS ({data:= #[110]})) d)
(∃g:Bool->Heap->Prop,(Br (ByteArray.toList a==ByteArray.toList ({data:= #[97,100,100]}))
(g (ByteArray.toList a==ByteArray.toList ({data:= #[97,100,100]})) d)
(Br (ByteArray.toList a==ByteArray.toList ({data:= #[116,117,114,110]}))
(g (ByteArray.toList a==ByteArray.toList ({data:= #[116,117,114,110]})) d)
(Br (ByteArray.toList a==ByteArray.toList ({data:= #[99,104,97,110,99,101]}))
(g (ByteArray.toList a==ByteArray.toList ({data:= #[99,104,97,110,99,101]})) d)
(g (ByteArray.toList a==ByteArray.toList ({data:= #[103,114,111,119]})) d))))/\
∀(k:Bool)(f:Heap),g k f->Vars f []->
Br k
(K (VS ({data:= #[110,110]})) f)
(Br (ByteArray.toList a==ByteArray.toList ({data:= #[101,115,99,97,112,101,115]}))
(K (VS ({data:= #[110,110,110,110]})) f)
(Br (ByteArray.toList a==ByteArray.toList ({data:= #[103,114,97,112,104]}))
(K (VS ({data:= #[103]})) f)
(K (VS ({data:= #[63]})) f))))))
theorem ae1(a:ByteArray)(h:Heap)(K:KQ)(H:ae0 Tryz.prog a h K):aE Tryz.prog 123 #[(VS a)] h K:=cw mixed Tryz.func123 [(26,⟨[⟨4,.l .b⟩],[],[]⟩),(107,⟨[⟨10,.l .b⟩],[],[]⟩),(431,⟨[⟨18,.l .b⟩],[],[]⟩)] [.v (.l (.s a))] [] [] .nil 27 (by kernel_rfl) H
def ae2(P:Program)(a:ByteArray)(h:Heap)(K:KQ):Prop:=pk (
C1 VB P 119 #[(VI (a.size:Int)),(VI 1),(VI 6)] h [] fun s f=>
Br (!s)
(K (VI (-1)) f)
(Q1 (fun g=>(Value.int .u8 g)) P (Instr.index 9 (VS a) (.int .i64 0)) fun g=>
Br (decide (g=48))
(Br (decide (1<(a.size:Int)))
(K (VI (-1)) f)
(O2 0 0 f fun t u(q:Int)(d:Int) b=>
Vars b []->
Br (decide (d<(a.size:Int)))
(Q1 (fun i=>(Value.int .u8 i)) P (Instr.index 9 (VS a) (VI d)) fun i=>
Br (decide (i<48))
(K (VI (-1)) b)
(Q1 (fun j=>(Value.int .u8 j)) P (Instr.index 9 (VS a) (VI d)) fun j=>
Br (decide (57<j))
(K (VI (-1)) b)
(Q1 (fun k=>(Value.int .u8 k)) P (Instr.index 9 (VS a) (VI d)) fun k=>
R1 VI P (convert 5 3 (Value.int .u8 (IntKind.wrap .u8 (k-48)))) b fun v=>
Nj u fun m=>t m (aL ((aL (10*q))+v)) (aL (d+1)) b)))
(K (VI q) b)))
(O2 0 0 f fun x y(r:Int)(e:Int) c=>
Vars c []->
Br (decide (e<(a.size:Int)))
(Q1 (fun l=>(Value.int .u8 l)) P (Instr.index 9 (VS a) (VI e)) fun l=>
Br (decide (l<48))
(K (VI (-1)) c)
(Q1 (fun o=>(Value.int .u8 o)) P (Instr.index 9 (VS a) (VI e)) fun o=>
Br (decide (57<o))
(K (VI (-1)) c)
(Q1 (fun p=>(Value.int .u8 p)) P (Instr.index 9 (VS a) (VI e)) fun p=>
R1 VI P (convert 5 3 (Value.int .u8 (IntKind.wrap .u8 (p-48)))) c fun z=>
Nj y fun m=>x m (aL ((aL (10*r))+z)) (aL (e+1)) c)))
(K (VI r) c))))
theorem v124(a:ByteArray)(h:Heap)(K:KQ)(H:ae2 Tryz.prog a h K):aE Tryz.prog 124 #[(VS a)] h K:=cw mixed Tryz.func124 [(122,⟨[⟨3,.l (.i .i64)⟩,⟨4,.l (.i .i64)⟩],[],[]⟩)] [.v (.l (.s a))] [] [] .nil 44 (by kernel_rfl) H
def ae3(P:Program)(j:ByteArray)(h:Heap)(K:KQ):Prop:=pk (
Br (decide (200<(j.size:Int)))
(A1 h [] (fun a=>Z0 [aC.v] ((a,[aC.v])::[])) fun a u L=>
K (Value.tuple #[(Value.agg #[aC.v]),(VB false)]) u)
(A2 h [] (fun a g=>Z0 [aC.v] ((g,[aC.v])::((a,[aC.v])::[]))) fun a g x L=>
O3 aC 0 aC x fun y z(e:Sl)(k:Int)(c:Sl) b=>
Vi b (Z0 [c.v] L) fun L=>
Br (decide (k<(j.size:Int)))
(∃f:Sl->Sl->Heap->Prop,(Q1 (fun d=>(Value.int .u8 d)) P (Instr.index 9 (VS j) (VI k)) fun d=>
Br (decide (48<=d))
(Br (decide (d<=55))
(R1 VI P (convert 5 3 (Value.int .u8 (IntKind.wrap .u8 (d-48)))) b fun a0=>
E1 Sl.v P (Instr.buildSlice 27 1 #[(0,(VI a0))]) b L fun a1 a2=>
E1 Sl.v P (bK 27 27 27 e.v a1.v) a2 L fun a3 a4=>
f a3 c a4)
(Br (decide (d=59))
(E1 Sl.v P (Instr.buildSlice 24 1 #[(0,e.v)]) b L fun a5 a6=>
E1 Sl.v P (bK 24 24 24 c.v a5.v) a6 L fun p a7=>
A0 a7 [g] (Z0 [p.v] L) fun a8 L=>
f aC p a8)
(f e c b)))
(Br (decide (d=59))
(E1 Sl.v P (Instr.buildSlice 24 1 #[(0,e.v)]) b L fun a9 aa=>
E1 Sl.v P (bK 24 24 24 c.v a9.v) aa L fun q ab=>
A0 ab [g] (Z0 [q.v] L) fun ac L=>
f aC q ac)
(f e c b)))/\
∀(r:Sl)(l:Sl)(o:Heap),f r l o->Vi o (Z0 [l.v] L) fun L=>
Nj z fun m=>y m r (aL (k+1)) l o)
(E1 Sl.v P (Instr.buildSlice 24 1 #[(0,e.v)]) b L fun ad ae=>
E1 Sl.v P (bK 24 24 24 c.v ad.v) ae L fun i af=>
A0 af [g] (Z0 [i.v] L) fun ag L=>
C1 VB P 82 #[(Value.agg #[i.v])] ag L fun ah s=>
Br (!ah)
(A0 s [a] (Z1 [aC.v] L) fun ai L=>
K (Value.tuple #[(Value.agg #[aC.v]),(VB false)]) ai)
(C1 VS P 74 #[(Value.agg #[i.v])] s L fun aj t=>
Br (!(ByteArray.toList aj==ByteArray.toList j))
(A0 t [a] (Z1 [aC.v] L) fun ak L=>
K (Value.tuple #[(Value.agg #[aC.v]),(VB false)]) ak)
(A0 t [a] (Z1 [i.v] L) fun al L=>
K (Value.tuple #[(Value.agg #[i.v]),(VB true)]) al)))))
theorem ae4(a:ByteArray)(h:Heap)(K:KQ)(H:ae3 Tryz.prog a h K):aE Tryz.prog 125 #[(VS a)] h K:=cw mixed Tryz.func125 [(250,⟨[⟨5,.l .sl⟩,⟨6,.l (.i .i64)⟩],[1],[]⟩),(1001,⟨[⟨5,.l .sl⟩],[1],[]⟩)] [.v (.l (.s a))] [] [] .nil 61 (by kernel_rfl) H
def ae5(P:Program)(d:Sl)(b:Int)(g:Int)(h:Heap)(K:KQ):Prop:=pk (
A2 h [] (fun i c=>(c,[aC.v])::((i,[d.v])::[])) fun i c r L=>
C1 VB P 121 #[(Value.agg #[d.v]),(VI b)] r L fun s j=>
Br (!s)
(A0 j [c] (Z0 [aC.v] L) fun t L=>
K (Value.tuple #[(Value.agg #[aC.v]),(VB false)]) t)
(C1 VB P 121 #[(Value.agg #[d.v]),(VI g)] j L fun u k=>
Br (!u)
(A0 k [c] (Z0 [aC.v] L) fun x L=>
K (Value.tuple #[(Value.agg #[aC.v]),(VB false)]) x)
(C1 (fun a=>(Value.agg #[(Sl.v a)])) P 175 #[(Value.agg #[d.v])] k L fun a y=>
dQ a b/\
A1 y [] (fun l=>Z0 [a.v] ((l,[aC.v])::L)) fun l o L=>
H1 Sl.v o (Sl.at a b 1) fun p=>
E1 Sl.v P (Instr.buildSlice 27 1 #[(0,(VI g))]) o L fun z q=>
aR q (Sl.at a b 1)=some p.v/\
E1 Sl.v P (bK 27 27 27 p.v z.v) q L fun a0 a1=>
dQ a b/\
S1 a1 (Sl.at a b 1) a0.v L fun a2=>
C2 (fun e f=>(Value.tuple #[(Value.agg #[(Sl.v e)]),(VB f)])) P 176 #[(Value.agg #[a.v])] a2 L fun e f a3=>
A0 a3 [c] (Z1 [e.v] L) fun a4 L=>
K (Value.tuple #[(Value.agg #[e.v]),(VB f)]) a4)))
theorem ae6(b:Sl)(c:Int)(d:Int)(h:Heap)(K:KQ)(H:ae5 Tryz.prog b c d h K):aE Tryz.prog 126 #[(Value.agg #[b.v]),(VI c),(VI d)] h K:=cw mixed Tryz.func126 [] [.v (.a [.sl b]),.v (.l (.i .i64 c)),.v (.l (.i .i64 d))] [] [] .nil 38 (by kernel_rfl) H
def ae7(P:Program)(f:Nat)(d:Sl)(k:Sl)(l:Int)(g:Sl)(i:Sl)(a:Sl)(b:Int)(o:Bool)(h:Heap)(K:KQ):Prop:=pk (
Lt [(f,[d.v,k.v,(VI l),g.v,i.v])] fun L=>
Br (!o)
(A1 h [] (fun c=>(c,[a.v,(VI b)])::L) fun c e L=>
K (VS ({data:= #[110,111]})) e)
(A1 h [] (fun c=>(c,[a.v,(VI b)])::L) fun c e L=>
C1 VB P 83 #[(Value.agg #[d.v]),(Value.agg #[a.v,(VI b)])] e L fun p j=>
Br (!p)
(K (VS ({data:= #[110,111]})) j)
(A0 j [f] (Z1 [d.v,a.v,(VI b),g.v,i.v] L) fun q L=>
C1 VS P 130 #[(Value.agg #[a.v,(VI b)])] q L fun r s=>
K (VS r) s)))
theorem v127(c:Nat)(d:Sl)(e:Sl)(f:Int)(g:Sl)(j:Sl)(k:Sl)(o:Int)(q:Bool)(h:Heap)(K:KQ)(hL:Vars h [(c,[d.v,e.v,(VI f),g.v,j.v])])(H:ae7 Tryz.prog c d e f g j k o q h K):aE Tryz.prog 127 #[(VP c 0),(Value.agg #[k.v,(VI o)]),(VB q)] h K:=cw mixed Tryz.func127 [] [.v (.l (.p 0 0)),.v (.a [.sl k,.i .i64 o]),.v (.l (.b q none))] [(0,[.sl d,.sl e,.i .i64 f,.sl g,.sl j])] [c] hL 26 (by kernel_rfl) H
def ae8(P:Program)(e:Sl)(f:Sl)(g:Int)(h:Heap)(K:KQ):Prop:=pk (
A3 h [] (fun j k c=>(c,[aC.v,(VI 0)])::((k,[f.v,(VI g)])::((j,[e.v])::[]))) fun j k c p L=>
C1 VB P 83 #[(Value.agg #[e.v]),(Value.agg #[f.v,(VI g)])] p L fun q l=>
Br (!q)
(A0 l [c] (Z0 [aC.v,(VI 0)] L) fun r L=>
K (Value.tuple #[(Value.agg #[aC.v,(VI 0)]),(VB false)]) r)
(C3 (fun a b i=>(Value.tuple #[(Value.agg #[(Sl.v a),(VI b)]),(VB i)])) P 177 #[(Value.agg #[e.v]),(Value.agg #[f.v,(VI g)])] l L fun a b i o=>
Br (!i)
(A1 o [c] (fun d=>Z1 [aC.v,(VI 0)] (Z0 [a.v,(VI b)] ((d,[aC.v,(VI 0)])::L))) fun d s L=>
K (Value.tuple #[(Value.agg #[aC.v,(VI 0)]),(VB false)]) s)
(A1 o [c] (fun d=>Z1 [a.v,(VI b)] (Z0 [a.v,(VI b)] ((d,[aC.v,(VI 0)])::L))) fun d t L=>
K (Value.tuple #[(Value.agg #[a.v,(VI b)]),(VB true)]) t)))
theorem ae9(b:Sl)(c:Sl)(d:Int)(h:Heap)(K:KQ)(H:ae8 Tryz.prog b c d h K):aE Tryz.prog 128 #[(Value.agg #[b.v]),(Value.agg #[c.v,(VI d)])] h K:=cw mixed Tryz.func128 [] [.v (.a [.sl b]),.v (.a [.sl c,.i .i64 d])] [] [] .nil 23 (by kernel_rfl) H
def afa(P:Program)(i:Sl)(j:Sl)(k:Int)(o:Int)(h:Heap)(K:KQ):Prop:=pk (
A3 h [] (fun p q b=>(b,[aC.v,(VI 0)])::((q,[j.v,(VI k)])::((p,[i.v])::[]))) fun p q b u L=>
C1 VB P 178 #[(Value.agg #[i.v]),(Value.agg #[j.v,(VI k)]),(VI o)] u L fun x r=>
Br (!x)
(A0 r [b] (Z0 [aC.v,(VI 0)] L) fun y L=>
K (Value.tuple #[(Value.agg #[aC.v,(VI 0)]),(VB false)]) y)
(C6 (fun c a e f g l=>(Value.tuple #[(Value.agg #[(Sl.v c),(VI a),(Sl.v e),(Sl.v f),(Sl.v g)]),(VB l)])) P 179 #[(Value.agg #[i.v]),(Value.agg #[j.v,(VI k)]),(VI o)] r L fun c a e f g l s=>
Br (!l)
(A1 s [b] (fun d=>Z1 [aC.v,(VI 0)] (Z0 [c.v,(VI a),e.v,f.v,g.v] ((d,[aC.v,(VI 0),aC.v,aC.v,aC.v])::L))) fun d z L=>
K (Value.tuple #[(Value.agg #[aC.v,(VI 0)]),(VB false)]) z)
(A1 s [] (fun d=>Z0 [c.v,(VI a),e.v,f.v,g.v] ((d,[aC.v,(VI 0),aC.v,aC.v,aC.v])::L)) fun d a0 L=>
C1 Sl.v P 87 #[c.v] a0 L fun t a1=>
A0 a1 [b] (Z1 [t.v,(VI a)] L) fun a2 L=>
K (Value.tuple #[(Value.agg #[t.v,(VI a)]),(VB true)]) a2)))
theorem afb(b:Sl)(c:Sl)(d:Int)(e:Int)(h:Heap)(K:KQ)(H:afa Tryz.prog b c d e h K):aE Tryz.prog 129 #[(Value.agg #[b.v]),(Value.agg #[c.v,(VI d)]),(VI e)] h K:=cw mixed Tryz.func129 [] [.v (.a [.sl b]),.v (.a [.sl c,.i .i64 d]),.v (.l (.i .i64 e))] [] [] .nil 34 (by kernel_rfl) H
def afc(P:Program)(b:Sl)(c:Int)(h:Heap)(K:KQ):Prop:=pk (
A1 h [] (fun d=>(d,[b.v,(VI c)])::[]) fun d f L=>
C1 VS P 73 #[(VI c)] f L fun a g=>
ByteArray.size a+ByteArray.size ({data:= #[58]})<=9223372036854775807/\
C1 VS P 180 #[b.v] g L fun e i=>
ByteArray.size (a++({data:= #[58]}))+ByteArray.size e<=9223372036854775807/\
K (VS ((a++({data:= #[58]}))++e)) i)
theorem v130(b:Sl)(c:Int)(h:Heap)(K:KQ)(H:afc Tryz.prog b c h K):aE Tryz.prog 130 #[(Value.agg #[b.v,(VI c)])] h K:=cw mixed Tryz.func130 [] [.v (.a [.sl b,.i .i64 c])] [] [] .nil 11 (by kernel_rfl) H
def afd(P:Program)(a:Sl)(b:Bool)(h:Heap)(K:KQ):Prop:=pk (
Br (!b)
(K (VS ({data:= #[110,111]})) h)
(C1 VS P 180 #[a.v] h [] fun c d=>
K (VS c) d))
theorem v131(a:Sl)(c:Bool)(h:Heap)(K:KQ)(H:afd Tryz.prog a c h K):aE Tryz.prog 131 #[a.v,(VB c)] h K:=cw mixed Tryz.func131 [] [.v (.l (.sl a)),.v (.l (.b c none))] [] [] .nil 9 (by kernel_rfl) H
def afe(P:Program)(b:Sl)(c:Sl)(d:Int)(k:Int)(h:Heap)(K:KQ):Prop:=pk (
A2 h [] (fun l o=>(o,[c.v,(VI d)])::((l,[b.v])::[])) fun l o s L=>
C1 VB P 83 #[(Value.agg #[b.v]),(Value.agg #[c.v,(VI d)])] s L fun t p=>
Br (!t)
(K (Value.tuple #[aC.v,(VB false)]) p)
(C1 VB P 119 #[(VI k),(VI 0),(VI 200)] p L fun u q=>
Br (!u)
(K (Value.tuple #[aC.v,(VB false)]) q)
(C6 (fun e f a g i j=>(Value.tuple #[(Value.agg #[(Sl.v e),(VI f),(Sl.v a),(Sl.v g),(Sl.v i)]),(VB j)])) P 179 #[(Value.agg #[b.v]),(Value.agg #[c.v,(VI d)]),(VI k)] q L fun e f a g i j x=>
A1 x [] (fun r=>Z0 [e.v,(VI f),a.v,g.v,i.v] ((r,[aC.v,(VI 0),aC.v,aC.v,aC.v])::L)) fun r y L=>
K (Value.tuple #[a.v,(VB j)]) y)))
theorem aff(b:Sl)(c:Sl)(d:Int)(e:Int)(h:Heap)(K:KQ)(H:afe Tryz.prog b c d e h K):aE Tryz.prog 132 #[(Value.agg #[b.v]),(Value.agg #[c.v,(VI d)]),(VI e)] h K:=cw mixed Tryz.func132 [] [.v (.a [.sl b]),.v (.a [.sl c,.i .i64 d]),.v (.l (.i .i64 e))] [] [] .nil 29 (by kernel_rfl) H
def afg(P:Program)(b:Sl)(c:Sl)(d:Int)(k:Int)(h:Heap)(K:KQ):Prop:=pk (
A2 h [] (fun l o=>(o,[c.v,(VI d)])::((l,[b.v])::[])) fun l o r L=>
C1 VB P 178 #[(Value.agg #[b.v]),(Value.agg #[c.v,(VI d)]),(VI k)] r L fun s p=>
Br (!s)
(K (Value.tuple #[aC.v,(VB false)]) p)
(C6 (fun e f g a i j=>(Value.tuple #[(Value.agg #[(Sl.v e),(VI f),(Sl.v g),(Sl.v a),(Sl.v i)]),(VB j)])) P 179 #[(Value.agg #[b.v]),(Value.agg #[c.v,(VI d)]),(VI k)] p L fun e f g a i j t=>
A1 t [] (fun q=>Z0 [e.v,(VI f),g.v,a.v,i.v] ((q,[aC.v,(VI 0),aC.v,aC.v,aC.v])::L)) fun q u L=>
K (Value.tuple #[a.v,(VB j)]) u))
theorem afh(b:Sl)(c:Sl)(d:Int)(e:Int)(h:Heap)(K:KQ)(H:afg Tryz.prog b c d e h K):aE Tryz.prog 133 #[(Value.agg #[b.v]),(Value.agg #[c.v,(VI d)]),(VI e)] h K:=cw mixed Tryz.func133 [] [.v (.a [.sl b]),.v (.a [.sl c,.i .i64 d]),.v (.l (.i .i64 e))] [] [] .nil 25 (by kernel_rfl) H
def afi(P:Program)(a:Int)(b:Bool)(h:Heap)(K:KQ):Prop:=pk (
Br (!b)
(K (VS ({data:= #[110,111]})) h)
(C1 VS P 73 #[(VI a)] h [] fun c d=>
K (VS c) d))
theorem afj(a:Int)(c:Bool)(h:Heap)(K:KQ)(H:afi Tryz.prog a c h K):aE Tryz.prog 134 #[(VI a),(VB c)] h K:=cw mixed Tryz.func134 [] [.v (.l (.i .i64 a)),.v (.l (.b c none))] [] [] .nil 9 (by kernel_rfl) H
def afk(P:Program)(d:Sl)(f:Sl)(g:Int)(o:Int)(h:Heap)(K:KQ):Prop:=pk (
A2 h [] (fun p i=>(i,[f.v,(VI g)])::((p,[d.v])::[])) fun p i u L=>
C1 VB P 83 #[(Value.agg #[d.v]),(Value.agg #[f.v,(VI g)])] u L fun x q=>
Br (!x)
(K (Value.tuple #[(VI 0),(VB false)]) q)
(C1 VB P 121 #[(Value.agg #[d.v]),(VI o)] q L fun y r=>
Br (!y)
(K (Value.tuple #[(VI 0),(VB false)]) r)
(O3 0 f g r fun z a0(j:Int)(s:Sl)(k:Int) e=>
Vi e (Z0 [s.v,(VI k)] L) fun L=>
Br (decide (j<=2000))
(Br (decide (k=o))
(K (Value.tuple #[(VI j),(VB true)]) e)
(C3 (fun a b l=>(Value.tuple #[(Value.agg #[(Sl.v a),(VI b)]),(VB l)])) P 177 #[(Value.agg #[d.v]),(Value.agg #[s.v,(VI k)])] e L fun a b l t=>
Br (!l)
(A1 t [] (fun c=>Z0 [a.v,(VI b)] ((c,[aC.v,(VI 0)])::L)) fun c a1 L=>
K (Value.tuple #[(VI 0),(VB false)]) a1)
(A1 t [i] (fun c=>Z1 [a.v,(VI b)] (Z0 [a.v,(VI b)] ((c,[aC.v,(VI 0)])::L))) fun c a2 L=>
Nj a0 fun m=>z m (aL (j+1)) a b a2)))
(K (Value.tuple #[(VI 0),(VB false)]) e))))
theorem afl(b:Sl)(c:Sl)(d:Int)(e:Int)(h:Heap)(K:KQ)(H:afk Tryz.prog b c d e h K):aE Tryz.prog 135 #[(Value.agg #[b.v]),(Value.agg #[c.v,(VI d)]),(VI e)] h K:=cw mixed Tryz.func135 [(58,⟨[⟨8,.l (.i .i64)⟩],[1],[]⟩)] [.v (.a [.sl b]),.v (.a [.sl c,.i .i64 d]),.v (.l (.i .i64 e))] [] [] .nil 39 (by kernel_rfl) H
def afm(P:Program)(e:Sl)(f:Sl)(g:Int)(h:Heap)(K:KQ):Prop:=pk (
A2 h [] (fun k l=>(l,[f.v,(VI g)])::((k,[e.v])::[])) fun k l q L=>
C1 VB P 83 #[(Value.agg #[e.v]),(Value.agg #[f.v,(VI g)])] q L fun r o=>
Br (!r)
(K (Value.tuple #[(VI 0),(VI 0),(VB false)]) o)
(C4 (fun i b c d=>(Value.tuple #[(VI i),(Value.agg #[(Sl.v b),(VI c)]),(VI d)])) P 181 #[(Value.agg #[e.v]),(Value.agg #[f.v,(VI g)])] o L fun i b c d p=>
Br (decide (d=0))
(A1 p [] (fun a=>Z0 [b.v,(VI c)] ((a,[aC.v,(VI 0)])::L)) fun a j L=>
K (Value.tuple #[(VI 0),(VI 0),(VB false)]) j)
(A1 p [] (fun a=>Z0 [b.v,(VI c)] ((a,[aC.v,(VI 0)])::L)) fun a j L=>
K (Value.tuple #[(VI i),(VI d),(VB true)]) j)))
theorem afn(b:Sl)(c:Sl)(d:Int)(h:Heap)(K:KQ)(H:afm Tryz.prog b c d h K):aE Tryz.prog 136 #[(Value.agg #[b.v]),(Value.agg #[c.v,(VI d)])] h K:=cw mixed Tryz.func136 [] [.v (.a [.sl b]),.v (.a [.sl c,.i .i64 d])] [] [] .nil 25 (by kernel_rfl) H
def afo(P:Program)(a:Sl)(b:Int)(h:Heap)(K:KQ):Prop:=pk (
A1 h [] (fun c=>(c,[a.v])::[]) fun c e L=>
C1 VB P 121 #[(Value.agg #[a.v]),(VI b)] e L fun f d=>
Br (!f)
(K (Value.tuple #[(VI 0),(VB false)]) d)
(C1 Sl.v P 183 #[(Value.agg #[a.v]),(VI b)] d L fun g i=>
C1 VI P 182 #[g.v] i L fun j k=>
K (Value.tuple #[(VI j),(VB true)]) k))
theorem afp(b:Sl)(c:Int)(h:Heap)(K:KQ)(H:afo Tryz.prog b c h K):aE Tryz.prog 137 #[(Value.agg #[b.v]),(VI c)] h K:=cw mixed Tryz.func137 [] [.v (.a [.sl b]),.v (.l (.i .i64 c))] [] [] .nil 14 (by kernel_rfl) H
def afq(P:Program)(a:Sl)(b:Sl)(c:Int)(h:Heap)(K:KQ):Prop:=pk (
A2 h [] (fun f g=>(g,[b.v,(VI c)])::((f,[a.v])::[])) fun f g j L=>
C1 VB P 83 #[(Value.agg #[a.v]),(Value.agg #[b.v,(VI c)])] j L fun k i=>
Br (!k)
(K (Value.tuple #[aC.v,(VB false)]) i)
(C2 (fun d e=>(Value.tuple #[(Sl.v d),(VB e)])) P 184 #[(Value.agg #[a.v]),(Value.agg #[b.v,(VI c)])] i L fun d e l=>
K (Value.tuple #[d.v,(VB e)]) l))
theorem v138(b:Sl)(c:Sl)(d:Int)(h:Heap)(K:KQ)(H:afq Tryz.prog b c d h K):aE Tryz.prog 138 #[(Value.agg #[b.v]),(Value.agg #[c.v,(VI d)])] h K:=cw mixed Tryz.func138 [] [.v (.a [.sl b]),.v (.a [.sl c,.i .i64 d])] [] [] .nil 15 (by kernel_rfl) H
def afr(P:Program)(b:Sl)(c:Int)(f:Int)(g:Int)(h:Heap)(K:KQ):Prop:=pk (
A2 h [] (fun i a=>(a,[(VI 0),(VI 0)])::((i,[b.v])::[])) fun i a p L=>
C1 VB P 185 #[(Value.agg #[b.v]),(VI f),(VI g)] p L fun q j=>
Br (!q)
(A0 j [a] (Z0 [(VI 0),(VI 0)] L) fun r L=>
K (Value.tuple #[(Value.agg #[(VI 0),(VI 0)]),(VB false)]) r)
(C1 VB P 121 #[(Value.agg #[b.v]),(VI c)] j L fun s k=>
Br (!s)
(A0 k [a] (Z0 [(VI 0),(VI 0)] L) fun t L=>
K (Value.tuple #[(Value.agg #[(VI 0),(VI 0)]),(VB false)]) t)
(C1 Sl.v P 186 #[(Value.agg #[b.v]),(VI f),(VI g)] k L fun l o=>
dQ l c/\
∃d:Int,∃e:Int,lk o (Sl.at l c 2) [(VI d),(VI e)]/\
A0 o [a] (Z0 [(VI d),(VI e)] L) fun u L=>
K (Value.tuple #[(Value.agg #[(VI d),(VI e)]),(VB true)]) u)))
theorem v139(b:Sl)(c:Int)(d:Int)(e:Int)(h:Heap)(K:KQ)(H:afr Tryz.prog b c d e h K):aE Tryz.prog 139 #[(Value.agg #[b.v]),(VI c),(VI d),(VI e)] h K:=cw mixed Tryz.func139 [] [.v (.a [.sl b]),.v (.l (.i .i64 c)),.v (.l (.i .i64 d)),.v (.l (.i .i64 e))] [] [] .nil 29 (by kernel_rfl) H
def afs(P:Program)(a:Sl)(b:Int)(h:Heap)(K:KQ):Prop:=pk (
A1 h [] (fun c=>(c,[a.v])::[]) fun c e L=>
C1 VB P 187 #[(Value.agg #[a.v]),(VI b)] e L fun f d=>
Br (!f)
(K (Value.tuple #[aC.v,(VB false)]) d)
(C1 Sl.v P 188 #[(Value.agg #[a.v]),(VI b)] d L fun g i=>
K (Value.tuple #[g.v,(VB true)]) i))
theorem aft(b:Sl)(c:Int)(h:Heap)(K:KQ)(H:afs Tryz.prog b c h K):aE Tryz.prog 140 #[(Value.agg #[b.v]),(VI c)] h K:=cw mixed Tryz.func140 [] [.v (.a [.sl b]),.v (.l (.i .i64 c))] [] [] .nil 13 (by kernel_rfl) H
def afu(P:Program)(b:Int)(c:Int)(d:Int)(e:Int)(h:Heap)(K:KQ):Prop:=pk (
C1 VB P 189 #[(VI b),(VI c),(VI d),(VI e)] h [] fun k f=>
Br (!k)
(K (Value.tuple #[(VI 0),(VB false)]) f)
(C1 (fun a=>(Value.pointer a)) P 191 #[(VI b),(VI c),(VI d),(VI e)] f [] fun a g=>
∃i:Nat,∃l:Int,∃o:Int,∃p:Int,∃q:Sl,∃j:Sl,∃r:Sl,∃s:Sl,a=some ⟨i,0,none⟩/\Va g ((i,[(VI l),(VI o),(VI p),q.v,j.v,r.v,s.v])::[]) fun L=>
C1 VI P 190 #[j.v] g L fun t u=>
K (Value.tuple #[(VI t),(VB true)]) u))
theorem v141(a:Int)(b:Int)(c:Int)(d:Int)(h:Heap)(K:KQ)(H:afu Tryz.prog a b c d h K):aE Tryz.prog 141 #[(VI a),(VI b),(VI c),(VI d)] h K:=cw mixed Tryz.func141 [] [.v (.l (.i .i64 a)),.v (.l (.i .i64 b)),.v (.l (.i .i64 c)),.v (.l (.i .i64 d))] [] [] .nil 25 (by kernel_rfl) H
def afv(P:Program)(a:Int)(e:Int)(h:Heap)(K:KQ):Prop:=pk (
C1 VB P 192 #[(VI a),(VI e)] h [] fun i b=>
Br (!i)
(K (Value.tuple #[aC.v,(VB false)]) b)
(Br (decide (a=0))
(K (Value.tuple #[aC.v,(VB false)]) b)
(C1 (fun c=>(Value.pointer c)) P 193 #[(VI a),(VI e)] b [] fun c d=>
∃f:Nat,∃j:Sl,∃k:Sl,∃g:Sl,∃l:Int,c=some ⟨f,0,none⟩/\Va d ((f,[j.v,k.v,g.v,(VI l)])::[]) fun L=>
G1 Sl.v d g (aL (a-1)) 1 fun o=>
K (Value.tuple #[o.v,(VB true)]) d)))
theorem afw(a:Int)(b:Int)(h:Heap)(K:KQ)(H:afv Tryz.prog a b h K):aE Tryz.prog 142 #[(VI a),(VI b)] h K:=cw mixed Tryz.func142 [] [.v (.l (.i .i64 a)),.v (.l (.i .i64 b))] [] [] .nil 24 (by kernel_rfl) H
def afx(P:Program)(b:Int)(c:Nat)(a:Sl)(h:Heap)(K:KQ):Prop:=pk (
Lt [(c,[a.v])] fun L=>
C1 VB P 52 #[(VI b),(VI 0),(VI (aL ((a.n:Int)-1)))] h L fun d e=>
K (VB (!d)) e)
theorem afy(b:Int)(a:Nat)(c:Sl)(h:Heap)(K:KQ)(hL:Vars h [(a,[c.v])])(H:afx Tryz.prog b a c h K):aE Tryz.prog 147 #[(VI b),(VP a 0)] h K:=cw mixed Tryz.func147 [] [.v (.l (.i .i64 b)),.v (.l (.p 0 0))] [(0,[.sl c])] [a] hL 11 (by kernel_rfl) H
def afz(P:Program)(a:Sl)(h:Heap)(K:KQ):Prop:=pk (
Q1 VB P (lF .eql 27 (.tmp 3) (.const (Value.slice none 0 0)) a.v (Value.slice none 0 0)) fun b=>
Br b
(K aC.v h)
(E1 Sl.v P (Instr.buildSlice 27 0 #[]) h [] fun c d=>
E1 Sl.v P (bK 27 27 27 c.v a.v) d [] fun e f=>
K e.v f))
theorem v152(a:Sl)(h:Heap)(K:KQ)(H:afz Tryz.prog a h K):aE Tryz.prog 152 #[a.v] h K:=cw mixed Tryz.func152 [] [.v (.l (.sl a))] [] [] .nil 8 (by kernel_rfl) H
def afA(P:Program)(p:ByteArray)(h:Heap)(K:KQ):Prop:=pk (
A2 h [] (fun a d=>Z0 [aC.v] ((d,[aC.v])::((a,[aC.v])::[]))) fun a d q L=>
C1 Sl.v P 81 #[(VS p),(VS ({data:= #[59]}))] q L fun k r=>
O2 0 aC r fun s t(e:Int)(f:Sl) b=>
Vi b (Z0 [f.v] L) fun L=>
Br (decide (e<(k.n:Int)))
(G1 VS b k e 1 fun u=>
C2 (fun g i=>(Value.tuple #[(Sl.v g),(VB i)])) P 199 #[(VS u)] b L fun g i l=>
Br (!i)
(A0 l [a] (Z1 [aC.v] L) fun x L=>
K (Value.tuple #[(Value.agg #[aC.v]),(VB false)]) x)
(E1 Sl.v P (Instr.buildSlice 24 1 #[(0,g.v)]) l L fun y z=>
E1 Sl.v P (bK 24 24 24 f.v y.v) z L fun o a0=>
A0 a0 [d] (Z0 [o.v] L) fun a1 L=>
Nj t fun m=>s m (aL (e+1)) o a1))
(C2 (fun c j=>(Value.tuple #[(Value.agg #[(Sl.v c)]),(VB j)])) P 200 #[(Value.agg #[f.v])] b L fun c j a2=>
A0 a2 [a] (Z1 [c.v] L) fun a3 L=>
K (Value.tuple #[(Value.agg #[c.v]),(VB j)]) a3))
theorem afB(a:ByteArray)(h:Heap)(K:KQ)(H:afA Tryz.prog a h K):aE Tryz.prog 153 #[(VS a)] h K:=cw mixed Tryz.func153 [(58,⟨[⟨13,.l (.i .i64)⟩],[1],[]⟩)] [.v (.l (.s a))] [] [] .nil 36 (by kernel_rfl) H
def afC(P:Program)(j:Nat)(a:Sl)(k:Sl)(l:Int)(b:Bool)(c:Sl)(d:Int)(e:Bool)(h:Heap)(K:KQ):Prop:=pk (
Lt [(j,[a.v,k.v,(VI l),(VB b)])] fun L=>
A2 h [] (fun o f=>(f,[(VS (⟨#[]⟩:ByteArray)),(VB false)])::((o,[c.v,(VI d)])::L)) fun o f p L=>
∃g:Sl->Sl->Int->Bool->Heap->Prop,(Br e
(A0 p [j] (Z2 [a.v,c.v,(VI d),(VB b)] L) fun x L=>
g a c d b x)
(g a k l b p))/\
∀(q:Sl)(r:Sl)(s:Int)(t:Bool)(i:Heap),g q r s t i->Vi i (Z2 [q.v,r.v,(VI s),(VB t)] L) fun L=>
C1 VS P 55 #[(Value.agg #[c.v,(VI d)])] i L fun u y=>
A0 y [f] (Z0 [(VS u),(VB e)] L) fun z L=>
K (Value.agg #[(VS u),(VB e)]) z)
theorem afD(c:Nat)(d:Sl)(e:Sl)(f:Int)(g:Bool)(j:Sl)(k:Int)(o:Bool)(h:Heap)(K:KQ)(hL:Vars h [(c,[d.v,e.v,(VI f),(VB g)])])(H:afC Tryz.prog c d e f g j k o h K):aE Tryz.prog 155 #[(VP c 0),(Value.agg #[j.v,(VI k)]),(VB o)] h K:=cw mixed Tryz.func155 [(3,⟨[],[0],[]⟩)] [.v (.l (.p 0 0)),.v (.a [.sl j,.i .i64 k]),.v (.l (.b o none))] [(0,[.sl d,.sl e,.i .i64 f,.b g none])] [c] hL 17 (by kernel_rfl) H
def afE(P:Program)(e:Sl)(f:Sl)(g:Int)(h:Heap)(K:KQ):Prop:=pk (
A3 h [] (fun i j c=>(c,[aC.v,(VI 0)])::((j,[f.v,(VI g)])::((i,[e.v])::[]))) fun i j c k L=>
C3 (fun a b d=>(Value.tuple #[(Value.agg #[(Sl.v a),(VI b)]),(VB d)])) P 161 #[(Value.agg #[e.v]),(Value.agg #[f.v,(VI g)]),(VI 1)] k L fun a b d l=>
A0 l [c] (Z0 [a.v,(VI b)] L) fun o L=>
K (Value.tuple #[(Value.agg #[a.v,(VI b)]),(VB d)]) o)
theorem afF(b:Sl)(c:Sl)(d:Int)(h:Heap)(K:KQ)(H:afE Tryz.prog b c d h K):aE Tryz.prog 156 #[(Value.agg #[b.v]),(Value.agg #[c.v,(VI d)])] h K:=cw mixed Tryz.func156 [] [.v (.a [.sl b]),.v (.a [.sl c,.i .i64 d])] [] [] .nil 11 (by kernel_rfl) H
def afG(P:Program)(a:Sl)(b:Sl)(c:Int)(h:Heap)(K:KQ):Prop:=pk (
A2 h [] (fun g i=>(i,[b.v,(VI c)])::((g,[a.v])::[])) fun g i k L=>
C1 VB P 77 #[(Value.agg #[a.v]),(Value.agg #[b.v,(VI c)])] k L fun l j=>
Br (!l)
(K (Value.tuple #[(VI 0),(VI 0),(VB false)]) j)
(C3 (fun d e f=>(Value.tuple #[(VI d),(VI e),(VB f)])) P 203 #[(Value.agg #[a.v]),(Value.agg #[b.v,(VI c)])] j L fun d e f o=>
K (Value.tuple #[(VI d),(VI e),(VB f)]) o))
theorem v157(b:Sl)(c:Sl)(d:Int)(h:Heap)(K:KQ)(H:afG Tryz.prog b c d h K):aE Tryz.prog 157 #[(Value.agg #[b.v]),(Value.agg #[c.v,(VI d)])] h K:=cw mixed Tryz.func157 [] [.v (.a [.sl b]),.v (.a [.sl c,.i .i64 d])] [] [] .nil 17 (by kernel_rfl) H
def afH(P:Program)(d:Sl)(b:Bool)(h:Heap)(K:KQ):Prop:=pk (
A1 h [] (fun a=>(a,[(VS (⟨#[]⟩:ByteArray)),(VB false)])::[]) fun a e L=>
C1 VS P 89 #[d.v] e L fun c f=>
A0 f [a] (Z0 [(VS c),(VB b)] L) fun g L=>
K (Value.agg #[(VS c),(VB b)]) g)
theorem afI(a:Sl)(c:Bool)(h:Heap)(K:KQ)(H:afH Tryz.prog a c h K):aE Tryz.prog 158 #[a.v,(VB c)] h K:=cw mixed Tryz.func158 [] [.v (.l (.sl a)),.v (.l (.b c none))] [] [] .nil 9 (by kernel_rfl) H
def afJ(P:Program)(a:Sl)(b:Sl)(c:Int)(h:Heap)(K:KQ):Prop:=pk (
A2 h [] (fun f g=>(g,[b.v,(VI c)])::((f,[a.v])::[])) fun f g j L=>
C1 VB P 77 #[(Value.agg #[a.v]),(Value.agg #[b.v,(VI c)])] j L fun k i=>
Br (!k)
(K (Value.tuple #[aC.v,(VB false)]) i)
(C2 (fun d e=>(Value.tuple #[(Sl.v d),(VB e)])) P 204 #[(Value.agg #[a.v]),b.v,(VI c)] i L fun d e l=>
K (Value.tuple #[d.v,(VB e)]) l))
theorem v159(b:Sl)(c:Sl)(d:Int)(h:Heap)(K:KQ)(H:afJ Tryz.prog b c d h K):aE Tryz.prog 159 #[(Value.agg #[b.v]),(Value.agg #[c.v,(VI d)])] h K:=cw mixed Tryz.func159 [] [.v (.a [.sl b]),.v (.a [.sl c,.i .i64 d])] [] [] .nil 18 (by kernel_rfl) H
def afK(P:Program)(g:Nat)(i:Sl)(j:Sl)(k:Int)(p:Bool)(b:Int)(h:Heap)(K:KQ):Prop:=pk (
Lt [(g,[i.v,j.v,(VI k),(VB p)])] fun L=>
A1 h [] (fun c=>(c,[(VS (⟨#[]⟩:ByteArray)),(VB false)])::L) fun c q L=>
C2 (fun a d=>(Value.agg #[(Sl.v a),(VI d)])) P 110 #[(Value.agg #[j.v,(VI k)])] q L fun a d r=>
A1 r [] (fun l=>Z0 [a.v,(VI b)] (Z0 [a.v,(VI d)] ((l,[aC.v,(VI 0)])::L))) fun l s L=>
E1 Sl.v P (Instr.buildSlice 27 1 #[(0,(VI b))]) s L fun t u=>
C1 VB P 107 #[(Value.agg #[i.v]),t.v] u L fun x y=>
aE P 155 #[(VP g 0),(Value.agg #[a.v,(VI b)]),(VB x)] y fun z o=>∃a0:Sl,∃a1:Sl,∃a2:Int,∃a3:Bool,∃e:ByteArray,∃f:Bool,z=(Value.agg #[(VS e),(VB f)])/\Va o (Z2 [a0.v,a1.v,(VI a2),(VB a3)] L) fun L=>
A0 o [c] (Z1 [(VS e),(VB f)] L) fun a4 L=>
K (Value.agg #[(VS e),(VB f)]) a4)
theorem v160(a:Nat)(c:Sl)(d:Sl)(e:Int)(f:Bool)(g:Int)(h:Heap)(K:KQ)(hL:Vars h [(a,[c.v,d.v,(VI e),(VB f)])])(H:afK Tryz.prog a c d e f g h K):aE Tryz.prog 160 #[(VP a 0),(VI g)] h K:=cw mixed Tryz.func160 [] [.v (.l (.p 0 0)),.v (.l (.i .i64 g))] [(0,[.sl c,.sl d,.i .i64 e,.b f none])] [a] hL 25 (by kernel_rfl) H
def afL(P:Program)(b:Sl)(c:Sl)(d:Int)(l:Int)(h:Heap)(K:KQ):Prop:=pk (
A3 h [] (fun o p a=>(a,[aC.v,(VI 0)])::((p,[c.v,(VI d)])::((o,[b.v])::[]))) fun o p a s L=>
C1 VB P 205 #[(Value.agg #[b.v]),(Value.agg #[c.v,(VI d)]),(VI l),(VI 2000)] s L fun t q=>
Br (!t)
(A0 q [a] (Z0 [aC.v,(VI 0)] L) fun u L=>
K (Value.tuple #[(Value.agg #[aC.v,(VI 0)]),(VB false)]) u)
(C2 (fun e f=>(Value.agg #[(Sl.v e),(VI f)])) P 110 #[(Value.agg #[c.v,(VI d)])] q L fun e f x=>
A1 x [] (fun g=>Z0 [e.v,(VI f)] ((g,[aC.v,(VI 0)])::L)) fun g y L=>
aE P 206 #[(Value.agg #[b.v]),(VP g 0),(VI l),(Value.func (.func 207) #[] #[])] y fun z i=>∃j:Sl,∃k:Int,∃r:Bool,z=(VB r)/\Va i (Z0 [j.v,(VI k)] L) fun L=>
Br (!r)
(A0 i [a] (Z1 [aC.v,(VI 0)] L) fun a0 L=>
K (Value.tuple #[(Value.agg #[aC.v,(VI 0)]),(VB false)]) a0)
(A0 i [a] (Z1 [j.v,(VI k)] L) fun a1 L=>
K (Value.tuple #[(Value.agg #[j.v,(VI k)]),(VB true)]) a1)))
theorem afM(b:Sl)(c:Sl)(d:Int)(e:Int)(h:Heap)(K:KQ)(H:afL Tryz.prog b c d e h K):aE Tryz.prog 161 #[(Value.agg #[b.v]),(Value.agg #[c.v,(VI d)]),(VI e)] h K:=cw mixed Tryz.func161 [] [.v (.a [.sl b]),.v (.a [.sl c,.i .i64 d]),.v (.l (.i .i64 e))] [] [] .nil 23 (by kernel_rfl) H
def afN(P:Program)(b2:Sl)(c:Sl)(a:Int)(bq:Int)(h:Heap)(K:KQ):Prop:=pk (
A2 h [] (fun br bs=>(bs,[c.v,(VI a)])::((br,[b2.v])::[])) fun br bs d0 L=>
C1 VB P 205 #[(Value.agg #[b2.v]),(Value.agg #[c.v,(VI a)]),(VI bq),(VI 200)] d0 L fun d1 a7=>
Br (!d1)
(K (Value.tuple #[aC.v,(VB false)]) a7)
(∃b:Nat->Sl->Int->Nat->Sl->Heap->Prop,((C2 (fun d e=>(Value.agg #[(Sl.v d),(VI e)])) P 110 #[(Value.agg #[c.v,(VI a)])] a7 L fun d e b3=>
(E1 Sl.v P (Instr.buildSlice 27 1 #[(0,(VI a))]) b3 L fun a8 bt=>
(A2 bt [] (fun b4 b5=>Z0 [a8.v] (Z1 [d.v,(VI e)] ((b5,[aC.v])::((b4,[aC.v,(VI 0)])::L)))) fun b4 b5 d2 L=>
b b4 d e b5 a8 d2)/\
(A2 bt [] (fun b6 b7=>Z1 [a8.v] (Z0 [d.v,(VI e)] ((b7,[aC.v,(VI 0)])::((b6,[aC.v])::L)))) fun b6 b7 d3 L=>
b b7 d e b6 a8 d3))/\
(A1 b3 [] (fun j=>(j,[aC.v,(VI 0)])::L) fun j bu L=>
(E1 Sl.v P (Instr.buildSlice 27 1 #[(0,(VI a))]) bu L fun bv d4=>
A1 d4 [j] (fun b8=>Z0 [bv.v] (Z1 [d.v,(VI e)] ((b8,[aC.v])::L))) fun b8 d5 L=>
b j d e b8 bv d5)/\
(A1 bu [] (fun t=>(t,[aC.v])::L) fun t bw L=>
(E1 Sl.v P (Instr.buildSlice 27 1 #[(0,(VI a))]) bw L fun bx d6=>
A0 d6 [t,j] (Z0 [bx.v] (Z1 [d.v,(VI e)] L)) fun d7 L=>
b j d e t bx d7)/\
(A0 bw [j] (Z1 [d.v,(VI e)] L) fun d8 L=>
E1 Sl.v P (Instr.buildSlice 27 1 #[(0,(VI a))]) d8 L fun bz d9=>
A0 d9 [t] (Z0 [bz.v] L) fun da L=>
b j d e t bz da)))/\
(A1 b3 [] (fun k=>(k,[aC.v])::L) fun k c0 L=>
(E1 Sl.v P (Instr.buildSlice 27 1 #[(0,(VI a))]) c0 L fun c1 db=>
A1 db [k] (fun b9=>Z1 [c1.v] (Z0 [d.v,(VI e)] ((b9,[aC.v,(VI 0)])::L))) fun b9 dc L=>
b b9 d e k c1 dc)/\
(A1 c0 [] (fun u=>(u,[aC.v,(VI 0)])::L) fun u c2 L=>
(E1 Sl.v P (Instr.buildSlice 27 1 #[(0,(VI a))]) c2 L fun c3 dd=>
A0 dd [k,u] (Z1 [c3.v] (Z0 [d.v,(VI e)] L)) fun de L=>
b u d e k c3 de)/\
(A0 c2 [u] (Z0 [d.v,(VI e)] L) fun df L=>
E1 Sl.v P (Instr.buildSlice 27 1 #[(0,(VI a))]) df L fun c4 dg=>
A0 dg [k] (Z1 [c4.v] L) fun dh L=>
b u d e k c4 dh))))/\
(E1 Sl.v P (Instr.buildSlice 27 1 #[(0,(VI a))]) a7 L fun i ba=>
(C2 (fun x y=>(Value.agg #[(Sl.v x),(VI y)])) P 110 #[(Value.agg #[c.v,(VI a)])] ba L fun x y c5=>
(A2 c5 [] (fun bb bc=>Z0 [i.v] (Z1 [x.v,(VI y)] ((bc,[aC.v])::((bb,[aC.v,(VI 0)])::L)))) fun bb bc di L=>
b bb x y bc i di)/\
(A2 c5 [] (fun bd be=>Z1 [i.v] (Z0 [x.v,(VI y)] ((be,[aC.v,(VI 0)])::((bd,[aC.v])::L)))) fun bd be dj L=>
b be x y bd i dj))/\
(A1 ba [] (fun z=>(z,[aC.v,(VI 0)])::L) fun z c6 L=>
(C2 (fun a9 aa=>(Value.agg #[(Sl.v a9),(VI aa)])) P 110 #[(Value.agg #[c.v,(VI a)])] c6 L fun a9 aa dk=>
A1 dk [z] (fun bf=>Z0 [i.v] (Z1 [a9.v,(VI aa)] ((bf,[aC.v])::L))) fun bf dl L=>
b z a9 aa bf i dl)/\
(A1 c6 [] (fun ab=>(ab,[aC.v])::L) fun ab dm L=>
C2 (fun ac ad=>(Value.agg #[(Sl.v ac),(VI ad)])) P 110 #[(Value.agg #[c.v,(VI a)])] dm L fun ac ad dn=>
A0 dn [ab,z] (Z0 [i.v] (Z1 [ac.v,(VI ad)] L)) fun dp L=>
b z ac ad ab i dp))/\
(A1 ba [] (fun a0=>(a0,[aC.v])::L) fun a0 c7 L=>
(C2 (fun ae af=>(Value.agg #[(Sl.v ae),(VI af)])) P 110 #[(Value.agg #[c.v,(VI a)])] c7 L fun ae af dq=>
A1 dq [a0] (fun bg=>Z1 [i.v] (Z0 [ae.v,(VI af)] ((bg,[aC.v,(VI 0)])::L))) fun bg dr L=>
b bg ae af a0 i dr)/\
(A1 c7 [] (fun ag=>(ag,[aC.v,(VI 0)])::L) fun ag ds L=>
C2 (fun ah ai=>(Value.agg #[(Sl.v ah),(VI ai)])) P 110 #[(Value.agg #[c.v,(VI a)])] ds L fun ah ai dt=>
A0 dt [a0,ag] (Z1 [i.v] (Z0 [ah.v,(VI ai)] L)) fun du L=>
b ag ah ai a0 i du)))/\
(A1 a7 [] (fun f=>(f,[aC.v,(VI 0)])::L) fun f bh L=>
(C2 (fun l o=>(Value.agg #[(Sl.v l),(VI o)])) P 110 #[(Value.agg #[c.v,(VI a)])] bh L fun l o c8=>
(E1 Sl.v P (Instr.buildSlice 27 1 #[(0,(VI a))]) c8 L fun c9 dv=>
A1 dv [f] (fun bi=>Z0 [c9.v] (Z1 [l.v,(VI o)] ((bi,[aC.v])::L))) fun bi dw L=>
b f l o bi c9 dw)/\
(A1 c8 [] (fun a1=>(a1,[aC.v])::L) fun a1 ca L=>
(E1 Sl.v P (Instr.buildSlice 27 1 #[(0,(VI a))]) ca L fun cb dx=>
A0 dx [a1,f] (Z0 [cb.v] (Z1 [l.v,(VI o)] L)) fun dy L=>
b f l o a1 cb dy)/\
(A0 ca [f] (Z1 [l.v,(VI o)] L) fun dz L=>
E1 Sl.v P (Instr.buildSlice 27 1 #[(0,(VI a))]) dz L fun cc e0=>
A0 e0 [a1] (Z0 [cc.v] L) fun e1 L=>
b f l o a1 cc e1)))/\
(E1 Sl.v P (Instr.buildSlice 27 1 #[(0,(VI a))]) bh L fun aj cd=>
(C2 (fun ak al=>(Value.agg #[(Sl.v ak),(VI al)])) P 110 #[(Value.agg #[c.v,(VI a)])] cd L fun ak al e2=>
A1 e2 [f] (fun bj=>Z0 [aj.v] (Z1 [ak.v,(VI al)] ((bj,[aC.v])::L))) fun bj e3 L=>
b f ak al bj aj e3)/\
(A1 cd [] (fun am=>(am,[aC.v])::L) fun am e4 L=>
C2 (fun an ao=>(Value.agg #[(Sl.v an),(VI ao)])) P 110 #[(Value.agg #[c.v,(VI a)])] e4 L fun an ao e5=>
A0 e5 [am,f] (Z0 [aj.v] (Z1 [an.v,(VI ao)] L)) fun e6 L=>
b f an ao am aj e6))/\
(A1 bh [] (fun p=>(p,[aC.v])::L) fun p ce L=>
(C2 (fun a2 a3=>(Value.agg #[(Sl.v a2),(VI a3)])) P 110 #[(Value.agg #[c.v,(VI a)])] ce L fun a2 a3 cf=>
(E1 Sl.v P (Instr.buildSlice 27 1 #[(0,(VI a))]) cf L fun cg e7=>
A0 e7 [p,f] (Z0 [cg.v] (Z1 [a2.v,(VI a3)] L)) fun e8 L=>
b f a2 a3 p cg e8)/\
(A0 cf [f] (Z1 [a2.v,(VI a3)] L) fun e9 L=>
E1 Sl.v P (Instr.buildSlice 27 1 #[(0,(VI a))]) e9 L fun ch ea=>
A0 ea [p] (Z0 [ch.v] L) fun eb L=>
b f a2 a3 p ch eb))/\
(E1 Sl.v P (Instr.buildSlice 27 1 #[(0,(VI a))]) ce L fun ci ec=>
C2 (fun ap aq=>(Value.agg #[(Sl.v ap),(VI aq)])) P 110 #[(Value.agg #[c.v,(VI a)])] ec L fun ap aq ed=>
A0 ed [p,f] (Z0 [ci.v] (Z1 [ap.v,(VI aq)] L)) fun ee L=>
b f ap aq p ci ee)))/\
(A1 a7 [] (fun g=>(g,[aC.v])::L) fun g bk L=>
(C2 (fun q r=>(Value.agg #[(Sl.v q),(VI r)])) P 110 #[(Value.agg #[c.v,(VI a)])] bk L fun q r cj=>
(E1 Sl.v P (Instr.buildSlice 27 1 #[(0,(VI a))]) cj L fun ck ef=>
A1 ef [g] (fun bl=>Z1 [ck.v] (Z0 [q.v,(VI r)] ((bl,[aC.v,(VI 0)])::L))) fun bl eg L=>
b bl q r g ck eg)/\
(A1 cj [] (fun a4=>(a4,[aC.v,(VI 0)])::L) fun a4 cl L=>
(E1 Sl.v P (Instr.buildSlice 27 1 #[(0,(VI a))]) cl L fun cm eh=>
A0 eh [g,a4] (Z1 [cm.v] (Z0 [q.v,(VI r)] L)) fun ei L=>
b a4 q r g cm ei)/\
(A0 cl [a4] (Z0 [q.v,(VI r)] L) fun ej L=>
E1 Sl.v P (Instr.buildSlice 27 1 #[(0,(VI a))]) ej L fun cn ek=>
A0 ek [g] (Z1 [cn.v] L) fun el L=>
b a4 q r g cn el)))/\
(E1 Sl.v P (Instr.buildSlice 27 1 #[(0,(VI a))]) bk L fun ar co=>
(C2 (fun au av=>(Value.agg #[(Sl.v au),(VI av)])) P 110 #[(Value.agg #[c.v,(VI a)])] co L fun au av em=>
A1 em [g] (fun bm=>Z1 [ar.v] (Z0 [au.v,(VI av)] ((bm,[aC.v,(VI 0)])::L))) fun bm en L=>
b bm au av g ar en)/\
(A1 co [] (fun aw=>(aw,[aC.v,(VI 0)])::L) fun aw eo L=>
C2 (fun ax ay=>(Value.agg #[(Sl.v ax),(VI ay)])) P 110 #[(Value.agg #[c.v,(VI a)])] eo L fun ax ay ep=>
A0 ep [g,aw] (Z1 [ar.v] (Z0 [ax.v,(VI ay)] L)) fun eq L=>
b aw ax ay g ar eq))/\
(A1 bk [] (fun s=>(s,[aC.v,(VI 0)])::L) fun s cp L=>
(C2 (fun a5 a6=>(Value.agg #[(Sl.v a5),(VI a6)])) P 110 #[(Value.agg #[c.v,(VI a)])] cp L fun a5 a6 cq=>
(E1 Sl.v P (Instr.buildSlice 27 1 #[(0,(VI a))]) cq L fun cr er=>
A0 er [g,s] (Z1 [cr.v] (Z0 [a5.v,(VI a6)] L)) fun es L=>
b s a5 a6 g cr es)/\
(A0 cq [s] (Z0 [a5.v,(VI a6)] L) fun et L=>
E1 Sl.v P (Instr.buildSlice 27 1 #[(0,(VI a))]) et L fun cs eu=>
A0 eu [g] (Z1 [cs.v] L) fun ev L=>
b s a5 a6 g cs ev))/\
(E1 Sl.v P (Instr.buildSlice 27 1 #[(0,(VI a))]) cp L fun ct ew=>
C2 (fun az b0=>(Value.agg #[(Sl.v az),(VI b0)])) P 110 #[(Value.agg #[c.v,(VI a)])] ew L fun az b0 ex=>
A0 ex [g,s] (Z1 [ct.v] (Z0 [az.v,(VI b0)] L)) fun ey L=>
b s az b0 g ct ey))))/\
∀(b1:Nat)(cu:Sl)(cv:Int)(bn:Nat)(cx:Sl)(bo:Heap),b b1 cu cv bn cx bo->Vi bo ((bn,[cx.v])::((b1,[cu.v,(VI cv)])::L)) fun L=>
aE P 206 #[(Value.agg #[b2.v]),(VP b1 0),(VI bq),(Value.func (Fn.func 208) #[] #[(VP bn 0),(VP b1 0)])] bo fun ez bp=>∃cy:Sl,∃f0:Sl,∃f1:Int,∃cz:Bool,ez=(VB cz)/\Va bp (Z1 [f0.v,(VI f1)] (Z0 [cy.v] L)) fun L=>
Br (!cz)
(K (Value.tuple #[aC.v,(VB false)]) bp)
(K (Value.tuple #[cy.v,(VB true)]) bp)))
theorem v162(b:Sl)(c:Sl)(d:Int)(e:Int)(h:Heap)(K:KQ)(H:afN Tryz.prog b c d e h K):aE Tryz.prog 162 #[(Value.agg #[b.v]),(Value.agg #[c.v,(VI d)]),(VI e)] h K:=cw mixed Tryz.func162 [(7,⟨[],[],[(8,[.sl,.i .i64]),(9,[.sl])]⟩)] [.v (.a [.sl b]),.v (.a [.sl c,.i .i64 d]),.v (.l (.i .i64 e))] [] [] .nil 26 (by kernel_rfl) H
def afO(P:Program)(a:Sl)(c:Sl)(d:Int)(bq:Int)(h:Heap)(K:KQ):Prop:=pk (
A2 h [] (fun br bs=>(bs,[c.v,(VI d)])::((br,[a.v])::[])) fun br bs d0 L=>
C1 VB P 205 #[(Value.agg #[a.v]),(Value.agg #[c.v,(VI d)]),(VI bq),(VI 2000)] d0 L fun d1 a8=>
Br (!d1)
(K (Value.tuple #[aC.v,(VB false)]) a8)
(∃b:Nat->Sl->Int->Nat->Sl->Heap->Prop,((C2 (fun e f=>(Value.agg #[(Sl.v e),(VI f)])) P 110 #[(Value.agg #[c.v,(VI d)])] a8 L fun e f b3=>
(E1 Sl.v P (Instr.makeSlice 27 (VI (a.n:Int)) (VI (a.n:Int))) b3 L fun a9 bt=>
(A2 bt [] (fun b4 b5=>Z0 [a9.v] (Z1 [e.v,(VI f)] ((b5,[aC.v])::((b4,[aC.v,(VI 0)])::L)))) fun b4 b5 d2 L=>
b b4 e f b5 a9 d2)/\
(A2 bt [] (fun b6 b7=>Z1 [a9.v] (Z0 [e.v,(VI f)] ((b7,[aC.v,(VI 0)])::((b6,[aC.v])::L)))) fun b6 b7 d3 L=>
b b7 e f b6 a9 d3))/\
(A1 b3 [] (fun k=>(k,[aC.v,(VI 0)])::L) fun k bu L=>
(E1 Sl.v P (Instr.makeSlice 27 (VI (a.n:Int)) (VI (a.n:Int))) bu L fun bv d4=>
A1 d4 [k] (fun b8=>Z0 [bv.v] (Z1 [e.v,(VI f)] ((b8,[aC.v])::L))) fun b8 d5 L=>
b k e f b8 bv d5)/\
(A1 bu [] (fun u=>(u,[aC.v])::L) fun u bw L=>
(E1 Sl.v P (Instr.makeSlice 27 (VI (a.n:Int)) (VI (a.n:Int))) bw L fun bx d6=>
A0 d6 [u,k] (Z0 [bx.v] (Z1 [e.v,(VI f)] L)) fun d7 L=>
b k e f u bx d7)/\
(A0 bw [k] (Z1 [e.v,(VI f)] L) fun d8 L=>
E1 Sl.v P (Instr.makeSlice 27 (VI (a.n:Int)) (VI (a.n:Int))) d8 L fun bz d9=>
A0 d9 [u] (Z0 [bz.v] L) fun da L=>
b k e f u bz da)))/\
(A1 b3 [] (fun l=>(l,[aC.v])::L) fun l c0 L=>
(E1 Sl.v P (Instr.makeSlice 27 (VI (a.n:Int)) (VI (a.n:Int))) c0 L fun c1 db=>
A1 db [l] (fun b9=>Z1 [c1.v] (Z0 [e.v,(VI f)] ((b9,[aC.v,(VI 0)])::L))) fun b9 dc L=>
b b9 e f l c1 dc)/\
(A1 c0 [] (fun x=>(x,[aC.v,(VI 0)])::L) fun x c2 L=>
(E1 Sl.v P (Instr.makeSlice 27 (VI (a.n:Int)) (VI (a.n:Int))) c2 L fun c3 dd=>
A0 dd [l,x] (Z1 [c3.v] (Z0 [e.v,(VI f)] L)) fun de L=>
b x e f l c3 de)/\
(A0 c2 [x] (Z0 [e.v,(VI f)] L) fun df L=>
E1 Sl.v P (Instr.makeSlice 27 (VI (a.n:Int)) (VI (a.n:Int))) df L fun c4 dg=>
A0 dg [l] (Z1 [c4.v] L) fun dh L=>
b x e f l c4 dh))))/\
(E1 Sl.v P (Instr.makeSlice 27 (VI (a.n:Int)) (VI (a.n:Int))) a8 L fun j ba=>
(C2 (fun y z=>(Value.agg #[(Sl.v y),(VI z)])) P 110 #[(Value.agg #[c.v,(VI d)])] ba L fun y z c5=>
(A2 c5 [] (fun bb bc=>Z0 [j.v] (Z1 [y.v,(VI z)] ((bc,[aC.v])::((bb,[aC.v,(VI 0)])::L)))) fun bb bc di L=>
b bb y z bc j di)/\
(A2 c5 [] (fun bd be=>Z1 [j.v] (Z0 [y.v,(VI z)] ((be,[aC.v,(VI 0)])::((bd,[aC.v])::L)))) fun bd be dj L=>
b be y z bd j dj))/\
(A1 ba [] (fun a0=>(a0,[aC.v,(VI 0)])::L) fun a0 c6 L=>
(C2 (fun aa ab=>(Value.agg #[(Sl.v aa),(VI ab)])) P 110 #[(Value.agg #[c.v,(VI d)])] c6 L fun aa ab dk=>
A1 dk [a0] (fun bf=>Z0 [j.v] (Z1 [aa.v,(VI ab)] ((bf,[aC.v])::L))) fun bf dl L=>
b a0 aa ab bf j dl)/\
(A1 c6 [] (fun ac=>(ac,[aC.v])::L) fun ac dm L=>
C2 (fun ad ae=>(Value.agg #[(Sl.v ad),(VI ae)])) P 110 #[(Value.agg #[c.v,(VI d)])] dm L fun ad ae dn=>
A0 dn [ac,a0] (Z0 [j.v] (Z1 [ad.v,(VI ae)] L)) fun dp L=>
b a0 ad ae ac j dp))/\
(A1 ba [] (fun a1=>(a1,[aC.v])::L) fun a1 c7 L=>
(C2 (fun af ag=>(Value.agg #[(Sl.v af),(VI ag)])) P 110 #[(Value.agg #[c.v,(VI d)])] c7 L fun af ag dq=>
A1 dq [a1] (fun bg=>Z1 [j.v] (Z0 [af.v,(VI ag)] ((bg,[aC.v,(VI 0)])::L))) fun bg dr L=>
b bg af ag a1 j dr)/\
(A1 c7 [] (fun ah=>(ah,[aC.v,(VI 0)])::L) fun ah ds L=>
C2 (fun ai aj=>(Value.agg #[(Sl.v ai),(VI aj)])) P 110 #[(Value.agg #[c.v,(VI d)])] ds L fun ai aj dt=>
A0 dt [a1,ah] (Z1 [j.v] (Z0 [ai.v,(VI aj)] L)) fun du L=>
b ah ai aj a1 j du)))/\
(A1 a8 [] (fun g=>(g,[aC.v,(VI 0)])::L) fun g bh L=>
(C2 (fun o p=>(Value.agg #[(Sl.v o),(VI p)])) P 110 #[(Value.agg #[c.v,(VI d)])] bh L fun o p c8=>
(E1 Sl.v P (Instr.makeSlice 27 (VI (a.n:Int)) (VI (a.n:Int))) c8 L fun c9 dv=>
A1 dv [g] (fun bi=>Z0 [c9.v] (Z1 [o.v,(VI p)] ((bi,[aC.v])::L))) fun bi dw L=>
b g o p bi c9 dw)/\
(A1 c8 [] (fun a2=>(a2,[aC.v])::L) fun a2 ca L=>
(E1 Sl.v P (Instr.makeSlice 27 (VI (a.n:Int)) (VI (a.n:Int))) ca L fun cb dx=>
A0 dx [a2,g] (Z0 [cb.v] (Z1 [o.v,(VI p)] L)) fun dy L=>
b g o p a2 cb dy)/\
(A0 ca [g] (Z1 [o.v,(VI p)] L) fun dz L=>
E1 Sl.v P (Instr.makeSlice 27 (VI (a.n:Int)) (VI (a.n:Int))) dz L fun cc e0=>
A0 e0 [a2] (Z0 [cc.v] L) fun e1 L=>
b g o p a2 cc e1)))/\
(E1 Sl.v P (Instr.makeSlice 27 (VI (a.n:Int)) (VI (a.n:Int))) bh L fun ak cd=>
(C2 (fun al am=>(Value.agg #[(Sl.v al),(VI am)])) P 110 #[(Value.agg #[c.v,(VI d)])] cd L fun al am e2=>
A1 e2 [g] (fun bj=>Z0 [ak.v] (Z1 [al.v,(VI am)] ((bj,[aC.v])::L))) fun bj e3 L=>
b g al am bj ak e3)/\
(A1 cd [] (fun an=>(an,[aC.v])::L) fun an e4 L=>
C2 (fun ao ap=>(Value.agg #[(Sl.v ao),(VI ap)])) P 110 #[(Value.agg #[c.v,(VI d)])] e4 L fun ao ap e5=>
A0 e5 [an,g] (Z0 [ak.v] (Z1 [ao.v,(VI ap)] L)) fun e6 L=>
b g ao ap an ak e6))/\
(A1 bh [] (fun q=>(q,[aC.v])::L) fun q ce L=>
(C2 (fun a3 a4=>(Value.agg #[(Sl.v a3),(VI a4)])) P 110 #[(Value.agg #[c.v,(VI d)])] ce L fun a3 a4 cf=>
(E1 Sl.v P (Instr.makeSlice 27 (VI (a.n:Int)) (VI (a.n:Int))) cf L fun cg e7=>
A0 e7 [q,g] (Z0 [cg.v] (Z1 [a3.v,(VI a4)] L)) fun e8 L=>
b g a3 a4 q cg e8)/\
(A0 cf [g] (Z1 [a3.v,(VI a4)] L) fun e9 L=>
E1 Sl.v P (Instr.makeSlice 27 (VI (a.n:Int)) (VI (a.n:Int))) e9 L fun ch ea=>
A0 ea [q] (Z0 [ch.v] L) fun eb L=>
b g a3 a4 q ch eb))/\
(E1 Sl.v P (Instr.makeSlice 27 (VI (a.n:Int)) (VI (a.n:Int))) ce L fun ci ec=>
C2 (fun aq ar=>(Value.agg #[(Sl.v aq),(VI ar)])) P 110 #[(Value.agg #[c.v,(VI d)])] ec L fun aq ar ed=>
A0 ed [q,g] (Z0 [ci.v] (Z1 [aq.v,(VI ar)] L)) fun ee L=>
b g aq ar q ci ee)))/\
(A1 a8 [] (fun i=>(i,[aC.v])::L) fun i bk L=>
(C2 (fun r s=>(Value.agg #[(Sl.v r),(VI s)])) P 110 #[(Value.agg #[c.v,(VI d)])] bk L fun r s cj=>
(E1 Sl.v P (Instr.makeSlice 27 (VI (a.n:Int)) (VI (a.n:Int))) cj L fun ck ef=>
A1 ef [i] (fun bl=>Z1 [ck.v] (Z0 [r.v,(VI s)] ((bl,[aC.v,(VI 0)])::L))) fun bl eg L=>
b bl r s i ck eg)/\
(A1 cj [] (fun a5=>(a5,[aC.v,(VI 0)])::L) fun a5 cl L=>
(E1 Sl.v P (Instr.makeSlice 27 (VI (a.n:Int)) (VI (a.n:Int))) cl L fun cm eh=>
A0 eh [i,a5] (Z1 [cm.v] (Z0 [r.v,(VI s)] L)) fun ei L=>
b a5 r s i cm ei)/\
(A0 cl [a5] (Z0 [r.v,(VI s)] L) fun ej L=>
E1 Sl.v P (Instr.makeSlice 27 (VI (a.n:Int)) (VI (a.n:Int))) ej L fun cn ek=>
A0 ek [i] (Z1 [cn.v] L) fun el L=>
b a5 r s i cn el)))/\
(E1 Sl.v P (Instr.makeSlice 27 (VI (a.n:Int)) (VI (a.n:Int))) bk L fun au co=>
(C2 (fun av aw=>(Value.agg #[(Sl.v av),(VI aw)])) P 110 #[(Value.agg #[c.v,(VI d)])] co L fun av aw em=>
A1 em [i] (fun bm=>Z1 [au.v] (Z0 [av.v,(VI aw)] ((bm,[aC.v,(VI 0)])::L))) fun bm en L=>
b bm av aw i au en)/\
(A1 co [] (fun ax=>(ax,[aC.v,(VI 0)])::L) fun ax eo L=>
C2 (fun ay az=>(Value.agg #[(Sl.v ay),(VI az)])) P 110 #[(Value.agg #[c.v,(VI d)])] eo L fun ay az ep=>
A0 ep [i,ax] (Z1 [au.v] (Z0 [ay.v,(VI az)] L)) fun eq L=>
b ax ay az i au eq))/\
(A1 bk [] (fun t=>(t,[aC.v,(VI 0)])::L) fun t cp L=>
(C2 (fun a6 a7=>(Value.agg #[(Sl.v a6),(VI a7)])) P 110 #[(Value.agg #[c.v,(VI d)])] cp L fun a6 a7 cq=>
(E1 Sl.v P (Instr.makeSlice 27 (VI (a.n:Int)) (VI (a.n:Int))) cq L fun cr er=>
A0 er [i,t] (Z1 [cr.v] (Z0 [a6.v,(VI a7)] L)) fun es L=>
b t a6 a7 i cr es)/\
(A0 cq [t] (Z0 [a6.v,(VI a7)] L) fun et L=>
E1 Sl.v P (Instr.makeSlice 27 (VI (a.n:Int)) (VI (a.n:Int))) et L fun cs eu=>
A0 eu [i] (Z1 [cs.v] L) fun ev L=>
b t a6 a7 i cs ev))/\
(E1 Sl.v P (Instr.makeSlice 27 (VI (a.n:Int)) (VI (a.n:Int))) cp L fun ct ew=>
C2 (fun b0 b1=>(Value.agg #[(Sl.v b0),(VI b1)])) P 110 #[(Value.agg #[c.v,(VI d)])] ew L fun b0 b1 ex=>
A0 ex [i,t] (Z1 [ct.v] (Z0 [b0.v,(VI b1)] L)) fun ey L=>
b t b0 b1 i ct ey))))/\
∀(b2:Nat)(cu:Sl)(cv:Int)(bn:Nat)(cx:Sl)(bo:Heap),b b2 cu cv bn cx bo->Vi bo ((bn,[cx.v])::((b2,[cu.v,(VI cv)])::L)) fun L=>
aE P 206 #[(Value.agg #[a.v]),(VP b2 0),(VI bq),(Value.func (Fn.func 209) #[] #[(VP bn 0),(VP b2 0)])] bo fun ez bp=>∃cy:Sl,∃f0:Sl,∃f1:Int,∃cz:Bool,ez=(VB cz)/\Va bp (Z1 [f0.v,(VI f1)] (Z0 [cy.v] L)) fun L=>
Br (!cz)
(K (Value.tuple #[aC.v,(VB false)]) bp)
(K (Value.tuple #[cy.v,(VB true)]) bp)))
theorem afP(b:Sl)(c:Sl)(d:Int)(e:Int)(h:Heap)(K:KQ)(H:afO Tryz.prog b c d e h K):aE Tryz.prog 163 #[(Value.agg #[b.v]),(Value.agg #[c.v,(VI d)]),(VI e)] h K:=cw mixed Tryz.func163 [(7,⟨[],[],[(8,[.sl,.i .i64]),(9,[.sl])]⟩)] [.v (.a [.sl b]),.v (.a [.sl c,.i .i64 d]),.v (.l (.i .i64 e))] [] [] .nil 27 (by kernel_rfl) H
def afQ(P:Program)(a:Sl)(b:Sl)(c:Int)(e:Int)(h:Heap)(K:KQ):Prop:=pk (
A3 h [] (fun f g d=>(d,[(VI e)])::((g,[b.v,(VI c)])::((f,[a.v])::[]))) fun f g d p L=>
C1 VB P 77 #[(Value.agg #[a.v]),(Value.agg #[b.v,(VI c)])] p L fun q i=>
Br (!q)
(K (Value.tuple #[(VI 0),(VB false)]) i)
(E1 Sl.v P (Instr.buildSlice 27 1 #[(0,(VI e))]) i L fun r s=>
C1 VB P 107 #[(Value.agg #[a.v]),r.v] s L fun t j=>
Br (!t)
(K (Value.tuple #[(VI 0),(VB false)]) j)
(aE P 210 #[(Value.agg #[a.v]),(Value.agg #[b.v,(VI c)]),(VI 0),(Value.func (Fn.func 211) #[] #[(VP d 0)])] j fun u k=>∃x:Int,∃l:Int,∃o:Bool,u=(Value.tuple #[(VI l),(VB o)])/\Va k (Z0 [(VI x)] L) fun L=>
K (Value.tuple #[(VI l),(VB o)]) k)))
theorem v164(b:Sl)(c:Sl)(d:Int)(e:Int)(h:Heap)(K:KQ)(H:afQ Tryz.prog b c d e h K):aE Tryz.prog 164 #[(Value.agg #[b.v]),(Value.agg #[c.v,(VI d)]),(VI e)] h K:=cw mixed Tryz.func164 [] [.v (.a [.sl b]),.v (.a [.sl c,.i .i64 d]),.v (.l (.i .i64 e))] [] [] .nil 25 (by kernel_rfl) H
def afR(P:Program)(a:Sl)(b:Int)(h:Heap)(K:KQ):Prop:=pk (
A1 h [] (fun c=>(c,[a.v])::[]) fun c e L=>
E1 Sl.v P (Instr.buildSlice 27 1 #[(0,(VI b))]) e L fun f g=>
C1 VB P 107 #[(Value.agg #[a.v]),f.v] g L fun i d=>
Br (!i)
(K (Value.tuple #[(VI 0),(VB false)]) d)
(C1 Sl.v P 213 #[(Value.agg #[a.v]),(VI b)] d L fun j k=>
C1 VI P 212 #[j.v] k L fun l o=>
K (Value.tuple #[(VI l),(VB true)]) o))
theorem afS(b:Sl)(c:Int)(h:Heap)(K:KQ)(H:afR Tryz.prog b c h K):aE Tryz.prog 165 #[(Value.agg #[b.v]),(VI c)] h K:=cw mixed Tryz.func165 [] [.v (.a [.sl b]),.v (.l (.i .i64 c))] [] [] .nil 15 (by kernel_rfl) H
def afT(P:Program)(a:Sl)(b:Int)(h:Heap)(K:KQ):Prop:=pk (
A1 h [] (fun c=>(c,[a.v])::[]) fun c e L=>
C1 VB P 214 #[(Value.agg #[a.v]),(VI b)] e L fun f d=>
Br (!f)
(K (Value.tuple #[aC.v,(VB false)]) d)
(C1 Sl.v P 215 #[(Value.agg #[a.v]),(VI b)] d L fun g i=>
K (Value.tuple #[g.v,(VB true)]) i))
theorem afU(b:Sl)(c:Int)(h:Heap)(K:KQ)(H:afT Tryz.prog b c h K):aE Tryz.prog 166 #[(Value.agg #[b.v]),(VI c)] h K:=cw mixed Tryz.func166 [] [.v (.a [.sl b]),.v (.l (.i .i64 c))] [] [] .nil 13 (by kernel_rfl) H
def afV(P:Program)(k:Nat)(f:Sl)(c:Sl)(d:Int)(e:Bool)(u:Int)(x:Int)(h:Heap)(K:KQ):Prop:=pk (
Lt [(k,[f.v,c.v,(VI d),(VB e)])] fun L=>
A1 h [] (fun g=>(g,[(VS (⟨#[]⟩:ByteArray)),(VB false)])::L) fun g y L=>
C2 (fun a b=>(Value.tuple #[(Value.agg #[(Sl.v a)]),(VB b)])) P 216 #[(Value.agg #[f.v]),(VI u),(VI x)] y L fun a b z=>
A1 z [] (fun l=>Z0 [a.v] ((l,[aC.v])::L)) fun l o L=>
∃i:Sl->Sl->Int->Bool->Heap->Prop,(Br b
(A0 o [k] (Z2 [a.v,c.v,(VI d),(VB e)] L) fun a0 L=>
i a c d e a0)
(i f c d e o))/\
∀(p:Sl)(q:Sl)(r:Int)(s:Bool)(j:Heap),i p q r s j->Vi j (Z2 [p.v,q.v,(VI r),(VB s)] L) fun L=>
C1 VS P 51 #[(Value.agg #[a.v])] j L fun t a1=>
A0 a1 [g] (Z1 [(VS t),(VB b)] L) fun a2 L=>
K (Value.agg #[(VS t),(VB b)]) a2)
theorem v167(a:Nat)(c:Sl)(d:Sl)(e:Int)(f:Bool)(g:Int)(j:Int)(h:Heap)(K:KQ)(hL:Vars h [(a,[c.v,d.v,(VI e),(VB f)])])(H:afV Tryz.prog a c d e f g j h K):aE Tryz.prog 167 #[(VP a 0),(VI g),(VI j)] h K:=cw mixed Tryz.func167 [(7,⟨[],[0],[]⟩)] [.v (.l (.p 0 0)),.v (.l (.i .i64 g)),.v (.l (.i .i64 j))] [(0,[.sl c,.sl d,.i .i64 e,.b f none])] [a] hL 30 (by kernel_rfl) H
def afW(P:Program)(j:Nat)(e:Sl)(k:Sl)(l:Int)(s:Bool)(c:Int)(o:Int)(h:Heap)(K:KQ):Prop:=pk (
Lt [(j,[e.v,k.v,(VI l),(VB s)])] fun L=>
A1 h [] (fun b=>(b,[(VS (⟨#[]⟩:ByteArray)),(VB false)])::L) fun b t L=>
E1 Sl.v P (Instr.buildSlice 27 1 #[(0,(VI c))]) t L fun u x=>
C1 VB P 107 #[(Value.agg #[e.v]),u.v] x L fun y f=>
Br (!y)
(A0 f [b] (Z0 [(VS (⟨#[]⟩:ByteArray)),(VB false)] L) fun z L=>
K (Value.agg #[(VS (⟨#[]⟩:ByteArray)),(VB false)]) z)
(G1 Sl.v f e c 1 fun a0=>
C1 VB P 52 #[(VI o),(VI 0),(VI (aL ((a0.n:Int)-1)))] f L fun a1 p=>
Br (!a1)
(A0 p [b] (Z0 [(VS (⟨#[]⟩:ByteArray)),(VB false)] L) fun a2 L=>
K (Value.agg #[(VS (⟨#[]⟩:ByteArray)),(VB false)]) a2)
(C2 (fun a d=>(Value.agg #[(Sl.v a),(VI d)])) P 110 #[(Value.agg #[k.v,(VI l)])] p L fun a d a3=>
dQ a c/\
A1 a3 [] (fun q=>Z0 [a.v,(VI d)] ((q,[aC.v,(VI 0)])::L)) fun q a4 L=>
S1 a4 (Sl.at a c 1) (VI o) L fun a5=>
aE P 155 #[(VP j 0),(Value.agg #[a.v,(VI d)]),(VB true)] a5 fun a6 r=>∃a7:Sl,∃a8:Sl,∃a9:Int,∃aa:Bool,∃g:ByteArray,∃i:Bool,a6=(Value.agg #[(VS g),(VB i)])/\Va r (Z2 [a7.v,a8.v,(VI a9),(VB aa)] L) fun L=>
A0 r [b] (Z1 [(VS g),(VB i)] L) fun ab L=>
K (Value.agg #[(VS g),(VB i)]) ab)))
theorem v168(a:Nat)(c:Sl)(d:Sl)(e:Int)(f:Bool)(g:Int)(j:Int)(h:Heap)(K:KQ)(hL:Vars h [(a,[c.v,d.v,(VI e),(VB f)])])(H:afW Tryz.prog a c d e f g j h K):aE Tryz.prog 168 #[(VP a 0),(VI g),(VI j)] h K:=cw mixed Tryz.func168 [] [.v (.l (.p 0 0)),.v (.l (.i .i64 g)),.v (.l (.i .i64 j))] [(0,[.sl c,.sl d,.i .i64 e,.b f none])] [a] hL 48 (by kernel_rfl) H
def afX(P:Program)(b:Sl)(g:Int)(i:Int)(j:Int)(h:Heap)(K:KQ):Prop:=pk (
A2 h [] (fun k a=>(a,[(VI 0),(VI 0)])::((k,[b.v])::[])) fun k a q L=>
C1 VB P 217 #[(Value.agg #[b.v]),(VI i),(VI j)] q L fun r l=>
Br (!r)
(A0 l [a] (Z0 [(VI 0),(VI 0)] L) fun s L=>
K (Value.tuple #[(Value.agg #[(VI 0),(VI 0)]),(VB false)]) s)
(E1 Sl.v P (Instr.buildSlice 27 1 #[(0,(VI g))]) l L fun t u=>
C1 VB P 107 #[(Value.agg #[b.v]),t.v] u L fun x o=>
Br (!x)
(A0 o [a] (Z0 [(VI 0),(VI 0)] L) fun y L=>
K (Value.tuple #[(Value.agg #[(VI 0),(VI 0)]),(VB false)]) y)
(C2 (fun e f=>(Value.tuple #[(Sl.v e),(VI f)])) P 218 #[(Value.agg #[b.v]),(VI i),(VI j)] o L fun e f p=>
G1 VI p e g 1 fun z=>
C2 (fun c d=>(Value.agg #[(VI c),(VI d)])) P 219 #[(VI z),(VI f)] p L fun c d a0=>
A0 a0 [a] (Z0 [(VI c),(VI d)] L) fun a1 L=>
K (Value.tuple #[(Value.agg #[(VI c),(VI d)]),(VB true)]) a1)))
theorem afY(b:Sl)(c:Int)(d:Int)(e:Int)(h:Heap)(K:KQ)(H:afX Tryz.prog b c d e h K):aE Tryz.prog 169 #[(Value.agg #[b.v]),(VI c),(VI d),(VI e)] h K:=cw mixed Tryz.func169 [] [.v (.a [.sl b]),.v (.l (.i .i64 c)),.v (.l (.i .i64 d)),.v (.l (.i .i64 e))] [] [] .nil 38 (by kernel_rfl) H
def afZ(P:Program)(b:Int)(k:Int)(h:Heap)(K:KQ):Prop:=pk (
C2 (fun c d=>(Value.tuple #[(Value.pointer c),(VB d)])) P 220 #[(VI b),(VI k)] h [] fun c d a=>
Br (!d)
(K (Value.tuple #[aC.v,(VB false)]) a)
(Br (decide (b=0))
(K (Value.tuple #[aC.v,(VB false)]) a)
(∃i:Nat,∃l:Option Nat,∃e:Sl,∃o:Int,c=some ⟨i,0,none⟩/\Va a ((i,[(Value.map l),e.v,(VI o)])::[]) fun L=>
dQ e (aL (b-1))/\
∃f:Int,∃g:Int,lk a (Sl.at e (aL (b-1)) 2) [(VI f),(VI g)]/\
A1 a [] (fun j=>Z0 [(VI f),(VI g)] ((j,[(VI 0),(VI 0)])::L)) fun j p L=>
E1 Sl.v P (Instr.buildSlice 27 2 #[(0,(VI f)),(1,(VI g))]) p L fun q r=>
K (Value.tuple #[q.v,(VB true)]) r)))
theorem af0(a:Int)(b:Int)(h:Heap)(K:KQ)(H:afZ Tryz.prog a b h K):aE Tryz.prog 170 #[(VI a),(VI b)] h K:=cw mixed Tryz.func170 [] [.v (.l (.i .i64 a)),.v (.l (.i .i64 b))] [] [] .nil 34 (by kernel_rfl) H
def af1(P:Program)(f:Int)(g:Int)(i:Int)(j:Int)(h:Heap)(K:KQ):Prop:=pk (
C2 (fun a b=>(Value.tuple #[(Value.pointer a),(VB b)])) P 221 #[(VI f),(VI g),(VI i),(VI j)] h [] fun a b c=>
Br (!b)
(K (Value.tuple #[aC.v,(VB false)]) c)
(∃d:Nat,∃k:Int,∃l:Int,∃o:Sl,∃e:Sl,∃p:Sl,∃q:Sl,a=some ⟨d,0,none⟩/\Va c ((d,[(VI k),(VI l),o.v,e.v,p.v,q.v])::[]) fun L=>
K (Value.tuple #[e.v,(VB true)]) c))
theorem v171(a:Int)(b:Int)(c:Int)(d:Int)(h:Heap)(K:KQ)(H:af1 Tryz.prog a b c d h K):aE Tryz.prog 171 #[(VI a),(VI b),(VI c),(VI d)] h K:=cw mixed Tryz.func171 [] [.v (.l (.i .i64 a)),.v (.l (.i .i64 b)),.v (.l (.i .i64 c)),.v (.l (.i .i64 d))] [] [] .nil 26 (by kernel_rfl) H
def af2(P:Program)(c:Sl)(h:Heap)(K:KQ):Prop:=pk (
O2 0 0 h fun e f(d:Int)(b:Int) a=>
Vars a []->
Br (decide (b<(c.n:Int)))
(G1 VI a c b 1 fun g=>
Nj f fun m=>e m (aL (d+g)) (aL (b+1)) a)
(K (VI d) a))
theorem af3(a:Sl)(h:Heap)(K:KQ)(H:af2 Tryz.prog a h K):aE Tryz.prog 172 #[a.v] h K:=cw mixed Tryz.func172 [(58,⟨[⟨3,.l (.i .i64)⟩,⟨8,.l (.i .i64)⟩],[],[]⟩)] [.v (.l (.sl a))] [] [] .nil 17 (by kernel_rfl) H
def af4(P:Program)(c:Sl)(h:Heap)(K:KQ):Prop:=pk (
A3 h [] (fun g d e=>Z0 [aC.v] ((e,[aC.v])::((d,[aC.v])::((g,[c.v])::[])))) fun g d e j L=>
O2 0 aC j fun k l(f:Int)(a:Sl) b=>
Vi b (Z0 [a.v] L) fun L=>
Br (decide (f<(c.n:Int)))
(G1 Sl.v b c f 1 fun o=>
C1 Sl.v P 87 #[o.v] b L fun p q=>
E1 Sl.v P (Instr.buildSlice 24 1 #[(0,p.v)]) q L fun r s=>
E1 Sl.v P (bK 24 24 24 a.v r.v) s L fun i t=>
A0 t [e] (Z0 [i.v] L) fun u L=>
Nj l fun m=>k m (aL (f+1)) i u)
(A0 b [d] (Z1 [a.v] L) fun x L=>
K (Value.agg #[a.v]) x))
theorem v175(b:Sl)(h:Heap)(K:KQ)(H:af4 Tryz.prog b h K):aE Tryz.prog 175 #[(Value.agg #[b.v])] h K:=cw mixed Tryz.func175 [(58,⟨[⟨10,.l (.i .i64)⟩],[2],[]⟩)] [.v (.a [.sl b])] [] [] .nil 23 (by kernel_rfl) H
def af5(P:Program)(a:Sl)(h:Heap)(K:KQ):Prop:=pk (
A2 h [] (fun c b=>(b,[aC.v])::((c,[a.v])::[])) fun c b e L=>
C1 VB P 82 #[(Value.agg #[a.v])] e L fun f d=>
Br (!f)
(A0 d [b] (Z0 [aC.v] L) fun g L=>
K (Value.tuple #[(Value.agg #[aC.v]),(VB false)]) g)
(A0 d [b] (Z0 [a.v] L) fun i L=>
K (Value.tuple #[(Value.agg #[a.v]),(VB true)]) i))
theorem af6(b:Sl)(h:Heap)(K:KQ)(H:af5 Tryz.prog b h K):aE Tryz.prog 176 #[(Value.agg #[b.v])] h K:=cw mixed Tryz.func176 [] [.v (.a [.sl b])] [] [] .nil 9 (by kernel_rfl) H
def af7(P:Program)(f:Sl)(c:Sl)(a:Int)(h:Heap)(K:KQ):Prop:=pk (
dQ f a/\
A3 h [] (fun l o e=>(e,[aC.v,(VI 0)])::((o,[c.v,(VI a)])::((l,[f.v])::[]))) fun l o e g L=>
H1 Sl.v g (Sl.at f a 1) fun b=>
Br (decide ((b.n:Int)=0))
(A0 g [e] (Z0 [c.v,(VI a)] L) fun r L=>
K (Value.tuple #[(Value.agg #[c.v,(VI a)]),(VB false)]) r)
(C1 Sl.v P 87 #[c.v] g L fun d s=>
dQ c a/\
A1 s [] (fun i=>Z0 [d.v,(VI 0)] ((i,[aC.v,(VI 0)])::L)) fun i p L=>
H1 VI p (Sl.at c a 1) fun j=>
(b.n:Int)≠0/\
dQ d a/\
S1 p (Sl.at d a 1) (VI (Int.tmod (aL (j+1)) (b.n:Int))) L fun q=>
dQ b (Int.tmod (aL (j+1)) (b.n:Int))/\
H1 VI q (Sl.at b (Int.tmod (aL (j+1)) (b.n:Int)) 1) fun k=>
A0 q [e,i] (Z1 [d.v,(VI k)] (Z0 [d.v,(VI k)] L)) fun t L=>
K (Value.tuple #[(Value.agg #[d.v,(VI k)]),(VB true)]) t))
theorem af8(b:Sl)(c:Sl)(d:Int)(h:Heap)(K:KQ)(H:af7 Tryz.prog b c d h K):aE Tryz.prog 177 #[(Value.agg #[b.v]),(Value.agg #[c.v,(VI d)])] h K:=cw mixed Tryz.func177 [] [.v (.a [.sl b]),.v (.a [.sl c,.i .i64 d])] [] [] .nil 45 (by kernel_rfl) H
def af9(P:Program)(a:Sl)(b:Sl)(c:Int)(g:Int)(h:Heap)(K:KQ):Prop:=pk (
A2 h [] (fun d e=>(e,[b.v,(VI c)])::((d,[a.v])::[])) fun d e i L=>
C1 VB P 83 #[(Value.agg #[a.v]),(Value.agg #[b.v,(VI c)])] i L fun j f=>
Br j
(C1 VB P 119 #[(VI g),(VI 0),(VI 2000)] f L fun k l=>
K (VB k) l)
(K (VB false) f))
theorem aga(b:Sl)(c:Sl)(d:Int)(e:Int)(h:Heap)(K:KQ)(H:af9 Tryz.prog b c d e h K):aE Tryz.prog 178 #[(Value.agg #[b.v]),(Value.agg #[c.v,(VI d)]),(VI e)] h K:=cw mixed Tryz.func178 [] [.v (.a [.sl b]),.v (.a [.sl c,.i .i64 d]),.v (.l (.i .i64 e))] [] [] .nil 14 (by kernel_rfl) H
def agb(P:Program)(b:Sl)(c:Sl)(a:Int)(b4:Int)(h:Heap)(K:KQ):Prop:=pk (
A3 h [] (fun ak al q=>(q,[aC.v,(VI 0),aC.v,aC.v,aC.v])::((al,[c.v,(VI a)])::((ak,[b.v])::[]))) fun ak al q a6 L=>
∃i:Nat->Sl->Int->Sl->Sl->Sl->Heap->Prop,((E1 Sl.v P (Instr.buildSlice 27 1 #[(0,(VI a))]) a6 L fun r am=>
(E1 Sl.v P (Instr.makeSlice 27 (VI (b.n:Int)) (VI (b.n:Int))) am L fun an b5=>
A1 b5 [] (fun s=>(s,[aC.v,(VI 0),aC.v,aC.v,aC.v])::L) fun s b6 L=>
A0 b6 [s] (Z0 [c.v,(VI a),r.v,an.v,aC.v] L) fun b7 L=>
i s c a r an aC b7)/\
(A1 am [] (fun t=>(t,[aC.v,(VI 0),aC.v,aC.v,aC.v])::L) fun t b8 L=>
E1 Sl.v P (Instr.makeSlice 27 (VI (b.n:Int)) (VI (b.n:Int))) b8 L fun ao b9=>
A0 b9 [t] (Z0 [c.v,(VI a),r.v,ao.v,aC.v] L) fun ba L=>
i t c a r ao aC ba))/\
(E1 Sl.v P (Instr.makeSlice 27 (VI (b.n:Int)) (VI (b.n:Int))) a6 L fun u ap=>
(E1 Sl.v P (Instr.buildSlice 27 1 #[(0,(VI a))]) ap L fun aq bb=>
A1 bb [] (fun x=>(x,[aC.v,(VI 0),aC.v,aC.v,aC.v])::L) fun x bc L=>
A0 bc [x] (Z0 [c.v,(VI a),aq.v,u.v,aC.v] L) fun bd L=>
i x c a aq u aC bd)/\
(A1 ap [] (fun y=>(y,[aC.v,(VI 0),aC.v,aC.v,aC.v])::L) fun y be L=>
E1 Sl.v P (Instr.buildSlice 27 1 #[(0,(VI a))]) be L fun ar bf=>
A0 bf [y] (Z0 [c.v,(VI a),ar.v,u.v,aC.v] L) fun bg L=>
i y c a ar u aC bg))/\
(A1 a6 [] (fun k=>(k,[aC.v,(VI 0),aC.v,aC.v,aC.v])::L) fun k au L=>
(E1 Sl.v P (Instr.buildSlice 27 1 #[(0,(VI a))]) au L fun av bh=>
E1 Sl.v P (Instr.makeSlice 27 (VI (b.n:Int)) (VI (b.n:Int))) bh L fun aw bi=>
A0 bi [k] (Z0 [c.v,(VI a),av.v,aw.v,aC.v] L) fun bj L=>
i k c a av aw aC bj)/\
(E1 Sl.v P (Instr.makeSlice 27 (VI (b.n:Int)) (VI (b.n:Int))) au L fun ax bk=>
E1 Sl.v P (Instr.buildSlice 27 1 #[(0,(VI a))]) bk L fun ay bl=>
A0 bl [k] (Z0 [c.v,(VI a),ay.v,ax.v,aC.v] L) fun bm L=>
i k c a ay ax aC bm)))/\
∀(l:Nat)(a7:Sl)(a8:Int)(a9:Sl)(aa:Sl)(ab:Sl)(ac:Heap),i l a7 a8 a9 aa ab ac->Vi ac ((l,[a7.v,(VI a8),a9.v,aa.v,ab.v])::L) fun L=>
O6 0 a7 a8 a9 aa ab ac fun bn bo(ad:Int)(z:Sl)(a0:Int)(a1:Sl)(a2:Sl)(ae:Sl) a3=>
Vi a3 (Z0 [z.v,(VI a0),a1.v,a2.v,ae.v] L) fun L=>
Br (decide (ad<(b.n:Int)))
(G1 Sl.v a3 b ad 1 fun az=>
E1 Sl.v P (Instr.makeSlice 27 (VI (az.n:Int)) (VI (az.n:Int))) a3 L fun bp bq=>
E1 Sl.v P (Instr.buildSlice 24 1 #[(0,bp.v)]) bq L fun br bs=>
E1 Sl.v P (bK 24 24 24 ae.v br.v) bs L fun b0 bt=>
A0 bt [l] (Z0 [z.v,(VI a0),a1.v,a2.v,b0.v] L) fun bu L=>
Nj bo fun m=>bn m (aL (ad+1)) z a0 a1 a2 b0 bu)
(O6 b4 z a0 a1 a2 ae a3 fun bv bw(b1:Int)(o:Sl)(f:Int)(a4:Sl)(e:Sl)(g:Sl) af=>
Vi af (Z0 [o.v,(VI f),a4.v,e.v,g.v] L) fun L=>
Br (decide (0<b1))
(C3 (fun j d ag=>(Value.tuple #[(Value.agg #[(Sl.v j),(VI d)]),(VB ag)])) P 177 #[(Value.agg #[b.v]),(Value.agg #[o.v,(VI f)])] af L fun j d ag b2=>
Br (!ag)
(A1 b2 [q] (fun p=>Z2 [aC.v,(VI 0),aC.v,aC.v,aC.v] (Z0 [j.v,(VI d)] ((p,[aC.v,(VI 0)])::L))) fun p bx L=>
K (Value.tuple #[(Value.agg #[aC.v,(VI 0),aC.v,aC.v,aC.v]),(VB false)]) bx)
(dQ g f/\
A1 b2 [] (fun p=>Z0 [j.v,(VI d)] ((p,[aC.v,(VI 0)])::L)) fun p a5 L=>
H1 Sl.v a5 (Sl.at g f 1) fun ah=>
G1 VI a5 j f 1 fun ai=>
G1 VI a5 ah ai 1 fun bz=>
dQ ah ai/\
S1 a5 (Sl.at ah ai 1) (VI (aL (bz+1))) L fun b3=>
G1 VI b3 e d 1 fun c0=>
dQ e d/\
S1 b3 (Sl.at e d 1) (VI (aL (c0+1))) L fun c1=>
E1 Sl.v P (Instr.buildSlice 27 1 #[(0,(VI d))]) c1 L fun c2 c3=>
E1 Sl.v P (bK 27 27 27 a4.v c2.v) c3 L fun aj c4=>
A0 c4 [l,l] (Z1 [j.v,(VI d),aj.v,e.v,g.v] (Z1 [o.v,(VI f),aj.v,e.v,g.v] L)) fun c5 L=>
Nj bw fun m=>bv m (aL (b1-1)) j d aj e g c5))
(A0 af [q] (Z1 [o.v,(VI f),a4.v,e.v,g.v] L) fun c6 L=>
K (Value.tuple #[(Value.agg #[o.v,(VI f),a4.v,e.v,g.v]),(VB true)]) c6)))
theorem agc(b:Sl)(c:Sl)(d:Int)(e:Int)(h:Heap)(K:KQ)(H:agb Tryz.prog b c d e h K):aE Tryz.prog 179 #[(Value.agg #[b.v]),(Value.agg #[c.v,(VI d)]),(VI e)] h K:=cw mixed Tryz.func179 [(3,⟨[],[],[(8,[.sl,.i .i64,.sl,.sl,.sl])]⟩),(58,⟨[⟨26,.l (.i .i64)⟩],[3],[]⟩),(60,⟨[⟨2,.l (.i .i64)⟩],[3],[]⟩)] [.v (.a [.sl b]),.v (.a [.sl c,.i .i64 d]),.v (.l (.i .i64 e))] [] [] .nil 90 (by kernel_rfl) H
def agd(P:Program)(g:Sl)(h:Heap)(K:KQ):Prop:=pk (
O2 ({data:= #[]}) 0 h fun j k(b:ByteArray)(c:Int) a=>
Vars a []->
Br (decide (c<(g.n:Int)))
(G1 VI a g c 1 fun l=>
∃d:ByteArray->Heap->Prop,(Br (decide (0<c))
(ByteArray.size b+ByteArray.size ({data:= #[44]})<=9223372036854775807/\
d (b++({data:= #[44]})) a)
(d b a))/\
∀(e:ByteArray)(f:Heap),d e f->Vars f []->
C1 VS P 225 #[(VI l)] f [] fun i o=>
ByteArray.size e+ByteArray.size i<=9223372036854775807/\
Nj k fun m=>j m (e++i) (aL (c+1)) o)
(K (VS b) a))
theorem age(a:Sl)(h:Heap)(K:KQ)(H:agd Tryz.prog a h K):aE Tryz.prog 180 #[a.v] h K:=cw mixed Tryz.func180 [(58,⟨[⟨3,.l .s⟩,⟨8,.l (.i .i64)⟩],[],[]⟩),(3737,⟨[⟨3,.l .s⟩],[],[]⟩)] [.v (.l (.sl a))] [] [] .nil 23 (by kernel_rfl) H
def agf(P:Program)(d:Sl)(a:Sl)(b:Int)(h:Heap)(K:KQ):Prop:=pk (
A3 h [] (fun c0 c1 c=>(c,[aC.v,(VI 0)])::((c1,[a.v,(VI b)])::((c0,[d.v])::[]))) fun c0 c1 c c2 L=>
∃aw:Nat->Sl->Int->Nat->Sl->Int->Heap->Prop,((A1 c2 [] (fun a2=>(a2,[aC.v,(VI 0)])::L) fun a2 ci L=>
A1 ci [] (fun a3=>(a3,[aC.v,(VI 0)])::L) fun a3 cj L=>
A0 cj [a2] (Z1 [a.v,(VI b)] L) fun ck L=>
A0 ck [a3] (Z0 [a.v,(VI b)] L) fun cl L=>
aw a2 a b a3 a b cl)/\
(A1 c2 [] (fun a4=>(a4,[aC.v,(VI 0)])::L) fun a4 cm L=>
A1 cm [] (fun a5=>(a5,[aC.v,(VI 0)])::L) fun a5 cn L=>
A0 cn [a5] (Z0 [a.v,(VI b)] L) fun co L=>
A0 co [a4] (Z1 [a.v,(VI b)] L) fun cp L=>
aw a5 a b a4 a b cp))/\
∀(ax:Nat)(ay:Sl)(az:Int)(b0:Nat)(b1:Sl)(b2:Int)(b3:Heap),aw ax ay az b0 b1 b2 b3->Vi b3 ((b0,[b1.v,(VI b2)])::((ax,[ay.v,(VI az)])::L)) fun L=>
O6 false 1 b1 b2 ay az b3 fun cq cr(b4:Bool)(c3:Int)(c4:Sl)(c5:Int)(a6:Sl)(a7:Int) o=>
Vi o (Z1 [a6.v,(VI a7)] (Z0 [c4.v,(VI c5)] L)) fun L=>
Br (decide ((aL (2*c3))<=4000))
(Br (!b4)
(C3 (fun p q b5=>(Value.tuple #[(Value.agg #[(Sl.v p),(VI q)]),(VB b5)])) P 177 #[(Value.agg #[d.v]),(Value.agg #[a6.v,(VI a7)])] o L fun p q b5 cs=>
A1 cs [] (fun c6=>Z0 [p.v,(VI q)] ((c6,[aC.v,(VI 0)])::L)) fun c6 ct L=>
C3 (fun r s b6=>(Value.tuple #[(Value.agg #[(Sl.v r),(VI s)]),(VB b6)])) P 177 #[(Value.agg #[d.v]),(Value.agg #[c4.v,(VI c5)])] ct L fun r s b6 b7=>
Br (!b5)
(A1 b7 [c] (fun e=>Z4 [a.v,(VI b)] (Z0 [r.v,(VI s)] ((e,[aC.v,(VI 0)])::L))) fun e cu L=>
K (Value.tuple #[(VI 0),(Value.agg #[a.v,(VI b)]),(VI 0)]) cu)
(Br (!b6)
(A1 b7 [c] (fun e=>Z4 [a.v,(VI b)] (Z0 [r.v,(VI s)] ((e,[aC.v,(VI 0)])::L))) fun e cv L=>
K (Value.tuple #[(VI 0),(Value.agg #[a.v,(VI b)]),(VI 0)]) cv)
(A1 b7 [] (fun e=>Z0 [r.v,(VI s)] ((e,[aC.v,(VI 0)])::L)) fun e cx L=>
C3 (fun f g b8=>(Value.tuple #[(Value.agg #[(Sl.v f),(VI g)]),(VB b8)])) P 177 #[(Value.agg #[d.v]),(Value.agg #[r.v,(VI s)])] cx L fun f g b8 c7=>
Br (!b8)
(A1 c7 [c] (fun z=>Z5 [a.v,(VI b)] (Z0 [f.v,(VI g)] ((z,[aC.v,(VI 0)])::L))) fun z cy L=>
K (Value.tuple #[(VI 0),(Value.agg #[a.v,(VI b)]),(VI 0)]) cy)
(A1 c7 [b0,ax] (fun z=>Z3 [f.v,(VI g)] (Z4 [p.v,(VI q)] (Z0 [f.v,(VI g)] ((z,[aC.v,(VI 0)])::L)))) fun z cz L=>
C1 VB P 226 #[(Value.agg #[p.v,(VI q)]),(Value.agg #[f.v,(VI g)])] cz L fun d0 d1=>
Nj cr fun m=>cq m d0 (aL (c3+1)) f g p q d1))))
(Br (!b4)
(A0 o [c] (Z2 [a.v,(VI b)] L) fun d2 L=>
K (Value.tuple #[(VI 0),(Value.agg #[a.v,(VI b)]),(VI 0)]) d2)
(C1 VI P 227 #[(Value.agg #[d.v]),(Value.agg #[a6.v,(VI a7)]),(VI 2000)] o L fun t b9=>
Br (decide (t=0))
(A0 b9 [c] (Z2 [a.v,(VI b)] L) fun d3 L=>
K (Value.tuple #[(VI 0),(Value.agg #[a.v,(VI b)]),(VI 0)]) d3)
(∃ba:Nat->Sl->Int->Nat->Sl->Int->Heap->Prop,((A1 b9 [] (fun a8=>(a8,[aC.v,(VI 0)])::L) fun a8 d4 L=>
A1 d4 [] (fun a9=>(a9,[aC.v,(VI 0)])::L) fun a9 d5 L=>
A0 d5 [a8] (Z1 [a.v,(VI b)] L) fun d6 L=>
A0 d6 [a9] (Z0 [a.v,(VI b)] L) fun d7 L=>
ba a8 a b a9 a b d7)/\
(A1 b9 [] (fun aa=>(aa,[aC.v,(VI 0)])::L) fun aa d8 L=>
A1 d8 [] (fun ab=>(ab,[aC.v,(VI 0)])::L) fun ab d9 L=>
A0 d9 [ab] (Z0 [a.v,(VI b)] L) fun da L=>
A0 da [aa] (Z1 [a.v,(VI b)] L) fun db L=>
ba ab a b aa a b db))/\
∀(bb:Nat)(bc:Sl)(bd:Int)(ac:Nat)(be:Sl)(bf:Int)(bg:Heap),ba bb bc bd ac be bf bg->Vi bg ((ac,[be.v,(VI bf)])::((bb,[bc.v,(VI bd)])::L)) fun L=>
O3 0 be bf bg fun dc dd(c8:Int)(bh:Sl)(bi:Int) bj=>
Vi bj (Z0 [bh.v,(VI bi)] L) fun L=>
Br (decide (c8<t))
(C3 (fun ad ae c9=>(Value.tuple #[(Value.agg #[(Sl.v ad),(VI ae)]),(VB c9)])) P 177 #[(Value.agg #[d.v]),(Value.agg #[bh.v,(VI bi)])] bj L fun ad ae c9 de=>
A0 de [ac] (Z0 [ad.v,(VI ae)] L) fun df L=>
Nj dd fun m=>dc m (aL (c8+1)) ad ae df)
(O5 0 bh bi bc bd bj fun dg dh(u:Int)(bk:Sl)(bl:Int)(i:Sl)(j:Int) ca=>
Vi ca (Z1 [i.v,(VI j)] (Z0 [bk.v,(VI bl)] L)) fun L=>
C1 VB P 226 #[(Value.agg #[i.v,(VI j)]),(Value.agg #[bk.v,(VI bl)])] ca L fun di a0=>
Br (!di)
(Br (decide (u<=2000))
(C3 (fun af ag cb=>(Value.tuple #[(Value.agg #[(Sl.v af),(VI ag)]),(VB cb)])) P 177 #[(Value.agg #[d.v]),(Value.agg #[i.v,(VI j)])] a0 L fun af ag cb dj=>
A0 dj [bb] (Z1 [af.v,(VI ag)] L) fun dk L=>
C3 (fun ah ai cc=>(Value.tuple #[(Value.agg #[(Sl.v ah),(VI ai)]),(VB cc)])) P 177 #[(Value.agg #[d.v]),(Value.agg #[bk.v,(VI bl)])] dk L fun ah ai cc dl=>
A0 dl [ac] (Z0 [ah.v,(VI ai)] L) fun dm L=>
Nj dh fun m=>dg m (aL (u+1)) ah ai af ag dm)
(Br (decide (2000<(aL (u+t))))
(A0 a0 [c] (Z4 [a.v,(VI b)] L) fun dn L=>
K (Value.tuple #[(VI 0),(Value.agg #[a.v,(VI b)]),(VI 0)]) dn)
(A0 a0 [c] (Z4 [i.v,(VI j)] L) fun dp L=>
K (Value.tuple #[(VI u),(Value.agg #[i.v,(VI j)]),(VI t)]) dp)))
(Br (decide (2000<(aL (u+t))))
(A0 a0 [c] (Z4 [a.v,(VI b)] L) fun dq L=>
K (Value.tuple #[(VI 0),(Value.agg #[a.v,(VI b)]),(VI 0)]) dq)
(A0 a0 [c] (Z4 [i.v,(VI j)] L) fun dr L=>
K (Value.tuple #[(VI u),(Value.agg #[i.v,(VI j)]),(VI t)]) dr)))))))
(Br (!b4)
(A0 o [c] (Z2 [a.v,(VI b)] L) fun ds L=>
K (Value.tuple #[(VI 0),(Value.agg #[a.v,(VI b)]),(VI 0)]) ds)
(C1 VI P 227 #[(Value.agg #[d.v]),(Value.agg #[a6.v,(VI a7)]),(VI 2000)] o L fun x bm=>
Br (decide (x=0))
(A0 bm [c] (Z2 [a.v,(VI b)] L) fun dt L=>
K (Value.tuple #[(VI 0),(Value.agg #[a.v,(VI b)]),(VI 0)]) dt)
(∃bn:Nat->Sl->Int->Nat->Sl->Int->Heap->Prop,((A1 bm [] (fun aj=>(aj,[aC.v,(VI 0)])::L) fun aj du L=>
A1 du [] (fun ak=>(ak,[aC.v,(VI 0)])::L) fun ak dv L=>
A0 dv [aj] (Z1 [a.v,(VI b)] L) fun dw L=>
A0 dw [ak] (Z0 [a.v,(VI b)] L) fun dx L=>
bn aj a b ak a b dx)/\
(A1 bm [] (fun al=>(al,[aC.v,(VI 0)])::L) fun al dy L=>
A1 dy [] (fun am=>(am,[aC.v,(VI 0)])::L) fun am dz L=>
A0 dz [am] (Z0 [a.v,(VI b)] L) fun e0 L=>
A0 e0 [al] (Z1 [a.v,(VI b)] L) fun e1 L=>
bn am a b al a b e1))/\
∀(bo:Nat)(bp:Sl)(bq:Int)(an:Nat)(br:Sl)(bs:Int)(bt:Heap),bn bo bp bq an br bs bt->Vi bt ((an,[br.v,(VI bs)])::((bo,[bp.v,(VI bq)])::L)) fun L=>
O3 0 br bs bt fun e2 e3(cd:Int)(bu:Sl)(bv:Int) bw=>
Vi bw (Z0 [bu.v,(VI bv)] L) fun L=>
Br (decide (cd<x))
(C3 (fun ao ap ce=>(Value.tuple #[(Value.agg #[(Sl.v ao),(VI ap)]),(VB ce)])) P 177 #[(Value.agg #[d.v]),(Value.agg #[bu.v,(VI bv)])] bw L fun ao ap ce e4=>
A0 e4 [an] (Z0 [ao.v,(VI ap)] L) fun e5 L=>
Nj e3 fun m=>e2 m (aL (cd+1)) ao ap e5)
(O5 0 bu bv bp bq bw fun e6 e7(y:Int)(bx:Sl)(bz:Int)(k:Sl)(l:Int) cf=>
Vi cf (Z1 [k.v,(VI l)] (Z0 [bx.v,(VI bz)] L)) fun L=>
C1 VB P 226 #[(Value.agg #[k.v,(VI l)]),(Value.agg #[bx.v,(VI bz)])] cf L fun e8 a1=>
Br (!e8)
(Br (decide (y<=2000))
(C3 (fun aq ar cg=>(Value.tuple #[(Value.agg #[(Sl.v aq),(VI ar)]),(VB cg)])) P 177 #[(Value.agg #[d.v]),(Value.agg #[k.v,(VI l)])] a1 L fun aq ar cg e9=>
A0 e9 [bo] (Z1 [aq.v,(VI ar)] L) fun ea L=>
C3 (fun au av ch=>(Value.tuple #[(Value.agg #[(Sl.v au),(VI av)]),(VB ch)])) P 177 #[(Value.agg #[d.v]),(Value.agg #[bx.v,(VI bz)])] ea L fun au av ch eb=>
A0 eb [an] (Z0 [au.v,(VI av)] L) fun ec L=>
Nj e7 fun m=>e6 m (aL (y+1)) au av aq ar ec)
(Br (decide (2000<(aL (y+x))))
(A0 a1 [c] (Z4 [a.v,(VI b)] L) fun ed L=>
K (Value.tuple #[(VI 0),(Value.agg #[a.v,(VI b)]),(VI 0)]) ed)
(A0 a1 [c] (Z4 [k.v,(VI l)] L) fun ee L=>
K (Value.tuple #[(VI y),(Value.agg #[k.v,(VI l)]),(VI x)]) ee)))
(Br (decide (2000<(aL (y+x))))
(A0 a1 [c] (Z4 [a.v,(VI b)] L) fun ef L=>
K (Value.tuple #[(VI 0),(Value.agg #[a.v,(VI b)]),(VI 0)]) ef)
(A0 a1 [c] (Z4 [k.v,(VI l)] L) fun eg L=>
K (Value.tuple #[(VI y),(Value.agg #[k.v,(VI l)]),(VI x)]) eg)))))))
theorem agh(c:Sl)(d:Sl)(e:Int)(h:Heap)(K:KQ)(H:agf Tryz.prog c d e h K):aE Tryz.prog 181 #[(Value.agg #[c.v]),(Value.agg #[d.v,(VI e)])] h K:=cw mixed Tryz.func181 [(3,⟨[],[],[(7,[.sl,.i .i64]),(8,[.sl,.i .i64])]⟩),(122,⟨[⟨9,.l .b⟩,⟨10,.l (.i .i64)⟩],[4,3],[]⟩),(255,⟨[],[],[(18,[.sl,.i .i64]),(19,[.sl,.i .i64])]⟩),(4090,⟨[⟨20,.l (.i .i64)⟩],[6],[]⟩),(8188,⟨[⟨21,.l (.i .i64)⟩],[6,5],[]⟩)] [.v (.a [.sl c]),.v (.a [.sl d,.i .i64 e])] [] [] .nil 118 (by kernel_rfl) H
def agi(P:Program)(d:Sl)(h:Heap)(K:KQ):Prop:=pk (
Br (decide ((d.n:Int)=0))
(K (VI 1) h)
(G1 Sl.v h d 0 1 fun j=>
O3 0 1 0 h fun s t(e:Int)(k:Int)(a:Int) b=>
Vars b []->
Br (decide (a<(j.n:Int)))
(G1 VI b j a 1 fun l=>
∃f:Int->Heap->Prop,(Br (!decide (l=0))
(Q1 Sl.v P (Instr.sliceAt 24 d.v (some (.int .i64 1)) none none) fun o=>
O2 aC 0 b fun u x(p:Sl)(g:Int) c=>
Vars c []->
Br (decide (g<(o.n:Int)))
(G1 Sl.v c o g 1 fun q=>
Q1 Sl.v P (Instr.sliceAt 27 q.v none (some (VI a)) none) fun y=>
Q1 Sl.v P (Instr.sliceAt 27 q.v (some (VI (aL (a+1)))) none none) fun z=>
C1 Sl.v P 87 #[y.v] c [] fun a0 a1=>
E1 Sl.v P (bK 27 27 27 a0.v z.v) a1 [] fun a2 a3=>
E1 Sl.v P (Instr.buildSlice 24 1 #[(0,a2.v)]) a3 [] fun a4 a5=>
E1 Sl.v P (bK 24 24 24 p.v a4.v) a5 [] fun a6 a7=>
Nj x fun m=>u m a6 (aL (g+1)) a7)
(C1 VI P 182 #[p.v] c [] fun a8 a9=>
f (aL (e+(aL ((aL (k*l))*a8)))) a9))
(f e b))/\
∀(r:Int)(i:Heap),f r i->Vars i []->
Nj t fun m=>s m r (aL (0-k)) (aL (a+1)) i)
(K (VI e) b)))
theorem v182(a:Sl)(h:Heap)(K:KQ)(H:agi Tryz.prog a h K):aE Tryz.prog 182 #[a.v] h K:=cw mixed Tryz.func182 [(122,⟨[⟨3,.l (.i .i64)⟩,⟨4,.l (.i .i64)⟩,⟨17,.l (.i .i64)⟩],[],[]⟩),(7833,⟨[⟨3,.l (.i .i64)⟩],[],[]⟩),(1002666,⟨[⟨7,.l .sl⟩,⟨27,.l (.i .i64)⟩],[],[]⟩)] [.v (.l (.sl a))] [] [] .nil 56 (by kernel_rfl) H
def agj(P:Program)(c:Sl)(f:Int)(h:Heap)(K:KQ):Prop:=pk (
A1 h [] (fun l=>(l,[c.v])::[]) fun l q L=>
O2 aC 0 q fun o p(g:Sl)(a:Int) d=>
Vars d L->
Br (decide (a<(c.n:Int)))
(G1 Sl.v d c a 1 fun i=>
Br (decide (a=f))
(Nj p fun m=>o m g (aL (a+1)) d)
(E1 Sl.v P (Instr.makeSlice 27 (VI (c.n:Int)) (VI (c.n:Int))) d L fun b r=>
dQ b a/\
S1 r (Sl.at b a 1) (VI (i.n:Int)) L fun s=>
O1 0 s fun t u(j:Int) e=>
Vars e L->
Br (decide (j<(i.n:Int)))
(G1 VI e i j 1 fun k=>
G1 VI e b k 1 fun x=>
dQ b k/\
S1 e (Sl.at b k 1) (VI (aL (x-1))) L fun y=>
Nj u fun m=>t m (aL (j+1)) y)
(Q1 Sl.v P (Instr.sliceAt 27 b.v none (some (VI f)) none) fun z=>
Q1 Sl.v P (Instr.sliceAt 27 b.v (some (VI (aL (f+1)))) none none) fun a0=>
C1 Sl.v P 87 #[z.v] e L fun a1 a2=>
E1 Sl.v P (bK 27 27 27 a1.v a0.v) a2 L fun a3 a4=>
E1 Sl.v P (Instr.buildSlice 24 1 #[(0,a3.v)]) a4 L fun a5 a6=>
E1 Sl.v P (bK 24 24 24 g.v a5.v) a6 L fun a7 a8=>
Nj p fun m=>o m a7 (aL (a+1)) a8)))
(K g.v d))
theorem v183(b:Sl)(c:Int)(h:Heap)(K:KQ)(H:agj Tryz.prog b c h K):aE Tryz.prog 183 #[(Value.agg #[b.v]),(VI c)] h K:=cw mixed Tryz.func183 [(58,⟨[⟨5,.l .sl⟩,⟨14,.l (.i .i64)⟩],[],[]⟩),(239226,⟨[⟨33,.l (.i .i64)⟩],[],[]⟩)] [.v (.a [.sl b]),.v (.l (.i .i64 c))] [] [] .nil 58 (by kernel_rfl) H
def agk(P:Program)(a:Sl)(b:Sl)(c:Int)(h:Heap)(K:KQ):Prop:=pk (
A2 h [] (fun g i=>(i,[b.v,(VI c)])::((g,[a.v])::[])) fun g i o L=>
C2 (fun d e=>(Value.tuple #[(Sl.v d),(VB e)])) P 228 #[(Value.agg #[a.v]),b.v,(VI c)] o L fun d e j=>
Br (!e)
(K (Value.tuple #[aC.v,(VB false)]) j)
(O1 c j fun p q(f:Int) k=>
Vars k L->
C1 VB P 229 #[d.v,(VI f)] k L fun r l=>
Br (!r)
(C1 VI P 230 #[(Value.agg #[a.v]),b.v,(VI f)] l L fun s t=>
Nj q fun m=>p m s t)
(C1 Sl.v P 231 #[(Value.agg #[a.v]),b.v,(VI f)] l L fun u x=>
K (Value.tuple #[u.v,(VB true)]) x)))
theorem agl(b:Sl)(c:Sl)(d:Int)(h:Heap)(K:KQ)(H:agk Tryz.prog b c d h K):aE Tryz.prog 184 #[(Value.agg #[b.v]),(Value.agg #[c.v,(VI d)])] h K:=cw mixed Tryz.func184 [(124,⟨[⟨8,.l (.i .i64)⟩],[],[]⟩)] [.v (.a [.sl b]),.v (.a [.sl c,.i .i64 d])] [] [] .nil 36 (by kernel_rfl) H
def agm(P:Program)(a:Sl)(b:Int)(c:Int)(h:Heap)(K:KQ):Prop:=pk (
A1 h [] (fun d=>(d,[a.v])::[]) fun d f L=>
C1 VB P 232 #[(Value.agg #[a.v]),(VI b),(VI c)] f L fun g e=>
Br g
(C1 VB P 233 #[(Value.agg #[a.v]),(VI b),(VI c)] e L fun i j=>
K (VB i) j)
(K (VB false) e))
theorem agn(b:Sl)(c:Int)(d:Int)(h:Heap)(K:KQ)(H:agm Tryz.prog b c d h K):aE Tryz.prog 185 #[(Value.agg #[b.v]),(VI c),(VI d)] h K:=cw mixed Tryz.func185 [] [.v (.a [.sl b]),.v (.l (.i .i64 c)),.v (.l (.i .i64 d))] [] [] .nil 17 (by kernel_rfl) H
def ago(P:Program)(c:Sl)(g:Int)(k:Int)(h:Heap)(K:KQ):Prop:=pk (
A1 h [] (fun u=>(u,[c.v])::[]) fun u a5 L=>
C2 (fun b l=>(Value.tuple #[(Sl.v b),(Sl.v l)])) P 234 #[(Value.agg #[c.v]),(VI g),(VI k)] a5 L fun b l a6=>
O2 aC 0 a6 fun a7 a8(x:Sl)(o:Int) d=>
Vars d L->
Br (decide (o<(b.n:Int)))
(G1 VI d b o 1 fun a9=>
G1 Sl.v d c a9 1 fun y=>
O2 0 0 d fun z a0(p:Int)(i:Int) e=>
Vars e L->
Br (decide (i<(y.n:Int)))
(G1 VI e y i 1 fun aa=>
Br (decide (aa=g))
(Nj a0 fun m=>z m (aL (p+1)) (aL (i+1)) e)
(Nj a0 fun m=>z m p (aL (i+1)) e))
(E1 Sl.v P (Instr.buildSlice 27 1 #[(0,(VI p))]) e L fun ab ac=>
E1 Sl.v P (bK 27 27 27 x.v ab.v) ac L fun ad ae=>
Nj a8 fun m=>a7 m ad (aL (o+1)) ae))
(C2 (fun q r=>(Value.tuple #[(Sl.v q),(VI r)])) P 235 #[l.v,x.v] d L fun q r af=>
E1 Sl.v P (Instr.makeSlice 186 (VI (c.n:Int)) (VI (c.n:Int))) af L fun a ag=>
dQ a g/\
Aj P (Instr.storeAt 153 (Value.pointer (some (Sl.at a g 2))) (Value.agg #[(VI 1),(VI 1)])) ag fun al a1=>Va a1 L fun L=>
dQ a k/\
Aj P (Instr.storeAt 153 (Value.pointer (some (Sl.at a k 2))) (Value.agg #[(VI 0),(VI 1)])) a1 fun am a2=>Va a2 L fun L=>
O1 0 a2 fun ah ai(j:Int) f=>
Vars f L->
Br (decide (j<(b.n:Int)))
(G1 VI f b j 1 fun a3=>
G1 VI f q j 1 fun aj=>
C2 (fun s t=>(Value.agg #[(VI s),(VI t)])) P 236 #[(VI aj),(VI r)] f L fun s t ak=>
dQ a a3/\
Aj P (Instr.storeAt 153 (Value.pointer (some (Sl.at a a3 2))) (Value.agg #[(VI s),(VI t)])) ak fun an a4=>Va a4 L fun L=>
Nj ai fun m=>ah m (aL (j+1)) a4)
(K a.v f)))
theorem agp(b:Sl)(c:Int)(d:Int)(h:Heap)(K:KQ)(H:ago Tryz.prog b c d h K):aE Tryz.prog 186 #[(Value.agg #[b.v]),(VI c),(VI d)] h K:=cw mixed Tryz.func186 [(122,⟨[⟨9,.l .sl⟩,⟨29,.l (.i .i64)⟩],[],[]⟩),(4090,⟨[⟨74,.l (.i .i64)⟩],[],[]⟩),(125338,⟨[⟨12,.l (.i .i64)⟩,⟨39,.l (.i .i64)⟩],[],[]⟩)] [.v (.a [.sl b]),.v (.l (.i .i64 c)),.v (.l (.i .i64 d))] [] [] .nil 90 (by kernel_rfl) H
def agq(P:Program)(a:Sl)(b:Int)(h:Heap)(K:KQ):Prop:=pk (
A1 h [] (fun c=>(c,[a.v])::[]) fun c e L=>
C1 VB P 121 #[(Value.agg #[a.v]),(VI b)] e L fun f d=>
Br f
(C1 VB P 237 #[(Value.agg #[a.v]),(VI b)] d L fun g i=>
K (VB g) i)
(K (VB false) d))
theorem agr(b:Sl)(c:Int)(h:Heap)(K:KQ)(H:agq Tryz.prog b c h K):aE Tryz.prog 187 #[(Value.agg #[b.v]),(VI c)] h K:=cw mixed Tryz.func187 [] [.v (.a [.sl b]),.v (.l (.i .i64 c))] [] [] .nil 13 (by kernel_rfl) H
def ags(P:Program)(c:Sl)(j:Int)(h:Heap)(K:KQ):Prop:=pk (
A1 h [] (fun f=>(f,[c.v])::[]) fun f k L=>
O2 aC 0 k fun l o(g:Sl)(b:Int) a=>
Vars a L->
Br (decide (b<(c.n:Int)))
(G1 Sl.v a c b 1 fun p=>
∃d:Int->Heap->Prop,(Br (decide (b=j))
(d 0 a)
(d (aL ((p.n:Int)-1)) a))/\
∀(i:Int)(e:Heap),d i e->Vars e L->
E1 Sl.v P (Instr.buildSlice 27 1 #[(0,(VI i))]) e L fun q r=>
E1 Sl.v P (bK 27 27 27 g.v q.v) r L fun s t=>
Nj o fun m=>l m s (aL (b+1)) t)
(K g.v a))
theorem agt(b:Sl)(c:Int)(h:Heap)(K:KQ)(H:ags Tryz.prog b c h K):aE Tryz.prog 188 #[(Value.agg #[b.v]),(VI c)] h K:=cw mixed Tryz.func188 [(58,⟨[⟨5,.l .sl⟩,⟨12,.l (.i .i64)⟩],[],[]⟩),(7475,⟨[⟨8,.l (.i .i64)⟩],[],[]⟩)] [.v (.a [.sl b]),.v (.l (.i .i64 c))] [] [] .nil 29 (by kernel_rfl) H
def agu(P:Program)(a:Int)(d:Int)(e:Int)(f:Int)(h:Heap)(K:KQ):Prop:=pk (
C1 VI P 238 #[(VI a),(VI d)] h [] fun g b=>
Br (decide (0<g))
(C1 VB P 119 #[(VI e),(VI 0),(VI a)] b [] fun i c=>
Br i
(C1 VB P 119 #[(VI f),(VI 0),(VI 200)] c [] fun j k=>
K (VB j) k)
(K (VB false) c))
(K (VB false) b))
theorem agv(a:Int)(b:Int)(c:Int)(d:Int)(h:Heap)(K:KQ)(H:agu Tryz.prog a b c d h K):aE Tryz.prog 189 #[(VI a),(VI b),(VI c),(VI d)] h K:=cw mixed Tryz.func189 [] [.v (.l (.i .i64 a)),.v (.l (.i .i64 b)),.v (.l (.i .i64 c)),.v (.l (.i .i64 d))] [] [] .nil 22 (by kernel_rfl) H
def agw(P:Program)(c:Sl)(h:Heap)(K:KQ):Prop:=pk (
O2 0 0 h fun e f(d:Int)(b:Int) a=>
Vars a []->
Br (decide (b<(c.n:Int)))
(G1 VI a c b 1 fun g=>
Nj f fun m=>e m (aL (d+g)) (aL (b+1)) a)
(K (VI d) a))
theorem agx(a:Sl)(h:Heap)(K:KQ)(H:agw Tryz.prog a h K):aE Tryz.prog 190 #[a.v] h K:=cw mixed Tryz.func190 [(58,⟨[⟨3,.l (.i .i64)⟩,⟨8,.l (.i .i64)⟩],[],[]⟩)] [.v (.l (.sl a))] [] [] .nil 17 (by kernel_rfl) H
def agy(P:Program)(e:Int)(f:Int)(g:Int)(i:Int)(h:Heap)(K:KQ):Prop:=pk (
C1 (fun a=>(Value.pointer a)) P 239 #[(VI e),(VI f),(VI g)] h [] fun a j=>
O1 0 j fun k l(c:Int) b=>
Vars b []->
Br (decide (c<i))
(aE P 240 #[(Value.pointer a)] b fun o d=>Va d [] fun L=>
Nj l fun m=>k m (aL (c+1)) d)
(K (Value.pointer a) b))
theorem agz(a:Int)(b:Int)(c:Int)(d:Int)(h:Heap)(K:KQ)(H:agy Tryz.prog a b c d h K):aE Tryz.prog 191 #[(VI a),(VI b),(VI c),(VI d)] h K:=cw mixed Tryz.func191 [(58,⟨[⟨10,.l (.i .i64)⟩],[],[]⟩)] [.v (.l (.i .i64 a)),.v (.l (.i .i64 b)),.v (.l (.i .i64 c)),.v (.l (.i .i64 d))] [] [] .nil 23 (by kernel_rfl) H
def agA(P:Program)(b:Int)(c:Int)(h:Heap)(K:KQ):Prop:=pk (
C1 VB P 119 #[(VI b),(VI 0),(VI 250)] h [] fun d a=>
Br d
(C1 VB P 119 #[(VI c),(VI 0),(VI 3)] a [] fun e f=>
K (VB e) f)
(K (VB false) a))
theorem agB(a:Int)(b:Int)(h:Heap)(K:KQ)(H:agA Tryz.prog a b h K):aE Tryz.prog 192 #[(VI a),(VI b)] h K:=cw mixed Tryz.func192 [] [.v (.l (.i .i64 a)),.v (.l (.i .i64 b))] [] [] .nil 11 (by kernel_rfl) H
def agC(P:Program)(af:Int)(ag:Int)(h:Heap)(K:KQ):Prop:=pk (
∃l:Nat->Sl->Sl->Sl->Int->Heap->Prop,((E1 Sl.v P (Instr.makeSlice 195 (.int .i64 14641) (.int .i64 14641)) h [] fun a1 ah=>
E1 Sl.v P (Instr.makeSlice 27 (.int .i64 14641) (.int .i64 14641)) ah [] fun a2 ai=>
A1 ai [] (fun o=>(o,[a1.v,a2.v,aC.v,(VI 0)])::[]) fun o aj L=>
l o a1 a2 aC 0 aj)/\
(E1 Sl.v P (Instr.makeSlice 27 (.int .i64 14641) (.int .i64 14641)) h [] fun a3 ak=>
E1 Sl.v P (Instr.makeSlice 195 (.int .i64 14641) (.int .i64 14641)) ak [] fun a4 al=>
A1 al [] (fun p=>(p,[a4.v,a3.v,aC.v,(VI 0)])::[]) fun p am L=>
l p a4 a3 aC 0 am))/\
∀(d:Nat)(q:Sl)(c:Sl)(r:Sl)(s:Int)(t:Heap),l d q c r s t->Vi t ((d,[q.v,c.v,r.v,(VI s)])::[]) fun L=>
O1 0 t fun an ao(i:Int) u=>
Vars u L->
Br (decide (i<(c.n:Int)))
(dQ c i/\
S1 u (Sl.at c i 1) (VI ag) L fun ap=>
Nj ao fun m=>an m (aL (i+1)) ap)
(O5 af q c r s u fun aq ar(a5:Int)(a6:Sl)(a7:Sl)(a8:Sl)(a9:Int) x=>
Vi x (Z0 [a6.v,a7.v,a8.v,(VI a9)] L) fun L=>
Br (decide (0<a5))
(O6 0 0 a6 a7 a8 a9 x fun au av(e:Int)(f:Int)(b:Sl)(a:Sl)(j:Sl)(g:Int) aa=>
Vi aa (Z0 [b.v,a.v,j.v,(VI g)] L) fun L=>
C1 VI P 241 #[(VI e),(VI f)] aa L fun aw y=>
G1 VB y b aw 1 fun ax=>
Br ax
(C1 VI P 241 #[(VI e),(VI f)] y L fun k ab=>
G1 VI ab a k 1 fun ay=>
dQ a k/\
S1 ab (Sl.at a k 1) (VI (Int.tmod (aL (ay+1)) 4)) L fun ac=>
G1 VI ac a k 1 fun az=>
C2 (fun z a0=>(Value.tuple #[(VI z),(VI a0)])) P 242 #[(VI e),(VI f),(VI az)] ac L fun z a0 b0=>
A0 b0 [d] (Z0 [b.v,a.v,j.v,(VI (aL (g+1)))] L) fun b1 L=>
Nj av fun m=>au m z a0 b a j (aL (g+1)) b1)
(C1 VI P 241 #[(VI e),(VI f)] y L fun ad b2=>
dQ b ad/\
S1 b2 (Sl.at b ad 1) (VB true) L fun b3=>
E1 Sl.v P (Instr.buildSlice 27 2 #[(0,(VI e)),(1,(VI f))]) b3 L fun b4 b5=>
E1 Sl.v P (Instr.buildSlice 24 1 #[(0,b4.v)]) b5 L fun b6 b7=>
E1 Sl.v P (bK 24 24 24 j.v b6.v) b7 L fun ae b8=>
A0 b8 [d] (Z0 [b.v,a.v,ae.v,(VI g)] L) fun b9 L=>
Nj ar fun m=>aq m (aL (a5-1)) b a ae g b9))
(K (VP d 0) x)))
theorem v193(a:Int)(b:Int)(h:Heap)(K:KQ)(H:agC Tryz.prog a b h K):aE Tryz.prog 193 #[(VI a),(VI b)] h K:=cw mixed Tryz.func193 [(3,⟨[],[],[(5,[.sl,.sl,.sl,.i .i64])]⟩),(58,⟨[⟨19,.l (.i .i64)⟩],[],[]⟩),(60,⟨[⟨0,.l (.i .i64)⟩],[0],[]⟩),(7716,⟨[⟨7,.l (.i .i64)⟩,⟨8,.l (.i .i64)⟩],[0],[]⟩)] [.v (.l (.i .i64 a)),.v (.l (.i .i64 b))] [] [] .nil 102 (by kernel_rfl) H
def agD(P:Program)(e:ByteArray)(h:Heap)(K:KQ):Prop:=pk (
E1 Sl.v P (Instr.buildSlice 27 0 #[]) h [] fun f g=>
Br (ByteArray.toList e==ByteArray.toList ({data:= #[45]}))
(K (Value.tuple #[f.v,(VB true)]) g)
(C1 Sl.v P 81 #[(VS e),(VS ({data:= #[44]}))] g [] fun i p=>
O2 f 0 p fun q r(j:Sl)(c:Int) a=>
Vars a []->
Br (decide (c<(i.n:Int)))
(G1 VS a i c 1 fun k=>
C2 (fun b d=>(Value.tuple #[(VI b),d])) P 154 #[(VS k)] a [] fun b d l=>
Q1 VB P (lF .neq 163 (.tmp 25) (.const Value.nilIface) d Value.nilIface) fun s=>
Br s
(K (Value.tuple #[aC.v,(VB false)]) l)
(C1 VS P 92 #[(VI b)] l [] fun t o=>
Br (!(ByteArray.toList t==ByteArray.toList k))
(K (Value.tuple #[aC.v,(VB false)]) o)
(E1 Sl.v P (Instr.buildSlice 27 1 #[(0,(VI b))]) o [] fun u x=>
E1 Sl.v P (bK 27 27 27 j.v u.v) x [] fun y z=>
Nj r fun m=>q m y (aL (c+1)) z)))
(K (Value.tuple #[j.v,(VB true)]) a)))
theorem agE(a:ByteArray)(h:Heap)(K:KQ)(H:agD Tryz.prog a h K):aE Tryz.prog 199 #[(VS a)] h K:=cw mixed Tryz.func199 [(122,⟨[⟨4,.l .sl⟩,⟨16,.l (.i .i64)⟩],[],[]⟩)] [.v (.l (.s a))] [] [] .nil 39 (by kernel_rfl) H
def agF(P:Program)(a:Sl)(h:Heap)(K:KQ):Prop:=pk (
A2 h [] (fun c b=>(b,[aC.v])::((c,[a.v])::[])) fun c b e L=>
C1 VB P 50 #[(Value.agg #[a.v])] e L fun f d=>
Br (!f)
(A0 d [b] (Z0 [aC.v] L) fun g L=>
K (Value.tuple #[(Value.agg #[aC.v]),(VB false)]) g)
(A0 d [b] (Z0 [a.v] L) fun i L=>
K (Value.tuple #[(Value.agg #[a.v]),(VB true)]) i))
theorem agG(b:Sl)(h:Heap)(K:KQ)(H:agF Tryz.prog b h K):aE Tryz.prog 200 #[(Value.agg #[b.v])] h K:=cw mixed Tryz.func200 [] [.v (.a [.sl b])] [] [] .nil 9 (by kernel_rfl) H
def agH(P:Program)(s:Sl)(t:Sl)(u:Int)(h:Heap)(K:KQ):Prop:=pk (
A2 h [] (fun x y=>(y,[t.v,(VI u)])::((x,[s.v])::[])) fun x y a5 L=>
E1 (fun a=>(Value.map a)) P (Instr.makeMap 257 none) a5 L fun a a6=>
C2 (fun b c=>(Value.agg #[(Sl.v b),(VI c)])) P 110 #[(Value.agg #[t.v,(VI u)])] a6 L fun b c a7=>
A1 a7 [] (fun e=>Z0 [b.v,(VI c)] ((e,[aC.v,(VI 0)])::L)) fun e a8 L=>
∃f:Sl->Int->Heap->Prop,(O3 0 b c a8 fun a9 aa(d:Int)(g:Sl)(i:Int) j=>
Vi j (Z0 [g.v,(VI i)] L) fun L=>
Br (decide (d<=2000))
(C1 VS P 55 #[(Value.agg #[g.v,(VI i)])] j L fun z k=>
zN P (Instr.lookup 257 (Value.map a) (VS z) true) k fun ab=>∃l:Int,∃a0:Bool,ab=(Value.tuple #[(VI l),(VB a0)])/\
Br a0
(K (Value.tuple #[(VI l),(VI (aL (d-l))),(VB true)]) k)
(Aj P (Instr.mapUpdate 257 (Value.map a) (VS z) (VI d)) k fun ad a1=>Va a1 L fun L=>
aE P 254 #[(Value.agg #[s.v]),(VP e 0)] a1 fun ac o=>∃p:Sl,∃q:Int,∃a2:Bool,ac=(VB a2)/\Va o (Z0 [p.v,(VI q)] L) fun L=>
Br (!a2)
(f p q o)
(Nj aa fun m=>a9 m (aL (d+1)) p q o)))
(f g i j))/\
∀(a3:Sl)(a4:Int)(r:Heap),f a3 a4 r->Vi r (Z0 [a3.v,(VI a4)] L) fun L=>
K (Value.tuple #[(VI 0),(VI 0),(VB false)]) r)
theorem v203(b:Sl)(c:Sl)(d:Int)(h:Heap)(K:KQ)(H:agH Tryz.prog b c d h K):aE Tryz.prog 203 #[(Value.agg #[b.v]),(Value.agg #[c.v,(VI d)])] h K:=cw mixed Tryz.func203 [(7,⟨[],[2],[]⟩),(58,⟨[⟨9,.l (.i .i64)⟩],[2],[]⟩)] [.v (.a [.sl b]),.v (.a [.sl c,.i .i64 d])] [] [] .nil 39 (by kernel_rfl) H
def agI(P:Program)(c:Sl)(j:Sl)(k:Int)(h:Heap)(K:KQ):Prop:=pk (
A1 h [] (fun d=>(d,[c.v])::[]) fun d l L=>
E1 Sl.v P (Instr.buildSlice 27 0 #[]) l L fun o p=>
O2 k o p fun q r(a:Int)(b:Sl) e=>
Vars e L->
C1 VB P 255 #[b.v,(VI a)] e L fun s f=>
Br (!s)
(E1 Sl.v P (Instr.buildSlice 27 1 #[(0,(VI a))]) f L fun t u=>
E1 Sl.v P (bK 27 27 27 b.v t.v) u L fun x y=>
C1 VI P 256 #[(Value.agg #[c.v]),j.v,(VI a)] y L fun g i=>
Br (decide (g<0))
(K (Value.tuple #[aC.v,(VB false)]) i)
(Nj r fun m=>q m g x i))
(C1 VI P 257 #[b.v,(VI a)] f L fun z a0=>
Q1 Sl.v P (Instr.sliceAt 27 b.v (some (VI z)) none none) fun a1=>
K (Value.tuple #[a1.v,(VB true)]) a0))
theorem agJ(b:Sl)(c:Sl)(d:Int)(h:Heap)(K:KQ)(H:agI Tryz.prog b c d h K):aE Tryz.prog 204 #[(Value.agg #[b.v]),c.v,(VI d)] h K:=cw mixed Tryz.func204 [(28,⟨[⟨2,.l (.i .i64)⟩,⟨8,.l .sl⟩],[],[]⟩)] [.v (.a [.sl b]),.v (.l (.sl c)),.v (.l (.i .i64 d))] [] [] .nil 29 (by kernel_rfl) H
def agK(P:Program)(a:Sl)(b:Sl)(c:Int)(g:Int)(i:Int)(h:Heap)(K:KQ):Prop:=pk (
A2 h [] (fun d e=>(e,[b.v,(VI c)])::((d,[a.v])::[])) fun d e j L=>
C1 VB P 77 #[(Value.agg #[a.v]),(Value.agg #[b.v,(VI c)])] j L fun k f=>
Br k
(C1 VB P 52 #[(VI g),(VI 0),(VI i)] f L fun l o=>
K (VB l) o)
(K (VB false) f))
theorem agL(b:Sl)(c:Sl)(d:Int)(e:Int)(f:Int)(h:Heap)(K:KQ)(H:agK Tryz.prog b c d e f h K):aE Tryz.prog 205 #[(Value.agg #[b.v]),(Value.agg #[c.v,(VI d)]),(VI e),(VI f)] h K:=cw mixed Tryz.func205 [] [.v (.a [.sl b]),.v (.a [.sl c,.i .i64 d]),.v (.l (.i .i64 e)),.v (.l (.i .i64 f))] [] [] .nil 17 (by kernel_rfl) H
def agM(P:Program)(c:Sl)(d:Nat)(e:Sl)(f:Int)(q:Int)(r:Value)(h:Heap)(K:KQ):Prop:=pk (
Lt [(d,[e.v,(VI f)])] fun L=>
A1 h [] (fun g=>(g,[c.v])::L) fun g s L=>
O3 0 e f s fun t u(i:Int)(x:Sl)(j:Int) a=>
Vi a (Z1 [x.v,(VI j)] L) fun L=>
Br (decide (i<q))
(aE P 254 #[(Value.agg #[c.v]),(VP d 0)] a fun y b=>∃k:Sl,∃l:Int,∃o:Bool,y=(VB o)/\Va b (Z1 [k.v,(VI l)] L) fun L=>
Br (!o)
(K (VB false) b)
(fA P r [(VI j)] b fun z p=>Va p L fun L=>
Nj u fun m=>t m (aL (i+1)) k l p))
(K (VB true) a))
theorem v206(c:Sl)(b:Nat)(d:Sl)(e:Int)(f:Int)(g:Value)(h:Heap)(K:KQ)(hL:Vars h [(b,[d.v,(VI e)])])(H:agM Tryz.prog c b d e f g h K):aE Tryz.prog 206 #[(Value.agg #[c.v]),(VP b 0),(VI f),g] h K:=cw mixed Tryz.func206 [(26,⟨[⟨11,.l (.i .i64)⟩],[0],[]⟩)] [.v (.a [.sl c]),.v (.l (.p 0 0)),.v (.l (.i .i64 f)),.v (.l (.r g))] [(0,[.sl d,.i .i64 e])] [b] hL 25 (by kernel_rfl) H
def agN(P:Program)(a:Int)(h:Heap)(K:KQ):Prop:=pk (
K (Value.tuple #[]) h)
theorem agO(a:Int)(h:Heap)(K:KQ)(H:agN Tryz.prog a h K):aE Tryz.prog 207 #[(VI a)] h K:=cw mixed Tryz.func207 [] [.v (.l (.i .i64 a))] [] [] .nil 2 (by kernel_rfl) H
def agP(P:Program)(l:Int)(a:Nat)(b:Sl)(d:Nat)(e:Sl)(c:Int)(h:Heap)(K:KQ):Prop:=pk (
Lt [(a,[b.v]),(d,[e.v,(VI c)])] fun L=>
E1 Sl.v P (Instr.buildSlice 27 1 #[(0,(VI c))]) h L fun f g=>
E1 Sl.v P (bK 27 27 27 b.v f.v) g L fun i j=>
A0 j [a] (Z0 [i.v] L) fun k L=>
K (Value.tuple #[]) k)
theorem v208(c:Int)(a:Nat)(d:Sl)(b:Nat)(e:Sl)(f:Int)(h:Heap)(K:KQ)(hL:Vars h [(a,[d.v]),(b,[e.v,(VI f)])])(H:agP Tryz.prog c a d b e f h K):aE Tryz.prog 208 #[(VI c),(VP a 0),(VP b 0)] h K:=cw mixed Tryz.func208 [] [.v (.l (.i .i64 c)),.v (.l (.p 0 0)),.v (.l (.p 1 0))] [(0,[.sl d]),(1,[.sl e,.i .i64 f])] [a,b] hL 9 (by kernel_rfl) H
def agQ(P:Program)(i:Int)(c:Nat)(a:Sl)(d:Nat)(e:Sl)(b:Int)(h:Heap)(K:KQ):Prop:=pk (
Lt [(c,[a.v]),(d,[e.v,(VI b)])] fun L=>
G1 VI h a b 1 fun f=>
dQ a b/\
S1 h (Sl.at a b 1) (VI (aL (f+1))) L fun g=>
K (Value.tuple #[]) g)
theorem agR(c:Int)(a:Nat)(d:Sl)(b:Nat)(e:Sl)(f:Int)(h:Heap)(K:KQ)(hL:Vars h [(a,[d.v]),(b,[e.v,(VI f)])])(H:agQ Tryz.prog c a d b e f h K):aE Tryz.prog 209 #[(VI c),(VP a 0),(VP b 0)] h K:=cw mixed Tryz.func209 [] [.v (.l (.i .i64 c)),.v (.l (.p 0 0)),.v (.l (.p 1 0))] [(0,[.sl d]),(1,[.sl e,.i .i64 f])] [a,b] hL 11 (by kernel_rfl) H
def agS(P:Program)(f:Sl)(k:Sl)(l:Int)(a3:Int)(a4:Value)(h:Heap)(K:KQ):Prop:=pk (
A2 h [] (fun o p=>(p,[k.v,(VI l)])::((o,[f.v])::[])) fun o p a5 L=>
C2 (fun b c=>(Value.agg #[(Sl.v b),(VI c)])) P 110 #[(Value.agg #[k.v,(VI l)])] a5 L fun b c a6=>
A1 a6 [] (fun d=>Z0 [b.v,(VI c)] ((d,[aC.v,(VI 0)])::L)) fun d a7 L=>
O3 0 b c a7 fun q r(a:Int)(s:Sl)(t:Int) e=>
Vi e (Z0 [s.v,(VI t)] L) fun L=>
Br (decide (a<=2000))
(Br (decide (a3<=a))
(fA P a4 [(Value.agg #[s.v,(VI t)])] e fun a8 g=>∃u:Bool,a8=(VB u)/\Va g L fun L=>
Br u
(K (Value.tuple #[(VI a),(VB true)]) g)
(aE P 254 #[(Value.agg #[f.v]),(VP d 0)] g fun a9 i=>∃x:Sl,∃y:Int,∃z:Bool,a9=(VB z)/\Va i (Z0 [x.v,(VI y)] L) fun L=>
Br (!z)
(K (Value.tuple #[(VI 0),(VB false)]) i)
(Nj r fun m=>q m (aL (a+1)) x y i)))
(aE P 254 #[(Value.agg #[f.v]),(VP d 0)] e fun aa j=>∃a0:Sl,∃a1:Int,∃a2:Bool,aa=(VB a2)/\Va j (Z0 [a0.v,(VI a1)] L) fun L=>
Br (!a2)
(K (Value.tuple #[(VI 0),(VB false)]) j)
(Nj r fun m=>q m (aL (a+1)) a0 a1 j)))
(K (Value.tuple #[(VI 0),(VB false)]) e))
theorem v210(b:Sl)(c:Sl)(d:Int)(e:Int)(f:Value)(h:Heap)(K:KQ)(H:agS Tryz.prog b c d e f h K):aE Tryz.prog 210 #[(Value.agg #[b.v]),(Value.agg #[c.v,(VI d)]),(VI e),f] h K:=cw mixed Tryz.func210 [(58,⟨[⟨11,.l (.i .i64)⟩],[2],[]⟩)] [.v (.a [.sl b]),.v (.a [.sl c,.i .i64 d]),.v (.l (.i .i64 e)),.v (.l (.r f))] [] [] .nil 30 (by kernel_rfl) H
def agT(P:Program)(d:Sl)(a:Int)(e:Nat)(b:Int)(h:Heap)(K:KQ):Prop:=pk (
Lt [(e,[(VI b)])] fun L=>
A1 h [] (fun c=>(c,[d.v,(VI a)])::L) fun c f L=>
K (VB (decide (a=b))) f)
theorem agU(c:Sl)(d:Int)(b:Nat)(e:Int)(h:Heap)(K:KQ)(hL:Vars h [(b,[(VI e)])])(H:agT Tryz.prog c d b e h K):aE Tryz.prog 211 #[(Value.agg #[c.v,(VI d)]),(VP b 0)] h K:=cw mixed Tryz.func211 [] [.v (.a [.sl c,.i .i64 d]),.v (.l (.p 0 0))] [(0,[.i .i64 e])] [b] hL 8 (by kernel_rfl) H
def agV(P:Program)(g:Sl)(h:Heap)(K:KQ):Prop:=pk (
E1 Sl.v P (Instr.buildSlice 24 0 #[]) h [] fun a7 a8=>
O2 a7 0 a8 fun a9 aa(b:Sl)(t:Int) s=>
Vars s []->
Br (decide (t<(g.n:Int)))
(G1 Sl.v s g t 1 fun ab=>
C1 Sl.v P 152 #[ab.v] s [] fun ac ad=>
E1 Sl.v P (Instr.buildSlice 24 1 #[(0,ac.v)]) ad [] fun ae af=>
E1 Sl.v P (bK 24 24 24 b.v ae.v) af [] fun ag ah=>
Nj aa fun m=>a9 m ag (aL (t+1)) ah)
(O3 1 1 0 s fun a1 a2(k:Int)(l:Int)(a:Int) u=>
Vars u []->
Br (decide (a<(g.n:Int)))
(O1 a u fun ai aj(d:Int) c=>
Vars c []->
Br (decide (d<(g.n:Int)))
(G1 Sl.v c b d 1 fun ak=>
G1 VI c ak a 1 fun al=>
Br (decide (al=0))
(Nj aj fun m=>ai m (aL (d+1)) c)
(Br (decide (d=(g.n:Int)))
(K (VI 0) c)
(∃x:Int->Heap->Prop,(Br (!decide (d=a))
(G1 Sl.v c b a 1 fun am=>
G1 Sl.v c b d 1 fun an=>
dQ b d/\
S1 c (Sl.at b d 1) am.v [] fun ao=>
dQ b a/\
S1 ao (Sl.at b a 1) an.v [] fun ap=>
x (aL (0-k)) ap)
(x k c))/\
∀(a3:Int)(y:Heap),x a3 y->Vars y []->
O1 (aL (a+1)) y fun aq ar(o:Int) p=>
Vars p []->
Br (decide (o<(g.n:Int)))
(O1 (aL (a+1)) p fun au av(i:Int) e=>
Vars e []->
Br (decide (i<(g.n:Int)))
(G1 Sl.v e b o 1 fun a4=>
G1 Sl.v e b o 1 fun aw=>
G1 VI e aw i 1 fun ax=>
G1 Sl.v e b a 1 fun ay=>
G1 VI e ay a 1 fun az=>
G1 Sl.v e b o 1 fun b0=>
G1 VI e b0 a 1 fun b1=>
G1 Sl.v e b a 1 fun b2=>
G1 VI e b2 i 1 fun b3=>
l≠0/\
dQ a4 i/\
S1 e (Sl.at a4 i 1) (VI (aL (Int.tdiv (aL ((aL (ax*az))-(aL (b1*b3)))) l))) [] fun b4=>
Nj av fun m=>au m (aL (i+1)) b4)
(Nj ar fun m=>aq m (aL (o+1)) e))
(G1 Sl.v p b a 1 fun b5=>
G1 VI p b5 a 1 fun b6=>
Nj a2 fun m=>a1 m a3 b6 (aL (a+1)) p))))
(Br (decide (d=(g.n:Int)))
(K (VI 0) c)
(∃z:Int->Heap->Prop,(Br (!decide (d=a))
(G1 Sl.v c b a 1 fun b7=>
G1 Sl.v c b d 1 fun b8=>
dQ b d/\
S1 c (Sl.at b d 1) b7.v [] fun b9=>
dQ b a/\
S1 b9 (Sl.at b a 1) b8.v [] fun ba=>
z (aL (0-k)) ba)
(z k c))/\
∀(a5:Int)(a0:Heap),z a5 a0->Vars a0 []->
O1 (aL (a+1)) a0 fun bb bc(q:Int) r=>
Vars r []->
Br (decide (q<(g.n:Int)))
(O1 (aL (a+1)) r fun bd be(j:Int) f=>
Vars f []->
Br (decide (j<(g.n:Int)))
(G1 Sl.v f b q 1 fun a6=>
G1 Sl.v f b q 1 fun bf=>
G1 VI f bf j 1 fun bg=>
G1 Sl.v f b a 1 fun bh=>
G1 VI f bh a 1 fun bi=>
G1 Sl.v f b q 1 fun bj=>
G1 VI f bj a 1 fun bk=>
G1 Sl.v f b a 1 fun bl=>
G1 VI f bl j 1 fun bm=>
l≠0/\
dQ a6 j/\
S1 f (Sl.at a6 j 1) (VI (aL (Int.tdiv (aL ((aL (bg*bi))-(aL (bk*bm)))) l))) [] fun bn=>
Nj be fun m=>bd m (aL (j+1)) bn)
(Nj bc fun m=>bb m (aL (q+1)) f))
(G1 Sl.v r b a 1 fun bo=>
G1 VI r bo a 1 fun bp=>
Nj a2 fun m=>a1 m a5 bp (aL (a+1)) r))))
(K (VI (aL (k*l))) u)))
theorem v212(a:Sl)(h:Heap)(K:KQ)(H:agV Tryz.prog a h K):aE Tryz.prog 212 #[a.v] h K:=cw mixed Tryz.func212 [(122,⟨[⟨6,.l .sl⟩,⟨18,.l (.i .i64)⟩],[],[]⟩),(250,⟨[⟨4,.l (.i .i64)⟩,⟨5,.l (.i .i64)⟩,⟨29,.l (.i .i64)⟩],[],[]⟩),(128204,⟨[⟨10,.l (.i .i64)⟩],[],[]⟩),(128207,⟨[⟨4,.l (.i .i64)⟩],[],[]⟩),(2051322,⟨[⟨11,.l (.i .i64)⟩],[],[]⟩),(131284626,⟨[⟨12,.l (.i .i64)⟩],[],[]⟩)] [.v (.l (.sl a))] [] [] .nil 134 (by kernel_rfl) H
def agW(P:Program)(c:Sl)(f:Int)(h:Heap)(K:KQ):Prop:=pk (
A1 h [] (fun l=>(l,[c.v])::[]) fun l q L=>
E1 Sl.v P (Instr.buildSlice 24 0 #[]) q L fun r s=>
O2 r 0 s fun o p(g:Sl)(a:Int) d=>
Vars d L->
Br (decide (a<(c.n:Int)))
(G1 Sl.v d c a 1 fun i=>
Br (decide (a=f))
(Nj p fun m=>o m g (aL (a+1)) d)
(E1 Sl.v P (Instr.makeSlice 27 (VI (c.n:Int)) (VI (c.n:Int))) d L fun b t=>
dQ b a/\
S1 t (Sl.at b a 1) (VI (i.n:Int)) L fun u=>
O1 0 u fun x y(j:Int) e=>
Vars e L->
Br (decide (j<(i.n:Int)))
(G1 VI e i j 1 fun k=>
G1 VI e b k 1 fun z=>
dQ b k/\
S1 e (Sl.at b k 1) (VI (aL (z-1))) L fun a0=>
Nj y fun m=>x m (aL (j+1)) a0)
(C1 Sl.v P 258 #[b.v,(VI f),(VI (aL (f+1)))] e L fun a1 a2=>
E1 Sl.v P (Instr.buildSlice 24 1 #[(0,a1.v)]) a2 L fun a3 a4=>
E1 Sl.v P (bK 24 24 24 g.v a3.v) a4 L fun a5 a6=>
Nj p fun m=>o m a5 (aL (a+1)) a6)))
(K g.v d))
theorem agX(b:Sl)(c:Int)(h:Heap)(K:KQ)(H:agW Tryz.prog b c h K):aE Tryz.prog 213 #[(Value.agg #[b.v]),(VI c)] h K:=cw mixed Tryz.func213 [(58,⟨[⟨5,.l .sl⟩,⟨15,.l (.i .i64)⟩],[],[]⟩),(239226,⟨[⟨34,.l (.i .i64)⟩],[],[]⟩)] [.v (.a [.sl b]),.v (.l (.i .i64 c))] [] [] .nil 55 (by kernel_rfl) H
def agY(P:Program)(a:Sl)(b:Int)(h:Heap)(K:KQ):Prop:=pk (
A1 h [] (fun c=>(c,[a.v])::[]) fun c e L=>
E1 Sl.v P (Instr.buildSlice 27 1 #[(0,(VI b))]) e L fun f g=>
C1 VB P 107 #[(Value.agg #[a.v]),f.v] g L fun i d=>
Br i
(C1 VB P 259 #[(Value.agg #[a.v]),(VI b)] d L fun j k=>
K (VB j) k)
(K (VB false) d))
theorem agZ(b:Sl)(c:Int)(h:Heap)(K:KQ)(H:agY Tryz.prog b c h K):aE Tryz.prog 214 #[(Value.agg #[b.v]),(VI c)] h K:=cw mixed Tryz.func214 [] [.v (.a [.sl b]),.v (.l (.i .i64 c))] [] [] .nil 14 (by kernel_rfl) H
def ag0(P:Program)(c:Sl)(i:Int)(h:Heap)(K:KQ):Prop:=pk (
A1 h [] (fun e=>(e,[c.v])::[]) fun e j L=>
E1 Sl.v P (Instr.buildSlice 27 0 #[]) j L fun k l=>
O2 k 0 l fun f g(d:Sl)(a:Int) b=>
Vars b L->
Br (decide (a<(c.n:Int)))
(G1 Sl.v b c a 1 fun o=>
Br (decide (a=i))
(E1 Sl.v P (Instr.buildSlice 27 1 #[(0,(.int .i64 0))]) b L fun p q=>
E1 Sl.v P (bK 27 27 27 d.v p.v) q L fun r s=>
Nj g fun m=>f m r (aL (a+1)) s)
(E1 Sl.v P (Instr.buildSlice 27 1 #[(0,(VI (aL ((o.n:Int)-1))))]) b L fun t u=>
E1 Sl.v P (bK 27 27 27 d.v t.v) u L fun x y=>
Nj g fun m=>f m x (aL (a+1)) y))
(K d.v b))
theorem ag1(b:Sl)(c:Int)(h:Heap)(K:KQ)(H:ag0 Tryz.prog b c h K):aE Tryz.prog 215 #[(Value.agg #[b.v]),(VI c)] h K:=cw mixed Tryz.func215 [(58,⟨[⟨5,.l .sl⟩,⟨12,.l (.i .i64)⟩],[],[]⟩)] [.v (.a [.sl b]),.v (.l (.i .i64 c))] [] [] .nil 31 (by kernel_rfl) H
def ag2(P:Program)(e:Sl)(b:Int)(g:Int)(h:Heap)(K:KQ):Prop:=pk (
A2 h [] (fun i c=>(c,[aC.v])::((i,[e.v])::[])) fun i c q L=>
E1 Sl.v P (Instr.buildSlice 27 2 #[(0,(VI b)),(1,(VI g))]) q L fun r s=>
C1 VB P 107 #[(Value.agg #[e.v]),r.v] s L fun t j=>
Br (!t)
(A0 j [c] (Z0 [aC.v] L) fun u L=>
K (Value.tuple #[(Value.agg #[aC.v]),(VB false)]) u)
(C1 (fun a=>(Value.agg #[(Sl.v a)])) P 109 #[(Value.agg #[e.v])] j L fun a x=>
dQ a b/\
A1 x [] (fun k=>Z0 [a.v] ((k,[aC.v])::L)) fun k l L=>
H1 Sl.v l (Sl.at a b 1) fun o=>
E1 Sl.v P (Instr.buildSlice 27 1 #[(0,(VI g))]) l L fun y p=>
aR p (Sl.at a b 1)=some o.v/\
E1 Sl.v P (bK 27 27 27 o.v y.v) p L fun z a0=>
dQ a b/\
S1 a0 (Sl.at a b 1) z.v L fun a1=>
C2 (fun d f=>(Value.tuple #[(Value.agg #[(Sl.v d)]),(VB f)])) P 200 #[(Value.agg #[a.v])] a1 L fun d f a2=>
A0 a2 [c] (Z1 [d.v] L) fun a3 L=>
K (Value.tuple #[(Value.agg #[d.v]),(VB f)]) a3))
theorem ag3(b:Sl)(c:Int)(d:Int)(h:Heap)(K:KQ)(H:ag2 Tryz.prog b c d h K):aE Tryz.prog 216 #[(Value.agg #[b.v]),(VI c),(VI d)] h K:=cw mixed Tryz.func216 [] [.v (.a [.sl b]),.v (.l (.i .i64 c)),.v (.l (.i .i64 d))] [] [] .nil 34 (by kernel_rfl) H
def ag4(P:Program)(e:Sl)(f:Int)(g:Int)(h:Heap)(K:KQ):Prop:=pk (
A1 h [] (fun k=>(k,[e.v])::[]) fun k p L=>
E1 Sl.v P (Instr.buildSlice 27 2 #[(0,(VI f)),(1,(VI g))]) p L fun q r=>
C1 VB P 107 #[(Value.agg #[e.v]),q.v] r L fun s j=>
Br (!s)
(K (VB false) j)
(Br (decide (f=g))
(K (VB false) j)
(O1 0 j fun c d(a:Int) i=>
Vars i L->
Br (decide (a<(e.n:Int)))
(G1 Sl.v i e a 1 fun l=>
C1 Sl.v P 260 #[(Value.agg #[e.v]),(VI a)] i L fun o b=>
G1 VI b o f 1 fun t=>
Br (decide (t<0))
(G1 VI b o g 1 fun u=>
Br (decide (u<0))
(K (VB false) b)
(Br (!decide (a=f))
(Br (!decide (a=g))
(Br (decide ((l.n:Int)=0))
(K (VB false) b)
(Nj d fun m=>c m (aL (a+1)) b))
(Nj d fun m=>c m (aL (a+1)) b))
(Nj d fun m=>c m (aL (a+1)) b)))
(Br (!decide (a=f))
(Br (!decide (a=g))
(Br (decide ((l.n:Int)=0))
(K (VB false) b)
(Nj d fun m=>c m (aL (a+1)) b))
(Nj d fun m=>c m (aL (a+1)) b))
(Nj d fun m=>c m (aL (a+1)) b)))
(K (VB true) i))))
theorem ag5(b:Sl)(c:Int)(d:Int)(h:Heap)(K:KQ)(H:ag4 Tryz.prog b c d h K):aE Tryz.prog 217 #[(Value.agg #[b.v]),(VI c),(VI d)] h K:=cw mixed Tryz.func217 [(58,⟨[⟨24,.l (.i .i64)⟩],[],[]⟩)] [.v (.a [.sl b]),.v (.l (.i .i64 c)),.v (.l (.i .i64 d))] [] [] .nil 60 (by kernel_rfl) H
def ag6(P:Program)(c:Sl)(e:Int)(f:Int)(h:Heap)(K:KQ):Prop:=pk (
A1 h [] (fun d=>(d,[c.v])::[]) fun d g L=>
C2 (fun a b=>(Value.tuple #[(Sl.v a),(VI b)])) P 261 #[(Value.agg #[c.v]),(VI e),(VI f),(Value.func (.func 262) #[] #[]),(VI 1),(VI 0)] g L fun a b i=>
K (Value.tuple #[a.v,(VI b)]) i)
theorem v218(b:Sl)(c:Int)(d:Int)(h:Heap)(K:KQ)(H:ag6 Tryz.prog b c d h K):aE Tryz.prog 218 #[(Value.agg #[b.v]),(VI c),(VI d)] h K:=cw mixed Tryz.func218 [] [.v (.a [.sl b]),.v (.l (.i .i64 c)),.v (.l (.i .i64 d))] [] [] .nil 14 (by kernel_rfl) H
def ag7(P:Program)(c:Int)(b:Int)(h:Heap)(K:KQ):Prop:=pk (
A1 h [] (fun d=>(d,[(VI 0),(VI 0)])::[]) fun d j L=>
C1 VI P 263 #[(VI c),(VI b)] j L fun g i=>
∃e:Int->Heap->Prop,(Br (decide (b<0))
(e (aL (0-g)) i)
(e g i))/\
∀(a:Int)(f:Heap),e a f->Vars f L->
a≠0/\
a≠0/\
A0 f [d] (Z0 [(VI (aL (Int.tdiv c a))),(VI (aL (Int.tdiv b a)))] L) fun k L=>
K (Value.agg #[(VI (aL (Int.tdiv c a))),(VI (aL (Int.tdiv b a)))]) k)
theorem ag8(a:Int)(b:Int)(h:Heap)(K:KQ)(H:ag7 Tryz.prog a b h K):aE Tryz.prog 219 #[(VI a),(VI b)] h K:=cw mixed Tryz.func219 [(7,⟨[⟨5,.l (.i .i64)⟩],[],[]⟩)] [.v (.l (.i .i64 a)),.v (.l (.i .i64 b))] [] [] .nil 20 (by kernel_rfl) H
def ag9(P:Program)(b:Int)(c:Int)(h:Heap)(K:KQ):Prop:=pk (
C1 VB P 52 #[(VI b),(VI 0),(VI 250)] h [] fun f d=>
Br (!f)
(K (Value.tuple #[(Value.pointer none),(VB false)]) d)
(C1 VB P 52 #[(VI c),(VI 0),(VI 3)] d [] fun g e=>
Br (!g)
(K (Value.tuple #[(Value.pointer none),(VB false)]) e)
(C1 (fun a=>(Value.pointer a)) P 264 #[(VI b),(VI c),(VI 4),(Value.func (.func 265) #[] #[])] e [] fun a i=>
K (Value.tuple #[(Value.pointer a),(VB true)]) i)))
theorem aha(a:Int)(b:Int)(h:Heap)(K:KQ)(H:ag9 Tryz.prog a b h K):aE Tryz.prog 220 #[(VI a),(VI b)] h K:=cw mixed Tryz.func220 [] [.v (.l (.i .i64 a)),.v (.l (.i .i64 b))] [] [] .nil 17 (by kernel_rfl) H
def ahb(P:Program)(b:Int)(a:Int)(d:Int)(a6:Int)(h:Heap)(K:KQ):Prop:=pk (
C1 VB P 266 #[(VI b),(VI a)] h [] fun ba a7=>
Br (!ba)
(K (Value.tuple #[(Value.pointer none),(VB false)]) a7)
(C1 VB P 52 #[(VI d),(VI 0),(VI b)] a7 [] fun bb a8=>
Br (!bb)
(K (Value.tuple #[(Value.pointer none),(VB false)]) a8)
(C1 VB P 52 #[(VI a6),(VI 0),(VI 200)] a8 [] fun bc e=>
Br (!bc)
(K (Value.tuple #[(Value.pointer none),(VB false)]) e)
(∃c:Nat->Int->Int->Sl->Sl->Sl->Sl->Heap->Prop,((E1 Sl.v P (Instr.buildSlice 27 1 #[(0,(VI d))]) e [] fun j a9=>
(C1 VI P 268 #[(VI b),(VI (aL (a-1)))] a9 [] fun aa ab=>
(C1 Sl.v P 267 #[j.v,(VI aa)] ab [] fun ac bd=>
E1 Sl.v P (Instr.makeSlice 27 (VI (aL (a+1))) (VI (aL (a+1)))) bd [] fun ad be=>
A1 be [] (fun k=>(k,[(VI b),(VI a),ac.v,aC.v,aC.v,ad.v])::[]) fun k bf L=>
c k b a ac aC aC ad bf)/\
(E1 Sl.v P (Instr.makeSlice 27 (VI (aL (a+1))) (VI (aL (a+1)))) ab [] fun ae bg=>
C1 Sl.v P 267 #[j.v,(VI aa)] bg [] fun af bh=>
A1 bh [] (fun l=>(l,[(VI b),(VI a),af.v,aC.v,aC.v,ae.v])::[]) fun l bi L=>
c l b a af aC aC ae bi))/\
(E1 Sl.v P (Instr.makeSlice 27 (VI (aL (a+1))) (VI (aL (a+1)))) a9 [] fun ag bj=>
C1 VI P 268 #[(VI b),(VI (aL (a-1)))] bj [] fun bk bl=>
C1 Sl.v P 267 #[j.v,(VI bk)] bl [] fun ah bm=>
A1 bm [] (fun o=>(o,[(VI b),(VI a),ah.v,aC.v,aC.v,ag.v])::[]) fun o bn L=>
c o b a ah aC aC ag bn))/\
(C1 VI P 268 #[(VI b),(VI (aL (a-1)))] e [] fun p ai=>
(E1 Sl.v P (Instr.buildSlice 27 1 #[(0,(VI d))]) ai [] fun aj ak=>
(C1 Sl.v P 267 #[aj.v,(VI p)] ak [] fun al bo=>
E1 Sl.v P (Instr.makeSlice 27 (VI (aL (a+1))) (VI (aL (a+1)))) bo [] fun am bp=>
A1 bp [] (fun q=>(q,[(VI b),(VI a),al.v,aC.v,aC.v,am.v])::[]) fun q bq L=>
c q b a al aC aC am bq)/\
(E1 Sl.v P (Instr.makeSlice 27 (VI (aL (a+1))) (VI (aL (a+1)))) ak [] fun an br=>
C1 Sl.v P 267 #[aj.v,(VI p)] br [] fun ao bs=>
A1 bs [] (fun r=>(r,[(VI b),(VI a),ao.v,aC.v,aC.v,an.v])::[]) fun r bt L=>
c r b a ao aC aC an bt))/\
(E1 Sl.v P (Instr.makeSlice 27 (VI (aL (a+1))) (VI (aL (a+1)))) ai [] fun ap bu=>
E1 Sl.v P (Instr.buildSlice 27 1 #[(0,(VI d))]) bu [] fun bv bw=>
C1 Sl.v P 267 #[bv.v,(VI p)] bw [] fun aq bx=>
A1 bx [] (fun s=>(s,[(VI b),(VI a),aq.v,aC.v,aC.v,ap.v])::[]) fun s bz L=>
c s b a aq aC aC ap bz))/\
(E1 Sl.v P (Instr.makeSlice 27 (VI (aL (a+1))) (VI (aL (a+1)))) e [] fun f ar=>
(E1 Sl.v P (Instr.buildSlice 27 1 #[(0,(VI d))]) ar [] fun c0 c1=>
C1 VI P 268 #[(VI b),(VI (aL (a-1)))] c1 [] fun c2 c3=>
C1 Sl.v P 267 #[c0.v,(VI c2)] c3 [] fun au c4=>
A1 c4 [] (fun t=>(t,[(VI b),(VI a),au.v,aC.v,aC.v,f.v])::[]) fun t c5 L=>
c t b a au aC aC f c5)/\
(C1 VI P 268 #[(VI b),(VI (aL (a-1)))] ar [] fun c6 c7=>
E1 Sl.v P (Instr.buildSlice 27 1 #[(0,(VI d))]) c7 [] fun c8 c9=>
C1 Sl.v P 267 #[c8.v,(VI c6)] c9 [] fun av ca=>
A1 ca [] (fun u=>(u,[(VI b),(VI a),av.v,aC.v,aC.v,f.v])::[]) fun u cb L=>
c u b a av aC aC f cb)))/\
∀(g:Nat)(x:Int)(y:Int)(z:Sl)(a0:Sl)(a1:Sl)(a2:Sl)(a3:Heap),c g x y z a0 a1 a2 a3->Vi a3 ((g,[(VI x),(VI y),z.v,a0.v,a1.v,a2.v])::[]) fun L=>
∃a4:Nat->Int->Int->Int->Sl->Sl->Sl->Sl->Heap->Prop,(∃n0:Nat,a4 n0 0 x y z a0 a1 a2 a3)/\
∀(aw:Nat)(a5:Int)(ax:Int)(ay:Int)(az:Sl)(b0:Sl)(b1:Sl)(b2:Sl)(i:Heap),a4 aw a5 ax ay az b0 b1 b2 i->Vi i (Z0 [(VI ax),(VI ay),az.v,b0.v,b1.v,b2.v] L) fun L=>
Br (decide (a5<a6))
(aE P 269 #[(VP g 0)] i fun cc b3=>∃b4:Int,∃b5:Int,∃b6:Sl,∃b7:Sl,∃b8:Sl,∃b9:Sl,Va b3 (Z0 [(VI b4),(VI b5),b6.v,b7.v,b8.v,b9.v] L) fun L=>
Nj aw fun m=>a4 m (aL (a5+1)) b4 b5 b6 b7 b8 b9 b3)
(K (Value.tuple #[(VP g 0),(VB true)]) i)))))
theorem ahc(a:Int)(b:Int)(c:Int)(d:Int)(h:Heap)(K:KQ)(H:ahb Tryz.prog a b c d h K):aE Tryz.prog 221 #[(VI a),(VI b),(VI c),(VI d)] h K:=cw mixed Tryz.func221 [(7,⟨[],[],[(10,[.i .i64,.i .i64,.sl,.sl,.sl,.sl])]⟩),(122,⟨[⟨41,.l (.i .i64)⟩],[0],[]⟩)] [.v (.l (.i .i64 a)),.v (.l (.i .i64 b)),.v (.l (.i .i64 c)),.v (.l (.i .i64 d))] [] [] .nil 47 (by kernel_rfl) H
def ahd(P:Program)(a:Int)(h:Heap)(K:KQ):Prop:=pk (
Br (decide (a<0))
(C1 VS P 73 #[(VI (aL (0-a)))] h [] fun b c=>
ByteArray.size ({data:= #[45]})+ByteArray.size b<=9223372036854775807/\
K (VS (({data:= #[45]})++b)) c)
(C1 VS P 73 #[(VI a)] h [] fun d e=>
K (VS d) e))
theorem ahe(a:Int)(h:Heap)(K:KQ)(H:ahd Tryz.prog a h K):aE Tryz.prog 225 #[(VI a)] h K:=cw mixed Tryz.func225 [] [.v (.l (.i .i64 a))] [] [] .nil 11 (by kernel_rfl) H
def ahf(P:Program)(c:Sl)(g:Int)(e:Sl)(i:Int)(h:Heap)(K:KQ):Prop:=pk (
Br (!decide (g=i))
(A2 h [] (fun a b=>(b,[e.v,(VI i)])::((a,[c.v,(VI g)])::[])) fun a b f L=>
K (VB false) f)
(Br (!decide ((c.n:Int)=(e.n:Int)))
(A2 h [] (fun a b=>(b,[e.v,(VI i)])::((a,[c.v,(VI g)])::[])) fun a b f L=>
K (VB false) f)
(A2 h [] (fun a b=>(b,[e.v,(VI i)])::((a,[c.v,(VI g)])::[])) fun a b f L=>
O1 0 f fun k l(j:Int) d=>
Vars d L->
Br (decide (j<(c.n:Int)))
(G1 VI d c j 1 fun o=>
G1 VI d e j 1 fun p=>
Br (!decide (o=p))
(K (VB false) d)
(Nj l fun m=>k m (aL (j+1)) d))
(K (VB true) d))))
theorem v226(b:Sl)(c:Int)(d:Sl)(e:Int)(h:Heap)(K:KQ)(H:ahf Tryz.prog b c d e h K):aE Tryz.prog 226 #[(Value.agg #[b.v,(VI c)]),(Value.agg #[d.v,(VI e)])] h K:=cw mixed Tryz.func226 [(58,⟨[⟨24,.l (.i .i64)⟩],[],[]⟩)] [.v (.a [.sl b,.i .i64 c]),.v (.a [.sl d,.i .i64 e])] [] [] .nil 37 (by kernel_rfl) H
def ahg(P:Program)(k:Sl)(d:Sl)(e:Int)(t:Int)(h:Heap)(K:KQ):Prop:=pk (
A3 h [] (fun l o f=>Z0 [d.v,(VI e)] ((f,[aC.v,(VI 0)])::((o,[d.v,(VI e)])::((l,[k.v])::[])))) fun l o f u L=>
O3 1 d e u fun x y(g:Int)(p:Sl)(q:Int) i=>
Vi i (Z0 [p.v,(VI q)] L) fun L=>
Br (decide (g<=t))
(C3 (fun a b j=>(Value.tuple #[(Value.agg #[(Sl.v a),(VI b)]),(VB j)])) P 177 #[(Value.agg #[k.v]),(Value.agg #[p.v,(VI q)])] i L fun a b j r=>
Br (!j)
(A1 r [] (fun c=>Z0 [a.v,(VI b)] ((c,[aC.v,(VI 0)])::L)) fun c z L=>
K (VI 0) z)
(A1 r [f] (fun c=>Z1 [a.v,(VI b)] (Z0 [a.v,(VI b)] ((c,[aC.v,(VI 0)])::L))) fun c a0 L=>
C1 VB P 226 #[(Value.agg #[a.v,(VI b)]),(Value.agg #[d.v,(VI e)])] a0 L fun a1 s=>
Br a1
(K (VI g) s)
(Nj y fun m=>x m (aL (g+1)) a b s)))
(K (VI 0) i))
theorem v227(b:Sl)(c:Sl)(d:Int)(e:Int)(h:Heap)(K:KQ)(H:ahg Tryz.prog b c d e h K):aE Tryz.prog 227 #[(Value.agg #[b.v]),(Value.agg #[c.v,(VI d)]),(VI e)] h K:=cw mixed Tryz.func227 [(58,⟨[⟨8,.l (.i .i64)⟩],[2],[]⟩)] [.v (.a [.sl b]),.v (.a [.sl c,.i .i64 d]),.v (.l (.i .i64 e))] [] [] .nil 30 (by kernel_rfl) H
def ahh(P:Program)(a:Sl)(c:Sl)(o:Int)(h:Heap)(K:KQ):Prop:=pk (
A1 h [] (fun g=>(g,[a.v])::[]) fun g p L=>
O2 o 0 p fun q r(b:Int)(i:Int) d=>
Vars d L->
Br (decide (i<(a.n:Int)))
(C1 VI P 230 #[(Value.agg #[a.v]),c.v,(VI b)] d L fun j k=>
Br (decide (j<0))
(K (Value.tuple #[aC.v,(VB false)]) k)
(Nj r fun m=>q m j (aL (i+1)) k))
(E1 Sl.v P (Instr.buildSlice 27 1 #[(0,(VI b))]) d L fun s t=>
C1 VI P 230 #[(Value.agg #[a.v]),c.v,(VI b)] t L fun u x=>
O2 s u x fun y z(l:Sl)(e:Int) f=>
Vars f L->
Br (!decide (e=b))
(E1 Sl.v P (Instr.buildSlice 27 1 #[(0,(VI e))]) f L fun a0 a1=>
E1 Sl.v P (bK 27 27 27 l.v a0.v) a1 L fun a2 a3=>
C1 VI P 230 #[(Value.agg #[a.v]),c.v,(VI e)] a3 L fun a4 a5=>
Nj z fun m=>y m a2 a4 a5)
(K (Value.tuple #[l.v,(VB true)]) f)))
theorem v228(b:Sl)(c:Sl)(d:Int)(h:Heap)(K:KQ)(H:ahh Tryz.prog b c d h K):aE Tryz.prog 228 #[(Value.agg #[b.v]),c.v,(VI d)] h K:=cw mixed Tryz.func228 [(26,⟨[⟨2,.l (.i .i64)⟩,⟨8,.l (.i .i64)⟩],[],[]⟩),(122,⟨[⟨9,.l .sl⟩,⟨10,.l (.i .i64)⟩],[],[]⟩)] [.v (.a [.sl b]),.v (.l (.sl c)),.v (.l (.i .i64 d))] [] [] .nil 42 (by kernel_rfl) H
def ahi(P:Program)(c:Sl)(d:Int)(h:Heap)(K:KQ):Prop:=pk (
O1 0 h fun e f(b:Int) a=>
Vars a []->
Br (decide (b<(c.n:Int)))
(G1 VI a c b 1 fun g=>
Br (decide (g=d))
(K (VB true) a)
(Nj f fun m=>e m (aL (b+1)) a))
(K (VB false) a))
theorem v229(a:Sl)(b:Int)(h:Heap)(K:KQ)(H:ahi Tryz.prog a b h K):aE Tryz.prog 229 #[a.v,(VI b)] h K:=cw mixed Tryz.func229 [(26,⟨[⟨9,.l (.i .i64)⟩],[],[]⟩)] [.v (.l (.sl a)),.v (.l (.i .i64 b))] [] [] .nil 17 (by kernel_rfl) H
def ahj(P:Program)(b:Sl)(e:Sl)(c:Int)(h:Heap)(K:KQ):Prop:=pk (
dQ b c/\
A1 h [] (fun d=>(d,[b.v])::[]) fun d a L=>
H1 Sl.v a (Sl.at b c 1) fun f=>
Br (decide ((f.n:Int)=0))
(K (VI (-1)) a)
(G1 Sl.v a b c 1 fun g=>
G1 VI a e c 1 fun i=>
G1 VI a g i 1 fun j=>
K (VI j) a))
theorem ahk(b:Sl)(c:Sl)(d:Int)(h:Heap)(K:KQ)(H:ahj Tryz.prog b c d h K):aE Tryz.prog 230 #[(Value.agg #[b.v]),c.v,(VI d)] h K:=cw mixed Tryz.func230 [] [.v (.a [.sl b]),.v (.l (.sl c)),.v (.l (.i .i64 d))] [] [] .nil 25 (by kernel_rfl) H
def ahl(P:Program)(a:Sl)(e:Sl)(b:Int)(h:Heap)(K:KQ):Prop:=pk (
A1 h [] (fun f=>(f,[a.v])::[]) fun f i L=>
E1 Sl.v P (Instr.buildSlice 27 1 #[(0,(VI b))]) i L fun j k=>
C1 VI P 230 #[(Value.agg #[a.v]),e.v,(VI b)] k L fun l o=>
O2 j l o fun p q(g:Sl)(c:Int) d=>
Vars d L->
Br (!decide (c=b))
(E1 Sl.v P (Instr.buildSlice 27 1 #[(0,(VI c))]) d L fun r s=>
E1 Sl.v P (bK 27 27 27 g.v r.v) s L fun t u=>
C1 VI P 230 #[(Value.agg #[a.v]),e.v,(VI c)] u L fun x y=>
Nj q fun m=>p m t x y)
(K g.v d))
theorem ahm(b:Sl)(c:Sl)(d:Int)(h:Heap)(K:KQ)(H:ahl Tryz.prog b c d h K):aE Tryz.prog 231 #[(Value.agg #[b.v]),c.v,(VI d)] h K:=cw mixed Tryz.func231 [(58,⟨[⟨7,.l .sl⟩,⟨8,.l (.i .i64)⟩],[],[]⟩)] [.v (.a [.sl b]),.v (.l (.sl c)),.v (.l (.i .i64 d))] [] [] .nil 27 (by kernel_rfl) H
end Go.Proofs.YtcnfcnoooecchaaGreatDoor
