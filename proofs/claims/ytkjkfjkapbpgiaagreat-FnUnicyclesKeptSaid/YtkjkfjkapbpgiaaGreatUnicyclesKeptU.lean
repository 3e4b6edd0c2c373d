import Derived.Test.YtkjkfjkapbpgiaaGreatUnicyclesKeptT
import Derived.Test.YtkjkfjkapbpgiaaGreatM2
set_option linter.unusedVariables false
set_option linter.unusedSimpArgs false
set_option maxRecDepth 100000
set_option maxHeartbeats 16000000
namespace Go.Proofs.YtkjkfjkapbpgiaaGreat
open Go Go.Mx
section
variable {P : Program} {b c want : Bool} {A : (Value -> Heap -> Prop) -> Prop} {h : Heap} {K : Value -> Heap -> Prop} {Q : Value -> Prop} {t : TypeId} {n : Nat} {L : List (Nat × List Value)} {d : Nat} {cs : List Value}
theorem gn (H : K undef h) (hb : b ≠ want := by decide) : guardM (.bool b) want A h K := guardM_n hb H
theorem gm (hb : b = c) (H : K undef h) (hc : c ≠ want := by decide) : guardM (.bool b) want A h K := guardM_n' hb hc H
theorem gy (hb : b = want) (H : A K) : guardM (.bool b) want A h K := guardM_y' hb H
theorem ul (ht : sizeC P t = some n) (hL : Vars h L) (i : Nat) (o : Nat) {v : Value} (vs : List Value) (L' : List (Nat × List Value)) (H : ∀ h1 : Heap, Fr (fun k => k = d) h h1 -> Vars h1 L' -> K undef h1) (hi : nthL L i = some (d, cs) := by rfl) (hv : v.cells = vs.toArray := by rfl) (hn : vs.length = n := by rfl) (hp : vs.all plainV = true := by rfl) (ho : Nat.ble (o + vs.length) cs.length = true := by rfl) (hL' : setL L i (splice cs o vs) = L' := by rfl) : uop P (Instr.storeAt t (VP d o) v) h K := uop_loc ht hL i hi o vs hv hn hp (Nat.le_of_ble_eq_true ho) hL' H
theorem ra (ht : aggC P t = some n) (hL : Vars h L) (i : Nat) (o : Nat) (vs : List Value) (H : Q (.agg vs.toArray)) (hi : nthL L i = some (d, cs) := by rfl) (hv : cutL cs o n = vs := by rfl) (hn : vs.length = n := by rfl) : rop P (Instr.loadAt t (VP d o)) h Q := rop_locA ht hL i hi o hv hn H
theorem rl (ht : oneC P t = true) (hL : Vars h L) (i : Nat) (o : Nat) (v : Value) (H : Q v) (hi : nthL L i = some (d, cs) := by rfl) (hv : cs[o]? = some v := by rfl) : rop P (Instr.loadAt t (VP d o)) h Q := rop_loc ht hL i hi o hv H
end
theorem fo {u c : Heap} (k : Fr No u c) : Fr (In []) u c := Fr.no' (Fr.r _ u) k
theorem fq {u c : Heap} {b : Nat} (k : Fr (fun k => k = b) u c) : Fr (In (b :: [])) u c := Fr.old (Fr.r (In []) _) k
open Go.Instr (loadAt extract buildSlice)
theorem agg26 : aggC Tryz.prog 26 = some 1 := by kernel_rfl
theorem agg48 : aggC Tryz.prog 48 = some 2 := by kernel_rfl
theorem boo4 : Tryz.prog.underlying 4 = some .bool := by kernel_rfl
theorem fld138_0 : fieldC Tryz.prog 138 0 = some 0 := by kernel_rfl
theorem fld138_1 : fieldC Tryz.prog 138 1 = some 1 := by kernel_rfl
theorem fld138_2 : fieldC Tryz.prog 138 2 = some 2 := by kernel_rfl
theorem fld138_3 : fieldC Tryz.prog 138 3 = some 3 := by kernel_rfl
theorem fld138_4 : fieldC Tryz.prog 138 4 = some 4 := by kernel_rfl
theorem fld26_0 : fieldC Tryz.prog 26 0 = some 0 := by kernel_rfl
theorem fld48_0 : fieldC Tryz.prog 48 0 = some 0 := by kernel_rfl
theorem fld48_1 : fieldC Tryz.prog 48 1 = some 1 := by kernel_rfl
theorem fld74_0 : fieldC Tryz.prog 74 0 = some 0 := by kernel_rfl
theorem fld74_1 : fieldC Tryz.prog 74 1 = some 1 := by kernel_rfl
theorem fld74_2 : fieldC Tryz.prog 74 2 = some 2 := by kernel_rfl
theorem one22 : oneC Tryz.prog 22 = true := by kernel_rfl
theorem one24 : oneC Tryz.prog 24 = true := by kernel_rfl
theorem one29 : oneC Tryz.prog 29 = true := by kernel_rfl
theorem one3 : oneC Tryz.prog 3 = true := by kernel_rfl
theorem one5 : oneC Tryz.prog 5 = true := by kernel_rfl
theorem one62 : oneC Tryz.prog 62 = true := by kernel_rfl
theorem one72 : oneC Tryz.prog 72 = true := by kernel_rfl
theorem siz24 : sizeC Tryz.prog 24 = some 1 := by kernel_rfl
theorem siz26 : sizeC Tryz.prog 26 = some 1 := by kernel_rfl
theorem siz29 : sizeC Tryz.prog 29 = some 1 := by kernel_rfl
theorem siz3 : sizeC Tryz.prog 3 = some 1 := by kernel_rfl
theorem siz48 : sizeC Tryz.prog 48 = some 2 := by kernel_rfl
theorem siz5 : sizeC Tryz.prog 5 = some 1 := by kernel_rfl
theorem siz62 : sizeC Tryz.prog 62 = some 1 := by kernel_rfl
theorem siz72 : sizeC Tryz.prog 72 = some 1 := by kernel_rfl
theorem sli22 : Tryz.prog.underlying 22 = some (.slice 5) := by kernel_rfl
theorem sli24 : Tryz.prog.underlying 24 = some (.slice 29) := by kernel_rfl
theorem sli29 : Tryz.prog.underlying 29 = some (.slice 3) := by kernel_rfl
theorem sli62 : Tryz.prog.underlying 62 = some (.slice 48) := by kernel_rfl
theorem zer26 : zeroC Tryz.prog 26 = some (Value.agg #[nilSl.v]) := by kernel_rfl
theorem zer3 : zeroC Tryz.prog 3 = some (VI 0) := by kernel_rfl
theorem zer48 : zeroC Tryz.prog 48 = some (Value.agg #[nilSl.v, (VI 0)]) := by kernel_rfl
theorem zer62 : zeroC Tryz.prog 62 = some nilSl.v := by kernel_rfl
def u4 (P : Program) (c0 : Sl) (m1 : Sl) (h : Heap) (K : KQ) : Prop :=
 callM P 5 #[c0.v, m1.v] h fun r1 h1 => ∃ s66 : Bool, r1 = (VB s66) /\ Vars h1 [] /\
 (s66 = true ->
 K (VB true) h1) /\
 (s66 = false ->
 callM P 26 #[c0.v] h1 fun r2 h2 => ∃ s69 : Sl, ∃ s69b : Sl, ∃ s69c : Int, r2 = (.tuple #[(.agg #[s69.v]), (.agg #[s69b.v, (VI s69c)])]) /\ Vars h2 [] /\
 ∀ (b1 : Nat) (b2 : Nat) (h6 : Heap), h2.size ≤ b1 -> h2.size ≤ b2 -> Fr (In []) h2 h6 -> Vars h6 [(b2, [s69b.v, (VI s69c)]), (b1, [s69.v])] ->
 callM P 27 #[(.agg #[s69.v]), (.agg #[s69b.v, (VI s69c)])] h6 fun r3 h7 => ∃ s75 : Bool, ∃ s75b : Bool, r3 = (.tuple #[(VB s75), (VB s75b)]) /\ Vars h7 [(b2, [s69b.v, (VI s69c)]), (b1, [s69.v])] /\
 callM P 28 #[(.agg #[s69.v]), (.agg #[s69b.v, (VI s69c)])] h7 fun r4 h8 => ∃ s81 : Bool, ∃ s81b : Bool, r4 = (.tuple #[(VB s81), (VB s81b)]) /\ Vars h8 [(b2, [s69b.v, (VI s69c)]), (b1, [s69.v])] /\
 callM P 29 #[(.agg #[s69.v]), (.agg #[s69b.v, (VI s69c)])] h8 fun r5 h9 => ∃ s87 : Sl, ∃ s87b : Bool, r5 = (.tuple #[s87.v, (VB s87b)]) /\ Vars h9 [(b2, [s69b.v, (VI s69c)]), (b1, [s69.v])] /\
 callM P 30 #[(.agg #[s69.v]), (.agg #[s69b.v, (VI s69c)])] h9 fun r6 h10 => ∃ s93 : Sl, ∃ s93b : Bool, r6 = (.tuple #[s93.v, (VB s93b)]) /\ Vars h10 [(b2, [s69b.v, (VI s69c)]), (b1, [s69.v])] /\
 callM P 31 #[(.agg #[s69.v]), (.agg #[s69b.v, (VI s69c)])] h10 fun r7 h11 => ∃ s99 : Sl, ∃ s99b : Bool, r7 = (.tuple #[s99.v, (VB s99b)]) /\ Vars h11 [(b2, [s69b.v, (VI s69c)]), (b1, [s69.v])] /\
 callM P 32 #[(.agg #[s69.v]), (.agg #[s69b.v, (VI s69c)])] h11 fun r8 h12 => ∃ s105 : Sl, ∃ s105b : Bool, r8 = (.tuple #[s105.v, (VB s105b)]) /\ Vars h12 [(b2, [s69b.v, (VI s69c)]), (b1, [s69.v])] /\
 callM P 33 #[(.agg #[s69.v]), (.agg #[s69b.v, (VI s69c)])] h12 fun r9 h13 => ∃ s111 : Int, ∃ s111b : Bool, r9 = (.tuple #[(VI s111), (VB s111b)]) /\ Vars h13 [(b2, [s69b.v, (VI s69c)]), (b1, [s69.v])] /\
 callM P 34 #[(.agg #[s69.v]), (.agg #[s69b.v, (VI s69c)])] h13 fun r10 h14 => ∃ s117 : Int, ∃ s117b : Bool, r10 = (.tuple #[(VI s117), (VB s117b)]) /\ Vars h14 [(b2, [s69b.v, (VI s69c)]), (b1, [s69.v])] /\
 ((!(s75b == s81b)) = true ->
 K (VB false) h14) /\
 ((!(s75b == s81b)) = false ->
 ((!(s75 == s81)) = true ->
 K (VB false) h14) /\
 ((!(s75 == s81)) = false ->
 ((!(s87b == s93b)) = true ->
 K (VB false) h14) /\
 ((!(s87b == s93b)) = false ->
 callM P 16 #[s87.v, s93.v] h14 fun r11 h15 => ∃ s136 : Bool, r11 = (VB s136) /\ Vars h15 [(b2, [s69b.v, (VI s69c)]), (b1, [s69.v])] /\
 ((!s136) = true ->
 K (VB false) h15) /\
 ((!s136) = false ->
 ((!(s99b == s105b)) = true ->
 K (VB false) h15) /\
 ((!(s99b == s105b)) = false ->
 callM P 16 #[s99.v, s105.v] h15 fun r12 h16 => ∃ s147 : Bool, r12 = (VB s147) /\ Vars h16 [(b2, [s69b.v, (VI s69c)]), (b1, [s69.v])] /\
 ((!s147) = true ->
 K (VB false) h16) /\
 ((!s147) = false ->
 ((!(s111b == s117b)) = true ->
 K (VB false) h16) /\
 ((!(s111b == s117b)) = false ->
 ((!decide (s111 = s117)) = true ->
 K (VB false) h16) /\
 ((!decide (s111 = s117)) = false ->
 (s75b = true ->
 ((!(s87b == s75)) = true ->
 K (VB false) h16) /\
 ((!(s87b == s75)) = false ->
 (s75 = true ->
 ((!s99b) = true ->
 K (VB false) h16) /\
 ((!s99b) = false ->
 ∃ J1 : Heap -> Prop, ((s99b = true ->
 ∃ J2 : Nat -> Int -> Heap -> Prop, (∃ n0 : Nat, J2 n0 0 h16) /\
 ∀ (n1 : Nat) (s181 : Int) (h17 : Heap), J2 n1 s181 h17 -> Vars h17 [(b2, [s69b.v, (VI s69c)]), (b1, [s69.v])] ->
 ((decide (s181 < (s99.n : Int))) = true ->
 InB s99 s181 /\
 ∃ s185 : Int, hcell h17 (Sl.at s99 s181 1) = some (VI s185) /\
 InB s69 s185 /\
 ∃ s190 : Sl, hcell h17 (Sl.at s69 s185 1) = some s190.v /\
 InB s69b s185 /\
 ∃ s195 : Int, hcell h17 (Sl.at s69b s185 1) = some (VI s195) /\
 InB s190 s195 /\
 ∃ s197 : Int, hcell h17 (Sl.at s190 s195 1) = some (VI s197) /\
 (s99.n : Int) ≠ 0 /\
 InB s99 (Int.tmod (w64 (s181 + 1)) (s99.n : Int)) /\
 ∃ s205 : Int, hcell h17 (Sl.at s99 (Int.tmod (w64 (s181 + 1)) (s99.n : Int)) 1) = some (VI s205) /\
 ((!decide (s197 = s205)) = true ->
 K (VB false) h17) /\
 ((!decide (s197 = s205)) = false ->
 ∃ m : Nat, m < n1 /\ J2 m (w64 (s181 + 1)) h17)) /\
 ((decide (s181 < (s99.n : Int))) = false ->
 J1  h17)) /\
 (s99b = false ->
 J1  h16)) /\
 ∀ (h18 : Heap), J1  h18 -> Vars h18 [(b2, [s69b.v, (VI s69c)]), (b1, [s69.v])] ->
 ∃ J3 : Heap -> Prop, ((s87b = true ->
 callM P 17 #[(.agg #[s69.v]), (VI s69c), s87.v] h18 fun r13 h19 => ∃ s214 : Bool, ∃ s214b : Bool, r13 = (.tuple #[(VB s214), (VB s214b)]) /\ Vars h19 [(b2, [s69b.v, (VI s69c)]), (b1, [s69.v])] /\
 ∃ J4 : Nat -> Sl -> Int -> Bool -> Heap -> Prop, (InB s69b s69c /\
 ∃ s227 : Int, hcell h19 (Sl.at s69b s69c 1) = some (VI s227) /\
 (callM P 35 #[(.agg #[s69.v]), (VI s69c), s87.v, (VI s227)] h19 fun r14 h20 => ∃ s228 : Sl, ∃ s228b : Int, ∃ s228c : Bool, r14 = (.tuple #[(.agg #[s228.v, (VI s228b)]), (VB s228c)]) /\ Vars h20 [(b2, [s69b.v, (VI s69c)]), (b1, [s69.v])] /\
 ∀ (b4 : Nat) (h21 : Heap), h20.size ≤ b4 -> Fr (In []) h20 h21 -> Vars h21 [(b4, [nilSl.v, (VI 0)]), (b2, [s69b.v, (VI s69c)]), (b1, [s69.v])] ->
 ∀ (h22 : Heap), Fr (In [b4]) h21 h22 -> Vars h22 [(b4, [s228.v, (VI s228b)]), (b2, [s69b.v, (VI s69c)]), (b1, [s69.v])] ->
 J4 b4 s228 s228b s228c h22) /\
 (∀ (b5 : Nat) (h23 : Heap), h19.size ≤ b5 -> Fr (In []) h19 h23 -> Vars h23 [(b5, [nilSl.v, (VI 0)]), (b2, [s69b.v, (VI s69c)]), (b1, [s69.v])] ->
 hcell h23 (Sl.at s69b s69c 1) = some (VI s227) /\
 callM P 35 #[(.agg #[s69.v]), (VI s69c), s87.v, (VI s227)] h23 fun r15 h24 => ∃ s228d : Sl, ∃ s228e : Int, ∃ s228f : Bool, r15 = (.tuple #[(.agg #[s228d.v, (VI s228e)]), (VB s228f)]) /\ Vars h24 [(b5, [nilSl.v, (VI 0)]), (b2, [s69b.v, (VI s69c)]), (b1, [s69.v])] /\
 ∀ (h25 : Heap), Fr (In [b5]) h24 h25 -> Vars h25 [(b5, [s228d.v, (VI s228e)]), (b2, [s69b.v, (VI s69c)]), (b1, [s69.v])] ->
 J4 b5 s228d s228e s228f h25)) /\
 ∀ (b3 : Nat) (y1 : Sl) (y2 : Int) (y3 : Bool) (h26 : Heap), J4 b3 y1 y2 y3 h26 -> Vars h26 [(b3, [y1.v, (VI y2)]), (b2, [s69b.v, (VI s69c)]), (b1, [s69.v])] ->
 callM P 36 #[(.agg #[s69.v]), (.agg #[s69b.v, (VI s69c)])] h26 fun r16 h27 => ∃ s234 : Sl, ∃ s234b : Int, ∃ s234c : Bool, r16 = (.tuple #[(.agg #[s234.v, (VI s234b)]), (VB s234c)]) /\ Vars h27 [(b3, [y1.v, (VI y2)]), (b2, [s69b.v, (VI s69c)]), (b1, [s69.v])] /\
 ∀ (b6 : Nat) (h29 : Heap), h27.size ≤ b6 -> Fr (In []) h27 h29 -> Vars h29 [(b6, [s234.v, (VI s234b)]), (b3, [y1.v, (VI y2)]), (b2, [s69b.v, (VI s69c)]), (b1, [s69.v])] ->
 callM P 27 #[(.agg #[s69.v]), (.agg #[s234.v, (VI s234b)])] h29 fun r17 h30 => ∃ s240 : Bool, ∃ s240b : Bool, r17 = (.tuple #[(VB s240), (VB s240b)]) /\ Vars h30 [(b6, [s234.v, (VI s234b)]), (b3, [y1.v, (VI y2)]), (b2, [s69b.v, (VI s69c)]), (b1, [s69.v])] /\
 ((!s214b) = true ->
 K (VB false) h30) /\
 ((!s214b) = false ->
 ((!s214) = true ->
 K (VB false) h30) /\
 ((!s214) = false ->
 ((!y3) = true ->
 K (VB false) h30) /\
 ((!y3) = false ->
 callM P 37 #[(.agg #[y1.v, (VI y2)]), (.agg #[s69b.v, (VI s69c)])] h30 fun r18 h31 => ∃ s256 : Bool, r18 = (VB s256) /\ Vars h31 [(b6, [s234.v, (VI s234b)]), (b3, [y1.v, (VI y2)]), (b2, [s69b.v, (VI s69c)]), (b1, [s69.v])] /\
 ((!s256) = true ->
 K (VB false) h31) /\
 ((!s256) = false ->
 ((!s234c) = true ->
 K (VB false) h31) /\
 ((!s234c) = false ->
 ((!s240b) = true ->
 K (VB false) h31) /\
 ((!s240b) = false ->
 ((!s240) = true ->
 K (VB false) h31) /\
 ((!s240) = false ->
 callM P 38 #[s99.v, (VI s69c)] h31 fun r19 h32 => ∃ s275 : Bool, r19 = (VB s275) /\ Vars h32 [(b6, [s234.v, (VI s234b)]), (b3, [y1.v, (VI y2)]), (b2, [s69b.v, (VI s69c)]), (b1, [s69.v])] /\
 ((!s275) = true ->
 K (VB false) h32) /\
 ((!s275) = false ->
 ((!s111b) = true ->
 K (VB false) h32) /\
 ((!s111b) = false ->
 ((!decide (s111 = 0)) = true ->
 K (VB false) h32) /\
 ((!decide (s111 = 0)) = false ->
 J3  h32))))))))))) /\
 (s87b = false ->
 J3  h18)) /\
 ∀ (h33 : Heap), J3  h33 -> Vars h33 [(b2, [s69b.v, (VI s69c)]), (b1, [s69.v])] ->
 ∃ J5 : Heap -> Prop, ((s111b = true ->
 callM P 39 #[(.agg #[s69.v]), (.agg #[s69b.v, (VI s69c)]), (VI s111)] h33 fun r20 h34 => ∃ s291 : Sl, ∃ s291b : Int, ∃ s291c : Bool, r20 = (.tuple #[(.agg #[s291.v, (VI s291b)]), (VB s291c)]) /\ Vars h34 [(b2, [s69b.v, (VI s69c)]), (b1, [s69.v])] /\
 ∀ (b7 : Nat) (h36 : Heap), h34.size ≤ b7 -> Fr (In []) h34 h36 -> Vars h36 [(b7, [s291.v, (VI s291b)]), (b2, [s69b.v, (VI s69c)]), (b1, [s69.v])] ->
 callM P 27 #[(.agg #[s69.v]), (.agg #[s291.v, (VI s291b)])] h36 fun r21 h37 => ∃ s297 : Bool, ∃ s297b : Bool, r21 = (.tuple #[(VB s297), (VB s297b)]) /\ Vars h37 [(b7, [s291.v, (VI s291b)]), (b2, [s69b.v, (VI s69c)]), (b1, [s69.v])] /\
 ((!s291c) = true ->
 K (VB false) h37) /\
 ((!s291c) = false ->
 ((!s297b) = true ->
 K (VB false) h37) /\
 ((!s297b) = false ->
 ((!s297) = true ->
 K (VB false) h37) /\
 ((!s297) = false ->
 J5  h37)))) /\
 (s111b = false ->
 J5  h33)) /\
 ∀ (h38 : Heap), J5  h38 -> Vars h38 [(b2, [s69b.v, (VI s69c)]), (b1, [s69.v])] ->
 callM P 40 #[m1.v] h38 fun r22 h39 => ∃ s311 : Sl, r22 = (.agg #[s311.v]) /\ Vars h39 [(b2, [s69b.v, (VI s69c)]), (b1, [s69.v])] /\
 ∀ (b8 : Nat) (h41 : Heap), h39.size ≤ b8 -> Fr (In []) h39 h41 -> Vars h41 [(b8, [s311.v]), (b2, [s69b.v, (VI s69c)]), (b1, [s69.v])] ->
 callM P 41 #[(.agg #[s311.v])] h41 fun r23 h42 => ∃ s314 : Int, ∃ s314b : Bool, r23 = (.tuple #[(VI s314), (VB s314b)]) /\ Vars h42 [(b8, [s311.v]), (b2, [s69b.v, (VI s69c)]), (b1, [s69.v])] /\
 callM P 42 #[(.agg #[s311.v])] h42 fun r24 h43 => ∃ s319 : Int, ∃ s319b : Bool, r24 = (.tuple #[(VI s319), (VB s319b)]) /\ Vars h43 [(b8, [s311.v]), (b2, [s69b.v, (VI s69c)]), (b1, [s69.v])] /\
 ((!(s314b == s319b)) = true ->
 K (VB false) h43) /\
 ((!(s314b == s319b)) = false ->
 ((!decide (s314 = s319)) = true ->
 K (VB false) h43) /\
 ((!decide (s314 = s319)) = false ->
 ∃ J6 : Heap -> Prop, ((s314b = true ->
 ((decide (s314 ≤ 60)) = true ->
 ∃ J7 : Nat -> Int -> Int -> Heap -> Prop, (∃ n0 : Nat, J7 n0 0 0 h43) /\
 ∀ (n3 : Nat) (n42 : Int) (s338 : Int) (h44 : Heap), J7 n3 n42 s338 h44 -> Vars h44 [(b8, [s311.v]), (b2, [s69b.v, (VI s69c)]), (b1, [s69.v])] ->
 ((decide (s338 < (s311.n : Int))) = true ->
 callM P 43 #[(.agg #[s311.v]), (VI s338)] h44 fun r25 h45 => ∃ s344 : Sl, ∃ s344b : Bool, r25 = (.tuple #[s344.v, (VB s344b)]) /\ Vars h45 [(b8, [s311.v]), (b2, [s69b.v, (VI s69c)]), (b1, [s69.v])] /\
 ((!s344b) = true ->
 K (VB false) h45) /\
 ((!s344b) = false ->
 ∃ J8 : Nat -> Int -> Heap -> Prop, (∃ n0 : Nat, J8 n0 0 h45) /\
 ∀ (n4 : Nat) (s351 : Int) (h46 : Heap), J8 n4 s351 h46 -> Vars h46 [(b8, [s311.v]), (b2, [s69b.v, (VI s69c)]), (b1, [s69.v])] ->
 ((decide (s351 < (s344.n : Int))) = true ->
 InB s344 s351 /\
 ∃ s355 : Sl, ∃ s355b : Int, CellsAt h46 (Sl.at s344 s351 2) [s355.v, (VI s355b)] /\
 ∀ (b9 : Nat) (h48 : Heap), h46.size ≤ b9 -> Fr (In []) h46 h48 -> Vars h48 [(b9, [s355.v, (VI s355b)]), (b8, [s311.v]), (b2, [s69b.v, (VI s69c)]), (b1, [s69.v])] ->
 callM P 27 #[(.agg #[s311.v]), (.agg #[s355.v, (VI s355b)])] h48 fun r26 h49 => ∃ s359 : Bool, ∃ s359b : Bool, r26 = (.tuple #[(VB s359), (VB s359b)]) /\ Vars h49 [(b9, [s355.v, (VI s355b)]), (b8, [s311.v]), (b2, [s69b.v, (VI s69c)]), (b1, [s69.v])] /\
 ((!s359b) = true ->
 K (VB false) h49) /\
 ((!s359b) = false ->
 ((!s359) = true ->
 K (VB false) h49) /\
 ((!s359) = false ->
 ((!decide (s355b = s338)) = true ->
 K (VB false) h49) /\
 ((!decide (s355b = s338)) = false ->
 ((decide (0 < s351)) = true ->
 InB s344 (w64 (s351 - 1)) /\
 ∃ s383 : Sl, hcell h49 (Addr.add (Sl.at s344 (w64 (s351 - 1)) 2) 0) = some s383.v /\
 callM P 44 #[s383.v, s355.v] h49 fun r27 h50 => ∃ s386 : Bool, r27 = (VB s386) /\ Vars h50 [(b9, [s355.v, (VI s355b)]), (b8, [s311.v]), (b2, [s69b.v, (VI s69c)]), (b1, [s69.v])] /\
 ((!s386) = true ->
 K (VB false) h50) /\
 ((!s386) = false ->
 ∃ m : Nat, m < n4 /\ J8 m (w64 (s351 + 1)) h50)) /\
 ((decide (0 < s351)) = false ->
 ∃ m : Nat, m < n4 /\ J8 m (w64 (s351 + 1)) h49))))) /\
 ((decide (s351 < (s344.n : Int))) = false ->
 ∃ m : Nat, m < n3 /\ J7 m (w64 (n42 + (s344.n : Int))) (w64 (s338 + 1)) h46))) /\
 ((decide (s338 < (s311.n : Int))) = false ->
 ((!decide (n42 = s314)) = true ->
 K (VB false) h44) /\
 ((!decide (n42 = s314)) = false ->
 J6  h44))) /\
 ((decide (s314 ≤ 60)) = false ->
 J6  h43)) /\
 (s314b = false ->
 J6  h43)) /\
 ∀ (h51 : Heap), J6  h51 -> Vars h51 [(b8, [s311.v]), (b2, [s69b.v, (VI s69c)]), (b1, [s69.v])] ->
 callM P 45 #[m1.v] h51 fun r28 h52 => ∃ s401 : Sl, ∃ s401b : Int, r28 = (.tuple #[(.agg #[s401.v]), (VI s401b)]) /\ Vars h52 [(b8, [s311.v]), (b2, [s69b.v, (VI s69c)]), (b1, [s69.v])] /\
 ∀ (b10 : Nat) (h54 : Heap), h52.size ≤ b10 -> Fr (In []) h52 h54 -> Vars h54 [(b10, [s401.v]), (b8, [s311.v]), (b2, [s69b.v, (VI s69c)]), (b1, [s69.v])] ->
 callM P 43 #[(.agg #[s401.v]), (VI s401b)] h54 fun r29 h55 => ∃ s407 : Sl, ∃ s407b : Bool, r29 = (.tuple #[s407.v, (VB s407b)]) /\ Vars h55 [(b10, [s401.v]), (b8, [s311.v]), (b2, [s69b.v, (VI s69c)]), (b1, [s69.v])] /\
 callM P 46 #[(.agg #[s401.v]), (VI s401b)] h55 fun r30 h56 => ∃ s413 : Sl, ∃ s413b : Bool, r30 = (.tuple #[s413.v, (VB s413b)]) /\ Vars h56 [(b10, [s401.v]), (b8, [s311.v]), (b2, [s69b.v, (VI s69c)]), (b1, [s69.v])] /\
 callM P 47 #[m1.v] h56 fun r31 h57 => ∃ s418 : Sl, ∃ s418b : Int, ∃ s418c : Sl, ∃ s418d : Int, r31 = (.tuple #[(.agg #[s418.v]), (VI s418b), s418c.v, (VI s418d)]) /\ Vars h57 [(b10, [s401.v]), (b8, [s311.v]), (b2, [s69b.v, (VI s69c)]), (b1, [s69.v])] /\
 ∀ (b11 : Nat) (h59 : Heap), h57.size ≤ b11 -> Fr (In []) h57 h59 -> Vars h59 [(b11, [s418.v]), (b10, [s401.v]), (b8, [s311.v]), (b2, [s69b.v, (VI s69c)]), (b1, [s69.v])] ->
 callM P 35 #[(.agg #[s418.v]), (VI s418b), s418c.v, (VI s418d)] h59 fun r32 h60 => ∃ s428 : Sl, ∃ s428b : Int, ∃ s428c : Bool, r32 = (.tuple #[(.agg #[s428.v, (VI s428b)]), (VB s428c)]) /\ Vars h60 [(b11, [s418.v]), (b10, [s401.v]), (b8, [s311.v]), (b2, [s69b.v, (VI s69c)]), (b1, [s69.v])] /\
 ∀ (b12 : Nat) (h62 : Heap), h60.size ≤ b12 -> Fr (In []) h60 h62 -> Vars h62 [(b12, [s428.v, (VI s428b)]), (b11, [s418.v]), (b10, [s401.v]), (b8, [s311.v]), (b2, [s69b.v, (VI s69c)]), (b1, [s69.v])] ->
 callM P 48 #[(.agg #[s418.v]), (VI s418b), s418c.v, (VI s418d)] h62 fun r33 h63 => ∃ s436 : Sl, ∃ s436b : Int, ∃ s436c : Bool, r33 = (.tuple #[(.agg #[s436.v, (VI s436b)]), (VB s436c)]) /\ Vars h63 [(b12, [s428.v, (VI s428b)]), (b11, [s418.v]), (b10, [s401.v]), (b8, [s311.v]), (b2, [s69b.v, (VI s69c)]), (b1, [s69.v])] /\
 ((s407b == s413b) = true ->
 ∀ (b13 : Nat) (h65 : Heap), h63.size ≤ b13 -> Fr (In []) h63 h65 -> Vars h65 [(b13, [s436.v, (VI s436b)]), (b12, [s428.v, (VI s428b)]), (b11, [s418.v]), (b10, [s401.v]), (b8, [s311.v]), (b2, [s69b.v, (VI s69c)]), (b1, [s69.v])] ->
 callM P 49 #[s407.v, s413.v] h65 fun r34 h66 => ∃ s445 : Bool, r34 = (VB s445) /\ Vars h66 [(b13, [s436.v, (VI s436b)]), (b12, [s428.v, (VI s428b)]), (b11, [s418.v]), (b10, [s401.v]), (b8, [s311.v]), (b2, [s69b.v, (VI s69c)]), (b1, [s69.v])] /\
 (s445 = true ->
 ((s428c == s436c) = true ->
 callM P 37 #[(.agg #[s428.v, (VI s428b)]), (.agg #[s436.v, (VI s436b)])] h66 fun r35 h67 => ∃ s455 : Bool, r35 = (VB s455) /\ Vars h67 [(b13, [s436.v, (VI s436b)]), (b12, [s428.v, (VI s428b)]), (b11, [s418.v]), (b10, [s401.v]), (b8, [s311.v]), (b2, [s69b.v, (VI s69c)]), (b1, [s69.v])] /\
 (s455 = true ->
 ((!s428c) = true ->
 K (VB true) h67) /\
 ((!s428c) = false ->
 callM P 50 #[(.agg #[s418.v]), (.agg #[s428.v, (VI s428b)])] h67 fun r36 h68 => ∃ s463 : Bool, r36 = (VB s463) /\ Vars h68 [(b13, [s436.v, (VI s436b)]), (b12, [s428.v, (VI s428b)]), (b11, [s418.v]), (b10, [s401.v]), (b8, [s311.v]), (b2, [s69b.v, (VI s69c)]), (b1, [s69.v])] /\
 K (VB s463) h68)) /\
 (s455 = false ->
 K (VB false) h67)) /\
 ((s428c == s436c) = false ->
 K (VB false) h66)) /\
 (s445 = false ->
 K (VB false) h66)) /\
 ((s407b == s413b) = false ->
 ∀ (b13 : Nat) (h65 : Heap), h63.size ≤ b13 -> Fr (In []) h63 h65 -> Vars h65 [(b13, [s436.v, (VI s436b)]), (b12, [s428.v, (VI s428b)]), (b11, [s418.v]), (b10, [s401.v]), (b8, [s311.v]), (b2, [s69b.v, (VI s69c)]), (b1, [s69.v])] ->
 K (VB false) h65))))) /\
 (s75 = false ->
 ∃ J9 : Heap -> Prop, ((s99b = true ->
 ∃ J10 : Nat -> Int -> Heap -> Prop, (∃ n0 : Nat, J10 n0 0 h16) /\
 ∀ (n7 : Nat) (s181b : Int) (h69 : Heap), J10 n7 s181b h69 -> Vars h69 [(b2, [s69b.v, (VI s69c)]), (b1, [s69.v])] ->
 ((decide (s181b < (s99.n : Int))) = true ->
 InB s99 s181b /\
 ∃ s185b : Int, hcell h69 (Sl.at s99 s181b 1) = some (VI s185b) /\
 InB s69 s185b /\
 ∃ s190b : Sl, hcell h69 (Sl.at s69 s185b 1) = some s190b.v /\
 InB s69b s185b /\
 ∃ s195b : Int, hcell h69 (Sl.at s69b s185b 1) = some (VI s195b) /\
 InB s190b s195b /\
 ∃ s197b : Int, hcell h69 (Sl.at s190b s195b 1) = some (VI s197b) /\
 (s99.n : Int) ≠ 0 /\
 InB s99 (Int.tmod (w64 (s181b + 1)) (s99.n : Int)) /\
 ∃ s205b : Int, hcell h69 (Sl.at s99 (Int.tmod (w64 (s181b + 1)) (s99.n : Int)) 1) = some (VI s205b) /\
 ((!decide (s197b = s205b)) = true ->
 K (VB false) h69) /\
 ((!decide (s197b = s205b)) = false ->
 ∃ m : Nat, m < n7 /\ J10 m (w64 (s181b + 1)) h69)) /\
 ((decide (s181b < (s99.n : Int))) = false ->
 J9  h69)) /\
 (s99b = false ->
 J9  h16)) /\
 ∀ (h70 : Heap), J9  h70 -> Vars h70 [(b2, [s69b.v, (VI s69c)]), (b1, [s69.v])] ->
 ∃ J11 : Heap -> Prop, ((s87b = true ->
 callM P 17 #[(.agg #[s69.v]), (VI s69c), s87.v] h70 fun r37 h71 => ∃ s214c : Bool, ∃ s214d : Bool, r37 = (.tuple #[(VB s214c), (VB s214d)]) /\ Vars h71 [(b2, [s69b.v, (VI s69c)]), (b1, [s69.v])] /\
 ∃ J12 : Nat -> Sl -> Int -> Bool -> Heap -> Prop, (InB s69b s69c /\
 ∃ s227b : Int, hcell h71 (Sl.at s69b s69c 1) = some (VI s227b) /\
 (callM P 35 #[(.agg #[s69.v]), (VI s69c), s87.v, (VI s227b)] h71 fun r38 h72 => ∃ s228g : Sl, ∃ s228h : Int, ∃ s228i : Bool, r38 = (.tuple #[(.agg #[s228g.v, (VI s228h)]), (VB s228i)]) /\ Vars h72 [(b2, [s69b.v, (VI s69c)]), (b1, [s69.v])] /\
 ∀ (b15 : Nat) (h73 : Heap), h72.size ≤ b15 -> Fr (In []) h72 h73 -> Vars h73 [(b15, [nilSl.v, (VI 0)]), (b2, [s69b.v, (VI s69c)]), (b1, [s69.v])] ->
 ∀ (h74 : Heap), Fr (In [b15]) h73 h74 -> Vars h74 [(b15, [s228g.v, (VI s228h)]), (b2, [s69b.v, (VI s69c)]), (b1, [s69.v])] ->
 J12 b15 s228g s228h s228i h74) /\
 (∀ (b16 : Nat) (h75 : Heap), h71.size ≤ b16 -> Fr (In []) h71 h75 -> Vars h75 [(b16, [nilSl.v, (VI 0)]), (b2, [s69b.v, (VI s69c)]), (b1, [s69.v])] ->
 hcell h75 (Sl.at s69b s69c 1) = some (VI s227b) /\
 callM P 35 #[(.agg #[s69.v]), (VI s69c), s87.v, (VI s227b)] h75 fun r39 h76 => ∃ t228i : Sl, ∃ t228j : Int, ∃ t228k : Bool, r39 = (.tuple #[(.agg #[t228i.v, (VI t228j)]), (VB t228k)]) /\ Vars h76 [(b16, [nilSl.v, (VI 0)]), (b2, [s69b.v, (VI s69c)]), (b1, [s69.v])] /\
 ∀ (h77 : Heap), Fr (In [b16]) h76 h77 -> Vars h77 [(b16, [t228i.v, (VI t228j)]), (b2, [s69b.v, (VI s69c)]), (b1, [s69.v])] ->
 J12 b16 t228i t228j t228k h77)) /\
 ∀ (b14 : Nat) (y4 : Sl) (y5 : Int) (y6 : Bool) (h78 : Heap), J12 b14 y4 y5 y6 h78 -> Vars h78 [(b14, [y4.v, (VI y5)]), (b2, [s69b.v, (VI s69c)]), (b1, [s69.v])] ->
 callM P 36 #[(.agg #[s69.v]), (.agg #[s69b.v, (VI s69c)])] h78 fun r40 h79 => ∃ s234d : Sl, ∃ s234e : Int, ∃ s234f : Bool, r40 = (.tuple #[(.agg #[s234d.v, (VI s234e)]), (VB s234f)]) /\ Vars h79 [(b14, [y4.v, (VI y5)]), (b2, [s69b.v, (VI s69c)]), (b1, [s69.v])] /\
 ∀ (b17 : Nat) (h81 : Heap), h79.size ≤ b17 -> Fr (In []) h79 h81 -> Vars h81 [(b17, [s234d.v, (VI s234e)]), (b14, [y4.v, (VI y5)]), (b2, [s69b.v, (VI s69c)]), (b1, [s69.v])] ->
 callM P 27 #[(.agg #[s69.v]), (.agg #[s234d.v, (VI s234e)])] h81 fun r41 h82 => ∃ s240c : Bool, ∃ s240d : Bool, r41 = (.tuple #[(VB s240c), (VB s240d)]) /\ Vars h82 [(b17, [s234d.v, (VI s234e)]), (b14, [y4.v, (VI y5)]), (b2, [s69b.v, (VI s69c)]), (b1, [s69.v])] /\
 ((!s214d) = true ->
 K (VB false) h82) /\
 ((!s214d) = false ->
 ((!s214c) = true ->
 K (VB false) h82) /\
 ((!s214c) = false ->
 ((!y6) = true ->
 K (VB false) h82) /\
 ((!y6) = false ->
 callM P 37 #[(.agg #[y4.v, (VI y5)]), (.agg #[s69b.v, (VI s69c)])] h82 fun r42 h83 => ∃ s256b : Bool, r42 = (VB s256b) /\ Vars h83 [(b17, [s234d.v, (VI s234e)]), (b14, [y4.v, (VI y5)]), (b2, [s69b.v, (VI s69c)]), (b1, [s69.v])] /\
 ((!s256b) = true ->
 K (VB false) h83) /\
 ((!s256b) = false ->
 ((!s234f) = true ->
 K (VB false) h83) /\
 ((!s234f) = false ->
 ((!s240d) = true ->
 K (VB false) h83) /\
 ((!s240d) = false ->
 ((!s240c) = true ->
 K (VB false) h83) /\
 ((!s240c) = false ->
 callM P 38 #[s99.v, (VI s69c)] h83 fun r43 h84 => ∃ s275b : Bool, r43 = (VB s275b) /\ Vars h84 [(b17, [s234d.v, (VI s234e)]), (b14, [y4.v, (VI y5)]), (b2, [s69b.v, (VI s69c)]), (b1, [s69.v])] /\
 ((!s275b) = true ->
 K (VB false) h84) /\
 ((!s275b) = false ->
 ((!s111b) = true ->
 K (VB false) h84) /\
 ((!s111b) = false ->
 ((!decide (s111 = 0)) = true ->
 K (VB false) h84) /\
 ((!decide (s111 = 0)) = false ->
 J11  h84))))))))))) /\
 (s87b = false ->
 J11  h70)) /\
 ∀ (h85 : Heap), J11  h85 -> Vars h85 [(b2, [s69b.v, (VI s69c)]), (b1, [s69.v])] ->
 ∃ J13 : Heap -> Prop, ((s111b = true ->
 callM P 39 #[(.agg #[s69.v]), (.agg #[s69b.v, (VI s69c)]), (VI s111)] h85 fun r44 h86 => ∃ s291d : Sl, ∃ s291e : Int, ∃ s291f : Bool, r44 = (.tuple #[(.agg #[s291d.v, (VI s291e)]), (VB s291f)]) /\ Vars h86 [(b2, [s69b.v, (VI s69c)]), (b1, [s69.v])] /\
 ∀ (b18 : Nat) (h88 : Heap), h86.size ≤ b18 -> Fr (In []) h86 h88 -> Vars h88 [(b18, [s291d.v, (VI s291e)]), (b2, [s69b.v, (VI s69c)]), (b1, [s69.v])] ->
 callM P 27 #[(.agg #[s69.v]), (.agg #[s291d.v, (VI s291e)])] h88 fun r45 h89 => ∃ s297c : Bool, ∃ s297d : Bool, r45 = (.tuple #[(VB s297c), (VB s297d)]) /\ Vars h89 [(b18, [s291d.v, (VI s291e)]), (b2, [s69b.v, (VI s69c)]), (b1, [s69.v])] /\
 ((!s291f) = true ->
 K (VB false) h89) /\
 ((!s291f) = false ->
 ((!s297d) = true ->
 K (VB false) h89) /\
 ((!s297d) = false ->
 ((!s297c) = true ->
 K (VB false) h89) /\
 ((!s297c) = false ->
 J13  h89)))) /\
 (s111b = false ->
 J13  h85)) /\
 ∀ (h90 : Heap), J13  h90 -> Vars h90 [(b2, [s69b.v, (VI s69c)]), (b1, [s69.v])] ->
 callM P 40 #[m1.v] h90 fun r46 h91 => ∃ s311b : Sl, r46 = (.agg #[s311b.v]) /\ Vars h91 [(b2, [s69b.v, (VI s69c)]), (b1, [s69.v])] /\
 ∀ (b19 : Nat) (h93 : Heap), h91.size ≤ b19 -> Fr (In []) h91 h93 -> Vars h93 [(b19, [s311b.v]), (b2, [s69b.v, (VI s69c)]), (b1, [s69.v])] ->
 callM P 41 #[(.agg #[s311b.v])] h93 fun r47 h94 => ∃ s314c : Int, ∃ s314d : Bool, r47 = (.tuple #[(VI s314c), (VB s314d)]) /\ Vars h94 [(b19, [s311b.v]), (b2, [s69b.v, (VI s69c)]), (b1, [s69.v])] /\
 callM P 42 #[(.agg #[s311b.v])] h94 fun r48 h95 => ∃ s319c : Int, ∃ s319d : Bool, r48 = (.tuple #[(VI s319c), (VB s319d)]) /\ Vars h95 [(b19, [s311b.v]), (b2, [s69b.v, (VI s69c)]), (b1, [s69.v])] /\
 ((!(s314d == s319d)) = true ->
 K (VB false) h95) /\
 ((!(s314d == s319d)) = false ->
 ((!decide (s314c = s319c)) = true ->
 K (VB false) h95) /\
 ((!decide (s314c = s319c)) = false ->
 ∃ J14 : Heap -> Prop, ((s314d = true ->
 ((decide (s314c ≤ 60)) = true ->
 ∃ J15 : Nat -> Int -> Int -> Heap -> Prop, (∃ n0 : Nat, J15 n0 0 0 h95) /\
 ∀ (n9 : Nat) (n42a : Int) (s338b : Int) (h96 : Heap), J15 n9 n42a s338b h96 -> Vars h96 [(b19, [s311b.v]), (b2, [s69b.v, (VI s69c)]), (b1, [s69.v])] ->
 ((decide (s338b < (s311b.n : Int))) = true ->
 callM P 43 #[(.agg #[s311b.v]), (VI s338b)] h96 fun r49 h97 => ∃ s344c : Sl, ∃ s344d : Bool, r49 = (.tuple #[s344c.v, (VB s344d)]) /\ Vars h97 [(b19, [s311b.v]), (b2, [s69b.v, (VI s69c)]), (b1, [s69.v])] /\
 ((!s344d) = true ->
 K (VB false) h97) /\
 ((!s344d) = false ->
 ∃ J16 : Nat -> Int -> Heap -> Prop, (∃ n0 : Nat, J16 n0 0 h97) /\
 ∀ (n10 : Nat) (s351b : Int) (h98 : Heap), J16 n10 s351b h98 -> Vars h98 [(b19, [s311b.v]), (b2, [s69b.v, (VI s69c)]), (b1, [s69.v])] ->
 ((decide (s351b < (s344c.n : Int))) = true ->
 InB s344c s351b /\
 ∃ s355c : Sl, ∃ s355d : Int, CellsAt h98 (Sl.at s344c s351b 2) [s355c.v, (VI s355d)] /\
 ∀ (b20 : Nat) (h100 : Heap), h98.size ≤ b20 -> Fr (In []) h98 h100 -> Vars h100 [(b20, [s355c.v, (VI s355d)]), (b19, [s311b.v]), (b2, [s69b.v, (VI s69c)]), (b1, [s69.v])] ->
 callM P 27 #[(.agg #[s311b.v]), (.agg #[s355c.v, (VI s355d)])] h100 fun r50 h101 => ∃ s359c : Bool, ∃ s359d : Bool, r50 = (.tuple #[(VB s359c), (VB s359d)]) /\ Vars h101 [(b20, [s355c.v, (VI s355d)]), (b19, [s311b.v]), (b2, [s69b.v, (VI s69c)]), (b1, [s69.v])] /\
 ((!s359d) = true ->
 K (VB false) h101) /\
 ((!s359d) = false ->
 ((!s359c) = true ->
 K (VB false) h101) /\
 ((!s359c) = false ->
 ((!decide (s355d = s338b)) = true ->
 K (VB false) h101) /\
 ((!decide (s355d = s338b)) = false ->
 ((decide (0 < s351b)) = true ->
 InB s344c (w64 (s351b - 1)) /\
 ∃ s383b : Sl, hcell h101 (Addr.add (Sl.at s344c (w64 (s351b - 1)) 2) 0) = some s383b.v /\
 callM P 44 #[s383b.v, s355c.v] h101 fun r51 h102 => ∃ s386b : Bool, r51 = (VB s386b) /\ Vars h102 [(b20, [s355c.v, (VI s355d)]), (b19, [s311b.v]), (b2, [s69b.v, (VI s69c)]), (b1, [s69.v])] /\
 ((!s386b) = true ->
 K (VB false) h102) /\
 ((!s386b) = false ->
 ∃ m : Nat, m < n10 /\ J16 m (w64 (s351b + 1)) h102)) /\
 ((decide (0 < s351b)) = false ->
 ∃ m : Nat, m < n10 /\ J16 m (w64 (s351b + 1)) h101))))) /\
 ((decide (s351b < (s344c.n : Int))) = false ->
 ∃ m : Nat, m < n9 /\ J15 m (w64 (n42a + (s344c.n : Int))) (w64 (s338b + 1)) h98))) /\
 ((decide (s338b < (s311b.n : Int))) = false ->
 ((!decide (n42a = s314c)) = true ->
 K (VB false) h96) /\
 ((!decide (n42a = s314c)) = false ->
 J14  h96))) /\
 ((decide (s314c ≤ 60)) = false ->
 J14  h95)) /\
 (s314d = false ->
 J14  h95)) /\
 ∀ (h103 : Heap), J14  h103 -> Vars h103 [(b19, [s311b.v]), (b2, [s69b.v, (VI s69c)]), (b1, [s69.v])] ->
 callM P 45 #[m1.v] h103 fun r52 h104 => ∃ s401c : Sl, ∃ s401d : Int, r52 = (.tuple #[(.agg #[s401c.v]), (VI s401d)]) /\ Vars h104 [(b19, [s311b.v]), (b2, [s69b.v, (VI s69c)]), (b1, [s69.v])] /\
 ∀ (b21 : Nat) (h106 : Heap), h104.size ≤ b21 -> Fr (In []) h104 h106 -> Vars h106 [(b21, [s401c.v]), (b19, [s311b.v]), (b2, [s69b.v, (VI s69c)]), (b1, [s69.v])] ->
 callM P 43 #[(.agg #[s401c.v]), (VI s401d)] h106 fun r53 h107 => ∃ s407c : Sl, ∃ s407d : Bool, r53 = (.tuple #[s407c.v, (VB s407d)]) /\ Vars h107 [(b21, [s401c.v]), (b19, [s311b.v]), (b2, [s69b.v, (VI s69c)]), (b1, [s69.v])] /\
 callM P 46 #[(.agg #[s401c.v]), (VI s401d)] h107 fun r54 h108 => ∃ s413c : Sl, ∃ s413d : Bool, r54 = (.tuple #[s413c.v, (VB s413d)]) /\ Vars h108 [(b21, [s401c.v]), (b19, [s311b.v]), (b2, [s69b.v, (VI s69c)]), (b1, [s69.v])] /\
 callM P 47 #[m1.v] h108 fun r55 h109 => ∃ s418e : Sl, ∃ s418f : Int, ∃ s418g : Sl, ∃ s418h : Int, r55 = (.tuple #[(.agg #[s418e.v]), (VI s418f), s418g.v, (VI s418h)]) /\ Vars h109 [(b21, [s401c.v]), (b19, [s311b.v]), (b2, [s69b.v, (VI s69c)]), (b1, [s69.v])] /\
 ∀ (b22 : Nat) (h111 : Heap), h109.size ≤ b22 -> Fr (In []) h109 h111 -> Vars h111 [(b22, [s418e.v]), (b21, [s401c.v]), (b19, [s311b.v]), (b2, [s69b.v, (VI s69c)]), (b1, [s69.v])] ->
 callM P 35 #[(.agg #[s418e.v]), (VI s418f), s418g.v, (VI s418h)] h111 fun r56 h112 => ∃ s428d : Sl, ∃ s428e : Int, ∃ s428f : Bool, r56 = (.tuple #[(.agg #[s428d.v, (VI s428e)]), (VB s428f)]) /\ Vars h112 [(b22, [s418e.v]), (b21, [s401c.v]), (b19, [s311b.v]), (b2, [s69b.v, (VI s69c)]), (b1, [s69.v])] /\
 ∀ (b23 : Nat) (h114 : Heap), h112.size ≤ b23 -> Fr (In []) h112 h114 -> Vars h114 [(b23, [s428d.v, (VI s428e)]), (b22, [s418e.v]), (b21, [s401c.v]), (b19, [s311b.v]), (b2, [s69b.v, (VI s69c)]), (b1, [s69.v])] ->
 callM P 48 #[(.agg #[s418e.v]), (VI s418f), s418g.v, (VI s418h)] h114 fun r57 h115 => ∃ s436d : Sl, ∃ s436e : Int, ∃ s436f : Bool, r57 = (.tuple #[(.agg #[s436d.v, (VI s436e)]), (VB s436f)]) /\ Vars h115 [(b23, [s428d.v, (VI s428e)]), (b22, [s418e.v]), (b21, [s401c.v]), (b19, [s311b.v]), (b2, [s69b.v, (VI s69c)]), (b1, [s69.v])] /\
 ((s407d == s413d) = true ->
 ∀ (b24 : Nat) (h117 : Heap), h115.size ≤ b24 -> Fr (In []) h115 h117 -> Vars h117 [(b24, [s436d.v, (VI s436e)]), (b23, [s428d.v, (VI s428e)]), (b22, [s418e.v]), (b21, [s401c.v]), (b19, [s311b.v]), (b2, [s69b.v, (VI s69c)]), (b1, [s69.v])] ->
 callM P 49 #[s407c.v, s413c.v] h117 fun r58 h118 => ∃ s445b : Bool, r58 = (VB s445b) /\ Vars h118 [(b24, [s436d.v, (VI s436e)]), (b23, [s428d.v, (VI s428e)]), (b22, [s418e.v]), (b21, [s401c.v]), (b19, [s311b.v]), (b2, [s69b.v, (VI s69c)]), (b1, [s69.v])] /\
 (s445b = true ->
 ((s428f == s436f) = true ->
 callM P 37 #[(.agg #[s428d.v, (VI s428e)]), (.agg #[s436d.v, (VI s436e)])] h118 fun r59 h119 => ∃ s455b : Bool, r59 = (VB s455b) /\ Vars h119 [(b24, [s436d.v, (VI s436e)]), (b23, [s428d.v, (VI s428e)]), (b22, [s418e.v]), (b21, [s401c.v]), (b19, [s311b.v]), (b2, [s69b.v, (VI s69c)]), (b1, [s69.v])] /\
 (s455b = true ->
 ((!s428f) = true ->
 K (VB true) h119) /\
 ((!s428f) = false ->
 callM P 50 #[(.agg #[s418e.v]), (.agg #[s428d.v, (VI s428e)])] h119 fun r60 h120 => ∃ s463b : Bool, r60 = (VB s463b) /\ Vars h120 [(b24, [s436d.v, (VI s436e)]), (b23, [s428d.v, (VI s428e)]), (b22, [s418e.v]), (b21, [s401c.v]), (b19, [s311b.v]), (b2, [s69b.v, (VI s69c)]), (b1, [s69.v])] /\
 K (VB s463b) h120)) /\
 (s455b = false ->
 K (VB false) h119)) /\
 ((s428f == s436f) = false ->
 K (VB false) h118)) /\
 (s445b = false ->
 K (VB false) h118)) /\
 ((s407d == s413d) = false ->
 ∀ (b24 : Nat) (h117 : Heap), h115.size ≤ b24 -> Fr (In []) h115 h117 -> Vars h117 [(b24, [s436d.v, (VI s436e)]), (b23, [s428d.v, (VI s428e)]), (b22, [s418e.v]), (b21, [s401c.v]), (b19, [s311b.v]), (b2, [s69b.v, (VI s69c)]), (b1, [s69.v])] ->
 K (VB false) h117)))))) /\
 (s75b = false ->
 ((!(s87b == false)) = true ->
 K (VB false) h16) /\
 ((!(s87b == false)) = false ->
 ∃ J17 : Heap -> Prop, ((s99b = true ->
 ∃ J18 : Nat -> Int -> Heap -> Prop, (∃ n0 : Nat, J18 n0 0 h16) /\
 ∀ (n13 : Nat) (s181c : Int) (h121 : Heap), J18 n13 s181c h121 -> Vars h121 [(b2, [s69b.v, (VI s69c)]), (b1, [s69.v])] ->
 ((decide (s181c < (s99.n : Int))) = true ->
 InB s99 s181c /\
 ∃ s185c : Int, hcell h121 (Sl.at s99 s181c 1) = some (VI s185c) /\
 InB s69 s185c /\
 ∃ s190c : Sl, hcell h121 (Sl.at s69 s185c 1) = some s190c.v /\
 InB s69b s185c /\
 ∃ s195c : Int, hcell h121 (Sl.at s69b s185c 1) = some (VI s195c) /\
 InB s190c s195c /\
 ∃ s197c : Int, hcell h121 (Sl.at s190c s195c 1) = some (VI s197c) /\
 (s99.n : Int) ≠ 0 /\
 InB s99 (Int.tmod (w64 (s181c + 1)) (s99.n : Int)) /\
 ∃ s205c : Int, hcell h121 (Sl.at s99 (Int.tmod (w64 (s181c + 1)) (s99.n : Int)) 1) = some (VI s205c) /\
 ((!decide (s197c = s205c)) = true ->
 K (VB false) h121) /\
 ((!decide (s197c = s205c)) = false ->
 ∃ m : Nat, m < n13 /\ J18 m (w64 (s181c + 1)) h121)) /\
 ((decide (s181c < (s99.n : Int))) = false ->
 J17  h121)) /\
 (s99b = false ->
 J17  h16)) /\
 ∀ (h122 : Heap), J17  h122 -> Vars h122 [(b2, [s69b.v, (VI s69c)]), (b1, [s69.v])] ->
 ∃ J19 : Heap -> Prop, ((s87b = true ->
 callM P 17 #[(.agg #[s69.v]), (VI s69c), s87.v] h122 fun r61 h123 => ∃ s214e : Bool, ∃ s214f : Bool, r61 = (.tuple #[(VB s214e), (VB s214f)]) /\ Vars h123 [(b2, [s69b.v, (VI s69c)]), (b1, [s69.v])] /\
 ∃ J20 : Nat -> Sl -> Int -> Bool -> Heap -> Prop, (InB s69b s69c /\
 ∃ s227c : Int, hcell h123 (Sl.at s69b s69c 1) = some (VI s227c) /\
 (callM P 35 #[(.agg #[s69.v]), (VI s69c), s87.v, (VI s227c)] h123 fun r62 h124 => ∃ t228l : Sl, ∃ t228m : Int, ∃ t228n : Bool, r62 = (.tuple #[(.agg #[t228l.v, (VI t228m)]), (VB t228n)]) /\ Vars h124 [(b2, [s69b.v, (VI s69c)]), (b1, [s69.v])] /\
 ∀ (b26 : Nat) (h125 : Heap), h124.size ≤ b26 -> Fr (In []) h124 h125 -> Vars h125 [(b26, [nilSl.v, (VI 0)]), (b2, [s69b.v, (VI s69c)]), (b1, [s69.v])] ->
 ∀ (h126 : Heap), Fr (In [b26]) h125 h126 -> Vars h126 [(b26, [t228l.v, (VI t228m)]), (b2, [s69b.v, (VI s69c)]), (b1, [s69.v])] ->
 J20 b26 t228l t228m t228n h126) /\
 (∀ (b27 : Nat) (h127 : Heap), h123.size ≤ b27 -> Fr (In []) h123 h127 -> Vars h127 [(b27, [nilSl.v, (VI 0)]), (b2, [s69b.v, (VI s69c)]), (b1, [s69.v])] ->
 hcell h127 (Sl.at s69b s69c 1) = some (VI s227c) /\
 callM P 35 #[(.agg #[s69.v]), (VI s69c), s87.v, (VI s227c)] h127 fun r63 h128 => ∃ t228o : Sl, ∃ t228p : Int, ∃ t228q : Bool, r63 = (.tuple #[(.agg #[t228o.v, (VI t228p)]), (VB t228q)]) /\ Vars h128 [(b27, [nilSl.v, (VI 0)]), (b2, [s69b.v, (VI s69c)]), (b1, [s69.v])] /\
 ∀ (h129 : Heap), Fr (In [b27]) h128 h129 -> Vars h129 [(b27, [t228o.v, (VI t228p)]), (b2, [s69b.v, (VI s69c)]), (b1, [s69.v])] ->
 J20 b27 t228o t228p t228q h129)) /\
 ∀ (b25 : Nat) (y7 : Sl) (y8 : Int) (y9 : Bool) (h130 : Heap), J20 b25 y7 y8 y9 h130 -> Vars h130 [(b25, [y7.v, (VI y8)]), (b2, [s69b.v, (VI s69c)]), (b1, [s69.v])] ->
 callM P 36 #[(.agg #[s69.v]), (.agg #[s69b.v, (VI s69c)])] h130 fun r64 h131 => ∃ s234g : Sl, ∃ s234h : Int, ∃ s234i : Bool, r64 = (.tuple #[(.agg #[s234g.v, (VI s234h)]), (VB s234i)]) /\ Vars h131 [(b25, [y7.v, (VI y8)]), (b2, [s69b.v, (VI s69c)]), (b1, [s69.v])] /\
 ∀ (b28 : Nat) (h133 : Heap), h131.size ≤ b28 -> Fr (In []) h131 h133 -> Vars h133 [(b28, [s234g.v, (VI s234h)]), (b25, [y7.v, (VI y8)]), (b2, [s69b.v, (VI s69c)]), (b1, [s69.v])] ->
 callM P 27 #[(.agg #[s69.v]), (.agg #[s234g.v, (VI s234h)])] h133 fun r65 h134 => ∃ s240e : Bool, ∃ s240f : Bool, r65 = (.tuple #[(VB s240e), (VB s240f)]) /\ Vars h134 [(b28, [s234g.v, (VI s234h)]), (b25, [y7.v, (VI y8)]), (b2, [s69b.v, (VI s69c)]), (b1, [s69.v])] /\
 ((!s214f) = true ->
 K (VB false) h134) /\
 ((!s214f) = false ->
 ((!s214e) = true ->
 K (VB false) h134) /\
 ((!s214e) = false ->
 ((!y9) = true ->
 K (VB false) h134) /\
 ((!y9) = false ->
 callM P 37 #[(.agg #[y7.v, (VI y8)]), (.agg #[s69b.v, (VI s69c)])] h134 fun r66 h135 => ∃ s256c : Bool, r66 = (VB s256c) /\ Vars h135 [(b28, [s234g.v, (VI s234h)]), (b25, [y7.v, (VI y8)]), (b2, [s69b.v, (VI s69c)]), (b1, [s69.v])] /\
 ((!s256c) = true ->
 K (VB false) h135) /\
 ((!s256c) = false ->
 ((!s234i) = true ->
 K (VB false) h135) /\
 ((!s234i) = false ->
 ((!s240f) = true ->
 K (VB false) h135) /\
 ((!s240f) = false ->
 ((!s240e) = true ->
 K (VB false) h135) /\
 ((!s240e) = false ->
 callM P 38 #[s99.v, (VI s69c)] h135 fun r67 h136 => ∃ s275c : Bool, r67 = (VB s275c) /\ Vars h136 [(b28, [s234g.v, (VI s234h)]), (b25, [y7.v, (VI y8)]), (b2, [s69b.v, (VI s69c)]), (b1, [s69.v])] /\
 ((!s275c) = true ->
 K (VB false) h136) /\
 ((!s275c) = false ->
 ((!s111b) = true ->
 K (VB false) h136) /\
 ((!s111b) = false ->
 ((!decide (s111 = 0)) = true ->
 K (VB false) h136) /\
 ((!decide (s111 = 0)) = false ->
 J19  h136))))))))))) /\
 (s87b = false ->
 J19  h122)) /\
 ∀ (h137 : Heap), J19  h137 -> Vars h137 [(b2, [s69b.v, (VI s69c)]), (b1, [s69.v])] ->
 ∃ J21 : Heap -> Prop, ((s111b = true ->
 callM P 39 #[(.agg #[s69.v]), (.agg #[s69b.v, (VI s69c)]), (VI s111)] h137 fun r68 h138 => ∃ s291g : Sl, ∃ s291h : Int, ∃ s291i : Bool, r68 = (.tuple #[(.agg #[s291g.v, (VI s291h)]), (VB s291i)]) /\ Vars h138 [(b2, [s69b.v, (VI s69c)]), (b1, [s69.v])] /\
 ∀ (b29 : Nat) (h140 : Heap), h138.size ≤ b29 -> Fr (In []) h138 h140 -> Vars h140 [(b29, [s291g.v, (VI s291h)]), (b2, [s69b.v, (VI s69c)]), (b1, [s69.v])] ->
 callM P 27 #[(.agg #[s69.v]), (.agg #[s291g.v, (VI s291h)])] h140 fun r69 h141 => ∃ s297e : Bool, ∃ s297f : Bool, r69 = (.tuple #[(VB s297e), (VB s297f)]) /\ Vars h141 [(b29, [s291g.v, (VI s291h)]), (b2, [s69b.v, (VI s69c)]), (b1, [s69.v])] /\
 ((!s291i) = true ->
 K (VB false) h141) /\
 ((!s291i) = false ->
 ((!s297f) = true ->
 K (VB false) h141) /\
 ((!s297f) = false ->
 ((!s297e) = true ->
 K (VB false) h141) /\
 ((!s297e) = false ->
 J21  h141)))) /\
 (s111b = false ->
 J21  h137)) /\
 ∀ (h142 : Heap), J21  h142 -> Vars h142 [(b2, [s69b.v, (VI s69c)]), (b1, [s69.v])] ->
 callM P 40 #[m1.v] h142 fun r70 h143 => ∃ s311c : Sl, r70 = (.agg #[s311c.v]) /\ Vars h143 [(b2, [s69b.v, (VI s69c)]), (b1, [s69.v])] /\
 ∀ (b30 : Nat) (h145 : Heap), h143.size ≤ b30 -> Fr (In []) h143 h145 -> Vars h145 [(b30, [s311c.v]), (b2, [s69b.v, (VI s69c)]), (b1, [s69.v])] ->
 callM P 41 #[(.agg #[s311c.v])] h145 fun r71 h146 => ∃ s314e : Int, ∃ s314f : Bool, r71 = (.tuple #[(VI s314e), (VB s314f)]) /\ Vars h146 [(b30, [s311c.v]), (b2, [s69b.v, (VI s69c)]), (b1, [s69.v])] /\
 callM P 42 #[(.agg #[s311c.v])] h146 fun r72 h147 => ∃ s319e : Int, ∃ s319f : Bool, r72 = (.tuple #[(VI s319e), (VB s319f)]) /\ Vars h147 [(b30, [s311c.v]), (b2, [s69b.v, (VI s69c)]), (b1, [s69.v])] /\
 ((!(s314f == s319f)) = true ->
 K (VB false) h147) /\
 ((!(s314f == s319f)) = false ->
 ((!decide (s314e = s319e)) = true ->
 K (VB false) h147) /\
 ((!decide (s314e = s319e)) = false ->
 ∃ J22 : Heap -> Prop, ((s314f = true ->
 ((decide (s314e ≤ 60)) = true ->
 ∃ J23 : Nat -> Int -> Int -> Heap -> Prop, (∃ n0 : Nat, J23 n0 0 0 h147) /\
 ∀ (n15 : Nat) (n42b : Int) (s338c : Int) (h148 : Heap), J23 n15 n42b s338c h148 -> Vars h148 [(b30, [s311c.v]), (b2, [s69b.v, (VI s69c)]), (b1, [s69.v])] ->
 ((decide (s338c < (s311c.n : Int))) = true ->
 callM P 43 #[(.agg #[s311c.v]), (VI s338c)] h148 fun r73 h149 => ∃ s344e : Sl, ∃ s344f : Bool, r73 = (.tuple #[s344e.v, (VB s344f)]) /\ Vars h149 [(b30, [s311c.v]), (b2, [s69b.v, (VI s69c)]), (b1, [s69.v])] /\
 ((!s344f) = true ->
 K (VB false) h149) /\
 ((!s344f) = false ->
 ∃ J24 : Nat -> Int -> Heap -> Prop, (∃ n0 : Nat, J24 n0 0 h149) /\
 ∀ (n16 : Nat) (s351c : Int) (h150 : Heap), J24 n16 s351c h150 -> Vars h150 [(b30, [s311c.v]), (b2, [s69b.v, (VI s69c)]), (b1, [s69.v])] ->
 ((decide (s351c < (s344e.n : Int))) = true ->
 InB s344e s351c /\
 ∃ s355e : Sl, ∃ s355f : Int, CellsAt h150 (Sl.at s344e s351c 2) [s355e.v, (VI s355f)] /\
 ∀ (b31 : Nat) (h152 : Heap), h150.size ≤ b31 -> Fr (In []) h150 h152 -> Vars h152 [(b31, [s355e.v, (VI s355f)]), (b30, [s311c.v]), (b2, [s69b.v, (VI s69c)]), (b1, [s69.v])] ->
 callM P 27 #[(.agg #[s311c.v]), (.agg #[s355e.v, (VI s355f)])] h152 fun r74 h153 => ∃ s359e : Bool, ∃ s359f : Bool, r74 = (.tuple #[(VB s359e), (VB s359f)]) /\ Vars h153 [(b31, [s355e.v, (VI s355f)]), (b30, [s311c.v]), (b2, [s69b.v, (VI s69c)]), (b1, [s69.v])] /\
 ((!s359f) = true ->
 K (VB false) h153) /\
 ((!s359f) = false ->
 ((!s359e) = true ->
 K (VB false) h153) /\
 ((!s359e) = false ->
 ((!decide (s355f = s338c)) = true ->
 K (VB false) h153) /\
 ((!decide (s355f = s338c)) = false ->
 ((decide (0 < s351c)) = true ->
 InB s344e (w64 (s351c - 1)) /\
 ∃ s383c : Sl, hcell h153 (Addr.add (Sl.at s344e (w64 (s351c - 1)) 2) 0) = some s383c.v /\
 callM P 44 #[s383c.v, s355e.v] h153 fun r75 h154 => ∃ s386c : Bool, r75 = (VB s386c) /\ Vars h154 [(b31, [s355e.v, (VI s355f)]), (b30, [s311c.v]), (b2, [s69b.v, (VI s69c)]), (b1, [s69.v])] /\
 ((!s386c) = true ->
 K (VB false) h154) /\
 ((!s386c) = false ->
 ∃ m : Nat, m < n16 /\ J24 m (w64 (s351c + 1)) h154)) /\
 ((decide (0 < s351c)) = false ->
 ∃ m : Nat, m < n16 /\ J24 m (w64 (s351c + 1)) h153))))) /\
 ((decide (s351c < (s344e.n : Int))) = false ->
 ∃ m : Nat, m < n15 /\ J23 m (w64 (n42b + (s344e.n : Int))) (w64 (s338c + 1)) h150))) /\
 ((decide (s338c < (s311c.n : Int))) = false ->
 ((!decide (n42b = s314e)) = true ->
 K (VB false) h148) /\
 ((!decide (n42b = s314e)) = false ->
 J22  h148))) /\
 ((decide (s314e ≤ 60)) = false ->
 J22  h147)) /\
 (s314f = false ->
 J22  h147)) /\
 ∀ (h155 : Heap), J22  h155 -> Vars h155 [(b30, [s311c.v]), (b2, [s69b.v, (VI s69c)]), (b1, [s69.v])] ->
 callM P 45 #[m1.v] h155 fun r76 h156 => ∃ s401e : Sl, ∃ s401f : Int, r76 = (.tuple #[(.agg #[s401e.v]), (VI s401f)]) /\ Vars h156 [(b30, [s311c.v]), (b2, [s69b.v, (VI s69c)]), (b1, [s69.v])] /\
 ∀ (b32 : Nat) (h158 : Heap), h156.size ≤ b32 -> Fr (In []) h156 h158 -> Vars h158 [(b32, [s401e.v]), (b30, [s311c.v]), (b2, [s69b.v, (VI s69c)]), (b1, [s69.v])] ->
 callM P 43 #[(.agg #[s401e.v]), (VI s401f)] h158 fun r77 h159 => ∃ s407e : Sl, ∃ s407f : Bool, r77 = (.tuple #[s407e.v, (VB s407f)]) /\ Vars h159 [(b32, [s401e.v]), (b30, [s311c.v]), (b2, [s69b.v, (VI s69c)]), (b1, [s69.v])] /\
 callM P 46 #[(.agg #[s401e.v]), (VI s401f)] h159 fun r78 h160 => ∃ s413e : Sl, ∃ s413f : Bool, r78 = (.tuple #[s413e.v, (VB s413f)]) /\ Vars h160 [(b32, [s401e.v]), (b30, [s311c.v]), (b2, [s69b.v, (VI s69c)]), (b1, [s69.v])] /\
 callM P 47 #[m1.v] h160 fun r79 h161 => ∃ s418i : Sl, ∃ t418i : Int, ∃ t418j : Sl, ∃ t418k : Int, r79 = (.tuple #[(.agg #[s418i.v]), (VI t418i), t418j.v, (VI t418k)]) /\ Vars h161 [(b32, [s401e.v]), (b30, [s311c.v]), (b2, [s69b.v, (VI s69c)]), (b1, [s69.v])] /\
 ∀ (b33 : Nat) (h163 : Heap), h161.size ≤ b33 -> Fr (In []) h161 h163 -> Vars h163 [(b33, [s418i.v]), (b32, [s401e.v]), (b30, [s311c.v]), (b2, [s69b.v, (VI s69c)]), (b1, [s69.v])] ->
 callM P 35 #[(.agg #[s418i.v]), (VI t418i), t418j.v, (VI t418k)] h163 fun r80 h164 => ∃ s428g : Sl, ∃ s428h : Int, ∃ s428i : Bool, r80 = (.tuple #[(.agg #[s428g.v, (VI s428h)]), (VB s428i)]) /\ Vars h164 [(b33, [s418i.v]), (b32, [s401e.v]), (b30, [s311c.v]), (b2, [s69b.v, (VI s69c)]), (b1, [s69.v])] /\
 ∀ (b34 : Nat) (h166 : Heap), h164.size ≤ b34 -> Fr (In []) h164 h166 -> Vars h166 [(b34, [s428g.v, (VI s428h)]), (b33, [s418i.v]), (b32, [s401e.v]), (b30, [s311c.v]), (b2, [s69b.v, (VI s69c)]), (b1, [s69.v])] ->
 callM P 48 #[(.agg #[s418i.v]), (VI t418i), t418j.v, (VI t418k)] h166 fun r81 h167 => ∃ s436g : Sl, ∃ s436h : Int, ∃ s436i : Bool, r81 = (.tuple #[(.agg #[s436g.v, (VI s436h)]), (VB s436i)]) /\ Vars h167 [(b34, [s428g.v, (VI s428h)]), (b33, [s418i.v]), (b32, [s401e.v]), (b30, [s311c.v]), (b2, [s69b.v, (VI s69c)]), (b1, [s69.v])] /\
 ((s407f == s413f) = true ->
 ∀ (b35 : Nat) (h169 : Heap), h167.size ≤ b35 -> Fr (In []) h167 h169 -> Vars h169 [(b35, [s436g.v, (VI s436h)]), (b34, [s428g.v, (VI s428h)]), (b33, [s418i.v]), (b32, [s401e.v]), (b30, [s311c.v]), (b2, [s69b.v, (VI s69c)]), (b1, [s69.v])] ->
 callM P 49 #[s407e.v, s413e.v] h169 fun r82 h170 => ∃ s445c : Bool, r82 = (VB s445c) /\ Vars h170 [(b35, [s436g.v, (VI s436h)]), (b34, [s428g.v, (VI s428h)]), (b33, [s418i.v]), (b32, [s401e.v]), (b30, [s311c.v]), (b2, [s69b.v, (VI s69c)]), (b1, [s69.v])] /\
 (s445c = true ->
 ((s428i == s436i) = true ->
 callM P 37 #[(.agg #[s428g.v, (VI s428h)]), (.agg #[s436g.v, (VI s436h)])] h170 fun r83 h171 => ∃ s455c : Bool, r83 = (VB s455c) /\ Vars h171 [(b35, [s436g.v, (VI s436h)]), (b34, [s428g.v, (VI s428h)]), (b33, [s418i.v]), (b32, [s401e.v]), (b30, [s311c.v]), (b2, [s69b.v, (VI s69c)]), (b1, [s69.v])] /\
 (s455c = true ->
 ((!s428i) = true ->
 K (VB true) h171) /\
 ((!s428i) = false ->
 callM P 50 #[(.agg #[s418i.v]), (.agg #[s428g.v, (VI s428h)])] h171 fun r84 h172 => ∃ s463c : Bool, r84 = (VB s463c) /\ Vars h172 [(b35, [s436g.v, (VI s436h)]), (b34, [s428g.v, (VI s428h)]), (b33, [s418i.v]), (b32, [s401e.v]), (b30, [s311c.v]), (b2, [s69b.v, (VI s69c)]), (b1, [s69.v])] /\
 K (VB s463c) h172)) /\
 (s455c = false ->
 K (VB false) h171)) /\
 ((s428i == s436i) = false ->
 K (VB false) h170)) /\
 (s445c = false ->
 K (VB false) h170)) /\
 ((s407f == s413f) = false ->
 ∀ (b35 : Nat) (h169 : Heap), h167.size ≤ b35 -> Fr (In []) h167 h169 -> Vars h169 [(b35, [s436g.v, (VI s436h)]), (b34, [s428g.v, (VI s428h)]), (b33, [s418i.v]), (b32, [s401e.v]), (b30, [s311c.v]), (b2, [s69b.v, (VI s69c)]), (b1, [s69.v])] ->
 K (VB false) h169))))))))))))))
theorem v4 (c0 : Sl) (m1 : Sl) (h : Heap) (K : KQ) (H : u4 Tryz.prog c0 m1 h K) : callM Tryz.prog 4 #[c0.v, m1.v] h K := by
 refine c4 c0.v m1.v h K ?_
 unfold u4 at H
 unfold t4
 have hL : Vars h [] := .nil
 refine H.mono ?_
 rintro _ h1 ⟨s66, rfl, hL1, H⟩
 refine condM_b (fun hb1 => ?_) (fun hb1 => ?_)
 ·exact H.1 hb1
 have H := H.2 hb1
 refine H.mono ?_
 rintro _ h2 ⟨s69, s69b, s69c, rfl, hL2, H⟩
 refine pop_ext (v := (Value.agg #[s69.v])) rfl ?_
 refine pop_ext (v := (Value.agg #[s69b.v, (VI s69c)])) rfl ?_
 refine eop_alloc 26 zer26 rfl hL2 (fun b1 h3 hb2 hf1 hL3 => ?_)
 refine eop_alloc 48 zer48 rfl hL3 (fun b2 h4 hb3 hf2 hL4 => ?_)
 refine ul siz26 hL4 1 0 [s69.v] [(b2, [nilSl.v, (VI 0)]), (b1, [s69.v])] (fun h5 hf3 hL5 => ?_)
 refine ul siz48 hL5 0 0 [s69b.v, (VI s69c)] [(b2, [s69b.v, (VI s69c)]), (b1, [s69.v])] (fun h6 hf4 hL6 => ?_)
 refine ra agg26 hL6 1 0 [s69.v] ?_
 refine ra agg48 hL6 0 0 [s69b.v, (VI s69c)] ?_
 refine (H b1 b2 h6 hb2 (Nat.le_trans (Fr.size (fo hf1)) hb3) (Fr.new (Fr.new (Fr.no' (fo hf1) hf2) hb2 hf3) (Nat.le_trans (Fr.size (fo hf1)) hb3) hf4) hL6).mono ?_
 rintro _ h7 ⟨s75, s75b, rfl, hL7, H⟩
 refine pop_ext (v := (VB s75)) rfl ?_
 refine pop_ext (v := (VB s75b)) rfl ?_
 refine ra agg26 hL7 1 0 [s69.v] ?_
 refine ra agg48 hL7 0 0 [s69b.v, (VI s69c)] ?_
 refine H.mono ?_
 rintro _ h8 ⟨s81, s81b, rfl, hL8, H⟩
 refine pop_ext (v := (VB s81)) rfl ?_
 refine pop_ext (v := (VB s81b)) rfl ?_
 refine ra agg26 hL8 1 0 [s69.v] ?_
 refine ra agg48 hL8 0 0 [s69b.v, (VI s69c)] ?_
 refine H.mono ?_
 rintro _ h9 ⟨s87, s87b, rfl, hL9, H⟩
 refine pop_ext (v := s87.v) rfl ?_
 refine pop_ext (v := (VB s87b)) rfl ?_
 refine ra agg26 hL9 1 0 [s69.v] ?_
 refine ra agg48 hL9 0 0 [s69b.v, (VI s69c)] ?_
 refine H.mono ?_
 rintro _ h10 ⟨s93, s93b, rfl, hL10, H⟩
 refine pop_ext (v := s93.v) rfl ?_
 refine pop_ext (v := (VB s93b)) rfl ?_
 refine ra agg26 hL10 1 0 [s69.v] ?_
 refine ra agg48 hL10 0 0 [s69b.v, (VI s69c)] ?_
 refine H.mono ?_
 rintro _ h11 ⟨s99, s99b, rfl, hL11, H⟩
 refine pop_ext (v := s99.v) rfl ?_
 refine pop_ext (v := (VB s99b)) rfl ?_
 refine ra agg26 hL11 1 0 [s69.v] ?_
 refine ra agg48 hL11 0 0 [s69b.v, (VI s69c)] ?_
 refine H.mono ?_
 rintro _ h12 ⟨s105, s105b, rfl, hL12, H⟩
 refine pop_ext (v := s105.v) rfl ?_
 refine pop_ext (v := (VB s105b)) rfl ?_
 refine ra agg26 hL12 1 0 [s69.v] ?_
 refine ra agg48 hL12 0 0 [s69b.v, (VI s69c)] ?_
 refine H.mono ?_
 rintro _ h13 ⟨s111, s111b, rfl, hL13, H⟩
 refine pop_ext (v := (VI s111)) rfl ?_
 refine pop_ext (v := (VB s111b)) rfl ?_
 refine ra agg26 hL13 1 0 [s69.v] ?_
 refine ra agg48 hL13 0 0 [s69b.v, (VI s69c)] ?_
 refine H.mono ?_
 rintro _ h14 ⟨s117, s117b, rfl, hL14, H⟩
 refine pop_ext (v := (VI s117)) rfl ?_
 refine pop_ext (v := (VB s117b)) rfl ?_
 refine pop_bne boo4 _ _ s75b s81b ?_
 refine guardM_sf (fun hb4 => ?_) (fun hb4 => ?_)
 rotate_left
 ·have H := H.1 hb4
  refine gm hb4 ?_
  refine gm hb4 ?_
  refine pop_pickt' hb4 ?_
  refine gn ?_
  refine gn ?_
  refine gn ?_
  refine pop_pickt _ _ ?_
  refine gn ?_
  refine gn ?_
  refine gn ?_
  refine gn ?_
  refine pop_pickt _ _ ?_
  refine gn ?_
  refine gn ?_
  refine gn ?_
  refine pop_pickt _ _ ?_
  refine gn ?_
  refine gn ?_
  refine gn ?_
  refine gn ?_
  refine pop_pickt _ _ ?_
  refine gn ?_
  refine gn ?_
  refine gn ?_
  refine pop_pickt _ _ ?_
  refine gn ?_
  refine gn ?_
  refine gn ?_
  refine pop_pickt _ _ ?_
  refine gn ?_
  refine gn ?_
  refine gn ?_
  refine gn ?_
  refine gn ?_
  refine gn ?_
  refine pop_pickt _ _ ?_
  refine gn ?_
  refine gn ?_
  refine gn ?_
  refine gn ?_
  refine gn ?_
  refine gn ?_
  refine gn ?_
  refine gn ?_
  refine pop_pickt _ _ ?_
  refine condM_t ?_
  exact H
 have H := H.2 hb4
 refine gy hb4 ?_
 refine gy hb4 ?_
 refine pop_bne boo4 _ _ s75 s81 ?_
 refine pop_pickf' hb4 ?_
 refine guardM_sf (fun hb5 => ?_) (fun hb5 => ?_)
 rotate_left
 ·have H := H.1 hb5
  refine gm hb5 ?_
  refine gm hb5 ?_
  refine pop_pickt' hb5 ?_
  refine gn ?_
  refine gn ?_
  refine gn ?_
  refine gn ?_
  refine pop_pickt _ _ ?_
  refine gn ?_
  refine gn ?_
  refine gn ?_
  refine pop_pickt _ _ ?_
  refine gn ?_
  refine gn ?_
  refine gn ?_
  refine gn ?_
  refine pop_pickt _ _ ?_
  refine gn ?_
  refine gn ?_
  refine gn ?_
  refine pop_pickt _ _ ?_
  refine gn ?_
  refine gn ?_
  refine gn ?_
  refine pop_pickt _ _ ?_
  refine gn ?_
  refine gn ?_
  refine gn ?_
  refine gn ?_
  refine gn ?_
  refine gn ?_
  refine pop_pickt _ _ ?_
  refine gn ?_
  refine gn ?_
  refine gn ?_
  refine gn ?_
  refine gn ?_
  refine gn ?_
  refine gn ?_
  refine gn ?_
  refine pop_pickt _ _ ?_
  refine condM_t ?_
  exact H
 have H := H.2 hb5
 refine gy hb5 ?_
 refine gy hb5 ?_
 refine pop_bne boo4 _ _ s87b s93b ?_
 refine pop_pickf' hb5 ?_
 refine guardM_sf (fun hb6 => ?_) (fun hb6 => ?_)
 rotate_left
 ·have H := H.1 hb6
  refine gm hb6 ?_
  refine gm hb6 ?_
  refine gm hb6 ?_
  refine pop_pickt' hb6 ?_
  refine gn ?_
  refine gn ?_
  refine gn ?_
  refine pop_pickt _ _ ?_
  refine gn ?_
  refine gn ?_
  refine gn ?_
  refine gn ?_
  refine pop_pickt _ _ ?_
  refine gn ?_
  refine gn ?_
  refine gn ?_
  refine pop_pickt _ _ ?_
  refine gn ?_
  refine gn ?_
  refine gn ?_
  refine pop_pickt _ _ ?_
  refine gn ?_
  refine gn ?_
  refine gn ?_
  refine gn ?_
  refine gn ?_
  refine gn ?_
  refine pop_pickt _ _ ?_
  refine gn ?_
  refine gn ?_
  refine gn ?_
  refine gn ?_
  refine gn ?_
  refine gn ?_
  refine gn ?_
  refine gn ?_
  refine pop_pickt _ _ ?_
  refine condM_t ?_
  exact H
 have H := H.2 hb6
 refine gy hb6 ?_
 refine gy hb6 ?_
 refine H.mono ?_
 rintro _ h15 ⟨s136, rfl, hL15, H⟩
 refine gy hb6 ?_
 refine pop_not s136 ?_
 refine pop_pickf' hb6 ?_
 refine guardM_sf (fun hb7 => ?_) (fun hb7 => ?_)
 rotate_left
 ·have H := H.1 hb7
  refine gm hb7 ?_
  refine gm hb7 ?_
  refine pop_pickt' hb7 ?_
  refine gn ?_
  refine gn ?_
  refine gn ?_
  refine gn ?_
  refine pop_pickt _ _ ?_
  refine gn ?_
  refine gn ?_
  refine gn ?_
  refine pop_pickt _ _ ?_
  refine gn ?_
  refine gn ?_
  refine gn ?_
  refine pop_pickt _ _ ?_
  refine gn ?_
  refine gn ?_
  refine gn ?_
  refine gn ?_
  refine gn ?_
  refine gn ?_
  refine pop_pickt _ _ ?_
  refine gn ?_
  refine gn ?_
  refine gn ?_
  refine gn ?_
  refine gn ?_
  refine gn ?_
  refine gn ?_
  refine gn ?_
  refine pop_pickt _ _ ?_
  refine condM_t ?_
  exact H
 have H := H.2 hb7
 refine gy hb7 ?_
 refine gy hb7 ?_
 refine pop_bne boo4 _ _ s99b s105b ?_
 refine pop_pickf' hb7 ?_
 refine guardM_sf (fun hb8 => ?_) (fun hb8 => ?_)
 rotate_left
 ·have H := H.1 hb8
  refine gm hb8 ?_
  refine gm hb8 ?_
  refine gm hb8 ?_
  refine pop_pickt' hb8 ?_
  refine gn ?_
  refine gn ?_
  refine gn ?_
  refine pop_pickt _ _ ?_
  refine gn ?_
  refine gn ?_
  refine gn ?_
  refine pop_pickt _ _ ?_
  refine gn ?_
  refine gn ?_
  refine gn ?_
  refine gn ?_
  refine gn ?_
  refine gn ?_
  refine pop_pickt _ _ ?_
  refine gn ?_
  refine gn ?_
  refine gn ?_
  refine gn ?_
  refine gn ?_
  refine gn ?_
  refine gn ?_
  refine gn ?_
  refine pop_pickt _ _ ?_
  refine condM_t ?_
  exact H
 have H := H.2 hb8
 refine gy hb8 ?_
 refine gy hb8 ?_
 refine H.mono ?_
 rintro _ h16 ⟨s147, rfl, hL16, H⟩
 refine gy hb8 ?_
 refine pop_not s147 ?_
 refine pop_pickf' hb8 ?_
 refine guardM_sf (fun hb9 => ?_) (fun hb9 => ?_)
 rotate_left
 ·have H := H.1 hb9
  refine gm hb9 ?_
  refine gm hb9 ?_
  refine pop_pickt' hb9 ?_
  refine gn ?_
  refine gn ?_
  refine gn ?_
  refine pop_pickt _ _ ?_
  refine gn ?_
  refine gn ?_
  refine gn ?_
  refine gn ?_
  refine gn ?_
  refine gn ?_
  refine pop_pickt _ _ ?_
  refine gn ?_
  refine gn ?_
  refine gn ?_
  refine gn ?_
  refine gn ?_
  refine gn ?_
  refine gn ?_
  refine gn ?_
  refine pop_pickt _ _ ?_
  refine condM_t ?_
  exact H
 have H := H.2 hb9
 refine gy hb9 ?_
 refine gy hb9 ?_
 refine pop_bne boo4 _ _ s111b s117b ?_
 refine pop_pickf' hb9 ?_
 refine guardM_sf (fun hb10 => ?_) (fun hb10 => ?_)
 rotate_left
 ·have H := H.1 hb10
  refine gm hb10 ?_
  refine gm hb10 ?_
  refine pop_pickt' hb10 ?_
  refine gn ?_
  refine gn ?_
  refine gn ?_
  refine gn ?_
  refine gn ?_
  refine gn ?_
  refine pop_pickt _ _ ?_
  refine gn ?_
  refine gn ?_
  refine gn ?_
  refine gn ?_
  refine gn ?_
  refine gn ?_
  refine gn ?_
  refine gn ?_
  refine pop_pickt _ _ ?_
  refine condM_t ?_
  exact H
 have H := H.2 hb10
 refine gy hb10 ?_
 refine gy hb10 ?_
 refine pop_ine .i64 _ _ s111 s117 ?_
 refine pop_pickf' hb10 ?_
 refine guardM_sf (fun hb11 => ?_) (fun hb11 => ?_)
 rotate_left
 ·have H := H.1 hb11
  refine gm hb11 ?_
  refine gm hb11 ?_
  refine gn ?_
  refine gm hb11 ?_
  refine gm hb11 ?_
  refine pop_pickt' hb11 ?_
  refine gn ?_
  refine gn ?_
  refine gn ?_
  refine gn ?_
  refine gn ?_
  refine gn ?_
  refine gn ?_
  refine gn ?_
  refine pop_pickt _ _ ?_
  refine condM_t ?_
  exact H
 have H := H.2 hb11
 refine gy hb11 ?_
 refine gy hb11 ?_
 refine guardM_st (fun hb12 => ?_) (fun hb12 => ?_)
 rotate_left
 ·have H := H.2 hb12
  refine gy hb11 ?_
  refine pop_pickf' hb12 ?_
  refine gy hb11 ?_
  refine pop_bne boo4 _ _ s87b false ?_
  refine pop_pickf' hb11 ?_
  refine guardM_sf (fun hb108 => ?_) (fun hb108 => ?_)
  rotate_left
  ·have H := H.1 hb108
   refine gm hb108 ?_
   refine gn ?_
   refine gm hb108 ?_
   refine gm hb108 ?_
   refine gn ?_
   refine gn ?_
   refine gm hb108 ?_
   refine pop_pickt' hb108 ?_
   refine condM_t ?_
   exact H
  have H := H.2 hb108
  refine gy hb108 ?_
  refine gm hb12 ?_
  refine gy hb108 ?_
  refine pop_pickf' hb12 ?_
  refine gy hb108 ?_
  refine gn ?_
  refine gn ?_
  refine gy hb108 ?_
  refine pop_pickf _ _ ?_
  refine pop_pickf' hb108 ?_
  refine condM_f ?_
  obtain ⟨J17, H, HB24⟩ := H
  refine ⟨fun (vs : List Value) (h' : Heap) => vs = [] /\ J17  h' /\ Vars h' [(b2, [s69b.v, (VI s69c)]), (b1, [s69.v])], ?_, ?_⟩
  ·refine condM_b (fun hb109 => ?_) (fun hb109 => ?_)
   rotate_left
   ·have H := H.2 hb109
    exact ⟨rfl, H, hL16⟩
   have H := H.1 hb109
   refine pop_len s99 _ _ sli29 ?_
   obtain ⟨J18, ⟨n14, h0f⟩, HB17⟩ := H
   refine loop_intro (J := fun (n : Nat) (vs : List Value) (h' : Heap) => ∃ s181c : Int, vs = [(VI s181c)] /\ J18 n s181c h' /\ Vars h' [(b2, [s69b.v, (VI s69c)]), (b1, [s69.v])]) n14 ⟨0, rfl, h0f, hL16⟩ ?_
   intro I7 mu7 hI7 junk17 tv13 h121 hi23
   obtain ⟨n13, ⟨s181c, hv, hJ17, hL121⟩, hn7⟩ := hI7 _ _ hi23
   cases hv
   have H := HB17 n13 s181c h121 hJ17 hL121
   refine pop_lss .i64 s181c (s99.n : Int) ?_
   refine condM_b (fun hb110 => ?_) (fun hb110 => ?_)
   rotate_left
   ·have H := H.2 hb110
    exact ⟨rfl, H, hL121⟩
   have H := H.1 hb110
   obtain ⟨hi24, H⟩ := H
   refine pop_index sli29 siz3 .i64 s99 s181c hi24 ?_
   obtain ⟨s185c, hc23, H⟩ := H
   refine rop_one one3 (VI s185c) hc23 ?_
   refine pop_field 0 fld26_0 b1 0 ?_
   refine rl one24 hL121 1 0 s69.v ?_
   obtain ⟨hi25, H⟩ := H
   refine pop_index sli24 siz29 .i64 s69 s185c hi25 ?_
   obtain ⟨s190c, hc22, H⟩ := H
   refine rop_one one29 s190c.v hc22 ?_
   refine pop_field 0 fld48_0 b2 0 ?_
   refine rl one29 hL121 0 0 s69b.v ?_
   obtain ⟨hi26, H⟩ := H
   refine pop_index sli29 siz3 .i64 s69b s185c hi26 ?_
   obtain ⟨s195c, hc21, H⟩ := H
   refine rop_one one3 (VI s195c) hc21 ?_
   obtain ⟨hi27, H⟩ := H
   refine pop_index sli29 siz3 .i64 s190c s195c hi27 ?_
   obtain ⟨s197c, hc20, H⟩ := H
   refine rop_one one3 (VI s197c) hc20 ?_
   refine pop_add .i64 s181c 1 ?_
   refine pop_len s99 _ _ sli29 ?_
   obtain ⟨hz_3, H⟩ := H
   refine pop_rem .i64 (w64 (s181c + 1)) (s99.n : Int) hz_3 ?_
   obtain ⟨hi28, H⟩ := H
   refine pop_index sli29 siz3 .i64 s99 (Int.tmod (w64 (s181c + 1)) (s99.n : Int)) hi28 ?_
   obtain ⟨s205c, hc19, H⟩ := H
   refine rop_one one3 (VI s205c) hc19 ?_
   refine pop_ine .i64 _ _ s197c s205c ?_
   refine condM_b (fun hb111 => ?_) (fun hb111 => ?_)
   ·exact H.1 hb111
   have H := H.2 hb111
   refine pop_add .i64 s181c 1 ?_
   obtain ⟨m_9, hm_9, H⟩ := H
   exact hn7 _ _ ⟨m_9, hm_9, (w64 (s181c + 1)), rfl, H, hL121⟩
  intro junk18  h122
  rintro ⟨hv, hJ18, hL122⟩
  have H := HB24  h122 hJ18 hL122
  obtain ⟨J19, H, HB23⟩ := H
  refine ⟨fun (vs : List Value) (h' : Heap) => vs = [] /\ J19  h' /\ Vars h' [(b2, [s69b.v, (VI s69c)]), (b1, [s69.v])], ?_, ?_⟩
  ·refine condM_b (fun hb112 => ?_) (fun hb112 => ?_)
   rotate_left
   ·have H := H.2 hb112
    exact ⟨rfl, H, hL122⟩
   have H := H.1 hb112
   refine ra agg26 hL122 1 0 [s69.v] ?_
   refine pop_field 1 fld48_1 b2 0 ?_
   refine rl one3 hL122 0 1 (VI s69c) ?_
   refine H.mono ?_
   rintro _ h123 ⟨s214e, s214f, rfl, hL123, H⟩
   refine pop_ext (v := (VB s214e)) rfl ?_
   refine pop_ext (v := (VB s214f)) rfl ?_
   obtain ⟨J20, H, HB18⟩ := H
   refine ⟨fun (vs : List Value) (h' : Heap) => ∃ b25 : Nat, ∃ y7 : Sl, ∃ y8 : Int, ∃ y9 : Bool, vs = [(VP b25 0), (VB y9)] /\ J20 b25 y7 y8 y9 h' /\ Vars h' [(b25, [y7.v, (VI y8)]), (b2, [s69b.v, (VI s69c)]), (b1, [s69.v])], ?_, ?_⟩
   ·refine ra agg26 hL123 1 0 [s69.v] ?_
    refine pop_field 1 fld48_1 b2 0 ?_
    refine rl one3 hL123 0 1 (VI s69c) ?_
    refine pop_field 0 fld48_0 b2 0 ?_
    refine rl one29 hL123 0 0 s69b.v ?_
    refine pop_field 1 fld48_1 b2 0 ?_
    refine rl one3 hL123 0 1 (VI s69c) ?_
    obtain ⟨hi29, H⟩ := H
    refine pop_index sli29 siz3 .i64 s69b s69c hi29 ?_
    obtain ⟨s227c, hc25, H⟩ := H
    refine rop_one one3 (VI s227c) hc25 ?_
    refine ⟨?_, ?_⟩
    ·have H := H.1
     refine H.mono ?_
     rintro _ h124 ⟨t228l, t228m, t228n, rfl, hL124, H⟩
     refine ⟨?_, ?_⟩
     ·exact still_loc one3 hL124 0 rfl 1 (v := (VI s69c)) rfl
     refine ⟨?_, ?_⟩
     ·exact still_loc one29 hL124 0 rfl 0 (v := s69b.v) rfl
     refine pop_ext (v := (Value.agg #[t228l.v, (VI t228m)])) rfl ?_
     refine pop_ext (v := (VB t228n)) rfl ?_
     refine eop_alloc 48 zer48 rfl hL124 (fun b26 h125 hb113 hf45 hL125 => ?_)
     have H := H b26 h125 hb113 (fo hf45) hL125
     refine ⟨?_, ?_⟩
     ·exact still_loc one3 hL125 1 rfl 1 (v := (VI s69c)) rfl
     refine ⟨?_, ?_⟩
     ·exact still_loc one29 hL125 1 rfl 0 (v := s69b.v) rfl
     refine ul siz48 hL125 0 0 [t228l.v, (VI t228m)] [(b26, [t228l.v, (VI t228m)]), (b2, [s69b.v, (VI s69c)]), (b1, [s69.v])] (fun h126 hf46 hL126 => ?_)
     have H := H  h126  (fq hf46) hL126
     exact ⟨b26, t228l, t228m, t228n, rfl, H, hL126⟩
    have H := H.2
    refine eop_alloc 48 zer48 rfl hL123 (fun b27 h127 hb114 hf47 hL127 => ?_)
    have H := H b27 h127 hb114 (fo hf47) hL127
    refine ⟨?_, ?_⟩
    ·exact still_one one3 H.1
    obtain ⟨hc24, H⟩ := H
    refine ⟨?_, ?_⟩
    ·exact still_loc one3 hL127 1 rfl 1 (v := (VI s69c)) rfl
    refine ⟨?_, ?_⟩
    ·exact still_loc one29 hL127 1 rfl 0 (v := s69b.v) rfl
    refine ⟨?_, ?_⟩
    ·exact still_loc one3 hL127 1 rfl 1 (v := (VI s69c)) rfl
    refine ⟨?_, ?_⟩
    ·exact still_locA agg26 hL127 2 rfl 0 (vs := [s69.v]) rfl rfl
    refine H.mono ?_
    rintro _ h128 ⟨t228o, t228p, t228q, rfl, hL128, H⟩
    refine ⟨?_, ?_⟩
    ·exact still_loc one3 hL128 1 rfl 1 (v := (VI s69c)) rfl
    refine ⟨?_, ?_⟩
    ·exact still_loc one29 hL128 1 rfl 0 (v := s69b.v) rfl
    refine pop_ext (v := (Value.agg #[t228o.v, (VI t228p)])) rfl ?_
    refine pop_ext (v := (VB t228q)) rfl ?_
    refine ul siz48 hL128 0 0 [t228o.v, (VI t228p)] [(b27, [t228o.v, (VI t228p)]), (b2, [s69b.v, (VI s69c)]), (b1, [s69.v])] (fun h129 hf48 hL129 => ?_)
    have H := H  h129  (fq hf48) hL129
    exact ⟨b27, t228o, t228p, t228q, rfl, H, hL129⟩
   intro junk19 tv14 tv15 h130
   rintro ⟨b25, y7, y8, y9, hv, hJ19, hL130⟩
   cases hv
   have H := HB18 b25 y7 y8 y9 h130 hJ19 hL130
   refine ra agg26 hL130 2 0 [s69.v] ?_
   refine ra agg48 hL130 1 0 [s69b.v, (VI s69c)] ?_
   refine H.mono ?_
   rintro _ h131 ⟨s234g, s234h, s234i, rfl, hL131, H⟩
   refine pop_ext (v := (Value.agg #[s234g.v, (VI s234h)])) rfl ?_
   refine pop_ext (v := (VB s234i)) rfl ?_
   refine eop_alloc 48 zer48 rfl hL131 (fun b28 h132 hb115 hf49 hL132 => ?_)
   refine ul siz48 hL132 0 0 [s234g.v, (VI s234h)] [(b28, [s234g.v, (VI s234h)]), (b25, [y7.v, (VI y8)]), (b2, [s69b.v, (VI s69c)]), (b1, [s69.v])] (fun h133 hf50 hL133 => ?_)
   refine ra agg26 hL133 3 0 [s69.v] ?_
   refine ra agg48 hL133 0 0 [s234g.v, (VI s234h)] ?_
   refine (H b28 h133 hb115 (Fr.new (fo hf49) hb115 hf50) hL133).mono ?_
   rintro _ h134 ⟨s240e, s240f, rfl, hL134, H⟩
   refine pop_ext (v := (VB s240e)) rfl ?_
   refine pop_ext (v := (VB s240f)) rfl ?_
   refine pop_not s214f ?_
   refine guardM_sf (fun hb116 => ?_) (fun hb116 => ?_)
   rotate_left
   ·have H := H.1 hb116
    refine gm hb116 ?_
    refine pop_pickt' hb116 ?_
    refine gn ?_
    refine gn ?_
    refine pop_pickt _ _ ?_
    refine gn ?_
    refine gn ?_
    refine gn ?_
    refine gn ?_
    refine pop_pickt _ _ ?_
    refine gn ?_
    refine gn ?_
    refine pop_pickt _ _ ?_
    refine gn ?_
    refine gn ?_
    refine pop_pickt _ _ ?_
    refine gn ?_
    refine gn ?_
    refine pop_pickt _ _ ?_
    refine gn ?_
    refine gn ?_
    refine gn ?_
    refine gn ?_
    refine gn ?_
    refine pop_pickt _ _ ?_
    refine gn ?_
    refine gn ?_
    refine pop_pickt _ _ ?_
    refine gn ?_
    refine gn ?_
    refine pop_pickt _ _ ?_
    refine condM_t ?_
    exact H
   have H := H.2 hb116
   refine gy hb116 ?_
   refine pop_not s214e ?_
   refine pop_pickf' hb116 ?_
   refine guardM_sf (fun hb117 => ?_) (fun hb117 => ?_)
   rotate_left
   ·have H := H.1 hb117
    refine gm hb117 ?_
    refine pop_pickt' hb117 ?_
    refine gn ?_
    refine gn ?_
    refine gn ?_
    refine gn ?_
    refine pop_pickt _ _ ?_
    refine gn ?_
    refine gn ?_
    refine pop_pickt _ _ ?_
    refine gn ?_
    refine gn ?_
    refine pop_pickt _ _ ?_
    refine gn ?_
    refine gn ?_
    refine pop_pickt _ _ ?_
    refine gn ?_
    refine gn ?_
    refine gn ?_
    refine gn ?_
    refine gn ?_
    refine pop_pickt _ _ ?_
    refine gn ?_
    refine gn ?_
    refine pop_pickt _ _ ?_
    refine gn ?_
    refine gn ?_
    refine pop_pickt _ _ ?_
    refine condM_t ?_
    exact H
   have H := H.2 hb117
   refine gy hb117 ?_
   refine pop_not y9 ?_
   refine pop_pickf' hb117 ?_
   refine guardM_sf (fun hb118 => ?_) (fun hb118 => ?_)
   rotate_left
   ·have H := H.1 hb118
    refine gm hb118 ?_
    refine gm hb118 ?_
    refine gm hb118 ?_
    refine pop_pickt' hb118 ?_
    refine gn ?_
    refine gn ?_
    refine pop_pickt _ _ ?_
    refine gn ?_
    refine gn ?_
    refine pop_pickt _ _ ?_
    refine gn ?_
    refine gn ?_
    refine pop_pickt _ _ ?_
    refine gn ?_
    refine gn ?_
    refine gn ?_
    refine gn ?_
    refine gn ?_
    refine pop_pickt _ _ ?_
    refine gn ?_
    refine gn ?_
    refine pop_pickt _ _ ?_
    refine gn ?_
    refine gn ?_
    refine pop_pickt _ _ ?_
    refine condM_t ?_
    exact H
   have H := H.2 hb118
   refine ra agg48 hL134 1 0 [y7.v, (VI y8)] ?_
   refine gy hb118 ?_
   refine ra agg48 hL134 2 0 [s69b.v, (VI s69c)] ?_
   refine gy hb118 ?_
   refine H.mono ?_
   rintro _ h135 ⟨s256c, rfl, hL135, H⟩
   refine gy hb118 ?_
   refine pop_not s256c ?_
   refine pop_pickf' hb118 ?_
   refine guardM_sf (fun hb119 => ?_) (fun hb119 => ?_)
   rotate_left
   ·have H := H.1 hb119
    refine gm hb119 ?_
    refine pop_pickt' hb119 ?_
    refine gn ?_
    refine gn ?_
    refine pop_pickt _ _ ?_
    refine gn ?_
    refine gn ?_
    refine pop_pickt _ _ ?_
    refine gn ?_
    refine gn ?_
    refine gn ?_
    refine gn ?_
    refine gn ?_
    refine pop_pickt _ _ ?_
    refine gn ?_
    refine gn ?_
    refine pop_pickt _ _ ?_
    refine gn ?_
    refine gn ?_
    refine pop_pickt _ _ ?_
    refine condM_t ?_
    exact H
   have H := H.2 hb119
   refine gy hb119 ?_
   refine pop_not s234i ?_
   refine pop_pickf' hb119 ?_
   refine guardM_sf (fun hb120 => ?_) (fun hb120 => ?_)
   rotate_left
   ·have H := H.1 hb120
    refine gm hb120 ?_
    refine pop_pickt' hb120 ?_
    refine gn ?_
    refine gn ?_
    refine pop_pickt _ _ ?_
    refine gn ?_
    refine gn ?_
    refine gn ?_
    refine gn ?_
    refine gn ?_
    refine pop_pickt _ _ ?_
    refine gn ?_
    refine gn ?_
    refine pop_pickt _ _ ?_
    refine gn ?_
    refine gn ?_
    refine pop_pickt _ _ ?_
    refine condM_t ?_
    exact H
   have H := H.2 hb120
   refine gy hb120 ?_
   refine pop_not s240f ?_
   refine pop_pickf' hb120 ?_
   refine guardM_sf (fun hb121 => ?_) (fun hb121 => ?_)
   rotate_left
   ·have H := H.1 hb121
    refine gm hb121 ?_
    refine pop_pickt' hb121 ?_
    refine gn ?_
    refine gn ?_
    refine gn ?_
    refine gn ?_
    refine gn ?_
    refine pop_pickt _ _ ?_
    refine gn ?_
    refine gn ?_
    refine pop_pickt _ _ ?_
    refine gn ?_
    refine gn ?_
    refine pop_pickt _ _ ?_
    refine condM_t ?_
    exact H
   have H := H.2 hb121
   refine gy hb121 ?_
   refine pop_not s240e ?_
   refine pop_pickf' hb121 ?_
   refine guardM_sf (fun hb122 => ?_) (fun hb122 => ?_)
   rotate_left
   ·have H := H.1 hb122
    refine gm hb122 ?_
    refine gm hb122 ?_
    refine gm hb122 ?_
    refine gm hb122 ?_
    refine pop_pickt' hb122 ?_
    refine gn ?_
    refine gn ?_
    refine pop_pickt _ _ ?_
    refine gn ?_
    refine gn ?_
    refine pop_pickt _ _ ?_
    refine condM_t ?_
    exact H
   have H := H.2 hb122
   refine gy hb122 ?_
   refine pop_field 1 fld48_1 b2 0 ?_
   refine gy hb122 ?_
   refine rl one3 hL135 2 1 (VI s69c) ?_
   refine gy hb122 ?_
   refine H.mono ?_
   rintro _ h136 ⟨s275c, rfl, hL136, H⟩
   refine gy hb122 ?_
   refine pop_not s275c ?_
   refine pop_pickf' hb122 ?_
   refine guardM_sf (fun hb123 => ?_) (fun hb123 => ?_)
   rotate_left
   ·have H := H.1 hb123
    refine gm hb123 ?_
    refine pop_pickt' hb123 ?_
    refine gn ?_
    refine gn ?_
    refine pop_pickt _ _ ?_
    refine condM_t ?_
    exact H
   have H := H.2 hb123
   refine gy hb123 ?_
   refine pop_not s111b ?_
   refine pop_pickf' hb123 ?_
   refine guardM_sf (fun hb124 => ?_) (fun hb124 => ?_)
   rotate_left
   ·have H := H.1 hb124
    refine gm hb124 ?_
    refine pop_pickt' hb124 ?_
    refine condM_t ?_
    exact H
   have H := H.2 hb124
   refine gy hb124 ?_
   refine pop_ine .i64 _ _ s111 0 ?_
   refine pop_pickf' hb124 ?_
   refine condM_b (fun hb125 => ?_) (fun hb125 => ?_)
   ·exact H.1 hb125
   have H := H.2 hb125
   exact ⟨rfl, H, Vars.pick hL136 [2, 3] rfl⟩
  intro junk20  h137
  rintro ⟨hv, hJ20, hL137⟩
  have H := HB23  h137 hJ20 hL137
  obtain ⟨J21, H, HB22⟩ := H
  refine ⟨fun (vs : List Value) (h' : Heap) => vs = [] /\ J21  h' /\ Vars h' [(b2, [s69b.v, (VI s69c)]), (b1, [s69.v])], ?_, ?_⟩
  ·refine condM_b (fun hb126 => ?_) (fun hb126 => ?_)
   rotate_left
   ·have H := H.2 hb126
    exact ⟨rfl, H, hL137⟩
   have H := H.1 hb126
   refine ra agg26 hL137 1 0 [s69.v] ?_
   refine ra agg48 hL137 0 0 [s69b.v, (VI s69c)] ?_
   refine H.mono ?_
   rintro _ h138 ⟨s291g, s291h, s291i, rfl, hL138, H⟩
   refine pop_ext (v := (Value.agg #[s291g.v, (VI s291h)])) rfl ?_
   refine pop_ext (v := (VB s291i)) rfl ?_
   refine eop_alloc 48 zer48 rfl hL138 (fun b29 h139 hb127 hf51 hL139 => ?_)
   refine ul siz48 hL139 0 0 [s291g.v, (VI s291h)] [(b29, [s291g.v, (VI s291h)]), (b2, [s69b.v, (VI s69c)]), (b1, [s69.v])] (fun h140 hf52 hL140 => ?_)
   refine ra agg26 hL140 2 0 [s69.v] ?_
   refine ra agg48 hL140 0 0 [s291g.v, (VI s291h)] ?_
   refine (H b29 h140 hb127 (Fr.new (fo hf51) hb127 hf52) hL140).mono ?_
   rintro _ h141 ⟨s297e, s297f, rfl, hL141, H⟩
   refine pop_ext (v := (VB s297e)) rfl ?_
   refine pop_ext (v := (VB s297f)) rfl ?_
   refine pop_not s291i ?_
   refine guardM_sf (fun hb128 => ?_) (fun hb128 => ?_)
   rotate_left
   ·have H := H.1 hb128
    refine gm hb128 ?_
    refine pop_pickt' hb128 ?_
    refine gn ?_
    refine gn ?_
    refine pop_pickt _ _ ?_
    refine condM_t ?_
    exact H
   have H := H.2 hb128
   refine gy hb128 ?_
   refine pop_not s297f ?_
   refine pop_pickf' hb128 ?_
   refine guardM_sf (fun hb129 => ?_) (fun hb129 => ?_)
   rotate_left
   ·have H := H.1 hb129
    refine gm hb129 ?_
    refine pop_pickt' hb129 ?_
    refine condM_t ?_
    exact H
   have H := H.2 hb129
   refine gy hb129 ?_
   refine pop_not s297e ?_
   refine pop_pickf' hb129 ?_
   refine condM_b (fun hb130 => ?_) (fun hb130 => ?_)
   ·exact H.1 hb130
   have H := H.2 hb130
   exact ⟨rfl, H, Vars.pick hL141 [1, 2] rfl⟩
  intro junk21  h142
  rintro ⟨hv, hJ21, hL142⟩
  have H := HB22  h142 hJ21 hL142
  refine H.mono ?_
  rintro _ h143 ⟨s311c, rfl, hL143, H⟩
  refine eop_alloc 26 zer26 rfl hL143 (fun b30 h144 hb131 hf53 hL144 => ?_)
  refine ul siz26 hL144 0 0 [s311c.v] [(b30, [s311c.v]), (b2, [s69b.v, (VI s69c)]), (b1, [s69.v])] (fun h145 hf54 hL145 => ?_)
  refine ra agg26 hL145 0 0 [s311c.v] ?_
  refine (H b30 h145 hb131 (Fr.new (fo hf53) hb131 hf54) hL145).mono ?_
  rintro _ h146 ⟨s314e, s314f, rfl, hL146, H⟩
  refine pop_ext (v := (VI s314e)) rfl ?_
  refine pop_ext (v := (VB s314f)) rfl ?_
  refine ra agg26 hL146 0 0 [s311c.v] ?_
  refine H.mono ?_
  rintro _ h147 ⟨s319e, s319f, rfl, hL147, H⟩
  refine pop_ext (v := (VI s319e)) rfl ?_
  refine pop_ext (v := (VB s319f)) rfl ?_
  refine pop_bne boo4 _ _ s314f s319f ?_
  refine guardM_sf (fun hb132 => ?_) (fun hb132 => ?_)
  rotate_left
  ·have H := H.1 hb132
   refine gm hb132 ?_
   refine gm hb132 ?_
   refine pop_pickt' hb132 ?_
   refine condM_t ?_
   exact H
  have H := H.2 hb132
  refine gy hb132 ?_
  refine gy hb132 ?_
  refine pop_ine .i64 _ _ s314e s319e ?_
  refine pop_pickf' hb132 ?_
  refine condM_b (fun hb133 => ?_) (fun hb133 => ?_)
  ·exact H.1 hb133
  have H := H.2 hb133
  obtain ⟨J22, H, HB21⟩ := H
  refine ⟨fun (vs : List Value) (h' : Heap) => vs = [] /\ J22  h' /\ Vars h' [(b30, [s311c.v]), (b2, [s69b.v, (VI s69c)]), (b1, [s69.v])], ?_, ?_⟩
  ·refine guardM_st (fun hb134 => ?_) (fun hb134 => ?_)
   rotate_left
   ·have H := H.2 hb134
    refine gm hb134 ?_
    refine pop_pickf' hb134 ?_
    refine condM_f ?_
    exact ⟨rfl, H, hL147⟩
   have H := H.1 hb134
   refine gy hb134 ?_
   refine pop_leq .i64 s314e 60 ?_
   refine pop_pickt' hb134 ?_
   refine condM_b (fun hb135 => ?_) (fun hb135 => ?_)
   rotate_left
   ·have H := H.2 hb135
    exact ⟨rfl, H, hL147⟩
   have H := H.1 hb135
   refine pop_field 0 fld26_0 b30 0 ?_
   refine rl one24 hL147 0 0 s311c.v ?_
   refine pop_len s311c _ _ sli24 ?_
   obtain ⟨J23, ⟨n18, h0h⟩, HB20⟩ := H
   refine loop_intro (J := fun (n : Nat) (vs : List Value) (h' : Heap) => ∃ n42b : Int, ∃ s338c : Int, vs = [(VI n42b), (VI s338c)] /\ J23 n n42b s338c h' /\ Vars h' [(b30, [s311c.v]), (b2, [s69b.v, (VI s69c)]), (b1, [s69.v])]) n18 ⟨0, 0, rfl, h0h, hL147⟩ ?_
   intro I9 mu9 hI9 junk22 tv17 tv18 h148 hi30
   obtain ⟨n15, ⟨n42b, s338c, hv, hJ22, hL148⟩, hn8⟩ := hI9 _ _ hi30
   cases hv
   have H := HB20 n15 n42b s338c h148 hJ22 hL148
   refine pop_lss .i64 s338c (s311c.n : Int) ?_
   refine condM_b (fun hb136 => ?_) (fun hb136 => ?_)
   rotate_left
   ·have H := H.2 hb136
    refine pop_ine .i64 _ _ n42b s314e ?_
    refine condM_b (fun hb145 => ?_) (fun hb145 => ?_)
    ·exact H.1 hb145
    have H := H.2 hb145
    exact ⟨rfl, H, hL148⟩
   have H := H.1 hb136
   refine ra agg26 hL148 0 0 [s311c.v] ?_
   refine H.mono ?_
   rintro _ h149 ⟨s344e, s344f, rfl, hL149, H⟩
   refine pop_ext (v := s344e.v) rfl ?_
   refine pop_ext (v := (VB s344f)) rfl ?_
   refine pop_not s344f ?_
   refine condM_b (fun hb137 => ?_) (fun hb137 => ?_)
   ·exact H.1 hb137
   have H := H.2 hb137
   refine pop_len s344e _ _ sli62 ?_
   obtain ⟨J24, ⟨n17, h0g⟩, HB19⟩ := H
   refine loop_intro (J := fun (n : Nat) (vs : List Value) (h' : Heap) => ∃ s351c : Int, vs = [(VI s351c)] /\ J24 n s351c h' /\ Vars h' [(b30, [s311c.v]), (b2, [s69b.v, (VI s69c)]), (b1, [s69.v])]) n17 ⟨0, rfl, h0g, hL149⟩ ?_
   intro I8 mu8 hI8 junk23 tv16 h150 hi31
   obtain ⟨n16, ⟨s351c, hv, hJ23, hL150⟩, hn9⟩ := hI8 _ _ hi31
   cases hv
   have H := HB19 n16 s351c h150 hJ23 hL150
   refine pop_lss .i64 s351c (s344e.n : Int) ?_
   refine condM_b (fun hb138 => ?_) (fun hb138 => ?_)
   rotate_left
   ·have H := H.2 hb138
    refine pop_len s344e _ _ sli62 ?_
    refine pop_add .i64 n42b (s344e.n : Int) ?_
    refine pop_add .i64 s338c 1 ?_
    obtain ⟨m_12, hm_12, H⟩ := H
    exact hn8 _ _ ⟨m_12, hm_12, (w64 (n42b + (s344e.n : Int))), (w64 (s338c + 1)), rfl, H, hL150⟩
   have H := H.1 hb138
   obtain ⟨hi32, H⟩ := H
   refine pop_index sli62 siz48 .i64 s344e s351c hi32 ?_
   obtain ⟨s355e, s355f, hc27, H⟩ := H
   refine rop_agg agg48 [s355e.v, (VI s355f)] rfl hc27 ?_
   refine eop_alloc 48 zer48 rfl hL150 (fun b31 h151 hb139 hf55 hL151 => ?_)
   refine ul siz48 hL151 0 0 [s355e.v, (VI s355f)] [(b31, [s355e.v, (VI s355f)]), (b30, [s311c.v]), (b2, [s69b.v, (VI s69c)]), (b1, [s69.v])] (fun h152 hf56 hL152 => ?_)
   refine ra agg26 hL152 1 0 [s311c.v] ?_
   refine ra agg48 hL152 0 0 [s355e.v, (VI s355f)] ?_
   refine (H b31 h152 hb139 (Fr.new (fo hf55) hb139 hf56) hL152).mono ?_
   rintro _ h153 ⟨s359e, s359f, rfl, hL153, H⟩
   refine pop_ext (v := (VB s359e)) rfl ?_
   refine pop_ext (v := (VB s359f)) rfl ?_
   refine pop_not s359f ?_
   refine guardM_sf (fun hb140 => ?_) (fun hb140 => ?_)
   rotate_left
   ·have H := H.1 hb140
    refine gm hb140 ?_
    refine pop_pickt' hb140 ?_
    refine gn ?_
    refine gn ?_
    refine gn ?_
    refine gn ?_
    refine pop_pickt _ _ ?_
    refine gn ?_
    refine gn ?_
    refine gn ?_
    refine gn ?_
    refine gn ?_
    refine gn ?_
    refine gn ?_
    refine gn ?_
    refine gn ?_
    refine gn ?_
    refine gn ?_
    refine gn ?_
    refine ⟨⟨_, rfl, fun h => absurd (h.symm.trans rfl) (by decide), fun _ => rfl⟩, ?_⟩
    refine gn ?_
    refine gn ?_
    refine pop_pickt _ _ ?_
    refine condM_t ?_
    exact H
   have H := H.2 hb140
   refine gy hb140 ?_
   refine pop_not s359e ?_
   refine pop_pickf' hb140 ?_
   refine guardM_sf (fun hb141 => ?_) (fun hb141 => ?_)
   rotate_left
   ·have H := H.1 hb141
    refine gm hb141 ?_
    refine gm hb141 ?_
    refine gm hb141 ?_
    refine pop_pickt' hb141 ?_
    refine gn ?_
    refine gn ?_
    refine gn ?_
    refine gn ?_
    refine gn ?_
    refine gn ?_
    refine gn ?_
    refine gn ?_
    refine gn ?_
    refine gn ?_
    refine gn ?_
    refine gn ?_
    refine ⟨⟨_, rfl, fun h => absurd (h.symm.trans hb141) (by decide), fun _ => rfl⟩, ?_⟩
    refine gn ?_
    refine gn ?_
    refine pop_pickt _ _ ?_
    refine condM_t ?_
    exact H
   have H := H.2 hb141
   refine pop_field 1 fld48_1 b31 0 ?_
   refine gy hb141 ?_
   refine rl one3 hL153 0 1 (VI s355f) ?_
   refine gy hb141 ?_
   refine gy hb141 ?_
   refine pop_ine .i64 _ _ s355f s338c ?_
   refine pop_pickf' hb141 ?_
   refine guardM_sf (fun hb142 => ?_) (fun hb142 => ?_)
   rotate_left
   ·have H := H.1 hb142
    refine gm hb142 ?_
    refine gm hb142 ?_
    refine gn ?_
    refine gn ?_
    refine gn ?_
    refine gn ?_
    refine gn ?_
    refine gn ?_
    refine gn ?_
    refine gn ?_
    refine gn ?_
    refine ⟨⟨_, rfl, fun _ => ?_, fun h => absurd hb141 h⟩, ?_⟩
    ·exact still_loc one3 hL153 0 rfl 1 (v := (VI s355f)) rfl
    refine gn ?_
    refine gm hb142 ?_
    refine pop_pickt' hb142 ?_
    refine condM_t ?_
    exact H
   have H := H.2 hb142
   refine gy hb142 ?_
   refine pop_gtr .i64 s351c 0 ?_
   refine gy hb142 ?_
   refine guardM_st (fun hb143 => ?_) (fun hb143 => ?_)
   rotate_left
   ·have H := H.2 hb143
    refine gm hb143 ?_
    refine gm hb143 ?_
    refine gm hb143 ?_
    refine gm hb143 ?_
    refine gm hb143 ?_
    refine gm hb143 ?_
    refine gm hb143 ?_
    refine gm hb143 ?_
    refine ⟨⟨_, rfl, fun _ => ?_, fun h => absurd hb141 h⟩, ?_⟩
    ·exact still_loc one3 hL153 0 rfl 1 (v := (VI s355f)) rfl
    refine gm hb143 ?_
    refine gy hb142 ?_
    refine pop_pickf' hb143 ?_
    refine pop_pickf' hb142 ?_
    refine condM_f ?_
    refine pop_add .i64 s351c 1 ?_
    obtain ⟨m_11, hm_11, H⟩ := H
    exact hn9 _ _ ⟨m_11, hm_11, (w64 (s351c + 1)), rfl, H, (Vars.tail hL153)⟩
   have H := H.1 hb143
   refine gy hb143 ?_
   refine gy hb143 ?_
   refine pop_sub .i64 s351c 1 ?_
   refine gy hb143 ?_
   obtain ⟨hi33, H⟩ := H
   refine pop_index sli62 siz48 .i64 s344e (w64 (s351c - 1)) hi33 ?_
   refine gy hb143 ?_
   refine pop_fieldA 0 fld48_0 (Sl.at s344e (w64 (s351c - 1)) 2) ?_
   refine gy hb143 ?_
   obtain ⟨s383c, hc26, H⟩ := H
   refine rop_one one29 s383c.v hc26 ?_
   refine gy hb143 ?_
   refine pop_field 0 fld48_0 b31 0 ?_
   refine gy hb143 ?_
   refine rl one29 hL153 0 0 s355e.v ?_
   refine gy hb143 ?_
   refine H.mono ?_
   rintro _ h154 ⟨s386c, rfl, hL154, H⟩
   refine ⟨⟨_, rfl, fun _ => ?_, fun h => absurd hb141 h⟩, ?_⟩
   ·exact still_loc one3 hL154 0 rfl 1 (v := (VI s355f)) rfl
   refine gy hb143 ?_
   refine pop_not s386c ?_
   refine gy hb142 ?_
   refine pop_pickt' hb143 ?_
   refine pop_pickf' hb142 ?_
   refine condM_b (fun hb144 => ?_) (fun hb144 => ?_)
   ·exact H.1 hb144
   have H := H.2 hb144
   refine pop_add .i64 s351c 1 ?_
   obtain ⟨m_10, hm_10, H⟩ := H
   exact hn9 _ _ ⟨m_10, hm_10, (w64 (s351c + 1)), rfl, H, (Vars.tail hL154)⟩
  intro junk24  h155
  rintro ⟨hv, hJ24, hL155⟩
  have H := HB21  h155 hJ24 hL155
  refine H.mono ?_
  rintro _ h156 ⟨s401e, s401f, rfl, hL156, H⟩
  refine pop_ext (v := (Value.agg #[s401e.v])) rfl ?_
  refine pop_ext (v := (VI s401f)) rfl ?_
  refine eop_alloc 26 zer26 rfl hL156 (fun b32 h157 hb146 hf57 hL157 => ?_)
  refine ul siz26 hL157 0 0 [s401e.v] [(b32, [s401e.v]), (b30, [s311c.v]), (b2, [s69b.v, (VI s69c)]), (b1, [s69.v])] (fun h158 hf58 hL158 => ?_)
  refine ra agg26 hL158 0 0 [s401e.v] ?_
  refine (H b32 h158 hb146 (Fr.new (fo hf57) hb146 hf58) hL158).mono ?_
  rintro _ h159 ⟨s407e, s407f, rfl, hL159, H⟩
  refine pop_ext (v := s407e.v) rfl ?_
  refine pop_ext (v := (VB s407f)) rfl ?_
  refine ra agg26 hL159 0 0 [s401e.v] ?_
  refine H.mono ?_
  rintro _ h160 ⟨s413e, s413f, rfl, hL160, H⟩
  refine pop_ext (v := s413e.v) rfl ?_
  refine pop_ext (v := (VB s413f)) rfl ?_
  refine H.mono ?_
  rintro _ h161 ⟨s418i, t418i, t418j, t418k, rfl, hL161, H⟩
  refine pop_ext (v := (Value.agg #[s418i.v])) rfl ?_
  refine pop_ext (v := (VI t418i)) rfl ?_
  refine pop_ext (v := t418j.v) rfl ?_
  refine pop_ext (v := (VI t418k)) rfl ?_
  refine eop_alloc 26 zer26 rfl hL161 (fun b33 h162 hb147 hf59 hL162 => ?_)
  refine ul siz26 hL162 0 0 [s418i.v] [(b33, [s418i.v]), (b32, [s401e.v]), (b30, [s311c.v]), (b2, [s69b.v, (VI s69c)]), (b1, [s69.v])] (fun h163 hf60 hL163 => ?_)
  refine ra agg26 hL163 0 0 [s418i.v] ?_
  refine (H b33 h163 hb147 (Fr.new (fo hf59) hb147 hf60) hL163).mono ?_
  rintro _ h164 ⟨s428g, s428h, s428i, rfl, hL164, H⟩
  refine pop_ext (v := (Value.agg #[s428g.v, (VI s428h)])) rfl ?_
  refine pop_ext (v := (VB s428i)) rfl ?_
  refine eop_alloc 48 zer48 rfl hL164 (fun b34 h165 hb148 hf61 hL165 => ?_)
  refine ul siz48 hL165 0 0 [s428g.v, (VI s428h)] [(b34, [s428g.v, (VI s428h)]), (b33, [s418i.v]), (b32, [s401e.v]), (b30, [s311c.v]), (b2, [s69b.v, (VI s69c)]), (b1, [s69.v])] (fun h166 hf62 hL166 => ?_)
  refine ra agg26 hL166 1 0 [s418i.v] ?_
  refine (H b34 h166 hb148 (Fr.new (fo hf61) hb148 hf62) hL166).mono ?_
  rintro _ h167 ⟨s436g, s436h, s436i, rfl, hL167, H⟩
  refine pop_ext (v := (Value.agg #[s436g.v, (VI s436h)])) rfl ?_
  refine pop_ext (v := (VB s436i)) rfl ?_
  refine eop_alloc 48 zer48 rfl hL167 (fun b35 h168 hb149 hf63 hL168 => ?_)
  refine ul siz48 hL168 0 0 [s436g.v, (VI s436h)] [(b35, [s436g.v, (VI s436h)]), (b34, [s428g.v, (VI s428h)]), (b33, [s418i.v]), (b32, [s401e.v]), (b30, [s311c.v]), (b2, [s69b.v, (VI s69c)]), (b1, [s69.v])] (fun h169 hf64 hL169 => ?_)
  refine pop_beq boo4 _ _ s407f s413f ?_
  refine guardM_st (fun hb150 => ?_) (fun hb150 => ?_)
  rotate_left
  ·have H := H.2 hb150
   refine gm hb150 ?_
   refine gm hb150 ?_
   refine pop_pickf' hb150 ?_
   refine gn ?_
   refine gn ?_
   refine gn ?_
   refine pop_pickf _ _ ?_
   refine gn ?_
   refine gn ?_
   refine gn ?_
   refine pop_pickf _ _ ?_
   refine gn ?_
   refine gn ?_
   refine gn ?_
   refine gn ?_
   refine gn ?_
   refine gn ?_
   refine gn ?_
   refine pop_pickf _ _ ?_
   exact H b35 h169 hb149 (Fr.new (fo hf63) hb149 hf64) hL169
  have H := H.1 hb150
  refine gy hb150 ?_
  refine gy hb150 ?_
  refine (H b35 h169 hb149 (Fr.new (fo hf63) hb149 hf64) hL169).mono ?_
  rintro _ h170 ⟨s445c, rfl, hL170, H⟩
  refine pop_pickt' hb150 ?_
  refine guardM_st (fun hb151 => ?_) (fun hb151 => ?_)
  rotate_left
  ·have H := H.2 hb151
   refine gm hb151 ?_
   refine gm hb151 ?_
   refine pop_pickf' hb151 ?_
   refine gn ?_
   refine gn ?_
   refine gn ?_
   refine pop_pickf _ _ ?_
   refine gn ?_
   refine gn ?_
   refine gn ?_
   refine gn ?_
   refine gn ?_
   refine gn ?_
   refine gn ?_
   refine pop_pickf _ _ ?_
   exact H
  have H := H.1 hb151
  refine gy hb151 ?_
  refine gy hb151 ?_
  refine pop_beq boo4 _ _ s428i s436i ?_
  refine pop_pickt' hb151 ?_
  refine guardM_st (fun hb152 => ?_) (fun hb152 => ?_)
  rotate_left
  ·have H := H.2 hb152
   refine gm hb152 ?_
   refine gm hb152 ?_
   refine pop_pickf' hb152 ?_
   refine gn ?_
   refine gn ?_
   refine gn ?_
   refine gn ?_
   refine gn ?_
   refine gn ?_
   refine gn ?_
   refine pop_pickf _ _ ?_
   exact H
  have H := H.1 hb152
  refine ra agg48 hL170 1 0 [s428g.v, (VI s428h)] ?_
  refine gy hb152 ?_
  refine ra agg48 hL170 0 0 [s436g.v, (VI s436h)] ?_
  refine gy hb152 ?_
  refine H.mono ?_
  rintro _ h171 ⟨s455c, rfl, hL171, H⟩
  refine pop_pickt' hb152 ?_
  refine guardM_st (fun hb153 => ?_) (fun hb153 => ?_)
  rotate_left
  ·have H := H.2 hb153
   refine gm hb153 ?_
   refine gm hb153 ?_
   refine gn ?_
   refine gn ?_
   refine gn ?_
   refine gm hb153 ?_
   refine pop_pickf' hb153 ?_
   exact H
  have H := H.1 hb153
  refine gy hb153 ?_
  refine pop_not s428i ?_
  refine gy hb153 ?_
  refine guardM_sf (fun hb154 => ?_) (fun hb154 => ?_)
  rotate_left
  ·have H := H.1 hb154
   refine gm hb154 ?_
   refine gm hb154 ?_
   refine gy hb153 ?_
   refine pop_pickt' hb154 ?_
   refine pop_pickt' hb153 ?_
   exact H
  have H := H.2 hb154
  refine ra agg26 hL171 2 0 [s418i.v] ?_
  refine gy hb154 ?_
  refine ra agg48 hL171 1 0 [s428g.v, (VI s428h)] ?_
  refine gy hb154 ?_
  refine H.mono ?_
  rintro _ h172 ⟨s463c, rfl, hL172, H⟩
  refine gy hb153 ?_
  refine pop_pickf' hb154 ?_
  refine pop_pickt' hb153 ?_
  exact H
 have H := H.1 hb12
 refine gy hb11 ?_
 refine pop_pickt' hb12 ?_
 refine gy hb11 ?_
 refine pop_bne boo4 _ _ s87b s75 ?_
 refine pop_pickf' hb11 ?_
 refine guardM_sf (fun hb13 => ?_) (fun hb13 => ?_)
 rotate_left
 ·have H := H.1 hb13
  refine gm hb13 ?_
  refine gn ?_
  refine gm hb13 ?_
  refine gm hb13 ?_
  refine gn ?_
  refine gn ?_
  refine gm hb13 ?_
  refine pop_pickt' hb13 ?_
  refine condM_t ?_
  exact H
 have H := H.2 hb13
 refine gy hb13 ?_
 refine gy hb12 ?_
 refine gy hb13 ?_
 refine pop_pickt' hb12 ?_
 refine gy hb13 ?_
 refine guardM_st (fun hb14 => ?_) (fun hb14 => ?_)
 rotate_left
 ·have H := H.2 hb14
  refine gm hb14 ?_
  refine gy hb13 ?_
  refine pop_pickf' hb14 ?_
  refine pop_pickf' hb13 ?_
  refine condM_f ?_
  obtain ⟨J9, H, HB16⟩ := H
  refine ⟨fun (vs : List Value) (h' : Heap) => vs = [] /\ J9  h' /\ Vars h' [(b2, [s69b.v, (VI s69c)]), (b1, [s69.v])], ?_, ?_⟩
  ·refine condM_b (fun hb62 => ?_) (fun hb62 => ?_)
   rotate_left
   ·have H := H.2 hb62
    exact ⟨rfl, H, hL16⟩
   have H := H.1 hb62
   refine pop_len s99 _ _ sli29 ?_
   obtain ⟨J10, ⟨n8, h0c⟩, HB9⟩ := H
   refine loop_intro (J := fun (n : Nat) (vs : List Value) (h' : Heap) => ∃ s181b : Int, vs = [(VI s181b)] /\ J10 n s181b h' /\ Vars h' [(b2, [s69b.v, (VI s69c)]), (b1, [s69.v])]) n8 ⟨0, rfl, h0c, hL16⟩ ?_
   intro I4 mu4 hI4 junk9 tv7 h69 hi12
   obtain ⟨n7, ⟨s181b, hv, hJ9, hL69⟩, hn4⟩ := hI4 _ _ hi12
   cases hv
   have H := HB9 n7 s181b h69 hJ9 hL69
   refine pop_lss .i64 s181b (s99.n : Int) ?_
   refine condM_b (fun hb63 => ?_) (fun hb63 => ?_)
   rotate_left
   ·have H := H.2 hb63
    exact ⟨rfl, H, hL69⟩
   have H := H.1 hb63
   obtain ⟨hi13, H⟩ := H
   refine pop_index sli29 siz3 .i64 s99 s181b hi13 ?_
   obtain ⟨s185b, hc14, H⟩ := H
   refine rop_one one3 (VI s185b) hc14 ?_
   refine pop_field 0 fld26_0 b1 0 ?_
   refine rl one24 hL69 1 0 s69.v ?_
   obtain ⟨hi14, H⟩ := H
   refine pop_index sli24 siz29 .i64 s69 s185b hi14 ?_
   obtain ⟨s190b, hc13, H⟩ := H
   refine rop_one one29 s190b.v hc13 ?_
   refine pop_field 0 fld48_0 b2 0 ?_
   refine rl one29 hL69 0 0 s69b.v ?_
   obtain ⟨hi15, H⟩ := H
   refine pop_index sli29 siz3 .i64 s69b s185b hi15 ?_
   obtain ⟨s195b, hc12, H⟩ := H
   refine rop_one one3 (VI s195b) hc12 ?_
   obtain ⟨hi16, H⟩ := H
   refine pop_index sli29 siz3 .i64 s190b s195b hi16 ?_
   obtain ⟨s197b, hc11, H⟩ := H
   refine rop_one one3 (VI s197b) hc11 ?_
   refine pop_add .i64 s181b 1 ?_
   refine pop_len s99 _ _ sli29 ?_
   obtain ⟨hz_2, H⟩ := H
   refine pop_rem .i64 (w64 (s181b + 1)) (s99.n : Int) hz_2 ?_
   obtain ⟨hi17, H⟩ := H
   refine pop_index sli29 siz3 .i64 s99 (Int.tmod (w64 (s181b + 1)) (s99.n : Int)) hi17 ?_
   obtain ⟨s205b, hc10, H⟩ := H
   refine rop_one one3 (VI s205b) hc10 ?_
   refine pop_ine .i64 _ _ s197b s205b ?_
   refine condM_b (fun hb64 => ?_) (fun hb64 => ?_)
   ·exact H.1 hb64
   have H := H.2 hb64
   refine pop_add .i64 s181b 1 ?_
   obtain ⟨m_5, hm_5, H⟩ := H
   exact hn4 _ _ ⟨m_5, hm_5, (w64 (s181b + 1)), rfl, H, hL69⟩
  intro junk10  h70
  rintro ⟨hv, hJ10, hL70⟩
  have H := HB16  h70 hJ10 hL70
  obtain ⟨J11, H, HB15⟩ := H
  refine ⟨fun (vs : List Value) (h' : Heap) => vs = [] /\ J11  h' /\ Vars h' [(b2, [s69b.v, (VI s69c)]), (b1, [s69.v])], ?_, ?_⟩
  ·refine condM_b (fun hb65 => ?_) (fun hb65 => ?_)
   rotate_left
   ·have H := H.2 hb65
    exact ⟨rfl, H, hL70⟩
   have H := H.1 hb65
   refine ra agg26 hL70 1 0 [s69.v] ?_
   refine pop_field 1 fld48_1 b2 0 ?_
   refine rl one3 hL70 0 1 (VI s69c) ?_
   refine H.mono ?_
   rintro _ h71 ⟨s214c, s214d, rfl, hL71, H⟩
   refine pop_ext (v := (VB s214c)) rfl ?_
   refine pop_ext (v := (VB s214d)) rfl ?_
   obtain ⟨J12, H, HB10⟩ := H
   refine ⟨fun (vs : List Value) (h' : Heap) => ∃ b14 : Nat, ∃ y4 : Sl, ∃ y5 : Int, ∃ y6 : Bool, vs = [(VP b14 0), (VB y6)] /\ J12 b14 y4 y5 y6 h' /\ Vars h' [(b14, [y4.v, (VI y5)]), (b2, [s69b.v, (VI s69c)]), (b1, [s69.v])], ?_, ?_⟩
   ·refine ra agg26 hL71 1 0 [s69.v] ?_
    refine pop_field 1 fld48_1 b2 0 ?_
    refine rl one3 hL71 0 1 (VI s69c) ?_
    refine pop_field 0 fld48_0 b2 0 ?_
    refine rl one29 hL71 0 0 s69b.v ?_
    refine pop_field 1 fld48_1 b2 0 ?_
    refine rl one3 hL71 0 1 (VI s69c) ?_
    obtain ⟨hi18, H⟩ := H
    refine pop_index sli29 siz3 .i64 s69b s69c hi18 ?_
    obtain ⟨s227b, hc16, H⟩ := H
    refine rop_one one3 (VI s227b) hc16 ?_
    refine ⟨?_, ?_⟩
    ·have H := H.1
     refine H.mono ?_
     rintro _ h72 ⟨s228g, s228h, s228i, rfl, hL72, H⟩
     refine ⟨?_, ?_⟩
     ·exact still_loc one3 hL72 0 rfl 1 (v := (VI s69c)) rfl
     refine ⟨?_, ?_⟩
     ·exact still_loc one29 hL72 0 rfl 0 (v := s69b.v) rfl
     refine pop_ext (v := (Value.agg #[s228g.v, (VI s228h)])) rfl ?_
     refine pop_ext (v := (VB s228i)) rfl ?_
     refine eop_alloc 48 zer48 rfl hL72 (fun b15 h73 hb66 hf25 hL73 => ?_)
     have H := H b15 h73 hb66 (fo hf25) hL73
     refine ⟨?_, ?_⟩
     ·exact still_loc one3 hL73 1 rfl 1 (v := (VI s69c)) rfl
     refine ⟨?_, ?_⟩
     ·exact still_loc one29 hL73 1 rfl 0 (v := s69b.v) rfl
     refine ul siz48 hL73 0 0 [s228g.v, (VI s228h)] [(b15, [s228g.v, (VI s228h)]), (b2, [s69b.v, (VI s69c)]), (b1, [s69.v])] (fun h74 hf26 hL74 => ?_)
     have H := H  h74  (fq hf26) hL74
     exact ⟨b15, s228g, s228h, s228i, rfl, H, hL74⟩
    have H := H.2
    refine eop_alloc 48 zer48 rfl hL71 (fun b16 h75 hb67 hf27 hL75 => ?_)
    have H := H b16 h75 hb67 (fo hf27) hL75
    refine ⟨?_, ?_⟩
    ·exact still_one one3 H.1
    obtain ⟨hc15, H⟩ := H
    refine ⟨?_, ?_⟩
    ·exact still_loc one3 hL75 1 rfl 1 (v := (VI s69c)) rfl
    refine ⟨?_, ?_⟩
    ·exact still_loc one29 hL75 1 rfl 0 (v := s69b.v) rfl
    refine ⟨?_, ?_⟩
    ·exact still_loc one3 hL75 1 rfl 1 (v := (VI s69c)) rfl
    refine ⟨?_, ?_⟩
    ·exact still_locA agg26 hL75 2 rfl 0 (vs := [s69.v]) rfl rfl
    refine H.mono ?_
    rintro _ h76 ⟨t228i, t228j, t228k, rfl, hL76, H⟩
    refine ⟨?_, ?_⟩
    ·exact still_loc one3 hL76 1 rfl 1 (v := (VI s69c)) rfl
    refine ⟨?_, ?_⟩
    ·exact still_loc one29 hL76 1 rfl 0 (v := s69b.v) rfl
    refine pop_ext (v := (Value.agg #[t228i.v, (VI t228j)])) rfl ?_
    refine pop_ext (v := (VB t228k)) rfl ?_
    refine ul siz48 hL76 0 0 [t228i.v, (VI t228j)] [(b16, [t228i.v, (VI t228j)]), (b2, [s69b.v, (VI s69c)]), (b1, [s69.v])] (fun h77 hf28 hL77 => ?_)
    have H := H  h77  (fq hf28) hL77
    exact ⟨b16, t228i, t228j, t228k, rfl, H, hL77⟩
   intro junk11 tv8 tv9 h78
   rintro ⟨b14, y4, y5, y6, hv, hJ11, hL78⟩
   cases hv
   have H := HB10 b14 y4 y5 y6 h78 hJ11 hL78
   refine ra agg26 hL78 2 0 [s69.v] ?_
   refine ra agg48 hL78 1 0 [s69b.v, (VI s69c)] ?_
   refine H.mono ?_
   rintro _ h79 ⟨s234d, s234e, s234f, rfl, hL79, H⟩
   refine pop_ext (v := (Value.agg #[s234d.v, (VI s234e)])) rfl ?_
   refine pop_ext (v := (VB s234f)) rfl ?_
   refine eop_alloc 48 zer48 rfl hL79 (fun b17 h80 hb68 hf29 hL80 => ?_)
   refine ul siz48 hL80 0 0 [s234d.v, (VI s234e)] [(b17, [s234d.v, (VI s234e)]), (b14, [y4.v, (VI y5)]), (b2, [s69b.v, (VI s69c)]), (b1, [s69.v])] (fun h81 hf30 hL81 => ?_)
   refine ra agg26 hL81 3 0 [s69.v] ?_
   refine ra agg48 hL81 0 0 [s234d.v, (VI s234e)] ?_
   refine (H b17 h81 hb68 (Fr.new (fo hf29) hb68 hf30) hL81).mono ?_
   rintro _ h82 ⟨s240c, s240d, rfl, hL82, H⟩
   refine pop_ext (v := (VB s240c)) rfl ?_
   refine pop_ext (v := (VB s240d)) rfl ?_
   refine pop_not s214d ?_
   refine guardM_sf (fun hb69 => ?_) (fun hb69 => ?_)
   rotate_left
   ·have H := H.1 hb69
    refine gm hb69 ?_
    refine pop_pickt' hb69 ?_
    refine gn ?_
    refine gn ?_
    refine pop_pickt _ _ ?_
    refine gn ?_
    refine gn ?_
    refine gn ?_
    refine gn ?_
    refine pop_pickt _ _ ?_
    refine gn ?_
    refine gn ?_
    refine pop_pickt _ _ ?_
    refine gn ?_
    refine gn ?_
    refine pop_pickt _ _ ?_
    refine gn ?_
    refine gn ?_
    refine pop_pickt _ _ ?_
    refine gn ?_
    refine gn ?_
    refine gn ?_
    refine gn ?_
    refine gn ?_
    refine pop_pickt _ _ ?_
    refine gn ?_
    refine gn ?_
    refine pop_pickt _ _ ?_
    refine gn ?_
    refine gn ?_
    refine pop_pickt _ _ ?_
    refine condM_t ?_
    exact H
   have H := H.2 hb69
   refine gy hb69 ?_
   refine pop_not s214c ?_
   refine pop_pickf' hb69 ?_
   refine guardM_sf (fun hb70 => ?_) (fun hb70 => ?_)
   rotate_left
   ·have H := H.1 hb70
    refine gm hb70 ?_
    refine pop_pickt' hb70 ?_
    refine gn ?_
    refine gn ?_
    refine gn ?_
    refine gn ?_
    refine pop_pickt _ _ ?_
    refine gn ?_
    refine gn ?_
    refine pop_pickt _ _ ?_
    refine gn ?_
    refine gn ?_
    refine pop_pickt _ _ ?_
    refine gn ?_
    refine gn ?_
    refine pop_pickt _ _ ?_
    refine gn ?_
    refine gn ?_
    refine gn ?_
    refine gn ?_
    refine gn ?_
    refine pop_pickt _ _ ?_
    refine gn ?_
    refine gn ?_
    refine pop_pickt _ _ ?_
    refine gn ?_
    refine gn ?_
    refine pop_pickt _ _ ?_
    refine condM_t ?_
    exact H
   have H := H.2 hb70
   refine gy hb70 ?_
   refine pop_not y6 ?_
   refine pop_pickf' hb70 ?_
   refine guardM_sf (fun hb71 => ?_) (fun hb71 => ?_)
   rotate_left
   ·have H := H.1 hb71
    refine gm hb71 ?_
    refine gm hb71 ?_
    refine gm hb71 ?_
    refine pop_pickt' hb71 ?_
    refine gn ?_
    refine gn ?_
    refine pop_pickt _ _ ?_
    refine gn ?_
    refine gn ?_
    refine pop_pickt _ _ ?_
    refine gn ?_
    refine gn ?_
    refine pop_pickt _ _ ?_
    refine gn ?_
    refine gn ?_
    refine gn ?_
    refine gn ?_
    refine gn ?_
    refine pop_pickt _ _ ?_
    refine gn ?_
    refine gn ?_
    refine pop_pickt _ _ ?_
    refine gn ?_
    refine gn ?_
    refine pop_pickt _ _ ?_
    refine condM_t ?_
    exact H
   have H := H.2 hb71
   refine ra agg48 hL82 1 0 [y4.v, (VI y5)] ?_
   refine gy hb71 ?_
   refine ra agg48 hL82 2 0 [s69b.v, (VI s69c)] ?_
   refine gy hb71 ?_
   refine H.mono ?_
   rintro _ h83 ⟨s256b, rfl, hL83, H⟩
   refine gy hb71 ?_
   refine pop_not s256b ?_
   refine pop_pickf' hb71 ?_
   refine guardM_sf (fun hb72 => ?_) (fun hb72 => ?_)
   rotate_left
   ·have H := H.1 hb72
    refine gm hb72 ?_
    refine pop_pickt' hb72 ?_
    refine gn ?_
    refine gn ?_
    refine pop_pickt _ _ ?_
    refine gn ?_
    refine gn ?_
    refine pop_pickt _ _ ?_
    refine gn ?_
    refine gn ?_
    refine gn ?_
    refine gn ?_
    refine gn ?_
    refine pop_pickt _ _ ?_
    refine gn ?_
    refine gn ?_
    refine pop_pickt _ _ ?_
    refine gn ?_
    refine gn ?_
    refine pop_pickt _ _ ?_
    refine condM_t ?_
    exact H
   have H := H.2 hb72
   refine gy hb72 ?_
   refine pop_not s234f ?_
   refine pop_pickf' hb72 ?_
   refine guardM_sf (fun hb73 => ?_) (fun hb73 => ?_)
   rotate_left
   ·have H := H.1 hb73
    refine gm hb73 ?_
    refine pop_pickt' hb73 ?_
    refine gn ?_
    refine gn ?_
    refine pop_pickt _ _ ?_
    refine gn ?_
    refine gn ?_
    refine gn ?_
    refine gn ?_
    refine gn ?_
    refine pop_pickt _ _ ?_
    refine gn ?_
    refine gn ?_
    refine pop_pickt _ _ ?_
    refine gn ?_
    refine gn ?_
    refine pop_pickt _ _ ?_
    refine condM_t ?_
    exact H
   have H := H.2 hb73
   refine gy hb73 ?_
   refine pop_not s240d ?_
   refine pop_pickf' hb73 ?_
   refine guardM_sf (fun hb74 => ?_) (fun hb74 => ?_)
   rotate_left
   ·have H := H.1 hb74
    refine gm hb74 ?_
    refine pop_pickt' hb74 ?_
    refine gn ?_
    refine gn ?_
    refine gn ?_
    refine gn ?_
    refine gn ?_
    refine pop_pickt _ _ ?_
    refine gn ?_
    refine gn ?_
    refine pop_pickt _ _ ?_
    refine gn ?_
    refine gn ?_
    refine pop_pickt _ _ ?_
    refine condM_t ?_
    exact H
   have H := H.2 hb74
   refine gy hb74 ?_
   refine pop_not s240c ?_
   refine pop_pickf' hb74 ?_
   refine guardM_sf (fun hb75 => ?_) (fun hb75 => ?_)
   rotate_left
   ·have H := H.1 hb75
    refine gm hb75 ?_
    refine gm hb75 ?_
    refine gm hb75 ?_
    refine gm hb75 ?_
    refine pop_pickt' hb75 ?_
    refine gn ?_
    refine gn ?_
    refine pop_pickt _ _ ?_
    refine gn ?_
    refine gn ?_
    refine pop_pickt _ _ ?_
    refine condM_t ?_
    exact H
   have H := H.2 hb75
   refine gy hb75 ?_
   refine pop_field 1 fld48_1 b2 0 ?_
   refine gy hb75 ?_
   refine rl one3 hL83 2 1 (VI s69c) ?_
   refine gy hb75 ?_
   refine H.mono ?_
   rintro _ h84 ⟨s275b, rfl, hL84, H⟩
   refine gy hb75 ?_
   refine pop_not s275b ?_
   refine pop_pickf' hb75 ?_
   refine guardM_sf (fun hb76 => ?_) (fun hb76 => ?_)
   rotate_left
   ·have H := H.1 hb76
    refine gm hb76 ?_
    refine pop_pickt' hb76 ?_
    refine gn ?_
    refine gn ?_
    refine pop_pickt _ _ ?_
    refine condM_t ?_
    exact H
   have H := H.2 hb76
   refine gy hb76 ?_
   refine pop_not s111b ?_
   refine pop_pickf' hb76 ?_
   refine guardM_sf (fun hb77 => ?_) (fun hb77 => ?_)
   rotate_left
   ·have H := H.1 hb77
    refine gm hb77 ?_
    refine pop_pickt' hb77 ?_
    refine condM_t ?_
    exact H
   have H := H.2 hb77
   refine gy hb77 ?_
   refine pop_ine .i64 _ _ s111 0 ?_
   refine pop_pickf' hb77 ?_
   refine condM_b (fun hb78 => ?_) (fun hb78 => ?_)
   ·exact H.1 hb78
   have H := H.2 hb78
   exact ⟨rfl, H, Vars.pick hL84 [2, 3] rfl⟩
  intro junk12  h85
  rintro ⟨hv, hJ12, hL85⟩
  have H := HB15  h85 hJ12 hL85
  obtain ⟨J13, H, HB14⟩ := H
  refine ⟨fun (vs : List Value) (h' : Heap) => vs = [] /\ J13  h' /\ Vars h' [(b2, [s69b.v, (VI s69c)]), (b1, [s69.v])], ?_, ?_⟩
  ·refine condM_b (fun hb79 => ?_) (fun hb79 => ?_)
   rotate_left
   ·have H := H.2 hb79
    exact ⟨rfl, H, hL85⟩
   have H := H.1 hb79
   refine ra agg26 hL85 1 0 [s69.v] ?_
   refine ra agg48 hL85 0 0 [s69b.v, (VI s69c)] ?_
   refine H.mono ?_
   rintro _ h86 ⟨s291d, s291e, s291f, rfl, hL86, H⟩
   refine pop_ext (v := (Value.agg #[s291d.v, (VI s291e)])) rfl ?_
   refine pop_ext (v := (VB s291f)) rfl ?_
   refine eop_alloc 48 zer48 rfl hL86 (fun b18 h87 hb80 hf31 hL87 => ?_)
   refine ul siz48 hL87 0 0 [s291d.v, (VI s291e)] [(b18, [s291d.v, (VI s291e)]), (b2, [s69b.v, (VI s69c)]), (b1, [s69.v])] (fun h88 hf32 hL88 => ?_)
   refine ra agg26 hL88 2 0 [s69.v] ?_
   refine ra agg48 hL88 0 0 [s291d.v, (VI s291e)] ?_
   refine (H b18 h88 hb80 (Fr.new (fo hf31) hb80 hf32) hL88).mono ?_
   rintro _ h89 ⟨s297c, s297d, rfl, hL89, H⟩
   refine pop_ext (v := (VB s297c)) rfl ?_
   refine pop_ext (v := (VB s297d)) rfl ?_
   refine pop_not s291f ?_
   refine guardM_sf (fun hb81 => ?_) (fun hb81 => ?_)
   rotate_left
   ·have H := H.1 hb81
    refine gm hb81 ?_
    refine pop_pickt' hb81 ?_
    refine gn ?_
    refine gn ?_
    refine pop_pickt _ _ ?_
    refine condM_t ?_
    exact H
   have H := H.2 hb81
   refine gy hb81 ?_
   refine pop_not s297d ?_
   refine pop_pickf' hb81 ?_
   refine guardM_sf (fun hb82 => ?_) (fun hb82 => ?_)
   rotate_left
   ·have H := H.1 hb82
    refine gm hb82 ?_
    refine pop_pickt' hb82 ?_
    refine condM_t ?_
    exact H
   have H := H.2 hb82
   refine gy hb82 ?_
   refine pop_not s297c ?_
   refine pop_pickf' hb82 ?_
   refine condM_b (fun hb83 => ?_) (fun hb83 => ?_)
   ·exact H.1 hb83
   have H := H.2 hb83
   exact ⟨rfl, H, Vars.pick hL89 [1, 2] rfl⟩
  intro junk13  h90
  rintro ⟨hv, hJ13, hL90⟩
  have H := HB14  h90 hJ13 hL90
  refine H.mono ?_
  rintro _ h91 ⟨s311b, rfl, hL91, H⟩
  refine eop_alloc 26 zer26 rfl hL91 (fun b19 h92 hb84 hf33 hL92 => ?_)
  refine ul siz26 hL92 0 0 [s311b.v] [(b19, [s311b.v]), (b2, [s69b.v, (VI s69c)]), (b1, [s69.v])] (fun h93 hf34 hL93 => ?_)
  refine ra agg26 hL93 0 0 [s311b.v] ?_
  refine (H b19 h93 hb84 (Fr.new (fo hf33) hb84 hf34) hL93).mono ?_
  rintro _ h94 ⟨s314c, s314d, rfl, hL94, H⟩
  refine pop_ext (v := (VI s314c)) rfl ?_
  refine pop_ext (v := (VB s314d)) rfl ?_
  refine ra agg26 hL94 0 0 [s311b.v] ?_
  refine H.mono ?_
  rintro _ h95 ⟨s319c, s319d, rfl, hL95, H⟩
  refine pop_ext (v := (VI s319c)) rfl ?_
  refine pop_ext (v := (VB s319d)) rfl ?_
  refine pop_bne boo4 _ _ s314d s319d ?_
  refine guardM_sf (fun hb85 => ?_) (fun hb85 => ?_)
  rotate_left
  ·have H := H.1 hb85
   refine gm hb85 ?_
   refine gm hb85 ?_
   refine pop_pickt' hb85 ?_
   refine condM_t ?_
   exact H
  have H := H.2 hb85
  refine gy hb85 ?_
  refine gy hb85 ?_
  refine pop_ine .i64 _ _ s314c s319c ?_
  refine pop_pickf' hb85 ?_
  refine condM_b (fun hb86 => ?_) (fun hb86 => ?_)
  ·exact H.1 hb86
  have H := H.2 hb86
  obtain ⟨J14, H, HB13⟩ := H
  refine ⟨fun (vs : List Value) (h' : Heap) => vs = [] /\ J14  h' /\ Vars h' [(b19, [s311b.v]), (b2, [s69b.v, (VI s69c)]), (b1, [s69.v])], ?_, ?_⟩
  ·refine guardM_st (fun hb87 => ?_) (fun hb87 => ?_)
   rotate_left
   ·have H := H.2 hb87
    refine gm hb87 ?_
    refine pop_pickf' hb87 ?_
    refine condM_f ?_
    exact ⟨rfl, H, hL95⟩
   have H := H.1 hb87
   refine gy hb87 ?_
   refine pop_leq .i64 s314c 60 ?_
   refine pop_pickt' hb87 ?_
   refine condM_b (fun hb88 => ?_) (fun hb88 => ?_)
   rotate_left
   ·have H := H.2 hb88
    exact ⟨rfl, H, hL95⟩
   have H := H.1 hb88
   refine pop_field 0 fld26_0 b19 0 ?_
   refine rl one24 hL95 0 0 s311b.v ?_
   refine pop_len s311b _ _ sli24 ?_
   obtain ⟨J15, ⟨n12, h0e⟩, HB12⟩ := H
   refine loop_intro (J := fun (n : Nat) (vs : List Value) (h' : Heap) => ∃ n42a : Int, ∃ s338b : Int, vs = [(VI n42a), (VI s338b)] /\ J15 n n42a s338b h' /\ Vars h' [(b19, [s311b.v]), (b2, [s69b.v, (VI s69c)]), (b1, [s69.v])]) n12 ⟨0, 0, rfl, h0e, hL95⟩ ?_
   intro I6 mu6 hI6 junk14 tv11 tv12 h96 hi19
   obtain ⟨n9, ⟨n42a, s338b, hv, hJ14, hL96⟩, hn5⟩ := hI6 _ _ hi19
   cases hv
   have H := HB12 n9 n42a s338b h96 hJ14 hL96
   refine pop_lss .i64 s338b (s311b.n : Int) ?_
   refine condM_b (fun hb89 => ?_) (fun hb89 => ?_)
   rotate_left
   ·have H := H.2 hb89
    refine pop_ine .i64 _ _ n42a s314c ?_
    refine condM_b (fun hb98 => ?_) (fun hb98 => ?_)
    ·exact H.1 hb98
    have H := H.2 hb98
    exact ⟨rfl, H, hL96⟩
   have H := H.1 hb89
   refine ra agg26 hL96 0 0 [s311b.v] ?_
   refine H.mono ?_
   rintro _ h97 ⟨s344c, s344d, rfl, hL97, H⟩
   refine pop_ext (v := s344c.v) rfl ?_
   refine pop_ext (v := (VB s344d)) rfl ?_
   refine pop_not s344d ?_
   refine condM_b (fun hb90 => ?_) (fun hb90 => ?_)
   ·exact H.1 hb90
   have H := H.2 hb90
   refine pop_len s344c _ _ sli62 ?_
   obtain ⟨J16, ⟨n11, h0d⟩, HB11⟩ := H
   refine loop_intro (J := fun (n : Nat) (vs : List Value) (h' : Heap) => ∃ s351b : Int, vs = [(VI s351b)] /\ J16 n s351b h' /\ Vars h' [(b19, [s311b.v]), (b2, [s69b.v, (VI s69c)]), (b1, [s69.v])]) n11 ⟨0, rfl, h0d, hL97⟩ ?_
   intro I5 mu5 hI5 junk15 tv10 h98 hi20
   obtain ⟨n10, ⟨s351b, hv, hJ15, hL98⟩, hn6⟩ := hI5 _ _ hi20
   cases hv
   have H := HB11 n10 s351b h98 hJ15 hL98
   refine pop_lss .i64 s351b (s344c.n : Int) ?_
   refine condM_b (fun hb91 => ?_) (fun hb91 => ?_)
   rotate_left
   ·have H := H.2 hb91
    refine pop_len s344c _ _ sli62 ?_
    refine pop_add .i64 n42a (s344c.n : Int) ?_
    refine pop_add .i64 s338b 1 ?_
    obtain ⟨m_8, hm_8, H⟩ := H
    exact hn5 _ _ ⟨m_8, hm_8, (w64 (n42a + (s344c.n : Int))), (w64 (s338b + 1)), rfl, H, hL98⟩
   have H := H.1 hb91
   obtain ⟨hi21, H⟩ := H
   refine pop_index sli62 siz48 .i64 s344c s351b hi21 ?_
   obtain ⟨s355c, s355d, hc18, H⟩ := H
   refine rop_agg agg48 [s355c.v, (VI s355d)] rfl hc18 ?_
   refine eop_alloc 48 zer48 rfl hL98 (fun b20 h99 hb92 hf35 hL99 => ?_)
   refine ul siz48 hL99 0 0 [s355c.v, (VI s355d)] [(b20, [s355c.v, (VI s355d)]), (b19, [s311b.v]), (b2, [s69b.v, (VI s69c)]), (b1, [s69.v])] (fun h100 hf36 hL100 => ?_)
   refine ra agg26 hL100 1 0 [s311b.v] ?_
   refine ra agg48 hL100 0 0 [s355c.v, (VI s355d)] ?_
   refine (H b20 h100 hb92 (Fr.new (fo hf35) hb92 hf36) hL100).mono ?_
   rintro _ h101 ⟨s359c, s359d, rfl, hL101, H⟩
   refine pop_ext (v := (VB s359c)) rfl ?_
   refine pop_ext (v := (VB s359d)) rfl ?_
   refine pop_not s359d ?_
   refine guardM_sf (fun hb93 => ?_) (fun hb93 => ?_)
   rotate_left
   ·have H := H.1 hb93
    refine gm hb93 ?_
    refine pop_pickt' hb93 ?_
    refine gn ?_
    refine gn ?_
    refine gn ?_
    refine gn ?_
    refine pop_pickt _ _ ?_
    refine gn ?_
    refine gn ?_
    refine gn ?_
    refine gn ?_
    refine gn ?_
    refine gn ?_
    refine gn ?_
    refine gn ?_
    refine gn ?_
    refine gn ?_
    refine gn ?_
    refine gn ?_
    refine ⟨⟨_, rfl, fun h => absurd (h.symm.trans rfl) (by decide), fun _ => rfl⟩, ?_⟩
    refine gn ?_
    refine gn ?_
    refine pop_pickt _ _ ?_
    refine condM_t ?_
    exact H
   have H := H.2 hb93
   refine gy hb93 ?_
   refine pop_not s359c ?_
   refine pop_pickf' hb93 ?_
   refine guardM_sf (fun hb94 => ?_) (fun hb94 => ?_)
   rotate_left
   ·have H := H.1 hb94
    refine gm hb94 ?_
    refine gm hb94 ?_
    refine gm hb94 ?_
    refine pop_pickt' hb94 ?_
    refine gn ?_
    refine gn ?_
    refine gn ?_
    refine gn ?_
    refine gn ?_
    refine gn ?_
    refine gn ?_
    refine gn ?_
    refine gn ?_
    refine gn ?_
    refine gn ?_
    refine gn ?_
    refine ⟨⟨_, rfl, fun h => absurd (h.symm.trans hb94) (by decide), fun _ => rfl⟩, ?_⟩
    refine gn ?_
    refine gn ?_
    refine pop_pickt _ _ ?_
    refine condM_t ?_
    exact H
   have H := H.2 hb94
   refine pop_field 1 fld48_1 b20 0 ?_
   refine gy hb94 ?_
   refine rl one3 hL101 0 1 (VI s355d) ?_
   refine gy hb94 ?_
   refine gy hb94 ?_
   refine pop_ine .i64 _ _ s355d s338b ?_
   refine pop_pickf' hb94 ?_
   refine guardM_sf (fun hb95 => ?_) (fun hb95 => ?_)
   rotate_left
   ·have H := H.1 hb95
    refine gm hb95 ?_
    refine gm hb95 ?_
    refine gn ?_
    refine gn ?_
    refine gn ?_
    refine gn ?_
    refine gn ?_
    refine gn ?_
    refine gn ?_
    refine gn ?_
    refine gn ?_
    refine ⟨⟨_, rfl, fun _ => ?_, fun h => absurd hb94 h⟩, ?_⟩
    ·exact still_loc one3 hL101 0 rfl 1 (v := (VI s355d)) rfl
    refine gn ?_
    refine gm hb95 ?_
    refine pop_pickt' hb95 ?_
    refine condM_t ?_
    exact H
   have H := H.2 hb95
   refine gy hb95 ?_
   refine pop_gtr .i64 s351b 0 ?_
   refine gy hb95 ?_
   refine guardM_st (fun hb96 => ?_) (fun hb96 => ?_)
   rotate_left
   ·have H := H.2 hb96
    refine gm hb96 ?_
    refine gm hb96 ?_
    refine gm hb96 ?_
    refine gm hb96 ?_
    refine gm hb96 ?_
    refine gm hb96 ?_
    refine gm hb96 ?_
    refine gm hb96 ?_
    refine ⟨⟨_, rfl, fun _ => ?_, fun h => absurd hb94 h⟩, ?_⟩
    ·exact still_loc one3 hL101 0 rfl 1 (v := (VI s355d)) rfl
    refine gm hb96 ?_
    refine gy hb95 ?_
    refine pop_pickf' hb96 ?_
    refine pop_pickf' hb95 ?_
    refine condM_f ?_
    refine pop_add .i64 s351b 1 ?_
    obtain ⟨m_7, hm_7, H⟩ := H
    exact hn6 _ _ ⟨m_7, hm_7, (w64 (s351b + 1)), rfl, H, (Vars.tail hL101)⟩
   have H := H.1 hb96
   refine gy hb96 ?_
   refine gy hb96 ?_
   refine pop_sub .i64 s351b 1 ?_
   refine gy hb96 ?_
   obtain ⟨hi22, H⟩ := H
   refine pop_index sli62 siz48 .i64 s344c (w64 (s351b - 1)) hi22 ?_
   refine gy hb96 ?_
   refine pop_fieldA 0 fld48_0 (Sl.at s344c (w64 (s351b - 1)) 2) ?_
   refine gy hb96 ?_
   obtain ⟨s383b, hc17, H⟩ := H
   refine rop_one one29 s383b.v hc17 ?_
   refine gy hb96 ?_
   refine pop_field 0 fld48_0 b20 0 ?_
   refine gy hb96 ?_
   refine rl one29 hL101 0 0 s355c.v ?_
   refine gy hb96 ?_
   refine H.mono ?_
   rintro _ h102 ⟨s386b, rfl, hL102, H⟩
   refine ⟨⟨_, rfl, fun _ => ?_, fun h => absurd hb94 h⟩, ?_⟩
   ·exact still_loc one3 hL102 0 rfl 1 (v := (VI s355d)) rfl
   refine gy hb96 ?_
   refine pop_not s386b ?_
   refine gy hb95 ?_
   refine pop_pickt' hb96 ?_
   refine pop_pickf' hb95 ?_
   refine condM_b (fun hb97 => ?_) (fun hb97 => ?_)
   ·exact H.1 hb97
   have H := H.2 hb97
   refine pop_add .i64 s351b 1 ?_
   obtain ⟨m_6, hm_6, H⟩ := H
   exact hn6 _ _ ⟨m_6, hm_6, (w64 (s351b + 1)), rfl, H, (Vars.tail hL102)⟩
  intro junk16  h103
  rintro ⟨hv, hJ16, hL103⟩
  have H := HB13  h103 hJ16 hL103
  refine H.mono ?_
  rintro _ h104 ⟨s401c, s401d, rfl, hL104, H⟩
  refine pop_ext (v := (Value.agg #[s401c.v])) rfl ?_
  refine pop_ext (v := (VI s401d)) rfl ?_
  refine eop_alloc 26 zer26 rfl hL104 (fun b21 h105 hb99 hf37 hL105 => ?_)
  refine ul siz26 hL105 0 0 [s401c.v] [(b21, [s401c.v]), (b19, [s311b.v]), (b2, [s69b.v, (VI s69c)]), (b1, [s69.v])] (fun h106 hf38 hL106 => ?_)
  refine ra agg26 hL106 0 0 [s401c.v] ?_
  refine (H b21 h106 hb99 (Fr.new (fo hf37) hb99 hf38) hL106).mono ?_
  rintro _ h107 ⟨s407c, s407d, rfl, hL107, H⟩
  refine pop_ext (v := s407c.v) rfl ?_
  refine pop_ext (v := (VB s407d)) rfl ?_
  refine ra agg26 hL107 0 0 [s401c.v] ?_
  refine H.mono ?_
  rintro _ h108 ⟨s413c, s413d, rfl, hL108, H⟩
  refine pop_ext (v := s413c.v) rfl ?_
  refine pop_ext (v := (VB s413d)) rfl ?_
  refine H.mono ?_
  rintro _ h109 ⟨s418e, s418f, s418g, s418h, rfl, hL109, H⟩
  refine pop_ext (v := (Value.agg #[s418e.v])) rfl ?_
  refine pop_ext (v := (VI s418f)) rfl ?_
  refine pop_ext (v := s418g.v) rfl ?_
  refine pop_ext (v := (VI s418h)) rfl ?_
  refine eop_alloc 26 zer26 rfl hL109 (fun b22 h110 hb100 hf39 hL110 => ?_)
  refine ul siz26 hL110 0 0 [s418e.v] [(b22, [s418e.v]), (b21, [s401c.v]), (b19, [s311b.v]), (b2, [s69b.v, (VI s69c)]), (b1, [s69.v])] (fun h111 hf40 hL111 => ?_)
  refine ra agg26 hL111 0 0 [s418e.v] ?_
  refine (H b22 h111 hb100 (Fr.new (fo hf39) hb100 hf40) hL111).mono ?_
  rintro _ h112 ⟨s428d, s428e, s428f, rfl, hL112, H⟩
  refine pop_ext (v := (Value.agg #[s428d.v, (VI s428e)])) rfl ?_
  refine pop_ext (v := (VB s428f)) rfl ?_
  refine eop_alloc 48 zer48 rfl hL112 (fun b23 h113 hb101 hf41 hL113 => ?_)
  refine ul siz48 hL113 0 0 [s428d.v, (VI s428e)] [(b23, [s428d.v, (VI s428e)]), (b22, [s418e.v]), (b21, [s401c.v]), (b19, [s311b.v]), (b2, [s69b.v, (VI s69c)]), (b1, [s69.v])] (fun h114 hf42 hL114 => ?_)
  refine ra agg26 hL114 1 0 [s418e.v] ?_
  refine (H b23 h114 hb101 (Fr.new (fo hf41) hb101 hf42) hL114).mono ?_
  rintro _ h115 ⟨s436d, s436e, s436f, rfl, hL115, H⟩
  refine pop_ext (v := (Value.agg #[s436d.v, (VI s436e)])) rfl ?_
  refine pop_ext (v := (VB s436f)) rfl ?_
  refine eop_alloc 48 zer48 rfl hL115 (fun b24 h116 hb102 hf43 hL116 => ?_)
  refine ul siz48 hL116 0 0 [s436d.v, (VI s436e)] [(b24, [s436d.v, (VI s436e)]), (b23, [s428d.v, (VI s428e)]), (b22, [s418e.v]), (b21, [s401c.v]), (b19, [s311b.v]), (b2, [s69b.v, (VI s69c)]), (b1, [s69.v])] (fun h117 hf44 hL117 => ?_)
  refine pop_beq boo4 _ _ s407d s413d ?_
  refine guardM_st (fun hb103 => ?_) (fun hb103 => ?_)
  rotate_left
  ·have H := H.2 hb103
   refine gm hb103 ?_
   refine gm hb103 ?_
   refine pop_pickf' hb103 ?_
   refine gn ?_
   refine gn ?_
   refine gn ?_
   refine pop_pickf _ _ ?_
   refine gn ?_
   refine gn ?_
   refine gn ?_
   refine pop_pickf _ _ ?_
   refine gn ?_
   refine gn ?_
   refine gn ?_
   refine gn ?_
   refine gn ?_
   refine gn ?_
   refine gn ?_
   refine pop_pickf _ _ ?_
   exact H b24 h117 hb102 (Fr.new (fo hf43) hb102 hf44) hL117
  have H := H.1 hb103
  refine gy hb103 ?_
  refine gy hb103 ?_
  refine (H b24 h117 hb102 (Fr.new (fo hf43) hb102 hf44) hL117).mono ?_
  rintro _ h118 ⟨s445b, rfl, hL118, H⟩
  refine pop_pickt' hb103 ?_
  refine guardM_st (fun hb104 => ?_) (fun hb104 => ?_)
  rotate_left
  ·have H := H.2 hb104
   refine gm hb104 ?_
   refine gm hb104 ?_
   refine pop_pickf' hb104 ?_
   refine gn ?_
   refine gn ?_
   refine gn ?_
   refine pop_pickf _ _ ?_
   refine gn ?_
   refine gn ?_
   refine gn ?_
   refine gn ?_
   refine gn ?_
   refine gn ?_
   refine gn ?_
   refine pop_pickf _ _ ?_
   exact H
  have H := H.1 hb104
  refine gy hb104 ?_
  refine gy hb104 ?_
  refine pop_beq boo4 _ _ s428f s436f ?_
  refine pop_pickt' hb104 ?_
  refine guardM_st (fun hb105 => ?_) (fun hb105 => ?_)
  rotate_left
  ·have H := H.2 hb105
   refine gm hb105 ?_
   refine gm hb105 ?_
   refine pop_pickf' hb105 ?_
   refine gn ?_
   refine gn ?_
   refine gn ?_
   refine gn ?_
   refine gn ?_
   refine gn ?_
   refine gn ?_
   refine pop_pickf _ _ ?_
   exact H
  have H := H.1 hb105
  refine ra agg48 hL118 1 0 [s428d.v, (VI s428e)] ?_
  refine gy hb105 ?_
  refine ra agg48 hL118 0 0 [s436d.v, (VI s436e)] ?_
  refine gy hb105 ?_
  refine H.mono ?_
  rintro _ h119 ⟨s455b, rfl, hL119, H⟩
  refine pop_pickt' hb105 ?_
  refine guardM_st (fun hb106 => ?_) (fun hb106 => ?_)
  rotate_left
  ·have H := H.2 hb106
   refine gm hb106 ?_
   refine gm hb106 ?_
   refine gn ?_
   refine gn ?_
   refine gn ?_
   refine gm hb106 ?_
   refine pop_pickf' hb106 ?_
   exact H
  have H := H.1 hb106
  refine gy hb106 ?_
  refine pop_not s428f ?_
  refine gy hb106 ?_
  refine guardM_sf (fun hb107 => ?_) (fun hb107 => ?_)
  rotate_left
  ·have H := H.1 hb107
   refine gm hb107 ?_
   refine gm hb107 ?_
   refine gy hb106 ?_
   refine pop_pickt' hb107 ?_
   refine pop_pickt' hb106 ?_
   exact H
  have H := H.2 hb107
  refine ra agg26 hL119 2 0 [s418e.v] ?_
  refine gy hb107 ?_
  refine ra agg48 hL119 1 0 [s428d.v, (VI s428e)] ?_
  refine gy hb107 ?_
  refine H.mono ?_
  rintro _ h120 ⟨s463b, rfl, hL120, H⟩
  refine gy hb106 ?_
  refine pop_pickf' hb107 ?_
  refine pop_pickt' hb106 ?_
  exact H
 have H := H.1 hb14
 refine gy hb14 ?_
 refine pop_not s99b ?_
 refine gy hb13 ?_
 refine pop_pickt' hb14 ?_
 refine pop_pickf' hb13 ?_
 refine condM_b (fun hb15 => ?_) (fun hb15 => ?_)
 ·exact H.1 hb15
 have H := H.2 hb15
 obtain ⟨J1, H, HB8⟩ := H
 refine ⟨fun (vs : List Value) (h' : Heap) => vs = [] /\ J1  h' /\ Vars h' [(b2, [s69b.v, (VI s69c)]), (b1, [s69.v])], ?_, ?_⟩
 ·refine condM_b (fun hb16 => ?_) (fun hb16 => ?_)
  rotate_left
  ·have H := H.2 hb16
   exact ⟨rfl, H, hL16⟩
  have H := H.1 hb16
  refine pop_len s99 _ _ sli29 ?_
  obtain ⟨J2, ⟨n2, h0⟩, HB1⟩ := H
  refine loop_intro (J := fun (n : Nat) (vs : List Value) (h' : Heap) => ∃ s181 : Int, vs = [(VI s181)] /\ J2 n s181 h' /\ Vars h' [(b2, [s69b.v, (VI s69c)]), (b1, [s69.v])]) n2 ⟨0, rfl, h0, hL16⟩ ?_
  intro I1 mu1 hI1 junk1 tv1 h17 hi1
  obtain ⟨n1, ⟨s181, hv, hJ1, hL17⟩, hn1⟩ := hI1 _ _ hi1
  cases hv
  have H := HB1 n1 s181 h17 hJ1 hL17
  refine pop_lss .i64 s181 (s99.n : Int) ?_
  refine condM_b (fun hb17 => ?_) (fun hb17 => ?_)
  rotate_left
  ·have H := H.2 hb17
   exact ⟨rfl, H, hL17⟩
  have H := H.1 hb17
  obtain ⟨hi2, H⟩ := H
  refine pop_index sli29 siz3 .i64 s99 s181 hi2 ?_
  obtain ⟨s185, hc5, H⟩ := H
  refine rop_one one3 (VI s185) hc5 ?_
  refine pop_field 0 fld26_0 b1 0 ?_
  refine rl one24 hL17 1 0 s69.v ?_
  obtain ⟨hi3, H⟩ := H
  refine pop_index sli24 siz29 .i64 s69 s185 hi3 ?_
  obtain ⟨s190, hc4, H⟩ := H
  refine rop_one one29 s190.v hc4 ?_
  refine pop_field 0 fld48_0 b2 0 ?_
  refine rl one29 hL17 0 0 s69b.v ?_
  obtain ⟨hi4, H⟩ := H
  refine pop_index sli29 siz3 .i64 s69b s185 hi4 ?_
  obtain ⟨s195, hc3, H⟩ := H
  refine rop_one one3 (VI s195) hc3 ?_
  obtain ⟨hi5, H⟩ := H
  refine pop_index sli29 siz3 .i64 s190 s195 hi5 ?_
  obtain ⟨s197, hc2, H⟩ := H
  refine rop_one one3 (VI s197) hc2 ?_
  refine pop_add .i64 s181 1 ?_
  refine pop_len s99 _ _ sli29 ?_
  obtain ⟨hz_1, H⟩ := H
  refine pop_rem .i64 (w64 (s181 + 1)) (s99.n : Int) hz_1 ?_
  obtain ⟨hi6, H⟩ := H
  refine pop_index sli29 siz3 .i64 s99 (Int.tmod (w64 (s181 + 1)) (s99.n : Int)) hi6 ?_
  obtain ⟨s205, hc1, H⟩ := H
  refine rop_one one3 (VI s205) hc1 ?_
  refine pop_ine .i64 _ _ s197 s205 ?_
  refine condM_b (fun hb18 => ?_) (fun hb18 => ?_)
  ·exact H.1 hb18
  have H := H.2 hb18
  refine pop_add .i64 s181 1 ?_
  obtain ⟨m_1, hm_1, H⟩ := H
  exact hn1 _ _ ⟨m_1, hm_1, (w64 (s181 + 1)), rfl, H, hL17⟩
 intro junk2  h18
 rintro ⟨hv, hJ2, hL18⟩
 have H := HB8  h18 hJ2 hL18
 obtain ⟨J3, H, HB7⟩ := H
 refine ⟨fun (vs : List Value) (h' : Heap) => vs = [] /\ J3  h' /\ Vars h' [(b2, [s69b.v, (VI s69c)]), (b1, [s69.v])], ?_, ?_⟩
 ·refine condM_b (fun hb19 => ?_) (fun hb19 => ?_)
  rotate_left
  ·have H := H.2 hb19
   exact ⟨rfl, H, hL18⟩
  have H := H.1 hb19
  refine ra agg26 hL18 1 0 [s69.v] ?_
  refine pop_field 1 fld48_1 b2 0 ?_
  refine rl one3 hL18 0 1 (VI s69c) ?_
  refine H.mono ?_
  rintro _ h19 ⟨s214, s214b, rfl, hL19, H⟩
  refine pop_ext (v := (VB s214)) rfl ?_
  refine pop_ext (v := (VB s214b)) rfl ?_
  obtain ⟨J4, H, HB2⟩ := H
  refine ⟨fun (vs : List Value) (h' : Heap) => ∃ b3 : Nat, ∃ y1 : Sl, ∃ y2 : Int, ∃ y3 : Bool, vs = [(VP b3 0), (VB y3)] /\ J4 b3 y1 y2 y3 h' /\ Vars h' [(b3, [y1.v, (VI y2)]), (b2, [s69b.v, (VI s69c)]), (b1, [s69.v])], ?_, ?_⟩
  ·refine ra agg26 hL19 1 0 [s69.v] ?_
   refine pop_field 1 fld48_1 b2 0 ?_
   refine rl one3 hL19 0 1 (VI s69c) ?_
   refine pop_field 0 fld48_0 b2 0 ?_
   refine rl one29 hL19 0 0 s69b.v ?_
   refine pop_field 1 fld48_1 b2 0 ?_
   refine rl one3 hL19 0 1 (VI s69c) ?_
   obtain ⟨hi7, H⟩ := H
   refine pop_index sli29 siz3 .i64 s69b s69c hi7 ?_
   obtain ⟨s227, hc7, H⟩ := H
   refine rop_one one3 (VI s227) hc7 ?_
   refine ⟨?_, ?_⟩
   ·have H := H.1
    refine H.mono ?_
    rintro _ h20 ⟨s228, s228b, s228c, rfl, hL20, H⟩
    refine ⟨?_, ?_⟩
    ·exact still_loc one3 hL20 0 rfl 1 (v := (VI s69c)) rfl
    refine ⟨?_, ?_⟩
    ·exact still_loc one29 hL20 0 rfl 0 (v := s69b.v) rfl
    refine pop_ext (v := (Value.agg #[s228.v, (VI s228b)])) rfl ?_
    refine pop_ext (v := (VB s228c)) rfl ?_
    refine eop_alloc 48 zer48 rfl hL20 (fun b4 h21 hb20 hf5 hL21 => ?_)
    have H := H b4 h21 hb20 (fo hf5) hL21
    refine ⟨?_, ?_⟩
    ·exact still_loc one3 hL21 1 rfl 1 (v := (VI s69c)) rfl
    refine ⟨?_, ?_⟩
    ·exact still_loc one29 hL21 1 rfl 0 (v := s69b.v) rfl
    refine ul siz48 hL21 0 0 [s228.v, (VI s228b)] [(b4, [s228.v, (VI s228b)]), (b2, [s69b.v, (VI s69c)]), (b1, [s69.v])] (fun h22 hf6 hL22 => ?_)
    have H := H  h22  (fq hf6) hL22
    exact ⟨b4, s228, s228b, s228c, rfl, H, hL22⟩
   have H := H.2
   refine eop_alloc 48 zer48 rfl hL19 (fun b5 h23 hb21 hf7 hL23 => ?_)
   have H := H b5 h23 hb21 (fo hf7) hL23
   refine ⟨?_, ?_⟩
   ·exact still_one one3 H.1
   obtain ⟨hc6, H⟩ := H
   refine ⟨?_, ?_⟩
   ·exact still_loc one3 hL23 1 rfl 1 (v := (VI s69c)) rfl
   refine ⟨?_, ?_⟩
   ·exact still_loc one29 hL23 1 rfl 0 (v := s69b.v) rfl
   refine ⟨?_, ?_⟩
   ·exact still_loc one3 hL23 1 rfl 1 (v := (VI s69c)) rfl
   refine ⟨?_, ?_⟩
   ·exact still_locA agg26 hL23 2 rfl 0 (vs := [s69.v]) rfl rfl
   refine H.mono ?_
   rintro _ h24 ⟨s228d, s228e, s228f, rfl, hL24, H⟩
   refine ⟨?_, ?_⟩
   ·exact still_loc one3 hL24 1 rfl 1 (v := (VI s69c)) rfl
   refine ⟨?_, ?_⟩
   ·exact still_loc one29 hL24 1 rfl 0 (v := s69b.v) rfl
   refine pop_ext (v := (Value.agg #[s228d.v, (VI s228e)])) rfl ?_
   refine pop_ext (v := (VB s228f)) rfl ?_
   refine ul siz48 hL24 0 0 [s228d.v, (VI s228e)] [(b5, [s228d.v, (VI s228e)]), (b2, [s69b.v, (VI s69c)]), (b1, [s69.v])] (fun h25 hf8 hL25 => ?_)
   have H := H  h25  (fq hf8) hL25
   exact ⟨b5, s228d, s228e, s228f, rfl, H, hL25⟩
  intro junk3 tv2 tv3 h26
  rintro ⟨b3, y1, y2, y3, hv, hJ3, hL26⟩
  cases hv
  have H := HB2 b3 y1 y2 y3 h26 hJ3 hL26
  refine ra agg26 hL26 2 0 [s69.v] ?_
  refine ra agg48 hL26 1 0 [s69b.v, (VI s69c)] ?_
  refine H.mono ?_
  rintro _ h27 ⟨s234, s234b, s234c, rfl, hL27, H⟩
  refine pop_ext (v := (Value.agg #[s234.v, (VI s234b)])) rfl ?_
  refine pop_ext (v := (VB s234c)) rfl ?_
  refine eop_alloc 48 zer48 rfl hL27 (fun b6 h28 hb22 hf9 hL28 => ?_)
  refine ul siz48 hL28 0 0 [s234.v, (VI s234b)] [(b6, [s234.v, (VI s234b)]), (b3, [y1.v, (VI y2)]), (b2, [s69b.v, (VI s69c)]), (b1, [s69.v])] (fun h29 hf10 hL29 => ?_)
  refine ra agg26 hL29 3 0 [s69.v] ?_
  refine ra agg48 hL29 0 0 [s234.v, (VI s234b)] ?_
  refine (H b6 h29 hb22 (Fr.new (fo hf9) hb22 hf10) hL29).mono ?_
  rintro _ h30 ⟨s240, s240b, rfl, hL30, H⟩
  refine pop_ext (v := (VB s240)) rfl ?_
  refine pop_ext (v := (VB s240b)) rfl ?_
  refine pop_not s214b ?_
  refine guardM_sf (fun hb23 => ?_) (fun hb23 => ?_)
  rotate_left
  ·have H := H.1 hb23
   refine gm hb23 ?_
   refine pop_pickt' hb23 ?_
   refine gn ?_
   refine gn ?_
   refine pop_pickt _ _ ?_
   refine gn ?_
   refine gn ?_
   refine gn ?_
   refine gn ?_
   refine pop_pickt _ _ ?_
   refine gn ?_
   refine gn ?_
   refine pop_pickt _ _ ?_
   refine gn ?_
   refine gn ?_
   refine pop_pickt _ _ ?_
   refine gn ?_
   refine gn ?_
   refine pop_pickt _ _ ?_
   refine gn ?_
   refine gn ?_
   refine gn ?_
   refine gn ?_
   refine gn ?_
   refine pop_pickt _ _ ?_
   refine gn ?_
   refine gn ?_
   refine pop_pickt _ _ ?_
   refine gn ?_
   refine gn ?_
   refine pop_pickt _ _ ?_
   refine condM_t ?_
   exact H
  have H := H.2 hb23
  refine gy hb23 ?_
  refine pop_not s214 ?_
  refine pop_pickf' hb23 ?_
  refine guardM_sf (fun hb24 => ?_) (fun hb24 => ?_)
  rotate_left
  ·have H := H.1 hb24
   refine gm hb24 ?_
   refine pop_pickt' hb24 ?_
   refine gn ?_
   refine gn ?_
   refine gn ?_
   refine gn ?_
   refine pop_pickt _ _ ?_
   refine gn ?_
   refine gn ?_
   refine pop_pickt _ _ ?_
   refine gn ?_
   refine gn ?_
   refine pop_pickt _ _ ?_
   refine gn ?_
   refine gn ?_
   refine pop_pickt _ _ ?_
   refine gn ?_
   refine gn ?_
   refine gn ?_
   refine gn ?_
   refine gn ?_
   refine pop_pickt _ _ ?_
   refine gn ?_
   refine gn ?_
   refine pop_pickt _ _ ?_
   refine gn ?_
   refine gn ?_
   refine pop_pickt _ _ ?_
   refine condM_t ?_
   exact H
  have H := H.2 hb24
  refine gy hb24 ?_
  refine pop_not y3 ?_
  refine pop_pickf' hb24 ?_
  refine guardM_sf (fun hb25 => ?_) (fun hb25 => ?_)
  rotate_left
  ·have H := H.1 hb25
   refine gm hb25 ?_
   refine gm hb25 ?_
   refine gm hb25 ?_
   refine pop_pickt' hb25 ?_
   refine gn ?_
   refine gn ?_
   refine pop_pickt _ _ ?_
   refine gn ?_
   refine gn ?_
   refine pop_pickt _ _ ?_
   refine gn ?_
   refine gn ?_
   refine pop_pickt _ _ ?_
   refine gn ?_
   refine gn ?_
   refine gn ?_
   refine gn ?_
   refine gn ?_
   refine pop_pickt _ _ ?_
   refine gn ?_
   refine gn ?_
   refine pop_pickt _ _ ?_
   refine gn ?_
   refine gn ?_
   refine pop_pickt _ _ ?_
   refine condM_t ?_
   exact H
  have H := H.2 hb25
  refine ra agg48 hL30 1 0 [y1.v, (VI y2)] ?_
  refine gy hb25 ?_
  refine ra agg48 hL30 2 0 [s69b.v, (VI s69c)] ?_
  refine gy hb25 ?_
  refine H.mono ?_
  rintro _ h31 ⟨s256, rfl, hL31, H⟩
  refine gy hb25 ?_
  refine pop_not s256 ?_
  refine pop_pickf' hb25 ?_
  refine guardM_sf (fun hb26 => ?_) (fun hb26 => ?_)
  rotate_left
  ·have H := H.1 hb26
   refine gm hb26 ?_
   refine pop_pickt' hb26 ?_
   refine gn ?_
   refine gn ?_
   refine pop_pickt _ _ ?_
   refine gn ?_
   refine gn ?_
   refine pop_pickt _ _ ?_
   refine gn ?_
   refine gn ?_
   refine gn ?_
   refine gn ?_
   refine gn ?_
   refine pop_pickt _ _ ?_
   refine gn ?_
   refine gn ?_
   refine pop_pickt _ _ ?_
   refine gn ?_
   refine gn ?_
   refine pop_pickt _ _ ?_
   refine condM_t ?_
   exact H
  have H := H.2 hb26
  refine gy hb26 ?_
  refine pop_not s234c ?_
  refine pop_pickf' hb26 ?_
  refine guardM_sf (fun hb27 => ?_) (fun hb27 => ?_)
  rotate_left
  ·have H := H.1 hb27
   refine gm hb27 ?_
   refine pop_pickt' hb27 ?_
   refine gn ?_
   refine gn ?_
   refine pop_pickt _ _ ?_
   refine gn ?_
   refine gn ?_
   refine gn ?_
   refine gn ?_
   refine gn ?_
   refine pop_pickt _ _ ?_
   refine gn ?_
   refine gn ?_
   refine pop_pickt _ _ ?_
   refine gn ?_
   refine gn ?_
   refine pop_pickt _ _ ?_
   refine condM_t ?_
   exact H
  have H := H.2 hb27
  refine gy hb27 ?_
  refine pop_not s240b ?_
  refine pop_pickf' hb27 ?_
  refine guardM_sf (fun hb28 => ?_) (fun hb28 => ?_)
  rotate_left
  ·have H := H.1 hb28
   refine gm hb28 ?_
   refine pop_pickt' hb28 ?_
   refine gn ?_
   refine gn ?_
   refine gn ?_
   refine gn ?_
   refine gn ?_
   refine pop_pickt _ _ ?_
   refine gn ?_
   refine gn ?_
   refine pop_pickt _ _ ?_
   refine gn ?_
   refine gn ?_
   refine pop_pickt _ _ ?_
   refine condM_t ?_
   exact H
  have H := H.2 hb28
  refine gy hb28 ?_
  refine pop_not s240 ?_
  refine pop_pickf' hb28 ?_
  refine guardM_sf (fun hb29 => ?_) (fun hb29 => ?_)
  rotate_left
  ·have H := H.1 hb29
   refine gm hb29 ?_
   refine gm hb29 ?_
   refine gm hb29 ?_
   refine gm hb29 ?_
   refine pop_pickt' hb29 ?_
   refine gn ?_
   refine gn ?_
   refine pop_pickt _ _ ?_
   refine gn ?_
   refine gn ?_
   refine pop_pickt _ _ ?_
   refine condM_t ?_
   exact H
  have H := H.2 hb29
  refine gy hb29 ?_
  refine pop_field 1 fld48_1 b2 0 ?_
  refine gy hb29 ?_
  refine rl one3 hL31 2 1 (VI s69c) ?_
  refine gy hb29 ?_
  refine H.mono ?_
  rintro _ h32 ⟨s275, rfl, hL32, H⟩
  refine gy hb29 ?_
  refine pop_not s275 ?_
  refine pop_pickf' hb29 ?_
  refine guardM_sf (fun hb30 => ?_) (fun hb30 => ?_)
  rotate_left
  ·have H := H.1 hb30
   refine gm hb30 ?_
   refine pop_pickt' hb30 ?_
   refine gn ?_
   refine gn ?_
   refine pop_pickt _ _ ?_
   refine condM_t ?_
   exact H
  have H := H.2 hb30
  refine gy hb30 ?_
  refine pop_not s111b ?_
  refine pop_pickf' hb30 ?_
  refine guardM_sf (fun hb31 => ?_) (fun hb31 => ?_)
  rotate_left
  ·have H := H.1 hb31
   refine gm hb31 ?_
   refine pop_pickt' hb31 ?_
   refine condM_t ?_
   exact H
  have H := H.2 hb31
  refine gy hb31 ?_
  refine pop_ine .i64 _ _ s111 0 ?_
  refine pop_pickf' hb31 ?_
  refine condM_b (fun hb32 => ?_) (fun hb32 => ?_)
  ·exact H.1 hb32
  have H := H.2 hb32
  exact ⟨rfl, H, Vars.pick hL32 [2, 3] rfl⟩
 intro junk4  h33
 rintro ⟨hv, hJ4, hL33⟩
 have H := HB7  h33 hJ4 hL33
 obtain ⟨J5, H, HB6⟩ := H
 refine ⟨fun (vs : List Value) (h' : Heap) => vs = [] /\ J5  h' /\ Vars h' [(b2, [s69b.v, (VI s69c)]), (b1, [s69.v])], ?_, ?_⟩
 ·refine condM_b (fun hb33 => ?_) (fun hb33 => ?_)
  rotate_left
  ·have H := H.2 hb33
   exact ⟨rfl, H, hL33⟩
  have H := H.1 hb33
  refine ra agg26 hL33 1 0 [s69.v] ?_
  refine ra agg48 hL33 0 0 [s69b.v, (VI s69c)] ?_
  refine H.mono ?_
  rintro _ h34 ⟨s291, s291b, s291c, rfl, hL34, H⟩
  refine pop_ext (v := (Value.agg #[s291.v, (VI s291b)])) rfl ?_
  refine pop_ext (v := (VB s291c)) rfl ?_
  refine eop_alloc 48 zer48 rfl hL34 (fun b7 h35 hb34 hf11 hL35 => ?_)
  refine ul siz48 hL35 0 0 [s291.v, (VI s291b)] [(b7, [s291.v, (VI s291b)]), (b2, [s69b.v, (VI s69c)]), (b1, [s69.v])] (fun h36 hf12 hL36 => ?_)
  refine ra agg26 hL36 2 0 [s69.v] ?_
  refine ra agg48 hL36 0 0 [s291.v, (VI s291b)] ?_
  refine (H b7 h36 hb34 (Fr.new (fo hf11) hb34 hf12) hL36).mono ?_
  rintro _ h37 ⟨s297, s297b, rfl, hL37, H⟩
  refine pop_ext (v := (VB s297)) rfl ?_
  refine pop_ext (v := (VB s297b)) rfl ?_
  refine pop_not s291c ?_
  refine guardM_sf (fun hb35 => ?_) (fun hb35 => ?_)
  rotate_left
  ·have H := H.1 hb35
   refine gm hb35 ?_
   refine pop_pickt' hb35 ?_
   refine gn ?_
   refine gn ?_
   refine pop_pickt _ _ ?_
   refine condM_t ?_
   exact H
  have H := H.2 hb35
  refine gy hb35 ?_
  refine pop_not s297b ?_
  refine pop_pickf' hb35 ?_
  refine guardM_sf (fun hb36 => ?_) (fun hb36 => ?_)
  rotate_left
  ·have H := H.1 hb36
   refine gm hb36 ?_
   refine pop_pickt' hb36 ?_
   refine condM_t ?_
   exact H
  have H := H.2 hb36
  refine gy hb36 ?_
  refine pop_not s297 ?_
  refine pop_pickf' hb36 ?_
  refine condM_b (fun hb37 => ?_) (fun hb37 => ?_)
  ·exact H.1 hb37
  have H := H.2 hb37
  exact ⟨rfl, H, Vars.pick hL37 [1, 2] rfl⟩
 intro junk5  h38
 rintro ⟨hv, hJ5, hL38⟩
 have H := HB6  h38 hJ5 hL38
 refine H.mono ?_
 rintro _ h39 ⟨s311, rfl, hL39, H⟩
 refine eop_alloc 26 zer26 rfl hL39 (fun b8 h40 hb38 hf13 hL40 => ?_)
 refine ul siz26 hL40 0 0 [s311.v] [(b8, [s311.v]), (b2, [s69b.v, (VI s69c)]), (b1, [s69.v])] (fun h41 hf14 hL41 => ?_)
 refine ra agg26 hL41 0 0 [s311.v] ?_
 refine (H b8 h41 hb38 (Fr.new (fo hf13) hb38 hf14) hL41).mono ?_
 rintro _ h42 ⟨s314, s314b, rfl, hL42, H⟩
 refine pop_ext (v := (VI s314)) rfl ?_
 refine pop_ext (v := (VB s314b)) rfl ?_
 refine ra agg26 hL42 0 0 [s311.v] ?_
 refine H.mono ?_
 rintro _ h43 ⟨s319, s319b, rfl, hL43, H⟩
 refine pop_ext (v := (VI s319)) rfl ?_
 refine pop_ext (v := (VB s319b)) rfl ?_
 refine pop_bne boo4 _ _ s314b s319b ?_
 refine guardM_sf (fun hb39 => ?_) (fun hb39 => ?_)
 rotate_left
 ·have H := H.1 hb39
  refine gm hb39 ?_
  refine gm hb39 ?_
  refine pop_pickt' hb39 ?_
  refine condM_t ?_
  exact H
 have H := H.2 hb39
 refine gy hb39 ?_
 refine gy hb39 ?_
 refine pop_ine .i64 _ _ s314 s319 ?_
 refine pop_pickf' hb39 ?_
 refine condM_b (fun hb40 => ?_) (fun hb40 => ?_)
 ·exact H.1 hb40
 have H := H.2 hb40
 obtain ⟨J6, H, HB5⟩ := H
 refine ⟨fun (vs : List Value) (h' : Heap) => vs = [] /\ J6  h' /\ Vars h' [(b8, [s311.v]), (b2, [s69b.v, (VI s69c)]), (b1, [s69.v])], ?_, ?_⟩
 ·refine guardM_st (fun hb41 => ?_) (fun hb41 => ?_)
  rotate_left
  ·have H := H.2 hb41
   refine gm hb41 ?_
   refine pop_pickf' hb41 ?_
   refine condM_f ?_
   exact ⟨rfl, H, hL43⟩
  have H := H.1 hb41
  refine gy hb41 ?_
  refine pop_leq .i64 s314 60 ?_
  refine pop_pickt' hb41 ?_
  refine condM_b (fun hb42 => ?_) (fun hb42 => ?_)
  rotate_left
  ·have H := H.2 hb42
   exact ⟨rfl, H, hL43⟩
  have H := H.1 hb42
  refine pop_field 0 fld26_0 b8 0 ?_
  refine rl one24 hL43 0 0 s311.v ?_
  refine pop_len s311 _ _ sli24 ?_
  obtain ⟨J7, ⟨n6, h0b⟩, HB4⟩ := H
  refine loop_intro (J := fun (n : Nat) (vs : List Value) (h' : Heap) => ∃ n42 : Int, ∃ s338 : Int, vs = [(VI n42), (VI s338)] /\ J7 n n42 s338 h' /\ Vars h' [(b8, [s311.v]), (b2, [s69b.v, (VI s69c)]), (b1, [s69.v])]) n6 ⟨0, 0, rfl, h0b, hL43⟩ ?_
  intro I3 mu3 hI3 junk6 tv5 tv6 h44 hi8
  obtain ⟨n3, ⟨n42, s338, hv, hJ6, hL44⟩, hn2⟩ := hI3 _ _ hi8
  cases hv
  have H := HB4 n3 n42 s338 h44 hJ6 hL44
  refine pop_lss .i64 s338 (s311.n : Int) ?_
  refine condM_b (fun hb43 => ?_) (fun hb43 => ?_)
  rotate_left
  ·have H := H.2 hb43
   refine pop_ine .i64 _ _ n42 s314 ?_
   refine condM_b (fun hb52 => ?_) (fun hb52 => ?_)
   ·exact H.1 hb52
   have H := H.2 hb52
   exact ⟨rfl, H, hL44⟩
  have H := H.1 hb43
  refine ra agg26 hL44 0 0 [s311.v] ?_
  refine H.mono ?_
  rintro _ h45 ⟨s344, s344b, rfl, hL45, H⟩
  refine pop_ext (v := s344.v) rfl ?_
  refine pop_ext (v := (VB s344b)) rfl ?_
  refine pop_not s344b ?_
  refine condM_b (fun hb44 => ?_) (fun hb44 => ?_)
  ·exact H.1 hb44
  have H := H.2 hb44
  refine pop_len s344 _ _ sli62 ?_
  obtain ⟨J8, ⟨n5, h0a⟩, HB3⟩ := H
  refine loop_intro (J := fun (n : Nat) (vs : List Value) (h' : Heap) => ∃ s351 : Int, vs = [(VI s351)] /\ J8 n s351 h' /\ Vars h' [(b8, [s311.v]), (b2, [s69b.v, (VI s69c)]), (b1, [s69.v])]) n5 ⟨0, rfl, h0a, hL45⟩ ?_
  intro I2 mu2 hI2 junk7 tv4 h46 hi9
  obtain ⟨n4, ⟨s351, hv, hJ7, hL46⟩, hn3⟩ := hI2 _ _ hi9
  cases hv
  have H := HB3 n4 s351 h46 hJ7 hL46
  refine pop_lss .i64 s351 (s344.n : Int) ?_
  refine condM_b (fun hb45 => ?_) (fun hb45 => ?_)
  rotate_left
  ·have H := H.2 hb45
   refine pop_len s344 _ _ sli62 ?_
   refine pop_add .i64 n42 (s344.n : Int) ?_
   refine pop_add .i64 s338 1 ?_
   obtain ⟨m_4, hm_4, H⟩ := H
   exact hn2 _ _ ⟨m_4, hm_4, (w64 (n42 + (s344.n : Int))), (w64 (s338 + 1)), rfl, H, hL46⟩
  have H := H.1 hb45
  obtain ⟨hi10, H⟩ := H
  refine pop_index sli62 siz48 .i64 s344 s351 hi10 ?_
  obtain ⟨s355, s355b, hc9, H⟩ := H
  refine rop_agg agg48 [s355.v, (VI s355b)] rfl hc9 ?_
  refine eop_alloc 48 zer48 rfl hL46 (fun b9 h47 hb46 hf15 hL47 => ?_)
  refine ul siz48 hL47 0 0 [s355.v, (VI s355b)] [(b9, [s355.v, (VI s355b)]), (b8, [s311.v]), (b2, [s69b.v, (VI s69c)]), (b1, [s69.v])] (fun h48 hf16 hL48 => ?_)
  refine ra agg26 hL48 1 0 [s311.v] ?_
  refine ra agg48 hL48 0 0 [s355.v, (VI s355b)] ?_
  refine (H b9 h48 hb46 (Fr.new (fo hf15) hb46 hf16) hL48).mono ?_
  rintro _ h49 ⟨s359, s359b, rfl, hL49, H⟩
  refine pop_ext (v := (VB s359)) rfl ?_
  refine pop_ext (v := (VB s359b)) rfl ?_
  refine pop_not s359b ?_
  refine guardM_sf (fun hb47 => ?_) (fun hb47 => ?_)
  rotate_left
  ·have H := H.1 hb47
   refine gm hb47 ?_
   refine pop_pickt' hb47 ?_
   refine gn ?_
   refine gn ?_
   refine gn ?_
   refine gn ?_
   refine pop_pickt _ _ ?_
   refine gn ?_
   refine gn ?_
   refine gn ?_
   refine gn ?_
   refine gn ?_
   refine gn ?_
   refine gn ?_
   refine gn ?_
   refine gn ?_
   refine gn ?_
   refine gn ?_
   refine gn ?_
   refine ⟨⟨_, rfl, fun h => absurd (h.symm.trans rfl) (by decide), fun _ => rfl⟩, ?_⟩
   refine gn ?_
   refine gn ?_
   refine pop_pickt _ _ ?_
   refine condM_t ?_
   exact H
  have H := H.2 hb47
  refine gy hb47 ?_
  refine pop_not s359 ?_
  refine pop_pickf' hb47 ?_
  refine guardM_sf (fun hb48 => ?_) (fun hb48 => ?_)
  rotate_left
  ·have H := H.1 hb48
   refine gm hb48 ?_
   refine gm hb48 ?_
   refine gm hb48 ?_
   refine pop_pickt' hb48 ?_
   refine gn ?_
   refine gn ?_
   refine gn ?_
   refine gn ?_
   refine gn ?_
   refine gn ?_
   refine gn ?_
   refine gn ?_
   refine gn ?_
   refine gn ?_
   refine gn ?_
   refine gn ?_
   refine ⟨⟨_, rfl, fun h => absurd (h.symm.trans hb48) (by decide), fun _ => rfl⟩, ?_⟩
   refine gn ?_
   refine gn ?_
   refine pop_pickt _ _ ?_
   refine condM_t ?_
   exact H
  have H := H.2 hb48
  refine pop_field 1 fld48_1 b9 0 ?_
  refine gy hb48 ?_
  refine rl one3 hL49 0 1 (VI s355b) ?_
  refine gy hb48 ?_
  refine gy hb48 ?_
  refine pop_ine .i64 _ _ s355b s338 ?_
  refine pop_pickf' hb48 ?_
  refine guardM_sf (fun hb49 => ?_) (fun hb49 => ?_)
  rotate_left
  ·have H := H.1 hb49
   refine gm hb49 ?_
   refine gm hb49 ?_
   refine gn ?_
   refine gn ?_
   refine gn ?_
   refine gn ?_
   refine gn ?_
   refine gn ?_
   refine gn ?_
   refine gn ?_
   refine gn ?_
   refine ⟨⟨_, rfl, fun _ => ?_, fun h => absurd hb48 h⟩, ?_⟩
   ·exact still_loc one3 hL49 0 rfl 1 (v := (VI s355b)) rfl
   refine gn ?_
   refine gm hb49 ?_
   refine pop_pickt' hb49 ?_
   refine condM_t ?_
   exact H
  have H := H.2 hb49
  refine gy hb49 ?_
  refine pop_gtr .i64 s351 0 ?_
  refine gy hb49 ?_
  refine guardM_st (fun hb50 => ?_) (fun hb50 => ?_)
  rotate_left
  ·have H := H.2 hb50
   refine gm hb50 ?_
   refine gm hb50 ?_
   refine gm hb50 ?_
   refine gm hb50 ?_
   refine gm hb50 ?_
   refine gm hb50 ?_
   refine gm hb50 ?_
   refine gm hb50 ?_
   refine ⟨⟨_, rfl, fun _ => ?_, fun h => absurd hb48 h⟩, ?_⟩
   ·exact still_loc one3 hL49 0 rfl 1 (v := (VI s355b)) rfl
   refine gm hb50 ?_
   refine gy hb49 ?_
   refine pop_pickf' hb50 ?_
   refine pop_pickf' hb49 ?_
   refine condM_f ?_
   refine pop_add .i64 s351 1 ?_
   obtain ⟨m_3, hm_3, H⟩ := H
   exact hn3 _ _ ⟨m_3, hm_3, (w64 (s351 + 1)), rfl, H, (Vars.tail hL49)⟩
  have H := H.1 hb50
  refine gy hb50 ?_
  refine gy hb50 ?_
  refine pop_sub .i64 s351 1 ?_
  refine gy hb50 ?_
  obtain ⟨hi11, H⟩ := H
  refine pop_index sli62 siz48 .i64 s344 (w64 (s351 - 1)) hi11 ?_
  refine gy hb50 ?_
  refine pop_fieldA 0 fld48_0 (Sl.at s344 (w64 (s351 - 1)) 2) ?_
  refine gy hb50 ?_
  obtain ⟨s383, hc8, H⟩ := H
  refine rop_one one29 s383.v hc8 ?_
  refine gy hb50 ?_
  refine pop_field 0 fld48_0 b9 0 ?_
  refine gy hb50 ?_
  refine rl one29 hL49 0 0 s355.v ?_
  refine gy hb50 ?_
  refine H.mono ?_
  rintro _ h50 ⟨s386, rfl, hL50, H⟩
  refine ⟨⟨_, rfl, fun _ => ?_, fun h => absurd hb48 h⟩, ?_⟩
  ·exact still_loc one3 hL50 0 rfl 1 (v := (VI s355b)) rfl
  refine gy hb50 ?_
  refine pop_not s386 ?_
  refine gy hb49 ?_
  refine pop_pickt' hb50 ?_
  refine pop_pickf' hb49 ?_
  refine condM_b (fun hb51 => ?_) (fun hb51 => ?_)
  ·exact H.1 hb51
  have H := H.2 hb51
  refine pop_add .i64 s351 1 ?_
  obtain ⟨m_2, hm_2, H⟩ := H
  exact hn3 _ _ ⟨m_2, hm_2, (w64 (s351 + 1)), rfl, H, (Vars.tail hL50)⟩
 intro junk8  h51
 rintro ⟨hv, hJ8, hL51⟩
 have H := HB5  h51 hJ8 hL51
 refine H.mono ?_
 rintro _ h52 ⟨s401, s401b, rfl, hL52, H⟩
 refine pop_ext (v := (Value.agg #[s401.v])) rfl ?_
 refine pop_ext (v := (VI s401b)) rfl ?_
 refine eop_alloc 26 zer26 rfl hL52 (fun b10 h53 hb53 hf17 hL53 => ?_)
 refine ul siz26 hL53 0 0 [s401.v] [(b10, [s401.v]), (b8, [s311.v]), (b2, [s69b.v, (VI s69c)]), (b1, [s69.v])] (fun h54 hf18 hL54 => ?_)
 refine ra agg26 hL54 0 0 [s401.v] ?_
 refine (H b10 h54 hb53 (Fr.new (fo hf17) hb53 hf18) hL54).mono ?_
 rintro _ h55 ⟨s407, s407b, rfl, hL55, H⟩
 refine pop_ext (v := s407.v) rfl ?_
 refine pop_ext (v := (VB s407b)) rfl ?_
 refine ra agg26 hL55 0 0 [s401.v] ?_
 refine H.mono ?_
 rintro _ h56 ⟨s413, s413b, rfl, hL56, H⟩
 refine pop_ext (v := s413.v) rfl ?_
 refine pop_ext (v := (VB s413b)) rfl ?_
 refine H.mono ?_
 rintro _ h57 ⟨s418, s418b, s418c, s418d, rfl, hL57, H⟩
 refine pop_ext (v := (Value.agg #[s418.v])) rfl ?_
 refine pop_ext (v := (VI s418b)) rfl ?_
 refine pop_ext (v := s418c.v) rfl ?_
 refine pop_ext (v := (VI s418d)) rfl ?_
 refine eop_alloc 26 zer26 rfl hL57 (fun b11 h58 hb54 hf19 hL58 => ?_)
 refine ul siz26 hL58 0 0 [s418.v] [(b11, [s418.v]), (b10, [s401.v]), (b8, [s311.v]), (b2, [s69b.v, (VI s69c)]), (b1, [s69.v])] (fun h59 hf20 hL59 => ?_)
 refine ra agg26 hL59 0 0 [s418.v] ?_
 refine (H b11 h59 hb54 (Fr.new (fo hf19) hb54 hf20) hL59).mono ?_
 rintro _ h60 ⟨s428, s428b, s428c, rfl, hL60, H⟩
 refine pop_ext (v := (Value.agg #[s428.v, (VI s428b)])) rfl ?_
 refine pop_ext (v := (VB s428c)) rfl ?_
 refine eop_alloc 48 zer48 rfl hL60 (fun b12 h61 hb55 hf21 hL61 => ?_)
 refine ul siz48 hL61 0 0 [s428.v, (VI s428b)] [(b12, [s428.v, (VI s428b)]), (b11, [s418.v]), (b10, [s401.v]), (b8, [s311.v]), (b2, [s69b.v, (VI s69c)]), (b1, [s69.v])] (fun h62 hf22 hL62 => ?_)
 refine ra agg26 hL62 1 0 [s418.v] ?_
 refine (H b12 h62 hb55 (Fr.new (fo hf21) hb55 hf22) hL62).mono ?_
 rintro _ h63 ⟨s436, s436b, s436c, rfl, hL63, H⟩
 refine pop_ext (v := (Value.agg #[s436.v, (VI s436b)])) rfl ?_
 refine pop_ext (v := (VB s436c)) rfl ?_
 refine eop_alloc 48 zer48 rfl hL63 (fun b13 h64 hb56 hf23 hL64 => ?_)
 refine ul siz48 hL64 0 0 [s436.v, (VI s436b)] [(b13, [s436.v, (VI s436b)]), (b12, [s428.v, (VI s428b)]), (b11, [s418.v]), (b10, [s401.v]), (b8, [s311.v]), (b2, [s69b.v, (VI s69c)]), (b1, [s69.v])] (fun h65 hf24 hL65 => ?_)
 refine pop_beq boo4 _ _ s407b s413b ?_
 refine guardM_st (fun hb57 => ?_) (fun hb57 => ?_)
 rotate_left
 ·have H := H.2 hb57
  refine gm hb57 ?_
  refine gm hb57 ?_
  refine pop_pickf' hb57 ?_
  refine gn ?_
  refine gn ?_
  refine gn ?_
  refine pop_pickf _ _ ?_
  refine gn ?_
  refine gn ?_
  refine gn ?_
  refine pop_pickf _ _ ?_
  refine gn ?_
  refine gn ?_
  refine gn ?_
  refine gn ?_
  refine gn ?_
  refine gn ?_
  refine gn ?_
  refine pop_pickf _ _ ?_
  exact H b13 h65 hb56 (Fr.new (fo hf23) hb56 hf24) hL65
 have H := H.1 hb57
 refine gy hb57 ?_
 refine gy hb57 ?_
 refine (H b13 h65 hb56 (Fr.new (fo hf23) hb56 hf24) hL65).mono ?_
 rintro _ h66 ⟨s445, rfl, hL66, H⟩
 refine pop_pickt' hb57 ?_
 refine guardM_st (fun hb58 => ?_) (fun hb58 => ?_)
 rotate_left
 ·have H := H.2 hb58
  refine gm hb58 ?_
  refine gm hb58 ?_
  refine pop_pickf' hb58 ?_
  refine gn ?_
  refine gn ?_
  refine gn ?_
  refine pop_pickf _ _ ?_
  refine gn ?_
  refine gn ?_
  refine gn ?_
  refine gn ?_
  refine gn ?_
  refine gn ?_
  refine gn ?_
  refine pop_pickf _ _ ?_
  exact H
 have H := H.1 hb58
 refine gy hb58 ?_
 refine gy hb58 ?_
 refine pop_beq boo4 _ _ s428c s436c ?_
 refine pop_pickt' hb58 ?_
 refine guardM_st (fun hb59 => ?_) (fun hb59 => ?_)
 rotate_left
 ·have H := H.2 hb59
  refine gm hb59 ?_
  refine gm hb59 ?_
  refine pop_pickf' hb59 ?_
  refine gn ?_
  refine gn ?_
  refine gn ?_
  refine gn ?_
  refine gn ?_
  refine gn ?_
  refine gn ?_
  refine pop_pickf _ _ ?_
  exact H
 have H := H.1 hb59
 refine ra agg48 hL66 1 0 [s428.v, (VI s428b)] ?_
 refine gy hb59 ?_
 refine ra agg48 hL66 0 0 [s436.v, (VI s436b)] ?_
 refine gy hb59 ?_
 refine H.mono ?_
 rintro _ h67 ⟨s455, rfl, hL67, H⟩
 refine pop_pickt' hb59 ?_
 refine guardM_st (fun hb60 => ?_) (fun hb60 => ?_)
 rotate_left
 ·have H := H.2 hb60
  refine gm hb60 ?_
  refine gm hb60 ?_
  refine gn ?_
  refine gn ?_
  refine gn ?_
  refine gm hb60 ?_
  refine pop_pickf' hb60 ?_
  exact H
 have H := H.1 hb60
 refine gy hb60 ?_
 refine pop_not s428c ?_
 refine gy hb60 ?_
 refine guardM_sf (fun hb61 => ?_) (fun hb61 => ?_)
 rotate_left
 ·have H := H.1 hb61
  refine gm hb61 ?_
  refine gm hb61 ?_
  refine gy hb60 ?_
  refine pop_pickt' hb61 ?_
  refine pop_pickt' hb60 ?_
  exact H
 have H := H.2 hb61
 refine ra agg26 hL67 2 0 [s418.v] ?_
 refine gy hb61 ?_
 refine ra agg48 hL67 1 0 [s428.v, (VI s428b)] ?_
 refine gy hb61 ?_
 refine H.mono ?_
 rintro _ h68 ⟨s463, rfl, hL68, H⟩
 refine gy hb60 ?_
 refine pop_pickf' hb61 ?_
 refine pop_pickt' hb60 ?_
 exact H
def u5 (P : Program) (c0 : Sl) (m1 : Sl) (h : Heap) (K : KQ) : Prop :=
 ((decide (1048576 < (c0.n : Int))) = true ->
 K (VB true) h) /\
 ((decide (1048576 < (c0.n : Int))) = false ->
 K (VB (decide ((w64 (1048576 - (c0.n : Int))) < (m1.n : Int)))) h)
theorem v5 (c0 : Sl) (m1 : Sl) (h : Heap) (K : KQ) (H : u5 Tryz.prog c0 m1 h K) : callM Tryz.prog 5 #[c0.v, m1.v] h K := by
 refine c5 c0.v m1.v h K ?_
 unfold u5 at H
 unfold t5
 have hL : Vars h [] := .nil
 refine pop_len c0 _ _ sli22 ?_
 refine pop_gtr .i64 (c0.n : Int) 1048576 ?_
 refine guardM_sf (fun hb1 => ?_) (fun hb1 => ?_)
 rotate_left
 ·have H := H.1 hb1
  refine gm hb1 ?_
  refine gm hb1 ?_
  refine gm hb1 ?_
  refine gm hb1 ?_
  refine gm hb1 ?_
  refine pop_pickt' hb1 ?_
  exact H
 have H := H.2 hb1
 refine gy hb1 ?_
 refine pop_len m1 _ _ sli22 ?_
 refine gy hb1 ?_
 refine gy hb1 ?_
 refine pop_len c0 _ _ sli22 ?_
 refine gy hb1 ?_
 refine pop_sub .i64 1048576 (c0.n : Int) ?_
 refine gy hb1 ?_
 refine pop_gtr .i64 (m1.n : Int) (w64 (1048576 - (c0.n : Int))) ?_
 refine pop_pickf' hb1 ?_
 exact H
def u16 (P : Program) (a0 : Sl) (z1 : Sl) (h : Heap) (K : KQ) : Prop :=
 ((!decide ((a0.n : Int) = (z1.n : Int))) = true ->
 K (VB false) h) /\
 ((!decide ((a0.n : Int) = (z1.n : Int))) = false ->
 ∃ J1 : Nat -> Int -> Heap -> Prop, (∃ n0 : Nat, J1 n0 0 h) /\
 ∀ (n1 : Nat) (s13 : Int) (h1 : Heap), J1 n1 s13 h1 -> Vars h1 [] ->
 ((decide (s13 < (a0.n : Int))) = true ->
 InB a0 s13 /\
 ∃ s19 : Int, hcell h1 (Sl.at a0 s13 1) = some (VI s19) /\
 InB z1 s13 /\
 ∃ s23 : Int, hcell h1 (Sl.at z1 s13 1) = some (VI s23) /\
 ((!decide (s19 = s23)) = true ->
 K (VB false) h1) /\
 ((!decide (s19 = s23)) = false ->
 ∃ m : Nat, m < n1 /\ J1 m (w64 (s13 + 1)) h1)) /\
 ((decide (s13 < (a0.n : Int))) = false ->
 K (VB true) h1))
theorem v16 (a0 : Sl) (z1 : Sl) (h : Heap) (K : KQ) (H : u16 Tryz.prog a0 z1 h K) : callM Tryz.prog 16 #[a0.v, z1.v] h K := by
 refine c16 a0.v z1.v h K ?_
 unfold u16 at H
 unfold t16
 have hL : Vars h [] := .nil
 refine pop_len a0 _ _ sli29 ?_
 refine pop_len z1 _ _ sli29 ?_
 refine pop_ine .i64 _ _ (a0.n : Int) (z1.n : Int) ?_
 refine condM_b (fun hb1 => ?_) (fun hb1 => ?_)
 ·exact H.1 hb1
 have H := H.2 hb1
 refine pop_len a0 _ _ sli29 ?_
 obtain ⟨J1, ⟨n2, h0⟩, HB1⟩ := H
 refine loop_intro (J := fun (n : Nat) (vs : List Value) (h' : Heap) => ∃ s13 : Int, vs = [(VI s13)] /\ J1 n s13 h' /\ Vars h' []) n2 ⟨0, rfl, h0, hL⟩ ?_
 intro I1 mu1 hI1 junk1 tv1 h1 hi1
 obtain ⟨n1, ⟨s13, hv, hJ1, hL1⟩, hn1⟩ := hI1 _ _ hi1
 cases hv
 have H := HB1 n1 s13 h1 hJ1 hL1
 refine pop_lss .i64 s13 (a0.n : Int) ?_
 refine condM_b (fun hb2 => ?_) (fun hb2 => ?_)
 rotate_left
 ·exact H.2 hb2
 have H := H.1 hb2
 obtain ⟨hi2, H⟩ := H
 refine pop_index sli29 siz3 .i64 a0 s13 hi2 ?_
 obtain ⟨s19, hc2, H⟩ := H
 refine rop_one one3 (VI s19) hc2 ?_
 obtain ⟨hi3, H⟩ := H
 refine pop_index sli29 siz3 .i64 z1 s13 hi3 ?_
 obtain ⟨s23, hc1, H⟩ := H
 refine rop_one one3 (VI s23) hc1 ?_
 refine pop_ine .i64 _ _ s19 s23 ?_
 refine condM_b (fun hb3 => ?_) (fun hb3 => ?_)
 ·exact H.1 hb3
 have H := H.2 hb3
 refine pop_add .i64 s13 1 ?_
 obtain ⟨m_1, hm_1, H⟩ := H
 exact hn1 _ _ ⟨m_1, hm_1, (w64 (s13 + 1)), rfl, H, hL1⟩
def u17 (P : Program) (g0 : Sl) (s1 : Int) (z2 : Sl) (h : Heap) (K : KQ) : Prop :=
 ∀ (b1 : Nat) (h1 : Heap), h.size ≤ b1 -> Fr (In []) h h1 -> Vars h1 [(b1, [g0.v])] ->
 callM P 62 #[(.agg #[g0.v]), (VI s1), z2.v] h1 fun r1 h2 => ∃ s11 : Bool, r1 = (VB s11) /\ Vars h2 [(b1, [g0.v])] /\
 ((!s11) = true ->
 K (.tuple #[(VB false), (VB false)]) h2) /\
 ((!s11) = false ->
 callM P 63 #[(.agg #[g0.v]), (VI s1), z2.v] h2 fun r2 h3 => ∃ s16 : Bool, r2 = (VB s16) /\ Vars h3 [(b1, [g0.v])] /\
 K (.tuple #[(VB s16), (VB true)]) h3)
theorem v17 (g0 : Sl) (s1 : Int) (z2 : Sl) (h : Heap) (K : KQ) (H : u17 Tryz.prog g0 s1 z2 h K) : callM Tryz.prog 17 #[(Value.agg #[g0.v]), (VI s1), z2.v] h K := by
 refine c17 (Value.agg #[g0.v]) (VI s1) z2.v h K ?_
 unfold u17 at H
 unfold t17
 have hL : Vars h [] := .nil
 refine eop_box 26 (Value.agg #[g0.v]) rfl hL (fun b1 h1 hb1 hf1 hL1 => ?_)
 refine ra agg26 hL1 0 0 [g0.v] ?_
 refine (H b1 h1 hb1 (fo hf1) hL1).mono ?_
 rintro _ h2 ⟨s11, rfl, hL2, H⟩
 refine pop_not s11 ?_
 refine condM_b (fun hb2 => ?_) (fun hb2 => ?_)
 ·exact H.1 hb2
 have H := H.2 hb2
 refine ra agg26 hL2 0 0 [g0.v] ?_
 refine H.mono ?_
 rintro _ h3 ⟨s16, rfl, hL3, H⟩
 exact H
def u26 (P : Program) (c0 : Sl) (h : Heap) (K : KQ) : Prop :=
 ∀ (b1 : Nat) (b2 : Nat) (h2 : Heap), h.size ≤ b1 -> h.size ≤ b2 -> Fr (In []) h h2 -> Vars h2 [(b2, [nilSl.v, (VI 0)]), (b1, [nilSl.v])] ->
 callM P 73 #[c0.v] h2 fun r1 h3 => ∃ s5 : Sl, ∃ s5b : Sl, ∃ s5c : Int, r1 = (.tuple #[(.agg #[s5.v]), (.agg #[s5b.v, (VI s5c)])]) /\ Vars h3 [(b2, [nilSl.v, (VI 0)]), (b1, [nilSl.v])] /\
 ∀ (h5 : Heap), Fr (In [b2, b1]) h3 h5 -> Vars h5 [(b2, [s5b.v, (VI s5c)]), (b1, [s5.v])] ->
 K (.tuple #[(.agg #[s5.v]), (.agg #[s5b.v, (VI s5c)])]) h5
theorem v26 (c0 : Sl) (h : Heap) (K : KQ) (H : u26 Tryz.prog c0 h K) : callM Tryz.prog 26 #[c0.v] h K := by
 refine c26 c0.v h K ?_
 unfold u26 at H
 unfold t26
 have hL : Vars h [] := .nil
 refine eop_alloc 26 zer26 rfl hL (fun b1 h1 hb1 hf1 hL1 => ?_)
 refine eop_alloc 48 zer48 rfl hL1 (fun b2 h2 hb2 hf2 hL2 => ?_)
 refine (H b1 b2 h2 hb1 (Nat.le_trans (Fr.size (fo hf1)) hb2) (Fr.no' (fo hf1) hf2) hL2).mono ?_
 rintro _ h3 ⟨s5, s5b, s5c, rfl, hL3, H⟩
 refine pop_ext (v := (Value.agg #[s5.v])) rfl ?_
 refine pop_ext (v := (Value.agg #[s5b.v, (VI s5c)])) rfl ?_
 refine ul siz26 hL3 1 0 [s5.v] [(b2, [nilSl.v, (VI 0)]), (b1, [s5.v])] (fun h4 hf3 hL4 => ?_)
 refine ul siz48 hL4 0 0 [s5b.v, (VI s5c)] [(b2, [s5b.v, (VI s5c)]), (b1, [s5.v])] (fun h5 hf4 hL5 => ?_)
 refine ra agg26 hL5 1 0 [s5.v] ?_
 refine ra agg48 hL5 0 0 [s5b.v, (VI s5c)] ?_
 exact H  h5  (Fr.old (fq hf3) hf4) hL5
def u27 (P : Program) (g0 : Sl) (w1 : Sl) (w1a : Int) (h : Heap) (K : KQ) : Prop :=
 ∀ (b1 : Nat) (b2 : Nat) (h2 : Heap), h.size ≤ b1 -> h.size ≤ b2 -> Fr (In []) h h2 -> Vars h2 [(b2, [w1.v, (VI w1a)]), (b1, [g0.v])] ->
 callM P 74 #[(.agg #[g0.v]), (.agg #[w1.v, (VI w1a)])] h2 fun r1 h3 => ∃ s8 : Bool, r1 = (VB s8) /\ Vars h3 [(b2, [w1.v, (VI w1a)]), (b1, [g0.v])] /\
 ((!s8) = true ->
 K (.tuple #[(VB false), (VB false)]) h3) /\
 ((!s8) = false ->
 callM P 75 #[(.agg #[g0.v]), (.agg #[w1.v, (VI w1a)])] h3 fun r2 h4 => ∃ s12 : Bool, r2 = (VB s12) /\ Vars h4 [(b2, [w1.v, (VI w1a)]), (b1, [g0.v])] /\
 K (.tuple #[(VB s12), (VB true)]) h4)
theorem v27 (g0 : Sl) (w1 : Sl) (w1a : Int) (h : Heap) (K : KQ) (H : u27 Tryz.prog g0 w1 w1a h K) : callM Tryz.prog 27 #[(Value.agg #[g0.v]), (Value.agg #[w1.v, (VI w1a)])] h K := by
 refine c27 (Value.agg #[g0.v]) (Value.agg #[w1.v, (VI w1a)]) h K ?_
 unfold u27 at H
 unfold t27
 have hL : Vars h [] := .nil
 refine eop_box 26 (Value.agg #[g0.v]) rfl hL (fun b1 h1 hb1 hf1 hL1 => ?_)
 refine eop_box 48 (Value.agg #[w1.v, (VI w1a)]) rfl hL1 (fun b2 h2 hb2 hf2 hL2 => ?_)
 refine ra agg26 hL2 1 0 [g0.v] ?_
 refine ra agg48 hL2 0 0 [w1.v, (VI w1a)] ?_
 refine (H b1 b2 h2 hb1 (Nat.le_trans (Fr.size (fo hf1)) hb2) (Fr.no' (fo hf1) hf2) hL2).mono ?_
 rintro _ h3 ⟨s8, rfl, hL3, H⟩
 refine pop_not s8 ?_
 refine condM_b (fun hb3 => ?_) (fun hb3 => ?_)
 ·exact H.1 hb3
 have H := H.2 hb3
 refine ra agg26 hL3 1 0 [g0.v] ?_
 refine ra agg48 hL3 0 0 [w1.v, (VI w1a)] ?_
 refine H.mono ?_
 rintro _ h4 ⟨s12, rfl, hL4, H⟩
 exact H
def u28 (P : Program) (g0 : Sl) (w1 : Sl) (w1a : Int) (h : Heap) (K : KQ) : Prop :=
 ∀ (b1 : Nat) (b2 : Nat) (h2 : Heap), h.size ≤ b1 -> h.size ≤ b2 -> Fr (In []) h h2 -> Vars h2 [(b2, [w1.v, (VI w1a)]), (b1, [g0.v])] ->
 callM P 76 #[(.agg #[g0.v]), (.agg #[w1.v, (VI w1a)])] h2 fun r1 h3 => ∃ s8 : Bool, r1 = (VB s8) /\ Vars h3 [(b2, [w1.v, (VI w1a)]), (b1, [g0.v])] /\
 ((!s8) = true ->
 K (.tuple #[(VB false), (VB false)]) h3) /\
 ((!s8) = false ->
 callM P 77 #[(.agg #[g0.v]), (.agg #[w1.v, (VI w1a)])] h3 fun r2 h4 => ∃ s12 : Bool, r2 = (VB s12) /\ Vars h4 [(b2, [w1.v, (VI w1a)]), (b1, [g0.v])] /\
 K (.tuple #[(VB s12), (VB true)]) h4)
theorem v28 (g0 : Sl) (w1 : Sl) (w1a : Int) (h : Heap) (K : KQ) (H : u28 Tryz.prog g0 w1 w1a h K) : callM Tryz.prog 28 #[(Value.agg #[g0.v]), (Value.agg #[w1.v, (VI w1a)])] h K := by
 refine c28 (Value.agg #[g0.v]) (Value.agg #[w1.v, (VI w1a)]) h K ?_
 unfold u28 at H
 unfold t28
 have hL : Vars h [] := .nil
 refine eop_box 26 (Value.agg #[g0.v]) rfl hL (fun b1 h1 hb1 hf1 hL1 => ?_)
 refine eop_box 48 (Value.agg #[w1.v, (VI w1a)]) rfl hL1 (fun b2 h2 hb2 hf2 hL2 => ?_)
 refine ra agg26 hL2 1 0 [g0.v] ?_
 refine ra agg48 hL2 0 0 [w1.v, (VI w1a)] ?_
 refine (H b1 b2 h2 hb1 (Nat.le_trans (Fr.size (fo hf1)) hb2) (Fr.no' (fo hf1) hf2) hL2).mono ?_
 rintro _ h3 ⟨s8, rfl, hL3, H⟩
 refine pop_not s8 ?_
 refine condM_b (fun hb3 => ?_) (fun hb3 => ?_)
 ·exact H.1 hb3
 have H := H.2 hb3
 refine ra agg26 hL3 1 0 [g0.v] ?_
 refine ra agg48 hL3 0 0 [w1.v, (VI w1a)] ?_
 refine H.mono ?_
 rintro _ h4 ⟨s12, rfl, hL4, H⟩
 exact H
def u29 (P : Program) (g0 : Sl) (w1 : Sl) (w1a : Int) (h : Heap) (K : KQ) : Prop :=
 ∀ (b1 : Nat) (b2 : Nat) (h2 : Heap), h.size ≤ b1 -> h.size ≤ b2 -> Fr (In []) h h2 -> Vars h2 [(b2, [w1.v, (VI w1a)]), (b1, [g0.v])] ->
 callM P 74 #[(.agg #[g0.v]), (.agg #[w1.v, (VI w1a)])] h2 fun r1 h3 => ∃ s9 : Bool, r1 = (VB s9) /\ Vars h3 [(b2, [w1.v, (VI w1a)]), (b1, [g0.v])] /\
 ((!s9) = true ->
 K (.tuple #[nilSl.v, (VB false)]) h3) /\
 ((!s9) = false ->
 callM P 75 #[(.agg #[g0.v]), (.agg #[w1.v, (VI w1a)])] h3 fun r2 h4 => ∃ s14 : Bool, r2 = (VB s14) /\ Vars h4 [(b2, [w1.v, (VI w1a)]), (b1, [g0.v])] /\
 ((!s14) = true ->
 K (.tuple #[nilSl.v, (VB false)]) h4) /\
 ((!s14) = false ->
 callM P 78 #[w1.v] h4 fun r3 h5 => ∃ s19 : Sl, r3 = s19.v /\ Vars h5 [(b2, [w1.v, (VI w1a)]), (b1, [g0.v])] /\
 InB s19 w1a /\
 Writable h5 (Sl.at s19 w1a 1) /\ Vars (hset h5 (Sl.at s19 w1a 1) (VI 0)) [(b2, [w1.v, (VI w1a)]), (b1, [g0.v])] /\
 ∀ h6 : Heap, h6 = hset h5 (Sl.at s19 w1a 1) (VI 0) -> Vars h6 [(b2, [w1.v, (VI w1a)]), (b1, [g0.v])] ->
 K (.tuple #[s19.v, (VB true)]) h6))
theorem v29 (g0 : Sl) (w1 : Sl) (w1a : Int) (h : Heap) (K : KQ) (H : u29 Tryz.prog g0 w1 w1a h K) : callM Tryz.prog 29 #[(Value.agg #[g0.v]), (Value.agg #[w1.v, (VI w1a)])] h K := by
 refine c29 (Value.agg #[g0.v]) (Value.agg #[w1.v, (VI w1a)]) h K ?_
 unfold u29 at H
 unfold t29
 have hL : Vars h [] := .nil
 refine eop_box 26 (Value.agg #[g0.v]) rfl hL (fun b1 h1 hb1 hf1 hL1 => ?_)
 refine eop_box 48 (Value.agg #[w1.v, (VI w1a)]) rfl hL1 (fun b2 h2 hb2 hf2 hL2 => ?_)
 refine ra agg26 hL2 1 0 [g0.v] ?_
 refine ra agg48 hL2 0 0 [w1.v, (VI w1a)] ?_
 refine (H b1 b2 h2 hb1 (Nat.le_trans (Fr.size (fo hf1)) hb2) (Fr.no' (fo hf1) hf2) hL2).mono ?_
 rintro _ h3 ⟨s9, rfl, hL3, H⟩
 refine pop_not s9 ?_
 refine guardM_sf (fun hb3 => ?_) (fun hb3 => ?_)
 rotate_left
 ·have H := H.1 hb3
  refine gm hb3 ?_
  refine gm hb3 ?_
  refine gm hb3 ?_
  refine pop_pickt' hb3 ?_
  refine condM_t ?_
  exact H
 have H := H.2 hb3
 refine ra agg26 hL3 1 0 [g0.v] ?_
 refine gy hb3 ?_
 refine ra agg48 hL3 0 0 [w1.v, (VI w1a)] ?_
 refine gy hb3 ?_
 refine H.mono ?_
 rintro _ h4 ⟨s14, rfl, hL4, H⟩
 refine gy hb3 ?_
 refine pop_not s14 ?_
 refine pop_pickf' hb3 ?_
 refine condM_b (fun hb4 => ?_) (fun hb4 => ?_)
 ·exact H.1 hb4
 have H := H.2 hb4
 refine pop_field 0 fld48_0 b2 0 ?_
 refine rl one29 hL4 0 0 w1.v ?_
 refine H.mono ?_
 rintro _ h5 ⟨s19, rfl, hL5, H⟩
 refine pop_field 1 fld48_1 b2 0 ?_
 refine rl one3 hL5 0 1 (VI w1a) ?_
 obtain ⟨hi1, H⟩ := H
 refine pop_index sli29 siz3 .i64 s19 w1a hi1 ?_
 obtain ⟨hw_1, hL6, H⟩ := H
 refine uop_cell (v := (VI 0)) siz3 hw_1 rfl (fun h6 he_1 => ?_)
 rw [← he_1] at hL6
 exact H h6 he_1 hL6
def u30 (P : Program) (g0 : Sl) (w1 : Sl) (w1a : Int) (h : Heap) (K : KQ) : Prop :=
 ∀ (b1 : Nat) (b2 : Nat) (h2 : Heap), h.size ≤ b1 -> h.size ≤ b2 -> Fr (In []) h h2 -> Vars h2 [(b2, [w1.v, (VI w1a)]), (b1, [g0.v])] ->
 callM P 76 #[(.agg #[g0.v]), (.agg #[w1.v, (VI w1a)])] h2 fun r1 h3 => ∃ s9 : Bool, r1 = (VB s9) /\ Vars h3 [(b2, [w1.v, (VI w1a)]), (b1, [g0.v])] /\
 ((!s9) = true ->
 K (.tuple #[nilSl.v, (VB false)]) h3) /\
 ((!s9) = false ->
 callM P 77 #[(.agg #[g0.v]), (.agg #[w1.v, (VI w1a)])] h3 fun r2 h4 => ∃ s14 : Bool, r2 = (VB s14) /\ Vars h4 [(b2, [w1.v, (VI w1a)]), (b1, [g0.v])] /\
 ((!s14) = true ->
 K (.tuple #[nilSl.v, (VB false)]) h4) /\
 ((!s14) = false ->
 callM P 79 #[w1.v] h4 fun r3 h5 => ∃ s19 : Sl, r3 = s19.v /\ Vars h5 [(b2, [w1.v, (VI w1a)]), (b1, [g0.v])] /\
 InB s19 w1a /\
 Writable h5 (Sl.at s19 w1a 1) /\ Vars (hset h5 (Sl.at s19 w1a 1) (VI 0)) [(b2, [w1.v, (VI w1a)]), (b1, [g0.v])] /\
 ∀ h6 : Heap, h6 = hset h5 (Sl.at s19 w1a 1) (VI 0) -> Vars h6 [(b2, [w1.v, (VI w1a)]), (b1, [g0.v])] ->
 K (.tuple #[s19.v, (VB true)]) h6))
theorem v30 (g0 : Sl) (w1 : Sl) (w1a : Int) (h : Heap) (K : KQ) (H : u30 Tryz.prog g0 w1 w1a h K) : callM Tryz.prog 30 #[(Value.agg #[g0.v]), (Value.agg #[w1.v, (VI w1a)])] h K := by
 refine c30 (Value.agg #[g0.v]) (Value.agg #[w1.v, (VI w1a)]) h K ?_
 unfold u30 at H
 unfold t30
 have hL : Vars h [] := .nil
 refine eop_box 26 (Value.agg #[g0.v]) rfl hL (fun b1 h1 hb1 hf1 hL1 => ?_)
 refine eop_box 48 (Value.agg #[w1.v, (VI w1a)]) rfl hL1 (fun b2 h2 hb2 hf2 hL2 => ?_)
 refine ra agg26 hL2 1 0 [g0.v] ?_
 refine ra agg48 hL2 0 0 [w1.v, (VI w1a)] ?_
 refine (H b1 b2 h2 hb1 (Nat.le_trans (Fr.size (fo hf1)) hb2) (Fr.no' (fo hf1) hf2) hL2).mono ?_
 rintro _ h3 ⟨s9, rfl, hL3, H⟩
 refine pop_not s9 ?_
 refine guardM_sf (fun hb3 => ?_) (fun hb3 => ?_)
 rotate_left
 ·have H := H.1 hb3
  refine gm hb3 ?_
  refine gm hb3 ?_
  refine gm hb3 ?_
  refine pop_pickt' hb3 ?_
  refine condM_t ?_
  exact H
 have H := H.2 hb3
 refine ra agg26 hL3 1 0 [g0.v] ?_
 refine gy hb3 ?_
 refine ra agg48 hL3 0 0 [w1.v, (VI w1a)] ?_
 refine gy hb3 ?_
 refine H.mono ?_
 rintro _ h4 ⟨s14, rfl, hL4, H⟩
 refine gy hb3 ?_
 refine pop_not s14 ?_
 refine pop_pickf' hb3 ?_
 refine condM_b (fun hb4 => ?_) (fun hb4 => ?_)
 ·exact H.1 hb4
 have H := H.2 hb4
 refine pop_field 0 fld48_0 b2 0 ?_
 refine rl one29 hL4 0 0 w1.v ?_
 refine H.mono ?_
 rintro _ h5 ⟨s19, rfl, hL5, H⟩
 refine pop_field 1 fld48_1 b2 0 ?_
 refine rl one3 hL5 0 1 (VI w1a) ?_
 obtain ⟨hi1, H⟩ := H
 refine pop_index sli29 siz3 .i64 s19 w1a hi1 ?_
 obtain ⟨hw_1, hL6, H⟩ := H
 refine uop_cell (v := (VI 0)) siz3 hw_1 rfl (fun h6 he_1 => ?_)
 rw [← he_1] at hL6
 exact H h6 he_1 hL6
def u31 (P : Program) (g0 : Sl) (w1 : Sl) (w1a : Int) (h : Heap) (K : KQ) : Prop :=
 ∀ (b1 : Nat) (b2 : Nat) (h2 : Heap), h.size ≤ b1 -> h.size ≤ b2 -> Fr (In []) h h2 -> Vars h2 [(b2, [w1.v, (VI w1a)]), (b1, [g0.v])] ->
 callM P 74 #[(.agg #[g0.v]), (.agg #[w1.v, (VI w1a)])] h2 fun r1 h3 => ∃ s8 : Bool, r1 = (VB s8) /\ Vars h3 [(b2, [w1.v, (VI w1a)]), (b1, [g0.v])] /\
 ((!s8) = true ->
 K (.tuple #[nilSl.v, (VB false)]) h3) /\
 ((!s8) = false ->
 callM P 80 #[(.agg #[g0.v]), w1.v, (VI w1a)] h3 fun r2 h4 => ∃ s15 : Sl, ∃ s15b : Bool, r2 = (.tuple #[s15.v, (VB s15b)]) /\ Vars h4 [(b2, [w1.v, (VI w1a)]), (b1, [g0.v])] /\
 K (.tuple #[s15.v, (VB s15b)]) h4)
theorem v31 (g0 : Sl) (w1 : Sl) (w1a : Int) (h : Heap) (K : KQ) (H : u31 Tryz.prog g0 w1 w1a h K) : callM Tryz.prog 31 #[(Value.agg #[g0.v]), (Value.agg #[w1.v, (VI w1a)])] h K := by
 refine c31 (Value.agg #[g0.v]) (Value.agg #[w1.v, (VI w1a)]) h K ?_
 unfold u31 at H
 unfold t31
 have hL : Vars h [] := .nil
 refine eop_box 26 (Value.agg #[g0.v]) rfl hL (fun b1 h1 hb1 hf1 hL1 => ?_)
 refine eop_box 48 (Value.agg #[w1.v, (VI w1a)]) rfl hL1 (fun b2 h2 hb2 hf2 hL2 => ?_)
 refine ra agg26 hL2 1 0 [g0.v] ?_
 refine ra agg48 hL2 0 0 [w1.v, (VI w1a)] ?_
 refine (H b1 b2 h2 hb1 (Nat.le_trans (Fr.size (fo hf1)) hb2) (Fr.no' (fo hf1) hf2) hL2).mono ?_
 rintro _ h3 ⟨s8, rfl, hL3, H⟩
 refine pop_not s8 ?_
 refine condM_b (fun hb3 => ?_) (fun hb3 => ?_)
 ·exact H.1 hb3
 have H := H.2 hb3
 refine ra agg26 hL3 1 0 [g0.v] ?_
 refine pop_field 0 fld48_0 b2 0 ?_
 refine rl one29 hL3 0 0 w1.v ?_
 refine pop_field 1 fld48_1 b2 0 ?_
 refine rl one3 hL3 0 1 (VI w1a) ?_
 refine H.mono ?_
 rintro _ h4 ⟨s15, s15b, rfl, hL4, H⟩
 refine pop_ext (v := s15.v) rfl ?_
 refine pop_ext (v := (VB s15b)) rfl ?_
 exact H
def u32 (P : Program) (g0 : Sl) (w1 : Sl) (w1a : Int) (h : Heap) (K : KQ) : Prop :=
 ∀ (b1 : Nat) (b2 : Nat) (h2 : Heap), h.size ≤ b1 -> h.size ≤ b2 -> Fr (In []) h h2 -> Vars h2 [(b2, [w1.v, (VI w1a)]), (b1, [g0.v])] ->
 callM P 76 #[(.agg #[g0.v]), (.agg #[w1.v, (VI w1a)])] h2 fun r1 h3 => ∃ s8 : Bool, r1 = (VB s8) /\ Vars h3 [(b2, [w1.v, (VI w1a)]), (b1, [g0.v])] /\
 ((!s8) = true ->
 K (.tuple #[nilSl.v, (VB false)]) h3) /\
 ((!s8) = false ->
 callM P 81 #[(.agg #[g0.v]), (.agg #[w1.v, (VI w1a)])] h3 fun r2 h4 => ∃ s12 : Sl, ∃ s12b : Bool, r2 = (.tuple #[s12.v, (VB s12b)]) /\ Vars h4 [(b2, [w1.v, (VI w1a)]), (b1, [g0.v])] /\
 K (.tuple #[s12.v, (VB s12b)]) h4)
theorem v32 (g0 : Sl) (w1 : Sl) (w1a : Int) (h : Heap) (K : KQ) (H : u32 Tryz.prog g0 w1 w1a h K) : callM Tryz.prog 32 #[(Value.agg #[g0.v]), (Value.agg #[w1.v, (VI w1a)])] h K := by
 refine c32 (Value.agg #[g0.v]) (Value.agg #[w1.v, (VI w1a)]) h K ?_
 unfold u32 at H
 unfold t32
 have hL : Vars h [] := .nil
 refine eop_box 26 (Value.agg #[g0.v]) rfl hL (fun b1 h1 hb1 hf1 hL1 => ?_)
 refine eop_box 48 (Value.agg #[w1.v, (VI w1a)]) rfl hL1 (fun b2 h2 hb2 hf2 hL2 => ?_)
 refine ra agg26 hL2 1 0 [g0.v] ?_
 refine ra agg48 hL2 0 0 [w1.v, (VI w1a)] ?_
 refine (H b1 b2 h2 hb1 (Nat.le_trans (Fr.size (fo hf1)) hb2) (Fr.no' (fo hf1) hf2) hL2).mono ?_
 rintro _ h3 ⟨s8, rfl, hL3, H⟩
 refine pop_not s8 ?_
 refine condM_b (fun hb3 => ?_) (fun hb3 => ?_)
 ·exact H.1 hb3
 have H := H.2 hb3
 refine ra agg26 hL3 1 0 [g0.v] ?_
 refine ra agg48 hL3 0 0 [w1.v, (VI w1a)] ?_
 refine H.mono ?_
 rintro _ h4 ⟨s12, s12b, rfl, hL4, H⟩
 refine pop_ext (v := s12.v) rfl ?_
 refine pop_ext (v := (VB s12b)) rfl ?_
 exact H
def u33 (P : Program) (g0 : Sl) (w1 : Sl) (w1a : Int) (h : Heap) (K : KQ) : Prop :=
 ∀ (b1 : Nat) (b2 : Nat) (h2 : Heap), h.size ≤ b1 -> h.size ≤ b2 -> Fr (In []) h h2 -> Vars h2 [(b2, [w1.v, (VI w1a)]), (b1, [g0.v])] ->
 callM P 74 #[(.agg #[g0.v]), (.agg #[w1.v, (VI w1a)])] h2 fun r1 h3 => ∃ s8 : Bool, r1 = (VB s8) /\ Vars h3 [(b2, [w1.v, (VI w1a)]), (b1, [g0.v])] /\
 ((!s8) = true ->
 K (.tuple #[(VI 0), (VB false)]) h3) /\
 ((!s8) = false ->
 callM P 82 #[(.agg #[g0.v]), (.agg #[w1.v, (VI w1a)]), (VI 0), (Value.func (Fn.func 75) #[(.agg #[g0.v])] #[])] h3 fun r2 h4 => ∃ s14 : Int, ∃ s14b : Bool, r2 = (.tuple #[(VI s14), (VB s14b)]) /\ Vars h4 [(b2, [w1.v, (VI w1a)]), (b1, [g0.v])] /\
 K (.tuple #[(VI s14), (VB s14b)]) h4)
theorem v33 (g0 : Sl) (w1 : Sl) (w1a : Int) (h : Heap) (K : KQ) (H : u33 Tryz.prog g0 w1 w1a h K) : callM Tryz.prog 33 #[(Value.agg #[g0.v]), (Value.agg #[w1.v, (VI w1a)])] h K := by
 refine c33 (Value.agg #[g0.v]) (Value.agg #[w1.v, (VI w1a)]) h K ?_
 unfold u33 at H
 unfold t33
 have hL : Vars h [] := .nil
 refine eop_box 26 (Value.agg #[g0.v]) rfl hL (fun b1 h1 hb1 hf1 hL1 => ?_)
 refine eop_box 48 (Value.agg #[w1.v, (VI w1a)]) rfl hL1 (fun b2 h2 hb2 hf2 hL2 => ?_)
 refine ra agg26 hL2 1 0 [g0.v] ?_
 refine ra agg48 hL2 0 0 [w1.v, (VI w1a)] ?_
 refine (H b1 b2 h2 hb1 (Nat.le_trans (Fr.size (fo hf1)) hb2) (Fr.no' (fo hf1) hf2) hL2).mono ?_
 rintro _ h3 ⟨s8, rfl, hL3, H⟩
 refine pop_not s8 ?_
 refine condM_b (fun hb3 => ?_) (fun hb3 => ?_)
 ·exact H.1 hb3
 have H := H.2 hb3
 refine ra agg26 hL3 1 0 [g0.v] ?_
 refine ra agg48 hL3 0 0 [w1.v, (VI w1a)] ?_
 refine ra agg26 hL3 1 0 [g0.v] ?_
 refine pop_func _ _ _ ?_
 refine H.mono ?_
 rintro _ h4 ⟨s14, s14b, rfl, hL4, H⟩
 refine pop_ext (v := (VI s14)) rfl ?_
 refine pop_ext (v := (VB s14b)) rfl ?_
 exact H
def u34 (P : Program) (g0 : Sl) (w1 : Sl) (w1a : Int) (h : Heap) (K : KQ) : Prop :=
 ∀ (b1 : Nat) (b2 : Nat) (h2 : Heap), h.size ≤ b1 -> h.size ≤ b2 -> Fr (In []) h h2 -> Vars h2 [(b2, [w1.v, (VI w1a)]), (b1, [g0.v])] ->
 callM P 76 #[(.agg #[g0.v]), (.agg #[w1.v, (VI w1a)])] h2 fun r1 h3 => ∃ s11 : Bool, r1 = (VB s11) /\ Vars h3 [(b2, [w1.v, (VI w1a)]), (b1, [g0.v])] /\
 ((!s11) = true ->
 K (.tuple #[(VI 0), (VB false)]) h3) /\
 ((!s11) = false ->
 ∃ J1 : Nat -> Int -> Sl -> Int -> Heap -> Prop, (∃ n0 : Nat, J1 n0 0 w1 w1a h3) /\
 ∀ (n1 : Nat) (z6 : Int) (y1 : Sl) (y2 : Int) (h4 : Heap), J1 n1 z6 y1 y2 h4 -> Vars h4 [(b2, [y1.v, (VI y2)]), (b1, [g0.v])] ->
 ((decide (z6 ≤ 2000)) = true ->
 callM P 77 #[(.agg #[g0.v]), (.agg #[y1.v, (VI y2)])] h4 fun r2 h5 => ∃ s19 : Bool, r2 = (VB s19) /\ Vars h5 [(b2, [y1.v, (VI y2)]), (b1, [g0.v])] /\
 (s19 = true ->
 K (.tuple #[(VI z6), (VB true)]) h5) /\
 (s19 = false ->
 callM P 83 #[(.agg #[g0.v]), (.agg #[y1.v, (VI y2)])] h5 fun r3 h6 => ∃ s24 : Sl, ∃ s24b : Int, ∃ s24c : Bool, r3 = (.tuple #[(.agg #[s24.v, (VI s24b)]), (VB s24c)]) /\ Vars h6 [(b2, [y1.v, (VI y2)]), (b1, [g0.v])] /\
 ((!s24c) = true ->
 ∀ (b3 : Nat) (h8 : Heap), h6.size ≤ b3 -> Fr (In []) h6 h8 -> Vars h8 [(b3, [s24.v, (VI s24b)]), (b2, [y1.v, (VI y2)]), (b1, [g0.v])] ->
 K (.tuple #[(VI 0), (VB false)]) h8) /\
 ((!s24c) = false ->
 ∀ (b3 : Nat) (h9 : Heap), h6.size ≤ b3 -> Fr (In [b2]) h6 h9 -> Vars h9 [(b3, [s24.v, (VI s24b)]), (b2, [s24.v, (VI s24b)]), (b1, [g0.v])] ->
 ∃ m : Nat, m < n1 /\ J1 m (w64 (z6 + 1)) s24 s24b h9))) /\
 ((decide (z6 ≤ 2000)) = false ->
 K (.tuple #[(VI 0), (VB false)]) h4))
theorem v34 (g0 : Sl) (w1 : Sl) (w1a : Int) (h : Heap) (K : KQ) (H : u34 Tryz.prog g0 w1 w1a h K) : callM Tryz.prog 34 #[(Value.agg #[g0.v]), (Value.agg #[w1.v, (VI w1a)])] h K := by
 refine c34 (Value.agg #[g0.v]) (Value.agg #[w1.v, (VI w1a)]) h K ?_
 unfold u34 at H
 unfold t34
 have hL : Vars h [] := .nil
 refine eop_box 26 (Value.agg #[g0.v]) rfl hL (fun b1 h1 hb1 hf1 hL1 => ?_)
 refine eop_box 48 (Value.agg #[w1.v, (VI w1a)]) rfl hL1 (fun b2 h2 hb2 hf2 hL2 => ?_)
 refine ra agg26 hL2 1 0 [g0.v] ?_
 refine ra agg48 hL2 0 0 [w1.v, (VI w1a)] ?_
 refine (H b1 b2 h2 hb1 (Nat.le_trans (Fr.size (fo hf1)) hb2) (Fr.no' (fo hf1) hf2) hL2).mono ?_
 rintro _ h3 ⟨s11, rfl, hL3, H⟩
 refine pop_not s11 ?_
 refine condM_b (fun hb3 => ?_) (fun hb3 => ?_)
 ·exact H.1 hb3
 have H := H.2 hb3
 obtain ⟨J1, ⟨n2, h0⟩, HB1⟩ := H
 refine loop_intro (J := fun (n : Nat) (vs : List Value) (h' : Heap) => ∃ z6 : Int, ∃ y1 : Sl, ∃ y2 : Int, vs = [(VI z6)] /\ J1 n z6 y1 y2 h' /\ Vars h' [(b2, [y1.v, (VI y2)]), (b1, [g0.v])]) n2 ⟨0, w1, w1a, rfl, h0, hL3⟩ ?_
 intro I1 mu1 hI1 junk1 tv1 h4 hi1
 obtain ⟨n1, ⟨z6, y1, y2, hv, hJ1, hL4⟩, hn1⟩ := hI1 _ _ hi1
 cases hv
 have H := HB1 n1 z6 y1 y2 h4 hJ1 hL4
 refine pop_leq .i64 z6 2000 ?_
 refine condM_b (fun hb4 => ?_) (fun hb4 => ?_)
 rotate_left
 ·exact H.2 hb4
 have H := H.1 hb4
 refine ra agg26 hL4 1 0 [g0.v] ?_
 refine ra agg48 hL4 0 0 [y1.v, (VI y2)] ?_
 refine H.mono ?_
 rintro _ h5 ⟨s19, rfl, hL5, H⟩
 refine condM_b (fun hb5 => ?_) (fun hb5 => ?_)
 ·exact H.1 hb5
 have H := H.2 hb5
 refine ra agg26 hL5 1 0 [g0.v] ?_
 refine ra agg48 hL5 0 0 [y1.v, (VI y2)] ?_
 refine H.mono ?_
 rintro _ h6 ⟨s24, s24b, s24c, rfl, hL6, H⟩
 refine pop_ext (v := (Value.agg #[s24.v, (VI s24b)])) rfl ?_
 refine pop_ext (v := (VB s24c)) rfl ?_
 refine eop_alloc 48 zer48 rfl hL6 (fun b3 h7 hb6 hf3 hL7 => ?_)
 refine ul siz48 hL7 0 0 [s24.v, (VI s24b)] [(b3, [s24.v, (VI s24b)]), (b2, [y1.v, (VI y2)]), (b1, [g0.v])] (fun h8 hf4 hL8 => ?_)
 refine pop_not s24c ?_
 refine condM_b (fun hb7 => ?_) (fun hb7 => ?_)
 ·have H := H.1 hb7
  exact H b3 h8 hb6 (Fr.new (fo hf3) hb6 hf4) hL8
 have H := H.2 hb7
 refine ra agg48 hL8 0 0 [s24.v, (VI s24b)] ?_
 refine ul siz48 hL8 1 0 [s24.v, (VI s24b)] [(b3, [s24.v, (VI s24b)]), (b2, [s24.v, (VI s24b)]), (b1, [g0.v])] (fun h9 hf5 hL9 => ?_)
 refine pop_add .i64 z6 1 ?_
 have H := H b3 h9 hb6 (Fr.old (Fr.new (fo hf3) hb6 hf4) hf5) hL9
 obtain ⟨m_1, hm_1, H⟩ := H
 exact hn1 _ _ ⟨m_1, hm_1, (w64 (z6 + 1)), s24, s24b, rfl, H, (Vars.tail hL9)⟩
def u35 (P : Program) (g0 : Sl) (s1 : Int) (z2 : Sl) (k3 : Int) (h : Heap) (K : KQ) : Prop :=
 ∀ (b1 : Nat) (b2 : Nat) (h2 : Heap), h.size ≤ b1 -> h.size ≤ b2 -> Fr (In []) h h2 -> Vars h2 [(b2, [nilSl.v, (VI 0)]), (b1, [g0.v])] ->
 callM P 62 #[(.agg #[g0.v]), (VI s1), z2.v] h2 fun r1 h3 => ∃ s14 : Bool, r1 = (VB s14) /\ Vars h3 [(b2, [nilSl.v, (VI 0)]), (b1, [g0.v])] /\
 ((!s14) = true ->
 ∀ (h13 : Heap), Fr (In [b2]) h3 h13 -> Vars h13 [(b2, [nilSl.v, (VI 0)]), (b1, [g0.v])] ->
 K (.tuple #[(.agg #[nilSl.v, (VI 0)]), (VB false)]) h13) /\
 ((!s14) = false ->
 callM P 63 #[(.agg #[g0.v]), (VI s1), z2.v] h3 fun r2 h4 => ∃ s20 : Bool, r2 = (VB s20) /\ Vars h4 [(b2, [nilSl.v, (VI 0)]), (b1, [g0.v])] /\
 ((!s20) = true ->
 ∀ (h12 : Heap), Fr (In [b2]) h4 h12 -> Vars h12 [(b2, [nilSl.v, (VI 0)]), (b1, [g0.v])] ->
 K (.tuple #[(.agg #[nilSl.v, (VI 0)]), (VB false)]) h12) /\
 ((!s20) = false ->
 InB g0 s1 /\
 ∃ s29 : Sl, hcell h4 (Sl.at g0 s1 1) = some s29.v /\
 callM P 84 #[(VI k3), (VI 0), (VI (w64 ((s29.n : Int) - 1)))] h4 fun r3 h5 => ∃ s32 : Bool, r3 = (VB s32) /\ Vars h5 [(b2, [nilSl.v, (VI 0)]), (b1, [g0.v])] /\
 ((!s32) = true ->
 ∀ (h6 : Heap), Fr (In [b2]) h5 h6 -> Vars h6 [(b2, [nilSl.v, (VI 0)]), (b1, [g0.v])] ->
 K (.tuple #[(.agg #[nilSl.v, (VI 0)]), (VB false)]) h6) /\
 ((!s32) = false ->
 callM P 78 #[z2.v] h5 fun r4 h7 => ∃ s37 : Sl, r4 = s37.v /\ Vars h7 [(b2, [nilSl.v, (VI 0)]), (b1, [g0.v])] /\
 InB s37 s1 /\
 ∀ (b3 : Nat) (h9 : Heap), h7.size ≤ b3 -> Fr (In []) h7 h9 -> Vars h9 [(b3, [s37.v, (VI s1)]), (b2, [nilSl.v, (VI 0)]), (b1, [g0.v])] ->
 Writable h9 (Sl.at s37 s1 1) /\ Vars (hset h9 (Sl.at s37 s1 1) (VI k3)) [(b3, [s37.v, (VI s1)]), (b2, [nilSl.v, (VI 0)]), (b1, [g0.v])] /\
 ∀ h10 : Heap, h10 = hset h9 (Sl.at s37 s1 1) (VI k3) -> Vars h10 [(b3, [s37.v, (VI s1)]), (b2, [nilSl.v, (VI 0)]), (b1, [g0.v])] ->
 ∀ (h11 : Heap), Fr (In [b2]) h10 h11 -> Vars h11 [(b3, [s37.v, (VI s1)]), (b2, [s37.v, (VI s1)]), (b1, [g0.v])] ->
 K (.tuple #[(.agg #[s37.v, (VI s1)]), (VB true)]) h11)))
theorem v35 (g0 : Sl) (s1 : Int) (z2 : Sl) (k3 : Int) (h : Heap) (K : KQ) (H : u35 Tryz.prog g0 s1 z2 k3 h K) : callM Tryz.prog 35 #[(Value.agg #[g0.v]), (VI s1), z2.v, (VI k3)] h K := by
 refine c35 (Value.agg #[g0.v]) (VI s1) z2.v (VI k3) h K ?_
 unfold u35 at H
 unfold t35
 have hL : Vars h [] := .nil
 refine eop_box 26 (Value.agg #[g0.v]) rfl hL (fun b1 h1 hb1 hf1 hL1 => ?_)
 refine eop_alloc 48 zer48 rfl hL1 (fun b2 h2 hb2 hf2 hL2 => ?_)
 refine ra agg26 hL2 1 0 [g0.v] ?_
 refine (H b1 b2 h2 hb1 (Nat.le_trans (Fr.size (fo hf1)) hb2) (Fr.no' (fo hf1) hf2) hL2).mono ?_
 rintro _ h3 ⟨s14, rfl, hL3, H⟩
 refine pop_not s14 ?_
 refine guardM_sf (fun hb3 => ?_) (fun hb3 => ?_)
 rotate_left
 ·have H := H.1 hb3
  refine gm hb3 ?_
  refine gm hb3 ?_
  refine gm hb3 ?_
  refine gm hb3 ?_
  refine pop_pickt' hb3 ?_
  refine gn ?_
  refine gn ?_
  refine gn ?_
  refine gn ?_
  refine gn ?_
  refine gn ?_
  refine gn ?_
  refine gn ?_
  refine gn ?_
  refine gn ?_
  refine pop_pickt _ _ ?_
  refine condM_t ?_
  refine pop.mk' (v := (Value.agg #[nilSl.v, (VI 0)])) (fun w => by kernel_rfl) ?_
  refine ul siz48 hL3 0 0 [nilSl.v, (VI 0)] [(b2, [nilSl.v, (VI 0)]), (b1, [g0.v])] (fun h13 hf8 hL13 => ?_)
  refine ra agg48 hL13 0 0 [nilSl.v, (VI 0)] ?_
  exact H  h13  (fq hf8) hL13
 have H := H.2 hb3
 refine ra agg26 hL3 1 0 [g0.v] ?_
 refine gy hb3 ?_
 refine gy hb3 ?_
 refine gy hb3 ?_
 refine H.mono ?_
 rintro _ h4 ⟨s20, rfl, hL4, H⟩
 refine gy hb3 ?_
 refine pop_not s20 ?_
 refine pop_pickf' hb3 ?_
 refine guardM_sf (fun hb4 => ?_) (fun hb4 => ?_)
 rotate_left
 ·have H := H.1 hb4
  refine gm hb4 ?_
  refine gm hb4 ?_
  refine gm hb4 ?_
  refine gm hb4 ?_
  refine gm hb4 ?_
  refine gm hb4 ?_
  refine gm hb4 ?_
  refine gm hb4 ?_
  refine gm hb4 ?_
  refine pop_pickt' hb4 ?_
  refine condM_t ?_
  refine pop.mk' (v := (Value.agg #[nilSl.v, (VI 0)])) (fun w => by kernel_rfl) ?_
  refine ul siz48 hL4 0 0 [nilSl.v, (VI 0)] [(b2, [nilSl.v, (VI 0)]), (b1, [g0.v])] (fun h12 hf7 hL12 => ?_)
  refine ra agg48 hL12 0 0 [nilSl.v, (VI 0)] ?_
  exact H  h12  (fq hf7) hL12
 have H := H.2 hb4
 refine gy hb4 ?_
 refine pop_field 0 fld26_0 b1 0 ?_
 refine gy hb4 ?_
 refine rl one24 hL4 1 0 g0.v ?_
 refine gy hb4 ?_
 refine gy hb4 ?_
 obtain ⟨hi1, H⟩ := H
 refine pop_index sli24 siz29 .i64 g0 s1 hi1 ?_
 refine gy hb4 ?_
 obtain ⟨s29, hc1, H⟩ := H
 refine rop_one one29 s29.v hc1 ?_
 refine gy hb4 ?_
 refine pop_len s29 _ _ sli29 ?_
 refine gy hb4 ?_
 refine pop_sub .i64 (s29.n : Int) 1 ?_
 refine gy hb4 ?_
 refine H.mono ?_
 rintro _ h5 ⟨s32, rfl, hL5, H⟩
 refine gy hb4 ?_
 refine pop_not s32 ?_
 refine pop_pickf' hb4 ?_
 refine condM_b (fun hb5 => ?_) (fun hb5 => ?_)
 ·have H := H.1 hb5
  refine pop.mk' (v := (Value.agg #[nilSl.v, (VI 0)])) (fun w => by kernel_rfl) ?_
  refine ul siz48 hL5 0 0 [nilSl.v, (VI 0)] [(b2, [nilSl.v, (VI 0)]), (b1, [g0.v])] (fun h6 hf3 hL6 => ?_)
  refine ra agg48 hL6 0 0 [nilSl.v, (VI 0)] ?_
  exact H  h6  (fq hf3) hL6
 have H := H.2 hb5
 refine H.mono ?_
 rintro _ h7 ⟨s37, rfl, hL7, H⟩
 refine pop.mk' (v := (Value.agg #[s37.v, (VI s1)])) (fun w => by kernel_rfl) ?_
 refine eop_alloc 48 zer48 rfl hL7 (fun b3 h8 hb6 hf4 hL8 => ?_)
 refine ul siz48 hL8 0 0 [s37.v, (VI s1)] [(b3, [s37.v, (VI s1)]), (b2, [nilSl.v, (VI 0)]), (b1, [g0.v])] (fun h9 hf5 hL9 => ?_)
 refine pop_field 0 fld48_0 b3 0 ?_
 refine rl one29 hL9 0 0 s37.v ?_
 obtain ⟨hi2, H⟩ := H
 refine pop_index sli29 siz3 .i64 s37 s1 hi2 ?_
 have H := H b3 h9 hb6 (Fr.new (fo hf4) hb6 hf5) hL9
 obtain ⟨hw_1, hL10, H⟩ := H
 refine uop_cell (v := (VI k3)) siz3 hw_1 rfl (fun h10 he_1 => ?_)
 rw [← he_1] at hL10
 have H := H h10 he_1 hL10
 refine ra agg48 hL10 0 0 [s37.v, (VI s1)] ?_
 refine ul siz48 hL10 1 0 [s37.v, (VI s1)] [(b3, [s37.v, (VI s1)]), (b2, [s37.v, (VI s1)]), (b1, [g0.v])] (fun h11 hf6 hL11 => ?_)
 refine ra agg48 hL11 1 0 [s37.v, (VI s1)] ?_
 exact H  h11  (fq hf6) hL11
def u36 (P : Program) (g0 : Sl) (w1 : Sl) (w1a : Int) (h : Heap) (K : KQ) : Prop :=
 ∀ (b1 : Nat) (b2 : Nat) (b3 : Nat) (h3 : Heap), h.size ≤ b1 -> h.size ≤ b2 -> h.size ≤ b3 -> Fr (In []) h h3 -> Vars h3 [(b3, [nilSl.v, (VI 0)]), (b2, [w1.v, (VI w1a)]), (b1, [g0.v])] ->
 callM P 39 #[(.agg #[g0.v]), (.agg #[w1.v, (VI w1a)]), (VI 1)] h3 fun r1 h4 => ∃ s8 : Sl, ∃ s8b : Int, ∃ s8c : Bool, r1 = (.tuple #[(.agg #[s8.v, (VI s8b)]), (VB s8c)]) /\ Vars h4 [(b3, [nilSl.v, (VI 0)]), (b2, [w1.v, (VI w1a)]), (b1, [g0.v])] /\
 ∀ (h5 : Heap), Fr (In [b3]) h4 h5 -> Vars h5 [(b3, [s8.v, (VI s8b)]), (b2, [w1.v, (VI w1a)]), (b1, [g0.v])] ->
 K (.tuple #[(.agg #[s8.v, (VI s8b)]), (VB s8c)]) h5
theorem v36 (g0 : Sl) (w1 : Sl) (w1a : Int) (h : Heap) (K : KQ) (H : u36 Tryz.prog g0 w1 w1a h K) : callM Tryz.prog 36 #[(Value.agg #[g0.v]), (Value.agg #[w1.v, (VI w1a)])] h K := by
 refine c36 (Value.agg #[g0.v]) (Value.agg #[w1.v, (VI w1a)]) h K ?_
 unfold u36 at H
 unfold t36
 have hL : Vars h [] := .nil
 refine eop_box 26 (Value.agg #[g0.v]) rfl hL (fun b1 h1 hb1 hf1 hL1 => ?_)
 refine eop_box 48 (Value.agg #[w1.v, (VI w1a)]) rfl hL1 (fun b2 h2 hb2 hf2 hL2 => ?_)
 refine eop_alloc 48 zer48 rfl hL2 (fun b3 h3 hb3 hf3 hL3 => ?_)
 refine ra agg26 hL3 2 0 [g0.v] ?_
 refine ra agg48 hL3 1 0 [w1.v, (VI w1a)] ?_
 refine (H b1 b2 b3 h3 hb1 (Nat.le_trans (Fr.size (fo hf1)) hb2) (Nat.le_trans (Fr.size (Fr.no' (fo hf1) hf2)) hb3) (Fr.no' (Fr.no' (fo hf1) hf2) hf3) hL3).mono ?_
 rintro _ h4 ⟨s8, s8b, s8c, rfl, hL4, H⟩
 refine pop_ext (v := (Value.agg #[s8.v, (VI s8b)])) rfl ?_
 refine pop_ext (v := (VB s8c)) rfl ?_
 refine ul siz48 hL4 0 0 [s8.v, (VI s8b)] [(b3, [s8.v, (VI s8b)]), (b2, [w1.v, (VI w1a)]), (b1, [g0.v])] (fun h5 hf4 hL5 => ?_)
 refine ra agg48 hL5 0 0 [s8.v, (VI s8b)] ?_
 exact H  h5  (fq hf4) hL5
def u37 (P : Program) (a0 : Sl) (a0a : Int) (z1 : Sl) (b1a : Int) (h : Heap) (K : KQ) : Prop :=
 ((decide (a0a = b1a)) = true ->
 ∀ (b1 : Nat) (b2 : Nat) (h2 : Heap), h.size ≤ b1 -> h.size ≤ b2 -> Fr (In []) h h2 -> Vars h2 [(b2, [z1.v, (VI b1a)]), (b1, [a0.v, (VI a0a)])] ->
 callM P 16 #[a0.v, z1.v] h2 fun r1 h3 => ∃ s15 : Bool, r1 = (VB s15) /\ Vars h3 [(b2, [z1.v, (VI b1a)]), (b1, [a0.v, (VI a0a)])] /\
 K (VB s15) h3) /\
 ((decide (a0a = b1a)) = false ->
 ∀ (b1 : Nat) (b2 : Nat) (h2 : Heap), h.size ≤ b1 -> h.size ≤ b2 -> Fr (In []) h h2 -> Vars h2 [(b2, [z1.v, (VI b1a)]), (b1, [a0.v, (VI a0a)])] ->
 K (VB false) h2)
theorem v37 (a0 : Sl) (a0a : Int) (z1 : Sl) (b1a : Int) (h : Heap) (K : KQ) (H : u37 Tryz.prog a0 a0a z1 b1a h K) : callM Tryz.prog 37 #[(Value.agg #[a0.v, (VI a0a)]), (Value.agg #[z1.v, (VI b1a)])] h K := by
 refine c37 (Value.agg #[a0.v, (VI a0a)]) (Value.agg #[z1.v, (VI b1a)]) h K ?_
 unfold u37 at H
 unfold t37
 have hL : Vars h [] := .nil
 refine eop_box 48 (Value.agg #[a0.v, (VI a0a)]) rfl hL (fun b1 h1 hb1 hf1 hL1 => ?_)
 refine eop_box 48 (Value.agg #[z1.v, (VI b1a)]) rfl hL1 (fun b2 h2 hb2 hf2 hL2 => ?_)
 refine pop_field 1 fld48_1 b1 0 ?_
 refine rl one3 hL2 1 1 (VI a0a) ?_
 refine pop_field 1 fld48_1 b2 0 ?_
 refine rl one3 hL2 0 1 (VI b1a) ?_
 refine pop_ieq .i64 _ _ a0a b1a ?_
 refine guardM_st (fun hb3 => ?_) (fun hb3 => ?_)
 rotate_left
 ·have H := H.2 hb3
  refine gm hb3 ?_
  refine gm hb3 ?_
  refine gm hb3 ?_
  refine gm hb3 ?_
  refine pop_pickf' hb3 ?_
  exact H b1 b2 h2 hb1 (Nat.le_trans (Fr.size (fo hf1)) hb2) (Fr.no' (fo hf1) hf2) hL2
 have H := H.1 hb3
 refine pop_field 0 fld48_0 b1 0 ?_
 refine gy hb3 ?_
 refine rl one29 hL2 1 0 a0.v ?_
 refine gy hb3 ?_
 refine pop_field 0 fld48_0 b2 0 ?_
 refine gy hb3 ?_
 refine rl one29 hL2 0 0 z1.v ?_
 refine gy hb3 ?_
 refine (H b1 b2 h2 hb1 (Nat.le_trans (Fr.size (fo hf1)) hb2) (Fr.no' (fo hf1) hf2) hL2).mono ?_
 rintro _ h3 ⟨s15, rfl, hL3, H⟩
 refine pop_pickt' hb3 ?_
 exact H
def u38 (P : Program) (a0 : Sl) (q1 : Int) (h : Heap) (K : KQ) : Prop :=
 ∃ J1 : Nat -> Int -> Heap -> Prop, (∃ n0 : Nat, J1 n0 0 h) /\
 ∀ (n1 : Nat) (s9 : Int) (h1 : Heap), J1 n1 s9 h1 -> Vars h1 [] ->
 ((decide (s9 < (a0.n : Int))) = true ->
 InB a0 s9 /\
 ∃ s12 : Int, hcell h1 (Sl.at a0 s9 1) = some (VI s12) /\
 ((decide (s12 = q1)) = true ->
 K (VB true) h1) /\
 ((decide (s12 = q1)) = false ->
 ∃ m : Nat, m < n1 /\ J1 m (w64 (s9 + 1)) h1)) /\
 ((decide (s9 < (a0.n : Int))) = false ->
 K (VB false) h1)
theorem v38 (a0 : Sl) (q1 : Int) (h : Heap) (K : KQ) (H : u38 Tryz.prog a0 q1 h K) : callM Tryz.prog 38 #[a0.v, (VI q1)] h K := by
 refine c38 a0.v (VI q1) h K ?_
 unfold u38 at H
 unfold t38
 have hL : Vars h [] := .nil
 refine pop_len a0 _ _ sli29 ?_
 obtain ⟨J1, ⟨n2, h0⟩, HB1⟩ := H
 refine loop_intro (J := fun (n : Nat) (vs : List Value) (h' : Heap) => ∃ s9 : Int, vs = [(VI s9)] /\ J1 n s9 h' /\ Vars h' []) n2 ⟨0, rfl, h0, hL⟩ ?_
 intro I1 mu1 hI1 junk1 tv1 h1 hi1
 obtain ⟨n1, ⟨s9, hv, hJ1, hL1⟩, hn1⟩ := hI1 _ _ hi1
 cases hv
 have H := HB1 n1 s9 h1 hJ1 hL1
 refine pop_lss .i64 s9 (a0.n : Int) ?_
 refine condM_b (fun hb1 => ?_) (fun hb1 => ?_)
 rotate_left
 ·exact H.2 hb1
 have H := H.1 hb1
 obtain ⟨hi2, H⟩ := H
 refine pop_index sli29 siz3 .i64 a0 s9 hi2 ?_
 obtain ⟨s12, hc1, H⟩ := H
 refine rop_one one3 (VI s12) hc1 ?_
 refine pop_ieq .i64 _ _ s12 q1 ?_
 refine condM_b (fun hb2 => ?_) (fun hb2 => ?_)
 ·exact H.1 hb2
 have H := H.2 hb2
 refine pop_add .i64 s9 1 ?_
 obtain ⟨m_1, hm_1, H⟩ := H
 exact hn1 _ _ ⟨m_1, hm_1, (w64 (s9 + 1)), rfl, H, hL1⟩
end Go.Proofs.YtkjkfjkapbpgiaaGreat
