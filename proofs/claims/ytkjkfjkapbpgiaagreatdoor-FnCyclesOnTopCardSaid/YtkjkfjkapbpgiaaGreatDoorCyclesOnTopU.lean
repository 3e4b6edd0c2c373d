import Derived.Test.YtkjkfjkapbpgiaaGreatDoorCyclesOnTopT
import Derived.Test.YtkjkfjkapbpgiaaGreatDoorM2
set_option linter.unusedVariables false
set_option linter.unusedSimpArgs false
set_option maxRecDepth 100000
set_option maxHeartbeats 16000000
namespace Go.Proofs.YtkjkfjkapbpgiaaGreatDoor
open Go Go.Mx
section
variable {P : Program} {b c want : Bool} {A : (Value -> Heap -> Prop) -> Prop} {h : Heap} {K : Value -> Heap -> Prop} {Q : Value -> Prop} {t : TypeId} {n : Nat} {L : List (Nat × List Value)} {d : Nat} {cs : List Value}
theorem gn (H : K undef h) (hb : b ≠ want := by decide) : guardM (.bool b) want A h K := guardM_n hb H
theorem gm (hb : b = c) (H : K undef h) (hc : c ≠ want := by decide) : guardM (.bool b) want A h K := guardM_n' hb hc H
theorem gy (hb : b = want) (H : A K) : guardM (.bool b) want A h K := guardM_y' hb H
theorem ul (ht : sizeC P t = some n) (hL : Vars h L) (i : Nat) (o : Nat) {v : Value} (vs : List Value) (L' : List (Nat × List Value)) (H : ∀ h1 : Heap, Fr (fun k => k = d) h h1 -> Vars h1 L' -> K undef h1) (hi : nthL L i = some (d, cs) := by rfl) (hv : v.cells = vs.toArray := by rfl) (hn : vs.length = n := by rfl) (hp : vs.all plainV = true := by rfl) (ho : Nat.ble (o + vs.length) cs.length = true := by rfl) (hL' : setL L i (splice cs o vs) = L' := by rfl) : uop P (Instr.storeAt t (VP d o) v) h K := uop_loc ht hL i hi o vs hv hn hp (Nat.le_of_ble_eq_true ho) hL' H
theorem ra (ht : aggC P t = some n) (hL : Vars h L) (i : Nat) (o : Nat) (vs : List Value) (H : Q (.agg vs.toArray)) (hi : nthL L i = some (d, cs) := by rfl) (hv : cutL cs o n = vs := by rfl) (hn : vs.length = n := by rfl) : rop P (Instr.loadAt t (VP d o)) h Q := rop_locA ht hL i hi o hv hn H
theorem rl (ht : oneC P t = true) (hL : Vars h L) (i : Nat) (o : Nat) (v : Value) (H : Q v) (hi : nthL L i = some (d, cs) := by rfl) (hv : cs[o]? = some v := by rfl) : rop P (Instr.loadAt t (VP d o)) h Q := rop_loc ht hL i hi o hv H
end
theorem agg26 : aggC Tryz.prog 26 = some 1 := by kernel_rfl
theorem agg28 : aggC Tryz.prog 28 = some 1 := by kernel_rfl
theorem agg54 : aggC Tryz.prog 54 = some 2 := by kernel_rfl
theorem boo4 : Tryz.prog.underlying 4 = some .bool := by kernel_rfl
theorem fld26_0 : fieldC Tryz.prog 26 0 = some 0 := by kernel_rfl
theorem fld28_0 : fieldC Tryz.prog 28 0 = some 0 := by kernel_rfl
theorem fld54_0 : fieldC Tryz.prog 54 0 = some 0 := by kernel_rfl
theorem fld54_1 : fieldC Tryz.prog 54 1 = some 1 := by kernel_rfl
theorem fld84_0 : fieldC Tryz.prog 84 0 = some 0 := by kernel_rfl
theorem fld84_1 : fieldC Tryz.prog 84 1 = some 1 := by kernel_rfl
theorem fld84_2 : fieldC Tryz.prog 84 2 = some 2 := by kernel_rfl
theorem one22 : oneC Tryz.prog 22 = true := by kernel_rfl
theorem one24 : oneC Tryz.prog 24 = true := by kernel_rfl
theorem one3 : oneC Tryz.prog 3 = true := by kernel_rfl
theorem one33 : oneC Tryz.prog 33 = true := by kernel_rfl
theorem one5 : oneC Tryz.prog 5 = true := by kernel_rfl
theorem one82 : oneC Tryz.prog 82 = true := by kernel_rfl
theorem siz24 : sizeC Tryz.prog 24 = some 1 := by kernel_rfl
theorem siz26 : sizeC Tryz.prog 26 = some 1 := by kernel_rfl
theorem siz28 : sizeC Tryz.prog 28 = some 1 := by kernel_rfl
theorem siz3 : sizeC Tryz.prog 3 = some 1 := by kernel_rfl
theorem siz33 : sizeC Tryz.prog 33 = some 1 := by kernel_rfl
theorem siz5 : sizeC Tryz.prog 5 = some 1 := by kernel_rfl
theorem siz54 : sizeC Tryz.prog 54 = some 2 := by kernel_rfl
theorem siz82 : sizeC Tryz.prog 82 = some 1 := by kernel_rfl
theorem sli22 : Tryz.prog.underlying 22 = some (.slice 5) := by kernel_rfl
theorem sli24 : Tryz.prog.underlying 24 = some (.slice 33) := by kernel_rfl
theorem sli33 : Tryz.prog.underlying 33 = some (.slice 3) := by kernel_rfl
theorem zer26 : zeroC Tryz.prog 26 = some (Value.agg #[nilSl.v]) := by kernel_rfl
theorem zer28 : zeroC Tryz.prog 28 = some (Value.agg #[nilSl.v]) := by kernel_rfl
theorem zer3 : zeroC Tryz.prog 3 = some (VI 0) := by kernel_rfl
theorem zer54 : zeroC Tryz.prog 54 = some (Value.agg #[nilSl.v, (VI 0)]) := by kernel_rfl
def u3 (P : Program) (code0_1 : Sl) (more1_1 : Sl) (h : Heap) (K : Value -> Heap -> Prop) : Prop :=
 callM P 5 #[code0_1.v, more1_1.v] h fun r1 h1 => ∃ s63 : Bool, r1 = (VB s63) /\ Vars h1 [] /\
 (s63 = true ->
 K (VB true) h1) /\
 (s63 = false ->
 callM P 6 #[code0_1.v] h1 fun r2 h2 => ∃ s66 : Sl, ∃ s66b : Int, ∃ s66c : Sl, r2 = (.tuple #[(.agg #[s66.v]), (VI s66b), (.agg #[s66c.v])]) /\ Vars h2 [] /\
 ∀ (b1 : Nat) (b2 : Nat) (h6 : Heap), h2.size ≤ b1 -> h2.size ≤ b2 -> Fr (In []) h2 h6 -> Vars h6 [(b2, [s66c.v]), (b1, [s66.v])] ->
 callM P 7 #[(.agg #[s66.v]), (VI s66b), (.agg #[s66c.v])] h6 fun r3 h7 => ∃ s74 : Sl, ∃ s74b : Bool, r3 = (.tuple #[s74.v, (VB s74b)]) /\ Vars h7 [(b2, [s66c.v]), (b1, [s66.v])] /\
 callM P 8 #[(.agg #[s66.v]), (VI s66b), (.agg #[s66c.v])] h7 fun r4 h8 => ∃ s81 : Sl, ∃ s81b : Bool, r4 = (.tuple #[s81.v, (VB s81b)]) /\ Vars h8 [(b2, [s66c.v]), (b1, [s66.v])] /\
 callM P 9 #[(.agg #[s66.v]), (VI s66b), (.agg #[s66c.v])] h8 fun r5 h9 => ∃ s88 : Sl, ∃ s88b : Bool, r5 = (.tuple #[s88.v, (VB s88b)]) /\ Vars h9 [(b2, [s66c.v]), (b1, [s66.v])] /\
 callM P 10 #[(.agg #[s66.v]), (VI s66b), (.agg #[s66c.v])] h9 fun r6 h10 => ∃ s95 : Sl, ∃ s95b : Bool, r6 = (.tuple #[s95.v, (VB s95b)]) /\ Vars h10 [(b2, [s66c.v]), (b1, [s66.v])] /\
 callM P 11 #[(.agg #[s66.v]), (VI s66b), (.agg #[s66c.v])] h10 fun r7 h11 => ∃ s102 : Bool, ∃ s102b : Bool, r7 = (.tuple #[(VB s102), (VB s102b)]) /\ Vars h11 [(b2, [s66c.v]), (b1, [s66.v])] /\
 callM P 12 #[(.agg #[s66.v]), (VI s66b), (.agg #[s66c.v])] h11 fun r8 h12 => ∃ s109 : Bool, ∃ s109b : Bool, r8 = (.tuple #[(VB s109), (VB s109b)]) /\ Vars h12 [(b2, [s66c.v]), (b1, [s66.v])] /\
 callM P 13 #[(.agg #[s66.v]), (VI s66b), (.agg #[s66c.v])] h12 fun r9 h13 => ∃ s116 : Sl, ∃ s116b : Bool, r9 = (.tuple #[s116.v, (VB s116b)]) /\ Vars h13 [(b2, [s66c.v]), (b1, [s66.v])] /\
 callM P 14 #[(.agg #[s66.v]), (VI s66b), (.agg #[s66c.v])] h13 fun r10 h14 => ∃ s123 : Sl, ∃ s123b : Bool, r10 = (.tuple #[s123.v, (VB s123b)]) /\ Vars h14 [(b2, [s66c.v]), (b1, [s66.v])] /\
 ((!(s74b == s81b)) = true ->
 K (VB false) h14) /\
 ((!(s74b == s81b)) = false ->
 callM P 15 #[s74.v, s81.v] h14 fun r11 h15 => ∃ s132 : Bool, r11 = (VB s132) /\ Vars h15 [(b2, [s66c.v]), (b1, [s66.v])] /\
 ((!s132) = true ->
 K (VB false) h15) /\
 ((!s132) = false ->
 ((!(s88b == s95b)) = true ->
 K (VB false) h15) /\
 ((!(s88b == s95b)) = false ->
 callM P 16 #[s88.v, s95.v] h15 fun r12 h16 => ∃ s143 : Bool, r12 = (VB s143) /\ Vars h16 [(b2, [s66c.v]), (b1, [s66.v])] /\
 ((!s143) = true ->
 K (VB false) h16) /\
 ((!s143) = false ->
 ((!(s102b == s109b)) = true ->
 K (VB false) h16) /\
 ((!(s102b == s109b)) = false ->
 ((!(s102 == s109)) = true ->
 K (VB false) h16) /\
 ((!(s102 == s109)) = false ->
 ((!(s116b == s123b)) = true ->
 K (VB false) h16) /\
 ((!(s116b == s123b)) = false ->
 callM P 16 #[s116.v, s123.v] h16 fun r13 h17 => ∃ s164 : Bool, r13 = (VB s164) /\ Vars h17 [(b2, [s66c.v]), (b1, [s66.v])] /\
 ((!s164) = true ->
 K (VB false) h17) /\
 ((!s164) = false ->
 (s102b = true ->
 ((!(s74b == s102)) = true ->
 K (VB false) h17) /\
 ((!(s74b == s102)) = false ->
 (s74b = true ->
 ((!(s88b == (decide (0 < (s74.n : Int))))) = true ->
 K (VB false) h17) /\
 ((!(s88b == (decide (0 < (s74.n : Int))))) = false ->
 (s116b = true ->
 ((!s74b) = true ->
 K (VB false) h17) /\
 ((!s74b) = false ->
 ∃ J1 : Heap -> Prop, (∃ J2 : Nat -> Int -> Int -> Heap -> Prop, (∃ n0 : Nat, J2 n0 0 0 h17) /\
 ∀ (n1 : Nat) (seen24_1 : Int) (s195 : Int) (h18 : Heap), J2 n1 seen24_1 s195 h18 -> Vars h18 [(b2, [s66c.v]), (b1, [s66.v])] ->
 ((decide (s195 < (s74.n : Int))) = true ->
 InB s74 s195 /\
 ∃ s199 : Sl, hcell h18 (Sl.at s74 s195 1) = some s199.v /\
 ((decide (0 < s195)) = true ->
 InB s74 (w64 (s195 - 1)) /\
 ∃ s207 : Sl, hcell h18 (Sl.at s74 (w64 (s195 - 1)) 1) = some s207.v /\
 InB s207 0 /\
 ∃ s209 : Int, hcell h18 (Sl.at s207 0 1) = some (VI s209) /\
 InB s199 0 /\
 ∃ s212 : Int, hcell h18 (Sl.at s199 0 1) = some (VI s212) /\
 ((decide (s212 ≤ s209)) = true ->
 K (VB false) h18) /\
 ((decide (s212 ≤ s209)) = false ->
 ∃ J3 : Nat -> Int -> Int -> Heap -> Prop, (∃ n0 : Nat, J3 n0 seen24_1 0 h18) /\
 ∀ (n2 : Nat) (seen24_2 : Int) (s217 : Int) (h19 : Heap), J3 n2 seen24_2 s217 h19 -> Vars h19 [(b2, [s66c.v]), (b1, [s66.v])] ->
 ((decide (s217 < (s199.n : Int))) = true ->
 InB s199 s217 /\
 ∃ s221 : Int, hcell h19 (Sl.at s199 s217 1) = some (VI s221) /\
 InB s199 0 /\
 ∃ s225 : Int, hcell h19 (Sl.at s199 0 1) = some (VI s225) /\
 ((decide (s221 < s225)) = true ->
 K (VB false) h19) /\
 ((decide (s221 < s225)) = false ->
 ((decide (s221 = s66b)) = true ->
 K (VB false) h19) /\
 ((decide (s221 = s66b)) = false ->
 pop P (binA .shr 3 (VI seen24_2) (VI s221)) fun r14 => ∃ s235 : Int, r14 = (VI s235) /\ 
 ((decide ((Int.tmod s235 2) = 1)) = true ->
 K (VB false) h19) /\
 ((decide ((Int.tmod s235 2) = 1)) = false ->
 InB s66c s221 /\
 ∃ s244 : Sl, hcell h19 (Sl.at s66c s221 1) = some s244.v /\
 ((decide ((s244.n : Int) = 0)) = true ->
 K (VB false) h19) /\
 ((decide ((s244.n : Int) = 0)) = false ->
 InB s66 s221 /\
 ∃ s253 : Sl, hcell h19 (Sl.at s66 s221 1) = some s253.v /\
 InB s66c s221 /\
 ∃ s258 : Sl, hcell h19 (Sl.at s66c s221 1) = some s258.v /\
 InB s258 0 /\
 ∃ s260 : Int, hcell h19 (Sl.at s258 0 1) = some (VI s260) /\
 InB s253 s260 /\
 ∃ s262 : Int, hcell h19 (Sl.at s253 s260 1) = some (VI s262) /\
 (s199.n : Int) ≠ 0 /\
 InB s199 (Int.tmod (w64 (s217 + 1)) (s199.n : Int)) /\
 ∃ s270 : Int, hcell h19 (Sl.at s199 (Int.tmod (w64 (s217 + 1)) (s199.n : Int)) 1) = some (VI s270) /\
 ((!decide (s262 = s270)) = true ->
 K (VB false) h19) /\
 ((!decide (s262 = s270)) = false ->
 pop P (binA .shl 3 (.int .i64 1) (VI s221)) fun r15 => ∃ s275 : Int, r15 = (VI s275) /\ 
 pop P (binA .or 3 (VI seen24_2) (VI s275)) fun r16 => ∃ s276 : Int, r16 = (VI s276) /\ 
 ∃ m : Nat, m < n2 /\ J3 m s276 (w64 (s217 + 1)) h19)))))) /\
 ((decide (s217 < (s199.n : Int))) = false ->
 ∃ m : Nat, m < n1 /\ J2 m seen24_2 (w64 (s195 + 1)) h19))) /\
 ((decide (0 < s195)) = false ->
 ∃ J4 : Nat -> Int -> Int -> Heap -> Prop, (∃ n0 : Nat, J4 n0 seen24_1 0 h18) /\
 ∀ (n4 : Nat) (seen24_3 : Int) (s217b : Int) (h20 : Heap), J4 n4 seen24_3 s217b h20 -> Vars h20 [(b2, [s66c.v]), (b1, [s66.v])] ->
 ((decide (s217b < (s199.n : Int))) = true ->
 InB s199 s217b /\
 ∃ s221b : Int, hcell h20 (Sl.at s199 s217b 1) = some (VI s221b) /\
 InB s199 0 /\
 ∃ s225b : Int, hcell h20 (Sl.at s199 0 1) = some (VI s225b) /\
 ((decide (s221b < s225b)) = true ->
 K (VB false) h20) /\
 ((decide (s221b < s225b)) = false ->
 ((decide (s221b = s66b)) = true ->
 K (VB false) h20) /\
 ((decide (s221b = s66b)) = false ->
 pop P (binA .shr 3 (VI seen24_3) (VI s221b)) fun r17 => ∃ s235b : Int, r17 = (VI s235b) /\ 
 ((decide ((Int.tmod s235b 2) = 1)) = true ->
 K (VB false) h20) /\
 ((decide ((Int.tmod s235b 2) = 1)) = false ->
 InB s66c s221b /\
 ∃ s244b : Sl, hcell h20 (Sl.at s66c s221b 1) = some s244b.v /\
 ((decide ((s244b.n : Int) = 0)) = true ->
 K (VB false) h20) /\
 ((decide ((s244b.n : Int) = 0)) = false ->
 InB s66 s221b /\
 ∃ s253b : Sl, hcell h20 (Sl.at s66 s221b 1) = some s253b.v /\
 InB s66c s221b /\
 ∃ s258b : Sl, hcell h20 (Sl.at s66c s221b 1) = some s258b.v /\
 InB s258b 0 /\
 ∃ s260b : Int, hcell h20 (Sl.at s258b 0 1) = some (VI s260b) /\
 InB s253b s260b /\
 ∃ s262b : Int, hcell h20 (Sl.at s253b s260b 1) = some (VI s262b) /\
 (s199.n : Int) ≠ 0 /\
 InB s199 (Int.tmod (w64 (s217b + 1)) (s199.n : Int)) /\
 ∃ s270b : Int, hcell h20 (Sl.at s199 (Int.tmod (w64 (s217b + 1)) (s199.n : Int)) 1) = some (VI s270b) /\
 ((!decide (s262b = s270b)) = true ->
 K (VB false) h20) /\
 ((!decide (s262b = s270b)) = false ->
 pop P (binA .shl 3 (.int .i64 1) (VI s221b)) fun r18 => ∃ s275b : Int, r18 = (VI s275b) /\ 
 pop P (binA .or 3 (VI seen24_3) (VI s275b)) fun r19 => ∃ s276b : Int, r19 = (VI s276b) /\ 
 ∃ m : Nat, m < n4 /\ J4 m s276b (w64 (s217b + 1)) h20)))))) /\
 ((decide (s217b < (s199.n : Int))) = false ->
 ∃ m : Nat, m < n1 /\ J2 m seen24_3 (w64 (s195 + 1)) h20))) /\
 ((decide (s195 < (s74.n : Int))) = false ->
 (s88b = true ->
 InB s74 0 /\
 ∃ s284 : Sl, hcell h18 (Sl.at s74 0 1) = some s284.v /\
 callM P 16 #[s88.v, s284.v] h18 fun r20 h21 => ∃ s285 : Bool, r20 = (VB s285) /\ Vars h21 [(b2, [s66c.v]), (b1, [s66.v])] /\
 ((!s285) = true ->
 K (VB false) h21) /\
 ((!s285) = false ->
 ((decide ((s74.n : Int) = 0)) = true ->
 callM P 17 #[(.agg #[s66.v]), (VI s66b), s116.v] h21 fun r21 h22 => ∃ s298 : Bool, ∃ s298b : Bool, r21 = (.tuple #[(VB s298), (VB s298b)]) /\ Vars h22 [(b2, [s66c.v]), (b1, [s66.v])] /\
 ((!s298b) = true ->
 K (VB false) h22) /\
 ((!s298b) = false ->
 ((!s298) = true ->
 K (VB false) h22) /\
 ((!s298) = false ->
 J1  h22))) /\
 ((decide ((s74.n : Int) = 0)) = false ->
 J1  h21))) /\
 (s88b = false ->
 ((decide ((s74.n : Int) = 0)) = true ->
 callM P 17 #[(.agg #[s66.v]), (VI s66b), s116.v] h18 fun r22 h23 => ∃ s298c : Bool, ∃ s298d : Bool, r22 = (.tuple #[(VB s298c), (VB s298d)]) /\ Vars h23 [(b2, [s66c.v]), (b1, [s66.v])] /\
 ((!s298d) = true ->
 K (VB false) h23) /\
 ((!s298d) = false ->
 ((!s298c) = true ->
 K (VB false) h23) /\
 ((!s298c) = false ->
 J1  h23))) /\
 ((decide ((s74.n : Int) = 0)) = false ->
 J1  h18)))) /\
 ∀ (h24 : Heap), J1  h24 -> Vars h24 [(b2, [s66c.v]), (b1, [s66.v])] ->
 callM P 18 #[more1_1.v] h24 fun r23 h25 => ∃ s309 : Sl, ∃ s309b : Int, ∃ s309c : Sl, ∃ s309d : Int, r23 = (.tuple #[(.agg #[s309.v]), (VI s309b), (.agg #[s309c.v]), (VI s309d)]) /\ Vars h25 [(b2, [s66c.v]), (b1, [s66.v])] /\
 ∀ (b3 : Nat) (b4 : Nat) (h29 : Heap), h25.size ≤ b3 -> h25.size ≤ b4 -> Fr (In []) h25 h29 -> Vars h29 [(b4, [s309c.v]), (b3, [s309.v]), (b2, [s66c.v]), (b1, [s66.v])] ->
 callM P 19 #[(.agg #[s309.v]), (VI s309b), (.agg #[s309c.v]), (VI s309d)] h29 fun r24 h30 => ∃ s319 : Sl, ∃ s319b : Bool, r24 = (.tuple #[(.agg #[s319.v]), (VB s319b)]) /\ Vars h30 [(b4, [s309c.v]), (b3, [s309.v]), (b2, [s66c.v]), (b1, [s66.v])] /\
 ∀ (b5 : Nat) (h32 : Heap), h30.size ≤ b5 -> Fr (In []) h30 h32 -> Vars h32 [(b5, [s319.v]), (b4, [s309c.v]), (b3, [s309.v]), (b2, [s66c.v]), (b1, [s66.v])] ->
 callM P 20 #[(.agg #[s309.v]), (VI s309b), (.agg #[s309c.v]), (VI s309d)] h32 fun r25 h33 => ∃ s327 : Sl, ∃ s327b : Bool, r25 = (.tuple #[(.agg #[s327.v]), (VB s327b)]) /\ Vars h33 [(b5, [s319.v]), (b4, [s309c.v]), (b3, [s309.v]), (b2, [s66c.v]), (b1, [s66.v])] /\
 ((!(s319b == s327b)) = true ->
 ∀ (b6 : Nat) (h35 : Heap), h33.size ≤ b6 -> Fr (In []) h33 h35 -> Vars h35 [(b6, [s327.v]), (b5, [s319.v]), (b4, [s309c.v]), (b3, [s309.v]), (b2, [s66c.v]), (b1, [s66.v])] ->
 K (VB false) h35) /\
 ((!(s319b == s327b)) = false ->
 ∀ (b6 : Nat) (h35 : Heap), h33.size ≤ b6 -> Fr (In []) h33 h35 -> Vars h35 [(b6, [s327.v]), (b5, [s319.v]), (b4, [s309c.v]), (b3, [s309.v]), (b2, [s66c.v]), (b1, [s66.v])] ->
 callM P 21 #[(.agg #[s319.v]), (.agg #[s327.v])] h35 fun r26 h36 => ∃ s336 : Bool, r26 = (VB s336) /\ Vars h36 [(b6, [s327.v]), (b5, [s319.v]), (b4, [s309c.v]), (b3, [s309.v]), (b2, [s66c.v]), (b1, [s66.v])] /\
 ((!s336) = true ->
 K (VB false) h36) /\
 ((!s336) = false ->
 ∃ J5 : Heap -> Prop, ((s319b = true ->
 callM P 7 #[(.agg #[s309.v]), (VI s309b), (.agg #[s309c.v])] h36 fun r27 h37 => ∃ s344 : Sl, ∃ s344b : Bool, r27 = (.tuple #[s344.v, (VB s344b)]) /\ Vars h37 [(b6, [s327.v]), (b5, [s319.v]), (b4, [s309c.v]), (b3, [s309.v]), (b2, [s66c.v]), (b1, [s66.v])] /\
 ∃ J6 : Nat -> Sl -> Int -> Heap -> Prop, (∃ n0 : Nat, J6 n0 nilSl 0 h37) /\
 ∀ (n7 : Nat) (own41_1 : Sl) (s349 : Int) (h38 : Heap), J6 n7 own41_1 s349 h38 -> Vars h38 [(b6, [s327.v]), (b5, [s319.v]), (b4, [s309c.v]), (b3, [s309.v]), (b2, [s66c.v]), (b1, [s66.v])] ->
 ((decide (s349 < (s344.n : Int))) = true ->
 InB s344 s349 /\
 ∃ s352 : Sl, hcell h38 (Sl.at s344 s349 1) = some s352.v /\
 callM P 22 #[s352.v, (VI s309d)] h38 fun r28 h39 => ∃ s355 : Bool, r28 = (VB s355) /\ Vars h39 [(b6, [s327.v]), (b5, [s319.v]), (b4, [s309c.v]), (b3, [s309.v]), (b2, [s66c.v]), (b1, [s66.v])] /\
 (s355 = true ->
 ∃ m : Nat, m < n7 /\ J6 m s352 (w64 (s349 + 1)) h39) /\
 (s355 = false ->
 ∃ m : Nat, m < n7 /\ J6 m own41_1 (w64 (s349 + 1)) h39)) /\
 ((decide (s349 < (s344.n : Int))) = false ->
 ((!s344b) = true ->
 K (VB false) h38) /\
 ((!s344b) = false ->
 ((decide ((own41_1.n : Int) = 0)) = true ->
 K (VB false) h38) /\
 ((decide ((own41_1.n : Int) = 0)) = false ->
 ∃ J7 : Nat -> Int -> Heap -> Prop, (∃ n0 : Nat, J7 n0 0 h38) /\
 ∀ (n8 : Nat) (s368 : Int) (h40 : Heap), J7 n8 s368 h40 -> Vars h40 [(b6, [s327.v]), (b5, [s319.v]), (b4, [s309c.v]), (b3, [s309.v]), (b2, [s66c.v]), (b1, [s66.v])] ->
 ((decide (s368 < (s309.n : Int))) = true ->
 ∃ J8 : Int -> Heap -> Prop, (callM P 22 #[own41_1.v, (VI s368)] h40 fun r29 h41 => ∃ s373 : Bool, r29 = (VB s373) /\ Vars h41 [(b6, [s327.v]), (b5, [s319.v]), (b4, [s309c.v]), (b3, [s309.v]), (b2, [s66c.v]), (b1, [s66.v])] /\
 (s373 = true ->
 J8 1 h41) /\
 (s373 = false ->
 J8 0 h41)) /\
 ∀ (y1 : Int) (h42 : Heap), J8 y1 h42 -> Vars h42 [(b6, [s327.v]), (b5, [s319.v]), (b4, [s309c.v]), (b3, [s309.v]), (b2, [s66c.v]), (b1, [s66.v])] ->
 InB s319 s368 /\
 ∃ s378 : Sl, hcell h42 (Sl.at s319 s368 1) = some s378.v /\
 InB s309c s368 /\
 ∃ s383 : Sl, hcell h42 (Sl.at s309c s368 1) = some s383.v /\
 pop P (Instr.sliceAt 33 s383.v (some (VI y1)) none none) fun r30 => ∃ s385 : Sl, r30 = s385.v /\ 
 callM P 16 #[s378.v, s385.v] h42 fun r31 h43 => ∃ s386 : Bool, r31 = (VB s386) /\ Vars h43 [(b6, [s327.v]), (b5, [s319.v]), (b4, [s309c.v]), (b3, [s309.v]), (b2, [s66c.v]), (b1, [s66.v])] /\
 hcell h43 (Sl.at s309c s368 1) = some s383.v /\
 ((!s386) = true ->
 K (VB false) h43) /\
 ((!s386) = false ->
 ∃ m : Nat, m < n8 /\ J7 m (w64 (s368 + 1)) h43)) /\
 ((decide (s368 < (s309.n : Int))) = false ->
 J5  h40))))) /\
 (s319b = false ->
 J5  h36)) /\
 ∀ (h44 : Heap), J5  h44 -> Vars h44 [(b6, [s327.v]), (b5, [s319.v]), (b4, [s309c.v]), (b3, [s309.v]), (b2, [s66c.v]), (b1, [s66.v])] ->
 callM P 23 #[more1_1.v] h44 fun r32 h45 => ∃ s391 : Sl, ∃ s391b : Int, ∃ s391c : Sl, ∃ s391d : Int, r32 = (.tuple #[(.agg #[s391.v]), (VI s391b), s391c.v, (VI s391d)]) /\ Vars h45 [(b6, [s327.v]), (b5, [s319.v]), (b4, [s309c.v]), (b3, [s309.v]), (b2, [s66c.v]), (b1, [s66.v])] /\
 ∀ (b7 : Nat) (h47 : Heap), h45.size ≤ b7 -> Fr (In []) h45 h47 -> Vars h47 [(b7, [s391.v]), (b6, [s327.v]), (b5, [s319.v]), (b4, [s309c.v]), (b3, [s309.v]), (b2, [s66c.v]), (b1, [s66.v])] ->
 callM P 24 #[(.agg #[s391.v]), (VI s391b), s391c.v, (VI s391d)] h47 fun r33 h48 => ∃ s401 : Sl, ∃ s401b : Bool, r33 = (.tuple #[(.agg #[s401.v]), (VB s401b)]) /\ Vars h48 [(b7, [s391.v]), (b6, [s327.v]), (b5, [s319.v]), (b4, [s309c.v]), (b3, [s309.v]), (b2, [s66c.v]), (b1, [s66.v])] /\
 ∀ (b8 : Nat) (h50 : Heap), h48.size ≤ b8 -> Fr (In []) h48 h50 -> Vars h50 [(b8, [s401.v]), (b7, [s391.v]), (b6, [s327.v]), (b5, [s319.v]), (b4, [s309c.v]), (b3, [s309.v]), (b2, [s66c.v]), (b1, [s66.v])] ->
 callM P 25 #[(.agg #[s391.v]), (VI s391b), s391c.v, (VI s391d)] h50 fun r34 h51 => ∃ s409 : Sl, ∃ s409b : Bool, r34 = (.tuple #[(.agg #[s409.v]), (VB s409b)]) /\ Vars h51 [(b8, [s401.v]), (b7, [s391.v]), (b6, [s327.v]), (b5, [s319.v]), (b4, [s309c.v]), (b3, [s309.v]), (b2, [s66c.v]), (b1, [s66.v])] /\
 ∀ (b9 : Nat) (h53 : Heap), h51.size ≤ b9 -> Fr (In []) h51 h53 -> Vars h53 [(b9, [s409.v]), (b8, [s401.v]), (b7, [s391.v]), (b6, [s327.v]), (b5, [s319.v]), (b4, [s309c.v]), (b3, [s309.v]), (b2, [s66c.v]), (b1, [s66.v])] ->
 callM P 26 #[more1_1.v] h53 fun r35 h54 => ∃ s413 : Sl, r35 = (.agg #[s413.v]) /\ Vars h54 [(b9, [s409.v]), (b8, [s401.v]), (b7, [s391.v]), (b6, [s327.v]), (b5, [s319.v]), (b4, [s309c.v]), (b3, [s309.v]), (b2, [s66c.v]), (b1, [s66.v])] /\
 ∀ (b10 : Nat) (h56 : Heap), h54.size ≤ b10 -> Fr (In []) h54 h56 -> Vars h56 [(b10, [s413.v]), (b9, [s409.v]), (b8, [s401.v]), (b7, [s391.v]), (b6, [s327.v]), (b5, [s319.v]), (b4, [s309c.v]), (b3, [s309.v]), (b2, [s66c.v]), (b1, [s66.v])] ->
 callM P 27 #[(.agg #[s413.v])] h56 fun r36 h57 => ∃ s416 : ByteArray, ∃ s416b : Bool, r36 = (.tuple #[(VS s416), (VB s416b)]) /\ Vars h57 [(b10, [s413.v]), (b9, [s409.v]), (b8, [s401.v]), (b7, [s391.v]), (b6, [s327.v]), (b5, [s319.v]), (b4, [s309c.v]), (b3, [s309.v]), (b2, [s66c.v]), (b1, [s66.v])] /\
 callM P 28 #[(.agg #[s413.v])] h57 fun r37 h58 => ∃ s421 : ByteArray, ∃ s421b : Bool, r37 = (.tuple #[(VS s421), (VB s421b)]) /\ Vars h58 [(b10, [s413.v]), (b9, [s409.v]), (b8, [s401.v]), (b7, [s391.v]), (b6, [s327.v]), (b5, [s319.v]), (b4, [s309c.v]), (b3, [s309.v]), (b2, [s66c.v]), (b1, [s66.v])] /\
 ((!(s401b == s409b)) = true ->
 K (VB false) h58) /\
 ((!(s401b == s409b)) = false ->
 callM P 21 #[(.agg #[s401.v]), (.agg #[s409.v])] h58 fun r38 h59 => ∃ s430 : Bool, r38 = (VB s430) /\ Vars h59 [(b10, [s413.v]), (b9, [s409.v]), (b8, [s401.v]), (b7, [s391.v]), (b6, [s327.v]), (b5, [s319.v]), (b4, [s309c.v]), (b3, [s309.v]), (b2, [s66c.v]), (b1, [s66.v])] /\
 ((!s430) = true ->
 K (VB false) h59) /\
 ((!s430) = false ->
 ((!(s416b == s421b)) = true ->
 K (VB false) h59) /\
 ((!(s416b == s421b)) = false ->
 ((!(ByteArray.toList s416 == ByteArray.toList s421)) = true ->
 K (VB false) h59) /\
 ((!(ByteArray.toList s416 == ByteArray.toList s421)) = false ->
 (s401b = true ->
 callM P 11 #[(.agg #[s391.v]), (VI s391b), (.agg #[s401.v])] h59 fun r39 h60 => ∃ s448 : Bool, ∃ s448b : Bool, r39 = (.tuple #[(VB s448), (VB s448b)]) /\ Vars h60 [(b10, [s413.v]), (b9, [s409.v]), (b8, [s401.v]), (b7, [s391.v]), (b6, [s327.v]), (b5, [s319.v]), (b4, [s309c.v]), (b3, [s309.v]), (b2, [s66c.v]), (b1, [s66.v])] /\
 (s448b = true ->
 K (VB s448) h60) /\
 (s448b = false ->
 K (VB false) h60)) /\
 (s401b = false ->
 K (VB true) h59))))))))) /\
 (s116b = false ->
 ∃ J9 : Heap -> Prop, (∃ J10 : Nat -> Int -> Int -> Heap -> Prop, (∃ n0 : Nat, J10 n0 0 0 h17) /\
 ∀ (n11 : Nat) (seen24_4 : Int) (s195b : Int) (h61 : Heap), J10 n11 seen24_4 s195b h61 -> Vars h61 [(b2, [s66c.v]), (b1, [s66.v])] ->
 ((decide (s195b < (s74.n : Int))) = true ->
 InB s74 s195b /\
 ∃ s199b : Sl, hcell h61 (Sl.at s74 s195b 1) = some s199b.v /\
 ((decide (0 < s195b)) = true ->
 InB s74 (w64 (s195b - 1)) /\
 ∃ s207b : Sl, hcell h61 (Sl.at s74 (w64 (s195b - 1)) 1) = some s207b.v /\
 InB s207b 0 /\
 ∃ s209b : Int, hcell h61 (Sl.at s207b 0 1) = some (VI s209b) /\
 InB s199b 0 /\
 ∃ s212b : Int, hcell h61 (Sl.at s199b 0 1) = some (VI s212b) /\
 ((decide (s212b ≤ s209b)) = true ->
 K (VB false) h61) /\
 ((decide (s212b ≤ s209b)) = false ->
 ∃ J11 : Nat -> Int -> Int -> Heap -> Prop, (∃ n0 : Nat, J11 n0 seen24_4 0 h61) /\
 ∀ (n12 : Nat) (seen24_5 : Int) (s217c : Int) (h62 : Heap), J11 n12 seen24_5 s217c h62 -> Vars h62 [(b2, [s66c.v]), (b1, [s66.v])] ->
 ((decide (s217c < (s199b.n : Int))) = true ->
 InB s199b s217c /\
 ∃ s221c : Int, hcell h62 (Sl.at s199b s217c 1) = some (VI s221c) /\
 InB s199b 0 /\
 ∃ s225c : Int, hcell h62 (Sl.at s199b 0 1) = some (VI s225c) /\
 ((decide (s221c < s225c)) = true ->
 K (VB false) h62) /\
 ((decide (s221c < s225c)) = false ->
 ((decide (s221c = s66b)) = true ->
 K (VB false) h62) /\
 ((decide (s221c = s66b)) = false ->
 pop P (binA .shr 3 (VI seen24_5) (VI s221c)) fun r40 => ∃ s235c : Int, r40 = (VI s235c) /\ 
 ((decide ((Int.tmod s235c 2) = 1)) = true ->
 K (VB false) h62) /\
 ((decide ((Int.tmod s235c 2) = 1)) = false ->
 InB s66c s221c /\
 ∃ s244c : Sl, hcell h62 (Sl.at s66c s221c 1) = some s244c.v /\
 ((decide ((s244c.n : Int) = 0)) = true ->
 K (VB false) h62) /\
 ((decide ((s244c.n : Int) = 0)) = false ->
 InB s66 s221c /\
 ∃ s253c : Sl, hcell h62 (Sl.at s66 s221c 1) = some s253c.v /\
 InB s66c s221c /\
 ∃ s258c : Sl, hcell h62 (Sl.at s66c s221c 1) = some s258c.v /\
 InB s258c 0 /\
 ∃ s260c : Int, hcell h62 (Sl.at s258c 0 1) = some (VI s260c) /\
 InB s253c s260c /\
 ∃ s262c : Int, hcell h62 (Sl.at s253c s260c 1) = some (VI s262c) /\
 (s199b.n : Int) ≠ 0 /\
 InB s199b (Int.tmod (w64 (s217c + 1)) (s199b.n : Int)) /\
 ∃ s270c : Int, hcell h62 (Sl.at s199b (Int.tmod (w64 (s217c + 1)) (s199b.n : Int)) 1) = some (VI s270c) /\
 ((!decide (s262c = s270c)) = true ->
 K (VB false) h62) /\
 ((!decide (s262c = s270c)) = false ->
 pop P (binA .shl 3 (.int .i64 1) (VI s221c)) fun r41 => ∃ s275c : Int, r41 = (VI s275c) /\ 
 pop P (binA .or 3 (VI seen24_5) (VI s275c)) fun r42 => ∃ s276c : Int, r42 = (VI s276c) /\ 
 ∃ m : Nat, m < n12 /\ J11 m s276c (w64 (s217c + 1)) h62)))))) /\
 ((decide (s217c < (s199b.n : Int))) = false ->
 ∃ m : Nat, m < n11 /\ J10 m seen24_5 (w64 (s195b + 1)) h62))) /\
 ((decide (0 < s195b)) = false ->
 ∃ J12 : Nat -> Int -> Int -> Heap -> Prop, (∃ n0 : Nat, J12 n0 seen24_4 0 h61) /\
 ∀ (n14 : Nat) (seen24_6 : Int) (s217d : Int) (h63 : Heap), J12 n14 seen24_6 s217d h63 -> Vars h63 [(b2, [s66c.v]), (b1, [s66.v])] ->
 ((decide (s217d < (s199b.n : Int))) = true ->
 InB s199b s217d /\
 ∃ s221d : Int, hcell h63 (Sl.at s199b s217d 1) = some (VI s221d) /\
 InB s199b 0 /\
 ∃ s225d : Int, hcell h63 (Sl.at s199b 0 1) = some (VI s225d) /\
 ((decide (s221d < s225d)) = true ->
 K (VB false) h63) /\
 ((decide (s221d < s225d)) = false ->
 ((decide (s221d = s66b)) = true ->
 K (VB false) h63) /\
 ((decide (s221d = s66b)) = false ->
 pop P (binA .shr 3 (VI seen24_6) (VI s221d)) fun r43 => ∃ s235d : Int, r43 = (VI s235d) /\ 
 ((decide ((Int.tmod s235d 2) = 1)) = true ->
 K (VB false) h63) /\
 ((decide ((Int.tmod s235d 2) = 1)) = false ->
 InB s66c s221d /\
 ∃ s244d : Sl, hcell h63 (Sl.at s66c s221d 1) = some s244d.v /\
 ((decide ((s244d.n : Int) = 0)) = true ->
 K (VB false) h63) /\
 ((decide ((s244d.n : Int) = 0)) = false ->
 InB s66 s221d /\
 ∃ s253d : Sl, hcell h63 (Sl.at s66 s221d 1) = some s253d.v /\
 InB s66c s221d /\
 ∃ s258d : Sl, hcell h63 (Sl.at s66c s221d 1) = some s258d.v /\
 InB s258d 0 /\
 ∃ s260d : Int, hcell h63 (Sl.at s258d 0 1) = some (VI s260d) /\
 InB s253d s260d /\
 ∃ s262d : Int, hcell h63 (Sl.at s253d s260d 1) = some (VI s262d) /\
 (s199b.n : Int) ≠ 0 /\
 InB s199b (Int.tmod (w64 (s217d + 1)) (s199b.n : Int)) /\
 ∃ s270d : Int, hcell h63 (Sl.at s199b (Int.tmod (w64 (s217d + 1)) (s199b.n : Int)) 1) = some (VI s270d) /\
 ((!decide (s262d = s270d)) = true ->
 K (VB false) h63) /\
 ((!decide (s262d = s270d)) = false ->
 pop P (binA .shl 3 (.int .i64 1) (VI s221d)) fun r44 => ∃ s275d : Int, r44 = (VI s275d) /\ 
 pop P (binA .or 3 (VI seen24_6) (VI s275d)) fun r45 => ∃ s276d : Int, r45 = (VI s276d) /\ 
 ∃ m : Nat, m < n14 /\ J12 m s276d (w64 (s217d + 1)) h63)))))) /\
 ((decide (s217d < (s199b.n : Int))) = false ->
 ∃ m : Nat, m < n11 /\ J10 m seen24_6 (w64 (s195b + 1)) h63))) /\
 ((decide (s195b < (s74.n : Int))) = false ->
 (s88b = true ->
 InB s74 0 /\
 ∃ s284b : Sl, hcell h61 (Sl.at s74 0 1) = some s284b.v /\
 callM P 16 #[s88.v, s284b.v] h61 fun r46 h64 => ∃ s285b : Bool, r46 = (VB s285b) /\ Vars h64 [(b2, [s66c.v]), (b1, [s66.v])] /\
 ((!s285b) = true ->
 K (VB false) h64) /\
 ((!s285b) = false ->
 J9  h64)) /\
 (s88b = false ->
 J9  h61))) /\
 ∀ (h65 : Heap), J9  h65 -> Vars h65 [(b2, [s66c.v]), (b1, [s66.v])] ->
 callM P 18 #[more1_1.v] h65 fun r47 h66 => ∃ s309e : Sl, ∃ s309f : Int, ∃ s309g : Sl, ∃ s309h : Int, r47 = (.tuple #[(.agg #[s309e.v]), (VI s309f), (.agg #[s309g.v]), (VI s309h)]) /\ Vars h66 [(b2, [s66c.v]), (b1, [s66.v])] /\
 ∀ (b11 : Nat) (b12 : Nat) (h70 : Heap), h66.size ≤ b11 -> h66.size ≤ b12 -> Fr (In []) h66 h70 -> Vars h70 [(b12, [s309g.v]), (b11, [s309e.v]), (b2, [s66c.v]), (b1, [s66.v])] ->
 callM P 19 #[(.agg #[s309e.v]), (VI s309f), (.agg #[s309g.v]), (VI s309h)] h70 fun r48 h71 => ∃ s319c : Sl, ∃ s319d : Bool, r48 = (.tuple #[(.agg #[s319c.v]), (VB s319d)]) /\ Vars h71 [(b12, [s309g.v]), (b11, [s309e.v]), (b2, [s66c.v]), (b1, [s66.v])] /\
 ∀ (b13 : Nat) (h73 : Heap), h71.size ≤ b13 -> Fr (In []) h71 h73 -> Vars h73 [(b13, [s319c.v]), (b12, [s309g.v]), (b11, [s309e.v]), (b2, [s66c.v]), (b1, [s66.v])] ->
 callM P 20 #[(.agg #[s309e.v]), (VI s309f), (.agg #[s309g.v]), (VI s309h)] h73 fun r49 h74 => ∃ s327c : Sl, ∃ s327d : Bool, r49 = (.tuple #[(.agg #[s327c.v]), (VB s327d)]) /\ Vars h74 [(b13, [s319c.v]), (b12, [s309g.v]), (b11, [s309e.v]), (b2, [s66c.v]), (b1, [s66.v])] /\
 ((!(s319d == s327d)) = true ->
 ∀ (b14 : Nat) (h76 : Heap), h74.size ≤ b14 -> Fr (In []) h74 h76 -> Vars h76 [(b14, [s327c.v]), (b13, [s319c.v]), (b12, [s309g.v]), (b11, [s309e.v]), (b2, [s66c.v]), (b1, [s66.v])] ->
 K (VB false) h76) /\
 ((!(s319d == s327d)) = false ->
 ∀ (b14 : Nat) (h76 : Heap), h74.size ≤ b14 -> Fr (In []) h74 h76 -> Vars h76 [(b14, [s327c.v]), (b13, [s319c.v]), (b12, [s309g.v]), (b11, [s309e.v]), (b2, [s66c.v]), (b1, [s66.v])] ->
 callM P 21 #[(.agg #[s319c.v]), (.agg #[s327c.v])] h76 fun r50 h77 => ∃ s336b : Bool, r50 = (VB s336b) /\ Vars h77 [(b14, [s327c.v]), (b13, [s319c.v]), (b12, [s309g.v]), (b11, [s309e.v]), (b2, [s66c.v]), (b1, [s66.v])] /\
 ((!s336b) = true ->
 K (VB false) h77) /\
 ((!s336b) = false ->
 ∃ J13 : Heap -> Prop, ((s319d = true ->
 callM P 7 #[(.agg #[s309e.v]), (VI s309f), (.agg #[s309g.v])] h77 fun r51 h78 => ∃ s344c : Sl, ∃ s344d : Bool, r51 = (.tuple #[s344c.v, (VB s344d)]) /\ Vars h78 [(b14, [s327c.v]), (b13, [s319c.v]), (b12, [s309g.v]), (b11, [s309e.v]), (b2, [s66c.v]), (b1, [s66.v])] /\
 ∃ J14 : Nat -> Sl -> Int -> Heap -> Prop, (∃ n0 : Nat, J14 n0 nilSl 0 h78) /\
 ∀ (n17 : Nat) (own41_2 : Sl) (s349b : Int) (h79 : Heap), J14 n17 own41_2 s349b h79 -> Vars h79 [(b14, [s327c.v]), (b13, [s319c.v]), (b12, [s309g.v]), (b11, [s309e.v]), (b2, [s66c.v]), (b1, [s66.v])] ->
 ((decide (s349b < (s344c.n : Int))) = true ->
 InB s344c s349b /\
 ∃ s352b : Sl, hcell h79 (Sl.at s344c s349b 1) = some s352b.v /\
 callM P 22 #[s352b.v, (VI s309h)] h79 fun r52 h80 => ∃ s355b : Bool, r52 = (VB s355b) /\ Vars h80 [(b14, [s327c.v]), (b13, [s319c.v]), (b12, [s309g.v]), (b11, [s309e.v]), (b2, [s66c.v]), (b1, [s66.v])] /\
 (s355b = true ->
 ∃ m : Nat, m < n17 /\ J14 m s352b (w64 (s349b + 1)) h80) /\
 (s355b = false ->
 ∃ m : Nat, m < n17 /\ J14 m own41_2 (w64 (s349b + 1)) h80)) /\
 ((decide (s349b < (s344c.n : Int))) = false ->
 ((!s344d) = true ->
 K (VB false) h79) /\
 ((!s344d) = false ->
 ((decide ((own41_2.n : Int) = 0)) = true ->
 K (VB false) h79) /\
 ((decide ((own41_2.n : Int) = 0)) = false ->
 ∃ J15 : Nat -> Int -> Heap -> Prop, (∃ n0 : Nat, J15 n0 0 h79) /\
 ∀ (n18 : Nat) (s368b : Int) (h81 : Heap), J15 n18 s368b h81 -> Vars h81 [(b14, [s327c.v]), (b13, [s319c.v]), (b12, [s309g.v]), (b11, [s309e.v]), (b2, [s66c.v]), (b1, [s66.v])] ->
 ((decide (s368b < (s309e.n : Int))) = true ->
 ∃ J16 : Int -> Heap -> Prop, (callM P 22 #[own41_2.v, (VI s368b)] h81 fun r53 h82 => ∃ s373b : Bool, r53 = (VB s373b) /\ Vars h82 [(b14, [s327c.v]), (b13, [s319c.v]), (b12, [s309g.v]), (b11, [s309e.v]), (b2, [s66c.v]), (b1, [s66.v])] /\
 (s373b = true ->
 J16 1 h82) /\
 (s373b = false ->
 J16 0 h82)) /\
 ∀ (y2 : Int) (h83 : Heap), J16 y2 h83 -> Vars h83 [(b14, [s327c.v]), (b13, [s319c.v]), (b12, [s309g.v]), (b11, [s309e.v]), (b2, [s66c.v]), (b1, [s66.v])] ->
 InB s319c s368b /\
 ∃ s378b : Sl, hcell h83 (Sl.at s319c s368b 1) = some s378b.v /\
 InB s309g s368b /\
 ∃ s383b : Sl, hcell h83 (Sl.at s309g s368b 1) = some s383b.v /\
 pop P (Instr.sliceAt 33 s383b.v (some (VI y2)) none none) fun r54 => ∃ s385b : Sl, r54 = s385b.v /\ 
 callM P 16 #[s378b.v, s385b.v] h83 fun r55 h84 => ∃ s386b : Bool, r55 = (VB s386b) /\ Vars h84 [(b14, [s327c.v]), (b13, [s319c.v]), (b12, [s309g.v]), (b11, [s309e.v]), (b2, [s66c.v]), (b1, [s66.v])] /\
 hcell h84 (Sl.at s309g s368b 1) = some s383b.v /\
 ((!s386b) = true ->
 K (VB false) h84) /\
 ((!s386b) = false ->
 ∃ m : Nat, m < n18 /\ J15 m (w64 (s368b + 1)) h84)) /\
 ((decide (s368b < (s309e.n : Int))) = false ->
 J13  h81))))) /\
 (s319d = false ->
 J13  h77)) /\
 ∀ (h85 : Heap), J13  h85 -> Vars h85 [(b14, [s327c.v]), (b13, [s319c.v]), (b12, [s309g.v]), (b11, [s309e.v]), (b2, [s66c.v]), (b1, [s66.v])] ->
 callM P 23 #[more1_1.v] h85 fun r56 h86 => ∃ s391e : Sl, ∃ s391f : Int, ∃ s391g : Sl, ∃ s391h : Int, r56 = (.tuple #[(.agg #[s391e.v]), (VI s391f), s391g.v, (VI s391h)]) /\ Vars h86 [(b14, [s327c.v]), (b13, [s319c.v]), (b12, [s309g.v]), (b11, [s309e.v]), (b2, [s66c.v]), (b1, [s66.v])] /\
 ∀ (b15 : Nat) (h88 : Heap), h86.size ≤ b15 -> Fr (In []) h86 h88 -> Vars h88 [(b15, [s391e.v]), (b14, [s327c.v]), (b13, [s319c.v]), (b12, [s309g.v]), (b11, [s309e.v]), (b2, [s66c.v]), (b1, [s66.v])] ->
 callM P 24 #[(.agg #[s391e.v]), (VI s391f), s391g.v, (VI s391h)] h88 fun r57 h89 => ∃ s401c : Sl, ∃ s401d : Bool, r57 = (.tuple #[(.agg #[s401c.v]), (VB s401d)]) /\ Vars h89 [(b15, [s391e.v]), (b14, [s327c.v]), (b13, [s319c.v]), (b12, [s309g.v]), (b11, [s309e.v]), (b2, [s66c.v]), (b1, [s66.v])] /\
 ∀ (b16 : Nat) (h91 : Heap), h89.size ≤ b16 -> Fr (In []) h89 h91 -> Vars h91 [(b16, [s401c.v]), (b15, [s391e.v]), (b14, [s327c.v]), (b13, [s319c.v]), (b12, [s309g.v]), (b11, [s309e.v]), (b2, [s66c.v]), (b1, [s66.v])] ->
 callM P 25 #[(.agg #[s391e.v]), (VI s391f), s391g.v, (VI s391h)] h91 fun r58 h92 => ∃ s409c : Sl, ∃ s409d : Bool, r58 = (.tuple #[(.agg #[s409c.v]), (VB s409d)]) /\ Vars h92 [(b16, [s401c.v]), (b15, [s391e.v]), (b14, [s327c.v]), (b13, [s319c.v]), (b12, [s309g.v]), (b11, [s309e.v]), (b2, [s66c.v]), (b1, [s66.v])] /\
 ∀ (b17 : Nat) (h94 : Heap), h92.size ≤ b17 -> Fr (In []) h92 h94 -> Vars h94 [(b17, [s409c.v]), (b16, [s401c.v]), (b15, [s391e.v]), (b14, [s327c.v]), (b13, [s319c.v]), (b12, [s309g.v]), (b11, [s309e.v]), (b2, [s66c.v]), (b1, [s66.v])] ->
 callM P 26 #[more1_1.v] h94 fun r59 h95 => ∃ s413b : Sl, r59 = (.agg #[s413b.v]) /\ Vars h95 [(b17, [s409c.v]), (b16, [s401c.v]), (b15, [s391e.v]), (b14, [s327c.v]), (b13, [s319c.v]), (b12, [s309g.v]), (b11, [s309e.v]), (b2, [s66c.v]), (b1, [s66.v])] /\
 ∀ (b18 : Nat) (h97 : Heap), h95.size ≤ b18 -> Fr (In []) h95 h97 -> Vars h97 [(b18, [s413b.v]), (b17, [s409c.v]), (b16, [s401c.v]), (b15, [s391e.v]), (b14, [s327c.v]), (b13, [s319c.v]), (b12, [s309g.v]), (b11, [s309e.v]), (b2, [s66c.v]), (b1, [s66.v])] ->
 callM P 27 #[(.agg #[s413b.v])] h97 fun r60 h98 => ∃ s416c : ByteArray, ∃ s416d : Bool, r60 = (.tuple #[(VS s416c), (VB s416d)]) /\ Vars h98 [(b18, [s413b.v]), (b17, [s409c.v]), (b16, [s401c.v]), (b15, [s391e.v]), (b14, [s327c.v]), (b13, [s319c.v]), (b12, [s309g.v]), (b11, [s309e.v]), (b2, [s66c.v]), (b1, [s66.v])] /\
 callM P 28 #[(.agg #[s413b.v])] h98 fun r61 h99 => ∃ s421c : ByteArray, ∃ s421d : Bool, r61 = (.tuple #[(VS s421c), (VB s421d)]) /\ Vars h99 [(b18, [s413b.v]), (b17, [s409c.v]), (b16, [s401c.v]), (b15, [s391e.v]), (b14, [s327c.v]), (b13, [s319c.v]), (b12, [s309g.v]), (b11, [s309e.v]), (b2, [s66c.v]), (b1, [s66.v])] /\
 ((!(s401d == s409d)) = true ->
 K (VB false) h99) /\
 ((!(s401d == s409d)) = false ->
 callM P 21 #[(.agg #[s401c.v]), (.agg #[s409c.v])] h99 fun r62 h100 => ∃ s430b : Bool, r62 = (VB s430b) /\ Vars h100 [(b18, [s413b.v]), (b17, [s409c.v]), (b16, [s401c.v]), (b15, [s391e.v]), (b14, [s327c.v]), (b13, [s319c.v]), (b12, [s309g.v]), (b11, [s309e.v]), (b2, [s66c.v]), (b1, [s66.v])] /\
 ((!s430b) = true ->
 K (VB false) h100) /\
 ((!s430b) = false ->
 ((!(s416d == s421d)) = true ->
 K (VB false) h100) /\
 ((!(s416d == s421d)) = false ->
 ((!(ByteArray.toList s416c == ByteArray.toList s421c)) = true ->
 K (VB false) h100) /\
 ((!(ByteArray.toList s416c == ByteArray.toList s421c)) = false ->
 (s401d = true ->
 callM P 11 #[(.agg #[s391e.v]), (VI s391f), (.agg #[s401c.v])] h100 fun r63 h101 => ∃ s448c : Bool, ∃ s448d : Bool, r63 = (.tuple #[(VB s448c), (VB s448d)]) /\ Vars h101 [(b18, [s413b.v]), (b17, [s409c.v]), (b16, [s401c.v]), (b15, [s391e.v]), (b14, [s327c.v]), (b13, [s319c.v]), (b12, [s309g.v]), (b11, [s309e.v]), (b2, [s66c.v]), (b1, [s66.v])] /\
 (s448d = true ->
 K (VB s448c) h101) /\
 (s448d = false ->
 K (VB false) h101)) /\
 (s401d = false ->
 K (VB true) h100)))))))))) /\
 (s74b = false ->
 ((!(s88b == false)) = true ->
 K (VB false) h17) /\
 ((!(s88b == false)) = false ->
 (s116b = true ->
 ((!s74b) = true ->
 K (VB false) h17) /\
 ((!s74b) = false ->
 ∃ J17 : Heap -> Prop, (J17  h17) /\
 ∀ (h102 : Heap), J17  h102 -> Vars h102 [(b2, [s66c.v]), (b1, [s66.v])] ->
 callM P 18 #[more1_1.v] h102 fun r64 h103 => ∃ s309i : Sl, ∃ t309_10 : Int, ∃ t309_11 : Sl, ∃ t309_12 : Int, r64 = (.tuple #[(.agg #[s309i.v]), (VI t309_10), (.agg #[t309_11.v]), (VI t309_12)]) /\ Vars h103 [(b2, [s66c.v]), (b1, [s66.v])] /\
 ∀ (b19 : Nat) (b20 : Nat) (h107 : Heap), h103.size ≤ b19 -> h103.size ≤ b20 -> Fr (In []) h103 h107 -> Vars h107 [(b20, [t309_11.v]), (b19, [s309i.v]), (b2, [s66c.v]), (b1, [s66.v])] ->
 callM P 19 #[(.agg #[s309i.v]), (VI t309_10), (.agg #[t309_11.v]), (VI t309_12)] h107 fun r65 h108 => ∃ s319e : Sl, ∃ s319f : Bool, r65 = (.tuple #[(.agg #[s319e.v]), (VB s319f)]) /\ Vars h108 [(b20, [t309_11.v]), (b19, [s309i.v]), (b2, [s66c.v]), (b1, [s66.v])] /\
 ∀ (b21 : Nat) (h110 : Heap), h108.size ≤ b21 -> Fr (In []) h108 h110 -> Vars h110 [(b21, [s319e.v]), (b20, [t309_11.v]), (b19, [s309i.v]), (b2, [s66c.v]), (b1, [s66.v])] ->
 callM P 20 #[(.agg #[s309i.v]), (VI t309_10), (.agg #[t309_11.v]), (VI t309_12)] h110 fun r66 h111 => ∃ s327e : Sl, ∃ s327f : Bool, r66 = (.tuple #[(.agg #[s327e.v]), (VB s327f)]) /\ Vars h111 [(b21, [s319e.v]), (b20, [t309_11.v]), (b19, [s309i.v]), (b2, [s66c.v]), (b1, [s66.v])] /\
 ((!(s319f == s327f)) = true ->
 ∀ (b22 : Nat) (h113 : Heap), h111.size ≤ b22 -> Fr (In []) h111 h113 -> Vars h113 [(b22, [s327e.v]), (b21, [s319e.v]), (b20, [t309_11.v]), (b19, [s309i.v]), (b2, [s66c.v]), (b1, [s66.v])] ->
 K (VB false) h113) /\
 ((!(s319f == s327f)) = false ->
 ∀ (b22 : Nat) (h113 : Heap), h111.size ≤ b22 -> Fr (In []) h111 h113 -> Vars h113 [(b22, [s327e.v]), (b21, [s319e.v]), (b20, [t309_11.v]), (b19, [s309i.v]), (b2, [s66c.v]), (b1, [s66.v])] ->
 callM P 21 #[(.agg #[s319e.v]), (.agg #[s327e.v])] h113 fun r67 h114 => ∃ s336c : Bool, r67 = (VB s336c) /\ Vars h114 [(b22, [s327e.v]), (b21, [s319e.v]), (b20, [t309_11.v]), (b19, [s309i.v]), (b2, [s66c.v]), (b1, [s66.v])] /\
 ((!s336c) = true ->
 K (VB false) h114) /\
 ((!s336c) = false ->
 ∃ J18 : Heap -> Prop, ((s319f = true ->
 callM P 7 #[(.agg #[s309i.v]), (VI t309_10), (.agg #[t309_11.v])] h114 fun r68 h115 => ∃ s344e : Sl, ∃ s344f : Bool, r68 = (.tuple #[s344e.v, (VB s344f)]) /\ Vars h115 [(b22, [s327e.v]), (b21, [s319e.v]), (b20, [t309_11.v]), (b19, [s309i.v]), (b2, [s66c.v]), (b1, [s66.v])] /\
 ∃ J19 : Nat -> Sl -> Int -> Heap -> Prop, (∃ n0 : Nat, J19 n0 nilSl 0 h115) /\
 ∀ (n21 : Nat) (own41_3 : Sl) (s349c : Int) (h116 : Heap), J19 n21 own41_3 s349c h116 -> Vars h116 [(b22, [s327e.v]), (b21, [s319e.v]), (b20, [t309_11.v]), (b19, [s309i.v]), (b2, [s66c.v]), (b1, [s66.v])] ->
 ((decide (s349c < (s344e.n : Int))) = true ->
 InB s344e s349c /\
 ∃ s352c : Sl, hcell h116 (Sl.at s344e s349c 1) = some s352c.v /\
 callM P 22 #[s352c.v, (VI t309_12)] h116 fun r69 h117 => ∃ s355c : Bool, r69 = (VB s355c) /\ Vars h117 [(b22, [s327e.v]), (b21, [s319e.v]), (b20, [t309_11.v]), (b19, [s309i.v]), (b2, [s66c.v]), (b1, [s66.v])] /\
 (s355c = true ->
 ∃ m : Nat, m < n21 /\ J19 m s352c (w64 (s349c + 1)) h117) /\
 (s355c = false ->
 ∃ m : Nat, m < n21 /\ J19 m own41_3 (w64 (s349c + 1)) h117)) /\
 ((decide (s349c < (s344e.n : Int))) = false ->
 ((!s344f) = true ->
 K (VB false) h116) /\
 ((!s344f) = false ->
 ((decide ((own41_3.n : Int) = 0)) = true ->
 K (VB false) h116) /\
 ((decide ((own41_3.n : Int) = 0)) = false ->
 ∃ J20 : Nat -> Int -> Heap -> Prop, (∃ n0 : Nat, J20 n0 0 h116) /\
 ∀ (n22 : Nat) (s368c : Int) (h118 : Heap), J20 n22 s368c h118 -> Vars h118 [(b22, [s327e.v]), (b21, [s319e.v]), (b20, [t309_11.v]), (b19, [s309i.v]), (b2, [s66c.v]), (b1, [s66.v])] ->
 ((decide (s368c < (s309i.n : Int))) = true ->
 ∃ J21 : Int -> Heap -> Prop, (callM P 22 #[own41_3.v, (VI s368c)] h118 fun r70 h119 => ∃ s373c : Bool, r70 = (VB s373c) /\ Vars h119 [(b22, [s327e.v]), (b21, [s319e.v]), (b20, [t309_11.v]), (b19, [s309i.v]), (b2, [s66c.v]), (b1, [s66.v])] /\
 (s373c = true ->
 J21 1 h119) /\
 (s373c = false ->
 J21 0 h119)) /\
 ∀ (y3 : Int) (h120 : Heap), J21 y3 h120 -> Vars h120 [(b22, [s327e.v]), (b21, [s319e.v]), (b20, [t309_11.v]), (b19, [s309i.v]), (b2, [s66c.v]), (b1, [s66.v])] ->
 InB s319e s368c /\
 ∃ s378c : Sl, hcell h120 (Sl.at s319e s368c 1) = some s378c.v /\
 InB t309_11 s368c /\
 ∃ s383c : Sl, hcell h120 (Sl.at t309_11 s368c 1) = some s383c.v /\
 pop P (Instr.sliceAt 33 s383c.v (some (VI y3)) none none) fun r71 => ∃ s385c : Sl, r71 = s385c.v /\ 
 callM P 16 #[s378c.v, s385c.v] h120 fun r72 h121 => ∃ s386c : Bool, r72 = (VB s386c) /\ Vars h121 [(b22, [s327e.v]), (b21, [s319e.v]), (b20, [t309_11.v]), (b19, [s309i.v]), (b2, [s66c.v]), (b1, [s66.v])] /\
 hcell h121 (Sl.at t309_11 s368c 1) = some s383c.v /\
 ((!s386c) = true ->
 K (VB false) h121) /\
 ((!s386c) = false ->
 ∃ m : Nat, m < n22 /\ J20 m (w64 (s368c + 1)) h121)) /\
 ((decide (s368c < (s309i.n : Int))) = false ->
 J18  h118))))) /\
 (s319f = false ->
 J18  h114)) /\
 ∀ (h122 : Heap), J18  h122 -> Vars h122 [(b22, [s327e.v]), (b21, [s319e.v]), (b20, [t309_11.v]), (b19, [s309i.v]), (b2, [s66c.v]), (b1, [s66.v])] ->
 callM P 23 #[more1_1.v] h122 fun r73 h123 => ∃ s391i : Sl, ∃ t391_10 : Int, ∃ t391_11 : Sl, ∃ t391_12 : Int, r73 = (.tuple #[(.agg #[s391i.v]), (VI t391_10), t391_11.v, (VI t391_12)]) /\ Vars h123 [(b22, [s327e.v]), (b21, [s319e.v]), (b20, [t309_11.v]), (b19, [s309i.v]), (b2, [s66c.v]), (b1, [s66.v])] /\
 ∀ (b23 : Nat) (h125 : Heap), h123.size ≤ b23 -> Fr (In []) h123 h125 -> Vars h125 [(b23, [s391i.v]), (b22, [s327e.v]), (b21, [s319e.v]), (b20, [t309_11.v]), (b19, [s309i.v]), (b2, [s66c.v]), (b1, [s66.v])] ->
 callM P 24 #[(.agg #[s391i.v]), (VI t391_10), t391_11.v, (VI t391_12)] h125 fun r74 h126 => ∃ s401e : Sl, ∃ s401f : Bool, r74 = (.tuple #[(.agg #[s401e.v]), (VB s401f)]) /\ Vars h126 [(b23, [s391i.v]), (b22, [s327e.v]), (b21, [s319e.v]), (b20, [t309_11.v]), (b19, [s309i.v]), (b2, [s66c.v]), (b1, [s66.v])] /\
 ∀ (b24 : Nat) (h128 : Heap), h126.size ≤ b24 -> Fr (In []) h126 h128 -> Vars h128 [(b24, [s401e.v]), (b23, [s391i.v]), (b22, [s327e.v]), (b21, [s319e.v]), (b20, [t309_11.v]), (b19, [s309i.v]), (b2, [s66c.v]), (b1, [s66.v])] ->
 callM P 25 #[(.agg #[s391i.v]), (VI t391_10), t391_11.v, (VI t391_12)] h128 fun r75 h129 => ∃ s409e : Sl, ∃ s409f : Bool, r75 = (.tuple #[(.agg #[s409e.v]), (VB s409f)]) /\ Vars h129 [(b24, [s401e.v]), (b23, [s391i.v]), (b22, [s327e.v]), (b21, [s319e.v]), (b20, [t309_11.v]), (b19, [s309i.v]), (b2, [s66c.v]), (b1, [s66.v])] /\
 ∀ (b25 : Nat) (h131 : Heap), h129.size ≤ b25 -> Fr (In []) h129 h131 -> Vars h131 [(b25, [s409e.v]), (b24, [s401e.v]), (b23, [s391i.v]), (b22, [s327e.v]), (b21, [s319e.v]), (b20, [t309_11.v]), (b19, [s309i.v]), (b2, [s66c.v]), (b1, [s66.v])] ->
 callM P 26 #[more1_1.v] h131 fun r76 h132 => ∃ s413c : Sl, r76 = (.agg #[s413c.v]) /\ Vars h132 [(b25, [s409e.v]), (b24, [s401e.v]), (b23, [s391i.v]), (b22, [s327e.v]), (b21, [s319e.v]), (b20, [t309_11.v]), (b19, [s309i.v]), (b2, [s66c.v]), (b1, [s66.v])] /\
 ∀ (b26 : Nat) (h134 : Heap), h132.size ≤ b26 -> Fr (In []) h132 h134 -> Vars h134 [(b26, [s413c.v]), (b25, [s409e.v]), (b24, [s401e.v]), (b23, [s391i.v]), (b22, [s327e.v]), (b21, [s319e.v]), (b20, [t309_11.v]), (b19, [s309i.v]), (b2, [s66c.v]), (b1, [s66.v])] ->
 callM P 27 #[(.agg #[s413c.v])] h134 fun r77 h135 => ∃ s416e : ByteArray, ∃ s416f : Bool, r77 = (.tuple #[(VS s416e), (VB s416f)]) /\ Vars h135 [(b26, [s413c.v]), (b25, [s409e.v]), (b24, [s401e.v]), (b23, [s391i.v]), (b22, [s327e.v]), (b21, [s319e.v]), (b20, [t309_11.v]), (b19, [s309i.v]), (b2, [s66c.v]), (b1, [s66.v])] /\
 callM P 28 #[(.agg #[s413c.v])] h135 fun r78 h136 => ∃ s421e : ByteArray, ∃ s421f : Bool, r78 = (.tuple #[(VS s421e), (VB s421f)]) /\ Vars h136 [(b26, [s413c.v]), (b25, [s409e.v]), (b24, [s401e.v]), (b23, [s391i.v]), (b22, [s327e.v]), (b21, [s319e.v]), (b20, [t309_11.v]), (b19, [s309i.v]), (b2, [s66c.v]), (b1, [s66.v])] /\
 ((!(s401f == s409f)) = true ->
 K (VB false) h136) /\
 ((!(s401f == s409f)) = false ->
 callM P 21 #[(.agg #[s401e.v]), (.agg #[s409e.v])] h136 fun r79 h137 => ∃ s430c : Bool, r79 = (VB s430c) /\ Vars h137 [(b26, [s413c.v]), (b25, [s409e.v]), (b24, [s401e.v]), (b23, [s391i.v]), (b22, [s327e.v]), (b21, [s319e.v]), (b20, [t309_11.v]), (b19, [s309i.v]), (b2, [s66c.v]), (b1, [s66.v])] /\
 ((!s430c) = true ->
 K (VB false) h137) /\
 ((!s430c) = false ->
 ((!(s416f == s421f)) = true ->
 K (VB false) h137) /\
 ((!(s416f == s421f)) = false ->
 ((!(ByteArray.toList s416e == ByteArray.toList s421e)) = true ->
 K (VB false) h137) /\
 ((!(ByteArray.toList s416e == ByteArray.toList s421e)) = false ->
 (s401f = true ->
 callM P 11 #[(.agg #[s391i.v]), (VI t391_10), (.agg #[s401e.v])] h137 fun r80 h138 => ∃ s448e : Bool, ∃ s448f : Bool, r80 = (.tuple #[(VB s448e), (VB s448f)]) /\ Vars h138 [(b26, [s413c.v]), (b25, [s409e.v]), (b24, [s401e.v]), (b23, [s391i.v]), (b22, [s327e.v]), (b21, [s319e.v]), (b20, [t309_11.v]), (b19, [s309i.v]), (b2, [s66c.v]), (b1, [s66.v])] /\
 (s448f = true ->
 K (VB s448e) h138) /\
 (s448f = false ->
 K (VB false) h138)) /\
 (s401f = false ->
 K (VB true) h137))))))))) /\
 (s116b = false ->
 ∃ J22 : Heap -> Prop, (J22  h17) /\
 ∀ (h139 : Heap), J22  h139 -> Vars h139 [(b2, [s66c.v]), (b1, [s66.v])] ->
 callM P 18 #[more1_1.v] h139 fun r81 h140 => ∃ t309_13 : Sl, ∃ t309_14 : Int, ∃ t309_15 : Sl, ∃ t309_16 : Int, r81 = (.tuple #[(.agg #[t309_13.v]), (VI t309_14), (.agg #[t309_15.v]), (VI t309_16)]) /\ Vars h140 [(b2, [s66c.v]), (b1, [s66.v])] /\
 ∀ (b27 : Nat) (b28 : Nat) (h144 : Heap), h140.size ≤ b27 -> h140.size ≤ b28 -> Fr (In []) h140 h144 -> Vars h144 [(b28, [t309_15.v]), (b27, [t309_13.v]), (b2, [s66c.v]), (b1, [s66.v])] ->
 callM P 19 #[(.agg #[t309_13.v]), (VI t309_14), (.agg #[t309_15.v]), (VI t309_16)] h144 fun r82 h145 => ∃ s319g : Sl, ∃ s319h : Bool, r82 = (.tuple #[(.agg #[s319g.v]), (VB s319h)]) /\ Vars h145 [(b28, [t309_15.v]), (b27, [t309_13.v]), (b2, [s66c.v]), (b1, [s66.v])] /\
 ∀ (b29 : Nat) (h147 : Heap), h145.size ≤ b29 -> Fr (In []) h145 h147 -> Vars h147 [(b29, [s319g.v]), (b28, [t309_15.v]), (b27, [t309_13.v]), (b2, [s66c.v]), (b1, [s66.v])] ->
 callM P 20 #[(.agg #[t309_13.v]), (VI t309_14), (.agg #[t309_15.v]), (VI t309_16)] h147 fun r83 h148 => ∃ s327g : Sl, ∃ s327h : Bool, r83 = (.tuple #[(.agg #[s327g.v]), (VB s327h)]) /\ Vars h148 [(b29, [s319g.v]), (b28, [t309_15.v]), (b27, [t309_13.v]), (b2, [s66c.v]), (b1, [s66.v])] /\
 ((!(s319h == s327h)) = true ->
 ∀ (b30 : Nat) (h150 : Heap), h148.size ≤ b30 -> Fr (In []) h148 h150 -> Vars h150 [(b30, [s327g.v]), (b29, [s319g.v]), (b28, [t309_15.v]), (b27, [t309_13.v]), (b2, [s66c.v]), (b1, [s66.v])] ->
 K (VB false) h150) /\
 ((!(s319h == s327h)) = false ->
 ∀ (b30 : Nat) (h150 : Heap), h148.size ≤ b30 -> Fr (In []) h148 h150 -> Vars h150 [(b30, [s327g.v]), (b29, [s319g.v]), (b28, [t309_15.v]), (b27, [t309_13.v]), (b2, [s66c.v]), (b1, [s66.v])] ->
 callM P 21 #[(.agg #[s319g.v]), (.agg #[s327g.v])] h150 fun r84 h151 => ∃ s336d : Bool, r84 = (VB s336d) /\ Vars h151 [(b30, [s327g.v]), (b29, [s319g.v]), (b28, [t309_15.v]), (b27, [t309_13.v]), (b2, [s66c.v]), (b1, [s66.v])] /\
 ((!s336d) = true ->
 K (VB false) h151) /\
 ((!s336d) = false ->
 ∃ J23 : Heap -> Prop, ((s319h = true ->
 callM P 7 #[(.agg #[t309_13.v]), (VI t309_14), (.agg #[t309_15.v])] h151 fun r85 h152 => ∃ s344g : Sl, ∃ s344h : Bool, r85 = (.tuple #[s344g.v, (VB s344h)]) /\ Vars h152 [(b30, [s327g.v]), (b29, [s319g.v]), (b28, [t309_15.v]), (b27, [t309_13.v]), (b2, [s66c.v]), (b1, [s66.v])] /\
 ∃ J24 : Nat -> Sl -> Int -> Heap -> Prop, (∃ n0 : Nat, J24 n0 nilSl 0 h152) /\
 ∀ (n25 : Nat) (own41_4 : Sl) (s349d : Int) (h153 : Heap), J24 n25 own41_4 s349d h153 -> Vars h153 [(b30, [s327g.v]), (b29, [s319g.v]), (b28, [t309_15.v]), (b27, [t309_13.v]), (b2, [s66c.v]), (b1, [s66.v])] ->
 ((decide (s349d < (s344g.n : Int))) = true ->
 InB s344g s349d /\
 ∃ s352d : Sl, hcell h153 (Sl.at s344g s349d 1) = some s352d.v /\
 callM P 22 #[s352d.v, (VI t309_16)] h153 fun r86 h154 => ∃ s355d : Bool, r86 = (VB s355d) /\ Vars h154 [(b30, [s327g.v]), (b29, [s319g.v]), (b28, [t309_15.v]), (b27, [t309_13.v]), (b2, [s66c.v]), (b1, [s66.v])] /\
 (s355d = true ->
 ∃ m : Nat, m < n25 /\ J24 m s352d (w64 (s349d + 1)) h154) /\
 (s355d = false ->
 ∃ m : Nat, m < n25 /\ J24 m own41_4 (w64 (s349d + 1)) h154)) /\
 ((decide (s349d < (s344g.n : Int))) = false ->
 ((!s344h) = true ->
 K (VB false) h153) /\
 ((!s344h) = false ->
 ((decide ((own41_4.n : Int) = 0)) = true ->
 K (VB false) h153) /\
 ((decide ((own41_4.n : Int) = 0)) = false ->
 ∃ J25 : Nat -> Int -> Heap -> Prop, (∃ n0 : Nat, J25 n0 0 h153) /\
 ∀ (n26 : Nat) (s368d : Int) (h155 : Heap), J25 n26 s368d h155 -> Vars h155 [(b30, [s327g.v]), (b29, [s319g.v]), (b28, [t309_15.v]), (b27, [t309_13.v]), (b2, [s66c.v]), (b1, [s66.v])] ->
 ((decide (s368d < (t309_13.n : Int))) = true ->
 ∃ J26 : Int -> Heap -> Prop, (callM P 22 #[own41_4.v, (VI s368d)] h155 fun r87 h156 => ∃ s373d : Bool, r87 = (VB s373d) /\ Vars h156 [(b30, [s327g.v]), (b29, [s319g.v]), (b28, [t309_15.v]), (b27, [t309_13.v]), (b2, [s66c.v]), (b1, [s66.v])] /\
 (s373d = true ->
 J26 1 h156) /\
 (s373d = false ->
 J26 0 h156)) /\
 ∀ (y4 : Int) (h157 : Heap), J26 y4 h157 -> Vars h157 [(b30, [s327g.v]), (b29, [s319g.v]), (b28, [t309_15.v]), (b27, [t309_13.v]), (b2, [s66c.v]), (b1, [s66.v])] ->
 InB s319g s368d /\
 ∃ s378d : Sl, hcell h157 (Sl.at s319g s368d 1) = some s378d.v /\
 InB t309_15 s368d /\
 ∃ s383d : Sl, hcell h157 (Sl.at t309_15 s368d 1) = some s383d.v /\
 pop P (Instr.sliceAt 33 s383d.v (some (VI y4)) none none) fun r88 => ∃ s385d : Sl, r88 = s385d.v /\ 
 callM P 16 #[s378d.v, s385d.v] h157 fun r89 h158 => ∃ s386d : Bool, r89 = (VB s386d) /\ Vars h158 [(b30, [s327g.v]), (b29, [s319g.v]), (b28, [t309_15.v]), (b27, [t309_13.v]), (b2, [s66c.v]), (b1, [s66.v])] /\
 hcell h158 (Sl.at t309_15 s368d 1) = some s383d.v /\
 ((!s386d) = true ->
 K (VB false) h158) /\
 ((!s386d) = false ->
 ∃ m : Nat, m < n26 /\ J25 m (w64 (s368d + 1)) h158)) /\
 ((decide (s368d < (t309_13.n : Int))) = false ->
 J23  h155))))) /\
 (s319h = false ->
 J23  h151)) /\
 ∀ (h159 : Heap), J23  h159 -> Vars h159 [(b30, [s327g.v]), (b29, [s319g.v]), (b28, [t309_15.v]), (b27, [t309_13.v]), (b2, [s66c.v]), (b1, [s66.v])] ->
 callM P 23 #[more1_1.v] h159 fun r90 h160 => ∃ t391_13 : Sl, ∃ t391_14 : Int, ∃ t391_15 : Sl, ∃ t391_16 : Int, r90 = (.tuple #[(.agg #[t391_13.v]), (VI t391_14), t391_15.v, (VI t391_16)]) /\ Vars h160 [(b30, [s327g.v]), (b29, [s319g.v]), (b28, [t309_15.v]), (b27, [t309_13.v]), (b2, [s66c.v]), (b1, [s66.v])] /\
 ∀ (b31 : Nat) (h162 : Heap), h160.size ≤ b31 -> Fr (In []) h160 h162 -> Vars h162 [(b31, [t391_13.v]), (b30, [s327g.v]), (b29, [s319g.v]), (b28, [t309_15.v]), (b27, [t309_13.v]), (b2, [s66c.v]), (b1, [s66.v])] ->
 callM P 24 #[(.agg #[t391_13.v]), (VI t391_14), t391_15.v, (VI t391_16)] h162 fun r91 h163 => ∃ s401g : Sl, ∃ s401h : Bool, r91 = (.tuple #[(.agg #[s401g.v]), (VB s401h)]) /\ Vars h163 [(b31, [t391_13.v]), (b30, [s327g.v]), (b29, [s319g.v]), (b28, [t309_15.v]), (b27, [t309_13.v]), (b2, [s66c.v]), (b1, [s66.v])] /\
 ∀ (b32 : Nat) (h165 : Heap), h163.size ≤ b32 -> Fr (In []) h163 h165 -> Vars h165 [(b32, [s401g.v]), (b31, [t391_13.v]), (b30, [s327g.v]), (b29, [s319g.v]), (b28, [t309_15.v]), (b27, [t309_13.v]), (b2, [s66c.v]), (b1, [s66.v])] ->
 callM P 25 #[(.agg #[t391_13.v]), (VI t391_14), t391_15.v, (VI t391_16)] h165 fun r92 h166 => ∃ s409g : Sl, ∃ s409h : Bool, r92 = (.tuple #[(.agg #[s409g.v]), (VB s409h)]) /\ Vars h166 [(b32, [s401g.v]), (b31, [t391_13.v]), (b30, [s327g.v]), (b29, [s319g.v]), (b28, [t309_15.v]), (b27, [t309_13.v]), (b2, [s66c.v]), (b1, [s66.v])] /\
 ∀ (b33 : Nat) (h168 : Heap), h166.size ≤ b33 -> Fr (In []) h166 h168 -> Vars h168 [(b33, [s409g.v]), (b32, [s401g.v]), (b31, [t391_13.v]), (b30, [s327g.v]), (b29, [s319g.v]), (b28, [t309_15.v]), (b27, [t309_13.v]), (b2, [s66c.v]), (b1, [s66.v])] ->
 callM P 26 #[more1_1.v] h168 fun r93 h169 => ∃ s413d : Sl, r93 = (.agg #[s413d.v]) /\ Vars h169 [(b33, [s409g.v]), (b32, [s401g.v]), (b31, [t391_13.v]), (b30, [s327g.v]), (b29, [s319g.v]), (b28, [t309_15.v]), (b27, [t309_13.v]), (b2, [s66c.v]), (b1, [s66.v])] /\
 ∀ (b34 : Nat) (h171 : Heap), h169.size ≤ b34 -> Fr (In []) h169 h171 -> Vars h171 [(b34, [s413d.v]), (b33, [s409g.v]), (b32, [s401g.v]), (b31, [t391_13.v]), (b30, [s327g.v]), (b29, [s319g.v]), (b28, [t309_15.v]), (b27, [t309_13.v]), (b2, [s66c.v]), (b1, [s66.v])] ->
 callM P 27 #[(.agg #[s413d.v])] h171 fun r94 h172 => ∃ s416g : ByteArray, ∃ s416h : Bool, r94 = (.tuple #[(VS s416g), (VB s416h)]) /\ Vars h172 [(b34, [s413d.v]), (b33, [s409g.v]), (b32, [s401g.v]), (b31, [t391_13.v]), (b30, [s327g.v]), (b29, [s319g.v]), (b28, [t309_15.v]), (b27, [t309_13.v]), (b2, [s66c.v]), (b1, [s66.v])] /\
 callM P 28 #[(.agg #[s413d.v])] h172 fun r95 h173 => ∃ s421g : ByteArray, ∃ s421h : Bool, r95 = (.tuple #[(VS s421g), (VB s421h)]) /\ Vars h173 [(b34, [s413d.v]), (b33, [s409g.v]), (b32, [s401g.v]), (b31, [t391_13.v]), (b30, [s327g.v]), (b29, [s319g.v]), (b28, [t309_15.v]), (b27, [t309_13.v]), (b2, [s66c.v]), (b1, [s66.v])] /\
 ((!(s401h == s409h)) = true ->
 K (VB false) h173) /\
 ((!(s401h == s409h)) = false ->
 callM P 21 #[(.agg #[s401g.v]), (.agg #[s409g.v])] h173 fun r96 h174 => ∃ s430d : Bool, r96 = (VB s430d) /\ Vars h174 [(b34, [s413d.v]), (b33, [s409g.v]), (b32, [s401g.v]), (b31, [t391_13.v]), (b30, [s327g.v]), (b29, [s319g.v]), (b28, [t309_15.v]), (b27, [t309_13.v]), (b2, [s66c.v]), (b1, [s66.v])] /\
 ((!s430d) = true ->
 K (VB false) h174) /\
 ((!s430d) = false ->
 ((!(s416h == s421h)) = true ->
 K (VB false) h174) /\
 ((!(s416h == s421h)) = false ->
 ((!(ByteArray.toList s416g == ByteArray.toList s421g)) = true ->
 K (VB false) h174) /\
 ((!(ByteArray.toList s416g == ByteArray.toList s421g)) = false ->
 (s401h = true ->
 callM P 11 #[(.agg #[t391_13.v]), (VI t391_14), (.agg #[s401g.v])] h174 fun r97 h175 => ∃ s448g : Bool, ∃ s448h : Bool, r97 = (.tuple #[(VB s448g), (VB s448h)]) /\ Vars h175 [(b34, [s413d.v]), (b33, [s409g.v]), (b32, [s401g.v]), (b31, [t391_13.v]), (b30, [s327g.v]), (b29, [s319g.v]), (b28, [t309_15.v]), (b27, [t309_13.v]), (b2, [s66c.v]), (b1, [s66.v])] /\
 (s448h = true ->
 K (VB s448g) h175) /\
 (s448h = false ->
 K (VB false) h175)) /\
 (s401h = false ->
 K (VB true) h174)))))))))))) /\
 (s102b = false ->
 ((!(s74b == false)) = true ->
 K (VB false) h17) /\
 ((!(s74b == false)) = false ->
 (s74b = true ->
 ((!(s88b == (decide (0 < (s74.n : Int))))) = true ->
 K (VB false) h17) /\
 ((!(s88b == (decide (0 < (s74.n : Int))))) = false ->
 (s116b = true ->
 ((!s74b) = true ->
 K (VB false) h17) /\
 ((!s74b) = false ->
 ∃ J27 : Heap -> Prop, (∃ J28 : Nat -> Int -> Int -> Heap -> Prop, (∃ n0 : Nat, J28 n0 0 0 h17) /\
 ∀ (n29 : Nat) (seen24_7 : Int) (s195c : Int) (h176 : Heap), J28 n29 seen24_7 s195c h176 -> Vars h176 [(b2, [s66c.v]), (b1, [s66.v])] ->
 ((decide (s195c < (s74.n : Int))) = true ->
 InB s74 s195c /\
 ∃ s199c : Sl, hcell h176 (Sl.at s74 s195c 1) = some s199c.v /\
 ((decide (0 < s195c)) = true ->
 InB s74 (w64 (s195c - 1)) /\
 ∃ s207c : Sl, hcell h176 (Sl.at s74 (w64 (s195c - 1)) 1) = some s207c.v /\
 InB s207c 0 /\
 ∃ s209c : Int, hcell h176 (Sl.at s207c 0 1) = some (VI s209c) /\
 InB s199c 0 /\
 ∃ s212c : Int, hcell h176 (Sl.at s199c 0 1) = some (VI s212c) /\
 ((decide (s212c ≤ s209c)) = true ->
 K (VB false) h176) /\
 ((decide (s212c ≤ s209c)) = false ->
 ∃ J29 : Nat -> Int -> Int -> Heap -> Prop, (∃ n0 : Nat, J29 n0 seen24_7 0 h176) /\
 ∀ (n30 : Nat) (seen24_8 : Int) (s217e : Int) (h177 : Heap), J29 n30 seen24_8 s217e h177 -> Vars h177 [(b2, [s66c.v]), (b1, [s66.v])] ->
 ((decide (s217e < (s199c.n : Int))) = true ->
 InB s199c s217e /\
 ∃ s221e : Int, hcell h177 (Sl.at s199c s217e 1) = some (VI s221e) /\
 InB s199c 0 /\
 ∃ s225e : Int, hcell h177 (Sl.at s199c 0 1) = some (VI s225e) /\
 ((decide (s221e < s225e)) = true ->
 K (VB false) h177) /\
 ((decide (s221e < s225e)) = false ->
 ((decide (s221e = s66b)) = true ->
 K (VB false) h177) /\
 ((decide (s221e = s66b)) = false ->
 pop P (binA .shr 3 (VI seen24_8) (VI s221e)) fun r98 => ∃ s235e : Int, r98 = (VI s235e) /\ 
 ((decide ((Int.tmod s235e 2) = 1)) = true ->
 K (VB false) h177) /\
 ((decide ((Int.tmod s235e 2) = 1)) = false ->
 InB s66c s221e /\
 ∃ s244e : Sl, hcell h177 (Sl.at s66c s221e 1) = some s244e.v /\
 ((decide ((s244e.n : Int) = 0)) = true ->
 K (VB false) h177) /\
 ((decide ((s244e.n : Int) = 0)) = false ->
 InB s66 s221e /\
 ∃ s253e : Sl, hcell h177 (Sl.at s66 s221e 1) = some s253e.v /\
 InB s66c s221e /\
 ∃ s258e : Sl, hcell h177 (Sl.at s66c s221e 1) = some s258e.v /\
 InB s258e 0 /\
 ∃ s260e : Int, hcell h177 (Sl.at s258e 0 1) = some (VI s260e) /\
 InB s253e s260e /\
 ∃ s262e : Int, hcell h177 (Sl.at s253e s260e 1) = some (VI s262e) /\
 (s199c.n : Int) ≠ 0 /\
 InB s199c (Int.tmod (w64 (s217e + 1)) (s199c.n : Int)) /\
 ∃ s270e : Int, hcell h177 (Sl.at s199c (Int.tmod (w64 (s217e + 1)) (s199c.n : Int)) 1) = some (VI s270e) /\
 ((!decide (s262e = s270e)) = true ->
 K (VB false) h177) /\
 ((!decide (s262e = s270e)) = false ->
 pop P (binA .shl 3 (.int .i64 1) (VI s221e)) fun r99 => ∃ s275e : Int, r99 = (VI s275e) /\ 
 pop P (binA .or 3 (VI seen24_8) (VI s275e)) fun r100 => ∃ s276e : Int, r100 = (VI s276e) /\ 
 ∃ m : Nat, m < n30 /\ J29 m s276e (w64 (s217e + 1)) h177)))))) /\
 ((decide (s217e < (s199c.n : Int))) = false ->
 ∃ m : Nat, m < n29 /\ J28 m seen24_8 (w64 (s195c + 1)) h177))) /\
 ((decide (0 < s195c)) = false ->
 ∃ J30 : Nat -> Int -> Int -> Heap -> Prop, (∃ n0 : Nat, J30 n0 seen24_7 0 h176) /\
 ∀ (n32 : Nat) (seen24_9 : Int) (s217f : Int) (h178 : Heap), J30 n32 seen24_9 s217f h178 -> Vars h178 [(b2, [s66c.v]), (b1, [s66.v])] ->
 ((decide (s217f < (s199c.n : Int))) = true ->
 InB s199c s217f /\
 ∃ s221f : Int, hcell h178 (Sl.at s199c s217f 1) = some (VI s221f) /\
 InB s199c 0 /\
 ∃ s225f : Int, hcell h178 (Sl.at s199c 0 1) = some (VI s225f) /\
 ((decide (s221f < s225f)) = true ->
 K (VB false) h178) /\
 ((decide (s221f < s225f)) = false ->
 ((decide (s221f = s66b)) = true ->
 K (VB false) h178) /\
 ((decide (s221f = s66b)) = false ->
 pop P (binA .shr 3 (VI seen24_9) (VI s221f)) fun r101 => ∃ s235f : Int, r101 = (VI s235f) /\ 
 ((decide ((Int.tmod s235f 2) = 1)) = true ->
 K (VB false) h178) /\
 ((decide ((Int.tmod s235f 2) = 1)) = false ->
 InB s66c s221f /\
 ∃ s244f : Sl, hcell h178 (Sl.at s66c s221f 1) = some s244f.v /\
 ((decide ((s244f.n : Int) = 0)) = true ->
 K (VB false) h178) /\
 ((decide ((s244f.n : Int) = 0)) = false ->
 InB s66 s221f /\
 ∃ s253f : Sl, hcell h178 (Sl.at s66 s221f 1) = some s253f.v /\
 InB s66c s221f /\
 ∃ s258f : Sl, hcell h178 (Sl.at s66c s221f 1) = some s258f.v /\
 InB s258f 0 /\
 ∃ s260f : Int, hcell h178 (Sl.at s258f 0 1) = some (VI s260f) /\
 InB s253f s260f /\
 ∃ s262f : Int, hcell h178 (Sl.at s253f s260f 1) = some (VI s262f) /\
 (s199c.n : Int) ≠ 0 /\
 InB s199c (Int.tmod (w64 (s217f + 1)) (s199c.n : Int)) /\
 ∃ s270f : Int, hcell h178 (Sl.at s199c (Int.tmod (w64 (s217f + 1)) (s199c.n : Int)) 1) = some (VI s270f) /\
 ((!decide (s262f = s270f)) = true ->
 K (VB false) h178) /\
 ((!decide (s262f = s270f)) = false ->
 pop P (binA .shl 3 (.int .i64 1) (VI s221f)) fun r102 => ∃ s275f : Int, r102 = (VI s275f) /\ 
 pop P (binA .or 3 (VI seen24_9) (VI s275f)) fun r103 => ∃ s276f : Int, r103 = (VI s276f) /\ 
 ∃ m : Nat, m < n32 /\ J30 m s276f (w64 (s217f + 1)) h178)))))) /\
 ((decide (s217f < (s199c.n : Int))) = false ->
 ∃ m : Nat, m < n29 /\ J28 m seen24_9 (w64 (s195c + 1)) h178))) /\
 ((decide (s195c < (s74.n : Int))) = false ->
 (s88b = true ->
 InB s74 0 /\
 ∃ s284c : Sl, hcell h176 (Sl.at s74 0 1) = some s284c.v /\
 callM P 16 #[s88.v, s284c.v] h176 fun r104 h179 => ∃ s285c : Bool, r104 = (VB s285c) /\ Vars h179 [(b2, [s66c.v]), (b1, [s66.v])] /\
 ((!s285c) = true ->
 K (VB false) h179) /\
 ((!s285c) = false ->
 ((decide ((s74.n : Int) = 0)) = true ->
 callM P 17 #[(.agg #[s66.v]), (VI s66b), s116.v] h179 fun r105 h180 => ∃ s298e : Bool, ∃ s298f : Bool, r105 = (.tuple #[(VB s298e), (VB s298f)]) /\ Vars h180 [(b2, [s66c.v]), (b1, [s66.v])] /\
 ((!s298f) = true ->
 K (VB false) h180) /\
 ((!s298f) = false ->
 ((!s298e) = true ->
 K (VB false) h180) /\
 ((!s298e) = false ->
 J27  h180))) /\
 ((decide ((s74.n : Int) = 0)) = false ->
 J27  h179))) /\
 (s88b = false ->
 ((decide ((s74.n : Int) = 0)) = true ->
 callM P 17 #[(.agg #[s66.v]), (VI s66b), s116.v] h176 fun r106 h181 => ∃ s298g : Bool, ∃ s298h : Bool, r106 = (.tuple #[(VB s298g), (VB s298h)]) /\ Vars h181 [(b2, [s66c.v]), (b1, [s66.v])] /\
 ((!s298h) = true ->
 K (VB false) h181) /\
 ((!s298h) = false ->
 ((!s298g) = true ->
 K (VB false) h181) /\
 ((!s298g) = false ->
 J27  h181))) /\
 ((decide ((s74.n : Int) = 0)) = false ->
 J27  h176)))) /\
 ∀ (h182 : Heap), J27  h182 -> Vars h182 [(b2, [s66c.v]), (b1, [s66.v])] ->
 callM P 18 #[more1_1.v] h182 fun r107 h183 => ∃ t309_17 : Sl, ∃ t309_18 : Int, ∃ t309_19 : Sl, ∃ t309_20 : Int, r107 = (.tuple #[(.agg #[t309_17.v]), (VI t309_18), (.agg #[t309_19.v]), (VI t309_20)]) /\ Vars h183 [(b2, [s66c.v]), (b1, [s66.v])] /\
 ∀ (b35 : Nat) (b36 : Nat) (h187 : Heap), h183.size ≤ b35 -> h183.size ≤ b36 -> Fr (In []) h183 h187 -> Vars h187 [(b36, [t309_19.v]), (b35, [t309_17.v]), (b2, [s66c.v]), (b1, [s66.v])] ->
 callM P 19 #[(.agg #[t309_17.v]), (VI t309_18), (.agg #[t309_19.v]), (VI t309_20)] h187 fun r108 h188 => ∃ s319i : Sl, ∃ t319_10 : Bool, r108 = (.tuple #[(.agg #[s319i.v]), (VB t319_10)]) /\ Vars h188 [(b36, [t309_19.v]), (b35, [t309_17.v]), (b2, [s66c.v]), (b1, [s66.v])] /\
 ∀ (b37 : Nat) (h190 : Heap), h188.size ≤ b37 -> Fr (In []) h188 h190 -> Vars h190 [(b37, [s319i.v]), (b36, [t309_19.v]), (b35, [t309_17.v]), (b2, [s66c.v]), (b1, [s66.v])] ->
 callM P 20 #[(.agg #[t309_17.v]), (VI t309_18), (.agg #[t309_19.v]), (VI t309_20)] h190 fun r109 h191 => ∃ s327i : Sl, ∃ t327_10 : Bool, r109 = (.tuple #[(.agg #[s327i.v]), (VB t327_10)]) /\ Vars h191 [(b37, [s319i.v]), (b36, [t309_19.v]), (b35, [t309_17.v]), (b2, [s66c.v]), (b1, [s66.v])] /\
 ((!(t319_10 == t327_10)) = true ->
 ∀ (b38 : Nat) (h193 : Heap), h191.size ≤ b38 -> Fr (In []) h191 h193 -> Vars h193 [(b38, [s327i.v]), (b37, [s319i.v]), (b36, [t309_19.v]), (b35, [t309_17.v]), (b2, [s66c.v]), (b1, [s66.v])] ->
 K (VB false) h193) /\
 ((!(t319_10 == t327_10)) = false ->
 ∀ (b38 : Nat) (h193 : Heap), h191.size ≤ b38 -> Fr (In []) h191 h193 -> Vars h193 [(b38, [s327i.v]), (b37, [s319i.v]), (b36, [t309_19.v]), (b35, [t309_17.v]), (b2, [s66c.v]), (b1, [s66.v])] ->
 callM P 21 #[(.agg #[s319i.v]), (.agg #[s327i.v])] h193 fun r110 h194 => ∃ s336e : Bool, r110 = (VB s336e) /\ Vars h194 [(b38, [s327i.v]), (b37, [s319i.v]), (b36, [t309_19.v]), (b35, [t309_17.v]), (b2, [s66c.v]), (b1, [s66.v])] /\
 ((!s336e) = true ->
 K (VB false) h194) /\
 ((!s336e) = false ->
 ∃ J31 : Heap -> Prop, ((t319_10 = true ->
 callM P 7 #[(.agg #[t309_17.v]), (VI t309_18), (.agg #[t309_19.v])] h194 fun r111 h195 => ∃ s344i : Sl, ∃ t344_10 : Bool, r111 = (.tuple #[s344i.v, (VB t344_10)]) /\ Vars h195 [(b38, [s327i.v]), (b37, [s319i.v]), (b36, [t309_19.v]), (b35, [t309_17.v]), (b2, [s66c.v]), (b1, [s66.v])] /\
 ∃ J32 : Nat -> Sl -> Int -> Heap -> Prop, (∃ n0 : Nat, J32 n0 nilSl 0 h195) /\
 ∀ (n35 : Nat) (own41_5 : Sl) (s349e : Int) (h196 : Heap), J32 n35 own41_5 s349e h196 -> Vars h196 [(b38, [s327i.v]), (b37, [s319i.v]), (b36, [t309_19.v]), (b35, [t309_17.v]), (b2, [s66c.v]), (b1, [s66.v])] ->
 ((decide (s349e < (s344i.n : Int))) = true ->
 InB s344i s349e /\
 ∃ s352e : Sl, hcell h196 (Sl.at s344i s349e 1) = some s352e.v /\
 callM P 22 #[s352e.v, (VI t309_20)] h196 fun r112 h197 => ∃ s355e : Bool, r112 = (VB s355e) /\ Vars h197 [(b38, [s327i.v]), (b37, [s319i.v]), (b36, [t309_19.v]), (b35, [t309_17.v]), (b2, [s66c.v]), (b1, [s66.v])] /\
 (s355e = true ->
 ∃ m : Nat, m < n35 /\ J32 m s352e (w64 (s349e + 1)) h197) /\
 (s355e = false ->
 ∃ m : Nat, m < n35 /\ J32 m own41_5 (w64 (s349e + 1)) h197)) /\
 ((decide (s349e < (s344i.n : Int))) = false ->
 ((!t344_10) = true ->
 K (VB false) h196) /\
 ((!t344_10) = false ->
 ((decide ((own41_5.n : Int) = 0)) = true ->
 K (VB false) h196) /\
 ((decide ((own41_5.n : Int) = 0)) = false ->
 ∃ J33 : Nat -> Int -> Heap -> Prop, (∃ n0 : Nat, J33 n0 0 h196) /\
 ∀ (n36 : Nat) (s368e : Int) (h198 : Heap), J33 n36 s368e h198 -> Vars h198 [(b38, [s327i.v]), (b37, [s319i.v]), (b36, [t309_19.v]), (b35, [t309_17.v]), (b2, [s66c.v]), (b1, [s66.v])] ->
 ((decide (s368e < (t309_17.n : Int))) = true ->
 ∃ J34 : Int -> Heap -> Prop, (callM P 22 #[own41_5.v, (VI s368e)] h198 fun r113 h199 => ∃ s373e : Bool, r113 = (VB s373e) /\ Vars h199 [(b38, [s327i.v]), (b37, [s319i.v]), (b36, [t309_19.v]), (b35, [t309_17.v]), (b2, [s66c.v]), (b1, [s66.v])] /\
 (s373e = true ->
 J34 1 h199) /\
 (s373e = false ->
 J34 0 h199)) /\
 ∀ (y5 : Int) (h200 : Heap), J34 y5 h200 -> Vars h200 [(b38, [s327i.v]), (b37, [s319i.v]), (b36, [t309_19.v]), (b35, [t309_17.v]), (b2, [s66c.v]), (b1, [s66.v])] ->
 InB s319i s368e /\
 ∃ s378e : Sl, hcell h200 (Sl.at s319i s368e 1) = some s378e.v /\
 InB t309_19 s368e /\
 ∃ s383e : Sl, hcell h200 (Sl.at t309_19 s368e 1) = some s383e.v /\
 pop P (Instr.sliceAt 33 s383e.v (some (VI y5)) none none) fun r114 => ∃ s385e : Sl, r114 = s385e.v /\ 
 callM P 16 #[s378e.v, s385e.v] h200 fun r115 h201 => ∃ s386e : Bool, r115 = (VB s386e) /\ Vars h201 [(b38, [s327i.v]), (b37, [s319i.v]), (b36, [t309_19.v]), (b35, [t309_17.v]), (b2, [s66c.v]), (b1, [s66.v])] /\
 hcell h201 (Sl.at t309_19 s368e 1) = some s383e.v /\
 ((!s386e) = true ->
 K (VB false) h201) /\
 ((!s386e) = false ->
 ∃ m : Nat, m < n36 /\ J33 m (w64 (s368e + 1)) h201)) /\
 ((decide (s368e < (t309_17.n : Int))) = false ->
 J31  h198))))) /\
 (t319_10 = false ->
 J31  h194)) /\
 ∀ (h202 : Heap), J31  h202 -> Vars h202 [(b38, [s327i.v]), (b37, [s319i.v]), (b36, [t309_19.v]), (b35, [t309_17.v]), (b2, [s66c.v]), (b1, [s66.v])] ->
 callM P 23 #[more1_1.v] h202 fun r116 h203 => ∃ t391_17 : Sl, ∃ t391_18 : Int, ∃ t391_19 : Sl, ∃ t391_20 : Int, r116 = (.tuple #[(.agg #[t391_17.v]), (VI t391_18), t391_19.v, (VI t391_20)]) /\ Vars h203 [(b38, [s327i.v]), (b37, [s319i.v]), (b36, [t309_19.v]), (b35, [t309_17.v]), (b2, [s66c.v]), (b1, [s66.v])] /\
 ∀ (b39 : Nat) (h205 : Heap), h203.size ≤ b39 -> Fr (In []) h203 h205 -> Vars h205 [(b39, [t391_17.v]), (b38, [s327i.v]), (b37, [s319i.v]), (b36, [t309_19.v]), (b35, [t309_17.v]), (b2, [s66c.v]), (b1, [s66.v])] ->
 callM P 24 #[(.agg #[t391_17.v]), (VI t391_18), t391_19.v, (VI t391_20)] h205 fun r117 h206 => ∃ s401i : Sl, ∃ t401_10 : Bool, r117 = (.tuple #[(.agg #[s401i.v]), (VB t401_10)]) /\ Vars h206 [(b39, [t391_17.v]), (b38, [s327i.v]), (b37, [s319i.v]), (b36, [t309_19.v]), (b35, [t309_17.v]), (b2, [s66c.v]), (b1, [s66.v])] /\
 ∀ (b40 : Nat) (h208 : Heap), h206.size ≤ b40 -> Fr (In []) h206 h208 -> Vars h208 [(b40, [s401i.v]), (b39, [t391_17.v]), (b38, [s327i.v]), (b37, [s319i.v]), (b36, [t309_19.v]), (b35, [t309_17.v]), (b2, [s66c.v]), (b1, [s66.v])] ->
 callM P 25 #[(.agg #[t391_17.v]), (VI t391_18), t391_19.v, (VI t391_20)] h208 fun r118 h209 => ∃ s409i : Sl, ∃ t409_10 : Bool, r118 = (.tuple #[(.agg #[s409i.v]), (VB t409_10)]) /\ Vars h209 [(b40, [s401i.v]), (b39, [t391_17.v]), (b38, [s327i.v]), (b37, [s319i.v]), (b36, [t309_19.v]), (b35, [t309_17.v]), (b2, [s66c.v]), (b1, [s66.v])] /\
 ∀ (b41 : Nat) (h211 : Heap), h209.size ≤ b41 -> Fr (In []) h209 h211 -> Vars h211 [(b41, [s409i.v]), (b40, [s401i.v]), (b39, [t391_17.v]), (b38, [s327i.v]), (b37, [s319i.v]), (b36, [t309_19.v]), (b35, [t309_17.v]), (b2, [s66c.v]), (b1, [s66.v])] ->
 callM P 26 #[more1_1.v] h211 fun r119 h212 => ∃ s413e : Sl, r119 = (.agg #[s413e.v]) /\ Vars h212 [(b41, [s409i.v]), (b40, [s401i.v]), (b39, [t391_17.v]), (b38, [s327i.v]), (b37, [s319i.v]), (b36, [t309_19.v]), (b35, [t309_17.v]), (b2, [s66c.v]), (b1, [s66.v])] /\
 ∀ (b42 : Nat) (h214 : Heap), h212.size ≤ b42 -> Fr (In []) h212 h214 -> Vars h214 [(b42, [s413e.v]), (b41, [s409i.v]), (b40, [s401i.v]), (b39, [t391_17.v]), (b38, [s327i.v]), (b37, [s319i.v]), (b36, [t309_19.v]), (b35, [t309_17.v]), (b2, [s66c.v]), (b1, [s66.v])] ->
 callM P 27 #[(.agg #[s413e.v])] h214 fun r120 h215 => ∃ s416i : ByteArray, ∃ t416_10 : Bool, r120 = (.tuple #[(VS s416i), (VB t416_10)]) /\ Vars h215 [(b42, [s413e.v]), (b41, [s409i.v]), (b40, [s401i.v]), (b39, [t391_17.v]), (b38, [s327i.v]), (b37, [s319i.v]), (b36, [t309_19.v]), (b35, [t309_17.v]), (b2, [s66c.v]), (b1, [s66.v])] /\
 callM P 28 #[(.agg #[s413e.v])] h215 fun r121 h216 => ∃ s421i : ByteArray, ∃ t421_10 : Bool, r121 = (.tuple #[(VS s421i), (VB t421_10)]) /\ Vars h216 [(b42, [s413e.v]), (b41, [s409i.v]), (b40, [s401i.v]), (b39, [t391_17.v]), (b38, [s327i.v]), (b37, [s319i.v]), (b36, [t309_19.v]), (b35, [t309_17.v]), (b2, [s66c.v]), (b1, [s66.v])] /\
 ((!(t401_10 == t409_10)) = true ->
 K (VB false) h216) /\
 ((!(t401_10 == t409_10)) = false ->
 callM P 21 #[(.agg #[s401i.v]), (.agg #[s409i.v])] h216 fun r122 h217 => ∃ s430e : Bool, r122 = (VB s430e) /\ Vars h217 [(b42, [s413e.v]), (b41, [s409i.v]), (b40, [s401i.v]), (b39, [t391_17.v]), (b38, [s327i.v]), (b37, [s319i.v]), (b36, [t309_19.v]), (b35, [t309_17.v]), (b2, [s66c.v]), (b1, [s66.v])] /\
 ((!s430e) = true ->
 K (VB false) h217) /\
 ((!s430e) = false ->
 ((!(t416_10 == t421_10)) = true ->
 K (VB false) h217) /\
 ((!(t416_10 == t421_10)) = false ->
 ((!(ByteArray.toList s416i == ByteArray.toList s421i)) = true ->
 K (VB false) h217) /\
 ((!(ByteArray.toList s416i == ByteArray.toList s421i)) = false ->
 (t401_10 = true ->
 callM P 11 #[(.agg #[t391_17.v]), (VI t391_18), (.agg #[s401i.v])] h217 fun r123 h218 => ∃ s448i : Bool, ∃ t448_10 : Bool, r123 = (.tuple #[(VB s448i), (VB t448_10)]) /\ Vars h218 [(b42, [s413e.v]), (b41, [s409i.v]), (b40, [s401i.v]), (b39, [t391_17.v]), (b38, [s327i.v]), (b37, [s319i.v]), (b36, [t309_19.v]), (b35, [t309_17.v]), (b2, [s66c.v]), (b1, [s66.v])] /\
 (t448_10 = true ->
 K (VB s448i) h218) /\
 (t448_10 = false ->
 K (VB false) h218)) /\
 (t401_10 = false ->
 K (VB true) h217))))))))) /\
 (s116b = false ->
 ∃ J35 : Heap -> Prop, (∃ J36 : Nat -> Int -> Int -> Heap -> Prop, (∃ n0 : Nat, J36 n0 0 0 h17) /\
 ∀ (n39 : Nat) (seen24_10 : Int) (s195d : Int) (h219 : Heap), J36 n39 seen24_10 s195d h219 -> Vars h219 [(b2, [s66c.v]), (b1, [s66.v])] ->
 ((decide (s195d < (s74.n : Int))) = true ->
 InB s74 s195d /\
 ∃ s199d : Sl, hcell h219 (Sl.at s74 s195d 1) = some s199d.v /\
 ((decide (0 < s195d)) = true ->
 InB s74 (w64 (s195d - 1)) /\
 ∃ s207d : Sl, hcell h219 (Sl.at s74 (w64 (s195d - 1)) 1) = some s207d.v /\
 InB s207d 0 /\
 ∃ s209d : Int, hcell h219 (Sl.at s207d 0 1) = some (VI s209d) /\
 InB s199d 0 /\
 ∃ s212d : Int, hcell h219 (Sl.at s199d 0 1) = some (VI s212d) /\
 ((decide (s212d ≤ s209d)) = true ->
 K (VB false) h219) /\
 ((decide (s212d ≤ s209d)) = false ->
 ∃ J37 : Nat -> Int -> Int -> Heap -> Prop, (∃ n0 : Nat, J37 n0 seen24_10 0 h219) /\
 ∀ (n40 : Nat) (seen24_11 : Int) (s217g : Int) (h220 : Heap), J37 n40 seen24_11 s217g h220 -> Vars h220 [(b2, [s66c.v]), (b1, [s66.v])] ->
 ((decide (s217g < (s199d.n : Int))) = true ->
 InB s199d s217g /\
 ∃ s221g : Int, hcell h220 (Sl.at s199d s217g 1) = some (VI s221g) /\
 InB s199d 0 /\
 ∃ s225g : Int, hcell h220 (Sl.at s199d 0 1) = some (VI s225g) /\
 ((decide (s221g < s225g)) = true ->
 K (VB false) h220) /\
 ((decide (s221g < s225g)) = false ->
 ((decide (s221g = s66b)) = true ->
 K (VB false) h220) /\
 ((decide (s221g = s66b)) = false ->
 pop P (binA .shr 3 (VI seen24_11) (VI s221g)) fun r124 => ∃ s235g : Int, r124 = (VI s235g) /\ 
 ((decide ((Int.tmod s235g 2) = 1)) = true ->
 K (VB false) h220) /\
 ((decide ((Int.tmod s235g 2) = 1)) = false ->
 InB s66c s221g /\
 ∃ s244g : Sl, hcell h220 (Sl.at s66c s221g 1) = some s244g.v /\
 ((decide ((s244g.n : Int) = 0)) = true ->
 K (VB false) h220) /\
 ((decide ((s244g.n : Int) = 0)) = false ->
 InB s66 s221g /\
 ∃ s253g : Sl, hcell h220 (Sl.at s66 s221g 1) = some s253g.v /\
 InB s66c s221g /\
 ∃ s258g : Sl, hcell h220 (Sl.at s66c s221g 1) = some s258g.v /\
 InB s258g 0 /\
 ∃ s260g : Int, hcell h220 (Sl.at s258g 0 1) = some (VI s260g) /\
 InB s253g s260g /\
 ∃ s262g : Int, hcell h220 (Sl.at s253g s260g 1) = some (VI s262g) /\
 (s199d.n : Int) ≠ 0 /\
 InB s199d (Int.tmod (w64 (s217g + 1)) (s199d.n : Int)) /\
 ∃ s270g : Int, hcell h220 (Sl.at s199d (Int.tmod (w64 (s217g + 1)) (s199d.n : Int)) 1) = some (VI s270g) /\
 ((!decide (s262g = s270g)) = true ->
 K (VB false) h220) /\
 ((!decide (s262g = s270g)) = false ->
 pop P (binA .shl 3 (.int .i64 1) (VI s221g)) fun r125 => ∃ s275g : Int, r125 = (VI s275g) /\ 
 pop P (binA .or 3 (VI seen24_11) (VI s275g)) fun r126 => ∃ s276g : Int, r126 = (VI s276g) /\ 
 ∃ m : Nat, m < n40 /\ J37 m s276g (w64 (s217g + 1)) h220)))))) /\
 ((decide (s217g < (s199d.n : Int))) = false ->
 ∃ m : Nat, m < n39 /\ J36 m seen24_11 (w64 (s195d + 1)) h220))) /\
 ((decide (0 < s195d)) = false ->
 ∃ J38 : Nat -> Int -> Int -> Heap -> Prop, (∃ n0 : Nat, J38 n0 seen24_10 0 h219) /\
 ∀ (n42 : Nat) (seen24_12 : Int) (s217h : Int) (h221 : Heap), J38 n42 seen24_12 s217h h221 -> Vars h221 [(b2, [s66c.v]), (b1, [s66.v])] ->
 ((decide (s217h < (s199d.n : Int))) = true ->
 InB s199d s217h /\
 ∃ s221h : Int, hcell h221 (Sl.at s199d s217h 1) = some (VI s221h) /\
 InB s199d 0 /\
 ∃ s225h : Int, hcell h221 (Sl.at s199d 0 1) = some (VI s225h) /\
 ((decide (s221h < s225h)) = true ->
 K (VB false) h221) /\
 ((decide (s221h < s225h)) = false ->
 ((decide (s221h = s66b)) = true ->
 K (VB false) h221) /\
 ((decide (s221h = s66b)) = false ->
 pop P (binA .shr 3 (VI seen24_12) (VI s221h)) fun r127 => ∃ s235h : Int, r127 = (VI s235h) /\ 
 ((decide ((Int.tmod s235h 2) = 1)) = true ->
 K (VB false) h221) /\
 ((decide ((Int.tmod s235h 2) = 1)) = false ->
 InB s66c s221h /\
 ∃ s244h : Sl, hcell h221 (Sl.at s66c s221h 1) = some s244h.v /\
 ((decide ((s244h.n : Int) = 0)) = true ->
 K (VB false) h221) /\
 ((decide ((s244h.n : Int) = 0)) = false ->
 InB s66 s221h /\
 ∃ s253h : Sl, hcell h221 (Sl.at s66 s221h 1) = some s253h.v /\
 InB s66c s221h /\
 ∃ s258h : Sl, hcell h221 (Sl.at s66c s221h 1) = some s258h.v /\
 InB s258h 0 /\
 ∃ s260h : Int, hcell h221 (Sl.at s258h 0 1) = some (VI s260h) /\
 InB s253h s260h /\
 ∃ s262h : Int, hcell h221 (Sl.at s253h s260h 1) = some (VI s262h) /\
 (s199d.n : Int) ≠ 0 /\
 InB s199d (Int.tmod (w64 (s217h + 1)) (s199d.n : Int)) /\
 ∃ s270h : Int, hcell h221 (Sl.at s199d (Int.tmod (w64 (s217h + 1)) (s199d.n : Int)) 1) = some (VI s270h) /\
 ((!decide (s262h = s270h)) = true ->
 K (VB false) h221) /\
 ((!decide (s262h = s270h)) = false ->
 pop P (binA .shl 3 (.int .i64 1) (VI s221h)) fun r128 => ∃ s275h : Int, r128 = (VI s275h) /\ 
 pop P (binA .or 3 (VI seen24_12) (VI s275h)) fun r129 => ∃ s276h : Int, r129 = (VI s276h) /\ 
 ∃ m : Nat, m < n42 /\ J38 m s276h (w64 (s217h + 1)) h221)))))) /\
 ((decide (s217h < (s199d.n : Int))) = false ->
 ∃ m : Nat, m < n39 /\ J36 m seen24_12 (w64 (s195d + 1)) h221))) /\
 ((decide (s195d < (s74.n : Int))) = false ->
 (s88b = true ->
 InB s74 0 /\
 ∃ s284d : Sl, hcell h219 (Sl.at s74 0 1) = some s284d.v /\
 callM P 16 #[s88.v, s284d.v] h219 fun r130 h222 => ∃ s285d : Bool, r130 = (VB s285d) /\ Vars h222 [(b2, [s66c.v]), (b1, [s66.v])] /\
 ((!s285d) = true ->
 K (VB false) h222) /\
 ((!s285d) = false ->
 J35  h222)) /\
 (s88b = false ->
 J35  h219))) /\
 ∀ (h223 : Heap), J35  h223 -> Vars h223 [(b2, [s66c.v]), (b1, [s66.v])] ->
 callM P 18 #[more1_1.v] h223 fun r131 h224 => ∃ t309_21 : Sl, ∃ t309_22 : Int, ∃ t309_23 : Sl, ∃ t309_24 : Int, r131 = (.tuple #[(.agg #[t309_21.v]), (VI t309_22), (.agg #[t309_23.v]), (VI t309_24)]) /\ Vars h224 [(b2, [s66c.v]), (b1, [s66.v])] /\
 ∀ (b43 : Nat) (b44 : Nat) (h228 : Heap), h224.size ≤ b43 -> h224.size ≤ b44 -> Fr (In []) h224 h228 -> Vars h228 [(b44, [t309_23.v]), (b43, [t309_21.v]), (b2, [s66c.v]), (b1, [s66.v])] ->
 callM P 19 #[(.agg #[t309_21.v]), (VI t309_22), (.agg #[t309_23.v]), (VI t309_24)] h228 fun r132 h229 => ∃ t319_11 : Sl, ∃ t319_12 : Bool, r132 = (.tuple #[(.agg #[t319_11.v]), (VB t319_12)]) /\ Vars h229 [(b44, [t309_23.v]), (b43, [t309_21.v]), (b2, [s66c.v]), (b1, [s66.v])] /\
 ∀ (b45 : Nat) (h231 : Heap), h229.size ≤ b45 -> Fr (In []) h229 h231 -> Vars h231 [(b45, [t319_11.v]), (b44, [t309_23.v]), (b43, [t309_21.v]), (b2, [s66c.v]), (b1, [s66.v])] ->
 callM P 20 #[(.agg #[t309_21.v]), (VI t309_22), (.agg #[t309_23.v]), (VI t309_24)] h231 fun r133 h232 => ∃ t327_11 : Sl, ∃ t327_12 : Bool, r133 = (.tuple #[(.agg #[t327_11.v]), (VB t327_12)]) /\ Vars h232 [(b45, [t319_11.v]), (b44, [t309_23.v]), (b43, [t309_21.v]), (b2, [s66c.v]), (b1, [s66.v])] /\
 ((!(t319_12 == t327_12)) = true ->
 ∀ (b46 : Nat) (h234 : Heap), h232.size ≤ b46 -> Fr (In []) h232 h234 -> Vars h234 [(b46, [t327_11.v]), (b45, [t319_11.v]), (b44, [t309_23.v]), (b43, [t309_21.v]), (b2, [s66c.v]), (b1, [s66.v])] ->
 K (VB false) h234) /\
 ((!(t319_12 == t327_12)) = false ->
 ∀ (b46 : Nat) (h234 : Heap), h232.size ≤ b46 -> Fr (In []) h232 h234 -> Vars h234 [(b46, [t327_11.v]), (b45, [t319_11.v]), (b44, [t309_23.v]), (b43, [t309_21.v]), (b2, [s66c.v]), (b1, [s66.v])] ->
 callM P 21 #[(.agg #[t319_11.v]), (.agg #[t327_11.v])] h234 fun r134 h235 => ∃ s336f : Bool, r134 = (VB s336f) /\ Vars h235 [(b46, [t327_11.v]), (b45, [t319_11.v]), (b44, [t309_23.v]), (b43, [t309_21.v]), (b2, [s66c.v]), (b1, [s66.v])] /\
 ((!s336f) = true ->
 K (VB false) h235) /\
 ((!s336f) = false ->
 ∃ J39 : Heap -> Prop, ((t319_12 = true ->
 callM P 7 #[(.agg #[t309_21.v]), (VI t309_22), (.agg #[t309_23.v])] h235 fun r135 h236 => ∃ t344_11 : Sl, ∃ t344_12 : Bool, r135 = (.tuple #[t344_11.v, (VB t344_12)]) /\ Vars h236 [(b46, [t327_11.v]), (b45, [t319_11.v]), (b44, [t309_23.v]), (b43, [t309_21.v]), (b2, [s66c.v]), (b1, [s66.v])] /\
 ∃ J40 : Nat -> Sl -> Int -> Heap -> Prop, (∃ n0 : Nat, J40 n0 nilSl 0 h236) /\
 ∀ (n45 : Nat) (own41_6 : Sl) (s349f : Int) (h237 : Heap), J40 n45 own41_6 s349f h237 -> Vars h237 [(b46, [t327_11.v]), (b45, [t319_11.v]), (b44, [t309_23.v]), (b43, [t309_21.v]), (b2, [s66c.v]), (b1, [s66.v])] ->
 ((decide (s349f < (t344_11.n : Int))) = true ->
 InB t344_11 s349f /\
 ∃ s352f : Sl, hcell h237 (Sl.at t344_11 s349f 1) = some s352f.v /\
 callM P 22 #[s352f.v, (VI t309_24)] h237 fun r136 h238 => ∃ s355f : Bool, r136 = (VB s355f) /\ Vars h238 [(b46, [t327_11.v]), (b45, [t319_11.v]), (b44, [t309_23.v]), (b43, [t309_21.v]), (b2, [s66c.v]), (b1, [s66.v])] /\
 (s355f = true ->
 ∃ m : Nat, m < n45 /\ J40 m s352f (w64 (s349f + 1)) h238) /\
 (s355f = false ->
 ∃ m : Nat, m < n45 /\ J40 m own41_6 (w64 (s349f + 1)) h238)) /\
 ((decide (s349f < (t344_11.n : Int))) = false ->
 ((!t344_12) = true ->
 K (VB false) h237) /\
 ((!t344_12) = false ->
 ((decide ((own41_6.n : Int) = 0)) = true ->
 K (VB false) h237) /\
 ((decide ((own41_6.n : Int) = 0)) = false ->
 ∃ J41 : Nat -> Int -> Heap -> Prop, (∃ n0 : Nat, J41 n0 0 h237) /\
 ∀ (n46 : Nat) (s368f : Int) (h239 : Heap), J41 n46 s368f h239 -> Vars h239 [(b46, [t327_11.v]), (b45, [t319_11.v]), (b44, [t309_23.v]), (b43, [t309_21.v]), (b2, [s66c.v]), (b1, [s66.v])] ->
 ((decide (s368f < (t309_21.n : Int))) = true ->
 ∃ J42 : Int -> Heap -> Prop, (callM P 22 #[own41_6.v, (VI s368f)] h239 fun r137 h240 => ∃ s373f : Bool, r137 = (VB s373f) /\ Vars h240 [(b46, [t327_11.v]), (b45, [t319_11.v]), (b44, [t309_23.v]), (b43, [t309_21.v]), (b2, [s66c.v]), (b1, [s66.v])] /\
 (s373f = true ->
 J42 1 h240) /\
 (s373f = false ->
 J42 0 h240)) /\
 ∀ (y6 : Int) (h241 : Heap), J42 y6 h241 -> Vars h241 [(b46, [t327_11.v]), (b45, [t319_11.v]), (b44, [t309_23.v]), (b43, [t309_21.v]), (b2, [s66c.v]), (b1, [s66.v])] ->
 InB t319_11 s368f /\
 ∃ s378f : Sl, hcell h241 (Sl.at t319_11 s368f 1) = some s378f.v /\
 InB t309_23 s368f /\
 ∃ s383f : Sl, hcell h241 (Sl.at t309_23 s368f 1) = some s383f.v /\
 pop P (Instr.sliceAt 33 s383f.v (some (VI y6)) none none) fun r138 => ∃ s385f : Sl, r138 = s385f.v /\ 
 callM P 16 #[s378f.v, s385f.v] h241 fun r139 h242 => ∃ s386f : Bool, r139 = (VB s386f) /\ Vars h242 [(b46, [t327_11.v]), (b45, [t319_11.v]), (b44, [t309_23.v]), (b43, [t309_21.v]), (b2, [s66c.v]), (b1, [s66.v])] /\
 hcell h242 (Sl.at t309_23 s368f 1) = some s383f.v /\
 ((!s386f) = true ->
 K (VB false) h242) /\
 ((!s386f) = false ->
 ∃ m : Nat, m < n46 /\ J41 m (w64 (s368f + 1)) h242)) /\
 ((decide (s368f < (t309_21.n : Int))) = false ->
 J39  h239))))) /\
 (t319_12 = false ->
 J39  h235)) /\
 ∀ (h243 : Heap), J39  h243 -> Vars h243 [(b46, [t327_11.v]), (b45, [t319_11.v]), (b44, [t309_23.v]), (b43, [t309_21.v]), (b2, [s66c.v]), (b1, [s66.v])] ->
 callM P 23 #[more1_1.v] h243 fun r140 h244 => ∃ t391_21 : Sl, ∃ t391_22 : Int, ∃ t391_23 : Sl, ∃ t391_24 : Int, r140 = (.tuple #[(.agg #[t391_21.v]), (VI t391_22), t391_23.v, (VI t391_24)]) /\ Vars h244 [(b46, [t327_11.v]), (b45, [t319_11.v]), (b44, [t309_23.v]), (b43, [t309_21.v]), (b2, [s66c.v]), (b1, [s66.v])] /\
 ∀ (b47 : Nat) (h246 : Heap), h244.size ≤ b47 -> Fr (In []) h244 h246 -> Vars h246 [(b47, [t391_21.v]), (b46, [t327_11.v]), (b45, [t319_11.v]), (b44, [t309_23.v]), (b43, [t309_21.v]), (b2, [s66c.v]), (b1, [s66.v])] ->
 callM P 24 #[(.agg #[t391_21.v]), (VI t391_22), t391_23.v, (VI t391_24)] h246 fun r141 h247 => ∃ t401_11 : Sl, ∃ t401_12 : Bool, r141 = (.tuple #[(.agg #[t401_11.v]), (VB t401_12)]) /\ Vars h247 [(b47, [t391_21.v]), (b46, [t327_11.v]), (b45, [t319_11.v]), (b44, [t309_23.v]), (b43, [t309_21.v]), (b2, [s66c.v]), (b1, [s66.v])] /\
 ∀ (b48 : Nat) (h249 : Heap), h247.size ≤ b48 -> Fr (In []) h247 h249 -> Vars h249 [(b48, [t401_11.v]), (b47, [t391_21.v]), (b46, [t327_11.v]), (b45, [t319_11.v]), (b44, [t309_23.v]), (b43, [t309_21.v]), (b2, [s66c.v]), (b1, [s66.v])] ->
 callM P 25 #[(.agg #[t391_21.v]), (VI t391_22), t391_23.v, (VI t391_24)] h249 fun r142 h250 => ∃ t409_11 : Sl, ∃ t409_12 : Bool, r142 = (.tuple #[(.agg #[t409_11.v]), (VB t409_12)]) /\ Vars h250 [(b48, [t401_11.v]), (b47, [t391_21.v]), (b46, [t327_11.v]), (b45, [t319_11.v]), (b44, [t309_23.v]), (b43, [t309_21.v]), (b2, [s66c.v]), (b1, [s66.v])] /\
 ∀ (b49 : Nat) (h252 : Heap), h250.size ≤ b49 -> Fr (In []) h250 h252 -> Vars h252 [(b49, [t409_11.v]), (b48, [t401_11.v]), (b47, [t391_21.v]), (b46, [t327_11.v]), (b45, [t319_11.v]), (b44, [t309_23.v]), (b43, [t309_21.v]), (b2, [s66c.v]), (b1, [s66.v])] ->
 callM P 26 #[more1_1.v] h252 fun r143 h253 => ∃ s413f : Sl, r143 = (.agg #[s413f.v]) /\ Vars h253 [(b49, [t409_11.v]), (b48, [t401_11.v]), (b47, [t391_21.v]), (b46, [t327_11.v]), (b45, [t319_11.v]), (b44, [t309_23.v]), (b43, [t309_21.v]), (b2, [s66c.v]), (b1, [s66.v])] /\
 ∀ (b50 : Nat) (h255 : Heap), h253.size ≤ b50 -> Fr (In []) h253 h255 -> Vars h255 [(b50, [s413f.v]), (b49, [t409_11.v]), (b48, [t401_11.v]), (b47, [t391_21.v]), (b46, [t327_11.v]), (b45, [t319_11.v]), (b44, [t309_23.v]), (b43, [t309_21.v]), (b2, [s66c.v]), (b1, [s66.v])] ->
 callM P 27 #[(.agg #[s413f.v])] h255 fun r144 h256 => ∃ t416_11 : ByteArray, ∃ t416_12 : Bool, r144 = (.tuple #[(VS t416_11), (VB t416_12)]) /\ Vars h256 [(b50, [s413f.v]), (b49, [t409_11.v]), (b48, [t401_11.v]), (b47, [t391_21.v]), (b46, [t327_11.v]), (b45, [t319_11.v]), (b44, [t309_23.v]), (b43, [t309_21.v]), (b2, [s66c.v]), (b1, [s66.v])] /\
 callM P 28 #[(.agg #[s413f.v])] h256 fun r145 h257 => ∃ t421_11 : ByteArray, ∃ t421_12 : Bool, r145 = (.tuple #[(VS t421_11), (VB t421_12)]) /\ Vars h257 [(b50, [s413f.v]), (b49, [t409_11.v]), (b48, [t401_11.v]), (b47, [t391_21.v]), (b46, [t327_11.v]), (b45, [t319_11.v]), (b44, [t309_23.v]), (b43, [t309_21.v]), (b2, [s66c.v]), (b1, [s66.v])] /\
 ((!(t401_12 == t409_12)) = true ->
 K (VB false) h257) /\
 ((!(t401_12 == t409_12)) = false ->
 callM P 21 #[(.agg #[t401_11.v]), (.agg #[t409_11.v])] h257 fun r146 h258 => ∃ s430f : Bool, r146 = (VB s430f) /\ Vars h258 [(b50, [s413f.v]), (b49, [t409_11.v]), (b48, [t401_11.v]), (b47, [t391_21.v]), (b46, [t327_11.v]), (b45, [t319_11.v]), (b44, [t309_23.v]), (b43, [t309_21.v]), (b2, [s66c.v]), (b1, [s66.v])] /\
 ((!s430f) = true ->
 K (VB false) h258) /\
 ((!s430f) = false ->
 ((!(t416_12 == t421_12)) = true ->
 K (VB false) h258) /\
 ((!(t416_12 == t421_12)) = false ->
 ((!(ByteArray.toList t416_11 == ByteArray.toList t421_11)) = true ->
 K (VB false) h258) /\
 ((!(ByteArray.toList t416_11 == ByteArray.toList t421_11)) = false ->
 (t401_12 = true ->
 callM P 11 #[(.agg #[t391_21.v]), (VI t391_22), (.agg #[t401_11.v])] h258 fun r147 h259 => ∃ t448_11 : Bool, ∃ t448_12 : Bool, r147 = (.tuple #[(VB t448_11), (VB t448_12)]) /\ Vars h259 [(b50, [s413f.v]), (b49, [t409_11.v]), (b48, [t401_11.v]), (b47, [t391_21.v]), (b46, [t327_11.v]), (b45, [t319_11.v]), (b44, [t309_23.v]), (b43, [t309_21.v]), (b2, [s66c.v]), (b1, [s66.v])] /\
 (t448_12 = true ->
 K (VB t448_11) h259) /\
 (t448_12 = false ->
 K (VB false) h259)) /\
 (t401_12 = false ->
 K (VB true) h258)))))))))) /\
 (s74b = false ->
 ((!(s88b == false)) = true ->
 K (VB false) h17) /\
 ((!(s88b == false)) = false ->
 (s116b = true ->
 ((!s74b) = true ->
 K (VB false) h17) /\
 ((!s74b) = false ->
 ∃ J43 : Heap -> Prop, (J43  h17) /\
 ∀ (h260 : Heap), J43  h260 -> Vars h260 [(b2, [s66c.v]), (b1, [s66.v])] ->
 callM P 18 #[more1_1.v] h260 fun r148 h261 => ∃ t309_25 : Sl, ∃ t309_26 : Int, ∃ t309_27 : Sl, ∃ t309_28 : Int, r148 = (.tuple #[(.agg #[t309_25.v]), (VI t309_26), (.agg #[t309_27.v]), (VI t309_28)]) /\ Vars h261 [(b2, [s66c.v]), (b1, [s66.v])] /\
 ∀ (b51 : Nat) (b52 : Nat) (h265 : Heap), h261.size ≤ b51 -> h261.size ≤ b52 -> Fr (In []) h261 h265 -> Vars h265 [(b52, [t309_27.v]), (b51, [t309_25.v]), (b2, [s66c.v]), (b1, [s66.v])] ->
 callM P 19 #[(.agg #[t309_25.v]), (VI t309_26), (.agg #[t309_27.v]), (VI t309_28)] h265 fun r149 h266 => ∃ t319_13 : Sl, ∃ t319_14 : Bool, r149 = (.tuple #[(.agg #[t319_13.v]), (VB t319_14)]) /\ Vars h266 [(b52, [t309_27.v]), (b51, [t309_25.v]), (b2, [s66c.v]), (b1, [s66.v])] /\
 ∀ (b53 : Nat) (h268 : Heap), h266.size ≤ b53 -> Fr (In []) h266 h268 -> Vars h268 [(b53, [t319_13.v]), (b52, [t309_27.v]), (b51, [t309_25.v]), (b2, [s66c.v]), (b1, [s66.v])] ->
 callM P 20 #[(.agg #[t309_25.v]), (VI t309_26), (.agg #[t309_27.v]), (VI t309_28)] h268 fun r150 h269 => ∃ t327_13 : Sl, ∃ t327_14 : Bool, r150 = (.tuple #[(.agg #[t327_13.v]), (VB t327_14)]) /\ Vars h269 [(b53, [t319_13.v]), (b52, [t309_27.v]), (b51, [t309_25.v]), (b2, [s66c.v]), (b1, [s66.v])] /\
 ((!(t319_14 == t327_14)) = true ->
 ∀ (b54 : Nat) (h271 : Heap), h269.size ≤ b54 -> Fr (In []) h269 h271 -> Vars h271 [(b54, [t327_13.v]), (b53, [t319_13.v]), (b52, [t309_27.v]), (b51, [t309_25.v]), (b2, [s66c.v]), (b1, [s66.v])] ->
 K (VB false) h271) /\
 ((!(t319_14 == t327_14)) = false ->
 ∀ (b54 : Nat) (h271 : Heap), h269.size ≤ b54 -> Fr (In []) h269 h271 -> Vars h271 [(b54, [t327_13.v]), (b53, [t319_13.v]), (b52, [t309_27.v]), (b51, [t309_25.v]), (b2, [s66c.v]), (b1, [s66.v])] ->
 callM P 21 #[(.agg #[t319_13.v]), (.agg #[t327_13.v])] h271 fun r151 h272 => ∃ s336g : Bool, r151 = (VB s336g) /\ Vars h272 [(b54, [t327_13.v]), (b53, [t319_13.v]), (b52, [t309_27.v]), (b51, [t309_25.v]), (b2, [s66c.v]), (b1, [s66.v])] /\
 ((!s336g) = true ->
 K (VB false) h272) /\
 ((!s336g) = false ->
 ∃ J44 : Heap -> Prop, ((t319_14 = true ->
 callM P 7 #[(.agg #[t309_25.v]), (VI t309_26), (.agg #[t309_27.v])] h272 fun r152 h273 => ∃ t344_13 : Sl, ∃ t344_14 : Bool, r152 = (.tuple #[t344_13.v, (VB t344_14)]) /\ Vars h273 [(b54, [t327_13.v]), (b53, [t319_13.v]), (b52, [t309_27.v]), (b51, [t309_25.v]), (b2, [s66c.v]), (b1, [s66.v])] /\
 ∃ J45 : Nat -> Sl -> Int -> Heap -> Prop, (∃ n0 : Nat, J45 n0 nilSl 0 h273) /\
 ∀ (n49 : Nat) (own41_7 : Sl) (s349g : Int) (h274 : Heap), J45 n49 own41_7 s349g h274 -> Vars h274 [(b54, [t327_13.v]), (b53, [t319_13.v]), (b52, [t309_27.v]), (b51, [t309_25.v]), (b2, [s66c.v]), (b1, [s66.v])] ->
 ((decide (s349g < (t344_13.n : Int))) = true ->
 InB t344_13 s349g /\
 ∃ s352g : Sl, hcell h274 (Sl.at t344_13 s349g 1) = some s352g.v /\
 callM P 22 #[s352g.v, (VI t309_28)] h274 fun r153 h275 => ∃ s355g : Bool, r153 = (VB s355g) /\ Vars h275 [(b54, [t327_13.v]), (b53, [t319_13.v]), (b52, [t309_27.v]), (b51, [t309_25.v]), (b2, [s66c.v]), (b1, [s66.v])] /\
 (s355g = true ->
 ∃ m : Nat, m < n49 /\ J45 m s352g (w64 (s349g + 1)) h275) /\
 (s355g = false ->
 ∃ m : Nat, m < n49 /\ J45 m own41_7 (w64 (s349g + 1)) h275)) /\
 ((decide (s349g < (t344_13.n : Int))) = false ->
 ((!t344_14) = true ->
 K (VB false) h274) /\
 ((!t344_14) = false ->
 ((decide ((own41_7.n : Int) = 0)) = true ->
 K (VB false) h274) /\
 ((decide ((own41_7.n : Int) = 0)) = false ->
 ∃ J46 : Nat -> Int -> Heap -> Prop, (∃ n0 : Nat, J46 n0 0 h274) /\
 ∀ (n50 : Nat) (s368g : Int) (h276 : Heap), J46 n50 s368g h276 -> Vars h276 [(b54, [t327_13.v]), (b53, [t319_13.v]), (b52, [t309_27.v]), (b51, [t309_25.v]), (b2, [s66c.v]), (b1, [s66.v])] ->
 ((decide (s368g < (t309_25.n : Int))) = true ->
 ∃ J47 : Int -> Heap -> Prop, (callM P 22 #[own41_7.v, (VI s368g)] h276 fun r154 h277 => ∃ s373g : Bool, r154 = (VB s373g) /\ Vars h277 [(b54, [t327_13.v]), (b53, [t319_13.v]), (b52, [t309_27.v]), (b51, [t309_25.v]), (b2, [s66c.v]), (b1, [s66.v])] /\
 (s373g = true ->
 J47 1 h277) /\
 (s373g = false ->
 J47 0 h277)) /\
 ∀ (y7 : Int) (h278 : Heap), J47 y7 h278 -> Vars h278 [(b54, [t327_13.v]), (b53, [t319_13.v]), (b52, [t309_27.v]), (b51, [t309_25.v]), (b2, [s66c.v]), (b1, [s66.v])] ->
 InB t319_13 s368g /\
 ∃ s378g : Sl, hcell h278 (Sl.at t319_13 s368g 1) = some s378g.v /\
 InB t309_27 s368g /\
 ∃ s383g : Sl, hcell h278 (Sl.at t309_27 s368g 1) = some s383g.v /\
 pop P (Instr.sliceAt 33 s383g.v (some (VI y7)) none none) fun r155 => ∃ s385g : Sl, r155 = s385g.v /\ 
 callM P 16 #[s378g.v, s385g.v] h278 fun r156 h279 => ∃ s386g : Bool, r156 = (VB s386g) /\ Vars h279 [(b54, [t327_13.v]), (b53, [t319_13.v]), (b52, [t309_27.v]), (b51, [t309_25.v]), (b2, [s66c.v]), (b1, [s66.v])] /\
 hcell h279 (Sl.at t309_27 s368g 1) = some s383g.v /\
 ((!s386g) = true ->
 K (VB false) h279) /\
 ((!s386g) = false ->
 ∃ m : Nat, m < n50 /\ J46 m (w64 (s368g + 1)) h279)) /\
 ((decide (s368g < (t309_25.n : Int))) = false ->
 J44  h276))))) /\
 (t319_14 = false ->
 J44  h272)) /\
 ∀ (h280 : Heap), J44  h280 -> Vars h280 [(b54, [t327_13.v]), (b53, [t319_13.v]), (b52, [t309_27.v]), (b51, [t309_25.v]), (b2, [s66c.v]), (b1, [s66.v])] ->
 callM P 23 #[more1_1.v] h280 fun r157 h281 => ∃ t391_25 : Sl, ∃ t391_26 : Int, ∃ t391_27 : Sl, ∃ t391_28 : Int, r157 = (.tuple #[(.agg #[t391_25.v]), (VI t391_26), t391_27.v, (VI t391_28)]) /\ Vars h281 [(b54, [t327_13.v]), (b53, [t319_13.v]), (b52, [t309_27.v]), (b51, [t309_25.v]), (b2, [s66c.v]), (b1, [s66.v])] /\
 ∀ (b55 : Nat) (h283 : Heap), h281.size ≤ b55 -> Fr (In []) h281 h283 -> Vars h283 [(b55, [t391_25.v]), (b54, [t327_13.v]), (b53, [t319_13.v]), (b52, [t309_27.v]), (b51, [t309_25.v]), (b2, [s66c.v]), (b1, [s66.v])] ->
 callM P 24 #[(.agg #[t391_25.v]), (VI t391_26), t391_27.v, (VI t391_28)] h283 fun r158 h284 => ∃ t401_13 : Sl, ∃ t401_14 : Bool, r158 = (.tuple #[(.agg #[t401_13.v]), (VB t401_14)]) /\ Vars h284 [(b55, [t391_25.v]), (b54, [t327_13.v]), (b53, [t319_13.v]), (b52, [t309_27.v]), (b51, [t309_25.v]), (b2, [s66c.v]), (b1, [s66.v])] /\
 ∀ (b56 : Nat) (h286 : Heap), h284.size ≤ b56 -> Fr (In []) h284 h286 -> Vars h286 [(b56, [t401_13.v]), (b55, [t391_25.v]), (b54, [t327_13.v]), (b53, [t319_13.v]), (b52, [t309_27.v]), (b51, [t309_25.v]), (b2, [s66c.v]), (b1, [s66.v])] ->
 callM P 25 #[(.agg #[t391_25.v]), (VI t391_26), t391_27.v, (VI t391_28)] h286 fun r159 h287 => ∃ t409_13 : Sl, ∃ t409_14 : Bool, r159 = (.tuple #[(.agg #[t409_13.v]), (VB t409_14)]) /\ Vars h287 [(b56, [t401_13.v]), (b55, [t391_25.v]), (b54, [t327_13.v]), (b53, [t319_13.v]), (b52, [t309_27.v]), (b51, [t309_25.v]), (b2, [s66c.v]), (b1, [s66.v])] /\
 ∀ (b57 : Nat) (h289 : Heap), h287.size ≤ b57 -> Fr (In []) h287 h289 -> Vars h289 [(b57, [t409_13.v]), (b56, [t401_13.v]), (b55, [t391_25.v]), (b54, [t327_13.v]), (b53, [t319_13.v]), (b52, [t309_27.v]), (b51, [t309_25.v]), (b2, [s66c.v]), (b1, [s66.v])] ->
 callM P 26 #[more1_1.v] h289 fun r160 h290 => ∃ s413g : Sl, r160 = (.agg #[s413g.v]) /\ Vars h290 [(b57, [t409_13.v]), (b56, [t401_13.v]), (b55, [t391_25.v]), (b54, [t327_13.v]), (b53, [t319_13.v]), (b52, [t309_27.v]), (b51, [t309_25.v]), (b2, [s66c.v]), (b1, [s66.v])] /\
 ∀ (b58 : Nat) (h292 : Heap), h290.size ≤ b58 -> Fr (In []) h290 h292 -> Vars h292 [(b58, [s413g.v]), (b57, [t409_13.v]), (b56, [t401_13.v]), (b55, [t391_25.v]), (b54, [t327_13.v]), (b53, [t319_13.v]), (b52, [t309_27.v]), (b51, [t309_25.v]), (b2, [s66c.v]), (b1, [s66.v])] ->
 callM P 27 #[(.agg #[s413g.v])] h292 fun r161 h293 => ∃ t416_13 : ByteArray, ∃ t416_14 : Bool, r161 = (.tuple #[(VS t416_13), (VB t416_14)]) /\ Vars h293 [(b58, [s413g.v]), (b57, [t409_13.v]), (b56, [t401_13.v]), (b55, [t391_25.v]), (b54, [t327_13.v]), (b53, [t319_13.v]), (b52, [t309_27.v]), (b51, [t309_25.v]), (b2, [s66c.v]), (b1, [s66.v])] /\
 callM P 28 #[(.agg #[s413g.v])] h293 fun r162 h294 => ∃ t421_13 : ByteArray, ∃ t421_14 : Bool, r162 = (.tuple #[(VS t421_13), (VB t421_14)]) /\ Vars h294 [(b58, [s413g.v]), (b57, [t409_13.v]), (b56, [t401_13.v]), (b55, [t391_25.v]), (b54, [t327_13.v]), (b53, [t319_13.v]), (b52, [t309_27.v]), (b51, [t309_25.v]), (b2, [s66c.v]), (b1, [s66.v])] /\
 ((!(t401_14 == t409_14)) = true ->
 K (VB false) h294) /\
 ((!(t401_14 == t409_14)) = false ->
 callM P 21 #[(.agg #[t401_13.v]), (.agg #[t409_13.v])] h294 fun r163 h295 => ∃ s430g : Bool, r163 = (VB s430g) /\ Vars h295 [(b58, [s413g.v]), (b57, [t409_13.v]), (b56, [t401_13.v]), (b55, [t391_25.v]), (b54, [t327_13.v]), (b53, [t319_13.v]), (b52, [t309_27.v]), (b51, [t309_25.v]), (b2, [s66c.v]), (b1, [s66.v])] /\
 ((!s430g) = true ->
 K (VB false) h295) /\
 ((!s430g) = false ->
 ((!(t416_14 == t421_14)) = true ->
 K (VB false) h295) /\
 ((!(t416_14 == t421_14)) = false ->
 ((!(ByteArray.toList t416_13 == ByteArray.toList t421_13)) = true ->
 K (VB false) h295) /\
 ((!(ByteArray.toList t416_13 == ByteArray.toList t421_13)) = false ->
 (t401_14 = true ->
 callM P 11 #[(.agg #[t391_25.v]), (VI t391_26), (.agg #[t401_13.v])] h295 fun r164 h296 => ∃ t448_13 : Bool, ∃ t448_14 : Bool, r164 = (.tuple #[(VB t448_13), (VB t448_14)]) /\ Vars h296 [(b58, [s413g.v]), (b57, [t409_13.v]), (b56, [t401_13.v]), (b55, [t391_25.v]), (b54, [t327_13.v]), (b53, [t319_13.v]), (b52, [t309_27.v]), (b51, [t309_25.v]), (b2, [s66c.v]), (b1, [s66.v])] /\
 (t448_14 = true ->
 K (VB t448_13) h296) /\
 (t448_14 = false ->
 K (VB false) h296)) /\
 (t401_14 = false ->
 K (VB true) h295))))))))) /\
 (s116b = false ->
 ∃ J48 : Heap -> Prop, (J48  h17) /\
 ∀ (h297 : Heap), J48  h297 -> Vars h297 [(b2, [s66c.v]), (b1, [s66.v])] ->
 callM P 18 #[more1_1.v] h297 fun r165 h298 => ∃ t309_29 : Sl, ∃ t309_30 : Int, ∃ t309_31 : Sl, ∃ t309_32 : Int, r165 = (.tuple #[(.agg #[t309_29.v]), (VI t309_30), (.agg #[t309_31.v]), (VI t309_32)]) /\ Vars h298 [(b2, [s66c.v]), (b1, [s66.v])] /\
 ∀ (b59 : Nat) (b60 : Nat) (h302 : Heap), h298.size ≤ b59 -> h298.size ≤ b60 -> Fr (In []) h298 h302 -> Vars h302 [(b60, [t309_31.v]), (b59, [t309_29.v]), (b2, [s66c.v]), (b1, [s66.v])] ->
 callM P 19 #[(.agg #[t309_29.v]), (VI t309_30), (.agg #[t309_31.v]), (VI t309_32)] h302 fun r166 h303 => ∃ t319_15 : Sl, ∃ t319_16 : Bool, r166 = (.tuple #[(.agg #[t319_15.v]), (VB t319_16)]) /\ Vars h303 [(b60, [t309_31.v]), (b59, [t309_29.v]), (b2, [s66c.v]), (b1, [s66.v])] /\
 ∀ (b61 : Nat) (h305 : Heap), h303.size ≤ b61 -> Fr (In []) h303 h305 -> Vars h305 [(b61, [t319_15.v]), (b60, [t309_31.v]), (b59, [t309_29.v]), (b2, [s66c.v]), (b1, [s66.v])] ->
 callM P 20 #[(.agg #[t309_29.v]), (VI t309_30), (.agg #[t309_31.v]), (VI t309_32)] h305 fun r167 h306 => ∃ t327_15 : Sl, ∃ t327_16 : Bool, r167 = (.tuple #[(.agg #[t327_15.v]), (VB t327_16)]) /\ Vars h306 [(b61, [t319_15.v]), (b60, [t309_31.v]), (b59, [t309_29.v]), (b2, [s66c.v]), (b1, [s66.v])] /\
 ((!(t319_16 == t327_16)) = true ->
 ∀ (b62 : Nat) (h308 : Heap), h306.size ≤ b62 -> Fr (In []) h306 h308 -> Vars h308 [(b62, [t327_15.v]), (b61, [t319_15.v]), (b60, [t309_31.v]), (b59, [t309_29.v]), (b2, [s66c.v]), (b1, [s66.v])] ->
 K (VB false) h308) /\
 ((!(t319_16 == t327_16)) = false ->
 ∀ (b62 : Nat) (h308 : Heap), h306.size ≤ b62 -> Fr (In []) h306 h308 -> Vars h308 [(b62, [t327_15.v]), (b61, [t319_15.v]), (b60, [t309_31.v]), (b59, [t309_29.v]), (b2, [s66c.v]), (b1, [s66.v])] ->
 callM P 21 #[(.agg #[t319_15.v]), (.agg #[t327_15.v])] h308 fun r168 h309 => ∃ s336h : Bool, r168 = (VB s336h) /\ Vars h309 [(b62, [t327_15.v]), (b61, [t319_15.v]), (b60, [t309_31.v]), (b59, [t309_29.v]), (b2, [s66c.v]), (b1, [s66.v])] /\
 ((!s336h) = true ->
 K (VB false) h309) /\
 ((!s336h) = false ->
 ∃ J49 : Heap -> Prop, ((t319_16 = true ->
 callM P 7 #[(.agg #[t309_29.v]), (VI t309_30), (.agg #[t309_31.v])] h309 fun r169 h310 => ∃ t344_15 : Sl, ∃ t344_16 : Bool, r169 = (.tuple #[t344_15.v, (VB t344_16)]) /\ Vars h310 [(b62, [t327_15.v]), (b61, [t319_15.v]), (b60, [t309_31.v]), (b59, [t309_29.v]), (b2, [s66c.v]), (b1, [s66.v])] /\
 ∃ J50 : Nat -> Sl -> Int -> Heap -> Prop, (∃ n0 : Nat, J50 n0 nilSl 0 h310) /\
 ∀ (n53 : Nat) (own41_8 : Sl) (s349h : Int) (h311 : Heap), J50 n53 own41_8 s349h h311 -> Vars h311 [(b62, [t327_15.v]), (b61, [t319_15.v]), (b60, [t309_31.v]), (b59, [t309_29.v]), (b2, [s66c.v]), (b1, [s66.v])] ->
 ((decide (s349h < (t344_15.n : Int))) = true ->
 InB t344_15 s349h /\
 ∃ s352h : Sl, hcell h311 (Sl.at t344_15 s349h 1) = some s352h.v /\
 callM P 22 #[s352h.v, (VI t309_32)] h311 fun r170 h312 => ∃ s355h : Bool, r170 = (VB s355h) /\ Vars h312 [(b62, [t327_15.v]), (b61, [t319_15.v]), (b60, [t309_31.v]), (b59, [t309_29.v]), (b2, [s66c.v]), (b1, [s66.v])] /\
 (s355h = true ->
 ∃ m : Nat, m < n53 /\ J50 m s352h (w64 (s349h + 1)) h312) /\
 (s355h = false ->
 ∃ m : Nat, m < n53 /\ J50 m own41_8 (w64 (s349h + 1)) h312)) /\
 ((decide (s349h < (t344_15.n : Int))) = false ->
 ((!t344_16) = true ->
 K (VB false) h311) /\
 ((!t344_16) = false ->
 ((decide ((own41_8.n : Int) = 0)) = true ->
 K (VB false) h311) /\
 ((decide ((own41_8.n : Int) = 0)) = false ->
 ∃ J51 : Nat -> Int -> Heap -> Prop, (∃ n0 : Nat, J51 n0 0 h311) /\
 ∀ (n54 : Nat) (s368h : Int) (h313 : Heap), J51 n54 s368h h313 -> Vars h313 [(b62, [t327_15.v]), (b61, [t319_15.v]), (b60, [t309_31.v]), (b59, [t309_29.v]), (b2, [s66c.v]), (b1, [s66.v])] ->
 ((decide (s368h < (t309_29.n : Int))) = true ->
 ∃ J52 : Int -> Heap -> Prop, (callM P 22 #[own41_8.v, (VI s368h)] h313 fun r171 h314 => ∃ s373h : Bool, r171 = (VB s373h) /\ Vars h314 [(b62, [t327_15.v]), (b61, [t319_15.v]), (b60, [t309_31.v]), (b59, [t309_29.v]), (b2, [s66c.v]), (b1, [s66.v])] /\
 (s373h = true ->
 J52 1 h314) /\
 (s373h = false ->
 J52 0 h314)) /\
 ∀ (y8 : Int) (h315 : Heap), J52 y8 h315 -> Vars h315 [(b62, [t327_15.v]), (b61, [t319_15.v]), (b60, [t309_31.v]), (b59, [t309_29.v]), (b2, [s66c.v]), (b1, [s66.v])] ->
 InB t319_15 s368h /\
 ∃ s378h : Sl, hcell h315 (Sl.at t319_15 s368h 1) = some s378h.v /\
 InB t309_31 s368h /\
 ∃ s383h : Sl, hcell h315 (Sl.at t309_31 s368h 1) = some s383h.v /\
 pop P (Instr.sliceAt 33 s383h.v (some (VI y8)) none none) fun r172 => ∃ s385h : Sl, r172 = s385h.v /\ 
 callM P 16 #[s378h.v, s385h.v] h315 fun r173 h316 => ∃ s386h : Bool, r173 = (VB s386h) /\ Vars h316 [(b62, [t327_15.v]), (b61, [t319_15.v]), (b60, [t309_31.v]), (b59, [t309_29.v]), (b2, [s66c.v]), (b1, [s66.v])] /\
 hcell h316 (Sl.at t309_31 s368h 1) = some s383h.v /\
 ((!s386h) = true ->
 K (VB false) h316) /\
 ((!s386h) = false ->
 ∃ m : Nat, m < n54 /\ J51 m (w64 (s368h + 1)) h316)) /\
 ((decide (s368h < (t309_29.n : Int))) = false ->
 J49  h313))))) /\
 (t319_16 = false ->
 J49  h309)) /\
 ∀ (h317 : Heap), J49  h317 -> Vars h317 [(b62, [t327_15.v]), (b61, [t319_15.v]), (b60, [t309_31.v]), (b59, [t309_29.v]), (b2, [s66c.v]), (b1, [s66.v])] ->
 callM P 23 #[more1_1.v] h317 fun r174 h318 => ∃ t391_29 : Sl, ∃ t391_30 : Int, ∃ t391_31 : Sl, ∃ t391_32 : Int, r174 = (.tuple #[(.agg #[t391_29.v]), (VI t391_30), t391_31.v, (VI t391_32)]) /\ Vars h318 [(b62, [t327_15.v]), (b61, [t319_15.v]), (b60, [t309_31.v]), (b59, [t309_29.v]), (b2, [s66c.v]), (b1, [s66.v])] /\
 ∀ (b63 : Nat) (h320 : Heap), h318.size ≤ b63 -> Fr (In []) h318 h320 -> Vars h320 [(b63, [t391_29.v]), (b62, [t327_15.v]), (b61, [t319_15.v]), (b60, [t309_31.v]), (b59, [t309_29.v]), (b2, [s66c.v]), (b1, [s66.v])] ->
 callM P 24 #[(.agg #[t391_29.v]), (VI t391_30), t391_31.v, (VI t391_32)] h320 fun r175 h321 => ∃ t401_15 : Sl, ∃ t401_16 : Bool, r175 = (.tuple #[(.agg #[t401_15.v]), (VB t401_16)]) /\ Vars h321 [(b63, [t391_29.v]), (b62, [t327_15.v]), (b61, [t319_15.v]), (b60, [t309_31.v]), (b59, [t309_29.v]), (b2, [s66c.v]), (b1, [s66.v])] /\
 ∀ (b64 : Nat) (h323 : Heap), h321.size ≤ b64 -> Fr (In []) h321 h323 -> Vars h323 [(b64, [t401_15.v]), (b63, [t391_29.v]), (b62, [t327_15.v]), (b61, [t319_15.v]), (b60, [t309_31.v]), (b59, [t309_29.v]), (b2, [s66c.v]), (b1, [s66.v])] ->
 callM P 25 #[(.agg #[t391_29.v]), (VI t391_30), t391_31.v, (VI t391_32)] h323 fun r176 h324 => ∃ t409_15 : Sl, ∃ t409_16 : Bool, r176 = (.tuple #[(.agg #[t409_15.v]), (VB t409_16)]) /\ Vars h324 [(b64, [t401_15.v]), (b63, [t391_29.v]), (b62, [t327_15.v]), (b61, [t319_15.v]), (b60, [t309_31.v]), (b59, [t309_29.v]), (b2, [s66c.v]), (b1, [s66.v])] /\
 ∀ (b65 : Nat) (h326 : Heap), h324.size ≤ b65 -> Fr (In []) h324 h326 -> Vars h326 [(b65, [t409_15.v]), (b64, [t401_15.v]), (b63, [t391_29.v]), (b62, [t327_15.v]), (b61, [t319_15.v]), (b60, [t309_31.v]), (b59, [t309_29.v]), (b2, [s66c.v]), (b1, [s66.v])] ->
 callM P 26 #[more1_1.v] h326 fun r177 h327 => ∃ s413h : Sl, r177 = (.agg #[s413h.v]) /\ Vars h327 [(b65, [t409_15.v]), (b64, [t401_15.v]), (b63, [t391_29.v]), (b62, [t327_15.v]), (b61, [t319_15.v]), (b60, [t309_31.v]), (b59, [t309_29.v]), (b2, [s66c.v]), (b1, [s66.v])] /\
 ∀ (b66 : Nat) (h329 : Heap), h327.size ≤ b66 -> Fr (In []) h327 h329 -> Vars h329 [(b66, [s413h.v]), (b65, [t409_15.v]), (b64, [t401_15.v]), (b63, [t391_29.v]), (b62, [t327_15.v]), (b61, [t319_15.v]), (b60, [t309_31.v]), (b59, [t309_29.v]), (b2, [s66c.v]), (b1, [s66.v])] ->
 callM P 27 #[(.agg #[s413h.v])] h329 fun r178 h330 => ∃ t416_15 : ByteArray, ∃ t416_16 : Bool, r178 = (.tuple #[(VS t416_15), (VB t416_16)]) /\ Vars h330 [(b66, [s413h.v]), (b65, [t409_15.v]), (b64, [t401_15.v]), (b63, [t391_29.v]), (b62, [t327_15.v]), (b61, [t319_15.v]), (b60, [t309_31.v]), (b59, [t309_29.v]), (b2, [s66c.v]), (b1, [s66.v])] /\
 callM P 28 #[(.agg #[s413h.v])] h330 fun r179 h331 => ∃ t421_15 : ByteArray, ∃ t421_16 : Bool, r179 = (.tuple #[(VS t421_15), (VB t421_16)]) /\ Vars h331 [(b66, [s413h.v]), (b65, [t409_15.v]), (b64, [t401_15.v]), (b63, [t391_29.v]), (b62, [t327_15.v]), (b61, [t319_15.v]), (b60, [t309_31.v]), (b59, [t309_29.v]), (b2, [s66c.v]), (b1, [s66.v])] /\
 ((!(t401_16 == t409_16)) = true ->
 K (VB false) h331) /\
 ((!(t401_16 == t409_16)) = false ->
 callM P 21 #[(.agg #[t401_15.v]), (.agg #[t409_15.v])] h331 fun r180 h332 => ∃ s430h : Bool, r180 = (VB s430h) /\ Vars h332 [(b66, [s413h.v]), (b65, [t409_15.v]), (b64, [t401_15.v]), (b63, [t391_29.v]), (b62, [t327_15.v]), (b61, [t319_15.v]), (b60, [t309_31.v]), (b59, [t309_29.v]), (b2, [s66c.v]), (b1, [s66.v])] /\
 ((!s430h) = true ->
 K (VB false) h332) /\
 ((!s430h) = false ->
 ((!(t416_16 == t421_16)) = true ->
 K (VB false) h332) /\
 ((!(t416_16 == t421_16)) = false ->
 ((!(ByteArray.toList t416_15 == ByteArray.toList t421_15)) = true ->
 K (VB false) h332) /\
 ((!(ByteArray.toList t416_15 == ByteArray.toList t421_15)) = false ->
 (t401_16 = true ->
 callM P 11 #[(.agg #[t391_29.v]), (VI t391_30), (.agg #[t401_15.v])] h332 fun r181 h333 => ∃ t448_15 : Bool, ∃ t448_16 : Bool, r181 = (.tuple #[(VB t448_15), (VB t448_16)]) /\ Vars h333 [(b66, [s413h.v]), (b65, [t409_15.v]), (b64, [t401_15.v]), (b63, [t391_29.v]), (b62, [t327_15.v]), (b61, [t319_15.v]), (b60, [t309_31.v]), (b59, [t309_29.v]), (b2, [s66c.v]), (b1, [s66.v])] /\
 (t448_16 = true ->
 K (VB t448_15) h333) /\
 (t448_16 = false ->
 K (VB false) h333)) /\
 (t401_16 = false ->
 K (VB true) h332)))))))))))))))))))))
end Go.Proofs.YtkjkfjkapbpgiaaGreatDoor
