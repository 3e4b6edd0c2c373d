import Derived.Test.YtkjkfjkapbpgiaaGreatDoorWalksComeAgainT
import Derived.Test.YtkjkfjkapbpgiaaGreatDoorM2
set_option linter.unusedVariables false
set_option linter.unusedSimpArgs false
set_option maxRecDepth 100000
set_option maxHeartbeats 16000000
namespace Go.Proofs.YtkjkfjkapbpgiaaGreatDoor
open Go Go.Mx
theorem agg124 : aggC Tryz.prog 124 = some 5 := by kernel_rfl
theorem agg26 : aggC Tryz.prog 26 = some 1 := by kernel_rfl
theorem agg54 : aggC Tryz.prog 54 = some 2 := by kernel_rfl
theorem boo4 : Tryz.prog.underlying 4 = some .bool := by kernel_rfl
theorem fld124_0 : fieldC Tryz.prog 124 0 = some 0 := by kernel_rfl
theorem fld124_1 : fieldC Tryz.prog 124 1 = some 2 := by kernel_rfl
theorem fld124_2 : fieldC Tryz.prog 124 2 = some 3 := by kernel_rfl
theorem fld124_3 : fieldC Tryz.prog 124 3 = some 4 := by kernel_rfl
theorem fld26_0 : fieldC Tryz.prog 26 0 = some 0 := by kernel_rfl
theorem fld54_0 : fieldC Tryz.prog 54 0 = some 0 := by kernel_rfl
theorem fld54_1 : fieldC Tryz.prog 54 1 = some 1 := by kernel_rfl
theorem fld84_0 : fieldC Tryz.prog 84 0 = some 0 := by kernel_rfl
theorem fld84_1 : fieldC Tryz.prog 84 1 = some 1 := by kernel_rfl
theorem fld84_2 : fieldC Tryz.prog 84 2 = some 2 := by kernel_rfl
theorem one127 : oneC Tryz.prog 127 = true := by kernel_rfl
theorem one22 : oneC Tryz.prog 22 = true := by kernel_rfl
theorem one24 : oneC Tryz.prog 24 = true := by kernel_rfl
theorem one3 : oneC Tryz.prog 3 = true := by kernel_rfl
theorem one33 : oneC Tryz.prog 33 = true := by kernel_rfl
theorem one4 : oneC Tryz.prog 4 = true := by kernel_rfl
theorem one5 : oneC Tryz.prog 5 = true := by kernel_rfl
theorem one82 : oneC Tryz.prog 82 = true := by kernel_rfl
theorem siz124 : sizeC Tryz.prog 124 = some 5 := by kernel_rfl
theorem siz127 : sizeC Tryz.prog 127 = some 1 := by kernel_rfl
theorem siz24 : sizeC Tryz.prog 24 = some 1 := by kernel_rfl
theorem siz26 : sizeC Tryz.prog 26 = some 1 := by kernel_rfl
theorem siz3 : sizeC Tryz.prog 3 = some 1 := by kernel_rfl
theorem siz33 : sizeC Tryz.prog 33 = some 1 := by kernel_rfl
theorem siz4 : sizeC Tryz.prog 4 = some 1 := by kernel_rfl
theorem siz5 : sizeC Tryz.prog 5 = some 1 := by kernel_rfl
theorem siz54 : sizeC Tryz.prog 54 = some 2 := by kernel_rfl
theorem siz82 : sizeC Tryz.prog 82 = some 1 := by kernel_rfl
theorem sli127 : Tryz.prog.underlying 127 = some (.slice 4) := by kernel_rfl
theorem sli22 : Tryz.prog.underlying 22 = some (.slice 5) := by kernel_rfl
theorem sli24 : Tryz.prog.underlying 24 = some (.slice 33) := by kernel_rfl
theorem sli33 : Tryz.prog.underlying 33 = some (.slice 3) := by kernel_rfl
theorem zer124 : zeroC Tryz.prog 124 = some (Value.agg #[nilSl.v, (VI 0), nilSl.v, nilSl.v, nilSl.v]) := by kernel_rfl
theorem zer127 : zeroC Tryz.prog 127 = some nilSl.v := by kernel_rfl
theorem zer26 : zeroC Tryz.prog 26 = some (Value.agg #[nilSl.v]) := by kernel_rfl
theorem zer3 : zeroC Tryz.prog 3 = some (VI 0) := by kernel_rfl
theorem zer33 : zeroC Tryz.prog 33 = some nilSl.v := by kernel_rfl
theorem zer54 : zeroC Tryz.prog 54 = some (Value.agg #[nilSl.v, (VI 0)]) := by kernel_rfl
def u4 (P : Program) (code0_1 : Sl) (more1_1 : Sl) (h : Heap) (K : Value -> Heap -> Prop) : Prop :=
 callM P 5 #[code0_1.v, more1_1.v] h fun r1 h1 => ∃ s64 : Bool, r1 = (VB s64) /\ Vars h1 [] /\
 (s64 = true ->
 K (VB true) h1) /\
 (s64 = false ->
 callM P 29 #[code0_1.v] h1 fun r2 h2 => ∃ s67 : Sl, ∃ s67b : Sl, ∃ s67c : Int, r2 = (.tuple #[(.agg #[s67.v]), (.agg #[s67b.v, (VI s67c)])]) /\ Vars h2 [] /\
 ∀ (b1 : Nat) (b2 : Nat) (h6 : Heap), h2.size ≤ b1 -> h2.size ≤ b2 -> Fr (In []) h2 h6 -> Vars h6 [(b2, [s67b.v, (VI s67c)]), (b1, [s67.v])] ->
 callM P 30 #[(.agg #[s67.v]), (.agg #[s67b.v, (VI s67c)])] h6 fun r3 h7 => ∃ s73 : Int, ∃ s73b : Int, ∃ s73c : Bool, r3 = (.tuple #[(VI s73), (VI s73b), (VB s73c)]) /\ Vars h7 [(b2, [s67b.v, (VI s67c)]), (b1, [s67.v])] /\
 callM P 31 #[(.agg #[s67.v]), (.agg #[s67b.v, (VI s67c)])] h7 fun r4 h8 => ∃ s80 : Int, ∃ s80b : Int, ∃ s80c : Bool, r4 = (.tuple #[(VI s80), (VI s80b), (VB s80c)]) /\ Vars h8 [(b2, [s67b.v, (VI s67c)]), (b1, [s67.v])] /\
 callM P 32 #[(.agg #[s67.v]), (.agg #[s67b.v, (VI s67c)])] h8 fun r5 h9 => ∃ s87 : Bool, ∃ s87b : Bool, r5 = (.tuple #[(VB s87), (VB s87b)]) /\ Vars h9 [(b2, [s67b.v, (VI s67c)]), (b1, [s67.v])] /\
 callM P 33 #[(.agg #[s67.v]), (.agg #[s67b.v, (VI s67c)])] h9 fun r6 h10 => ∃ s93 : Bool, ∃ s93b : Bool, r6 = (.tuple #[(VB s93), (VB s93b)]) /\ Vars h10 [(b2, [s67b.v, (VI s67c)]), (b1, [s67.v])] /\
 ((!(s73c == s80c)) = true ->
 K (VB false) h10) /\
 ((!(s73c == s80c)) = false ->
 ((!decide (s73 = s80)) = true ->
 K (VB false) h10) /\
 ((!decide (s73 = s80)) = false ->
 ((!decide (s73b = s80b)) = true ->
 K (VB false) h10) /\
 ((!decide (s73b = s80b)) = false ->
 ((!(s87b == s93b)) = true ->
 K (VB false) h10) /\
 ((!(s87b == s93b)) = false ->
 ((!(s87 == s93)) = true ->
 K (VB false) h10) /\
 ((!(s87 == s93)) = false ->
 (s73c = true ->
 ((!s87b) = true ->
 K (VB false) h10) /\
 ((!s87b) = false ->
 ((!(s87 == (decide (s73 = 0)))) = true ->
 K (VB false) h10) /\
 ((!(s87 == (decide (s73 = 0)))) = false ->
 ∃ J1 : Heap -> Prop, (callM P 34 #[(.agg #[s67.v]), (.agg #[s67b.v, (VI s67c)]), (VI s73)] h10 fun r7 h11 => ∃ s137 : Sl, ∃ s137b : Int, ∃ s137c : Bool, r7 = (.tuple #[(.agg #[s137.v, (VI s137b)]), (VB s137c)]) /\ Vars h11 [(b2, [s67b.v, (VI s67c)]), (b1, [s67.v])] /\
 ∀ (b3 : Nat) (h13 : Heap), h11.size ≤ b3 -> Fr (In []) h11 h13 -> Vars h13 [(b3, [s137.v, (VI s137b)]), (b2, [s67b.v, (VI s67c)]), (b1, [s67.v])] ->
 callM P 34 #[(.agg #[s67.v]), (.agg #[s67b.v, (VI s67c)]), (VI (w64 (s73 + s73b)))] h13 fun r8 h14 => ∃ s146 : Sl, ∃ s146b : Int, ∃ s146c : Bool, r8 = (.tuple #[(.agg #[s146.v, (VI s146b)]), (VB s146c)]) /\ Vars h14 [(b3, [s137.v, (VI s137b)]), (b2, [s67b.v, (VI s67c)]), (b1, [s67.v])] /\
 ∀ (b4 : Nat) (h16 : Heap), h14.size ≤ b4 -> Fr (In []) h14 h16 -> Vars h16 [(b4, [s146.v, (VI s146b)]), (b3, [s137.v, (VI s137b)]), (b2, [s67b.v, (VI s67c)]), (b1, [s67.v])] ->
 callM P 35 #[(.agg #[s67.v])] h16 fun r9 h17 => ∃ s151 : Bool, ∃ s151b : Bool, r9 = (.tuple #[(VB s151), (VB s151b)]) /\ Vars h17 [(b4, [s146.v, (VI s146b)]), (b3, [s137.v, (VI s137b)]), (b2, [s67b.v, (VI s67c)]), (b1, [s67.v])] /\
 callM P 36 #[(.agg #[s67.v])] h17 fun r10 h18 => ∃ s156 : Bool, ∃ s156b : Bool, r10 = (.tuple #[(VB s156), (VB s156b)]) /\ Vars h18 [(b4, [s146.v, (VI s146b)]), (b3, [s137.v, (VI s137b)]), (b2, [s67b.v, (VI s67c)]), (b1, [s67.v])] /\
 callM P 37 #[(.agg #[s67.v])] h18 fun r11 h19 => ∃ s161 : Int, ∃ s161b : Bool, r11 = (.tuple #[(VI s161), (VB s161b)]) /\ Vars h19 [(b4, [s146.v, (VI s146b)]), (b3, [s137.v, (VI s137b)]), (b2, [s67b.v, (VI s67c)]), (b1, [s67.v])] /\
 ((!s137c) = true ->
 K (VB false) h19) /\
 ((!s137c) = false ->
 ((!s146c) = true ->
 K (VB false) h19) /\
 ((!s146c) = false ->
 callM P 38 #[(.agg #[s137.v, (VI s137b)]), (.agg #[s146.v, (VI s146b)])] h19 fun r12 h20 => ∃ s173 : Bool, r12 = (VB s173) /\ Vars h20 [(b4, [s146.v, (VI s146b)]), (b3, [s137.v, (VI s137b)]), (b2, [s67b.v, (VI s67c)]), (b1, [s67.v])] /\
 ((!s173) = true ->
 K (VB false) h20) /\
 ((!s173) = false ->
 ((!s151b) = true ->
 K (VB false) h20) /\
 ((!s151b) = false ->
 ((!s156b) = true ->
 K (VB false) h20) /\
 ((!s156b) = false ->
 ((!s161b) = true ->
 K (VB false) h20) /\
 ((!s161b) = false ->
 ((decide (s73b < 1)) = true ->
 K (VB false) h20) /\
 ((decide (s73b < 1)) = false ->
 (s151 = true ->
 (s156 = true ->
 ((!decide (s73b = s161)) = true ->
 K (VB false) h20) /\
 ((!decide (s73b = s161)) = false ->
 callM P 39 #[(.agg #[s67.v]), (.agg #[s137.v, (VI s137b)])] h20 fun r13 h21 => ∃ s206 : Bool, ∃ s206b : Bool, r13 = (.tuple #[(VB s206), (VB s206b)]) /\ Vars h21 [(b4, [s146.v, (VI s146b)]), (b3, [s137.v, (VI s137b)]), (b2, [s67b.v, (VI s67c)]), (b1, [s67.v])] /\
 ((!s206b) = true ->
 K (VB false) h21) /\
 ((!s206b) = false ->
 ((!s206) = true ->
 K (VB false) h21) /\
 ((!s206) = false ->
 J1  h21)))) /\
 (s156 = false ->
 callM P 39 #[(.agg #[s67.v]), (.agg #[s137.v, (VI s137b)])] h20 fun r14 h22 => ∃ s206c : Bool, ∃ s206d : Bool, r14 = (.tuple #[(VB s206c), (VB s206d)]) /\ Vars h22 [(b4, [s146.v, (VI s146b)]), (b3, [s137.v, (VI s137b)]), (b2, [s67b.v, (VI s67c)]), (b1, [s67.v])] /\
 ((!s206d) = true ->
 K (VB false) h22) /\
 ((!s206d) = false ->
 ((!s206c) = true ->
 K (VB false) h22) /\
 ((!s206c) = false ->
 J1  h22)))) /\
 (s151 = false ->
 callM P 39 #[(.agg #[s67.v]), (.agg #[s137.v, (VI s137b)])] h20 fun r15 h23 => ∃ s206e : Bool, ∃ s206f : Bool, r15 = (.tuple #[(VB s206e), (VB s206f)]) /\ Vars h23 [(b4, [s146.v, (VI s146b)]), (b3, [s137.v, (VI s137b)]), (b2, [s67b.v, (VI s67c)]), (b1, [s67.v])] /\
 J1  h23))))))))) /\
 ∀ (h24 : Heap), J1  h24 -> Vars h24 [(b2, [s67b.v, (VI s67c)]), (b1, [s67.v])] ->
 callM P 40 #[more1_1.v] h24 fun r16 h25 => ∃ s220 : Sl, ∃ s220b : Int, r16 = (.tuple #[(.agg #[s220.v]), (VI s220b)]) /\ Vars h25 [(b2, [s67b.v, (VI s67c)]), (b1, [s67.v])] /\
 ∀ (b5 : Nat) (h27 : Heap), h25.size ≤ b5 -> Fr (In []) h25 h27 -> Vars h27 [(b5, [s220.v]), (b2, [s67b.v, (VI s67c)]), (b1, [s67.v])] ->
 callM P 41 #[(.agg #[s220.v]), (VI s220b)] h27 fun r17 h28 => ∃ s226 : Sl, ∃ s226b : Bool, r17 = (.tuple #[s226.v, (VB s226b)]) /\ Vars h28 [(b5, [s220.v]), (b2, [s67b.v, (VI s67c)]), (b1, [s67.v])] /\
 callM P 42 #[(.agg #[s220.v]), (VI s220b)] h28 fun r18 h29 => ∃ s232 : Sl, ∃ s232b : Bool, r18 = (.tuple #[s232.v, (VB s232b)]) /\ Vars h29 [(b5, [s220.v]), (b2, [s67b.v, (VI s67c)]), (b1, [s67.v])] /\
 ((!(s226b == s232b)) = true ->
 K (VB false) h29) /\
 ((!(s226b == s232b)) = false ->
 callM P 16 #[s226.v, s232.v] h29 fun r19 h30 => ∃ s241 : Bool, r19 = (VB s241) /\ Vars h30 [(b5, [s220.v]), (b2, [s67b.v, (VI s67c)]), (b1, [s67.v])] /\
 ((!s241) = true ->
 K (VB false) h30) /\
 ((!s241) = false ->
 ∃ J2 : Heap -> Prop, ((s226b = true ->
 callM P 37 #[(.agg #[s220.v])] h30 fun r20 h31 => ∃ s247 : Int, ∃ s247b : Bool, r20 = (.tuple #[(VI s247), (VB s247b)]) /\ Vars h31 [(b5, [s220.v]), (b2, [s67b.v, (VI s67c)]), (b1, [s67.v])] /\
 ((!s247b) = true ->
 K (VB false) h31) /\
 ((!s247b) = false ->
 ((!decide ((s226.n : Int) = (w64 (s247 + 1)))) = true ->
 K (VB false) h31) /\
 ((!decide ((s226.n : Int) = (w64 (s247 + 1)))) = false ->
 InB s226 0 /\
 ∃ s262 : Int, hcell h31 (Sl.at s226 0 1) = some (VI s262) /\
 ((!decide (s262 = s220b)) = true ->
 K (VB false) h31) /\
 ((!decide (s262 = s220b)) = false ->
 InB s226 s247 /\
 ∃ s270 : Int, hcell h31 (Sl.at s226 s247 1) = some (VI s270) /\
 ((!decide (s270 = s220b)) = true ->
 K (VB false) h31) /\
 ((!decide (s270 = s220b)) = false ->
 ∃ J3 : Nat -> Int -> Heap -> Prop, (∃ n0 : Nat, J3 n0 0 h31) /\
 ∀ (n1 : Nat) (s277 : Int) (h32 : Heap), J3 n1 s277 h32 -> Vars h32 [(b5, [s220.v]), (b2, [s67b.v, (VI s67c)]), (b1, [s67.v])] ->
 ((decide (s277 < (s220.n : Int))) = true ->
 InB s220 s277 /\
 ∃ s281 : Sl, hcell h32 (Sl.at s220 s277 1) = some s281.v /\
 ∃ J4 : Nat -> Int -> Heap -> Prop, (∃ n0 : Nat, J4 n0 0 h32) /\
 ∀ (n2 : Nat) (s285 : Int) (h33 : Heap), J4 n2 s285 h33 -> Vars h33 [(b5, [s220.v]), (b2, [s67b.v, (VI s67c)]), (b1, [s67.v])] ->
 ((decide (s285 < (s220.n : Int))) = true ->
 ∃ J5 : Nat -> Int -> Int -> Heap -> Prop, (∃ n0 : Nat, J5 n0 0 0 h33) /\
 ∀ (n3 : Nat) (due40_1 : Int) (s290 : Int) (h34 : Heap), J5 n3 due40_1 s290 h34 -> Vars h34 [(b5, [s220.v]), (b2, [s67b.v, (VI s67c)]), (b1, [s67.v])] ->
 ((decide (s290 < (s281.n : Int))) = true ->
 InB s281 s290 /\
 ∃ s293 : Int, hcell h34 (Sl.at s281 s290 1) = some (VI s293) /\
 ((decide (s293 = s285)) = true ->
 ∃ m : Nat, m < n3 /\ J5 m (w64 (due40_1 + 1)) (w64 (s290 + 1)) h34) /\
 ((decide (s293 = s285)) = false ->
 ∃ m : Nat, m < n3 /\ J5 m due40_1 (w64 (s290 + 1)) h34)) /\
 ((decide (s290 < (s281.n : Int))) = false ->
 ∃ J6 : Nat -> Int -> Int -> Heap -> Prop, (∃ n0 : Nat, J6 n0 0 1 h34) /\
 ∀ (n4 : Nat) (n41_1 : Int) (i44_1 : Int) (h35 : Heap), J6 n4 n41_1 i44_1 h35 -> Vars h35 [(b5, [s220.v]), (b2, [s67b.v, (VI s67c)]), (b1, [s67.v])] ->
 ((decide (i44_1 < (s226.n : Int))) = true ->
 ∃ J7 : Int -> Heap -> Prop, (InB s226 (w64 (i44_1 - 1)) /\
 ∃ s310 : Int, hcell h35 (Sl.at s226 (w64 (i44_1 - 1)) 1) = some (VI s310) /\
 ((decide (s310 = s277)) = true ->
 InB s226 i44_1 /\
 ∃ s317 : Int, hcell h35 (Sl.at s226 i44_1 1) = some (VI s317) /\
 ((decide (s317 = s285)) = true ->
 J7 (w64 (n41_1 + 1)) h35) /\
 ((decide (s317 = s285)) = false ->
 J7 n41_1 h35)) /\
 ((decide (s310 = s277)) = false ->
 J7 n41_1 h35)) /\
 ∀ (y1 : Int) (h36 : Heap), J7 y1 h36 -> Vars h36 [(b5, [s220.v]), (b2, [s67b.v, (VI s67c)]), (b1, [s67.v])] ->
 ∃ m : Nat, m < n4 /\ J6 m y1 (w64 (i44_1 + 1)) h36) /\
 ((decide (i44_1 < (s226.n : Int))) = false ->
 ((!decide (n41_1 = due40_1)) = true ->
 K (VB false) h35) /\
 ((!decide (n41_1 = due40_1)) = false ->
 ∃ m : Nat, m < n2 /\ J4 m (w64 (s285 + 1)) h35)))) /\
 ((decide (s285 < (s220.n : Int))) = false ->
 ∃ m : Nat, m < n1 /\ J3 m (w64 (s277 + 1)) h33)) /\
 ((decide (s277 < (s220.n : Int))) = false ->
 J2  h32)))))) /\
 (s226b = false ->
 J2  h30)) /\
 ∀ (h37 : Heap), J2  h37 -> Vars h37 [(b5, [s220.v]), (b2, [s67b.v, (VI s67c)]), (b1, [s67.v])] ->
 callM P 43 #[more1_1.v] h37 fun r21 h38 => ∃ s330 : Sl, ∃ s330b : Sl, ∃ s330c : Int, ∃ s330d : Int, r21 = (.tuple #[(.agg #[s330.v]), (.agg #[s330b.v, (VI s330c)]), (VI s330d)]) /\ Vars h38 [(b5, [s220.v]), (b2, [s67b.v, (VI s67c)]), (b1, [s67.v])] /\
 ∀ (b6 : Nat) (b7 : Nat) (h42 : Heap), h38.size ≤ b6 -> h38.size ≤ b7 -> Fr (In []) h38 h42 -> Vars h42 [(b7, [s330b.v, (VI s330c)]), (b6, [s330.v]), (b5, [s220.v]), (b2, [s67b.v, (VI s67c)]), (b1, [s67.v])] ->
 callM P 44 #[(.agg #[s330.v]), (.agg #[s330b.v, (VI s330c)]), (VI s330d)] h42 fun r22 h43 => ∃ s338 : Int, ∃ s338b : Bool, r22 = (.tuple #[(VI s338), (VB s338b)]) /\ Vars h43 [(b7, [s330b.v, (VI s330c)]), (b6, [s330.v]), (b5, [s220.v]), (b2, [s67b.v, (VI s67c)]), (b1, [s67.v])] /\
 callM P 45 #[(.agg #[s330.v]), (.agg #[s330b.v, (VI s330c)]), (VI s330d)] h43 fun r23 h44 => ∃ s345 : Int, ∃ s345b : Bool, r23 = (.tuple #[(VI s345), (VB s345b)]) /\ Vars h44 [(b7, [s330b.v, (VI s330c)]), (b6, [s330.v]), (b5, [s220.v]), (b2, [s67b.v, (VI s67c)]), (b1, [s67.v])] /\
 callM P 46 #[more1_1.v] h44 fun r24 h45 => ∃ s350 : Sl, ∃ s350b : Sl, ∃ s350c : Int, r24 = (.tuple #[(.agg #[s350.v]), (.agg #[s350b.v, (VI s350c)])]) /\ Vars h45 [(b7, [s330b.v, (VI s330c)]), (b6, [s330.v]), (b5, [s220.v]), (b2, [s67b.v, (VI s67c)]), (b1, [s67.v])] /\
 ∀ (b8 : Nat) (b9 : Nat) (h49 : Heap), h45.size ≤ b8 -> h45.size ≤ b9 -> Fr (In []) h45 h49 -> Vars h49 [(b9, [s350b.v, (VI s350c)]), (b8, [s350.v]), (b7, [s330b.v, (VI s330c)]), (b6, [s330.v]), (b5, [s220.v]), (b2, [s67b.v, (VI s67c)]), (b1, [s67.v])] ->
 callM P 47 #[(.agg #[s350.v]), (.agg #[s350b.v, (VI s350c)])] h49 fun r25 h50 => ∃ s356 : Int, ∃ s356b : Bool, r25 = (.tuple #[(VI s356), (VB s356b)]) /\ Vars h50 [(b9, [s350b.v, (VI s350c)]), (b8, [s350.v]), (b7, [s330b.v, (VI s330c)]), (b6, [s330.v]), (b5, [s220.v]), (b2, [s67b.v, (VI s67c)]), (b1, [s67.v])] /\
 callM P 48 #[(.agg #[s350.v]), (.agg #[s350b.v, (VI s350c)])] h50 fun r26 h51 => ∃ s362 : Int, ∃ s362b : Bool, r26 = (.tuple #[(VI s362), (VB s362b)]) /\ Vars h51 [(b9, [s350b.v, (VI s350c)]), (b8, [s350.v]), (b7, [s330b.v, (VI s330c)]), (b6, [s330.v]), (b5, [s220.v]), (b2, [s67b.v, (VI s67c)]), (b1, [s67.v])] /\
 ((!(s338b == s345b)) = true ->
 K (VB false) h51) /\
 ((!(s338b == s345b)) = false ->
 ((!decide (s338 = s345)) = true ->
 K (VB false) h51) /\
 ((!decide (s338 = s345)) = false ->
 ((!(s356b == s362b)) = true ->
 K (VB false) h51) /\
 ((!(s356b == s362b)) = false ->
 ((!decide (s356 = s362)) = true ->
 K (VB false) h51) /\
 ((!decide (s356 = s362)) = false ->
 (s356b = true ->
 ∃ J8 : Nat -> Int -> Int -> Heap -> Prop, (∃ n0 : Nat, J8 n0 0 0 h51) /\
 ∀ (n9 : Nat) (most58_1 : Int) (s387 : Int) (h52 : Heap), J8 n9 most58_1 s387 h52 -> Vars h52 [(b9, [s350b.v, (VI s350c)]), (b8, [s350.v]), (b7, [s330b.v, (VI s330c)]), (b6, [s330.v]), (b5, [s220.v]), (b2, [s67b.v, (VI s67c)]), (b1, [s67.v])] ->
 ((decide (s387 < (s350.n : Int))) = true ->
 callM P 44 #[(.agg #[s350.v]), (.agg #[s350b.v, (VI s350c)]), (VI s387)] h52 fun r27 h53 => ∃ s394 : Int, ∃ s394b : Bool, r27 = (.tuple #[(VI s394), (VB s394b)]) /\ Vars h53 [(b9, [s350b.v, (VI s350c)]), (b8, [s350.v]), (b7, [s330b.v, (VI s330c)]), (b6, [s330.v]), (b5, [s220.v]), (b2, [s67b.v, (VI s67c)]), (b1, [s67.v])] /\
 ((!s394b) = true ->
 K (VB false) h53) /\
 ((!s394b) = false ->
 ((decide (s356 < s394)) = true ->
 K (VB false) h53) /\
 ((decide (s356 < s394)) = false ->
 ((decide (most58_1 < s394)) = true ->
 ∃ m : Nat, m < n9 /\ J8 m s394 (w64 (s387 + 1)) h53) /\
 ((decide (most58_1 < s394)) = false ->
 ∃ m : Nat, m < n9 /\ J8 m most58_1 (w64 (s387 + 1)) h53)))) /\
 ((decide (s387 < (s350.n : Int))) = false ->
 ((!decide (most58_1 = s356)) = true ->
 K (VB false) h52) /\
 ((!decide (most58_1 = s356)) = false ->
 K (VB true) h52))) /\
 (s356b = false ->
 K (VB true) h51)))))))))) /\
 (s73c = false ->
 ∃ J9 : Heap -> Prop, (J9  h10) /\
 ∀ (h54 : Heap), J9  h54 -> Vars h54 [(b2, [s67b.v, (VI s67c)]), (b1, [s67.v])] ->
 callM P 40 #[more1_1.v] h54 fun r28 h55 => ∃ s220c : Sl, ∃ s220d : Int, r28 = (.tuple #[(.agg #[s220c.v]), (VI s220d)]) /\ Vars h55 [(b2, [s67b.v, (VI s67c)]), (b1, [s67.v])] /\
 ∀ (b10 : Nat) (h57 : Heap), h55.size ≤ b10 -> Fr (In []) h55 h57 -> Vars h57 [(b10, [s220c.v]), (b2, [s67b.v, (VI s67c)]), (b1, [s67.v])] ->
 callM P 41 #[(.agg #[s220c.v]), (VI s220d)] h57 fun r29 h58 => ∃ s226c : Sl, ∃ s226d : Bool, r29 = (.tuple #[s226c.v, (VB s226d)]) /\ Vars h58 [(b10, [s220c.v]), (b2, [s67b.v, (VI s67c)]), (b1, [s67.v])] /\
 callM P 42 #[(.agg #[s220c.v]), (VI s220d)] h58 fun r30 h59 => ∃ s232c : Sl, ∃ s232d : Bool, r30 = (.tuple #[s232c.v, (VB s232d)]) /\ Vars h59 [(b10, [s220c.v]), (b2, [s67b.v, (VI s67c)]), (b1, [s67.v])] /\
 ((!(s226d == s232d)) = true ->
 K (VB false) h59) /\
 ((!(s226d == s232d)) = false ->
 callM P 16 #[s226c.v, s232c.v] h59 fun r31 h60 => ∃ s241b : Bool, r31 = (VB s241b) /\ Vars h60 [(b10, [s220c.v]), (b2, [s67b.v, (VI s67c)]), (b1, [s67.v])] /\
 ((!s241b) = true ->
 K (VB false) h60) /\
 ((!s241b) = false ->
 ∃ J10 : Heap -> Prop, ((s226d = true ->
 callM P 37 #[(.agg #[s220c.v])] h60 fun r32 h61 => ∃ s247c : Int, ∃ s247d : Bool, r32 = (.tuple #[(VI s247c), (VB s247d)]) /\ Vars h61 [(b10, [s220c.v]), (b2, [s67b.v, (VI s67c)]), (b1, [s67.v])] /\
 ((!s247d) = true ->
 K (VB false) h61) /\
 ((!s247d) = false ->
 ((!decide ((s226c.n : Int) = (w64 (s247c + 1)))) = true ->
 K (VB false) h61) /\
 ((!decide ((s226c.n : Int) = (w64 (s247c + 1)))) = false ->
 InB s226c 0 /\
 ∃ s262b : Int, hcell h61 (Sl.at s226c 0 1) = some (VI s262b) /\
 ((!decide (s262b = s220d)) = true ->
 K (VB false) h61) /\
 ((!decide (s262b = s220d)) = false ->
 InB s226c s247c /\
 ∃ s270b : Int, hcell h61 (Sl.at s226c s247c 1) = some (VI s270b) /\
 ((!decide (s270b = s220d)) = true ->
 K (VB false) h61) /\
 ((!decide (s270b = s220d)) = false ->
 ∃ J11 : Nat -> Int -> Heap -> Prop, (∃ n0 : Nat, J11 n0 0 h61) /\
 ∀ (n11 : Nat) (s277b : Int) (h62 : Heap), J11 n11 s277b h62 -> Vars h62 [(b10, [s220c.v]), (b2, [s67b.v, (VI s67c)]), (b1, [s67.v])] ->
 ((decide (s277b < (s220c.n : Int))) = true ->
 InB s220c s277b /\
 ∃ s281b : Sl, hcell h62 (Sl.at s220c s277b 1) = some s281b.v /\
 ∃ J12 : Nat -> Int -> Heap -> Prop, (∃ n0 : Nat, J12 n0 0 h62) /\
 ∀ (n12 : Nat) (s285b : Int) (h63 : Heap), J12 n12 s285b h63 -> Vars h63 [(b10, [s220c.v]), (b2, [s67b.v, (VI s67c)]), (b1, [s67.v])] ->
 ((decide (s285b < (s220c.n : Int))) = true ->
 ∃ J13 : Nat -> Int -> Int -> Heap -> Prop, (∃ n0 : Nat, J13 n0 0 0 h63) /\
 ∀ (n13 : Nat) (due40_2 : Int) (s290b : Int) (h64 : Heap), J13 n13 due40_2 s290b h64 -> Vars h64 [(b10, [s220c.v]), (b2, [s67b.v, (VI s67c)]), (b1, [s67.v])] ->
 ((decide (s290b < (s281b.n : Int))) = true ->
 InB s281b s290b /\
 ∃ s293b : Int, hcell h64 (Sl.at s281b s290b 1) = some (VI s293b) /\
 ((decide (s293b = s285b)) = true ->
 ∃ m : Nat, m < n13 /\ J13 m (w64 (due40_2 + 1)) (w64 (s290b + 1)) h64) /\
 ((decide (s293b = s285b)) = false ->
 ∃ m : Nat, m < n13 /\ J13 m due40_2 (w64 (s290b + 1)) h64)) /\
 ((decide (s290b < (s281b.n : Int))) = false ->
 ∃ J14 : Nat -> Int -> Int -> Heap -> Prop, (∃ n0 : Nat, J14 n0 0 1 h64) /\
 ∀ (n14 : Nat) (n41_2 : Int) (i44_2 : Int) (h65 : Heap), J14 n14 n41_2 i44_2 h65 -> Vars h65 [(b10, [s220c.v]), (b2, [s67b.v, (VI s67c)]), (b1, [s67.v])] ->
 ((decide (i44_2 < (s226c.n : Int))) = true ->
 ∃ J15 : Int -> Heap -> Prop, (InB s226c (w64 (i44_2 - 1)) /\
 ∃ s310b : Int, hcell h65 (Sl.at s226c (w64 (i44_2 - 1)) 1) = some (VI s310b) /\
 ((decide (s310b = s277b)) = true ->
 InB s226c i44_2 /\
 ∃ s317b : Int, hcell h65 (Sl.at s226c i44_2 1) = some (VI s317b) /\
 ((decide (s317b = s285b)) = true ->
 J15 (w64 (n41_2 + 1)) h65) /\
 ((decide (s317b = s285b)) = false ->
 J15 n41_2 h65)) /\
 ((decide (s310b = s277b)) = false ->
 J15 n41_2 h65)) /\
 ∀ (y2 : Int) (h66 : Heap), J15 y2 h66 -> Vars h66 [(b10, [s220c.v]), (b2, [s67b.v, (VI s67c)]), (b1, [s67.v])] ->
 ∃ m : Nat, m < n14 /\ J14 m y2 (w64 (i44_2 + 1)) h66) /\
 ((decide (i44_2 < (s226c.n : Int))) = false ->
 ((!decide (n41_2 = due40_2)) = true ->
 K (VB false) h65) /\
 ((!decide (n41_2 = due40_2)) = false ->
 ∃ m : Nat, m < n12 /\ J12 m (w64 (s285b + 1)) h65)))) /\
 ((decide (s285b < (s220c.n : Int))) = false ->
 ∃ m : Nat, m < n11 /\ J11 m (w64 (s277b + 1)) h63)) /\
 ((decide (s277b < (s220c.n : Int))) = false ->
 J10  h62)))))) /\
 (s226d = false ->
 J10  h60)) /\
 ∀ (h67 : Heap), J10  h67 -> Vars h67 [(b10, [s220c.v]), (b2, [s67b.v, (VI s67c)]), (b1, [s67.v])] ->
 callM P 43 #[more1_1.v] h67 fun r33 h68 => ∃ s330e : Sl, ∃ s330f : Sl, ∃ s330g : Int, ∃ s330h : Int, r33 = (.tuple #[(.agg #[s330e.v]), (.agg #[s330f.v, (VI s330g)]), (VI s330h)]) /\ Vars h68 [(b10, [s220c.v]), (b2, [s67b.v, (VI s67c)]), (b1, [s67.v])] /\
 ∀ (b11 : Nat) (b12 : Nat) (h72 : Heap), h68.size ≤ b11 -> h68.size ≤ b12 -> Fr (In []) h68 h72 -> Vars h72 [(b12, [s330f.v, (VI s330g)]), (b11, [s330e.v]), (b10, [s220c.v]), (b2, [s67b.v, (VI s67c)]), (b1, [s67.v])] ->
 callM P 44 #[(.agg #[s330e.v]), (.agg #[s330f.v, (VI s330g)]), (VI s330h)] h72 fun r34 h73 => ∃ s338c : Int, ∃ s338d : Bool, r34 = (.tuple #[(VI s338c), (VB s338d)]) /\ Vars h73 [(b12, [s330f.v, (VI s330g)]), (b11, [s330e.v]), (b10, [s220c.v]), (b2, [s67b.v, (VI s67c)]), (b1, [s67.v])] /\
 callM P 45 #[(.agg #[s330e.v]), (.agg #[s330f.v, (VI s330g)]), (VI s330h)] h73 fun r35 h74 => ∃ s345c : Int, ∃ s345d : Bool, r35 = (.tuple #[(VI s345c), (VB s345d)]) /\ Vars h74 [(b12, [s330f.v, (VI s330g)]), (b11, [s330e.v]), (b10, [s220c.v]), (b2, [s67b.v, (VI s67c)]), (b1, [s67.v])] /\
 callM P 46 #[more1_1.v] h74 fun r36 h75 => ∃ s350d : Sl, ∃ s350e : Sl, ∃ s350f : Int, r36 = (.tuple #[(.agg #[s350d.v]), (.agg #[s350e.v, (VI s350f)])]) /\ Vars h75 [(b12, [s330f.v, (VI s330g)]), (b11, [s330e.v]), (b10, [s220c.v]), (b2, [s67b.v, (VI s67c)]), (b1, [s67.v])] /\
 ∀ (b13 : Nat) (b14 : Nat) (h79 : Heap), h75.size ≤ b13 -> h75.size ≤ b14 -> Fr (In []) h75 h79 -> Vars h79 [(b14, [s350e.v, (VI s350f)]), (b13, [s350d.v]), (b12, [s330f.v, (VI s330g)]), (b11, [s330e.v]), (b10, [s220c.v]), (b2, [s67b.v, (VI s67c)]), (b1, [s67.v])] ->
 callM P 47 #[(.agg #[s350d.v]), (.agg #[s350e.v, (VI s350f)])] h79 fun r37 h80 => ∃ s356c : Int, ∃ s356d : Bool, r37 = (.tuple #[(VI s356c), (VB s356d)]) /\ Vars h80 [(b14, [s350e.v, (VI s350f)]), (b13, [s350d.v]), (b12, [s330f.v, (VI s330g)]), (b11, [s330e.v]), (b10, [s220c.v]), (b2, [s67b.v, (VI s67c)]), (b1, [s67.v])] /\
 callM P 48 #[(.agg #[s350d.v]), (.agg #[s350e.v, (VI s350f)])] h80 fun r38 h81 => ∃ s362c : Int, ∃ s362d : Bool, r38 = (.tuple #[(VI s362c), (VB s362d)]) /\ Vars h81 [(b14, [s350e.v, (VI s350f)]), (b13, [s350d.v]), (b12, [s330f.v, (VI s330g)]), (b11, [s330e.v]), (b10, [s220c.v]), (b2, [s67b.v, (VI s67c)]), (b1, [s67.v])] /\
 ((!(s338d == s345d)) = true ->
 K (VB false) h81) /\
 ((!(s338d == s345d)) = false ->
 ((!decide (s338c = s345c)) = true ->
 K (VB false) h81) /\
 ((!decide (s338c = s345c)) = false ->
 ((!(s356d == s362d)) = true ->
 K (VB false) h81) /\
 ((!(s356d == s362d)) = false ->
 ((!decide (s356c = s362c)) = true ->
 K (VB false) h81) /\
 ((!decide (s356c = s362c)) = false ->
 (s356d = true ->
 ∃ J16 : Nat -> Int -> Int -> Heap -> Prop, (∃ n0 : Nat, J16 n0 0 0 h81) /\
 ∀ (n19 : Nat) (most58_2 : Int) (s387b : Int) (h82 : Heap), J16 n19 most58_2 s387b h82 -> Vars h82 [(b14, [s350e.v, (VI s350f)]), (b13, [s350d.v]), (b12, [s330f.v, (VI s330g)]), (b11, [s330e.v]), (b10, [s220c.v]), (b2, [s67b.v, (VI s67c)]), (b1, [s67.v])] ->
 ((decide (s387b < (s350d.n : Int))) = true ->
 callM P 44 #[(.agg #[s350d.v]), (.agg #[s350e.v, (VI s350f)]), (VI s387b)] h82 fun r39 h83 => ∃ s394c : Int, ∃ s394d : Bool, r39 = (.tuple #[(VI s394c), (VB s394d)]) /\ Vars h83 [(b14, [s350e.v, (VI s350f)]), (b13, [s350d.v]), (b12, [s330f.v, (VI s330g)]), (b11, [s330e.v]), (b10, [s220c.v]), (b2, [s67b.v, (VI s67c)]), (b1, [s67.v])] /\
 ((!s394d) = true ->
 K (VB false) h83) /\
 ((!s394d) = false ->
 ((decide (s356c < s394c)) = true ->
 K (VB false) h83) /\
 ((decide (s356c < s394c)) = false ->
 ((decide (most58_2 < s394c)) = true ->
 ∃ m : Nat, m < n19 /\ J16 m s394c (w64 (s387b + 1)) h83) /\
 ((decide (most58_2 < s394c)) = false ->
 ∃ m : Nat, m < n19 /\ J16 m most58_2 (w64 (s387b + 1)) h83)))) /\
 ((decide (s387b < (s350d.n : Int))) = false ->
 ((!decide (most58_2 = s356c)) = true ->
 K (VB false) h82) /\
 ((!decide (most58_2 = s356c)) = false ->
 K (VB true) h82))) /\
 (s356d = false ->
 K (VB true) h81))))))))))))))
theorem v4 (code0_1 : Sl) (more1_1 : Sl) (h : Heap) (K : Value -> Heap -> Prop) (H : u4 Tryz.prog code0_1 more1_1 h K) : callM Tryz.prog 4 #[code0_1.v, more1_1.v] h K := by
  refine c4 code0_1.v more1_1.v h K ?_
  unfold u4 at H
  unfold t4
  have hL : Vars h [] := .nil
  refine H.mono fun r1 h1 H => ?_
  obtain ⟨s64, rfl, hL1, H⟩ := H
  refine condM_b (fun hb1 => ?_) (fun hb1 => ?_)
  ·exact H.1 hb1
  have H := H.2 hb1
  refine H.mono fun r2 h2 H => ?_
  obtain ⟨s67, s67b, s67c, rfl, hL2, H⟩ := H
  refine pop_ext (v := (Value.agg #[s67.v])) rfl ?_
  refine pop_ext (v := (Value.agg #[s67b.v, (VI s67c)])) rfl ?_
  refine eop_alloc 26 zer26 rfl hL2 (fun b1 h3 hb2 hf1 hL3 => ?_)
  refine eop_alloc 54 zer54 rfl hL3 (fun b2 h4 hb3 hf2 hL4 => ?_)
  refine uop_loc siz26 hL4 1 rfl 0 [s67.v] rfl rfl rfl (Nat.le_of_ble_eq_true rfl) (L' := [(b2, [nilSl.v, (VI 0)]), (b1, [s67.v])]) rfl (fun h5 hf3 hL5 => ?_)
  refine uop_loc siz54 hL5 0 rfl 0 [s67b.v, (VI s67c)] rfl rfl rfl (Nat.le_of_ble_eq_true rfl) (L' := [(b2, [s67b.v, (VI s67c)]), (b1, [s67.v])]) rfl (fun h6 hf4 hL6 => ?_)
  refine rop_locA agg26 hL6 1 rfl 0 (vs := [s67.v]) rfl rfl ?_
  refine rop_locA agg54 hL6 0 rfl 0 (vs := [s67b.v, (VI s67c)]) rfl rfl ?_
  have H := H b1 b2 h6 hb2 (Nat.le_trans (Fr.size (Fr.no' (Fr.r (In []) _) hf1)) hb3) (Fr.new (Fr.new (Fr.no' (Fr.no' (Fr.r (In []) _) hf1) hf2) hb2 hf3) (Nat.le_trans (Fr.size (Fr.no' (Fr.r (In []) _) hf1)) hb3) hf4) hL6
  refine H.mono fun r3 h7 H => ?_
  obtain ⟨s73, s73b, s73c, rfl, hL7, H⟩ := H
  refine pop_ext (v := (VI s73)) rfl ?_
  refine pop_ext (v := (VI s73b)) rfl ?_
  refine pop_ext (v := (VB s73c)) rfl ?_
  refine rop_locA agg26 hL7 1 rfl 0 (vs := [s67.v]) rfl rfl ?_
  refine rop_locA agg54 hL7 0 rfl 0 (vs := [s67b.v, (VI s67c)]) rfl rfl ?_
  refine H.mono fun r4 h8 H => ?_
  obtain ⟨s80, s80b, s80c, rfl, hL8, H⟩ := H
  refine pop_ext (v := (VI s80)) rfl ?_
  refine pop_ext (v := (VI s80b)) rfl ?_
  refine pop_ext (v := (VB s80c)) rfl ?_
  refine rop_locA agg26 hL8 1 rfl 0 (vs := [s67.v]) rfl rfl ?_
  refine rop_locA agg54 hL8 0 rfl 0 (vs := [s67b.v, (VI s67c)]) rfl rfl ?_
  refine H.mono fun r5 h9 H => ?_
  obtain ⟨s87, s87b, rfl, hL9, H⟩ := H
  refine pop_ext (v := (VB s87)) rfl ?_
  refine pop_ext (v := (VB s87b)) rfl ?_
  refine rop_locA agg26 hL9 1 rfl 0 (vs := [s67.v]) rfl rfl ?_
  refine rop_locA agg54 hL9 0 rfl 0 (vs := [s67b.v, (VI s67c)]) rfl rfl ?_
  refine H.mono fun r6 h10 H => ?_
  obtain ⟨s93, s93b, rfl, hL10, H⟩ := H
  refine pop_ext (v := (VB s93)) rfl ?_
  refine pop_ext (v := (VB s93b)) rfl ?_
  refine pop_bne boo4 _ _ s73c s80c ?_
  refine guardM_sf (fun hb4 => ?_) (fun hb4 => ?_)
  rotate_left
  ·have H := H.1 hb4
   refine guardM_n' hb4 (by decide) ?_
   refine guardM_n' hb4 (by decide) ?_
   refine pop_pickt' hb4 ?_
   refine guardM_n (by decide) ?_
   refine guardM_n (by decide) ?_
   refine guardM_n (by decide) ?_
   refine pop_pickt _ _ ?_
   refine guardM_n (by decide) ?_
   refine guardM_n (by decide) ?_
   refine guardM_n (by decide) ?_
   refine pop_pickt _ _ ?_
   refine guardM_n (by decide) ?_
   refine guardM_n (by decide) ?_
   refine guardM_n (by decide) ?_
   refine pop_pickt _ _ ?_
   refine guardM_n (by decide) ?_
   refine guardM_n (by decide) ?_
   refine guardM_n (by decide) ?_
   refine guardM_n (by decide) ?_
   refine guardM_n (by decide) ?_
   refine guardM_n (by decide) ?_
   refine guardM_n (by decide) ?_
   refine guardM_n (by decide) ?_
   refine guardM_n (by decide) ?_
   refine guardM_n (by decide) ?_
   refine guardM_n (by decide) ?_
   refine pop_pickt _ _ ?_
   refine condM_t ?_
   exact H
  have H := H.2 hb4
  refine guardM_y' hb4 ?_
  refine guardM_y' hb4 ?_
  refine pop_ine .i64 _ _ s73 s80 ?_
  refine pop_pickf' hb4 ?_
  refine guardM_sf (fun hb5 => ?_) (fun hb5 => ?_)
  rotate_left
  ·have H := H.1 hb5
   refine guardM_n' hb5 (by decide) ?_
   refine guardM_n' hb5 (by decide) ?_
   refine pop_pickt' hb5 ?_
   refine guardM_n (by decide) ?_
   refine guardM_n (by decide) ?_
   refine guardM_n (by decide) ?_
   refine pop_pickt _ _ ?_
   refine guardM_n (by decide) ?_
   refine guardM_n (by decide) ?_
   refine guardM_n (by decide) ?_
   refine pop_pickt _ _ ?_
   refine guardM_n (by decide) ?_
   refine guardM_n (by decide) ?_
   refine guardM_n (by decide) ?_
   refine guardM_n (by decide) ?_
   refine guardM_n (by decide) ?_
   refine guardM_n (by decide) ?_
   refine guardM_n (by decide) ?_
   refine guardM_n (by decide) ?_
   refine guardM_n (by decide) ?_
   refine guardM_n (by decide) ?_
   refine guardM_n (by decide) ?_
   refine pop_pickt _ _ ?_
   refine condM_t ?_
   exact H
  have H := H.2 hb5
  refine guardM_y' hb5 ?_
  refine guardM_y' hb5 ?_
  refine pop_ine .i64 _ _ s73b s80b ?_
  refine pop_pickf' hb5 ?_
  refine guardM_sf (fun hb6 => ?_) (fun hb6 => ?_)
  rotate_left
  ·have H := H.1 hb6
   refine guardM_n' hb6 (by decide) ?_
   refine guardM_n' hb6 (by decide) ?_
   refine pop_pickt' hb6 ?_
   refine guardM_n (by decide) ?_
   refine guardM_n (by decide) ?_
   refine guardM_n (by decide) ?_
   refine pop_pickt _ _ ?_
   refine guardM_n (by decide) ?_
   refine guardM_n (by decide) ?_
   refine guardM_n (by decide) ?_
   refine guardM_n (by decide) ?_
   refine guardM_n (by decide) ?_
   refine guardM_n (by decide) ?_
   refine guardM_n (by decide) ?_
   refine guardM_n (by decide) ?_
   refine guardM_n (by decide) ?_
   refine guardM_n (by decide) ?_
   refine guardM_n (by decide) ?_
   refine pop_pickt _ _ ?_
   refine condM_t ?_
   exact H
  have H := H.2 hb6
  refine guardM_y' hb6 ?_
  refine guardM_y' hb6 ?_
  refine pop_bne boo4 _ _ s87b s93b ?_
  refine pop_pickf' hb6 ?_
  refine guardM_sf (fun hb7 => ?_) (fun hb7 => ?_)
  rotate_left
  ·have H := H.1 hb7
   refine guardM_n' hb7 (by decide) ?_
   refine guardM_n' hb7 (by decide) ?_
   refine pop_pickt' hb7 ?_
   refine guardM_n (by decide) ?_
   refine guardM_n (by decide) ?_
   refine guardM_n (by decide) ?_
   refine guardM_n (by decide) ?_
   refine guardM_n (by decide) ?_
   refine guardM_n (by decide) ?_
   refine guardM_n (by decide) ?_
   refine guardM_n (by decide) ?_
   refine guardM_n (by decide) ?_
   refine guardM_n (by decide) ?_
   refine guardM_n (by decide) ?_
   refine pop_pickt _ _ ?_
   refine condM_t ?_
   exact H
  have H := H.2 hb7
  refine guardM_y' hb7 ?_
  refine guardM_y' hb7 ?_
  refine pop_bne boo4 _ _ s87 s93 ?_
  refine pop_pickf' hb7 ?_
  refine guardM_sf (fun hb8 => ?_) (fun hb8 => ?_)
  rotate_left
  ·have H := H.1 hb8
   refine guardM_n' hb8 (by decide) ?_
   refine guardM_n (by decide) ?_
   refine guardM_n (by decide) ?_
   refine guardM_n (by decide) ?_
   refine guardM_n (by decide) ?_
   refine guardM_n (by decide) ?_
   refine guardM_n (by decide) ?_
   refine guardM_n (by decide) ?_
   refine guardM_n (by decide) ?_
   refine guardM_n' hb8 (by decide) ?_
   refine pop_pickt' hb8 ?_
   refine condM_t ?_
   exact H
  have H := H.2 hb8
  refine guardM_y' hb8 ?_
  refine guardM_st (fun hb9 => ?_) (fun hb9 => ?_)
  rotate_left
  ·have H := H.2 hb9
   refine guardM_n' hb9 (by decide) ?_
   refine guardM_n' hb9 (by decide) ?_
   refine guardM_n (by decide) ?_
   refine guardM_n (by decide) ?_
   refine guardM_n (by decide) ?_
   refine guardM_n (by decide) ?_
   refine guardM_n' hb9 (by decide) ?_
   refine guardM_y' hb8 ?_
   refine pop_pickf' hb9 ?_
   refine pop_pickf' hb8 ?_
   refine condM_f ?_
   obtain ⟨J9, H, HB16⟩ := H
   refine ⟨fun (vs : List Value) (h' : Heap) => vs = [] /\ J9  h' /\ Vars h' [(b2, [s67b.v, (VI s67c)]), (b1, [s67.v])], ?_, ?_⟩
   ·refine condM_f' hb9 ?_
    exact ⟨rfl, H, hL10⟩
   intro junk9  h54
   rintro ⟨hv, hJ9, hL54⟩
   have H := HB16  h54 hJ9 hL54
   refine H.mono fun r28 h55 H => ?_
   obtain ⟨s220c, s220d, rfl, hL55, H⟩ := H
   refine pop_ext (v := (Value.agg #[s220c.v])) rfl ?_
   refine pop_ext (v := (VI s220d)) rfl ?_
   refine eop_alloc 26 zer26 rfl hL55 (fun b10 h56 hb58 hf19 hL56 => ?_)
   refine uop_loc siz26 hL56 0 rfl 0 [s220c.v] rfl rfl rfl (Nat.le_of_ble_eq_true rfl) (L' := [(b10, [s220c.v]), (b2, [s67b.v, (VI s67c)]), (b1, [s67.v])]) rfl (fun h57 hf20 hL57 => ?_)
   refine rop_locA agg26 hL57 0 rfl 0 (vs := [s220c.v]) rfl rfl ?_
   have H := H b10 h57 hb58 (Fr.new (Fr.no' (Fr.r (In []) _) hf19) hb58 hf20) hL57
   refine H.mono fun r29 h58 H => ?_
   obtain ⟨s226c, s226d, rfl, hL58, H⟩ := H
   refine pop_ext (v := s226c.v) rfl ?_
   refine pop_ext (v := (VB s226d)) rfl ?_
   refine rop_locA agg26 hL58 0 rfl 0 (vs := [s220c.v]) rfl rfl ?_
   refine H.mono fun r30 h59 H => ?_
   obtain ⟨s232c, s232d, rfl, hL59, H⟩ := H
   refine pop_ext (v := s232c.v) rfl ?_
   refine pop_ext (v := (VB s232d)) rfl ?_
   refine pop_bne boo4 _ _ s226d s232d ?_
   refine guardM_sf (fun hb59 => ?_) (fun hb59 => ?_)
   rotate_left
   ·have H := H.1 hb59
    refine guardM_n' hb59 (by decide) ?_
    refine guardM_n' hb59 (by decide) ?_
    refine guardM_n' hb59 (by decide) ?_
    refine pop_pickt' hb59 ?_
    refine condM_t ?_
    exact H
   have H := H.2 hb59
   refine guardM_y' hb59 ?_
   refine guardM_y' hb59 ?_
   refine H.mono fun r31 h60 H => ?_
   obtain ⟨s241b, rfl, hL60, H⟩ := H
   refine guardM_y' hb59 ?_
   refine pop_not s241b ?_
   refine pop_pickf' hb59 ?_
   refine condM_b (fun hb60 => ?_) (fun hb60 => ?_)
   ·exact H.1 hb60
   have H := H.2 hb60
   obtain ⟨J10, H, HB15⟩ := H
   refine ⟨fun (vs : List Value) (h' : Heap) => vs = [] /\ J10  h' /\ Vars h' [(b10, [s220c.v]), (b2, [s67b.v, (VI s67c)]), (b1, [s67.v])], ?_, ?_⟩
   ·refine condM_b (fun hb61 => ?_) (fun hb61 => ?_)
    rotate_left
    ·have H := H.2 hb61
     exact ⟨rfl, H, hL60⟩
    have H := H.1 hb61
    refine rop_locA agg26 hL60 0 rfl 0 (vs := [s220c.v]) rfl rfl ?_
    refine H.mono fun r32 h61 H => ?_
    obtain ⟨s247c, s247d, rfl, hL61, H⟩ := H
    refine pop_ext (v := (VI s247c)) rfl ?_
    refine pop_ext (v := (VB s247d)) rfl ?_
    refine pop_not s247d ?_
    refine guardM_sf (fun hb62 => ?_) (fun hb62 => ?_)
    rotate_left
    ·have H := H.1 hb62
     refine guardM_n' hb62 (by decide) ?_
     refine guardM_n' hb62 (by decide) ?_
     refine guardM_n' hb62 (by decide) ?_
     refine guardM_n' hb62 (by decide) ?_
     refine pop_pickt' hb62 ?_
     refine guardM_n (by decide) ?_
     refine guardM_n (by decide) ?_
     refine guardM_n (by decide) ?_
     refine guardM_n (by decide) ?_
     refine guardM_n (by decide) ?_
     refine pop_pickt _ _ ?_
     refine guardM_n (by decide) ?_
     refine guardM_n (by decide) ?_
     refine guardM_n (by decide) ?_
     refine guardM_n (by decide) ?_
     refine guardM_n (by decide) ?_
     refine guardM_n (by decide) ?_
     refine pop_pickt _ _ ?_
     refine condM_t ?_
     exact H
    have H := H.2 hb62
    refine guardM_y' hb62 ?_
    refine pop_len s226c _ _ sli33 ?_
    refine guardM_y' hb62 ?_
    refine guardM_y' hb62 ?_
    refine pop_add .i64 s247c 1 ?_
    refine guardM_y' hb62 ?_
    refine pop_ine .i64 _ _ (s226c.n : Int) (w64 (s247c + 1)) ?_
    refine pop_pickf' hb62 ?_
    refine guardM_sf (fun hb63 => ?_) (fun hb63 => ?_)
    rotate_left
    ·have H := H.1 hb63
     refine guardM_n' hb63 (by decide) ?_
     refine guardM_n' hb63 (by decide) ?_
     refine guardM_n' hb63 (by decide) ?_
     refine guardM_n' hb63 (by decide) ?_
     refine pop_pickt' hb63 ?_
     refine guardM_n (by decide) ?_
     refine guardM_n (by decide) ?_
     refine guardM_n (by decide) ?_
     refine guardM_n (by decide) ?_
     refine guardM_n (by decide) ?_
     refine guardM_n (by decide) ?_
     refine pop_pickt _ _ ?_
     refine condM_t ?_
     exact H
    have H := H.2 hb63
    refine guardM_y' hb63 ?_
    obtain ⟨hi12, H⟩ := H
    refine pop_index sli33 siz3 .i64 s226c 0 hi12 ?_
    refine guardM_y' hb63 ?_
    obtain ⟨s262b, hc12, H⟩ := H
    refine rop_one one3 (VI s262b) hc12 ?_
    refine guardM_y' hb63 ?_
    refine guardM_y' hb63 ?_
    refine pop_ine .i64 _ _ s262b s220d ?_
    refine pop_pickf' hb63 ?_
    refine guardM_sf (fun hb64 => ?_) (fun hb64 => ?_)
    rotate_left
    ·have H := H.1 hb64
     refine guardM_n' hb64 (by decide) ?_
     refine guardM_n' hb64 (by decide) ?_
     refine guardM_n' hb64 (by decide) ?_
     refine guardM_n' hb64 (by decide) ?_
     refine guardM_n' hb64 (by decide) ?_
     refine pop_pickt' hb64 ?_
     refine condM_t ?_
     exact H
    have H := H.2 hb64
    refine guardM_y' hb64 ?_
    refine guardM_y' hb64 ?_
    obtain ⟨hi13, H⟩ := H
    refine pop_index sli33 siz3 .i64 s226c s247c hi13 ?_
    refine guardM_y' hb64 ?_
    obtain ⟨s270b, hc11, H⟩ := H
    refine rop_one one3 (VI s270b) hc11 ?_
    refine guardM_y' hb64 ?_
    refine guardM_y' hb64 ?_
    refine pop_ine .i64 _ _ s270b s220d ?_
    refine pop_pickf' hb64 ?_
    refine condM_b (fun hb65 => ?_) (fun hb65 => ?_)
    ·exact H.1 hb65
    have H := H.2 hb65
    refine pop_field 0 fld26_0 b10 0 ?_
    refine rop_loc one24 hL61 0 rfl 0 (v := s220c.v) rfl ?_
    refine pop_len s220c _ _ sli24 ?_
    obtain ⟨J11, ⟨n18, h0_9⟩, HB13⟩ := H
    refine loop_intro (J := fun (n : Nat) (vs : List Value) (h' : Heap) => ∃ s277b : Int, vs = [(VI s277b)] /\ J11 n s277b h' /\ Vars h' [(b10, [s220c.v]), (b2, [s67b.v, (VI s67c)]), (b1, [s67.v])]) n18 ⟨0, rfl, h0_9, hL61⟩ ?_
    intro I9 mu9 hI9 junk10 tv16 h62 hi14
    obtain ⟨n11, ⟨s277b, hv, hJ10, hL62⟩, hn6⟩ := hI9 _ _ hi14
    cases hv
    have H := HB13 n11 s277b h62 hJ10 hL62
    refine pop_lss .i64 s277b (s220c.n : Int) ?_
    refine condM_b (fun hb66 => ?_) (fun hb66 => ?_)
    rotate_left
    ·have H := H.2 hb66
     exact ⟨rfl, H, hL62⟩
    have H := H.1 hb66
    obtain ⟨hi15, H⟩ := H
    refine pop_index sli24 siz33 .i64 s220c s277b hi15 ?_
    obtain ⟨s281b, hc10, H⟩ := H
    refine rop_one one33 s281b.v hc10 ?_
    refine pop_field 0 fld26_0 b10 0 ?_
    refine rop_loc one24 hL62 0 rfl 0 (v := s220c.v) rfl ?_
    refine pop_len s220c _ _ sli24 ?_
    obtain ⟨J12, ⟨n17, h0_8⟩, HB12⟩ := H
    refine loop_intro (J := fun (n : Nat) (vs : List Value) (h' : Heap) => ∃ s285b : Int, vs = [(VI s285b)] /\ J12 n s285b h' /\ Vars h' [(b10, [s220c.v]), (b2, [s67b.v, (VI s67c)]), (b1, [s67.v])]) n17 ⟨0, rfl, h0_8, hL62⟩ ?_
    intro I8 mu8 hI8 junk11 tv15 h63 hi16
    obtain ⟨n12, ⟨s285b, hv, hJ11, hL63⟩, hn7⟩ := hI8 _ _ hi16
    cases hv
    have H := HB12 n12 s285b h63 hJ11 hL63
    refine pop_lss .i64 s285b (s220c.n : Int) ?_
    refine condM_b (fun hb67 => ?_) (fun hb67 => ?_)
    rotate_left
    ·have H := H.2 hb67
     refine pop_add .i64 s277b 1 ?_
     obtain ⟨m_12, hm_12, H⟩ := H
     exact hn6 _ _ ⟨m_12, hm_12, (w64 (s277b + 1)), rfl, H, hL63⟩
    have H := H.1 hb67
    refine pop_len s281b _ _ sli33 ?_
    obtain ⟨J13, ⟨n16, h0_7⟩, HB11⟩ := H
    refine loop_intro (J := fun (n : Nat) (vs : List Value) (h' : Heap) => ∃ due40_2 : Int, ∃ s290b : Int, vs = [(VI due40_2), (VI s290b)] /\ J13 n due40_2 s290b h' /\ Vars h' [(b10, [s220c.v]), (b2, [s67b.v, (VI s67c)]), (b1, [s67.v])]) n16 ⟨0, 0, rfl, h0_7, hL63⟩ ?_
    intro I7 mu7 hI7 junk12 tv13 tv14 h64 hi17
    obtain ⟨n13, ⟨due40_2, s290b, hv, hJ12, hL64⟩, hn8⟩ := hI7 _ _ hi17
    cases hv
    have H := HB11 n13 due40_2 s290b h64 hJ12 hL64
    refine pop_lss .i64 s290b (s281b.n : Int) ?_
    refine condM_b (fun hb68 => ?_) (fun hb68 => ?_)
    ·have H := H.1 hb68
     obtain ⟨hi18, H⟩ := H
     refine pop_index sli33 siz3 .i64 s281b s290b hi18 ?_
     obtain ⟨s293b, hc7, H⟩ := H
     refine rop_one one3 (VI s293b) hc7 ?_
     refine pop_ieq .i64 _ _ s293b s285b ?_
     refine condM_b (fun hb69 => ?_) (fun hb69 => ?_)
     rotate_left
     ·have H := H.2 hb69
      refine pop_add .i64 s290b 1 ?_
      obtain ⟨m_9, hm_9, H⟩ := H
      exact hn8 _ _ ⟨m_9, hm_9, due40_2, (w64 (s290b + 1)), rfl, H, hL64⟩
     have H := H.1 hb69
     refine pop_add .i64 due40_2 1 ?_
     refine pop_add .i64 s290b 1 ?_
     obtain ⟨m_8, hm_8, H⟩ := H
     exact hn8 _ _ ⟨m_8, hm_8, (w64 (due40_2 + 1)), (w64 (s290b + 1)), rfl, H, hL64⟩
    have H := H.2 hb68
    obtain ⟨J14, ⟨n15, h0_6⟩, HB10⟩ := H
    refine loop_intro (J := fun (n : Nat) (vs : List Value) (h' : Heap) => ∃ n41_2 : Int, ∃ i44_2 : Int, vs = [(VI n41_2), (VI i44_2)] /\ J14 n n41_2 i44_2 h' /\ Vars h' [(b10, [s220c.v]), (b2, [s67b.v, (VI s67c)]), (b1, [s67.v])]) n15 ⟨0, 1, rfl, h0_6, hL64⟩ ?_
    intro I6 mu6 hI6 junk13 tv11 tv12 h65 hi19
    obtain ⟨n14, ⟨n41_2, i44_2, hv, hJ13, hL65⟩, hn9⟩ := hI6 _ _ hi19
    cases hv
    have H := HB10 n14 n41_2 i44_2 h65 hJ13 hL65
    refine pop_len s226c _ _ sli33 ?_
    refine pop_lss .i64 i44_2 (s226c.n : Int) ?_
    refine condM_b (fun hb70 => ?_) (fun hb70 => ?_)
    rotate_left
    ·have H := H.2 hb70
     refine pop_ine .i64 _ _ n41_2 due40_2 ?_
     refine condM_b (fun hb73 => ?_) (fun hb73 => ?_)
     ·exact H.1 hb73
     have H := H.2 hb73
     refine pop_add .i64 s285b 1 ?_
     obtain ⟨m_11, hm_11, H⟩ := H
     exact hn7 _ _ ⟨m_11, hm_11, (w64 (s285b + 1)), rfl, H, hL65⟩
    have H := H.1 hb70
    obtain ⟨J15, H, HB9⟩ := H
    refine ⟨fun (vs : List Value) (h' : Heap) => ∃ y2 : Int, vs = [(VI y2)] /\ J15 y2 h' /\ Vars h' [(b10, [s220c.v]), (b2, [s67b.v, (VI s67c)]), (b1, [s67.v])], ?_, ?_⟩
    ·refine pop_sub .i64 i44_2 1 ?_
     obtain ⟨hi20, H⟩ := H
     refine pop_index sli33 siz3 .i64 s226c (w64 (i44_2 - 1)) hi20 ?_
     obtain ⟨s310b, hc9, H⟩ := H
     refine rop_one one3 (VI s310b) hc9 ?_
     refine pop_ieq .i64 _ _ s310b s277b ?_
     refine guardM_st (fun hb71 => ?_) (fun hb71 => ?_)
     rotate_left
     ·have H := H.2 hb71
      refine guardM_n' hb71 (by decide) ?_
      refine guardM_n' hb71 (by decide) ?_
      refine guardM_n' hb71 (by decide) ?_
      refine guardM_n' hb71 (by decide) ?_
      refine guardM_n' hb71 (by decide) ?_
      refine pop_pickf' hb71 ?_
      refine condM_f ?_
      exact ⟨n41_2, rfl, H, hL65⟩
     have H := H.1 hb71
     refine guardM_y' hb71 ?_
     refine guardM_y' hb71 ?_
     obtain ⟨hi21, H⟩ := H
     refine pop_index sli33 siz3 .i64 s226c i44_2 hi21 ?_
     refine guardM_y' hb71 ?_
     obtain ⟨s317b, hc8, H⟩ := H
     refine rop_one one3 (VI s317b) hc8 ?_
     refine guardM_y' hb71 ?_
     refine guardM_y' hb71 ?_
     refine pop_ieq .i64 _ _ s317b s285b ?_
     refine pop_pickt' hb71 ?_
     refine condM_b (fun hb72 => ?_) (fun hb72 => ?_)
     rotate_left
     ·have H := H.2 hb72
      exact ⟨n41_2, rfl, H, hL65⟩
     have H := H.1 hb72
     refine pop_add .i64 n41_2 1 ?_
     exact ⟨(w64 (n41_2 + 1)), rfl, H, hL65⟩
    intro junk14 tv10 h66
    rintro ⟨y2, hv, hJ14, hL66⟩
    cases hv
    have H := HB9 y2 h66 hJ14 hL66
    refine pop_add .i64 i44_2 1 ?_
    obtain ⟨m_10, hm_10, H⟩ := H
    exact hn9 _ _ ⟨m_10, hm_10, y2, (w64 (i44_2 + 1)), rfl, H, hL66⟩
   intro junk15  h67
   rintro ⟨hv, hJ15, hL67⟩
   have H := HB15  h67 hJ15 hL67
   refine H.mono fun r33 h68 H => ?_
   obtain ⟨s330e, s330f, s330g, s330h, rfl, hL68, H⟩ := H
   refine pop_ext (v := (Value.agg #[s330e.v])) rfl ?_
   refine pop_ext (v := (Value.agg #[s330f.v, (VI s330g)])) rfl ?_
   refine pop_ext (v := (VI s330h)) rfl ?_
   refine eop_alloc 26 zer26 rfl hL68 (fun b11 h69 hb74 hf21 hL69 => ?_)
   refine eop_alloc 54 zer54 rfl hL69 (fun b12 h70 hb75 hf22 hL70 => ?_)
   refine uop_loc siz26 hL70 1 rfl 0 [s330e.v] rfl rfl rfl (Nat.le_of_ble_eq_true rfl) (L' := [(b12, [nilSl.v, (VI 0)]), (b11, [s330e.v]), (b10, [s220c.v]), (b2, [s67b.v, (VI s67c)]), (b1, [s67.v])]) rfl (fun h71 hf23 hL71 => ?_)
   refine uop_loc siz54 hL71 0 rfl 0 [s330f.v, (VI s330g)] rfl rfl rfl (Nat.le_of_ble_eq_true rfl) (L' := [(b12, [s330f.v, (VI s330g)]), (b11, [s330e.v]), (b10, [s220c.v]), (b2, [s67b.v, (VI s67c)]), (b1, [s67.v])]) rfl (fun h72 hf24 hL72 => ?_)
   refine rop_locA agg26 hL72 1 rfl 0 (vs := [s330e.v]) rfl rfl ?_
   refine rop_locA agg54 hL72 0 rfl 0 (vs := [s330f.v, (VI s330g)]) rfl rfl ?_
   have H := H b11 b12 h72 hb74 (Nat.le_trans (Fr.size (Fr.no' (Fr.r (In []) _) hf21)) hb75) (Fr.new (Fr.new (Fr.no' (Fr.no' (Fr.r (In []) _) hf21) hf22) hb74 hf23) (Nat.le_trans (Fr.size (Fr.no' (Fr.r (In []) _) hf21)) hb75) hf24) hL72
   refine H.mono fun r34 h73 H => ?_
   obtain ⟨s338c, s338d, rfl, hL73, H⟩ := H
   refine pop_ext (v := (VI s338c)) rfl ?_
   refine pop_ext (v := (VB s338d)) rfl ?_
   refine rop_locA agg26 hL73 1 rfl 0 (vs := [s330e.v]) rfl rfl ?_
   refine rop_locA agg54 hL73 0 rfl 0 (vs := [s330f.v, (VI s330g)]) rfl rfl ?_
   refine H.mono fun r35 h74 H => ?_
   obtain ⟨s345c, s345d, rfl, hL74, H⟩ := H
   refine pop_ext (v := (VI s345c)) rfl ?_
   refine pop_ext (v := (VB s345d)) rfl ?_
   refine H.mono fun r36 h75 H => ?_
   obtain ⟨s350d, s350e, s350f, rfl, hL75, H⟩ := H
   refine pop_ext (v := (Value.agg #[s350d.v])) rfl ?_
   refine pop_ext (v := (Value.agg #[s350e.v, (VI s350f)])) rfl ?_
   refine eop_alloc 26 zer26 rfl hL75 (fun b13 h76 hb76 hf25 hL76 => ?_)
   refine eop_alloc 54 zer54 rfl hL76 (fun b14 h77 hb77 hf26 hL77 => ?_)
   refine uop_loc siz26 hL77 1 rfl 0 [s350d.v] rfl rfl rfl (Nat.le_of_ble_eq_true rfl) (L' := [(b14, [nilSl.v, (VI 0)]), (b13, [s350d.v]), (b12, [s330f.v, (VI s330g)]), (b11, [s330e.v]), (b10, [s220c.v]), (b2, [s67b.v, (VI s67c)]), (b1, [s67.v])]) rfl (fun h78 hf27 hL78 => ?_)
   refine uop_loc siz54 hL78 0 rfl 0 [s350e.v, (VI s350f)] rfl rfl rfl (Nat.le_of_ble_eq_true rfl) (L' := [(b14, [s350e.v, (VI s350f)]), (b13, [s350d.v]), (b12, [s330f.v, (VI s330g)]), (b11, [s330e.v]), (b10, [s220c.v]), (b2, [s67b.v, (VI s67c)]), (b1, [s67.v])]) rfl (fun h79 hf28 hL79 => ?_)
   refine rop_locA agg26 hL79 1 rfl 0 (vs := [s350d.v]) rfl rfl ?_
   refine rop_locA agg54 hL79 0 rfl 0 (vs := [s350e.v, (VI s350f)]) rfl rfl ?_
   have H := H b13 b14 h79 hb76 (Nat.le_trans (Fr.size (Fr.no' (Fr.r (In []) _) hf25)) hb77) (Fr.new (Fr.new (Fr.no' (Fr.no' (Fr.r (In []) _) hf25) hf26) hb76 hf27) (Nat.le_trans (Fr.size (Fr.no' (Fr.r (In []) _) hf25)) hb77) hf28) hL79
   refine H.mono fun r37 h80 H => ?_
   obtain ⟨s356c, s356d, rfl, hL80, H⟩ := H
   refine pop_ext (v := (VI s356c)) rfl ?_
   refine pop_ext (v := (VB s356d)) rfl ?_
   refine rop_locA agg26 hL80 1 rfl 0 (vs := [s350d.v]) rfl rfl ?_
   refine rop_locA agg54 hL80 0 rfl 0 (vs := [s350e.v, (VI s350f)]) rfl rfl ?_
   refine H.mono fun r38 h81 H => ?_
   obtain ⟨s362c, s362d, rfl, hL81, H⟩ := H
   refine pop_ext (v := (VI s362c)) rfl ?_
   refine pop_ext (v := (VB s362d)) rfl ?_
   refine pop_bne boo4 _ _ s338d s345d ?_
   refine guardM_sf (fun hb78 => ?_) (fun hb78 => ?_)
   rotate_left
   ·have H := H.1 hb78
    refine guardM_n' hb78 (by decide) ?_
    refine guardM_n' hb78 (by decide) ?_
    refine pop_pickt' hb78 ?_
    refine guardM_n (by decide) ?_
    refine guardM_n (by decide) ?_
    refine guardM_n (by decide) ?_
    refine pop_pickt _ _ ?_
    refine guardM_n (by decide) ?_
    refine guardM_n (by decide) ?_
    refine guardM_n (by decide) ?_
    refine pop_pickt _ _ ?_
    refine condM_t ?_
    exact H
   have H := H.2 hb78
   refine guardM_y' hb78 ?_
   refine guardM_y' hb78 ?_
   refine pop_ine .i64 _ _ s338c s345c ?_
   refine pop_pickf' hb78 ?_
   refine guardM_sf (fun hb79 => ?_) (fun hb79 => ?_)
   rotate_left
   ·have H := H.1 hb79
    refine guardM_n' hb79 (by decide) ?_
    refine guardM_n' hb79 (by decide) ?_
    refine pop_pickt' hb79 ?_
    refine guardM_n (by decide) ?_
    refine guardM_n (by decide) ?_
    refine guardM_n (by decide) ?_
    refine pop_pickt _ _ ?_
    refine condM_t ?_
    exact H
   have H := H.2 hb79
   refine guardM_y' hb79 ?_
   refine guardM_y' hb79 ?_
   refine pop_bne boo4 _ _ s356d s362d ?_
   refine pop_pickf' hb79 ?_
   refine guardM_sf (fun hb80 => ?_) (fun hb80 => ?_)
   rotate_left
   ·have H := H.1 hb80
    refine guardM_n' hb80 (by decide) ?_
    refine guardM_n' hb80 (by decide) ?_
    refine pop_pickt' hb80 ?_
    refine condM_t ?_
    exact H
   have H := H.2 hb80
   refine guardM_y' hb80 ?_
   refine guardM_y' hb80 ?_
   refine pop_ine .i64 _ _ s356c s362c ?_
   refine pop_pickf' hb80 ?_
   refine condM_b (fun hb81 => ?_) (fun hb81 => ?_)
   ·exact H.1 hb81
   have H := H.2 hb81
   refine condM_b (fun hb82 => ?_) (fun hb82 => ?_)
   rotate_left
   ·exact H.2 hb82
   have H := H.1 hb82
   refine pop_field 0 fld26_0 b13 0 ?_
   refine rop_loc one24 hL81 1 rfl 0 (v := s350d.v) rfl ?_
   refine pop_len s350d _ _ sli24 ?_
   obtain ⟨J16, ⟨n20, h0_10⟩, HB14⟩ := H
   refine loop_intro (J := fun (n : Nat) (vs : List Value) (h' : Heap) => ∃ most58_2 : Int, ∃ s387b : Int, vs = [(VI most58_2), (VI s387b)] /\ J16 n most58_2 s387b h' /\ Vars h' [(b14, [s350e.v, (VI s350f)]), (b13, [s350d.v]), (b12, [s330f.v, (VI s330g)]), (b11, [s330e.v]), (b10, [s220c.v]), (b2, [s67b.v, (VI s67c)]), (b1, [s67.v])]) n20 ⟨0, 0, rfl, h0_10, hL81⟩ ?_
   intro I10 mu10 hI10 junk16 tv17 tv18 h82 hi22
   obtain ⟨n19, ⟨most58_2, s387b, hv, hJ16, hL82⟩, hn10⟩ := hI10 _ _ hi22
   cases hv
   have H := HB14 n19 most58_2 s387b h82 hJ16 hL82
   refine pop_lss .i64 s387b (s350d.n : Int) ?_
   refine condM_b (fun hb83 => ?_) (fun hb83 => ?_)
   rotate_left
   ·have H := H.2 hb83
    refine pop_ine .i64 _ _ most58_2 s356c ?_
    refine condM_b (fun hb87 => ?_) (fun hb87 => ?_)
    ·exact H.1 hb87
    exact H.2 hb87
   have H := H.1 hb83
   refine rop_locA agg26 hL82 1 rfl 0 (vs := [s350d.v]) rfl rfl ?_
   refine rop_locA agg54 hL82 0 rfl 0 (vs := [s350e.v, (VI s350f)]) rfl rfl ?_
   refine H.mono fun r39 h83 H => ?_
   obtain ⟨s394c, s394d, rfl, hL83, H⟩ := H
   refine pop_ext (v := (VI s394c)) rfl ?_
   refine pop_ext (v := (VB s394d)) rfl ?_
   refine pop_not s394d ?_
   refine guardM_sf (fun hb84 => ?_) (fun hb84 => ?_)
   rotate_left
   ·have H := H.1 hb84
    refine guardM_n' hb84 (by decide) ?_
    refine guardM_n' hb84 (by decide) ?_
    refine pop_pickt' hb84 ?_
    refine condM_t ?_
    exact H
   have H := H.2 hb84
   refine guardM_y' hb84 ?_
   refine guardM_y' hb84 ?_
   refine pop_gtr .i64 s394c s356c ?_
   refine pop_pickf' hb84 ?_
   refine condM_b (fun hb85 => ?_) (fun hb85 => ?_)
   ·exact H.1 hb85
   have H := H.2 hb85
   refine pop_gtr .i64 s394c most58_2 ?_
   refine condM_b (fun hb86 => ?_) (fun hb86 => ?_)
   ·have H := H.1 hb86
    refine pop_add .i64 s387b 1 ?_
    obtain ⟨m_13, hm_13, H⟩ := H
    exact hn10 _ _ ⟨m_13, hm_13, s394c, (w64 (s387b + 1)), rfl, H, hL83⟩
   have H := H.2 hb86
   refine pop_add .i64 s387b 1 ?_
   obtain ⟨m_14, hm_14, H⟩ := H
   exact hn10 _ _ ⟨m_14, hm_14, most58_2, (w64 (s387b + 1)), rfl, H, hL83⟩
  have H := H.1 hb9
  refine guardM_y' hb9 ?_
  refine pop_not s87b ?_
  refine guardM_y' hb9 ?_
  refine guardM_sf (fun hb10 => ?_) (fun hb10 => ?_)
  rotate_left
  ·have H := H.1 hb10
   refine guardM_n' hb10 (by decide) ?_
   refine guardM_n' hb10 (by decide) ?_
   refine guardM_n' hb10 (by decide) ?_
   refine guardM_y' hb9 ?_
   refine pop_pickt' hb10 ?_
   refine guardM_y' hb8 ?_
   refine pop_pickt' hb9 ?_
   refine pop_pickf' hb8 ?_
   refine condM_t ?_
   exact H
  have H := H.2 hb10
  refine guardM_y' hb10 ?_
  refine guardM_y' hb10 ?_
  refine pop_ieq .i64 _ _ s73 0 ?_
  refine guardM_y' hb10 ?_
  refine pop_bne boo4 _ _ s87 (decide (s73 = 0)) ?_
  refine guardM_y' hb9 ?_
  refine pop_pickf' hb10 ?_
  refine guardM_y' hb8 ?_
  refine pop_pickt' hb9 ?_
  refine pop_pickf' hb8 ?_
  refine condM_b (fun hb11 => ?_) (fun hb11 => ?_)
  ·exact H.1 hb11
  have H := H.2 hb11
  obtain ⟨J1, H, HB8⟩ := H
  refine ⟨fun (vs : List Value) (h' : Heap) => vs = [] /\ J1  h' /\ Vars h' [(b2, [s67b.v, (VI s67c)]), (b1, [s67.v])], ?_, ?_⟩
  ·refine condM_t' hb9 ?_
   refine rop_locA agg26 hL10 1 rfl 0 (vs := [s67.v]) rfl rfl ?_
   refine rop_locA agg54 hL10 0 rfl 0 (vs := [s67b.v, (VI s67c)]) rfl rfl ?_
   refine H.mono fun r7 h11 H => ?_
   obtain ⟨s137, s137b, s137c, rfl, hL11, H⟩ := H
   refine pop_ext (v := (Value.agg #[s137.v, (VI s137b)])) rfl ?_
   refine pop_ext (v := (VB s137c)) rfl ?_
   refine eop_alloc 54 zer54 rfl hL11 (fun b3 h12 hb12 hf5 hL12 => ?_)
   refine uop_loc siz54 hL12 0 rfl 0 [s137.v, (VI s137b)] rfl rfl rfl (Nat.le_of_ble_eq_true rfl) (L' := [(b3, [s137.v, (VI s137b)]), (b2, [s67b.v, (VI s67c)]), (b1, [s67.v])]) rfl (fun h13 hf6 hL13 => ?_)
   refine rop_locA agg26 hL13 2 rfl 0 (vs := [s67.v]) rfl rfl ?_
   refine rop_locA agg54 hL13 1 rfl 0 (vs := [s67b.v, (VI s67c)]) rfl rfl ?_
   refine pop_add .i64 s73 s73b ?_
   have H := H b3 h13 hb12 (Fr.new (Fr.no' (Fr.r (In []) _) hf5) hb12 hf6) hL13
   refine H.mono fun r8 h14 H => ?_
   obtain ⟨s146, s146b, s146c, rfl, hL14, H⟩ := H
   refine pop_ext (v := (Value.agg #[s146.v, (VI s146b)])) rfl ?_
   refine pop_ext (v := (VB s146c)) rfl ?_
   refine eop_alloc 54 zer54 rfl hL14 (fun b4 h15 hb13 hf7 hL15 => ?_)
   refine uop_loc siz54 hL15 0 rfl 0 [s146.v, (VI s146b)] rfl rfl rfl (Nat.le_of_ble_eq_true rfl) (L' := [(b4, [s146.v, (VI s146b)]), (b3, [s137.v, (VI s137b)]), (b2, [s67b.v, (VI s67c)]), (b1, [s67.v])]) rfl (fun h16 hf8 hL16 => ?_)
   refine rop_locA agg26 hL16 3 rfl 0 (vs := [s67.v]) rfl rfl ?_
   have H := H b4 h16 hb13 (Fr.new (Fr.no' (Fr.r (In []) _) hf7) hb13 hf8) hL16
   refine H.mono fun r9 h17 H => ?_
   obtain ⟨s151, s151b, rfl, hL17, H⟩ := H
   refine pop_ext (v := (VB s151)) rfl ?_
   refine pop_ext (v := (VB s151b)) rfl ?_
   refine rop_locA agg26 hL17 3 rfl 0 (vs := [s67.v]) rfl rfl ?_
   refine H.mono fun r10 h18 H => ?_
   obtain ⟨s156, s156b, rfl, hL18, H⟩ := H
   refine pop_ext (v := (VB s156)) rfl ?_
   refine pop_ext (v := (VB s156b)) rfl ?_
   refine rop_locA agg26 hL18 3 rfl 0 (vs := [s67.v]) rfl rfl ?_
   refine H.mono fun r11 h19 H => ?_
   obtain ⟨s161, s161b, rfl, hL19, H⟩ := H
   refine pop_ext (v := (VI s161)) rfl ?_
   refine pop_ext (v := (VB s161b)) rfl ?_
   refine pop_not s137c ?_
   refine guardM_sf (fun hb14 => ?_) (fun hb14 => ?_)
   rotate_left
   ·have H := H.1 hb14
    refine guardM_n' hb14 (by decide) ?_
    refine pop_pickt' hb14 ?_
    refine guardM_n (by decide) ?_
    refine guardM_n (by decide) ?_
    refine guardM_n (by decide) ?_
    refine guardM_n (by decide) ?_
    refine pop_pickt _ _ ?_
    refine guardM_n (by decide) ?_
    refine guardM_n (by decide) ?_
    refine pop_pickt _ _ ?_
    refine guardM_n (by decide) ?_
    refine guardM_n (by decide) ?_
    refine pop_pickt _ _ ?_
    refine guardM_n (by decide) ?_
    refine guardM_n (by decide) ?_
    refine pop_pickt _ _ ?_
    refine guardM_n (by decide) ?_
    refine guardM_n (by decide) ?_
    refine pop_pickt _ _ ?_
    refine guardM_n (by decide) ?_
    refine guardM_n (by decide) ?_
    refine guardM_n (by decide) ?_
    refine guardM_n (by decide) ?_
    refine guardM_n (by decide) ?_
    refine guardM_n (by decide) ?_
    refine guardM_n (by decide) ?_
    refine guardM_n (by decide) ?_
    refine guardM_n (by decide) ?_
    refine pop_pickt _ _ ?_
    refine condM_t ?_
    exact H
   have H := H.2 hb14
   refine guardM_y' hb14 ?_
   refine pop_not s146c ?_
   refine pop_pickf' hb14 ?_
   refine guardM_sf (fun hb15 => ?_) (fun hb15 => ?_)
   rotate_left
   ·have H := H.1 hb15
    refine guardM_n' hb15 (by decide) ?_
    refine guardM_n' hb15 (by decide) ?_
    refine guardM_n' hb15 (by decide) ?_
    refine pop_pickt' hb15 ?_
    refine guardM_n (by decide) ?_
    refine guardM_n (by decide) ?_
    refine pop_pickt _ _ ?_
    refine guardM_n (by decide) ?_
    refine guardM_n (by decide) ?_
    refine pop_pickt _ _ ?_
    refine guardM_n (by decide) ?_
    refine guardM_n (by decide) ?_
    refine pop_pickt _ _ ?_
    refine guardM_n (by decide) ?_
    refine guardM_n (by decide) ?_
    refine pop_pickt _ _ ?_
    refine guardM_n (by decide) ?_
    refine guardM_n (by decide) ?_
    refine guardM_n (by decide) ?_
    refine guardM_n (by decide) ?_
    refine guardM_n (by decide) ?_
    refine guardM_n (by decide) ?_
    refine guardM_n (by decide) ?_
    refine guardM_n (by decide) ?_
    refine guardM_n (by decide) ?_
    refine pop_pickt _ _ ?_
    refine condM_t ?_
    exact H
   have H := H.2 hb15
   refine rop_locA agg54 hL19 1 rfl 0 (vs := [s137.v, (VI s137b)]) rfl rfl ?_
   refine guardM_y' hb15 ?_
   refine rop_locA agg54 hL19 0 rfl 0 (vs := [s146.v, (VI s146b)]) rfl rfl ?_
   refine guardM_y' hb15 ?_
   refine H.mono fun r12 h20 H => ?_
   obtain ⟨s173, rfl, hL20, H⟩ := H
   refine guardM_y' hb15 ?_
   refine pop_not s173 ?_
   refine pop_pickf' hb15 ?_
   refine guardM_sf (fun hb16 => ?_) (fun hb16 => ?_)
   rotate_left
   ·have H := H.1 hb16
    refine guardM_n' hb16 (by decide) ?_
    refine pop_pickt' hb16 ?_
    refine guardM_n (by decide) ?_
    refine guardM_n (by decide) ?_
    refine pop_pickt _ _ ?_
    refine guardM_n (by decide) ?_
    refine guardM_n (by decide) ?_
    refine pop_pickt _ _ ?_
    refine guardM_n (by decide) ?_
    refine guardM_n (by decide) ?_
    refine pop_pickt _ _ ?_
    refine guardM_n (by decide) ?_
    refine guardM_n (by decide) ?_
    refine guardM_n (by decide) ?_
    refine guardM_n (by decide) ?_
    refine guardM_n (by decide) ?_
    refine guardM_n (by decide) ?_
    refine guardM_n (by decide) ?_
    refine guardM_n (by decide) ?_
    refine guardM_n (by decide) ?_
    refine pop_pickt _ _ ?_
    refine condM_t ?_
    exact H
   have H := H.2 hb16
   refine guardM_y' hb16 ?_
   refine pop_not s151b ?_
   refine pop_pickf' hb16 ?_
   refine guardM_sf (fun hb17 => ?_) (fun hb17 => ?_)
   rotate_left
   ·have H := H.1 hb17
    refine guardM_n' hb17 (by decide) ?_
    refine pop_pickt' hb17 ?_
    refine guardM_n (by decide) ?_
    refine guardM_n (by decide) ?_
    refine pop_pickt _ _ ?_
    refine guardM_n (by decide) ?_
    refine guardM_n (by decide) ?_
    refine pop_pickt _ _ ?_
    refine guardM_n (by decide) ?_
    refine guardM_n (by decide) ?_
    refine guardM_n (by decide) ?_
    refine guardM_n (by decide) ?_
    refine guardM_n (by decide) ?_
    refine guardM_n (by decide) ?_
    refine guardM_n (by decide) ?_
    refine guardM_n (by decide) ?_
    refine guardM_n (by decide) ?_
    refine pop_pickt _ _ ?_
    refine condM_t ?_
    exact H
   have H := H.2 hb17
   refine guardM_y' hb17 ?_
   refine pop_not s156b ?_
   refine pop_pickf' hb17 ?_
   refine guardM_sf (fun hb18 => ?_) (fun hb18 => ?_)
   rotate_left
   ·have H := H.1 hb18
    refine guardM_n' hb18 (by decide) ?_
    refine pop_pickt' hb18 ?_
    refine guardM_n (by decide) ?_
    refine guardM_n (by decide) ?_
    refine pop_pickt _ _ ?_
    refine guardM_n (by decide) ?_
    refine guardM_n (by decide) ?_
    refine guardM_n (by decide) ?_
    refine guardM_n (by decide) ?_
    refine guardM_n (by decide) ?_
    refine guardM_n (by decide) ?_
    refine guardM_n (by decide) ?_
    refine guardM_n (by decide) ?_
    refine guardM_n (by decide) ?_
    refine pop_pickt _ _ ?_
    refine condM_t ?_
    exact H
   have H := H.2 hb18
   refine guardM_y' hb18 ?_
   refine pop_not s161b ?_
   refine pop_pickf' hb18 ?_
   refine guardM_sf (fun hb19 => ?_) (fun hb19 => ?_)
   rotate_left
   ·have H := H.1 hb19
    refine guardM_n' hb19 (by decide) ?_
    refine pop_pickt' hb19 ?_
    refine guardM_n (by decide) ?_
    refine guardM_n (by decide) ?_
    refine guardM_n (by decide) ?_
    refine guardM_n (by decide) ?_
    refine guardM_n (by decide) ?_
    refine guardM_n (by decide) ?_
    refine guardM_n (by decide) ?_
    refine guardM_n (by decide) ?_
    refine guardM_n (by decide) ?_
    refine pop_pickt _ _ ?_
    refine condM_t ?_
    exact H
   have H := H.2 hb19
   refine guardM_y' hb19 ?_
   refine pop_lss .i64 s73b 1 ?_
   refine pop_pickf' hb19 ?_
   refine guardM_sf (fun hb20 => ?_) (fun hb20 => ?_)
   rotate_left
   ·have H := H.1 hb20
    refine guardM_n' hb20 (by decide) ?_
    refine guardM_n (by decide) ?_
    refine guardM_n' hb20 (by decide) ?_
    refine guardM_n' hb20 (by decide) ?_
    refine guardM_n (by decide) ?_
    refine guardM_n (by decide) ?_
    refine guardM_n (by decide) ?_
    refine guardM_n' hb20 (by decide) ?_
    refine pop_pickt' hb20 ?_
    refine condM_t ?_
    exact H
   have H := H.2 hb20
   refine guardM_y' hb20 ?_
   refine guardM_st (fun hb21 => ?_) (fun hb21 => ?_)
   rotate_left
   ·have H := H.2 hb21
    refine guardM_y' hb20 ?_
    refine pop_pickf' hb21 ?_
    refine guardM_y' hb20 ?_
    refine guardM_n (by decide) ?_
    refine guardM_n (by decide) ?_
    refine guardM_n (by decide) ?_
    refine guardM_y' hb20 ?_
    refine pop_pickf _ _ ?_
    refine pop_pickf' hb20 ?_
    refine condM_f ?_
    refine rop_locA agg26 hL20 3 rfl 0 (vs := [s67.v]) rfl rfl ?_
    refine rop_locA agg54 hL20 1 rfl 0 (vs := [s137.v, (VI s137b)]) rfl rfl ?_
    refine H.mono fun r15 h23 H => ?_
    obtain ⟨s206e, s206f, rfl, hL23, H⟩ := H
    refine pop_ext (v := (VB s206e)) rfl ?_
    refine pop_ext (v := (VB s206f)) rfl ?_
    refine guardM_n' hb21 (by decide) ?_
    refine guardM_n' hb21 (by decide) ?_
    refine guardM_n' hb21 (by decide) ?_
    refine guardM_n (by decide) ?_
    refine guardM_n (by decide) ?_
    refine guardM_n' hb21 (by decide) ?_
    refine pop_pickf' hb21 ?_
    refine condM_f ?_
    exact ⟨rfl, H, Vars.pick hL23 [2, 3] rfl⟩
   have H := H.1 hb21
   refine guardM_y' hb20 ?_
   refine pop_pickt' hb21 ?_
   refine guardM_y' hb20 ?_
   refine guardM_st (fun hb22 => ?_) (fun hb22 => ?_)
   rotate_left
   ·have H := H.2 hb22
    refine guardM_n' hb22 (by decide) ?_
    refine guardM_n' hb22 (by decide) ?_
    refine guardM_y' hb20 ?_
    refine pop_pickf' hb22 ?_
    refine pop_pickf' hb20 ?_
    refine condM_f ?_
    refine rop_locA agg26 hL20 3 rfl 0 (vs := [s67.v]) rfl rfl ?_
    refine rop_locA agg54 hL20 1 rfl 0 (vs := [s137.v, (VI s137b)]) rfl rfl ?_
    refine H.mono fun r14 h22 H => ?_
    obtain ⟨s206c, s206d, rfl, hL22, H⟩ := H
    refine pop_ext (v := (VB s206c)) rfl ?_
    refine pop_ext (v := (VB s206d)) rfl ?_
    refine guardM_y' hb21 ?_
    refine guardM_y' hb21 ?_
    refine pop_not s206d ?_
    refine guardM_y' hb21 ?_
    refine guardM_sf (fun hb26 => ?_) (fun hb26 => ?_)
    rotate_left
    ·have H := H.1 hb26
     refine guardM_n' hb26 (by decide) ?_
     refine guardM_y' hb21 ?_
     refine pop_pickt' hb26 ?_
     refine pop_pickt' hb21 ?_
     refine condM_t ?_
     exact H
    have H := H.2 hb26
    refine guardM_y' hb26 ?_
    refine pop_not s206c ?_
    refine guardM_y' hb21 ?_
    refine pop_pickf' hb26 ?_
    refine pop_pickt' hb21 ?_
    refine condM_b (fun hb27 => ?_) (fun hb27 => ?_)
    ·exact H.1 hb27
    have H := H.2 hb27
    exact ⟨rfl, H, Vars.pick hL22 [2, 3] rfl⟩
   have H := H.1 hb22
   refine guardM_y' hb22 ?_
   refine guardM_y' hb22 ?_
   refine pop_ine .i64 _ _ s73b s161 ?_
   refine guardM_y' hb20 ?_
   refine pop_pickt' hb22 ?_
   refine pop_pickf' hb20 ?_
   refine condM_b (fun hb23 => ?_) (fun hb23 => ?_)
   ·exact H.1 hb23
   have H := H.2 hb23
   refine rop_locA agg26 hL20 3 rfl 0 (vs := [s67.v]) rfl rfl ?_
   refine rop_locA agg54 hL20 1 rfl 0 (vs := [s137.v, (VI s137b)]) rfl rfl ?_
   refine H.mono fun r13 h21 H => ?_
   obtain ⟨s206, s206b, rfl, hL21, H⟩ := H
   refine pop_ext (v := (VB s206)) rfl ?_
   refine pop_ext (v := (VB s206b)) rfl ?_
   refine guardM_y' hb21 ?_
   refine guardM_y' hb21 ?_
   refine pop_not s206b ?_
   refine guardM_y' hb21 ?_
   refine guardM_sf (fun hb24 => ?_) (fun hb24 => ?_)
   rotate_left
   ·have H := H.1 hb24
    refine guardM_n' hb24 (by decide) ?_
    refine guardM_y' hb21 ?_
    refine pop_pickt' hb24 ?_
    refine pop_pickt' hb21 ?_
    refine condM_t ?_
    exact H
   have H := H.2 hb24
   refine guardM_y' hb24 ?_
   refine pop_not s206 ?_
   refine guardM_y' hb21 ?_
   refine pop_pickf' hb24 ?_
   refine pop_pickt' hb21 ?_
   refine condM_b (fun hb25 => ?_) (fun hb25 => ?_)
   ·exact H.1 hb25
   have H := H.2 hb25
   exact ⟨rfl, H, Vars.pick hL21 [2, 3] rfl⟩
  intro junk1  h24
  rintro ⟨hv, hJ1, hL24⟩
  have H := HB8  h24 hJ1 hL24
  refine H.mono fun r16 h25 H => ?_
  obtain ⟨s220, s220b, rfl, hL25, H⟩ := H
  refine pop_ext (v := (Value.agg #[s220.v])) rfl ?_
  refine pop_ext (v := (VI s220b)) rfl ?_
  refine eop_alloc 26 zer26 rfl hL25 (fun b5 h26 hb28 hf9 hL26 => ?_)
  refine uop_loc siz26 hL26 0 rfl 0 [s220.v] rfl rfl rfl (Nat.le_of_ble_eq_true rfl) (L' := [(b5, [s220.v]), (b2, [s67b.v, (VI s67c)]), (b1, [s67.v])]) rfl (fun h27 hf10 hL27 => ?_)
  refine rop_locA agg26 hL27 0 rfl 0 (vs := [s220.v]) rfl rfl ?_
  have H := H b5 h27 hb28 (Fr.new (Fr.no' (Fr.r (In []) _) hf9) hb28 hf10) hL27
  refine H.mono fun r17 h28 H => ?_
  obtain ⟨s226, s226b, rfl, hL28, H⟩ := H
  refine pop_ext (v := s226.v) rfl ?_
  refine pop_ext (v := (VB s226b)) rfl ?_
  refine rop_locA agg26 hL28 0 rfl 0 (vs := [s220.v]) rfl rfl ?_
  refine H.mono fun r18 h29 H => ?_
  obtain ⟨s232, s232b, rfl, hL29, H⟩ := H
  refine pop_ext (v := s232.v) rfl ?_
  refine pop_ext (v := (VB s232b)) rfl ?_
  refine pop_bne boo4 _ _ s226b s232b ?_
  refine guardM_sf (fun hb29 => ?_) (fun hb29 => ?_)
  rotate_left
  ·have H := H.1 hb29
   refine guardM_n' hb29 (by decide) ?_
   refine guardM_n' hb29 (by decide) ?_
   refine guardM_n' hb29 (by decide) ?_
   refine pop_pickt' hb29 ?_
   refine condM_t ?_
   exact H
  have H := H.2 hb29
  refine guardM_y' hb29 ?_
  refine guardM_y' hb29 ?_
  refine H.mono fun r19 h30 H => ?_
  obtain ⟨s241, rfl, hL30, H⟩ := H
  refine guardM_y' hb29 ?_
  refine pop_not s241 ?_
  refine pop_pickf' hb29 ?_
  refine condM_b (fun hb30 => ?_) (fun hb30 => ?_)
  ·exact H.1 hb30
  have H := H.2 hb30
  obtain ⟨J2, H, HB7⟩ := H
  refine ⟨fun (vs : List Value) (h' : Heap) => vs = [] /\ J2  h' /\ Vars h' [(b5, [s220.v]), (b2, [s67b.v, (VI s67c)]), (b1, [s67.v])], ?_, ?_⟩
  ·refine condM_b (fun hb31 => ?_) (fun hb31 => ?_)
   rotate_left
   ·have H := H.2 hb31
    exact ⟨rfl, H, hL30⟩
   have H := H.1 hb31
   refine rop_locA agg26 hL30 0 rfl 0 (vs := [s220.v]) rfl rfl ?_
   refine H.mono fun r20 h31 H => ?_
   obtain ⟨s247, s247b, rfl, hL31, H⟩ := H
   refine pop_ext (v := (VI s247)) rfl ?_
   refine pop_ext (v := (VB s247b)) rfl ?_
   refine pop_not s247b ?_
   refine guardM_sf (fun hb32 => ?_) (fun hb32 => ?_)
   rotate_left
   ·have H := H.1 hb32
    refine guardM_n' hb32 (by decide) ?_
    refine guardM_n' hb32 (by decide) ?_
    refine guardM_n' hb32 (by decide) ?_
    refine guardM_n' hb32 (by decide) ?_
    refine pop_pickt' hb32 ?_
    refine guardM_n (by decide) ?_
    refine guardM_n (by decide) ?_
    refine guardM_n (by decide) ?_
    refine guardM_n (by decide) ?_
    refine guardM_n (by decide) ?_
    refine pop_pickt _ _ ?_
    refine guardM_n (by decide) ?_
    refine guardM_n (by decide) ?_
    refine guardM_n (by decide) ?_
    refine guardM_n (by decide) ?_
    refine guardM_n (by decide) ?_
    refine guardM_n (by decide) ?_
    refine pop_pickt _ _ ?_
    refine condM_t ?_
    exact H
   have H := H.2 hb32
   refine guardM_y' hb32 ?_
   refine pop_len s226 _ _ sli33 ?_
   refine guardM_y' hb32 ?_
   refine guardM_y' hb32 ?_
   refine pop_add .i64 s247 1 ?_
   refine guardM_y' hb32 ?_
   refine pop_ine .i64 _ _ (s226.n : Int) (w64 (s247 + 1)) ?_
   refine pop_pickf' hb32 ?_
   refine guardM_sf (fun hb33 => ?_) (fun hb33 => ?_)
   rotate_left
   ·have H := H.1 hb33
    refine guardM_n' hb33 (by decide) ?_
    refine guardM_n' hb33 (by decide) ?_
    refine guardM_n' hb33 (by decide) ?_
    refine guardM_n' hb33 (by decide) ?_
    refine pop_pickt' hb33 ?_
    refine guardM_n (by decide) ?_
    refine guardM_n (by decide) ?_
    refine guardM_n (by decide) ?_
    refine guardM_n (by decide) ?_
    refine guardM_n (by decide) ?_
    refine guardM_n (by decide) ?_
    refine pop_pickt _ _ ?_
    refine condM_t ?_
    exact H
   have H := H.2 hb33
   refine guardM_y' hb33 ?_
   obtain ⟨hi1, H⟩ := H
   refine pop_index sli33 siz3 .i64 s226 0 hi1 ?_
   refine guardM_y' hb33 ?_
   obtain ⟨s262, hc6, H⟩ := H
   refine rop_one one3 (VI s262) hc6 ?_
   refine guardM_y' hb33 ?_
   refine guardM_y' hb33 ?_
   refine pop_ine .i64 _ _ s262 s220b ?_
   refine pop_pickf' hb33 ?_
   refine guardM_sf (fun hb34 => ?_) (fun hb34 => ?_)
   rotate_left
   ·have H := H.1 hb34
    refine guardM_n' hb34 (by decide) ?_
    refine guardM_n' hb34 (by decide) ?_
    refine guardM_n' hb34 (by decide) ?_
    refine guardM_n' hb34 (by decide) ?_
    refine guardM_n' hb34 (by decide) ?_
    refine pop_pickt' hb34 ?_
    refine condM_t ?_
    exact H
   have H := H.2 hb34
   refine guardM_y' hb34 ?_
   refine guardM_y' hb34 ?_
   obtain ⟨hi2, H⟩ := H
   refine pop_index sli33 siz3 .i64 s226 s247 hi2 ?_
   refine guardM_y' hb34 ?_
   obtain ⟨s270, hc5, H⟩ := H
   refine rop_one one3 (VI s270) hc5 ?_
   refine guardM_y' hb34 ?_
   refine guardM_y' hb34 ?_
   refine pop_ine .i64 _ _ s270 s220b ?_
   refine pop_pickf' hb34 ?_
   refine condM_b (fun hb35 => ?_) (fun hb35 => ?_)
   ·exact H.1 hb35
   have H := H.2 hb35
   refine pop_field 0 fld26_0 b5 0 ?_
   refine rop_loc one24 hL31 0 rfl 0 (v := s220.v) rfl ?_
   refine pop_len s220 _ _ sli24 ?_
   obtain ⟨J3, ⟨n8, h0_4⟩, HB5⟩ := H
   refine loop_intro (J := fun (n : Nat) (vs : List Value) (h' : Heap) => ∃ s277 : Int, vs = [(VI s277)] /\ J3 n s277 h' /\ Vars h' [(b5, [s220.v]), (b2, [s67b.v, (VI s67c)]), (b1, [s67.v])]) n8 ⟨0, rfl, h0_4, hL31⟩ ?_
   intro I4 mu4 hI4 junk2 tv7 h32 hi3
   obtain ⟨n1, ⟨s277, hv, hJ2, hL32⟩, hn1⟩ := hI4 _ _ hi3
   cases hv
   have H := HB5 n1 s277 h32 hJ2 hL32
   refine pop_lss .i64 s277 (s220.n : Int) ?_
   refine condM_b (fun hb36 => ?_) (fun hb36 => ?_)
   rotate_left
   ·have H := H.2 hb36
    exact ⟨rfl, H, hL32⟩
   have H := H.1 hb36
   obtain ⟨hi4, H⟩ := H
   refine pop_index sli24 siz33 .i64 s220 s277 hi4 ?_
   obtain ⟨s281, hc4, H⟩ := H
   refine rop_one one33 s281.v hc4 ?_
   refine pop_field 0 fld26_0 b5 0 ?_
   refine rop_loc one24 hL32 0 rfl 0 (v := s220.v) rfl ?_
   refine pop_len s220 _ _ sli24 ?_
   obtain ⟨J4, ⟨n7, h0_3⟩, HB4⟩ := H
   refine loop_intro (J := fun (n : Nat) (vs : List Value) (h' : Heap) => ∃ s285 : Int, vs = [(VI s285)] /\ J4 n s285 h' /\ Vars h' [(b5, [s220.v]), (b2, [s67b.v, (VI s67c)]), (b1, [s67.v])]) n7 ⟨0, rfl, h0_3, hL32⟩ ?_
   intro I3 mu3 hI3 junk3 tv6 h33 hi5
   obtain ⟨n2, ⟨s285, hv, hJ3, hL33⟩, hn2⟩ := hI3 _ _ hi5
   cases hv
   have H := HB4 n2 s285 h33 hJ3 hL33
   refine pop_lss .i64 s285 (s220.n : Int) ?_
   refine condM_b (fun hb37 => ?_) (fun hb37 => ?_)
   rotate_left
   ·have H := H.2 hb37
    refine pop_add .i64 s277 1 ?_
    obtain ⟨m_5, hm_5, H⟩ := H
    exact hn1 _ _ ⟨m_5, hm_5, (w64 (s277 + 1)), rfl, H, hL33⟩
   have H := H.1 hb37
   refine pop_len s281 _ _ sli33 ?_
   obtain ⟨J5, ⟨n6, h0_2⟩, HB3⟩ := H
   refine loop_intro (J := fun (n : Nat) (vs : List Value) (h' : Heap) => ∃ due40_1 : Int, ∃ s290 : Int, vs = [(VI due40_1), (VI s290)] /\ J5 n due40_1 s290 h' /\ Vars h' [(b5, [s220.v]), (b2, [s67b.v, (VI s67c)]), (b1, [s67.v])]) n6 ⟨0, 0, rfl, h0_2, hL33⟩ ?_
   intro I2 mu2 hI2 junk4 tv4 tv5 h34 hi6
   obtain ⟨n3, ⟨due40_1, s290, hv, hJ4, hL34⟩, hn3⟩ := hI2 _ _ hi6
   cases hv
   have H := HB3 n3 due40_1 s290 h34 hJ4 hL34
   refine pop_lss .i64 s290 (s281.n : Int) ?_
   refine condM_b (fun hb38 => ?_) (fun hb38 => ?_)
   ·have H := H.1 hb38
    obtain ⟨hi7, H⟩ := H
    refine pop_index sli33 siz3 .i64 s281 s290 hi7 ?_
    obtain ⟨s293, hc1, H⟩ := H
    refine rop_one one3 (VI s293) hc1 ?_
    refine pop_ieq .i64 _ _ s293 s285 ?_
    refine condM_b (fun hb39 => ?_) (fun hb39 => ?_)
    rotate_left
    ·have H := H.2 hb39
     refine pop_add .i64 s290 1 ?_
     obtain ⟨m_2, hm_2, H⟩ := H
     exact hn3 _ _ ⟨m_2, hm_2, due40_1, (w64 (s290 + 1)), rfl, H, hL34⟩
    have H := H.1 hb39
    refine pop_add .i64 due40_1 1 ?_
    refine pop_add .i64 s290 1 ?_
    obtain ⟨m_1, hm_1, H⟩ := H
    exact hn3 _ _ ⟨m_1, hm_1, (w64 (due40_1 + 1)), (w64 (s290 + 1)), rfl, H, hL34⟩
   have H := H.2 hb38
   obtain ⟨J6, ⟨n5, h0_1⟩, HB2⟩ := H
   refine loop_intro (J := fun (n : Nat) (vs : List Value) (h' : Heap) => ∃ n41_1 : Int, ∃ i44_1 : Int, vs = [(VI n41_1), (VI i44_1)] /\ J6 n n41_1 i44_1 h' /\ Vars h' [(b5, [s220.v]), (b2, [s67b.v, (VI s67c)]), (b1, [s67.v])]) n5 ⟨0, 1, rfl, h0_1, hL34⟩ ?_
   intro I1 mu1 hI1 junk5 tv2 tv3 h35 hi8
   obtain ⟨n4, ⟨n41_1, i44_1, hv, hJ5, hL35⟩, hn4⟩ := hI1 _ _ hi8
   cases hv
   have H := HB2 n4 n41_1 i44_1 h35 hJ5 hL35
   refine pop_len s226 _ _ sli33 ?_
   refine pop_lss .i64 i44_1 (s226.n : Int) ?_
   refine condM_b (fun hb40 => ?_) (fun hb40 => ?_)
   rotate_left
   ·have H := H.2 hb40
    refine pop_ine .i64 _ _ n41_1 due40_1 ?_
    refine condM_b (fun hb43 => ?_) (fun hb43 => ?_)
    ·exact H.1 hb43
    have H := H.2 hb43
    refine pop_add .i64 s285 1 ?_
    obtain ⟨m_4, hm_4, H⟩ := H
    exact hn2 _ _ ⟨m_4, hm_4, (w64 (s285 + 1)), rfl, H, hL35⟩
   have H := H.1 hb40
   obtain ⟨J7, H, HB1⟩ := H
   refine ⟨fun (vs : List Value) (h' : Heap) => ∃ y1 : Int, vs = [(VI y1)] /\ J7 y1 h' /\ Vars h' [(b5, [s220.v]), (b2, [s67b.v, (VI s67c)]), (b1, [s67.v])], ?_, ?_⟩
   ·refine pop_sub .i64 i44_1 1 ?_
    obtain ⟨hi9, H⟩ := H
    refine pop_index sli33 siz3 .i64 s226 (w64 (i44_1 - 1)) hi9 ?_
    obtain ⟨s310, hc3, H⟩ := H
    refine rop_one one3 (VI s310) hc3 ?_
    refine pop_ieq .i64 _ _ s310 s277 ?_
    refine guardM_st (fun hb41 => ?_) (fun hb41 => ?_)
    rotate_left
    ·have H := H.2 hb41
     refine guardM_n' hb41 (by decide) ?_
     refine guardM_n' hb41 (by decide) ?_
     refine guardM_n' hb41 (by decide) ?_
     refine guardM_n' hb41 (by decide) ?_
     refine guardM_n' hb41 (by decide) ?_
     refine pop_pickf' hb41 ?_
     refine condM_f ?_
     exact ⟨n41_1, rfl, H, hL35⟩
    have H := H.1 hb41
    refine guardM_y' hb41 ?_
    refine guardM_y' hb41 ?_
    obtain ⟨hi10, H⟩ := H
    refine pop_index sli33 siz3 .i64 s226 i44_1 hi10 ?_
    refine guardM_y' hb41 ?_
    obtain ⟨s317, hc2, H⟩ := H
    refine rop_one one3 (VI s317) hc2 ?_
    refine guardM_y' hb41 ?_
    refine guardM_y' hb41 ?_
    refine pop_ieq .i64 _ _ s317 s285 ?_
    refine pop_pickt' hb41 ?_
    refine condM_b (fun hb42 => ?_) (fun hb42 => ?_)
    rotate_left
    ·have H := H.2 hb42
     exact ⟨n41_1, rfl, H, hL35⟩
    have H := H.1 hb42
    refine pop_add .i64 n41_1 1 ?_
    exact ⟨(w64 (n41_1 + 1)), rfl, H, hL35⟩
   intro junk6 tv1 h36
   rintro ⟨y1, hv, hJ6, hL36⟩
   cases hv
   have H := HB1 y1 h36 hJ6 hL36
   refine pop_add .i64 i44_1 1 ?_
   obtain ⟨m_3, hm_3, H⟩ := H
   exact hn4 _ _ ⟨m_3, hm_3, y1, (w64 (i44_1 + 1)), rfl, H, hL36⟩
  intro junk7  h37
  rintro ⟨hv, hJ7, hL37⟩
  have H := HB7  h37 hJ7 hL37
  refine H.mono fun r21 h38 H => ?_
  obtain ⟨s330, s330b, s330c, s330d, rfl, hL38, H⟩ := H
  refine pop_ext (v := (Value.agg #[s330.v])) rfl ?_
  refine pop_ext (v := (Value.agg #[s330b.v, (VI s330c)])) rfl ?_
  refine pop_ext (v := (VI s330d)) rfl ?_
  refine eop_alloc 26 zer26 rfl hL38 (fun b6 h39 hb44 hf11 hL39 => ?_)
  refine eop_alloc 54 zer54 rfl hL39 (fun b7 h40 hb45 hf12 hL40 => ?_)
  refine uop_loc siz26 hL40 1 rfl 0 [s330.v] rfl rfl rfl (Nat.le_of_ble_eq_true rfl) (L' := [(b7, [nilSl.v, (VI 0)]), (b6, [s330.v]), (b5, [s220.v]), (b2, [s67b.v, (VI s67c)]), (b1, [s67.v])]) rfl (fun h41 hf13 hL41 => ?_)
  refine uop_loc siz54 hL41 0 rfl 0 [s330b.v, (VI s330c)] rfl rfl rfl (Nat.le_of_ble_eq_true rfl) (L' := [(b7, [s330b.v, (VI s330c)]), (b6, [s330.v]), (b5, [s220.v]), (b2, [s67b.v, (VI s67c)]), (b1, [s67.v])]) rfl (fun h42 hf14 hL42 => ?_)
  refine rop_locA agg26 hL42 1 rfl 0 (vs := [s330.v]) rfl rfl ?_
  refine rop_locA agg54 hL42 0 rfl 0 (vs := [s330b.v, (VI s330c)]) rfl rfl ?_
  have H := H b6 b7 h42 hb44 (Nat.le_trans (Fr.size (Fr.no' (Fr.r (In []) _) hf11)) hb45) (Fr.new (Fr.new (Fr.no' (Fr.no' (Fr.r (In []) _) hf11) hf12) hb44 hf13) (Nat.le_trans (Fr.size (Fr.no' (Fr.r (In []) _) hf11)) hb45) hf14) hL42
  refine H.mono fun r22 h43 H => ?_
  obtain ⟨s338, s338b, rfl, hL43, H⟩ := H
  refine pop_ext (v := (VI s338)) rfl ?_
  refine pop_ext (v := (VB s338b)) rfl ?_
  refine rop_locA agg26 hL43 1 rfl 0 (vs := [s330.v]) rfl rfl ?_
  refine rop_locA agg54 hL43 0 rfl 0 (vs := [s330b.v, (VI s330c)]) rfl rfl ?_
  refine H.mono fun r23 h44 H => ?_
  obtain ⟨s345, s345b, rfl, hL44, H⟩ := H
  refine pop_ext (v := (VI s345)) rfl ?_
  refine pop_ext (v := (VB s345b)) rfl ?_
  refine H.mono fun r24 h45 H => ?_
  obtain ⟨s350, s350b, s350c, rfl, hL45, H⟩ := H
  refine pop_ext (v := (Value.agg #[s350.v])) rfl ?_
  refine pop_ext (v := (Value.agg #[s350b.v, (VI s350c)])) rfl ?_
  refine eop_alloc 26 zer26 rfl hL45 (fun b8 h46 hb46 hf15 hL46 => ?_)
  refine eop_alloc 54 zer54 rfl hL46 (fun b9 h47 hb47 hf16 hL47 => ?_)
  refine uop_loc siz26 hL47 1 rfl 0 [s350.v] rfl rfl rfl (Nat.le_of_ble_eq_true rfl) (L' := [(b9, [nilSl.v, (VI 0)]), (b8, [s350.v]), (b7, [s330b.v, (VI s330c)]), (b6, [s330.v]), (b5, [s220.v]), (b2, [s67b.v, (VI s67c)]), (b1, [s67.v])]) rfl (fun h48 hf17 hL48 => ?_)
  refine uop_loc siz54 hL48 0 rfl 0 [s350b.v, (VI s350c)] rfl rfl rfl (Nat.le_of_ble_eq_true rfl) (L' := [(b9, [s350b.v, (VI s350c)]), (b8, [s350.v]), (b7, [s330b.v, (VI s330c)]), (b6, [s330.v]), (b5, [s220.v]), (b2, [s67b.v, (VI s67c)]), (b1, [s67.v])]) rfl (fun h49 hf18 hL49 => ?_)
  refine rop_locA agg26 hL49 1 rfl 0 (vs := [s350.v]) rfl rfl ?_
  refine rop_locA agg54 hL49 0 rfl 0 (vs := [s350b.v, (VI s350c)]) rfl rfl ?_
  have H := H b8 b9 h49 hb46 (Nat.le_trans (Fr.size (Fr.no' (Fr.r (In []) _) hf15)) hb47) (Fr.new (Fr.new (Fr.no' (Fr.no' (Fr.r (In []) _) hf15) hf16) hb46 hf17) (Nat.le_trans (Fr.size (Fr.no' (Fr.r (In []) _) hf15)) hb47) hf18) hL49
  refine H.mono fun r25 h50 H => ?_
  obtain ⟨s356, s356b, rfl, hL50, H⟩ := H
  refine pop_ext (v := (VI s356)) rfl ?_
  refine pop_ext (v := (VB s356b)) rfl ?_
  refine rop_locA agg26 hL50 1 rfl 0 (vs := [s350.v]) rfl rfl ?_
  refine rop_locA agg54 hL50 0 rfl 0 (vs := [s350b.v, (VI s350c)]) rfl rfl ?_
  refine H.mono fun r26 h51 H => ?_
  obtain ⟨s362, s362b, rfl, hL51, H⟩ := H
  refine pop_ext (v := (VI s362)) rfl ?_
  refine pop_ext (v := (VB s362b)) rfl ?_
  refine pop_bne boo4 _ _ s338b s345b ?_
  refine guardM_sf (fun hb48 => ?_) (fun hb48 => ?_)
  rotate_left
  ·have H := H.1 hb48
   refine guardM_n' hb48 (by decide) ?_
   refine guardM_n' hb48 (by decide) ?_
   refine pop_pickt' hb48 ?_
   refine guardM_n (by decide) ?_
   refine guardM_n (by decide) ?_
   refine guardM_n (by decide) ?_
   refine pop_pickt _ _ ?_
   refine guardM_n (by decide) ?_
   refine guardM_n (by decide) ?_
   refine guardM_n (by decide) ?_
   refine pop_pickt _ _ ?_
   refine condM_t ?_
   exact H
  have H := H.2 hb48
  refine guardM_y' hb48 ?_
  refine guardM_y' hb48 ?_
  refine pop_ine .i64 _ _ s338 s345 ?_
  refine pop_pickf' hb48 ?_
  refine guardM_sf (fun hb49 => ?_) (fun hb49 => ?_)
  rotate_left
  ·have H := H.1 hb49
   refine guardM_n' hb49 (by decide) ?_
   refine guardM_n' hb49 (by decide) ?_
   refine pop_pickt' hb49 ?_
   refine guardM_n (by decide) ?_
   refine guardM_n (by decide) ?_
   refine guardM_n (by decide) ?_
   refine pop_pickt _ _ ?_
   refine condM_t ?_
   exact H
  have H := H.2 hb49
  refine guardM_y' hb49 ?_
  refine guardM_y' hb49 ?_
  refine pop_bne boo4 _ _ s356b s362b ?_
  refine pop_pickf' hb49 ?_
  refine guardM_sf (fun hb50 => ?_) (fun hb50 => ?_)
  rotate_left
  ·have H := H.1 hb50
   refine guardM_n' hb50 (by decide) ?_
   refine guardM_n' hb50 (by decide) ?_
   refine pop_pickt' hb50 ?_
   refine condM_t ?_
   exact H
  have H := H.2 hb50
  refine guardM_y' hb50 ?_
  refine guardM_y' hb50 ?_
  refine pop_ine .i64 _ _ s356 s362 ?_
  refine pop_pickf' hb50 ?_
  refine condM_b (fun hb51 => ?_) (fun hb51 => ?_)
  ·exact H.1 hb51
  have H := H.2 hb51
  refine condM_b (fun hb52 => ?_) (fun hb52 => ?_)
  rotate_left
  ·exact H.2 hb52
  have H := H.1 hb52
  refine pop_field 0 fld26_0 b8 0 ?_
  refine rop_loc one24 hL51 1 rfl 0 (v := s350.v) rfl ?_
  refine pop_len s350 _ _ sli24 ?_
  obtain ⟨J8, ⟨n10, h0_5⟩, HB6⟩ := H
  refine loop_intro (J := fun (n : Nat) (vs : List Value) (h' : Heap) => ∃ most58_1 : Int, ∃ s387 : Int, vs = [(VI most58_1), (VI s387)] /\ J8 n most58_1 s387 h' /\ Vars h' [(b9, [s350b.v, (VI s350c)]), (b8, [s350.v]), (b7, [s330b.v, (VI s330c)]), (b6, [s330.v]), (b5, [s220.v]), (b2, [s67b.v, (VI s67c)]), (b1, [s67.v])]) n10 ⟨0, 0, rfl, h0_5, hL51⟩ ?_
  intro I5 mu5 hI5 junk8 tv8 tv9 h52 hi11
  obtain ⟨n9, ⟨most58_1, s387, hv, hJ8, hL52⟩, hn5⟩ := hI5 _ _ hi11
  cases hv
  have H := HB6 n9 most58_1 s387 h52 hJ8 hL52
  refine pop_lss .i64 s387 (s350.n : Int) ?_
  refine condM_b (fun hb53 => ?_) (fun hb53 => ?_)
  rotate_left
  ·have H := H.2 hb53
   refine pop_ine .i64 _ _ most58_1 s356 ?_
   refine condM_b (fun hb57 => ?_) (fun hb57 => ?_)
   ·exact H.1 hb57
   exact H.2 hb57
  have H := H.1 hb53
  refine rop_locA agg26 hL52 1 rfl 0 (vs := [s350.v]) rfl rfl ?_
  refine rop_locA agg54 hL52 0 rfl 0 (vs := [s350b.v, (VI s350c)]) rfl rfl ?_
  refine H.mono fun r27 h53 H => ?_
  obtain ⟨s394, s394b, rfl, hL53, H⟩ := H
  refine pop_ext (v := (VI s394)) rfl ?_
  refine pop_ext (v := (VB s394b)) rfl ?_
  refine pop_not s394b ?_
  refine guardM_sf (fun hb54 => ?_) (fun hb54 => ?_)
  rotate_left
  ·have H := H.1 hb54
   refine guardM_n' hb54 (by decide) ?_
   refine guardM_n' hb54 (by decide) ?_
   refine pop_pickt' hb54 ?_
   refine condM_t ?_
   exact H
  have H := H.2 hb54
  refine guardM_y' hb54 ?_
  refine guardM_y' hb54 ?_
  refine pop_gtr .i64 s394 s356 ?_
  refine pop_pickf' hb54 ?_
  refine condM_b (fun hb55 => ?_) (fun hb55 => ?_)
  ·exact H.1 hb55
  have H := H.2 hb55
  refine pop_gtr .i64 s394 most58_1 ?_
  refine condM_b (fun hb56 => ?_) (fun hb56 => ?_)
  ·have H := H.1 hb56
   refine pop_add .i64 s387 1 ?_
   obtain ⟨m_6, hm_6, H⟩ := H
   exact hn5 _ _ ⟨m_6, hm_6, s394, (w64 (s387 + 1)), rfl, H, hL53⟩
  have H := H.2 hb56
  refine pop_add .i64 s387 1 ?_
  obtain ⟨m_7, hm_7, H⟩ := H
  exact hn5 _ _ ⟨m_7, hm_7, most58_1, (w64 (s387 + 1)), rfl, H, hL53⟩
def u5 (P : Program) (code0_1 : Sl) (more1_1 : Sl) (h : Heap) (K : Value -> Heap -> Prop) : Prop :=
 ((decide (1048576 < (code0_1.n : Int))) = true ->
 K (VB true) h) /\
 ((decide (1048576 < (code0_1.n : Int))) = false ->
 K (VB (decide ((w64 (1048576 - (code0_1.n : Int))) < (more1_1.n : Int)))) h)
theorem v5 (code0_1 : Sl) (more1_1 : Sl) (h : Heap) (K : Value -> Heap -> Prop) (H : u5 Tryz.prog code0_1 more1_1 h K) : callM Tryz.prog 5 #[code0_1.v, more1_1.v] h K := by
  refine c5 code0_1.v more1_1.v h K ?_
  unfold u5 at H
  unfold t5
  have hL : Vars h [] := .nil
  refine pop_len code0_1 _ _ sli22 ?_
  refine pop_gtr .i64 (code0_1.n : Int) 1048576 ?_
  refine guardM_sf (fun hb1 => ?_) (fun hb1 => ?_)
  rotate_left
  ·have H := H.1 hb1
   refine guardM_n' hb1 (by decide) ?_
   refine guardM_n' hb1 (by decide) ?_
   refine guardM_n' hb1 (by decide) ?_
   refine guardM_n' hb1 (by decide) ?_
   refine guardM_n' hb1 (by decide) ?_
   refine pop_pickt' hb1 ?_
   exact H
  have H := H.2 hb1
  refine guardM_y' hb1 ?_
  refine pop_len more1_1 _ _ sli22 ?_
  refine guardM_y' hb1 ?_
  refine guardM_y' hb1 ?_
  refine pop_len code0_1 _ _ sli22 ?_
  refine guardM_y' hb1 ?_
  refine pop_sub .i64 1048576 (code0_1.n : Int) ?_
  refine guardM_y' hb1 ?_
  refine pop_gtr .i64 (more1_1.n : Int) (w64 (1048576 - (code0_1.n : Int))) ?_
  refine pop_pickf' hb1 ?_
  exact H
def u16 (P : Program) (a0_1 : Sl) (b1_1 : Sl) (h : Heap) (K : Value -> Heap -> Prop) : Prop :=
 ((!decide ((a0_1.n : Int) = (b1_1.n : Int))) = true ->
 K (VB false) h) /\
 ((!decide ((a0_1.n : Int) = (b1_1.n : Int))) = false ->
 ∃ J1 : Nat -> Int -> Heap -> Prop, (∃ n0 : Nat, J1 n0 0 h) /\
 ∀ (n1 : Nat) (s13 : Int) (h1 : Heap), J1 n1 s13 h1 -> Vars h1 [] ->
 ((decide (s13 < (a0_1.n : Int))) = true ->
 InB a0_1 s13 /\
 ∃ s19 : Int, hcell h1 (Sl.at a0_1 s13 1) = some (VI s19) /\
 InB b1_1 s13 /\
 ∃ s23 : Int, hcell h1 (Sl.at b1_1 s13 1) = some (VI s23) /\
 ((!decide (s19 = s23)) = true ->
 K (VB false) h1) /\
 ((!decide (s19 = s23)) = false ->
 ∃ m : Nat, m < n1 /\ J1 m (w64 (s13 + 1)) h1)) /\
 ((decide (s13 < (a0_1.n : Int))) = false ->
 K (VB true) h1))
theorem v16 (a0_1 : Sl) (b1_1 : Sl) (h : Heap) (K : Value -> Heap -> Prop) (H : u16 Tryz.prog a0_1 b1_1 h K) : callM Tryz.prog 16 #[a0_1.v, b1_1.v] h K := by
  refine c16 a0_1.v b1_1.v h K ?_
  unfold u16 at H
  unfold t16
  have hL : Vars h [] := .nil
  refine pop_len a0_1 _ _ sli33 ?_
  refine pop_len b1_1 _ _ sli33 ?_
  refine pop_ine .i64 _ _ (a0_1.n : Int) (b1_1.n : Int) ?_
  refine condM_b (fun hb1 => ?_) (fun hb1 => ?_)
  ·exact H.1 hb1
  have H := H.2 hb1
  refine pop_len a0_1 _ _ sli33 ?_
  obtain ⟨J1, ⟨n2, h0_1⟩, HB1⟩ := H
  refine loop_intro (J := fun (n : Nat) (vs : List Value) (h' : Heap) => ∃ s13 : Int, vs = [(VI s13)] /\ J1 n s13 h' /\ Vars h' []) n2 ⟨0, rfl, h0_1, hL⟩ ?_
  intro I1 mu1 hI1 junk1 tv1 h1 hi1
  obtain ⟨n1, ⟨s13, hv, hJ1, hL1⟩, hn1⟩ := hI1 _ _ hi1
  cases hv
  have H := HB1 n1 s13 h1 hJ1 hL1
  refine pop_lss .i64 s13 (a0_1.n : Int) ?_
  refine condM_b (fun hb2 => ?_) (fun hb2 => ?_)
  rotate_left
  ·exact H.2 hb2
  have H := H.1 hb2
  obtain ⟨hi2, H⟩ := H
  refine pop_index sli33 siz3 .i64 a0_1 s13 hi2 ?_
  obtain ⟨s19, hc2, H⟩ := H
  refine rop_one one3 (VI s19) hc2 ?_
  obtain ⟨hi3, H⟩ := H
  refine pop_index sli33 siz3 .i64 b1_1 s13 hi3 ?_
  obtain ⟨s23, hc1, H⟩ := H
  refine rop_one one3 (VI s23) hc1 ?_
  refine pop_ine .i64 _ _ s19 s23 ?_
  refine condM_b (fun hb3 => ?_) (fun hb3 => ?_)
  ·exact H.1 hb3
  have H := H.2 hb3
  refine pop_add .i64 s13 1 ?_
  obtain ⟨m_1, hm_1, H⟩ := H
  exact hn1 _ _ ⟨m_1, hm_1, (w64 (s13 + 1)), rfl, H, hL1⟩
def u29 (P : Program) (code0_1 : Sl) (h : Heap) (K : Value -> Heap -> Prop) : Prop :=
 ∀ (b1 : Nat) (b2 : Nat) (b3 : Nat) (h3 : Heap), h.size ≤ b1 -> h.size ≤ b2 -> h.size ≤ b3 -> Fr (In []) h h3 -> Vars h3 [(b3, [code0_1.v, (VI 0), (Value.int .u64 0)]), (b2, [nilSl.v, (VI 0)]), (b1, [nilSl.v])] ->
 ∃ J1 : Sl -> Int -> Int -> Heap -> Prop, (callM P 68 #[(VP b3 0), (VI 2)] h3 fun r1 h4 => ∃ y4 : Sl, ∃ y5 : Int, ∃ y6 : Int, ∃ s10 : Bool, r1 = (VB s10) /\ Vars h4 [(b3, [y4.v, (VI y5), (Value.int .u64 y6)]), (b2, [nilSl.v, (VI 0)]), (b1, [nilSl.v])] /\
 (s10 = true ->
 callM P 81 #[(VP b3 0)] h4 fun r2 h5 => ∃ y7 : Sl, ∃ y8 : Int, ∃ y9 : Int, ∃ s12 : Sl, r2 = (.agg #[s12.v]) /\ Vars h5 [(b3, [y7.v, (VI y8), (Value.int .u64 y9)]), (b2, [nilSl.v, (VI 0)]), (b1, [nilSl.v])] /\
 ∀ (b4 : Nat) (h7 : Heap), h5.size ≤ b4 -> Fr (In []) h5 h7 -> Vars h7 [(b4, [s12.v]), (b3, [y7.v, (VI y8), (Value.int .u64 y9)]), (b2, [nilSl.v, (VI 0)]), (b1, [nilSl.v])] ->
 callM P 82 #[(.agg #[s12.v])] h7 fun r3 h8 => ∃ s14 : Bool, r3 = (VB s14) /\ Vars h8 [(b4, [s12.v]), (b3, [y7.v, (VI y8), (Value.int .u64 y9)]), (b2, [nilSl.v, (VI 0)]), (b1, [nilSl.v])] /\
 (s14 = true ->
 callM P 83 #[(VP b3 0), (.agg #[s12.v])] h8 fun r4 h9 => ∃ y10 : Sl, ∃ y11 : Int, ∃ y12 : Int, ∃ s18 : Sl, ∃ s18b : Int, r4 = (.agg #[s18.v, (VI s18b)]) /\ Vars h9 [(b4, [s12.v]), (b3, [y10.v, (VI y11), (Value.int .u64 y12)]), (b2, [nilSl.v, (VI 0)]), (b1, [nilSl.v])] /\
 ∀ (h11 : Heap), Fr (In [b2, b1]) h9 h11 -> Vars h11 [(b4, [s12.v]), (b3, [y10.v, (VI y11), (Value.int .u64 y12)]), (b2, [s18.v, (VI s18b)]), (b1, [s12.v])] ->
 K (.tuple #[(.agg #[s12.v]), (.agg #[s18.v, (VI s18b)])]) h11) /\
 (s14 = false ->
 J1 y7 y8 y9 h8)) /\
 (s10 = false ->
 J1 y4 y5 y6 h4)) /\
 ∀ (y1 : Sl) (y2 : Int) (y3 : Int) (h12 : Heap), J1 y1 y2 y3 h12 -> Vars h12 [(b3, [y1.v, (VI y2), (Value.int .u64 y3)]), (b2, [nilSl.v, (VI 0)]), (b1, [nilSl.v])] ->
 callM P 67 #[(VP b3 0)] h12 fun r5 h13 => ∃ y13 : Sl, ∃ y14 : Int, ∃ y15 : Int, ∃ s20 : Sl, ∃ s20b : Sl, ∃ s20c : Int, r5 = (.tuple #[(.agg #[s20.v]), (.agg #[s20b.v, (VI s20c)])]) /\ Vars h13 [(b3, [y13.v, (VI y14), (Value.int .u64 y15)]), (b2, [nilSl.v, (VI 0)]), (b1, [nilSl.v])] /\
 ∀ (h15 : Heap), Fr (In [b2, b1]) h13 h15 -> Vars h15 [(b3, [y13.v, (VI y14), (Value.int .u64 y15)]), (b2, [s20b.v, (VI s20c)]), (b1, [s20.v])] ->
 K (.tuple #[(.agg #[s20.v]), (.agg #[s20b.v, (VI s20c)])]) h15
theorem v29 (code0_1 : Sl) (h : Heap) (K : Value -> Heap -> Prop) (H : u29 Tryz.prog code0_1 h K) : callM Tryz.prog 29 #[code0_1.v] h K := by
  refine c29 code0_1.v h K ?_
  unfold u29 at H
  unfold t29
  have hL : Vars h [] := .nil
  refine eop_alloc 26 zer26 rfl hL (fun b1 h1 hb1 hf1 hL1 => ?_)
  refine eop_alloc 54 zer54 rfl hL1 (fun b2 h2 hb2 hf2 hL2 => ?_)
  refine pop.mk' (v := (Value.agg #[code0_1.v, (VI 0), (Value.int .u64 0)])) (fun w => by kernel_rfl) ?_
  refine eop_box 84 (Value.agg #[code0_1.v, (VI 0), (Value.int .u64 0)]) rfl hL2 (fun b3 h3 hb3 hf3 hL3 => ?_)
  have H := H b1 b2 b3 h3 hb1 (Nat.le_trans (Fr.size (Fr.no' (Fr.r (In []) _) hf1)) hb2) (Nat.le_trans (Fr.size (Fr.no' (Fr.no' (Fr.r (In []) _) hf1) hf2)) hb3) (Fr.no' (Fr.no' (Fr.no' (Fr.r (In []) _) hf1) hf2) hf3) hL3
  obtain ⟨J1, H, HB1⟩ := H
  refine ⟨fun (vs : List Value) (h' : Heap) => ∃ y1 : Sl, ∃ y2 : Int, ∃ y3 : Int, vs = [] /\ J1 y1 y2 y3 h' /\ Vars h' [(b3, [y1.v, (VI y2), (Value.int .u64 y3)]), (b2, [nilSl.v, (VI 0)]), (b1, [nilSl.v])], ?_, ?_⟩
  ·refine H.mono fun r1 h4 H => ?_
   obtain ⟨y4, y5, y6, s10, rfl, hL4, H⟩ := H
   refine condM_b (fun hb4 => ?_) (fun hb4 => ?_)
   rotate_left
   ·have H := H.2 hb4
    exact ⟨y4, y5, y6, rfl, H, hL4⟩
   have H := H.1 hb4
   refine H.mono fun r2 h5 H => ?_
   obtain ⟨y7, y8, y9, s12, rfl, hL5, H⟩ := H
   refine eop_alloc 26 zer26 rfl hL5 (fun b4 h6 hb5 hf4 hL6 => ?_)
   refine uop_loc siz26 hL6 0 rfl 0 [s12.v] rfl rfl rfl (Nat.le_of_ble_eq_true rfl) (L' := [(b4, [s12.v]), (b3, [y7.v, (VI y8), (Value.int .u64 y9)]), (b2, [nilSl.v, (VI 0)]), (b1, [nilSl.v])]) rfl (fun h7 hf5 hL7 => ?_)
   refine rop_locA agg26 hL7 0 rfl 0 (vs := [s12.v]) rfl rfl ?_
   have H := H b4 h7 hb5 (Fr.new (Fr.no' (Fr.r (In []) _) hf4) hb5 hf5) hL7
   refine H.mono fun r3 h8 H => ?_
   obtain ⟨s14, rfl, hL8, H⟩ := H
   refine condM_b (fun hb6 => ?_) (fun hb6 => ?_)
   rotate_left
   ·have H := H.2 hb6
    exact ⟨y7, y8, y9, rfl, H, Vars.pick hL8 [1, 2, 3] rfl⟩
   have H := H.1 hb6
   refine rop_locA agg26 hL8 0 rfl 0 (vs := [s12.v]) rfl rfl ?_
   refine rop_locA agg26 hL8 0 rfl 0 (vs := [s12.v]) rfl rfl ?_
   refine H.mono fun r4 h9 H => ?_
   obtain ⟨y10, y11, y12, s18, s18b, rfl, hL9, H⟩ := H
   refine ⟨?_, ?_⟩
   ·exact still_locA agg26 hL9 0 rfl 0 (vs := [s12.v]) rfl rfl
   refine uop_loc siz26 hL9 3 rfl 0 [s12.v] rfl rfl rfl (Nat.le_of_ble_eq_true rfl) (L' := [(b4, [s12.v]), (b3, [y10.v, (VI y11), (Value.int .u64 y12)]), (b2, [nilSl.v, (VI 0)]), (b1, [s12.v])]) rfl (fun h10 hf6 hL10 => ?_)
   refine uop_loc siz54 hL10 2 rfl 0 [s18.v, (VI s18b)] rfl rfl rfl (Nat.le_of_ble_eq_true rfl) (L' := [(b4, [s12.v]), (b3, [y10.v, (VI y11), (Value.int .u64 y12)]), (b2, [s18.v, (VI s18b)]), (b1, [s12.v])]) rfl (fun h11 hf7 hL11 => ?_)
   refine rop_locA agg26 hL11 3 rfl 0 (vs := [s12.v]) rfl rfl ?_
   refine rop_locA agg54 hL11 2 rfl 0 (vs := [s18.v, (VI s18b)]) rfl rfl ?_
   have H := H  h11  (Fr.old (Fr.old (Fr.r (In []) _) hf6) hf7) hL11
   exact H
  intro junk1  h12
  rintro ⟨y1, y2, y3, hv, hJ1, hL12⟩
  have H := HB1 y1 y2 y3 h12 hJ1 hL12
  refine H.mono fun r5 h13 H => ?_
  obtain ⟨y13, y14, y15, s20, s20b, s20c, rfl, hL13, H⟩ := H
  refine pop_ext (v := (Value.agg #[s20.v])) rfl ?_
  refine pop_ext (v := (Value.agg #[s20b.v, (VI s20c)])) rfl ?_
  refine uop_loc siz26 hL13 2 rfl 0 [s20.v] rfl rfl rfl (Nat.le_of_ble_eq_true rfl) (L' := [(b3, [y13.v, (VI y14), (Value.int .u64 y15)]), (b2, [nilSl.v, (VI 0)]), (b1, [s20.v])]) rfl (fun h14 hf8 hL14 => ?_)
  refine uop_loc siz54 hL14 1 rfl 0 [s20b.v, (VI s20c)] rfl rfl rfl (Nat.le_of_ble_eq_true rfl) (L' := [(b3, [y13.v, (VI y14), (Value.int .u64 y15)]), (b2, [s20b.v, (VI s20c)]), (b1, [s20.v])]) rfl (fun h15 hf9 hL15 => ?_)
  refine rop_locA agg26 hL15 2 rfl 0 (vs := [s20.v]) rfl rfl ?_
  refine rop_locA agg54 hL15 1 rfl 0 (vs := [s20b.v, (VI s20c)]) rfl rfl ?_
  have H := H  h15  (Fr.old (Fr.old (Fr.r (In []) _) hf8) hf9) hL15
  exact H
def u30 (P : Program) (g0_1 : Sl) (w1_1 : Sl) (w1_2 : Int) (h : Heap) (K : Value -> Heap -> Prop) : Prop :=
 ∀ (b1 : Nat) (b2 : Nat) (h2 : Heap), h.size ≤ b1 -> h.size ≤ b2 -> Fr (In []) h h2 -> Vars h2 [(b2, [w1_1.v, (VI w1_2)]), (b1, [g0_1.v])] ->
 callM P 84 #[(.agg #[g0_1.v]), (.agg #[w1_1.v, (VI w1_2)])] h2 fun r1 h3 => ∃ s9 : Bool, r1 = (VB s9) /\ Vars h3 [(b2, [w1_1.v, (VI w1_2)]), (b1, [g0_1.v])] /\
 ((!s9) = true ->
 K (.tuple #[(VI 0), (VI 0), (VB false)]) h3) /\
 ((!s9) = false ->
 callM P 85 #[(.agg #[g0_1.v]), (.agg #[w1_1.v, (VI w1_2)])] h3 fun r2 h4 => ∃ s13 : Int, ∃ s13b : Int, ∃ s13c : Bool, r2 = (.tuple #[(VI s13), (VI s13b), (VB s13c)]) /\ Vars h4 [(b2, [w1_1.v, (VI w1_2)]), (b1, [g0_1.v])] /\
 K (.tuple #[(VI s13), (VI s13b), (VB s13c)]) h4)
theorem v30 (g0_1 : Sl) (w1_1 : Sl) (w1_2 : Int) (h : Heap) (K : Value -> Heap -> Prop) (H : u30 Tryz.prog g0_1 w1_1 w1_2 h K) : callM Tryz.prog 30 #[(Value.agg #[g0_1.v]), (Value.agg #[w1_1.v, (VI w1_2)])] h K := by
  refine c30 (Value.agg #[g0_1.v]) (Value.agg #[w1_1.v, (VI w1_2)]) h K ?_
  unfold u30 at H
  unfold t30
  have hL : Vars h [] := .nil
  refine eop_box 26 (Value.agg #[g0_1.v]) rfl hL (fun b1 h1 hb1 hf1 hL1 => ?_)
  refine eop_box 54 (Value.agg #[w1_1.v, (VI w1_2)]) rfl hL1 (fun b2 h2 hb2 hf2 hL2 => ?_)
  refine rop_locA agg26 hL2 1 rfl 0 (vs := [g0_1.v]) rfl rfl ?_
  refine rop_locA agg54 hL2 0 rfl 0 (vs := [w1_1.v, (VI w1_2)]) rfl rfl ?_
  have H := H b1 b2 h2 hb1 (Nat.le_trans (Fr.size (Fr.no' (Fr.r (In []) _) hf1)) hb2) (Fr.no' (Fr.no' (Fr.r (In []) _) hf1) hf2) hL2
  refine H.mono fun r1 h3 H => ?_
  obtain ⟨s9, rfl, hL3, H⟩ := H
  refine pop_not s9 ?_
  refine condM_b (fun hb3 => ?_) (fun hb3 => ?_)
  ·exact H.1 hb3
  have H := H.2 hb3
  refine rop_locA agg26 hL3 1 rfl 0 (vs := [g0_1.v]) rfl rfl ?_
  refine rop_locA agg54 hL3 0 rfl 0 (vs := [w1_1.v, (VI w1_2)]) rfl rfl ?_
  refine H.mono fun r2 h4 H => ?_
  obtain ⟨s13, s13b, s13c, rfl, hL4, H⟩ := H
  refine pop_ext (v := (VI s13)) rfl ?_
  refine pop_ext (v := (VI s13b)) rfl ?_
  refine pop_ext (v := (VB s13c)) rfl ?_
  exact H
def u31 (P : Program) (g0_1 : Sl) (w1_1 : Sl) (w1_2 : Int) (h : Heap) (K : Value -> Heap -> Prop) : Prop :=
 ∀ (b1 : Nat) (b2 : Nat) (h2 : Heap), h.size ≤ b1 -> h.size ≤ b2 -> Fr (In []) h h2 -> Vars h2 [(b2, [w1_1.v, (VI w1_2)]), (b1, [g0_1.v])] ->
 callM P 73 #[(.agg #[g0_1.v]), (.agg #[w1_1.v, (VI w1_2)])] h2 fun r1 h3 => ∃ s12 : Bool, r1 = (VB s12) /\ Vars h3 [(b2, [w1_1.v, (VI w1_2)]), (b1, [g0_1.v])] /\
 ((!s12) = true ->
 K (.tuple #[(VI 0), (VI 0), (VB false)]) h3) /\
 ((!s12) = false ->
 callM P 86 #[(.agg #[g0_1.v]), (.agg #[w1_1.v, (VI w1_2)])] h3 fun r2 h4 => ∃ s17 : Int, ∃ s17b : Sl, ∃ s17c : Int, ∃ s17d : Int, r2 = (.tuple #[(VI s17), (.agg #[s17b.v, (VI s17c)]), (VI s17d)]) /\ Vars h4 [(b2, [w1_1.v, (VI w1_2)]), (b1, [g0_1.v])] /\
 ((decide (s17d = 0)) = true ->
 ∀ (b3 : Nat) (h6 : Heap), h4.size ≤ b3 -> Fr (In []) h4 h6 -> Vars h6 [(b3, [s17b.v, (VI s17c)]), (b2, [w1_1.v, (VI w1_2)]), (b1, [g0_1.v])] ->
 K (.tuple #[(VI 0), (VI 0), (VB false)]) h6) /\
 ((decide (s17d = 0)) = false ->
 ∀ (b3 : Nat) (h6 : Heap), h4.size ≤ b3 -> Fr (In []) h4 h6 -> Vars h6 [(b3, [s17b.v, (VI s17c)]), (b2, [w1_1.v, (VI w1_2)]), (b1, [g0_1.v])] ->
 K (.tuple #[(VI s17), (VI s17d), (VB true)]) h6))
theorem v31 (g0_1 : Sl) (w1_1 : Sl) (w1_2 : Int) (h : Heap) (K : Value -> Heap -> Prop) (H : u31 Tryz.prog g0_1 w1_1 w1_2 h K) : callM Tryz.prog 31 #[(Value.agg #[g0_1.v]), (Value.agg #[w1_1.v, (VI w1_2)])] h K := by
  refine c31 (Value.agg #[g0_1.v]) (Value.agg #[w1_1.v, (VI w1_2)]) h K ?_
  unfold u31 at H
  unfold t31
  have hL : Vars h [] := .nil
  refine eop_box 26 (Value.agg #[g0_1.v]) rfl hL (fun b1 h1 hb1 hf1 hL1 => ?_)
  refine eop_box 54 (Value.agg #[w1_1.v, (VI w1_2)]) rfl hL1 (fun b2 h2 hb2 hf2 hL2 => ?_)
  refine rop_locA agg26 hL2 1 rfl 0 (vs := [g0_1.v]) rfl rfl ?_
  refine rop_locA agg54 hL2 0 rfl 0 (vs := [w1_1.v, (VI w1_2)]) rfl rfl ?_
  have H := H b1 b2 h2 hb1 (Nat.le_trans (Fr.size (Fr.no' (Fr.r (In []) _) hf1)) hb2) (Fr.no' (Fr.no' (Fr.r (In []) _) hf1) hf2) hL2
  refine H.mono fun r1 h3 H => ?_
  obtain ⟨s12, rfl, hL3, H⟩ := H
  refine pop_not s12 ?_
  refine condM_b (fun hb3 => ?_) (fun hb3 => ?_)
  ·exact H.1 hb3
  have H := H.2 hb3
  refine rop_locA agg26 hL3 1 rfl 0 (vs := [g0_1.v]) rfl rfl ?_
  refine rop_locA agg54 hL3 0 rfl 0 (vs := [w1_1.v, (VI w1_2)]) rfl rfl ?_
  refine H.mono fun r2 h4 H => ?_
  obtain ⟨s17, s17b, s17c, s17d, rfl, hL4, H⟩ := H
  refine pop_ext (v := (VI s17)) rfl ?_
  refine pop_ext (v := (Value.agg #[s17b.v, (VI s17c)])) rfl ?_
  refine pop_ext (v := (VI s17d)) rfl ?_
  refine eop_alloc 54 zer54 rfl hL4 (fun b3 h5 hb4 hf3 hL5 => ?_)
  refine uop_loc siz54 hL5 0 rfl 0 [s17b.v, (VI s17c)] rfl rfl rfl (Nat.le_of_ble_eq_true rfl) (L' := [(b3, [s17b.v, (VI s17c)]), (b2, [w1_1.v, (VI w1_2)]), (b1, [g0_1.v])]) rfl (fun h6 hf4 hL6 => ?_)
  refine pop_ieq .i64 _ _ s17d 0 ?_
  refine condM_b (fun hb5 => ?_) (fun hb5 => ?_)
  ·have H := H.1 hb5
   have H := H b3 h6 hb4 (Fr.new (Fr.no' (Fr.r (In []) _) hf3) hb4 hf4) hL6
   exact H
  have H := H.2 hb5
  have H := H b3 h6 hb4 (Fr.new (Fr.no' (Fr.r (In []) _) hf3) hb4 hf4) hL6
  exact H
def u32 (P : Program) (g0_1 : Sl) (w1_1 : Sl) (w1_2 : Int) (h : Heap) (K : Value -> Heap -> Prop) : Prop :=
 ∀ (b1 : Nat) (b2 : Nat) (h2 : Heap), h.size ≤ b1 -> h.size ≤ b2 -> Fr (In []) h h2 -> Vars h2 [(b2, [w1_1.v, (VI w1_2)]), (b1, [g0_1.v])] ->
 callM P 84 #[(.agg #[g0_1.v]), (.agg #[w1_1.v, (VI w1_2)])] h2 fun r1 h3 => ∃ s10 : Bool, r1 = (VB s10) /\ Vars h3 [(b2, [w1_1.v, (VI w1_2)]), (b1, [g0_1.v])] /\
 ((!s10) = true ->
 K (.tuple #[(VB false), (VB false)]) h3) /\
 ((!s10) = false ->
 callM P 87 #[(.agg #[g0_1.v]), (.agg #[w1_1.v, (VI w1_2)]), (VI 1), (Value.func (Fn.func 88) #[(.agg #[w1_1.v, (VI w1_2)])] #[])] h3 fun r2 h4 => ∃ s17 : Int, ∃ s17b : Bool, r2 = (.tuple #[(VI s17), (VB s17b)]) /\ Vars h4 [(b2, [w1_1.v, (VI w1_2)]), (b1, [g0_1.v])] /\
 K (.tuple #[(VB s17b), (VB true)]) h4)
theorem v32 (g0_1 : Sl) (w1_1 : Sl) (w1_2 : Int) (h : Heap) (K : Value -> Heap -> Prop) (H : u32 Tryz.prog g0_1 w1_1 w1_2 h K) : callM Tryz.prog 32 #[(Value.agg #[g0_1.v]), (Value.agg #[w1_1.v, (VI w1_2)])] h K := by
  refine c32 (Value.agg #[g0_1.v]) (Value.agg #[w1_1.v, (VI w1_2)]) h K ?_
  unfold u32 at H
  unfold t32
  have hL : Vars h [] := .nil
  refine eop_box 26 (Value.agg #[g0_1.v]) rfl hL (fun b1 h1 hb1 hf1 hL1 => ?_)
  refine eop_box 54 (Value.agg #[w1_1.v, (VI w1_2)]) rfl hL1 (fun b2 h2 hb2 hf2 hL2 => ?_)
  refine rop_locA agg26 hL2 1 rfl 0 (vs := [g0_1.v]) rfl rfl ?_
  refine rop_locA agg54 hL2 0 rfl 0 (vs := [w1_1.v, (VI w1_2)]) rfl rfl ?_
  have H := H b1 b2 h2 hb1 (Nat.le_trans (Fr.size (Fr.no' (Fr.r (In []) _) hf1)) hb2) (Fr.no' (Fr.no' (Fr.r (In []) _) hf1) hf2) hL2
  refine H.mono fun r1 h3 H => ?_
  obtain ⟨s10, rfl, hL3, H⟩ := H
  refine pop_not s10 ?_
  refine condM_b (fun hb3 => ?_) (fun hb3 => ?_)
  ·exact H.1 hb3
  have H := H.2 hb3
  refine rop_locA agg26 hL3 1 rfl 0 (vs := [g0_1.v]) rfl rfl ?_
  refine rop_locA agg54 hL3 0 rfl 0 (vs := [w1_1.v, (VI w1_2)]) rfl rfl ?_
  refine rop_locA agg54 hL3 0 rfl 0 (vs := [w1_1.v, (VI w1_2)]) rfl rfl ?_
  refine pop_func _ _ _ ?_
  refine H.mono fun r2 h4 H => ?_
  obtain ⟨s17, s17b, rfl, hL4, H⟩ := H
  refine pop_ext (v := (VI s17)) rfl ?_
  refine pop_ext (v := (VB s17b)) rfl ?_
  exact H
def u33 (P : Program) (g0_1 : Sl) (w1_1 : Sl) (w1_2 : Int) (h : Heap) (K : Value -> Heap -> Prop) : Prop :=
 ∀ (b1 : Nat) (b2 : Nat) (h2 : Heap), h.size ≤ b1 -> h.size ≤ b2 -> Fr (In []) h h2 -> Vars h2 [(b2, [w1_1.v, (VI w1_2)]), (b1, [g0_1.v])] ->
 callM P 73 #[(.agg #[g0_1.v]), (.agg #[w1_1.v, (VI w1_2)])] h2 fun r1 h3 => ∃ s8 : Bool, r1 = (VB s8) /\ Vars h3 [(b2, [w1_1.v, (VI w1_2)]), (b1, [g0_1.v])] /\
 ((!s8) = true ->
 K (.tuple #[(VB false), (VB false)]) h3) /\
 ((!s8) = false ->
 callM P 89 #[(.agg #[g0_1.v]), (.agg #[w1_1.v, (VI w1_2)]), (VI 2000)] h3 fun r2 h4 => ∃ s12 : Int, r2 = (VI s12) /\ Vars h4 [(b2, [w1_1.v, (VI w1_2)]), (b1, [g0_1.v])] /\
 K (.tuple #[(VB (decide (0 < s12))), (VB true)]) h4)
theorem v33 (g0_1 : Sl) (w1_1 : Sl) (w1_2 : Int) (h : Heap) (K : Value -> Heap -> Prop) (H : u33 Tryz.prog g0_1 w1_1 w1_2 h K) : callM Tryz.prog 33 #[(Value.agg #[g0_1.v]), (Value.agg #[w1_1.v, (VI w1_2)])] h K := by
  refine c33 (Value.agg #[g0_1.v]) (Value.agg #[w1_1.v, (VI w1_2)]) h K ?_
  unfold u33 at H
  unfold t33
  have hL : Vars h [] := .nil
  refine eop_box 26 (Value.agg #[g0_1.v]) rfl hL (fun b1 h1 hb1 hf1 hL1 => ?_)
  refine eop_box 54 (Value.agg #[w1_1.v, (VI w1_2)]) rfl hL1 (fun b2 h2 hb2 hf2 hL2 => ?_)
  refine rop_locA agg26 hL2 1 rfl 0 (vs := [g0_1.v]) rfl rfl ?_
  refine rop_locA agg54 hL2 0 rfl 0 (vs := [w1_1.v, (VI w1_2)]) rfl rfl ?_
  have H := H b1 b2 h2 hb1 (Nat.le_trans (Fr.size (Fr.no' (Fr.r (In []) _) hf1)) hb2) (Fr.no' (Fr.no' (Fr.r (In []) _) hf1) hf2) hL2
  refine H.mono fun r1 h3 H => ?_
  obtain ⟨s8, rfl, hL3, H⟩ := H
  refine pop_not s8 ?_
  refine condM_b (fun hb3 => ?_) (fun hb3 => ?_)
  ·exact H.1 hb3
  have H := H.2 hb3
  refine rop_locA agg26 hL3 1 rfl 0 (vs := [g0_1.v]) rfl rfl ?_
  refine rop_locA agg54 hL3 0 rfl 0 (vs := [w1_1.v, (VI w1_2)]) rfl rfl ?_
  refine H.mono fun r2 h4 H => ?_
  obtain ⟨s12, rfl, hL4, H⟩ := H
  refine pop_gtr .i64 s12 0 ?_
  exact H
def u34 (P : Program) (g0_1 : Sl) (w1_1 : Sl) (w1_2 : Int) (n2_1 : Int) (h : Heap) (K : Value -> Heap -> Prop) : Prop :=
 ∀ (b1 : Nat) (b2 : Nat) (b3 : Nat) (h3 : Heap), h.size ≤ b1 -> h.size ≤ b2 -> h.size ≤ b3 -> Fr (In []) h h3 -> Vars h3 [(b3, [nilSl.v, (VI 0)]), (b2, [w1_1.v, (VI w1_2)]), (b1, [g0_1.v])] ->
 callM P 90 #[(.agg #[g0_1.v]), (.agg #[w1_1.v, (VI w1_2)]), (VI n2_1), (VI 2000)] h3 fun r1 h4 => ∃ s12 : Bool, r1 = (VB s12) /\ Vars h4 [(b3, [nilSl.v, (VI 0)]), (b2, [w1_1.v, (VI w1_2)]), (b1, [g0_1.v])] /\
 ((!s12) = true ->
 ∀ (h5 : Heap), Fr (In [b3]) h4 h5 -> Vars h5 [(b3, [nilSl.v, (VI 0)]), (b2, [w1_1.v, (VI w1_2)]), (b1, [g0_1.v])] ->
 K (.tuple #[(.agg #[nilSl.v, (VI 0)]), (VB false)]) h5) /\
 ((!s12) = false ->
 callM P 91 #[(.agg #[w1_1.v, (VI w1_2)])] h4 fun r2 h6 => ∃ s16 : Sl, ∃ s16b : Int, r2 = (.agg #[s16.v, (VI s16b)]) /\ Vars h6 [(b3, [nilSl.v, (VI 0)]), (b2, [w1_1.v, (VI w1_2)]), (b1, [g0_1.v])] /\
 ∀ (b4 : Nat) (h8 : Heap), h6.size ≤ b4 -> Fr (In []) h6 h8 -> Vars h8 [(b4, [s16.v, (VI s16b)]), (b3, [nilSl.v, (VI 0)]), (b2, [w1_1.v, (VI w1_2)]), (b1, [g0_1.v])] ->
 callM P 92 #[(.agg #[g0_1.v]), (VP b4 0), (VI n2_1), (Value.func (.func 93) #[] #[])] h8 fun r3 h9 => ∃ y1 : Sl, ∃ y2 : Int, ∃ s19 : Bool, r3 = (VB s19) /\ Vars h9 [(b4, [y1.v, (VI y2)]), (b3, [nilSl.v, (VI 0)]), (b2, [w1_1.v, (VI w1_2)]), (b1, [g0_1.v])] /\
 ((!s19) = true ->
 ∀ (h10 : Heap), Fr (In [b3]) h9 h10 -> Vars h10 [(b4, [y1.v, (VI y2)]), (b3, [nilSl.v, (VI 0)]), (b2, [w1_1.v, (VI w1_2)]), (b1, [g0_1.v])] ->
 K (.tuple #[(.agg #[nilSl.v, (VI 0)]), (VB false)]) h10) /\
 ((!s19) = false ->
 ∀ (h11 : Heap), Fr (In [b3]) h9 h11 -> Vars h11 [(b4, [y1.v, (VI y2)]), (b3, [y1.v, (VI y2)]), (b2, [w1_1.v, (VI w1_2)]), (b1, [g0_1.v])] ->
 K (.tuple #[(.agg #[y1.v, (VI y2)]), (VB true)]) h11))
theorem v34 (g0_1 : Sl) (w1_1 : Sl) (w1_2 : Int) (n2_1 : Int) (h : Heap) (K : Value -> Heap -> Prop) (H : u34 Tryz.prog g0_1 w1_1 w1_2 n2_1 h K) : callM Tryz.prog 34 #[(Value.agg #[g0_1.v]), (Value.agg #[w1_1.v, (VI w1_2)]), (VI n2_1)] h K := by
  refine c34 (Value.agg #[g0_1.v]) (Value.agg #[w1_1.v, (VI w1_2)]) (VI n2_1) h K ?_
  unfold u34 at H
  unfold t34
  have hL : Vars h [] := .nil
  refine eop_box 26 (Value.agg #[g0_1.v]) rfl hL (fun b1 h1 hb1 hf1 hL1 => ?_)
  refine eop_box 54 (Value.agg #[w1_1.v, (VI w1_2)]) rfl hL1 (fun b2 h2 hb2 hf2 hL2 => ?_)
  refine eop_alloc 54 zer54 rfl hL2 (fun b3 h3 hb3 hf3 hL3 => ?_)
  refine rop_locA agg26 hL3 2 rfl 0 (vs := [g0_1.v]) rfl rfl ?_
  refine rop_locA agg54 hL3 1 rfl 0 (vs := [w1_1.v, (VI w1_2)]) rfl rfl ?_
  have H := H b1 b2 b3 h3 hb1 (Nat.le_trans (Fr.size (Fr.no' (Fr.r (In []) _) hf1)) hb2) (Nat.le_trans (Fr.size (Fr.no' (Fr.no' (Fr.r (In []) _) hf1) hf2)) hb3) (Fr.no' (Fr.no' (Fr.no' (Fr.r (In []) _) hf1) hf2) hf3) hL3
  refine H.mono fun r1 h4 H => ?_
  obtain ⟨s12, rfl, hL4, H⟩ := H
  refine pop_not s12 ?_
  refine condM_b (fun hb4 => ?_) (fun hb4 => ?_)
  ·have H := H.1 hb4
   refine pop.mk' (v := (Value.agg #[nilSl.v, (VI 0)])) (fun w => by kernel_rfl) ?_
   refine uop_loc siz54 hL4 0 rfl 0 [nilSl.v, (VI 0)] rfl rfl rfl (Nat.le_of_ble_eq_true rfl) (L' := [(b3, [nilSl.v, (VI 0)]), (b2, [w1_1.v, (VI w1_2)]), (b1, [g0_1.v])]) rfl (fun h5 hf4 hL5 => ?_)
   refine rop_locA agg54 hL5 0 rfl 0 (vs := [nilSl.v, (VI 0)]) rfl rfl ?_
   have H := H  h5  (Fr.old (Fr.r (In []) _) hf4) hL5
   exact H
  have H := H.2 hb4
  refine rop_locA agg54 hL4 1 rfl 0 (vs := [w1_1.v, (VI w1_2)]) rfl rfl ?_
  refine H.mono fun r2 h6 H => ?_
  obtain ⟨s16, s16b, rfl, hL6, H⟩ := H
  refine eop_alloc 54 zer54 rfl hL6 (fun b4 h7 hb5 hf5 hL7 => ?_)
  refine uop_loc siz54 hL7 0 rfl 0 [s16.v, (VI s16b)] rfl rfl rfl (Nat.le_of_ble_eq_true rfl) (L' := [(b4, [s16.v, (VI s16b)]), (b3, [nilSl.v, (VI 0)]), (b2, [w1_1.v, (VI w1_2)]), (b1, [g0_1.v])]) rfl (fun h8 hf6 hL8 => ?_)
  refine rop_locA agg26 hL8 3 rfl 0 (vs := [g0_1.v]) rfl rfl ?_
  have H := H b4 h8 hb5 (Fr.new (Fr.no' (Fr.r (In []) _) hf5) hb5 hf6) hL8
  refine H.mono fun r3 h9 H => ?_
  obtain ⟨y1, y2, s19, rfl, hL9, H⟩ := H
  refine pop_not s19 ?_
  refine condM_b (fun hb6 => ?_) (fun hb6 => ?_)
  ·have H := H.1 hb6
   refine pop.mk' (v := (Value.agg #[nilSl.v, (VI 0)])) (fun w => by kernel_rfl) ?_
   refine uop_loc siz54 hL9 1 rfl 0 [nilSl.v, (VI 0)] rfl rfl rfl (Nat.le_of_ble_eq_true rfl) (L' := [(b4, [y1.v, (VI y2)]), (b3, [nilSl.v, (VI 0)]), (b2, [w1_1.v, (VI w1_2)]), (b1, [g0_1.v])]) rfl (fun h10 hf7 hL10 => ?_)
   refine rop_locA agg54 hL10 1 rfl 0 (vs := [nilSl.v, (VI 0)]) rfl rfl ?_
   have H := H  h10  (Fr.old (Fr.r (In []) _) hf7) hL10
   exact H
  have H := H.2 hb6
  refine rop_locA agg54 hL9 0 rfl 0 (vs := [y1.v, (VI y2)]) rfl rfl ?_
  refine uop_loc siz54 hL9 1 rfl 0 [y1.v, (VI y2)] rfl rfl rfl (Nat.le_of_ble_eq_true rfl) (L' := [(b4, [y1.v, (VI y2)]), (b3, [y1.v, (VI y2)]), (b2, [w1_1.v, (VI w1_2)]), (b1, [g0_1.v])]) rfl (fun h11 hf8 hL11 => ?_)
  refine rop_locA agg54 hL11 1 rfl 0 (vs := [y1.v, (VI y2)]) rfl rfl ?_
  have H := H  h11  (Fr.old (Fr.r (In []) _) hf8) hL11
  exact H
def u35 (P : Program) (g0_1 : Sl) (h : Heap) (K : Value -> Heap -> Prop) : Prop :=
 ∀ (b1 : Nat) (h1 : Heap), h.size ≤ b1 -> Fr (In []) h h1 -> Vars h1 [(b1, [g0_1.v])] ->
 callM P 94 #[(.agg #[g0_1.v])] h1 fun r1 h2 => ∃ s5 : Bool, r1 = (VB s5) /\ Vars h2 [(b1, [g0_1.v])] /\
 ((!s5) = true ->
 K (.tuple #[(VB false), (VB false)]) h2) /\
 ((!s5) = false ->
 callM P 95 #[(.agg #[g0_1.v])] h2 fun r2 h3 => ∃ s8 : Bool, r2 = (VB s8) /\ Vars h3 [(b1, [g0_1.v])] /\
 K (.tuple #[(VB s8), (VB true)]) h3)
theorem v35 (g0_1 : Sl) (h : Heap) (K : Value -> Heap -> Prop) (H : u35 Tryz.prog g0_1 h K) : callM Tryz.prog 35 #[(Value.agg #[g0_1.v])] h K := by
  refine c35 (Value.agg #[g0_1.v]) h K ?_
  unfold u35 at H
  unfold t35
  have hL : Vars h [] := .nil
  refine eop_box 26 (Value.agg #[g0_1.v]) rfl hL (fun b1 h1 hb1 hf1 hL1 => ?_)
  refine rop_locA agg26 hL1 0 rfl 0 (vs := [g0_1.v]) rfl rfl ?_
  have H := H b1 h1 hb1 (Fr.no' (Fr.r (In []) _) hf1) hL1
  refine H.mono fun r1 h2 H => ?_
  obtain ⟨s5, rfl, hL2, H⟩ := H
  refine pop_not s5 ?_
  refine condM_b (fun hb2 => ?_) (fun hb2 => ?_)
  ·exact H.1 hb2
  have H := H.2 hb2
  refine rop_locA agg26 hL2 0 rfl 0 (vs := [g0_1.v]) rfl rfl ?_
  refine H.mono fun r2 h3 H => ?_
  obtain ⟨s8, rfl, hL3, H⟩ := H
  exact H
def u36 (P : Program) (g0_1 : Sl) (h : Heap) (K : Value -> Heap -> Prop) : Prop :=
 ∀ (b1 : Nat) (h1 : Heap), h.size ≤ b1 -> Fr (In []) h h1 -> Vars h1 [(b1, [g0_1.v])] ->
 callM P 94 #[(.agg #[g0_1.v])] h1 fun r1 h2 => ∃ s5 : Bool, r1 = (VB s5) /\ Vars h2 [(b1, [g0_1.v])] /\
 ((!s5) = true ->
 K (.tuple #[(VB false), (VB false)]) h2) /\
 ((!s5) = false ->
 callM P 96 #[(.agg #[g0_1.v])] h2 fun r2 h3 => ∃ s8 : Bool, r2 = (VB s8) /\ Vars h3 [(b1, [g0_1.v])] /\
 K (.tuple #[(VB s8), (VB true)]) h3)
theorem v36 (g0_1 : Sl) (h : Heap) (K : Value -> Heap -> Prop) (H : u36 Tryz.prog g0_1 h K) : callM Tryz.prog 36 #[(Value.agg #[g0_1.v])] h K := by
  refine c36 (Value.agg #[g0_1.v]) h K ?_
  unfold u36 at H
  unfold t36
  have hL : Vars h [] := .nil
  refine eop_box 26 (Value.agg #[g0_1.v]) rfl hL (fun b1 h1 hb1 hf1 hL1 => ?_)
  refine rop_locA agg26 hL1 0 rfl 0 (vs := [g0_1.v]) rfl rfl ?_
  have H := H b1 h1 hb1 (Fr.no' (Fr.r (In []) _) hf1) hL1
  refine H.mono fun r1 h2 H => ?_
  obtain ⟨s5, rfl, hL2, H⟩ := H
  refine pop_not s5 ?_
  refine condM_b (fun hb2 => ?_) (fun hb2 => ?_)
  ·exact H.1 hb2
  have H := H.2 hb2
  refine rop_locA agg26 hL2 0 rfl 0 (vs := [g0_1.v]) rfl rfl ?_
  refine H.mono fun r2 h3 H => ?_
  obtain ⟨s8, rfl, hL3, H⟩ := H
  exact H
def u37 (P : Program) (g0_1 : Sl) (h : Heap) (K : Value -> Heap -> Prop) : Prop :=
 ∀ (b1 : Nat) (h1 : Heap), h.size ≤ b1 -> Fr (In []) h h1 -> Vars h1 [(b1, [g0_1.v])] ->
 callM P 94 #[(.agg #[g0_1.v])] h1 fun r1 h2 => ∃ s5 : Bool, r1 = (VB s5) /\ Vars h2 [(b1, [g0_1.v])] /\
 ((!s5) = true ->
 K (.tuple #[(VI 0), (VB false)]) h2) /\
 ((!s5) = false ->
 callM P 97 #[g0_1.v] h2 fun r2 h3 => ∃ s9 : Sl, r2 = s9.v /\ Vars h3 [(b1, [g0_1.v])] /\
 K (.tuple #[(VI (s9.n : Int)), (VB true)]) h3)
theorem v37 (g0_1 : Sl) (h : Heap) (K : Value -> Heap -> Prop) (H : u37 Tryz.prog g0_1 h K) : callM Tryz.prog 37 #[(Value.agg #[g0_1.v])] h K := by
  refine c37 (Value.agg #[g0_1.v]) h K ?_
  unfold u37 at H
  unfold t37
  have hL : Vars h [] := .nil
  refine eop_box 26 (Value.agg #[g0_1.v]) rfl hL (fun b1 h1 hb1 hf1 hL1 => ?_)
  refine rop_locA agg26 hL1 0 rfl 0 (vs := [g0_1.v]) rfl rfl ?_
  have H := H b1 h1 hb1 (Fr.no' (Fr.r (In []) _) hf1) hL1
  refine H.mono fun r1 h2 H => ?_
  obtain ⟨s5, rfl, hL2, H⟩ := H
  refine pop_not s5 ?_
  refine condM_b (fun hb2 => ?_) (fun hb2 => ?_)
  ·exact H.1 hb2
  have H := H.2 hb2
  refine pop_field 0 fld26_0 b1 0 ?_
  refine rop_loc one24 hL2 0 rfl 0 (v := g0_1.v) rfl ?_
  refine H.mono fun r2 h3 H => ?_
  obtain ⟨s9, rfl, hL3, H⟩ := H
  refine pop_len s9 _ _ sli33 ?_
  exact H
def u38 (P : Program) (a0_1 : Sl) (a0_2 : Int) (b1_1 : Sl) (b1_2 : Int) (h : Heap) (K : Value -> Heap -> Prop) : Prop :=
 ((decide (a0_2 = b1_2)) = true ->
 ∀ (b1 : Nat) (b2 : Nat) (h2 : Heap), h.size ≤ b1 -> h.size ≤ b2 -> Fr (In []) h h2 -> Vars h2 [(b2, [b1_1.v, (VI b1_2)]), (b1, [a0_1.v, (VI a0_2)])] ->
 callM P 16 #[a0_1.v, b1_1.v] h2 fun r1 h3 => ∃ s15 : Bool, r1 = (VB s15) /\ Vars h3 [(b2, [b1_1.v, (VI b1_2)]), (b1, [a0_1.v, (VI a0_2)])] /\
 K (VB s15) h3) /\
 ((decide (a0_2 = b1_2)) = false ->
 ∀ (b1 : Nat) (b2 : Nat) (h2 : Heap), h.size ≤ b1 -> h.size ≤ b2 -> Fr (In []) h h2 -> Vars h2 [(b2, [b1_1.v, (VI b1_2)]), (b1, [a0_1.v, (VI a0_2)])] ->
 K (VB false) h2)
theorem v38 (a0_1 : Sl) (a0_2 : Int) (b1_1 : Sl) (b1_2 : Int) (h : Heap) (K : Value -> Heap -> Prop) (H : u38 Tryz.prog a0_1 a0_2 b1_1 b1_2 h K) : callM Tryz.prog 38 #[(Value.agg #[a0_1.v, (VI a0_2)]), (Value.agg #[b1_1.v, (VI b1_2)])] h K := by
  refine c38 (Value.agg #[a0_1.v, (VI a0_2)]) (Value.agg #[b1_1.v, (VI b1_2)]) h K ?_
  unfold u38 at H
  unfold t38
  have hL : Vars h [] := .nil
  refine eop_box 54 (Value.agg #[a0_1.v, (VI a0_2)]) rfl hL (fun b1 h1 hb1 hf1 hL1 => ?_)
  refine eop_box 54 (Value.agg #[b1_1.v, (VI b1_2)]) rfl hL1 (fun b2 h2 hb2 hf2 hL2 => ?_)
  refine pop_field 1 fld54_1 b1 0 ?_
  refine rop_loc one3 hL2 1 rfl 1 (v := (VI a0_2)) rfl ?_
  refine pop_field 1 fld54_1 b2 0 ?_
  refine rop_loc one3 hL2 0 rfl 1 (v := (VI b1_2)) rfl ?_
  refine pop_ieq .i64 _ _ a0_2 b1_2 ?_
  refine guardM_st (fun hb3 => ?_) (fun hb3 => ?_)
  rotate_left
  ·have H := H.2 hb3
   refine guardM_n' hb3 (by decide) ?_
   refine guardM_n' hb3 (by decide) ?_
   refine guardM_n' hb3 (by decide) ?_
   refine guardM_n' hb3 (by decide) ?_
   refine pop_pickf' hb3 ?_
   have H := H b1 b2 h2 hb1 (Nat.le_trans (Fr.size (Fr.no' (Fr.r (In []) _) hf1)) hb2) (Fr.no' (Fr.no' (Fr.r (In []) _) hf1) hf2) hL2
   exact H
  have H := H.1 hb3
  refine pop_field 0 fld54_0 b1 0 ?_
  refine guardM_y' hb3 ?_
  refine rop_loc one33 hL2 1 rfl 0 (v := a0_1.v) rfl ?_
  refine guardM_y' hb3 ?_
  refine pop_field 0 fld54_0 b2 0 ?_
  refine guardM_y' hb3 ?_
  refine rop_loc one33 hL2 0 rfl 0 (v := b1_1.v) rfl ?_
  refine guardM_y' hb3 ?_
  have H := H b1 b2 h2 hb1 (Nat.le_trans (Fr.size (Fr.no' (Fr.r (In []) _) hf1)) hb2) (Fr.no' (Fr.no' (Fr.r (In []) _) hf1) hf2) hL2
  refine H.mono fun r1 h3 H => ?_
  obtain ⟨s15, rfl, hL3, H⟩ := H
  refine pop_pickt' hb3 ?_
  exact H
def u39 (P : Program) (g0_1 : Sl) (w1_1 : Sl) (w1_2 : Int) (h : Heap) (K : Value -> Heap -> Prop) : Prop :=
 ∀ (b1 : Nat) (b2 : Nat) (h2 : Heap), h.size ≤ b1 -> h.size ≤ b2 -> Fr (In []) h h2 -> Vars h2 [(b2, [w1_1.v, (VI w1_2)]), (b1, [g0_1.v])] ->
 callM P 84 #[(.agg #[g0_1.v]), (.agg #[w1_1.v, (VI w1_2)])] h2 fun r1 h3 => ∃ s8 : Bool, r1 = (VB s8) /\ Vars h3 [(b2, [w1_1.v, (VI w1_2)]), (b1, [g0_1.v])] /\
 ((!s8) = true ->
 K (.tuple #[(VB false), (VB false)]) h3) /\
 ((!s8) = false ->
 callM P 98 #[(.agg #[g0_1.v]), (.agg #[w1_1.v, (VI w1_2)])] h3 fun r2 h4 => ∃ s12 : Bool, r2 = (VB s12) /\ Vars h4 [(b2, [w1_1.v, (VI w1_2)]), (b1, [g0_1.v])] /\
 K (.tuple #[(VB s12), (VB true)]) h4)
theorem v39 (g0_1 : Sl) (w1_1 : Sl) (w1_2 : Int) (h : Heap) (K : Value -> Heap -> Prop) (H : u39 Tryz.prog g0_1 w1_1 w1_2 h K) : callM Tryz.prog 39 #[(Value.agg #[g0_1.v]), (Value.agg #[w1_1.v, (VI w1_2)])] h K := by
  refine c39 (Value.agg #[g0_1.v]) (Value.agg #[w1_1.v, (VI w1_2)]) h K ?_
  unfold u39 at H
  unfold t39
  have hL : Vars h [] := .nil
  refine eop_box 26 (Value.agg #[g0_1.v]) rfl hL (fun b1 h1 hb1 hf1 hL1 => ?_)
  refine eop_box 54 (Value.agg #[w1_1.v, (VI w1_2)]) rfl hL1 (fun b2 h2 hb2 hf2 hL2 => ?_)
  refine rop_locA agg26 hL2 1 rfl 0 (vs := [g0_1.v]) rfl rfl ?_
  refine rop_locA agg54 hL2 0 rfl 0 (vs := [w1_1.v, (VI w1_2)]) rfl rfl ?_
  have H := H b1 b2 h2 hb1 (Nat.le_trans (Fr.size (Fr.no' (Fr.r (In []) _) hf1)) hb2) (Fr.no' (Fr.no' (Fr.r (In []) _) hf1) hf2) hL2
  refine H.mono fun r1 h3 H => ?_
  obtain ⟨s8, rfl, hL3, H⟩ := H
  refine pop_not s8 ?_
  refine condM_b (fun hb3 => ?_) (fun hb3 => ?_)
  ·exact H.1 hb3
  have H := H.2 hb3
  refine rop_locA agg26 hL3 1 rfl 0 (vs := [g0_1.v]) rfl rfl ?_
  refine rop_locA agg54 hL3 0 rfl 0 (vs := [w1_1.v, (VI w1_2)]) rfl rfl ?_
  refine H.mono fun r2 h4 H => ?_
  obtain ⟨s12, rfl, hL4, H⟩ := H
  exact H
def u40 (P : Program) (code0_1 : Sl) (h : Heap) (K : Value -> Heap -> Prop) : Prop :=
 ∀ (b1 : Nat) (b2 : Nat) (h2 : Heap), h.size ≤ b1 -> h.size ≤ b2 -> Fr (In []) h h2 -> Vars h2 [(b2, [code0_1.v, (VI 0), (Value.int .u64 0)]), (b1, [nilSl.v])] ->
 callM P 81 #[(VP b2 0)] h2 fun r1 h3 => ∃ y1 : Sl, ∃ y2 : Int, ∃ y3 : Int, ∃ s10 : Sl, r1 = (.agg #[s10.v]) /\ Vars h3 [(b2, [y1.v, (VI y2), (Value.int .u64 y3)]), (b1, [nilSl.v])] /\
 ∀ (b3 : Nat) (h5 : Heap), h3.size ≤ b3 -> Fr (In []) h3 h5 -> Vars h5 [(b3, [s10.v]), (b2, [y1.v, (VI y2), (Value.int .u64 y3)]), (b1, [nilSl.v])] ->
 callM P 61 #[(VP b2 0), (.agg #[s10.v])] h5 fun r2 h6 => ∃ y4 : Sl, ∃ y5 : Int, ∃ y6 : Int, ∃ s14 : Int, r2 = (VI s14) /\ Vars h6 [(b3, [s10.v]), (b2, [y4.v, (VI y5), (Value.int .u64 y6)]), (b1, [nilSl.v])] /\
 ∀ (h7 : Heap), Fr (In [b1]) h6 h7 -> Vars h7 [(b3, [s10.v]), (b2, [y4.v, (VI y5), (Value.int .u64 y6)]), (b1, [s10.v])] ->
 K (.tuple #[(.agg #[s10.v]), (VI s14)]) h7
theorem v40 (code0_1 : Sl) (h : Heap) (K : Value -> Heap -> Prop) (H : u40 Tryz.prog code0_1 h K) : callM Tryz.prog 40 #[code0_1.v] h K := by
  refine c40 code0_1.v h K ?_
  unfold u40 at H
  unfold t40
  have hL : Vars h [] := .nil
  refine eop_alloc 26 zer26 rfl hL (fun b1 h1 hb1 hf1 hL1 => ?_)
  refine pop.mk' (v := (Value.agg #[code0_1.v, (VI 0), (Value.int .u64 0)])) (fun w => by kernel_rfl) ?_
  refine eop_box 84 (Value.agg #[code0_1.v, (VI 0), (Value.int .u64 0)]) rfl hL1 (fun b2 h2 hb2 hf2 hL2 => ?_)
  have H := H b1 b2 h2 hb1 (Nat.le_trans (Fr.size (Fr.no' (Fr.r (In []) _) hf1)) hb2) (Fr.no' (Fr.no' (Fr.r (In []) _) hf1) hf2) hL2
  refine H.mono fun r1 h3 H => ?_
  obtain ⟨y1, y2, y3, s10, rfl, hL3, H⟩ := H
  refine eop_alloc 26 zer26 rfl hL3 (fun b3 h4 hb3 hf3 hL4 => ?_)
  refine uop_loc siz26 hL4 0 rfl 0 [s10.v] rfl rfl rfl (Nat.le_of_ble_eq_true rfl) (L' := [(b3, [s10.v]), (b2, [y1.v, (VI y2), (Value.int .u64 y3)]), (b1, [nilSl.v])]) rfl (fun h5 hf4 hL5 => ?_)
  refine rop_locA agg26 hL5 0 rfl 0 (vs := [s10.v]) rfl rfl ?_
  refine rop_locA agg26 hL5 0 rfl 0 (vs := [s10.v]) rfl rfl ?_
  have H := H b3 h5 hb3 (Fr.new (Fr.no' (Fr.r (In []) _) hf3) hb3 hf4) hL5
  refine H.mono fun r2 h6 H => ?_
  obtain ⟨y4, y5, y6, s14, rfl, hL6, H⟩ := H
  refine ⟨?_, ?_⟩
  ·exact still_locA agg26 hL6 0 rfl 0 (vs := [s10.v]) rfl rfl
  refine uop_loc siz26 hL6 2 rfl 0 [s10.v] rfl rfl rfl (Nat.le_of_ble_eq_true rfl) (L' := [(b3, [s10.v]), (b2, [y4.v, (VI y5), (Value.int .u64 y6)]), (b1, [s10.v])]) rfl (fun h7 hf5 hL7 => ?_)
  refine rop_locA agg26 hL7 2 rfl 0 (vs := [s10.v]) rfl rfl ?_
  have H := H  h7  (Fr.old (Fr.r (In []) _) hf5) hL7
  exact H
def u41 (P : Program) (g0_1 : Sl) (p1_1 : Int) (h : Heap) (K : Value -> Heap -> Prop) : Prop :=
 ∀ (b1 : Nat) (h1 : Heap), h.size ≤ b1 -> Fr (In []) h h1 -> Vars h1 [(b1, [g0_1.v])] ->
 eop P (Instr.buildSlice 33 1 #[(0, (VI p1_1))]) h1 fun r1 h2 => ∃ s14 : Sl, r1 = s14.v /\ Vars h2 [(b1, [g0_1.v])] /\
 callM P 54 #[(.agg #[g0_1.v]), s14.v] h2 fun r2 h3 => ∃ s15 : Bool, r2 = (VB s15) /\ Vars h3 [(b1, [g0_1.v])] /\
 ((!s15) = true ->
 K (.tuple #[nilSl.v, (VB false)]) h3) /\
 ((!s15) = false ->
 callM P 95 #[(.agg #[g0_1.v])] h3 fun r3 h4 => ∃ s19 : Bool, r3 = (VB s19) /\ Vars h4 [(b1, [g0_1.v])] /\
 ((!s19) = true ->
 K (.tuple #[nilSl.v, (VB false)]) h4) /\
 ((!s19) = false ->
 callM P 96 #[(.agg #[g0_1.v])] h4 fun r4 h5 => ∃ s24 : Bool, r4 = (VB s24) /\ Vars h5 [(b1, [g0_1.v])] /\
 ((!s24) = true ->
 K (.tuple #[nilSl.v, (VB false)]) h5) /\
 ((!s24) = false ->
 callM P 97 #[g0_1.v] h5 fun r5 h6 => ∃ s29 : Sl, r5 = s29.v /\ Vars h6 [(b1, [g0_1.v])] /\
 eop P (Instr.makeSlice 33 (VI (g0_1.n : Int)) (VI (g0_1.n : Int))) h6 fun r6 h7 => ∃ s34 : Sl, r6 = s34.v /\ Vars h7 [(b1, [g0_1.v])] /\
 ∀ (b2 : Nat) (h9 : Heap), h7.size ≤ b2 -> Fr (In []) h7 h9 -> Vars h9 [(b2, [s34.v, (VI p1_1)]), (b1, [g0_1.v])] ->
 callM P 85 #[(.agg #[g0_1.v]), (.agg #[s34.v, (VI p1_1)])] h9 fun r7 h10 => ∃ s40 : Int, ∃ s40b : Int, ∃ s40c : Bool, r7 = (.tuple #[(VI s40), (VI s40b), (VB s40c)]) /\ Vars h10 [(b2, [s34.v, (VI p1_1)]), (b1, [g0_1.v])] /\
 ((decide ((s29.n : Int) = 0)) = true ->
 K (.tuple #[nilSl.v, (VB false)]) h10) /\
 ((decide ((s29.n : Int) = 0)) = false ->
 ((!s40c) = true ->
 K (.tuple #[nilSl.v, (VB false)]) h10) /\
 ((!s40c) = false ->
 callM P 92 #[(.agg #[g0_1.v]), (VP b2 0), (VI s40), (Value.func (.func 99) #[] #[])] h10 fun r8 h11 => ∃ y1 : Sl, ∃ y2 : Int, ∃ s52 : Bool, r8 = (VB s52) /\ Vars h11 [(b2, [y1.v, (VI y2)]), (b1, [g0_1.v])] /\
 ∃ J1 : Nat -> Sl -> Int -> Heap -> Prop, (∃ n0 : Nat, J1 n0 y1 y2 h11) /\
 ∀ (n1 : Nat) (y3 : Sl) (y4 : Int) (h12 : Heap), J1 n1 y3 y4 h12 -> Vars h12 [(b2, [y3.v, (VI y4)]), (b1, [g0_1.v])] ->
 ((!decide (y4 = p1_1)) = true ->
 callM P 100 #[(.agg #[g0_1.v]), (VP b2 0)] h12 fun r9 h13 => ∃ y5 : Sl, ∃ y6 : Int, ∃ s58 : Bool, r9 = (VB s58) /\ Vars h13 [(b2, [y5.v, (VI y6)]), (b1, [g0_1.v])] /\
 ∃ m : Nat, m < n1 /\ J1 m y5 y6 h13) /\
 ((!decide (y4 = p1_1)) = false ->
 eop P (Instr.buildSlice 33 1 #[(0, (VI p1_1))]) h12 fun r10 h14 => ∃ s60 : Sl, r10 = s60.v /\ Vars h14 [(b2, [y3.v, (VI y4)]), (b1, [g0_1.v])] /\
 ∀ (b3 : Nat) (h16 : Heap), h14.size ≤ b3 -> Fr (In []) h14 h16 -> Vars h16 [(b3, [s60.v]), (b2, [y3.v, (VI y4)]), (b1, [g0_1.v])] ->
 callM P 92 #[(.agg #[g0_1.v]), (VP b2 0), (VI (s29.n : Int)), (Value.func (Fn.func 101) #[] #[(VP b3 0), (VP b2 0)])] h16 fun r11 h17 => ∃ y7 : Sl, ∃ y8 : Sl, ∃ y9 : Int, ∃ s64 : Bool, r11 = (VB s64) /\ Vars h17 [(b3, [y7.v]), (b2, [y8.v, (VI y9)]), (b1, [g0_1.v])] /\
 K (.tuple #[y7.v, (VB true)]) h17))))))
theorem v41 (g0_1 : Sl) (p1_1 : Int) (h : Heap) (K : Value -> Heap -> Prop) (H : u41 Tryz.prog g0_1 p1_1 h K) : callM Tryz.prog 41 #[(Value.agg #[g0_1.v]), (VI p1_1)] h K := by
  refine c41 (Value.agg #[g0_1.v]) (VI p1_1) h K ?_
  unfold u41 at H
  unfold t41
  have hL : Vars h [] := .nil
  refine eop_box 26 (Value.agg #[g0_1.v]) rfl hL (fun b1 h1 hb1 hf1 hL1 => ?_)
  refine rop_locA agg26 hL1 0 rfl 0 (vs := [g0_1.v]) rfl rfl ?_
  have H := H b1 h1 hb1 (Fr.no' (Fr.r (In []) _) hf1) hL1
  refine H.mono fun r1 h2 H => ?_
  obtain ⟨s14, rfl, hL2, H⟩ := H
  refine H.mono fun r2 h3 H => ?_
  obtain ⟨s15, rfl, hL3, H⟩ := H
  refine pop_not s15 ?_
  refine guardM_sf (fun hb2 => ?_) (fun hb2 => ?_)
  rotate_left
  ·have H := H.1 hb2
   refine guardM_n' hb2 (by decide) ?_
   refine guardM_n' hb2 (by decide) ?_
   refine pop_pickt' hb2 ?_
   refine guardM_n (by decide) ?_
   refine guardM_n (by decide) ?_
   refine guardM_n (by decide) ?_
   refine pop_pickt _ _ ?_
   refine condM_t ?_
   exact H
  have H := H.2 hb2
  refine rop_locA agg26 hL3 0 rfl 0 (vs := [g0_1.v]) rfl rfl ?_
  refine guardM_y' hb2 ?_
  refine H.mono fun r3 h4 H => ?_
  obtain ⟨s19, rfl, hL4, H⟩ := H
  refine guardM_y' hb2 ?_
  refine pop_not s19 ?_
  refine pop_pickf' hb2 ?_
  refine guardM_sf (fun hb3 => ?_) (fun hb3 => ?_)
  rotate_left
  ·have H := H.1 hb3
   refine guardM_n' hb3 (by decide) ?_
   refine guardM_n' hb3 (by decide) ?_
   refine pop_pickt' hb3 ?_
   refine condM_t ?_
   exact H
  have H := H.2 hb3
  refine rop_locA agg26 hL4 0 rfl 0 (vs := [g0_1.v]) rfl rfl ?_
  refine guardM_y' hb3 ?_
  refine H.mono fun r4 h5 H => ?_
  obtain ⟨s24, rfl, hL5, H⟩ := H
  refine guardM_y' hb3 ?_
  refine pop_not s24 ?_
  refine pop_pickf' hb3 ?_
  refine condM_b (fun hb4 => ?_) (fun hb4 => ?_)
  ·exact H.1 hb4
  have H := H.2 hb4
  refine pop_field 0 fld26_0 b1 0 ?_
  refine rop_loc one24 hL5 0 rfl 0 (v := g0_1.v) rfl ?_
  refine H.mono fun r5 h6 H => ?_
  obtain ⟨s29, rfl, hL6, H⟩ := H
  refine pop_len s29 _ _ sli33 ?_
  refine pop_field 0 fld26_0 b1 0 ?_
  refine rop_loc one24 hL6 0 rfl 0 (v := g0_1.v) rfl ?_
  refine pop_len g0_1 _ _ sli24 ?_
  refine H.mono fun r6 h7 H => ?_
  obtain ⟨s34, rfl, hL7, H⟩ := H
  refine pop.mk' (v := (Value.agg #[s34.v, (VI p1_1)])) (fun w => by kernel_rfl) ?_
  refine eop_alloc 54 zer54 rfl hL7 (fun b2 h8 hb5 hf2 hL8 => ?_)
  refine uop_loc siz54 hL8 0 rfl 0 [s34.v, (VI p1_1)] rfl rfl rfl (Nat.le_of_ble_eq_true rfl) (L' := [(b2, [s34.v, (VI p1_1)]), (b1, [g0_1.v])]) rfl (fun h9 hf3 hL9 => ?_)
  refine rop_locA agg26 hL9 1 rfl 0 (vs := [g0_1.v]) rfl rfl ?_
  refine rop_locA agg54 hL9 0 rfl 0 (vs := [s34.v, (VI p1_1)]) rfl rfl ?_
  have H := H b2 h9 hb5 (Fr.new (Fr.no' (Fr.r (In []) _) hf2) hb5 hf3) hL9
  refine H.mono fun r7 h10 H => ?_
  obtain ⟨s40, s40b, s40c, rfl, hL10, H⟩ := H
  refine pop_ext (v := (VI s40)) rfl ?_
  refine pop_ext (v := (VI s40b)) rfl ?_
  refine pop_ext (v := (VB s40c)) rfl ?_
  refine pop_ieq .i64 _ _ (s29.n : Int) 0 ?_
  refine guardM_sf (fun hb6 => ?_) (fun hb6 => ?_)
  rotate_left
  ·have H := H.1 hb6
   refine guardM_n' hb6 (by decide) ?_
   refine pop_pickt' hb6 ?_
   refine condM_t ?_
   exact H
  have H := H.2 hb6
  refine guardM_y' hb6 ?_
  refine pop_not s40c ?_
  refine pop_pickf' hb6 ?_
  refine condM_b (fun hb7 => ?_) (fun hb7 => ?_)
  ·exact H.1 hb7
  have H := H.2 hb7
  refine rop_locA agg26 hL10 1 rfl 0 (vs := [g0_1.v]) rfl rfl ?_
  refine H.mono fun r8 h11 H => ?_
  obtain ⟨y1, y2, s52, rfl, hL11, H⟩ := H
  obtain ⟨J1, ⟨n2, h0_1⟩, HB1⟩ := H
  refine loop_intro (J := fun (n : Nat) (vs : List Value) (h' : Heap) => ∃ y3 : Sl, ∃ y4 : Int, vs = [] /\ J1 n y3 y4 h' /\ Vars h' [(b2, [y3.v, (VI y4)]), (b1, [g0_1.v])]) n2 ⟨y1, y2, rfl, h0_1, hL11⟩ ?_
  intro I1 mu1 hI1 junk1  h12 hi1
  obtain ⟨n1, ⟨y3, y4, hv, hJ1, hL12⟩, hn1⟩ := hI1 _ _ hi1
  cases hv
  have H := HB1 n1 y3 y4 h12 hJ1 hL12
  refine pop_field 1 fld54_1 b2 0 ?_
  refine rop_loc one3 hL12 0 rfl 1 (v := (VI y4)) rfl ?_
  refine pop_ine .i64 _ _ y4 p1_1 ?_
  refine condM_b (fun hb8 => ?_) (fun hb8 => ?_)
  ·have H := H.1 hb8
   refine rop_locA agg26 hL12 1 rfl 0 (vs := [g0_1.v]) rfl rfl ?_
   refine H.mono fun r9 h13 H => ?_
   obtain ⟨y5, y6, s58, rfl, hL13, H⟩ := H
   obtain ⟨m_1, hm_1, H⟩ := H
   exact hn1 _ _ ⟨m_1, hm_1, y5, y6, rfl, H, hL13⟩
  have H := H.2 hb8
  refine H.mono fun r10 h14 H => ?_
  obtain ⟨s60, rfl, hL14, H⟩ := H
  refine eop_alloc 33 zer33 rfl hL14 (fun b3 h15 hb9 hf4 hL15 => ?_)
  refine uop_loc siz33 hL15 0 rfl 0 [s60.v] rfl rfl rfl (Nat.le_of_ble_eq_true rfl) (L' := [(b3, [s60.v]), (b2, [y3.v, (VI y4)]), (b1, [g0_1.v])]) rfl (fun h16 hf5 hL16 => ?_)
  refine rop_locA agg26 hL16 2 rfl 0 (vs := [g0_1.v]) rfl rfl ?_
  refine pop_func _ _ _ ?_
  have H := H b3 h16 hb9 (Fr.new (Fr.no' (Fr.r (In []) _) hf4) hb9 hf5) hL16
  refine H.mono fun r11 h17 H => ?_
  obtain ⟨y7, y8, y9, s64, rfl, hL17, H⟩ := H
  refine rop_loc one33 hL17 0 rfl 0 (v := y7.v) rfl ?_
  exact H
def u42 (P : Program) (g0_1 : Sl) (p1_1 : Int) (h : Heap) (K : Value -> Heap -> Prop) : Prop :=
 ∀ (b1 : Nat) (h1 : Heap), h.size ≤ b1 -> Fr (In []) h h1 -> Vars h1 [(b1, [g0_1.v])] ->
 callM P 55 #[(.agg #[g0_1.v]), (VI p1_1)] h1 fun r1 h2 => ∃ s14 : Bool, r1 = (VB s14) /\ Vars h2 [(b1, [g0_1.v])] /\
 ((!s14) = true ->
 K (.tuple #[nilSl.v, (VB false)]) h2) /\
 ((!s14) = false ->
 callM P 102 #[(.agg #[g0_1.v])] h2 fun r2 h3 => ∃ s18 : Bool, r2 = (VB s18) /\ Vars h3 [(b1, [g0_1.v])] /\
 ((!s18) = true ->
 K (.tuple #[nilSl.v, (VB false)]) h3) /\
 ((!s18) = false ->
 callM P 103 #[(.agg #[g0_1.v])] h3 fun r3 h4 => ∃ s23 : Bool, r3 = (VB s23) /\ Vars h4 [(b1, [g0_1.v])] /\
 ((!s23) = true ->
 K (.tuple #[nilSl.v, (VB false)]) h4) /\
 ((!s23) = false ->
 callM P 104 #[(.agg #[g0_1.v])] h4 fun r4 h5 => ∃ s28 : Int, r4 = (VI s28) /\ Vars h5 [(b1, [g0_1.v])] /\
 ((decide (s28 = 0)) = true ->
 K (.tuple #[nilSl.v, (VB false)]) h5) /\
 ((decide (s28 = 0)) = false ->
 ∃ J1 : Nat -> Sl -> Int -> Int -> Heap -> Prop, ((eop P (Instr.makeSlice 33 (VI (g0_1.n : Int)) (VI (g0_1.n : Int))) h5 fun r5 h6 => ∃ s36 : Sl, r5 = s36.v /\ Vars h6 [(b1, [g0_1.v])] /\
 (callM P 86 #[(.agg #[g0_1.v]), (.agg #[s36.v, (VI p1_1)])] h6 fun r6 h7 => ∃ s39 : Int, ∃ s39b : Sl, ∃ s39c : Int, ∃ s39d : Int, r6 = (.tuple #[(VI s39), (.agg #[s39b.v, (VI s39c)]), (VI s39d)]) /\ Vars h7 [(b1, [g0_1.v])] /\
 ∀ (b3 : Nat) (h8 : Heap), h7.size ≤ b3 -> Fr (In []) h7 h8 -> Vars h8 [(b3, [nilSl.v, (VI 0)]), (b1, [g0_1.v])] ->
 ∀ (h9 : Heap), Fr (In [b3]) h8 h9 -> Vars h9 [(b3, [s39b.v, (VI s39c)]), (b1, [g0_1.v])] ->
 J1 b3 s39b s39c s39d h9) /\
 (∀ (b4 : Nat) (h10 : Heap), h6.size ≤ b4 -> Fr (In []) h6 h10 -> Vars h10 [(b4, [nilSl.v, (VI 0)]), (b1, [g0_1.v])] ->
 callM P 86 #[(.agg #[g0_1.v]), (.agg #[s36.v, (VI p1_1)])] h10 fun r7 h11 => ∃ s39e : Int, ∃ s39f : Sl, ∃ s39g : Int, ∃ s39h : Int, r7 = (.tuple #[(VI s39e), (.agg #[s39f.v, (VI s39g)]), (VI s39h)]) /\ Vars h11 [(b4, [nilSl.v, (VI 0)]), (b1, [g0_1.v])] /\
 ∀ (h12 : Heap), Fr (In [b4]) h11 h12 -> Vars h12 [(b4, [s39f.v, (VI s39g)]), (b1, [g0_1.v])] ->
 J1 b4 s39f s39g s39h h12)) /\
 (∀ (b5 : Nat) (h13 : Heap), h5.size ≤ b5 -> Fr (In []) h5 h13 -> Vars h13 [(b5, [nilSl.v, (VI 0)]), (b1, [g0_1.v])] ->
 eop P (Instr.makeSlice 33 (VI (g0_1.n : Int)) (VI (g0_1.n : Int))) h13 fun r8 h14 => ∃ s36b : Sl, r8 = s36b.v /\ Vars h14 [(b5, [nilSl.v, (VI 0)]), (b1, [g0_1.v])] /\
 callM P 86 #[(.agg #[g0_1.v]), (.agg #[s36b.v, (VI p1_1)])] h14 fun r9 h15 => ∃ s39i : Int, ∃ t39_10 : Sl, ∃ t39_11 : Int, ∃ t39_12 : Int, r9 = (.tuple #[(VI s39i), (.agg #[t39_10.v, (VI t39_11)]), (VI t39_12)]) /\ Vars h15 [(b5, [nilSl.v, (VI 0)]), (b1, [g0_1.v])] /\
 ∀ (h16 : Heap), Fr (In [b5]) h15 h16 -> Vars h16 [(b5, [t39_10.v, (VI t39_11)]), (b1, [g0_1.v])] ->
 J1 b5 t39_10 t39_11 t39_12 h16)) /\
 ∀ (b2 : Nat) (y1 : Sl) (y2 : Int) (y3 : Int) (h17 : Heap), J1 b2 y1 y2 y3 h17 -> Vars h17 [(b2, [y1.v, (VI y2)]), (b1, [g0_1.v])] ->
 ((decide (y3 = 0)) = true ->
 K (.tuple #[nilSl.v, (VB false)]) h17) /\
 ((decide (y3 = 0)) = false ->
 ∃ J2 : Nat -> Int -> Sl -> Int -> Heap -> Prop, (∃ n0 : Nat, J2 n0 0 y1 y2 h17) /\
 ∀ (n1 : Nat) (n9_1 : Int) (y4 : Sl) (y5 : Int) (h18 : Heap), J2 n1 n9_1 y4 y5 h18 -> Vars h18 [(b2, [y4.v, (VI y5)]), (b1, [g0_1.v])] ->
 ((decide (n9_1 < y3)) = true ->
 ((!decide (y5 = p1_1)) = true ->
 callM P 105 #[(.agg #[g0_1.v]), (.agg #[y4.v, (VI y5)])] h18 fun r10 h19 => ∃ s59 : Sl, ∃ s59b : Int, ∃ s59c : Bool, r10 = (.tuple #[(.agg #[s59.v, (VI s59b)]), (VB s59c)]) /\ Vars h19 [(b2, [y4.v, (VI y5)]), (b1, [g0_1.v])] /\
 ∀ (h20 : Heap), Fr (In [b2]) h19 h20 -> Vars h20 [(b2, [s59.v, (VI s59b)]), (b1, [g0_1.v])] ->
 ∃ m : Nat, m < n1 /\ J2 m (w64 (n9_1 + 1)) s59 s59b h20) /\
 ((!decide (y5 = p1_1)) = false ->
 callM P 106 #[(.agg #[g0_1.v]), (.agg #[y4.v, (VI y5)]), (VI y3)] h18 fun r11 h21 => ∃ s66 : Sl, ∃ s66b : Int, ∃ s66c : Sl, ∃ s66d : Sl, ∃ s66e : Sl, ∃ s66f : Bool, r11 = (.tuple #[(.agg #[s66.v, (VI s66b), s66c.v, s66d.v, s66e.v]), (VB s66f)]) /\ Vars h21 [(b2, [y4.v, (VI y5)]), (b1, [g0_1.v])] /\
 ((!s66f) = true ->
 ∀ (b6 : Nat) (h23 : Heap), h21.size ≤ b6 -> Fr (In []) h21 h23 -> Vars h23 [(b6, [s66.v, (VI s66b), s66c.v, s66d.v, s66e.v]), (b2, [y4.v, (VI y5)]), (b1, [g0_1.v])] ->
 K (.tuple #[nilSl.v, (VB false)]) h23) /\
 ((!s66f) = false ->
 ∀ (b6 : Nat) (h23 : Heap), h21.size ≤ b6 -> Fr (In []) h21 h23 -> Vars h23 [(b6, [s66.v, (VI s66b), s66c.v, s66d.v, s66e.v]), (b2, [y4.v, (VI y5)]), (b1, [g0_1.v])] ->
 K (.tuple #[s66c.v, (VB true)]) h23))) /\
 ((decide (n9_1 < y3)) = false ->
 callM P 106 #[(.agg #[g0_1.v]), (.agg #[y4.v, (VI y5)]), (VI y3)] h18 fun r12 h24 => ∃ s66g : Sl, ∃ s66h : Int, ∃ s66i : Sl, ∃ t66_10 : Sl, ∃ t66_11 : Sl, ∃ t66_12 : Bool, r12 = (.tuple #[(.agg #[s66g.v, (VI s66h), s66i.v, t66_10.v, t66_11.v]), (VB t66_12)]) /\ Vars h24 [(b2, [y4.v, (VI y5)]), (b1, [g0_1.v])] /\
 ((!t66_12) = true ->
 ∀ (b7 : Nat) (h26 : Heap), h24.size ≤ b7 -> Fr (In []) h24 h26 -> Vars h26 [(b7, [s66g.v, (VI s66h), s66i.v, t66_10.v, t66_11.v]), (b2, [y4.v, (VI y5)]), (b1, [g0_1.v])] ->
 K (.tuple #[nilSl.v, (VB false)]) h26) /\
 ((!t66_12) = false ->
 ((!decide (y5 = p1_1)) = true ->
 ∀ (b7 : Nat) (h26 : Heap), h24.size ≤ b7 -> Fr (In []) h24 h26 -> Vars h26 [(b7, [s66g.v, (VI s66h), s66i.v, t66_10.v, t66_11.v]), (b2, [y4.v, (VI y5)]), (b1, [g0_1.v])] ->
 K (.tuple #[nilSl.v, (VB false)]) h26) /\
 ((!decide (y5 = p1_1)) = false ->
 ∀ (b7 : Nat) (h26 : Heap), h24.size ≤ b7 -> Fr (In []) h24 h26 -> Vars h26 [(b7, [s66g.v, (VI s66h), s66i.v, t66_10.v, t66_11.v]), (b2, [y4.v, (VI y5)]), (b1, [g0_1.v])] ->
 K (.tuple #[s66i.v, (VB true)]) h26))))))))
theorem v42 (g0_1 : Sl) (p1_1 : Int) (h : Heap) (K : Value -> Heap -> Prop) (H : u42 Tryz.prog g0_1 p1_1 h K) : callM Tryz.prog 42 #[(Value.agg #[g0_1.v]), (VI p1_1)] h K := by
  refine c42 (Value.agg #[g0_1.v]) (VI p1_1) h K ?_
  unfold u42 at H
  unfold t42
  have hL : Vars h [] := .nil
  refine eop_box 26 (Value.agg #[g0_1.v]) rfl hL (fun b1 h1 hb1 hf1 hL1 => ?_)
  refine rop_locA agg26 hL1 0 rfl 0 (vs := [g0_1.v]) rfl rfl ?_
  have H := H b1 h1 hb1 (Fr.no' (Fr.r (In []) _) hf1) hL1
  refine H.mono fun r1 h2 H => ?_
  obtain ⟨s14, rfl, hL2, H⟩ := H
  refine pop_not s14 ?_
  refine guardM_sf (fun hb2 => ?_) (fun hb2 => ?_)
  rotate_left
  ·have H := H.1 hb2
   refine guardM_n' hb2 (by decide) ?_
   refine guardM_n' hb2 (by decide) ?_
   refine pop_pickt' hb2 ?_
   refine guardM_n (by decide) ?_
   refine guardM_n (by decide) ?_
   refine guardM_n (by decide) ?_
   refine pop_pickt _ _ ?_
   refine guardM_n (by decide) ?_
   refine guardM_n (by decide) ?_
   refine guardM_n (by decide) ?_
   refine pop_pickt _ _ ?_
   refine condM_t ?_
   exact H
  have H := H.2 hb2
  refine rop_locA agg26 hL2 0 rfl 0 (vs := [g0_1.v]) rfl rfl ?_
  refine guardM_y' hb2 ?_
  refine H.mono fun r2 h3 H => ?_
  obtain ⟨s18, rfl, hL3, H⟩ := H
  refine guardM_y' hb2 ?_
  refine pop_not s18 ?_
  refine pop_pickf' hb2 ?_
  refine guardM_sf (fun hb3 => ?_) (fun hb3 => ?_)
  rotate_left
  ·have H := H.1 hb3
   refine guardM_n' hb3 (by decide) ?_
   refine guardM_n' hb3 (by decide) ?_
   refine pop_pickt' hb3 ?_
   refine guardM_n (by decide) ?_
   refine guardM_n (by decide) ?_
   refine guardM_n (by decide) ?_
   refine pop_pickt _ _ ?_
   refine condM_t ?_
   exact H
  have H := H.2 hb3
  refine rop_locA agg26 hL3 0 rfl 0 (vs := [g0_1.v]) rfl rfl ?_
  refine guardM_y' hb3 ?_
  refine H.mono fun r3 h4 H => ?_
  obtain ⟨s23, rfl, hL4, H⟩ := H
  refine guardM_y' hb3 ?_
  refine pop_not s23 ?_
  refine pop_pickf' hb3 ?_
  refine guardM_sf (fun hb4 => ?_) (fun hb4 => ?_)
  rotate_left
  ·have H := H.1 hb4
   refine guardM_n' hb4 (by decide) ?_
   refine guardM_n' hb4 (by decide) ?_
   refine pop_pickt' hb4 ?_
   refine condM_t ?_
   exact H
  have H := H.2 hb4
  refine rop_locA agg26 hL4 0 rfl 0 (vs := [g0_1.v]) rfl rfl ?_
  refine guardM_y' hb4 ?_
  refine H.mono fun r4 h5 H => ?_
  obtain ⟨s28, rfl, hL5, H⟩ := H
  refine guardM_y' hb4 ?_
  refine pop_ieq .i64 _ _ s28 0 ?_
  refine pop_pickf' hb4 ?_
  refine condM_b (fun hb5 => ?_) (fun hb5 => ?_)
  ·exact H.1 hb5
  have H := H.2 hb5
  obtain ⟨J1, H, HB2⟩ := H
  refine ⟨fun (vs : List Value) (h' : Heap) => ∃ b2 : Nat, ∃ y1 : Sl, ∃ y2 : Int, ∃ y3 : Int, vs = [(VP b2 0), (VI y3)] /\ J1 b2 y1 y2 y3 h' /\ Vars h' [(b2, [y1.v, (VI y2)]), (b1, [g0_1.v])], ?_, ?_⟩
  ·refine rop_locA agg26 hL5 0 rfl 0 (vs := [g0_1.v]) rfl rfl ?_
   refine pop_field 0 fld26_0 b1 0 ?_
   refine rop_loc one24 hL5 0 rfl 0 (v := g0_1.v) rfl ?_
   refine pop_len g0_1 _ _ sli24 ?_
   refine ⟨?_, ?_⟩
   rotate_left
   ·have H := H.2
    refine eop_alloc 54 zer54 rfl hL5 (fun b5 h13 hb8 hf6 hL13 => ?_)
    have H := H b5 h13 hb8 (Fr.no' (Fr.r (In []) _) hf6) hL13
    refine ⟨?_, ?_⟩
    ·exact still_loc one24 hL13 1 rfl 0 (v := g0_1.v) rfl
    refine ⟨?_, ?_⟩
    ·exact still_locA agg26 hL13 1 rfl 0 (vs := [g0_1.v]) rfl rfl
    refine H.mono fun r8 h14 H => ?_
    obtain ⟨s36b, rfl, hL14, H⟩ := H
    refine ⟨?_, ?_⟩
    ·exact still_loc one24 hL14 1 rfl 0 (v := g0_1.v) rfl
    refine ⟨?_, ?_⟩
    ·exact still_locA agg26 hL14 1 rfl 0 (vs := [g0_1.v]) rfl rfl
    refine pop.mk' (v := (Value.agg #[s36b.v, (VI p1_1)])) (fun w => by kernel_rfl) ?_
    refine H.mono fun r9 h15 H => ?_
    obtain ⟨s39i, t39_10, t39_11, t39_12, rfl, hL15, H⟩ := H
    refine ⟨?_, ?_⟩
    ·exact still_loc one24 hL15 1 rfl 0 (v := g0_1.v) rfl
    refine pop_ext (v := (VI s39i)) rfl ?_
    refine pop_ext (v := (Value.agg #[t39_10.v, (VI t39_11)])) rfl ?_
    refine pop_ext (v := (VI t39_12)) rfl ?_
    refine uop_loc siz54 hL15 0 rfl 0 [t39_10.v, (VI t39_11)] rfl rfl rfl (Nat.le_of_ble_eq_true rfl) (L' := [(b5, [t39_10.v, (VI t39_11)]), (b1, [g0_1.v])]) rfl (fun h16 hf7 hL16 => ?_)
    have H := H  h16  (Fr.old (Fr.r (In []) _) hf7) hL16
    exact ⟨b5, t39_10, t39_11, t39_12, rfl, H, hL16⟩
   have H := H.1
   refine H.mono fun r5 h6 H => ?_
   obtain ⟨s36, rfl, hL6, H⟩ := H
   refine ⟨?_, ?_⟩
   ·exact still_loc one24 hL6 0 rfl 0 (v := g0_1.v) rfl
   refine ⟨?_, ?_⟩
   ·exact still_locA agg26 hL6 0 rfl 0 (vs := [g0_1.v]) rfl rfl
   refine pop.mk' (v := (Value.agg #[s36.v, (VI p1_1)])) (fun w => by kernel_rfl) ?_
   refine ⟨?_, ?_⟩
   ·have H := H.1
    refine H.mono fun r6 h7 H => ?_
    obtain ⟨s39, s39b, s39c, s39d, rfl, hL7, H⟩ := H
    refine ⟨?_, ?_⟩
    ·exact still_loc one24 hL7 0 rfl 0 (v := g0_1.v) rfl
    refine pop_ext (v := (VI s39)) rfl ?_
    refine pop_ext (v := (Value.agg #[s39b.v, (VI s39c)])) rfl ?_
    refine pop_ext (v := (VI s39d)) rfl ?_
    refine eop_alloc 54 zer54 rfl hL7 (fun b3 h8 hb6 hf2 hL8 => ?_)
    have H := H b3 h8 hb6 (Fr.no' (Fr.r (In []) _) hf2) hL8
    refine ⟨?_, ?_⟩
    ·exact still_loc one24 hL8 1 rfl 0 (v := g0_1.v) rfl
    refine uop_loc siz54 hL8 0 rfl 0 [s39b.v, (VI s39c)] rfl rfl rfl (Nat.le_of_ble_eq_true rfl) (L' := [(b3, [s39b.v, (VI s39c)]), (b1, [g0_1.v])]) rfl (fun h9 hf3 hL9 => ?_)
    have H := H  h9  (Fr.old (Fr.r (In []) _) hf3) hL9
    exact ⟨b3, s39b, s39c, s39d, rfl, H, hL9⟩
   have H := H.2
   refine eop_alloc 54 zer54 rfl hL6 (fun b4 h10 hb7 hf4 hL10 => ?_)
   have H := H b4 h10 hb7 (Fr.no' (Fr.r (In []) _) hf4) hL10
   refine ⟨?_, ?_⟩
   ·exact still_loc one24 hL10 1 rfl 0 (v := g0_1.v) rfl
   refine ⟨?_, ?_⟩
   ·exact still_locA agg26 hL10 1 rfl 0 (vs := [g0_1.v]) rfl rfl
   refine H.mono fun r7 h11 H => ?_
   obtain ⟨s39e, s39f, s39g, s39h, rfl, hL11, H⟩ := H
   refine ⟨?_, ?_⟩
   ·exact still_loc one24 hL11 1 rfl 0 (v := g0_1.v) rfl
   refine pop_ext (v := (VI s39e)) rfl ?_
   refine pop_ext (v := (Value.agg #[s39f.v, (VI s39g)])) rfl ?_
   refine pop_ext (v := (VI s39h)) rfl ?_
   refine uop_loc siz54 hL11 0 rfl 0 [s39f.v, (VI s39g)] rfl rfl rfl (Nat.le_of_ble_eq_true rfl) (L' := [(b4, [s39f.v, (VI s39g)]), (b1, [g0_1.v])]) rfl (fun h12 hf5 hL12 => ?_)
   have H := H  h12  (Fr.old (Fr.r (In []) _) hf5) hL12
   exact ⟨b4, s39f, s39g, s39h, rfl, H, hL12⟩
  intro junk1 tv1 tv2 h17
  rintro ⟨b2, y1, y2, y3, hv, hJ1, hL17⟩
  cases hv
  have H := HB2 b2 y1 y2 y3 h17 hJ1 hL17
  refine pop_ieq .i64 _ _ y3 0 ?_
  refine condM_b (fun hb9 => ?_) (fun hb9 => ?_)
  ·exact H.1 hb9
  have H := H.2 hb9
  obtain ⟨J2, ⟨n2, h0_1⟩, HB1⟩ := H
  refine loop_intro (J := fun (n : Nat) (vs : List Value) (h' : Heap) => ∃ n9_1 : Int, ∃ y4 : Sl, ∃ y5 : Int, vs = [(VI n9_1)] /\ J2 n n9_1 y4 y5 h' /\ Vars h' [(b2, [y4.v, (VI y5)]), (b1, [g0_1.v])]) n2 ⟨0, y1, y2, rfl, h0_1, hL17⟩ ?_
  intro I1 mu1 hI1 junk2 tv3 h18 hi1
  obtain ⟨n1, ⟨n9_1, y4, y5, hv, hJ2, hL18⟩, hn1⟩ := hI1 _ _ hi1
  cases hv
  have H := HB1 n1 n9_1 y4 y5 h18 hJ2 hL18
  refine pop_lss .i64 n9_1 y3 ?_
  refine guardM_st (fun hb10 => ?_) (fun hb10 => ?_)
  rotate_left
  ·have H := H.2 hb10
   refine guardM_n' hb10 (by decide) ?_
   refine guardM_n' hb10 (by decide) ?_
   refine guardM_n' hb10 (by decide) ?_
   refine pop_pickf' hb10 ?_
   refine condM_f ?_
   refine rop_locA agg26 hL18 1 rfl 0 (vs := [g0_1.v]) rfl rfl ?_
   refine rop_locA agg54 hL18 0 rfl 0 (vs := [y4.v, (VI y5)]) rfl rfl ?_
   refine H.mono fun r12 h24 H => ?_
   obtain ⟨s66g, s66h, s66i, t66_10, t66_11, t66_12, rfl, hL24, H⟩ := H
   refine pop_ext (v := (Value.agg #[s66g.v, (VI s66h), s66i.v, t66_10.v, t66_11.v])) rfl ?_
   refine pop_ext (v := (VB t66_12)) rfl ?_
   refine eop_alloc 124 zer124 rfl hL24 (fun b7 h25 hb14 hf11 hL25 => ?_)
   refine uop_loc siz124 hL25 0 rfl 0 [s66g.v, (VI s66h), s66i.v, t66_10.v, t66_11.v] rfl rfl rfl (Nat.le_of_ble_eq_true rfl) (L' := [(b7, [s66g.v, (VI s66h), s66i.v, t66_10.v, t66_11.v]), (b2, [y4.v, (VI y5)]), (b1, [g0_1.v])]) rfl (fun h26 hf12 hL26 => ?_)
   refine pop_not t66_12 ?_
   refine guardM_sf (fun hb15 => ?_) (fun hb15 => ?_)
   rotate_left
   ·have H := H.1 hb15
    refine guardM_n' hb15 (by decide) ?_
    refine guardM_n' hb15 (by decide) ?_
    refine guardM_n' hb15 (by decide) ?_
    refine pop_pickt' hb15 ?_
    refine condM_t ?_
    have H := H b7 h26 hb14 (Fr.new (Fr.no' (Fr.r (In []) _) hf11) hb14 hf12) hL26
    exact H
   have H := H.2 hb15
   refine pop_field 1 fld54_1 b2 0 ?_
   refine guardM_y' hb15 ?_
   refine rop_loc one3 hL26 1 rfl 1 (v := (VI y5)) rfl ?_
   refine guardM_y' hb15 ?_
   refine guardM_y' hb15 ?_
   refine pop_ine .i64 _ _ y5 p1_1 ?_
   refine pop_pickf' hb15 ?_
   refine condM_b (fun hb16 => ?_) (fun hb16 => ?_)
   ·have H := H.1 hb16
    have H := H b7 h26 hb14 (Fr.new (Fr.no' (Fr.r (In []) _) hf11) hb14 hf12) hL26
    exact H
   have H := H.2 hb16
   refine pop_field 1 fld124_1 b7 0 ?_
   refine rop_loc one33 hL26 0 rfl 2 (v := s66i.v) rfl ?_
   have H := H b7 h26 hb14 (Fr.new (Fr.no' (Fr.r (In []) _) hf11) hb14 hf12) hL26
   exact H
  have H := H.1 hb10
  refine pop_field 1 fld54_1 b2 0 ?_
  refine guardM_y' hb10 ?_
  refine rop_loc one3 hL18 0 rfl 1 (v := (VI y5)) rfl ?_
  refine guardM_y' hb10 ?_
  refine guardM_y' hb10 ?_
  refine pop_ine .i64 _ _ y5 p1_1 ?_
  refine pop_pickt' hb10 ?_
  refine condM_b (fun hb11 => ?_) (fun hb11 => ?_)
  ·have H := H.1 hb11
   refine rop_locA agg26 hL18 1 rfl 0 (vs := [g0_1.v]) rfl rfl ?_
   refine rop_locA agg54 hL18 0 rfl 0 (vs := [y4.v, (VI y5)]) rfl rfl ?_
   refine H.mono fun r10 h19 H => ?_
   obtain ⟨s59, s59b, s59c, rfl, hL19, H⟩ := H
   refine pop_ext (v := (Value.agg #[s59.v, (VI s59b)])) rfl ?_
   refine pop_ext (v := (VB s59c)) rfl ?_
   refine uop_loc siz54 hL19 0 rfl 0 [s59.v, (VI s59b)] rfl rfl rfl (Nat.le_of_ble_eq_true rfl) (L' := [(b2, [s59.v, (VI s59b)]), (b1, [g0_1.v])]) rfl (fun h20 hf8 hL20 => ?_)
   refine pop_add .i64 n9_1 1 ?_
   have H := H  h20  (Fr.old (Fr.r (In []) _) hf8) hL20
   obtain ⟨m_1, hm_1, H⟩ := H
   exact hn1 _ _ ⟨m_1, hm_1, (w64 (n9_1 + 1)), s59, s59b, rfl, H, hL20⟩
  have H := H.2 hb11
  refine rop_locA agg26 hL18 1 rfl 0 (vs := [g0_1.v]) rfl rfl ?_
  refine rop_locA agg54 hL18 0 rfl 0 (vs := [y4.v, (VI y5)]) rfl rfl ?_
  refine H.mono fun r11 h21 H => ?_
  obtain ⟨s66, s66b, s66c, s66d, s66e, s66f, rfl, hL21, H⟩ := H
  refine pop_ext (v := (Value.agg #[s66.v, (VI s66b), s66c.v, s66d.v, s66e.v])) rfl ?_
  refine pop_ext (v := (VB s66f)) rfl ?_
  refine eop_alloc 124 zer124 rfl hL21 (fun b6 h22 hb12 hf9 hL22 => ?_)
  refine uop_loc siz124 hL22 0 rfl 0 [s66.v, (VI s66b), s66c.v, s66d.v, s66e.v] rfl rfl rfl (Nat.le_of_ble_eq_true rfl) (L' := [(b6, [s66.v, (VI s66b), s66c.v, s66d.v, s66e.v]), (b2, [y4.v, (VI y5)]), (b1, [g0_1.v])]) rfl (fun h23 hf10 hL23 => ?_)
  refine pop_not s66f ?_
  refine guardM_sf (fun hb13 => ?_) (fun hb13 => ?_)
  rotate_left
  ·have H := H.1 hb13
   refine guardM_n' hb13 (by decide) ?_
   refine guardM_n' hb13 (by decide) ?_
   refine guardM_n' hb13 (by decide) ?_
   refine pop_pickt' hb13 ?_
   refine condM_t ?_
   have H := H b6 h23 hb12 (Fr.new (Fr.no' (Fr.r (In []) _) hf9) hb12 hf10) hL23
   exact H
  have H := H.2 hb13
  refine pop_field 1 fld54_1 b2 0 ?_
  refine guardM_y' hb13 ?_
  refine rop_loc one3 hL23 1 rfl 1 (v := (VI y5)) rfl ?_
  refine guardM_y' hb13 ?_
  refine guardM_y' hb13 ?_
  refine pop_ine .i64 _ _ y5 p1_1 ?_
  refine pop_pickf' hb13 ?_
  refine condM_f' hb11 ?_
  refine pop_field 1 fld124_1 b6 0 ?_
  refine rop_loc one33 hL23 0 rfl 2 (v := s66c.v) rfl ?_
  have H := H b6 h23 hb12 (Fr.new (Fr.no' (Fr.r (In []) _) hf9) hb12 hf10) hL23
  exact H
def u43 (P : Program) (code0_1 : Sl) (h : Heap) (K : Value -> Heap -> Prop) : Prop :=
 ∀ (b1 : Nat) (b2 : Nat) (b3 : Nat) (h3 : Heap), h.size ≤ b1 -> h.size ≤ b2 -> h.size ≤ b3 -> Fr (In []) h h3 -> Vars h3 [(b3, [code0_1.v, (VI 0), (Value.int .u64 0)]), (b2, [nilSl.v, (VI 0)]), (b1, [nilSl.v])] ->
 callM P 67 #[(VP b3 0)] h3 fun r1 h4 => ∃ y1 : Sl, ∃ y2 : Int, ∃ y3 : Int, ∃ s13 : Sl, ∃ s13b : Sl, ∃ s13c : Int, r1 = (.tuple #[(.agg #[s13.v]), (.agg #[s13b.v, (VI s13c)])]) /\ Vars h4 [(b3, [y1.v, (VI y2), (Value.int .u64 y3)]), (b2, [nilSl.v, (VI 0)]), (b1, [nilSl.v])] /\
 ∀ (b4 : Nat) (b5 : Nat) (h8 : Heap), h4.size ≤ b4 -> h4.size ≤ b5 -> Fr (In []) h4 h8 -> Vars h8 [(b5, [s13b.v, (VI s13c)]), (b4, [s13.v]), (b3, [y1.v, (VI y2), (Value.int .u64 y3)]), (b2, [nilSl.v, (VI 0)]), (b1, [nilSl.v])] ->
 callM P 61 #[(VP b3 0), (.agg #[s13.v])] h8 fun r2 h9 => ∃ y4 : Sl, ∃ y5 : Int, ∃ y6 : Int, ∃ s20 : Int, r2 = (VI s20) /\ Vars h9 [(b5, [s13b.v, (VI s13c)]), (b4, [s13.v]), (b3, [y4.v, (VI y5), (Value.int .u64 y6)]), (b2, [nilSl.v, (VI 0)]), (b1, [nilSl.v])] /\
 ∀ (h10 : Heap), Fr (In [b1]) h9 h10 -> Vars h10 [(b5, [s13b.v, (VI s13c)]), (b4, [s13.v]), (b3, [y4.v, (VI y5), (Value.int .u64 y6)]), (b2, [nilSl.v, (VI 0)]), (b1, [s13.v])] ->
 ∀ (h11 : Heap), Fr (In [b2]) h10 h11 -> Vars h11 [(b5, [s13b.v, (VI s13c)]), (b4, [s13.v]), (b3, [y4.v, (VI y5), (Value.int .u64 y6)]), (b2, [s13b.v, (VI s13c)]), (b1, [s13.v])] ->
 K (.tuple #[(.agg #[s13.v]), (.agg #[s13b.v, (VI s13c)]), (VI s20)]) h11
theorem v43 (code0_1 : Sl) (h : Heap) (K : Value -> Heap -> Prop) (H : u43 Tryz.prog code0_1 h K) : callM Tryz.prog 43 #[code0_1.v] h K := by
  refine c43 code0_1.v h K ?_
  unfold u43 at H
  unfold t43
  have hL : Vars h [] := .nil
  refine eop_alloc 26 zer26 rfl hL (fun b1 h1 hb1 hf1 hL1 => ?_)
  refine eop_alloc 54 zer54 rfl hL1 (fun b2 h2 hb2 hf2 hL2 => ?_)
  refine pop.mk' (v := (Value.agg #[code0_1.v, (VI 0), (Value.int .u64 0)])) (fun w => by kernel_rfl) ?_
  refine eop_box 84 (Value.agg #[code0_1.v, (VI 0), (Value.int .u64 0)]) rfl hL2 (fun b3 h3 hb3 hf3 hL3 => ?_)
  have H := H b1 b2 b3 h3 hb1 (Nat.le_trans (Fr.size (Fr.no' (Fr.r (In []) _) hf1)) hb2) (Nat.le_trans (Fr.size (Fr.no' (Fr.no' (Fr.r (In []) _) hf1) hf2)) hb3) (Fr.no' (Fr.no' (Fr.no' (Fr.r (In []) _) hf1) hf2) hf3) hL3
  refine H.mono fun r1 h4 H => ?_
  obtain ⟨y1, y2, y3, s13, s13b, s13c, rfl, hL4, H⟩ := H
  refine pop_ext (v := (Value.agg #[s13.v])) rfl ?_
  refine pop_ext (v := (Value.agg #[s13b.v, (VI s13c)])) rfl ?_
  refine eop_alloc 26 zer26 rfl hL4 (fun b4 h5 hb4 hf4 hL5 => ?_)
  refine eop_alloc 54 zer54 rfl hL5 (fun b5 h6 hb5 hf5 hL6 => ?_)
  refine uop_loc siz26 hL6 1 rfl 0 [s13.v] rfl rfl rfl (Nat.le_of_ble_eq_true rfl) (L' := [(b5, [nilSl.v, (VI 0)]), (b4, [s13.v]), (b3, [y1.v, (VI y2), (Value.int .u64 y3)]), (b2, [nilSl.v, (VI 0)]), (b1, [nilSl.v])]) rfl (fun h7 hf6 hL7 => ?_)
  refine uop_loc siz54 hL7 0 rfl 0 [s13b.v, (VI s13c)] rfl rfl rfl (Nat.le_of_ble_eq_true rfl) (L' := [(b5, [s13b.v, (VI s13c)]), (b4, [s13.v]), (b3, [y1.v, (VI y2), (Value.int .u64 y3)]), (b2, [nilSl.v, (VI 0)]), (b1, [nilSl.v])]) rfl (fun h8 hf7 hL8 => ?_)
  refine rop_locA agg26 hL8 1 rfl 0 (vs := [s13.v]) rfl rfl ?_
  refine rop_locA agg54 hL8 0 rfl 0 (vs := [s13b.v, (VI s13c)]) rfl rfl ?_
  refine rop_locA agg26 hL8 1 rfl 0 (vs := [s13.v]) rfl rfl ?_
  have H := H b4 b5 h8 hb4 (Nat.le_trans (Fr.size (Fr.no' (Fr.r (In []) _) hf4)) hb5) (Fr.new (Fr.new (Fr.no' (Fr.no' (Fr.r (In []) _) hf4) hf5) hb4 hf6) (Nat.le_trans (Fr.size (Fr.no' (Fr.r (In []) _) hf4)) hb5) hf7) hL8
  refine H.mono fun r2 h9 H => ?_
  obtain ⟨y4, y5, y6, s20, rfl, hL9, H⟩ := H
  refine ⟨?_, ?_⟩
  ·exact still_locA agg54 hL9 0 rfl 0 (vs := [s13b.v, (VI s13c)]) rfl rfl
  refine ⟨?_, ?_⟩
  ·exact still_locA agg26 hL9 1 rfl 0 (vs := [s13.v]) rfl rfl
  refine uop_loc siz26 hL9 4 rfl 0 [s13.v] rfl rfl rfl (Nat.le_of_ble_eq_true rfl) (L' := [(b5, [s13b.v, (VI s13c)]), (b4, [s13.v]), (b3, [y4.v, (VI y5), (Value.int .u64 y6)]), (b2, [nilSl.v, (VI 0)]), (b1, [s13.v])]) rfl (fun h10 hf8 hL10 => ?_)
  have H := H  h10  (Fr.old (Fr.r (In []) _) hf8) hL10
  refine ⟨?_, ?_⟩
  ·exact still_locA agg54 hL10 0 rfl 0 (vs := [s13b.v, (VI s13c)]) rfl rfl
  refine uop_loc siz54 hL10 3 rfl 0 [s13b.v, (VI s13c)] rfl rfl rfl (Nat.le_of_ble_eq_true rfl) (L' := [(b5, [s13b.v, (VI s13c)]), (b4, [s13.v]), (b3, [y4.v, (VI y5), (Value.int .u64 y6)]), (b2, [s13b.v, (VI s13c)]), (b1, [s13.v])]) rfl (fun h11 hf9 hL11 => ?_)
  refine rop_locA agg26 hL11 4 rfl 0 (vs := [s13.v]) rfl rfl ?_
  refine rop_locA agg54 hL11 3 rfl 0 (vs := [s13b.v, (VI s13c)]) rfl rfl ?_
  have H := H  h11  (Fr.old (Fr.r (In []) _) hf9) hL11
  exact H
def u44 (P : Program) (g0_1 : Sl) (w1_1 : Sl) (w1_2 : Int) (q2_1 : Int) (h : Heap) (K : Value -> Heap -> Prop) : Prop :=
 ∀ (b1 : Nat) (b2 : Nat) (b3 : Nat) (h3 : Heap), h.size ≤ b1 -> h.size ≤ b2 -> h.size ≤ b3 -> Fr (In []) h h3 -> Vars h3 [(b3, [(VI q2_1)]), (b2, [w1_1.v, (VI w1_2)]), (b1, [g0_1.v])] ->
 callM P 84 #[(.agg #[g0_1.v]), (.agg #[w1_1.v, (VI w1_2)])] h3 fun r1 h4 => ∃ s10 : Bool, r1 = (VB s10) /\ Vars h4 [(b3, [(VI q2_1)]), (b2, [w1_1.v, (VI w1_2)]), (b1, [g0_1.v])] /\
 ((!s10) = true ->
 K (.tuple #[(VI 0), (VB false)]) h4) /\
 ((!s10) = false ->
 eop P (Instr.buildSlice 33 1 #[(0, (VI q2_1))]) h4 fun r2 h5 => ∃ s15 : Sl, r2 = s15.v /\ Vars h5 [(b3, [(VI q2_1)]), (b2, [w1_1.v, (VI w1_2)]), (b1, [g0_1.v])] /\
 callM P 54 #[(.agg #[g0_1.v]), s15.v] h5 fun r3 h6 => ∃ s16 : Bool, r3 = (VB s16) /\ Vars h6 [(b3, [(VI q2_1)]), (b2, [w1_1.v, (VI w1_2)]), (b1, [g0_1.v])] /\
 ((!s16) = true ->
 K (.tuple #[(VI 0), (VB false)]) h6) /\
 ((!s16) = false ->
 callM P 87 #[(.agg #[g0_1.v]), (.agg #[w1_1.v, (VI w1_2)]), (VI 0), (Value.func (Fn.func 107) #[] #[(VP b3 0)])] h6 fun r4 h7 => ∃ y1 : Int, ∃ s22 : Int, ∃ s22b : Bool, r4 = (.tuple #[(VI s22), (VB s22b)]) /\ Vars h7 [(b3, [(VI y1)]), (b2, [w1_1.v, (VI w1_2)]), (b1, [g0_1.v])] /\
 K (.tuple #[(VI s22), (VB s22b)]) h7))
theorem v44 (g0_1 : Sl) (w1_1 : Sl) (w1_2 : Int) (q2_1 : Int) (h : Heap) (K : Value -> Heap -> Prop) (H : u44 Tryz.prog g0_1 w1_1 w1_2 q2_1 h K) : callM Tryz.prog 44 #[(Value.agg #[g0_1.v]), (Value.agg #[w1_1.v, (VI w1_2)]), (VI q2_1)] h K := by
  refine c44 (Value.agg #[g0_1.v]) (Value.agg #[w1_1.v, (VI w1_2)]) (VI q2_1) h K ?_
  unfold u44 at H
  unfold t44
  have hL : Vars h [] := .nil
  refine eop_box 26 (Value.agg #[g0_1.v]) rfl hL (fun b1 h1 hb1 hf1 hL1 => ?_)
  refine eop_box 54 (Value.agg #[w1_1.v, (VI w1_2)]) rfl hL1 (fun b2 h2 hb2 hf2 hL2 => ?_)
  refine eop_box 3 (VI q2_1) rfl hL2 (fun b3 h3 hb3 hf3 hL3 => ?_)
  refine rop_locA agg26 hL3 2 rfl 0 (vs := [g0_1.v]) rfl rfl ?_
  refine rop_locA agg54 hL3 1 rfl 0 (vs := [w1_1.v, (VI w1_2)]) rfl rfl ?_
  have H := H b1 b2 b3 h3 hb1 (Nat.le_trans (Fr.size (Fr.no' (Fr.r (In []) _) hf1)) hb2) (Nat.le_trans (Fr.size (Fr.no' (Fr.no' (Fr.r (In []) _) hf1) hf2)) hb3) (Fr.no' (Fr.no' (Fr.no' (Fr.r (In []) _) hf1) hf2) hf3) hL3
  refine H.mono fun r1 h4 H => ?_
  obtain ⟨s10, rfl, hL4, H⟩ := H
  refine pop_not s10 ?_
  refine guardM_sf (fun hb4 => ?_) (fun hb4 => ?_)
  rotate_left
  ·have H := H.1 hb4
   refine guardM_n' hb4 (by decide) ?_
   refine guardM_n' hb4 (by decide) ?_
   refine guardM_n' hb4 (by decide) ?_
   refine guardM_n' hb4 (by decide) ?_
   refine pop_pickt' hb4 ?_
   refine condM_t ?_
   exact H
  have H := H.2 hb4
  refine rop_locA agg26 hL4 2 rfl 0 (vs := [g0_1.v]) rfl rfl ?_
  refine guardM_y' hb4 ?_
  refine rop_loc one3 hL4 0 rfl 0 (v := (VI q2_1)) rfl ?_
  refine guardM_y' hb4 ?_
  refine H.mono fun r2 h5 H => ?_
  obtain ⟨s15, rfl, hL5, H⟩ := H
  refine guardM_y' hb4 ?_
  refine H.mono fun r3 h6 H => ?_
  obtain ⟨s16, rfl, hL6, H⟩ := H
  refine guardM_y' hb4 ?_
  refine pop_not s16 ?_
  refine pop_pickf' hb4 ?_
  refine condM_b (fun hb5 => ?_) (fun hb5 => ?_)
  ·exact H.1 hb5
  have H := H.2 hb5
  refine rop_locA agg26 hL6 2 rfl 0 (vs := [g0_1.v]) rfl rfl ?_
  refine rop_locA agg54 hL6 1 rfl 0 (vs := [w1_1.v, (VI w1_2)]) rfl rfl ?_
  refine pop_func _ _ _ ?_
  refine H.mono fun r4 h7 H => ?_
  obtain ⟨y1, s22, s22b, rfl, hL7, H⟩ := H
  refine pop_ext (v := (VI s22)) rfl ?_
  refine pop_ext (v := (VB s22b)) rfl ?_
  exact H
def u45 (P : Program) (g0_1 : Sl) (w1_1 : Sl) (w1_2 : Int) (q2_1 : Int) (h : Heap) (K : Value -> Heap -> Prop) : Prop :=
 ∀ (b1 : Nat) (b2 : Nat) (h2 : Heap), h.size ≤ b1 -> h.size ≤ b2 -> Fr (In []) h h2 -> Vars h2 [(b2, [w1_1.v, (VI w1_2)]), (b1, [g0_1.v])] ->
 callM P 73 #[(.agg #[g0_1.v]), (.agg #[w1_1.v, (VI w1_2)])] h2 fun r1 h3 => ∃ s13 : Bool, r1 = (VB s13) /\ Vars h3 [(b2, [w1_1.v, (VI w1_2)]), (b1, [g0_1.v])] /\
 ((!s13) = true ->
 K (.tuple #[(VI 0), (VB false)]) h3) /\
 ((!s13) = false ->
 callM P 55 #[(.agg #[g0_1.v]), (VI q2_1)] h3 fun r2 h4 => ∃ s18 : Bool, r2 = (VB s18) /\ Vars h4 [(b2, [w1_1.v, (VI w1_2)]), (b1, [g0_1.v])] /\
 ((!s18) = true ->
 K (.tuple #[(VI 0), (VB false)]) h4) /\
 ((!s18) = false ->
 ∃ J1 : Nat -> Int -> Sl -> Int -> Heap -> Prop, (∃ n0 : Nat, J1 n0 0 w1_1 w1_2 h4) /\
 ∀ (n1 : Nat) (n8_1 : Int) (y1 : Sl) (y2 : Int) (h5 : Heap), J1 n1 n8_1 y1 y2 h5 -> Vars h5 [(b2, [y1.v, (VI y2)]), (b1, [g0_1.v])] ->
 ((decide (n8_1 ≤ 2000)) = true ->
 ((decide (y2 = q2_1)) = true ->
 K (.tuple #[(VI n8_1), (VB true)]) h5) /\
 ((decide (y2 = q2_1)) = false ->
 callM P 105 #[(.agg #[g0_1.v]), (.agg #[y1.v, (VI y2)])] h5 fun r3 h6 => ∃ s33 : Sl, ∃ s33b : Int, ∃ s33c : Bool, r3 = (.tuple #[(.agg #[s33.v, (VI s33b)]), (VB s33c)]) /\ Vars h6 [(b2, [y1.v, (VI y2)]), (b1, [g0_1.v])] /\
 ((!s33c) = true ->
 ∀ (b3 : Nat) (h8 : Heap), h6.size ≤ b3 -> Fr (In []) h6 h8 -> Vars h8 [(b3, [s33.v, (VI s33b)]), (b2, [y1.v, (VI y2)]), (b1, [g0_1.v])] ->
 K (.tuple #[(VI 0), (VB false)]) h8) /\
 ((!s33c) = false ->
 ∀ (b3 : Nat) (h9 : Heap), h6.size ≤ b3 -> Fr (In [b2]) h6 h9 -> Vars h9 [(b3, [s33.v, (VI s33b)]), (b2, [s33.v, (VI s33b)]), (b1, [g0_1.v])] ->
 ∃ m : Nat, m < n1 /\ J1 m (w64 (n8_1 + 1)) s33 s33b h9))) /\
 ((decide (n8_1 ≤ 2000)) = false ->
 K (.tuple #[(VI 0), (VB false)]) h5)))
theorem v45 (g0_1 : Sl) (w1_1 : Sl) (w1_2 : Int) (q2_1 : Int) (h : Heap) (K : Value -> Heap -> Prop) (H : u45 Tryz.prog g0_1 w1_1 w1_2 q2_1 h K) : callM Tryz.prog 45 #[(Value.agg #[g0_1.v]), (Value.agg #[w1_1.v, (VI w1_2)]), (VI q2_1)] h K := by
  refine c45 (Value.agg #[g0_1.v]) (Value.agg #[w1_1.v, (VI w1_2)]) (VI q2_1) h K ?_
  unfold u45 at H
  unfold t45
  have hL : Vars h [] := .nil
  refine eop_box 26 (Value.agg #[g0_1.v]) rfl hL (fun b1 h1 hb1 hf1 hL1 => ?_)
  refine eop_box 54 (Value.agg #[w1_1.v, (VI w1_2)]) rfl hL1 (fun b2 h2 hb2 hf2 hL2 => ?_)
  refine rop_locA agg26 hL2 1 rfl 0 (vs := [g0_1.v]) rfl rfl ?_
  refine rop_locA agg54 hL2 0 rfl 0 (vs := [w1_1.v, (VI w1_2)]) rfl rfl ?_
  have H := H b1 b2 h2 hb1 (Nat.le_trans (Fr.size (Fr.no' (Fr.r (In []) _) hf1)) hb2) (Fr.no' (Fr.no' (Fr.r (In []) _) hf1) hf2) hL2
  refine H.mono fun r1 h3 H => ?_
  obtain ⟨s13, rfl, hL3, H⟩ := H
  refine pop_not s13 ?_
  refine guardM_sf (fun hb3 => ?_) (fun hb3 => ?_)
  rotate_left
  ·have H := H.1 hb3
   refine guardM_n' hb3 (by decide) ?_
   refine guardM_n' hb3 (by decide) ?_
   refine guardM_n' hb3 (by decide) ?_
   refine pop_pickt' hb3 ?_
   refine condM_t ?_
   exact H
  have H := H.2 hb3
  refine rop_locA agg26 hL3 1 rfl 0 (vs := [g0_1.v]) rfl rfl ?_
  refine guardM_y' hb3 ?_
  refine guardM_y' hb3 ?_
  refine H.mono fun r2 h4 H => ?_
  obtain ⟨s18, rfl, hL4, H⟩ := H
  refine guardM_y' hb3 ?_
  refine pop_not s18 ?_
  refine pop_pickf' hb3 ?_
  refine condM_b (fun hb4 => ?_) (fun hb4 => ?_)
  ·exact H.1 hb4
  have H := H.2 hb4
  obtain ⟨J1, ⟨n2, h0_1⟩, HB1⟩ := H
  refine loop_intro (J := fun (n : Nat) (vs : List Value) (h' : Heap) => ∃ n8_1 : Int, ∃ y1 : Sl, ∃ y2 : Int, vs = [(VI n8_1)] /\ J1 n n8_1 y1 y2 h' /\ Vars h' [(b2, [y1.v, (VI y2)]), (b1, [g0_1.v])]) n2 ⟨0, w1_1, w1_2, rfl, h0_1, hL4⟩ ?_
  intro I1 mu1 hI1 junk1 tv1 h5 hi1
  obtain ⟨n1, ⟨n8_1, y1, y2, hv, hJ1, hL5⟩, hn1⟩ := hI1 _ _ hi1
  cases hv
  have H := HB1 n1 n8_1 y1 y2 h5 hJ1 hL5
  refine pop_leq .i64 n8_1 2000 ?_
  refine condM_b (fun hb5 => ?_) (fun hb5 => ?_)
  rotate_left
  ·exact H.2 hb5
  have H := H.1 hb5
  refine pop_field 1 fld54_1 b2 0 ?_
  refine rop_loc one3 hL5 0 rfl 1 (v := (VI y2)) rfl ?_
  refine pop_ieq .i64 _ _ y2 q2_1 ?_
  refine condM_b (fun hb6 => ?_) (fun hb6 => ?_)
  ·exact H.1 hb6
  have H := H.2 hb6
  refine rop_locA agg26 hL5 1 rfl 0 (vs := [g0_1.v]) rfl rfl ?_
  refine rop_locA agg54 hL5 0 rfl 0 (vs := [y1.v, (VI y2)]) rfl rfl ?_
  refine H.mono fun r3 h6 H => ?_
  obtain ⟨s33, s33b, s33c, rfl, hL6, H⟩ := H
  refine pop_ext (v := (Value.agg #[s33.v, (VI s33b)])) rfl ?_
  refine pop_ext (v := (VB s33c)) rfl ?_
  refine eop_alloc 54 zer54 rfl hL6 (fun b3 h7 hb7 hf3 hL7 => ?_)
  refine uop_loc siz54 hL7 0 rfl 0 [s33.v, (VI s33b)] rfl rfl rfl (Nat.le_of_ble_eq_true rfl) (L' := [(b3, [s33.v, (VI s33b)]), (b2, [y1.v, (VI y2)]), (b1, [g0_1.v])]) rfl (fun h8 hf4 hL8 => ?_)
  refine pop_not s33c ?_
  refine condM_b (fun hb8 => ?_) (fun hb8 => ?_)
  ·have H := H.1 hb8
   have H := H b3 h8 hb7 (Fr.new (Fr.no' (Fr.r (In []) _) hf3) hb7 hf4) hL8
   exact H
  have H := H.2 hb8
  refine rop_locA agg54 hL8 0 rfl 0 (vs := [s33.v, (VI s33b)]) rfl rfl ?_
  refine uop_loc siz54 hL8 1 rfl 0 [s33.v, (VI s33b)] rfl rfl rfl (Nat.le_of_ble_eq_true rfl) (L' := [(b3, [s33.v, (VI s33b)]), (b2, [s33.v, (VI s33b)]), (b1, [g0_1.v])]) rfl (fun h9 hf5 hL9 => ?_)
  refine pop_add .i64 n8_1 1 ?_
  have H := H b3 h9 hb7 (Fr.old (Fr.new (Fr.no' (Fr.r (In []) _) hf3) hb7 hf4) hf5) hL9
  obtain ⟨m_1, hm_1, H⟩ := H
  exact hn1 _ _ ⟨m_1, hm_1, (w64 (n8_1 + 1)), s33, s33b, rfl, H, (Vars.tail hL9)⟩
def u46 (P : Program) (code0_1 : Sl) (h : Heap) (K : Value -> Heap -> Prop) : Prop :=
 ∀ (b1 : Nat) (b2 : Nat) (h2 : Heap), h.size ≤ b1 -> h.size ≤ b2 -> Fr (In []) h h2 -> Vars h2 [(b2, [nilSl.v, (VI 0)]), (b1, [nilSl.v])] ->
 callM P 108 #[code0_1.v] h2 fun r1 h3 => ∃ s5 : Sl, ∃ s5b : Sl, ∃ s5c : Int, r1 = (.tuple #[(.agg #[s5.v]), (.agg #[s5b.v, (VI s5c)])]) /\ Vars h3 [(b2, [nilSl.v, (VI 0)]), (b1, [nilSl.v])] /\
 ∀ (h5 : Heap), Fr (In [b2, b1]) h3 h5 -> Vars h5 [(b2, [s5b.v, (VI s5c)]), (b1, [s5.v])] ->
 K (.tuple #[(.agg #[s5.v]), (.agg #[s5b.v, (VI s5c)])]) h5
theorem v46 (code0_1 : Sl) (h : Heap) (K : Value -> Heap -> Prop) (H : u46 Tryz.prog code0_1 h K) : callM Tryz.prog 46 #[code0_1.v] h K := by
  refine c46 code0_1.v h K ?_
  unfold u46 at H
  unfold t46
  have hL : Vars h [] := .nil
  refine eop_alloc 26 zer26 rfl hL (fun b1 h1 hb1 hf1 hL1 => ?_)
  refine eop_alloc 54 zer54 rfl hL1 (fun b2 h2 hb2 hf2 hL2 => ?_)
  have H := H b1 b2 h2 hb1 (Nat.le_trans (Fr.size (Fr.no' (Fr.r (In []) _) hf1)) hb2) (Fr.no' (Fr.no' (Fr.r (In []) _) hf1) hf2) hL2
  refine H.mono fun r1 h3 H => ?_
  obtain ⟨s5, s5b, s5c, rfl, hL3, H⟩ := H
  refine pop_ext (v := (Value.agg #[s5.v])) rfl ?_
  refine pop_ext (v := (Value.agg #[s5b.v, (VI s5c)])) rfl ?_
  refine uop_loc siz26 hL3 1 rfl 0 [s5.v] rfl rfl rfl (Nat.le_of_ble_eq_true rfl) (L' := [(b2, [nilSl.v, (VI 0)]), (b1, [s5.v])]) rfl (fun h4 hf3 hL4 => ?_)
  refine uop_loc siz54 hL4 0 rfl 0 [s5b.v, (VI s5c)] rfl rfl rfl (Nat.le_of_ble_eq_true rfl) (L' := [(b2, [s5b.v, (VI s5c)]), (b1, [s5.v])]) rfl (fun h5 hf4 hL5 => ?_)
  refine rop_locA agg26 hL5 1 rfl 0 (vs := [s5.v]) rfl rfl ?_
  refine rop_locA agg54 hL5 0 rfl 0 (vs := [s5b.v, (VI s5c)]) rfl rfl ?_
  have H := H  h5  (Fr.old (Fr.old (Fr.r (In []) _) hf3) hf4) hL5
  exact H
def u47 (P : Program) (g0_1 : Sl) (w1_1 : Sl) (w1_2 : Int) (h : Heap) (K : Value -> Heap -> Prop) : Prop :=
 ∀ (b1 : Nat) (b2 : Nat) (h2 : Heap), h.size ≤ b1 -> h.size ≤ b2 -> Fr (In []) h h2 -> Vars h2 [(b2, [w1_1.v, (VI w1_2)]), (b1, [g0_1.v])] ->
 callM P 84 #[(.agg #[g0_1.v]), (.agg #[w1_1.v, (VI w1_2)])] h2 fun r1 h3 => ∃ s9 : Bool, r1 = (VB s9) /\ Vars h3 [(b2, [w1_1.v, (VI w1_2)]), (b1, [g0_1.v])] /\
 ((!s9) = true ->
 K (.tuple #[(VI 0), (VB false)]) h3) /\
 ((!s9) = false ->
 eop P (Instr.makeSlice 127 (VI (g0_1.n : Int)) (VI (g0_1.n : Int))) h3 fun r2 h4 => ∃ s14 : Sl, r2 = s14.v /\ Vars h4 [(b2, [w1_1.v, (VI w1_2)]), (b1, [g0_1.v])] /\
 ∀ (b3 : Nat) (h6 : Heap), h4.size ≤ b3 -> Fr (In []) h4 h6 -> Vars h6 [(b3, [s14.v]), (b2, [w1_1.v, (VI w1_2)]), (b1, [g0_1.v])] ->
 callM P 87 #[(.agg #[g0_1.v]), (.agg #[w1_1.v, (VI w1_2)]), (VI 0), (Value.func (Fn.func 109) #[] #[(VP b3 0)])] h6 fun r3 h7 => ∃ y1 : Sl, ∃ s18 : Int, ∃ s18b : Bool, r3 = (.tuple #[(VI s18), (VB s18b)]) /\ Vars h7 [(b3, [y1.v]), (b2, [w1_1.v, (VI w1_2)]), (b1, [g0_1.v])] /\
 K (.tuple #[(VI s18), (VB s18b)]) h7)
theorem v47 (g0_1 : Sl) (w1_1 : Sl) (w1_2 : Int) (h : Heap) (K : Value -> Heap -> Prop) (H : u47 Tryz.prog g0_1 w1_1 w1_2 h K) : callM Tryz.prog 47 #[(Value.agg #[g0_1.v]), (Value.agg #[w1_1.v, (VI w1_2)])] h K := by
  refine c47 (Value.agg #[g0_1.v]) (Value.agg #[w1_1.v, (VI w1_2)]) h K ?_
  unfold u47 at H
  unfold t47
  have hL : Vars h [] := .nil
  refine eop_box 26 (Value.agg #[g0_1.v]) rfl hL (fun b1 h1 hb1 hf1 hL1 => ?_)
  refine eop_box 54 (Value.agg #[w1_1.v, (VI w1_2)]) rfl hL1 (fun b2 h2 hb2 hf2 hL2 => ?_)
  refine rop_locA agg26 hL2 1 rfl 0 (vs := [g0_1.v]) rfl rfl ?_
  refine rop_locA agg54 hL2 0 rfl 0 (vs := [w1_1.v, (VI w1_2)]) rfl rfl ?_
  have H := H b1 b2 h2 hb1 (Nat.le_trans (Fr.size (Fr.no' (Fr.r (In []) _) hf1)) hb2) (Fr.no' (Fr.no' (Fr.r (In []) _) hf1) hf2) hL2
  refine H.mono fun r1 h3 H => ?_
  obtain ⟨s9, rfl, hL3, H⟩ := H
  refine pop_not s9 ?_
  refine condM_b (fun hb3 => ?_) (fun hb3 => ?_)
  ·exact H.1 hb3
  have H := H.2 hb3
  refine pop_field 0 fld26_0 b1 0 ?_
  refine rop_loc one24 hL3 1 rfl 0 (v := g0_1.v) rfl ?_
  refine pop_len g0_1 _ _ sli24 ?_
  refine H.mono fun r2 h4 H => ?_
  obtain ⟨s14, rfl, hL4, H⟩ := H
  refine eop_alloc 127 zer127 rfl hL4 (fun b3 h5 hb4 hf3 hL5 => ?_)
  refine uop_loc siz127 hL5 0 rfl 0 [s14.v] rfl rfl rfl (Nat.le_of_ble_eq_true rfl) (L' := [(b3, [s14.v]), (b2, [w1_1.v, (VI w1_2)]), (b1, [g0_1.v])]) rfl (fun h6 hf4 hL6 => ?_)
  refine rop_locA agg26 hL6 2 rfl 0 (vs := [g0_1.v]) rfl rfl ?_
  refine rop_locA agg54 hL6 1 rfl 0 (vs := [w1_1.v, (VI w1_2)]) rfl rfl ?_
  refine pop_func _ _ _ ?_
  have H := H b3 h6 hb4 (Fr.new (Fr.no' (Fr.r (In []) _) hf3) hb4 hf4) hL6
  refine H.mono fun r3 h7 H => ?_
  obtain ⟨y1, s18, s18b, rfl, hL7, H⟩ := H
  refine pop_ext (v := (VI s18)) rfl ?_
  refine pop_ext (v := (VB s18b)) rfl ?_
  exact H
def u48 (P : Program) (g0_1 : Sl) (w1_1 : Sl) (w1_2 : Int) (h : Heap) (K : Value -> Heap -> Prop) : Prop :=
 ∀ (b1 : Nat) (b2 : Nat) (h2 : Heap), h.size ≤ b1 -> h.size ≤ b2 -> Fr (In []) h h2 -> Vars h2 [(b2, [w1_1.v, (VI w1_2)]), (b1, [g0_1.v])] ->
 callM P 73 #[(.agg #[g0_1.v]), (.agg #[w1_1.v, (VI w1_2)])] h2 fun r1 h3 => ∃ s13 : Bool, r1 = (VB s13) /\ Vars h3 [(b2, [w1_1.v, (VI w1_2)]), (b1, [g0_1.v])] /\
 ((!s13) = true ->
 K (.tuple #[(VI 0), (VB false)]) h3) /\
 ((!s13) = false ->
 eop P (Instr.makeSlice 127 (VI (g0_1.n : Int)) (VI (g0_1.n : Int))) h3 fun r2 h4 => ∃ s18 : Sl, r2 = s18.v /\ Vars h4 [(b2, [w1_1.v, (VI w1_2)]), (b1, [g0_1.v])] /\
 ∃ J1 : Nat -> Int -> Int -> Sl -> Int -> Heap -> Prop, (∃ n0 : Nat, J1 n0 (g0_1.n : Int) 0 w1_1 w1_2 h4) /\
 ∀ (n1 : Nat) (left7_1 : Int) (n8_1 : Int) (y1 : Sl) (y2 : Int) (h5 : Heap), J1 n1 left7_1 n8_1 y1 y2 h5 -> Vars h5 [(b2, [y1.v, (VI y2)]), (b1, [g0_1.v])] ->
 ((decide (n8_1 ≤ 2000)) = true ->
 ∃ J2 : Int -> Heap -> Prop, (InB s18 y2 /\
 ∃ s30 : Bool, hcell h5 (Sl.at s18 y2 1) = some (VB s30) /\
 ((!s30) = true ->
 InB s18 y2 /\
 Writable h5 (Sl.at s18 y2 1) /\ Vars (hset h5 (Sl.at s18 y2 1) (VB true)) [(b2, [y1.v, (VI y2)]), (b1, [g0_1.v])] /\
 ∀ h6 : Heap, h6 = hset h5 (Sl.at s18 y2 1) (VB true) -> Vars h6 [(b2, [y1.v, (VI y2)]), (b1, [g0_1.v])] ->
 J2 (w64 (left7_1 - 1)) h6) /\
 ((!s30) = false ->
 J2 left7_1 h5)) /\
 ∀ (y3 : Int) (h7 : Heap), J2 y3 h7 -> Vars h7 [(b2, [y1.v, (VI y2)]), (b1, [g0_1.v])] ->
 ((decide (y3 = 0)) = true ->
 K (.tuple #[(VI n8_1), (VB true)]) h7) /\
 ((decide (y3 = 0)) = false ->
 callM P 105 #[(.agg #[g0_1.v]), (.agg #[y1.v, (VI y2)])] h7 fun r3 h8 => ∃ s44 : Sl, ∃ s44b : Int, ∃ s44c : Bool, r3 = (.tuple #[(.agg #[s44.v, (VI s44b)]), (VB s44c)]) /\ Vars h8 [(b2, [y1.v, (VI y2)]), (b1, [g0_1.v])] /\
 ((!s44c) = true ->
 ∀ (b3 : Nat) (h10 : Heap), h8.size ≤ b3 -> Fr (In []) h8 h10 -> Vars h10 [(b3, [s44.v, (VI s44b)]), (b2, [y1.v, (VI y2)]), (b1, [g0_1.v])] ->
 K (.tuple #[(VI 0), (VB false)]) h10) /\
 ((!s44c) = false ->
 ∀ (b3 : Nat) (h11 : Heap), h8.size ≤ b3 -> Fr (In [b2]) h8 h11 -> Vars h11 [(b3, [s44.v, (VI s44b)]), (b2, [s44.v, (VI s44b)]), (b1, [g0_1.v])] ->
 ∃ m : Nat, m < n1 /\ J1 m y3 (w64 (n8_1 + 1)) s44 s44b h11))) /\
 ((decide (n8_1 ≤ 2000)) = false ->
 K (.tuple #[(VI 0), (VB false)]) h5))
theorem v48 (g0_1 : Sl) (w1_1 : Sl) (w1_2 : Int) (h : Heap) (K : Value -> Heap -> Prop) (H : u48 Tryz.prog g0_1 w1_1 w1_2 h K) : callM Tryz.prog 48 #[(Value.agg #[g0_1.v]), (Value.agg #[w1_1.v, (VI w1_2)])] h K := by
  refine c48 (Value.agg #[g0_1.v]) (Value.agg #[w1_1.v, (VI w1_2)]) h K ?_
  unfold u48 at H
  unfold t48
  have hL : Vars h [] := .nil
  refine eop_box 26 (Value.agg #[g0_1.v]) rfl hL (fun b1 h1 hb1 hf1 hL1 => ?_)
  refine eop_box 54 (Value.agg #[w1_1.v, (VI w1_2)]) rfl hL1 (fun b2 h2 hb2 hf2 hL2 => ?_)
  refine rop_locA agg26 hL2 1 rfl 0 (vs := [g0_1.v]) rfl rfl ?_
  refine rop_locA agg54 hL2 0 rfl 0 (vs := [w1_1.v, (VI w1_2)]) rfl rfl ?_
  have H := H b1 b2 h2 hb1 (Nat.le_trans (Fr.size (Fr.no' (Fr.r (In []) _) hf1)) hb2) (Fr.no' (Fr.no' (Fr.r (In []) _) hf1) hf2) hL2
  refine H.mono fun r1 h3 H => ?_
  obtain ⟨s13, rfl, hL3, H⟩ := H
  refine pop_not s13 ?_
  refine condM_b (fun hb3 => ?_) (fun hb3 => ?_)
  ·exact H.1 hb3
  have H := H.2 hb3
  refine pop_field 0 fld26_0 b1 0 ?_
  refine rop_loc one24 hL3 1 rfl 0 (v := g0_1.v) rfl ?_
  refine pop_len g0_1 _ _ sli24 ?_
  refine H.mono fun r2 h4 H => ?_
  obtain ⟨s18, rfl, hL4, H⟩ := H
  refine pop_field 0 fld26_0 b1 0 ?_
  refine rop_loc one24 hL4 1 rfl 0 (v := g0_1.v) rfl ?_
  refine pop_len g0_1 _ _ sli24 ?_
  obtain ⟨J1, ⟨n2, h0_1⟩, HB2⟩ := H
  refine loop_intro (J := fun (n : Nat) (vs : List Value) (h' : Heap) => ∃ left7_1 : Int, ∃ n8_1 : Int, ∃ y1 : Sl, ∃ y2 : Int, vs = [(VI left7_1), (VI n8_1)] /\ J1 n left7_1 n8_1 y1 y2 h' /\ Vars h' [(b2, [y1.v, (VI y2)]), (b1, [g0_1.v])]) n2 ⟨(g0_1.n : Int), 0, w1_1, w1_2, rfl, h0_1, hL4⟩ ?_
  intro I1 mu1 hI1 junk1 tv2 tv3 h5 hi1
  obtain ⟨n1, ⟨left7_1, n8_1, y1, y2, hv, hJ1, hL5⟩, hn1⟩ := hI1 _ _ hi1
  cases hv
  have H := HB2 n1 left7_1 n8_1 y1 y2 h5 hJ1 hL5
  refine pop_leq .i64 n8_1 2000 ?_
  refine condM_b (fun hb4 => ?_) (fun hb4 => ?_)
  rotate_left
  ·exact H.2 hb4
  have H := H.1 hb4
  obtain ⟨J2, H, HB1⟩ := H
  refine ⟨fun (vs : List Value) (h' : Heap) => ∃ y3 : Int, vs = [(VI y3)] /\ J2 y3 h' /\ Vars h' [(b2, [y1.v, (VI y2)]), (b1, [g0_1.v])], ?_, ?_⟩
  ·refine pop_field 1 fld54_1 b2 0 ?_
   refine rop_loc one3 hL5 0 rfl 1 (v := (VI y2)) rfl ?_
   obtain ⟨hi2, H⟩ := H
   refine pop_index sli127 siz4 .i64 s18 y2 hi2 ?_
   obtain ⟨s30, hc1, H⟩ := H
   refine rop_one one4 (VB s30) hc1 ?_
   refine pop_not s30 ?_
   refine condM_b (fun hb5 => ?_) (fun hb5 => ?_)
   rotate_left
   ·have H := H.2 hb5
    exact ⟨left7_1, rfl, H, hL5⟩
   have H := H.1 hb5
   refine pop_field 1 fld54_1 b2 0 ?_
   refine rop_loc one3 hL5 0 rfl 1 (v := (VI y2)) rfl ?_
   obtain ⟨hi3, H⟩ := H
   refine pop_index sli127 siz4 .i64 s18 y2 hi3 ?_
   obtain ⟨hw_1, hL6, H⟩ := H
   refine uop_cell (v := (VB true)) siz4 hw_1 rfl (fun h6 he_1 => ?_)
   rw [← he_1] at hL6
   have H := H h6 he_1 hL6
   refine pop_sub .i64 left7_1 1 ?_
   exact ⟨(w64 (left7_1 - 1)), rfl, H, hL6⟩
  intro junk2 tv1 h7
  rintro ⟨y3, hv, hJ2, hL7⟩
  cases hv
  have H := HB1 y3 h7 hJ2 hL7
  refine pop_ieq .i64 _ _ y3 0 ?_
  refine condM_b (fun hb6 => ?_) (fun hb6 => ?_)
  ·exact H.1 hb6
  have H := H.2 hb6
  refine rop_locA agg26 hL7 1 rfl 0 (vs := [g0_1.v]) rfl rfl ?_
  refine rop_locA agg54 hL7 0 rfl 0 (vs := [y1.v, (VI y2)]) rfl rfl ?_
  refine H.mono fun r3 h8 H => ?_
  obtain ⟨s44, s44b, s44c, rfl, hL8, H⟩ := H
  refine pop_ext (v := (Value.agg #[s44.v, (VI s44b)])) rfl ?_
  refine pop_ext (v := (VB s44c)) rfl ?_
  refine eop_alloc 54 zer54 rfl hL8 (fun b3 h9 hb7 hf3 hL9 => ?_)
  refine uop_loc siz54 hL9 0 rfl 0 [s44.v, (VI s44b)] rfl rfl rfl (Nat.le_of_ble_eq_true rfl) (L' := [(b3, [s44.v, (VI s44b)]), (b2, [y1.v, (VI y2)]), (b1, [g0_1.v])]) rfl (fun h10 hf4 hL10 => ?_)
  refine pop_not s44c ?_
  refine condM_b (fun hb8 => ?_) (fun hb8 => ?_)
  ·have H := H.1 hb8
   have H := H b3 h10 hb7 (Fr.new (Fr.no' (Fr.r (In []) _) hf3) hb7 hf4) hL10
   exact H
  have H := H.2 hb8
  refine rop_locA agg54 hL10 0 rfl 0 (vs := [s44.v, (VI s44b)]) rfl rfl ?_
  refine uop_loc siz54 hL10 1 rfl 0 [s44.v, (VI s44b)] rfl rfl rfl (Nat.le_of_ble_eq_true rfl) (L' := [(b3, [s44.v, (VI s44b)]), (b2, [s44.v, (VI s44b)]), (b1, [g0_1.v])]) rfl (fun h11 hf5 hL11 => ?_)
  refine pop_add .i64 n8_1 1 ?_
  have H := H b3 h11 hb7 (Fr.old (Fr.new (Fr.no' (Fr.r (In []) _) hf3) hb7 hf4) hf5) hL11
  obtain ⟨m_1, hm_1, H⟩ := H
  exact hn1 _ _ ⟨m_1, hm_1, y3, (w64 (n8_1 + 1)), s44, s44b, rfl, H, (Vars.tail hL11)⟩
def u54 (P : Program) (g0_1 : Sl) (places1_1 : Sl) (h : Heap) (K : Value -> Heap -> Prop) : Prop :=
 ∀ (b1 : Nat) (h1 : Heap), h.size ≤ b1 -> Fr (In []) h h1 -> Vars h1 [(b1, [g0_1.v])] ->
 callM P 94 #[(.agg #[g0_1.v])] h1 fun r1 h2 => ∃ s6 : Bool, r1 = (VB s6) /\ Vars h2 [(b1, [g0_1.v])] /\
 (s6 = true ->
 callM P 75 #[places1_1.v, (Value.func (Fn.func 112) #[] #[(VP b1 0)])] h2 fun r2 h3 => ∃ y1 : Sl, ∃ s10 : Bool, r2 = (VB s10) /\ Vars h3 [(b1, [y1.v])] /\
 K (VB (!s10)) h3) /\
 (s6 = false ->
 K (VB false) h2)
theorem v54 (g0_1 : Sl) (places1_1 : Sl) (h : Heap) (K : Value -> Heap -> Prop) (H : u54 Tryz.prog g0_1 places1_1 h K) : callM Tryz.prog 54 #[(Value.agg #[g0_1.v]), places1_1.v] h K := by
  refine c54 (Value.agg #[g0_1.v]) places1_1.v h K ?_
  unfold u54 at H
  unfold t54
  have hL : Vars h [] := .nil
  refine eop_box 26 (Value.agg #[g0_1.v]) rfl hL (fun b1 h1 hb1 hf1 hL1 => ?_)
  refine rop_locA agg26 hL1 0 rfl 0 (vs := [g0_1.v]) rfl rfl ?_
  have H := H b1 h1 hb1 (Fr.no' (Fr.r (In []) _) hf1) hL1
  refine H.mono fun r1 h2 H => ?_
  obtain ⟨s6, rfl, hL2, H⟩ := H
  refine guardM_st (fun hb2 => ?_) (fun hb2 => ?_)
  rotate_left
  ·have H := H.2 hb2
   refine guardM_n' hb2 (by decide) ?_
   refine guardM_n' hb2 (by decide) ?_
   refine guardM_n' hb2 (by decide) ?_
   refine pop_pickf' hb2 ?_
   exact H
  have H := H.1 hb2
  refine guardM_y' hb2 ?_
  refine pop_func _ _ _ ?_
  refine guardM_y' hb2 ?_
  refine H.mono fun r2 h3 H => ?_
  obtain ⟨y1, s10, rfl, hL3, H⟩ := H
  refine guardM_y' hb2 ?_
  refine pop_not s10 ?_
  refine pop_pickt' hb2 ?_
  exact H
def u55 (P : Program) (g0_1 : Sl) (p1_1 : Int) (h : Heap) (K : Value -> Heap -> Prop) : Prop :=
 ∀ (b1 : Nat) (h1 : Heap), h.size ≤ b1 -> Fr (In []) h h1 -> Vars h1 [(b1, [g0_1.v])] ->
 callM P 82 #[(.agg #[g0_1.v])] h1 fun r1 h2 => ∃ s6 : Bool, r1 = (VB s6) /\ Vars h2 [(b1, [g0_1.v])] /\
 (s6 = true ->
 callM P 74 #[(VI p1_1), (VI 0), (VI (w64 ((g0_1.n : Int) - 1)))] h2 fun r2 h3 => ∃ s13 : Bool, r2 = (VB s13) /\ Vars h3 [(b1, [g0_1.v])] /\
 K (VB s13) h3) /\
 (s6 = false ->
 K (VB false) h2)
theorem v55 (g0_1 : Sl) (p1_1 : Int) (h : Heap) (K : Value -> Heap -> Prop) (H : u55 Tryz.prog g0_1 p1_1 h K) : callM Tryz.prog 55 #[(Value.agg #[g0_1.v]), (VI p1_1)] h K := by
  refine c55 (Value.agg #[g0_1.v]) (VI p1_1) h K ?_
  unfold u55 at H
  unfold t55
  have hL : Vars h [] := .nil
  refine eop_box 26 (Value.agg #[g0_1.v]) rfl hL (fun b1 h1 hb1 hf1 hL1 => ?_)
  refine rop_locA agg26 hL1 0 rfl 0 (vs := [g0_1.v]) rfl rfl ?_
  have H := H b1 h1 hb1 (Fr.no' (Fr.r (In []) _) hf1) hL1
  refine H.mono fun r1 h2 H => ?_
  obtain ⟨s6, rfl, hL2, H⟩ := H
  refine guardM_st (fun hb2 => ?_) (fun hb2 => ?_)
  rotate_left
  ·have H := H.2 hb2
   refine guardM_n' hb2 (by decide) ?_
   refine guardM_n' hb2 (by decide) ?_
   refine guardM_n' hb2 (by decide) ?_
   refine guardM_n' hb2 (by decide) ?_
   refine guardM_n' hb2 (by decide) ?_
   refine pop_pickf' hb2 ?_
   exact H
  have H := H.1 hb2
  refine guardM_y' hb2 ?_
  refine pop_field 0 fld26_0 b1 0 ?_
  refine guardM_y' hb2 ?_
  refine rop_loc one24 hL2 0 rfl 0 (v := g0_1.v) rfl ?_
  refine guardM_y' hb2 ?_
  refine pop_len g0_1 _ _ sli24 ?_
  refine guardM_y' hb2 ?_
  refine pop_sub .i64 (g0_1.n : Int) 1 ?_
  refine guardM_y' hb2 ?_
  refine H.mono fun r2 h3 H => ?_
  obtain ⟨s13, rfl, hL3, H⟩ := H
  refine pop_pickt' hb2 ?_
  exact H
def u61 (P : Program) (b1 : Nat) (c0_1 : Sl) (c0_2 : Int) (c0_3 : Int) (g1_1 : Sl) (h : Heap) (K : Value -> Heap -> Prop) : Prop :=
 ((decide ((g1_1.n : Int) = 0)) = true ->
 ∀ (b2 : Nat) (h1 : Heap), h.size ≤ b2 -> Fr (In []) h h1 -> Vars h1 [(b2, [g1_1.v]), (b1, [c0_1.v, (VI c0_2), (Value.int .u64 c0_3)])] ->
 eop P (Instr.buildSlice 33 4 #[(0, (.int .i64 (-1))), (1, (.int .i64 0)), (2, (VI (g1_1.n : Int))), (3, (.int .i64 4611686018427387904))]) h1 fun r5 h6 => ∃ s17b : Sl, r5 = s17b.v /\ Vars h6 [(b2, [g1_1.v]), (b1, [c0_1.v, (VI c0_2), (Value.int .u64 c0_3)])] /\
 callM P 69 #[(VP b1 0), s17b.v] h6 fun r6 h7 => ∃ y10 : Sl, ∃ y11 : Int, ∃ y12 : Int, ∃ s18b : Int, r6 = (VI s18b) /\ Vars h7 [(b2, [g1_1.v]), (b1, [y10.v, (VI y11), (Value.int .u64 y12)])] /\
 K (VI s18b) h7) /\
 ((decide ((g1_1.n : Int) = 0)) = false ->
 ∀ (b2 : Nat) (h1 : Heap), h.size ≤ b2 -> Fr (In []) h h1 -> Vars h1 [(b2, [g1_1.v]), (b1, [c0_1.v, (VI c0_2), (Value.int .u64 c0_3)])] ->
 callM P 68 #[(VP b1 0), (VI 14)] h1 fun r1 h2 => ∃ y1 : Sl, ∃ y2 : Int, ∃ y3 : Int, ∃ s11 : Bool, r1 = (VB s11) /\ Vars h2 [(b2, [g1_1.v]), (b1, [y1.v, (VI y2), (Value.int .u64 y3)])] /\
 (s11 = true ->
 eop P (Instr.buildSlice 33 4 #[(0, (.int .i64 (-1))), (1, (.int .i64 0)), (2, (VI (g1_1.n : Int))), (3, (.int .i64 4611686018427387904))]) h2 fun r2 h3 => ∃ s17 : Sl, r2 = s17.v /\ Vars h3 [(b2, [g1_1.v]), (b1, [y1.v, (VI y2), (Value.int .u64 y3)])] /\
 callM P 69 #[(VP b1 0), s17.v] h3 fun r3 h4 => ∃ y4 : Sl, ∃ y5 : Int, ∃ y6 : Int, ∃ s18 : Int, r3 = (VI s18) /\ Vars h4 [(b2, [g1_1.v]), (b1, [y4.v, (VI y5), (Value.int .u64 y6)])] /\
 K (VI s18) h4) /\
 (s11 = false ->
 callM P 70 #[(VP b1 0), (VI (g1_1.n : Int))] h2 fun r4 h5 => ∃ y7 : Sl, ∃ y8 : Int, ∃ y9 : Int, ∃ s23 : Int, r4 = (VI s23) /\ Vars h5 [(b2, [g1_1.v]), (b1, [y7.v, (VI y8), (Value.int .u64 y9)])] /\
 K (VI s23) h5))
theorem v61 (b1 : Nat) (c0_1 : Sl) (c0_2 : Int) (c0_3 : Int) (g1_1 : Sl) (h : Heap) (K : Value -> Heap -> Prop) (hL : Vars h [(b1, [c0_1.v, (VI c0_2), (Value.int .u64 c0_3)])]) (H : u61 Tryz.prog b1 c0_1 c0_2 c0_3 g1_1 h K) : callM Tryz.prog 61 #[(VP b1 0), (Value.agg #[g1_1.v])] h K := by
  refine c61 (VP b1 0) (Value.agg #[g1_1.v]) h K ?_
  unfold u61 at H
  unfold t61
  refine eop_box 26 (Value.agg #[g1_1.v]) rfl hL (fun b2 h1 hb1 hf1 hL1 => ?_)
  refine pop_field 0 fld26_0 b2 0 ?_
  refine rop_loc one24 hL1 0 rfl 0 (v := g1_1.v) rfl ?_
  refine pop_len g1_1 _ _ sli24 ?_
  refine pop_ieq .i64 _ _ (g1_1.n : Int) 0 ?_
  refine guardM_sf (fun hb2 => ?_) (fun hb2 => ?_)
  rotate_left
  ·have H := H.1 hb2
   refine guardM_n' hb2 (by decide) ?_
   refine pop_pickt' hb2 ?_
   refine condM_t ?_
   refine pop_field 0 fld26_0 b2 0 ?_
   refine rop_loc one24 hL1 0 rfl 0 (v := g1_1.v) rfl ?_
   refine pop_len g1_1 _ _ sli24 ?_
   have H := H b2 h1 hb1 (Fr.no' (Fr.r (In []) _) hf1) hL1
   refine H.mono fun r5 h6 H => ?_
   obtain ⟨s17b, rfl, hL6, H⟩ := H
   refine H.mono fun r6 h7 H => ?_
   obtain ⟨y10, y11, y12, s18b, rfl, hL7, H⟩ := H
   exact H
  have H := H.2 hb2
  refine guardM_y' hb2 ?_
  have H := H b2 h1 hb1 (Fr.no' (Fr.r (In []) _) hf1) hL1
  refine H.mono fun r1 h2 H => ?_
  obtain ⟨y1, y2, y3, s11, rfl, hL2, H⟩ := H
  refine pop_pickf' hb2 ?_
  refine condM_b (fun hb3 => ?_) (fun hb3 => ?_)
  rotate_left
  ·have H := H.2 hb3
   refine pop_field 0 fld26_0 b2 0 ?_
   refine rop_loc one24 hL2 0 rfl 0 (v := g1_1.v) rfl ?_
   refine pop_len g1_1 _ _ sli24 ?_
   refine H.mono fun r4 h5 H => ?_
   obtain ⟨y7, y8, y9, s23, rfl, hL5, H⟩ := H
   exact H
  have H := H.1 hb3
  refine pop_field 0 fld26_0 b2 0 ?_
  refine rop_loc one24 hL2 0 rfl 0 (v := g1_1.v) rfl ?_
  refine pop_len g1_1 _ _ sli24 ?_
  refine H.mono fun r2 h3 H => ?_
  obtain ⟨s17, rfl, hL3, H⟩ := H
  refine H.mono fun r3 h4 H => ?_
  obtain ⟨y4, y5, y6, s18, rfl, hL4, H⟩ := H
  exact H
def u67 (P : Program) (b1 : Nat) (c0_1 : Sl) (c0_2 : Int) (c0_3 : Int) (h : Heap) (K : Value -> Heap -> Prop) : Prop :=
 ∀ (b2 : Nat) (b3 : Nat) (h2 : Heap), h.size ≤ b2 -> h.size ≤ b3 -> Fr (In []) h h2 -> Vars h2 [(b3, [nilSl.v, (VI 0)]), (b2, [nilSl.v]), (b1, [c0_1.v, (VI c0_2), (Value.int .u64 c0_3)])] ->
 callM P 121 #[(VP b1 0)] h2 fun r1 h3 => ∃ y1 : Sl, ∃ y2 : Int, ∃ y3 : Int, ∃ s7 : Sl, r1 = (.agg #[s7.v]) /\ Vars h3 [(b3, [nilSl.v, (VI 0)]), (b2, [nilSl.v]), (b1, [y1.v, (VI y2), (Value.int .u64 y3)])] /\
 ∀ (b4 : Nat) (h5 : Heap), h3.size ≤ b4 -> Fr (In []) h3 h5 -> Vars h5 [(b4, [s7.v]), (b3, [nilSl.v, (VI 0)]), (b2, [nilSl.v]), (b1, [y1.v, (VI y2), (Value.int .u64 y3)])] ->
 callM P 82 #[(.agg #[s7.v])] h5 fun r2 h6 => ∃ s9 : Bool, r2 = (VB s9) /\ Vars h6 [(b4, [s7.v]), (b3, [nilSl.v, (VI 0)]), (b2, [nilSl.v]), (b1, [y1.v, (VI y2), (Value.int .u64 y3)])] /\
 ((!s9) = true ->
 ∀ (h8 : Heap), Fr (In [b3, b2]) h6 h8 -> Vars h8 [(b4, [s7.v]), (b3, [nilSl.v, (VI 0)]), (b2, [s7.v]), (b1, [y1.v, (VI y2), (Value.int .u64 y3)])] ->
 K (.tuple #[(.agg #[s7.v]), (.agg #[nilSl.v, (VI 0)])]) h8) /\
 ((!s9) = false ->
 callM P 83 #[(VP b1 0), (.agg #[s7.v])] h6 fun r3 h9 => ∃ y4 : Sl, ∃ y5 : Int, ∃ y6 : Int, ∃ s15 : Sl, ∃ s15b : Int, r3 = (.agg #[s15.v, (VI s15b)]) /\ Vars h9 [(b4, [s7.v]), (b3, [nilSl.v, (VI 0)]), (b2, [nilSl.v]), (b1, [y4.v, (VI y5), (Value.int .u64 y6)])] /\
 ∀ (b5 : Nat) (h11 : Heap), h9.size ≤ b5 -> Fr (In []) h9 h11 -> Vars h11 [(b5, [s15.v, (VI s15b)]), (b4, [s7.v]), (b3, [nilSl.v, (VI 0)]), (b2, [nilSl.v]), (b1, [y4.v, (VI y5), (Value.int .u64 y6)])] ->
 ∃ J1 : Sl -> Int -> Sl -> Int -> Int -> Heap -> Prop, (callM P 70 #[(VP b1 0), (VI 16)] h11 fun r4 h12 => ∃ y12 : Sl, ∃ y13 : Int, ∃ y14 : Int, ∃ s17 : Int, r4 = (VI s17) /\ Vars h12 [(b5, [s15.v, (VI s15b)]), (b4, [s7.v]), (b3, [nilSl.v, (VI 0)]), (b2, [nilSl.v]), (b1, [y12.v, (VI y13), (Value.int .u64 y14)])] /\
 ((decide (s17 = 0)) = true ->
 eop P (Instr.buildSlice 33 3 #[(0, (.int .i64 (-1))), (1, (VI (s7.n : Int))), (2, (.int .i64 4611686018427387904))]) h12 fun r5 h13 => ∃ s24 : Sl, r5 = s24.v /\ Vars h13 [(b5, [s15.v, (VI s15b)]), (b4, [s7.v]), (b3, [nilSl.v, (VI 0)]), (b2, [nilSl.v]), (b1, [y12.v, (VI y13), (Value.int .u64 y14)])] /\
 callM P 69 #[(VP b1 0), s24.v] h13 fun r6 h14 => ∃ y15 : Sl, ∃ y16 : Int, ∃ y17 : Int, ∃ s25 : Int, r6 = (VI s25) /\ Vars h14 [(b5, [s15.v, (VI s15b)]), (b4, [s7.v]), (b3, [nilSl.v, (VI 0)]), (b2, [nilSl.v]), (b1, [y15.v, (VI y16), (Value.int .u64 y17)])] /\
 ∀ (h15 : Heap), Fr (In [b5]) h14 h15 -> Vars h15 [(b5, [s15.v, (VI s25)]), (b4, [s7.v]), (b3, [nilSl.v, (VI 0)]), (b2, [nilSl.v]), (b1, [y15.v, (VI y16), (Value.int .u64 y17)])] ->
 J1 s15 s25 y15 y16 y17 h15) /\
 ((decide (s17 = 0)) = false ->
 ((decide (s17 = 1)) = true ->
 (callM P 70 #[(VP b1 0), (VI (s15.n : Int))] h12 fun r7 h16 => ∃ y18 : Sl, ∃ y19 : Int, ∃ y20 : Int, ∃ s35 : Int, r7 = (VI s35) /\ Vars h16 [(b5, [s15.v, (VI s15b)]), (b4, [s7.v]), (b3, [nilSl.v, (VI 0)]), (b2, [nilSl.v]), (b1, [y18.v, (VI y19), (Value.int .u64 y20)])] /\
 eop P (Instr.buildSlice 33 3 #[(0, (.int .i64 (-1))), (1, (.int .i64 4)), (2, (.int .i64 5))]) h16 fun r8 h17 => ∃ s37 : Sl, r8 = s37.v /\ Vars h17 [(b5, [s15.v, (VI s15b)]), (b4, [s7.v]), (b3, [nilSl.v, (VI 0)]), (b2, [nilSl.v]), (b1, [y18.v, (VI y19), (Value.int .u64 y20)])] /\
 callM P 69 #[(VP b1 0), s37.v] h17 fun r9 h18 => ∃ y21 : Sl, ∃ y22 : Int, ∃ y23 : Int, ∃ s38 : Int, r9 = (VI s38) /\ Vars h18 [(b5, [s15.v, (VI s15b)]), (b4, [s7.v]), (b3, [nilSl.v, (VI 0)]), (b2, [nilSl.v]), (b1, [y21.v, (VI y22), (Value.int .u64 y23)])] /\
 InB s15 s35 /\
 Writable h18 (Sl.at s15 s35 1) /\ Vars (hset h18 (Sl.at s15 s35 1) (VI s38)) [(b5, [s15.v, (VI s15b)]), (b4, [s7.v]), (b3, [nilSl.v, (VI 0)]), (b2, [nilSl.v]), (b1, [y21.v, (VI y22), (Value.int .u64 y23)])] /\
 ∀ h19 : Heap, h19 = hset h18 (Sl.at s15 s35 1) (VI s38) -> Vars h19 [(b5, [s15.v, (VI s15b)]), (b4, [s7.v]), (b3, [nilSl.v, (VI 0)]), (b2, [nilSl.v]), (b1, [y21.v, (VI y22), (Value.int .u64 y23)])] ->
 J1 s15 s15b y21 y22 y23 h19) /\
 (eop P (Instr.buildSlice 33 3 #[(0, (.int .i64 (-1))), (1, (.int .i64 4)), (2, (.int .i64 5))]) h12 fun r10 h20 => ∃ s37b : Sl, r10 = s37b.v /\ Vars h20 [(b5, [s15.v, (VI s15b)]), (b4, [s7.v]), (b3, [nilSl.v, (VI 0)]), (b2, [nilSl.v]), (b1, [y12.v, (VI y13), (Value.int .u64 y14)])] /\
 callM P 70 #[(VP b1 0), (VI (s15.n : Int))] h20 fun r11 h21 => ∃ y24 : Sl, ∃ y25 : Int, ∃ y26 : Int, ∃ s35b : Int, r11 = (VI s35b) /\ Vars h21 [(b5, [s15.v, (VI s15b)]), (b4, [s7.v]), (b3, [nilSl.v, (VI 0)]), (b2, [nilSl.v]), (b1, [y24.v, (VI y25), (Value.int .u64 y26)])] /\
 callM P 69 #[(VP b1 0), s37b.v] h21 fun r12 h22 => ∃ y27 : Sl, ∃ y28 : Int, ∃ y29 : Int, ∃ s38b : Int, r12 = (VI s38b) /\ Vars h22 [(b5, [s15.v, (VI s15b)]), (b4, [s7.v]), (b3, [nilSl.v, (VI 0)]), (b2, [nilSl.v]), (b1, [y27.v, (VI y28), (Value.int .u64 y29)])] /\
 InB s15 s35b /\
 Writable h22 (Sl.at s15 s35b 1) /\ Vars (hset h22 (Sl.at s15 s35b 1) (VI s38b)) [(b5, [s15.v, (VI s15b)]), (b4, [s7.v]), (b3, [nilSl.v, (VI 0)]), (b2, [nilSl.v]), (b1, [y27.v, (VI y28), (Value.int .u64 y29)])] /\
 ∀ h23 : Heap, h23 = hset h22 (Sl.at s15 s35b 1) (VI s38b) -> Vars h23 [(b5, [s15.v, (VI s15b)]), (b4, [s7.v]), (b3, [nilSl.v, (VI 0)]), (b2, [nilSl.v]), (b1, [y27.v, (VI y28), (Value.int .u64 y29)])] ->
 J1 s15 s15b y27 y28 y29 h23)) /\
 ((decide (s17 = 1)) = false ->
 ((decide (s17 = 2)) = true ->
 eop P (Instr.buildSlice 33 1 #[(0, (.int .i64 0))]) h12 fun r13 h24 => ∃ s44 : Sl, r13 = s44.v /\ Vars h24 [(b5, [s15.v, (VI s15b)]), (b4, [s7.v]), (b3, [nilSl.v, (VI 0)]), (b2, [nilSl.v]), (b1, [y12.v, (VI y13), (Value.int .u64 y14)])] /\
 eop P (appS 33 33 33 s15.v s44.v) h24 fun r14 h25 => ∃ s45 : Sl, r14 = s45.v /\ Vars h25 [(b5, [s15.v, (VI s15b)]), (b4, [s7.v]), (b3, [nilSl.v, (VI 0)]), (b2, [nilSl.v]), (b1, [y12.v, (VI y13), (Value.int .u64 y14)])] /\
 ∀ (h26 : Heap), Fr (In [b5]) h25 h26 -> Vars h26 [(b5, [s45.v, (VI s15b)]), (b4, [s7.v]), (b3, [nilSl.v, (VI 0)]), (b2, [nilSl.v]), (b1, [y12.v, (VI y13), (Value.int .u64 y14)])] ->
 J1 s45 s15b y12 y13 y14 h26) /\
 ((decide (s17 = 2)) = false ->
 J1 s15 s15b y12 y13 y14 h12)))) /\
 ∀ (y7 : Sl) (y8 : Int) (y9 : Sl) (y10 : Int) (y11 : Int) (h27 : Heap), J1 y7 y8 y9 y10 y11 h27 -> Vars h27 [(b5, [y7.v, (VI y8)]), (b4, [s7.v]), (b3, [nilSl.v, (VI 0)]), (b2, [nilSl.v]), (b1, [y9.v, (VI y10), (Value.int .u64 y11)])] ->
 ∀ (h28 : Heap), Fr (In [b2]) h27 h28 -> Vars h28 [(b5, [y7.v, (VI y8)]), (b4, [s7.v]), (b3, [nilSl.v, (VI 0)]), (b2, [s7.v]), (b1, [y9.v, (VI y10), (Value.int .u64 y11)])] ->
 ∀ (h29 : Heap), Fr (In [b3]) h28 h29 -> Vars h29 [(b5, [y7.v, (VI y8)]), (b4, [s7.v]), (b3, [y7.v, (VI y8)]), (b2, [s7.v]), (b1, [y9.v, (VI y10), (Value.int .u64 y11)])] ->
 K (.tuple #[(.agg #[s7.v]), (.agg #[y7.v, (VI y8)])]) h29)
theorem v67 (b1 : Nat) (c0_1 : Sl) (c0_2 : Int) (c0_3 : Int) (h : Heap) (K : Value -> Heap -> Prop) (hL : Vars h [(b1, [c0_1.v, (VI c0_2), (Value.int .u64 c0_3)])]) (H : u67 Tryz.prog b1 c0_1 c0_2 c0_3 h K) : callM Tryz.prog 67 #[(VP b1 0)] h K := by
  refine c67 (VP b1 0) h K ?_
  unfold u67 at H
  unfold t67
  refine eop_alloc 26 zer26 rfl hL (fun b2 h1 hb1 hf1 hL1 => ?_)
  refine eop_alloc 54 zer54 rfl hL1 (fun b3 h2 hb2 hf2 hL2 => ?_)
  have H := H b2 b3 h2 hb1 (Nat.le_trans (Fr.size (Fr.no' (Fr.r (In []) _) hf1)) hb2) (Fr.no' (Fr.no' (Fr.r (In []) _) hf1) hf2) hL2
  refine H.mono fun r1 h3 H => ?_
  obtain ⟨y1, y2, y3, s7, rfl, hL3, H⟩ := H
  refine eop_alloc 26 zer26 rfl hL3 (fun b4 h4 hb3 hf3 hL4 => ?_)
  refine uop_loc siz26 hL4 0 rfl 0 [s7.v] rfl rfl rfl (Nat.le_of_ble_eq_true rfl) (L' := [(b4, [s7.v]), (b3, [nilSl.v, (VI 0)]), (b2, [nilSl.v]), (b1, [y1.v, (VI y2), (Value.int .u64 y3)])]) rfl (fun h5 hf4 hL5 => ?_)
  refine rop_locA agg26 hL5 0 rfl 0 (vs := [s7.v]) rfl rfl ?_
  have H := H b4 h5 hb3 (Fr.new (Fr.no' (Fr.r (In []) _) hf3) hb3 hf4) hL5
  refine H.mono fun r2 h6 H => ?_
  obtain ⟨s9, rfl, hL6, H⟩ := H
  refine pop_not s9 ?_
  refine condM_b (fun hb4 => ?_) (fun hb4 => ?_)
  ·have H := H.1 hb4
   refine rop_locA agg26 hL6 0 rfl 0 (vs := [s7.v]) rfl rfl ?_
   refine pop.mk' (v := (Value.agg #[nilSl.v, (VI 0)])) (fun w => by kernel_rfl) ?_
   refine uop_loc siz26 hL6 2 rfl 0 [s7.v] rfl rfl rfl (Nat.le_of_ble_eq_true rfl) (L' := [(b4, [s7.v]), (b3, [nilSl.v, (VI 0)]), (b2, [s7.v]), (b1, [y1.v, (VI y2), (Value.int .u64 y3)])]) rfl (fun h7 hf5 hL7 => ?_)
   refine uop_loc siz54 hL7 1 rfl 0 [nilSl.v, (VI 0)] rfl rfl rfl (Nat.le_of_ble_eq_true rfl) (L' := [(b4, [s7.v]), (b3, [nilSl.v, (VI 0)]), (b2, [s7.v]), (b1, [y1.v, (VI y2), (Value.int .u64 y3)])]) rfl (fun h8 hf6 hL8 => ?_)
   refine rop_locA agg26 hL8 2 rfl 0 (vs := [s7.v]) rfl rfl ?_
   refine rop_locA agg54 hL8 1 rfl 0 (vs := [nilSl.v, (VI 0)]) rfl rfl ?_
   have H := H  h8  (Fr.old (Fr.old (Fr.r (In []) _) hf5) hf6) hL8
   exact H
  have H := H.2 hb4
  refine rop_locA agg26 hL6 0 rfl 0 (vs := [s7.v]) rfl rfl ?_
  refine H.mono fun r3 h9 H => ?_
  obtain ⟨y4, y5, y6, s15, s15b, rfl, hL9, H⟩ := H
  refine eop_alloc 54 zer54 rfl hL9 (fun b5 h10 hb5 hf7 hL10 => ?_)
  refine uop_loc siz54 hL10 0 rfl 0 [s15.v, (VI s15b)] rfl rfl rfl (Nat.le_of_ble_eq_true rfl) (L' := [(b5, [s15.v, (VI s15b)]), (b4, [s7.v]), (b3, [nilSl.v, (VI 0)]), (b2, [nilSl.v]), (b1, [y4.v, (VI y5), (Value.int .u64 y6)])]) rfl (fun h11 hf8 hL11 => ?_)
  have H := H b5 h11 hb5 (Fr.new (Fr.no' (Fr.r (In []) _) hf7) hb5 hf8) hL11
  obtain ⟨J1, H, HB1⟩ := H
  refine ⟨fun (vs : List Value) (h' : Heap) => ∃ y7 : Sl, ∃ y8 : Int, ∃ y9 : Sl, ∃ y10 : Int, ∃ y11 : Int, vs = [] /\ J1 y7 y8 y9 y10 y11 h' /\ Vars h' [(b5, [y7.v, (VI y8)]), (b4, [s7.v]), (b3, [nilSl.v, (VI 0)]), (b2, [nilSl.v]), (b1, [y9.v, (VI y10), (Value.int .u64 y11)])], ?_, ?_⟩
  ·refine H.mono fun r4 h12 H => ?_
   obtain ⟨y12, y13, y14, s17, rfl, hL12, H⟩ := H
   refine pop_ieq .i64 _ _ s17 0 ?_
   refine condM_b (fun hb6 => ?_) (fun hb6 => ?_)
   ·have H := H.1 hb6
    refine pop_field 0 fld26_0 b4 0 ?_
    refine rop_loc one24 hL12 1 rfl 0 (v := s7.v) rfl ?_
    refine pop_len s7 _ _ sli24 ?_
    refine H.mono fun r5 h13 H => ?_
    obtain ⟨s24, rfl, hL13, H⟩ := H
    refine H.mono fun r6 h14 H => ?_
    obtain ⟨y15, y16, y17, s25, rfl, hL14, H⟩ := H
    refine pop_field 1 fld54_1 b5 0 ?_
    refine uop_loc siz3 hL14 0 rfl 1 [(VI s25)] rfl rfl rfl (Nat.le_of_ble_eq_true rfl) (L' := [(b5, [s15.v, (VI s25)]), (b4, [s7.v]), (b3, [nilSl.v, (VI 0)]), (b2, [nilSl.v]), (b1, [y15.v, (VI y16), (Value.int .u64 y17)])]) rfl (fun h15 hf9 hL15 => ?_)
    have H := H  h15  (Fr.old (Fr.r (In []) _) hf9) hL15
    exact ⟨s15, s25, y15, y16, y17, rfl, H, hL15⟩
   have H := H.2 hb6
   refine pop_ieq .i64 _ _ s17 1 ?_
   refine condM_b (fun hb7 => ?_) (fun hb7 => ?_)
   rotate_left
   ·have H := H.2 hb7
    refine pop_ieq .i64 _ _ s17 2 ?_
    refine condM_b (fun hb8 => ?_) (fun hb8 => ?_)
    rotate_left
    ·have H := H.2 hb8
     exact ⟨s15, s15b, y12, y13, y14, rfl, H, hL12⟩
    have H := H.1 hb8
    refine pop_field 0 fld54_0 b5 0 ?_
    refine rop_loc one33 hL12 0 rfl 0 (v := s15.v) rfl ?_
    refine H.mono fun r13 h24 H => ?_
    obtain ⟨s44, rfl, hL24, H⟩ := H
    refine H.mono fun r14 h25 H => ?_
    obtain ⟨s45, rfl, hL25, H⟩ := H
    refine pop_field 0 fld54_0 b5 0 ?_
    refine uop_loc siz33 hL25 0 rfl 0 [s45.v] rfl rfl rfl (Nat.le_of_ble_eq_true rfl) (L' := [(b5, [s45.v, (VI s15b)]), (b4, [s7.v]), (b3, [nilSl.v, (VI 0)]), (b2, [nilSl.v]), (b1, [y12.v, (VI y13), (Value.int .u64 y14)])]) rfl (fun h26 hf10 hL26 => ?_)
    have H := H  h26  (Fr.old (Fr.r (In []) _) hf10) hL26
    exact ⟨s45, s15b, y12, y13, y14, rfl, H, hL26⟩
   have H := H.1 hb7
   refine pop_field 0 fld54_0 b5 0 ?_
   refine rop_loc one33 hL12 0 rfl 0 (v := s15.v) rfl ?_
   refine pop_field 0 fld54_0 b5 0 ?_
   refine rop_loc one33 hL12 0 rfl 0 (v := s15.v) rfl ?_
   refine pop_len s15 _ _ sli33 ?_
   refine ⟨?_, ?_⟩
   ·have H := H.1
    refine H.mono fun r7 h16 H => ?_
    obtain ⟨y18, y19, y20, s35, rfl, hL16, H⟩ := H
    refine ⟨?_, ?_⟩
    ·exact still_loc one33 hL16 0 rfl 0 (v := s15.v) rfl
    refine ⟨?_, ?_⟩
    ·exact still_loc one33 hL16 0 rfl 0 (v := s15.v) rfl
    refine H.mono fun r8 h17 H => ?_
    obtain ⟨s37, rfl, hL17, H⟩ := H
    refine ⟨?_, ?_⟩
    ·exact still_loc one33 hL17 0 rfl 0 (v := s15.v) rfl
    refine ⟨?_, ?_⟩
    ·exact still_loc one33 hL17 0 rfl 0 (v := s15.v) rfl
    refine H.mono fun r9 h18 H => ?_
    obtain ⟨y21, y22, y23, s38, rfl, hL18, H⟩ := H
    refine ⟨?_, ?_⟩
    ·exact still_loc one33 hL18 0 rfl 0 (v := s15.v) rfl
    refine ⟨?_, ?_⟩
    ·exact still_loc one33 hL18 0 rfl 0 (v := s15.v) rfl
    obtain ⟨hi1, H⟩ := H
    refine pop_index sli33 siz3 .i64 s15 s35 hi1 ?_
    obtain ⟨hw_1, hL19, H⟩ := H
    refine uop_cell (v := (VI s38)) siz3 hw_1 rfl (fun h19 he_1 => ?_)
    rw [← he_1] at hL19
    have H := H h19 he_1 hL19
    exact ⟨s15, s15b, y21, y22, y23, rfl, H, hL19⟩
   have H := H.2
   refine H.mono fun r10 h20 H => ?_
   obtain ⟨s37b, rfl, hL20, H⟩ := H
   refine ⟨?_, ?_⟩
   ·exact still_loc one33 hL20 0 rfl 0 (v := s15.v) rfl
   refine ⟨?_, ?_⟩
   ·exact still_loc one33 hL20 0 rfl 0 (v := s15.v) rfl
   refine H.mono fun r11 h21 H => ?_
   obtain ⟨y24, y25, y26, s35b, rfl, hL21, H⟩ := H
   refine ⟨?_, ?_⟩
   ·exact still_loc one33 hL21 0 rfl 0 (v := s15.v) rfl
   refine ⟨?_, ?_⟩
   ·exact still_loc one33 hL21 0 rfl 0 (v := s15.v) rfl
   refine H.mono fun r12 h22 H => ?_
   obtain ⟨y27, y28, y29, s38b, rfl, hL22, H⟩ := H
   refine ⟨?_, ?_⟩
   ·exact still_loc one33 hL22 0 rfl 0 (v := s15.v) rfl
   refine ⟨?_, ?_⟩
   ·exact still_loc one33 hL22 0 rfl 0 (v := s15.v) rfl
   obtain ⟨hi2, H⟩ := H
   refine pop_index sli33 siz3 .i64 s15 s35b hi2 ?_
   obtain ⟨hw_2, hL23, H⟩ := H
   refine uop_cell (v := (VI s38b)) siz3 hw_2 rfl (fun h23 he_2 => ?_)
   rw [← he_2] at hL23
   have H := H h23 he_2 hL23
   exact ⟨s15, s15b, y27, y28, y29, rfl, H, hL23⟩
  intro junk1  h27
  rintro ⟨y7, y8, y9, y10, y11, hv, hJ1, hL27⟩
  have H := HB1 y7 y8 y9 y10 y11 h27 hJ1 hL27
  refine rop_locA agg26 hL27 1 rfl 0 (vs := [s7.v]) rfl rfl ?_
  refine rop_locA agg54 hL27 0 rfl 0 (vs := [y7.v, (VI y8)]) rfl rfl ?_
  refine uop_loc siz26 hL27 3 rfl 0 [s7.v] rfl rfl rfl (Nat.le_of_ble_eq_true rfl) (L' := [(b5, [y7.v, (VI y8)]), (b4, [s7.v]), (b3, [nilSl.v, (VI 0)]), (b2, [s7.v]), (b1, [y9.v, (VI y10), (Value.int .u64 y11)])]) rfl (fun h28 hf11 hL28 => ?_)
  have H := H  h28  (Fr.old (Fr.r (In []) _) hf11) hL28
  refine ⟨?_, ?_⟩
  ·exact still_locA agg54 hL28 0 rfl 0 (vs := [y7.v, (VI y8)]) rfl rfl
  refine uop_loc siz54 hL28 2 rfl 0 [y7.v, (VI y8)] rfl rfl rfl (Nat.le_of_ble_eq_true rfl) (L' := [(b5, [y7.v, (VI y8)]), (b4, [s7.v]), (b3, [y7.v, (VI y8)]), (b2, [s7.v]), (b1, [y9.v, (VI y10), (Value.int .u64 y11)])]) rfl (fun h29 hf12 hL29 => ?_)
  refine rop_locA agg26 hL29 3 rfl 0 (vs := [s7.v]) rfl rfl ?_
  refine rop_locA agg54 hL29 2 rfl 0 (vs := [y7.v, (VI y8)]) rfl rfl ?_
  have H := H  h29  (Fr.old (Fr.r (In []) _) hf12) hL29
  exact H
def u68 (P : Program) (b1 : Nat) (c0_1 : Sl) (c0_2 : Int) (c0_3 : Int) (n1_1 : Int) (h : Heap) (K : Value -> Heap -> Prop) : Prop :=
 callM P 70 #[(VP b1 0), (VI n1_1)] h fun r1 h1 => ∃ y1 : Sl, ∃ y2 : Int, ∃ y3 : Int, ∃ s7 : Int, r1 = (VI s7) /\ Vars h1 [(b1, [y1.v, (VI y2), (Value.int .u64 y3)])] /\
 K (VB (decide (s7 = 0))) h1
theorem v68 (b1 : Nat) (c0_1 : Sl) (c0_2 : Int) (c0_3 : Int) (n1_1 : Int) (h : Heap) (K : Value -> Heap -> Prop) (hL : Vars h [(b1, [c0_1.v, (VI c0_2), (Value.int .u64 c0_3)])]) (H : u68 Tryz.prog b1 c0_1 c0_2 c0_3 n1_1 h K) : callM Tryz.prog 68 #[(VP b1 0), (VI n1_1)] h K := by
  refine c68 (VP b1 0) (VI n1_1) h K ?_
  unfold u68 at H
  unfold t68
  refine H.mono fun r1 h1 H => ?_
  obtain ⟨y1, y2, y3, s7, rfl, hL1, H⟩ := H
  refine pop_ieq .i64 _ _ s7 0 ?_
  exact H
def u69 (P : Program) (b1 : Nat) (c0_1 : Sl) (c0_2 : Int) (c0_3 : Int) (list1_1 : Sl) (h : Heap) (K : Value -> Heap -> Prop) : Prop :=
 callM P 70 #[(VP b1 0), (VI (list1_1.n : Int))] h fun r1 h1 => ∃ y1 : Sl, ∃ y2 : Int, ∃ y3 : Int, ∃ s9 : Int, r1 = (VI s9) /\ Vars h1 [(b1, [y1.v, (VI y2), (Value.int .u64 y3)])] /\
 InB list1_1 s9 /\
 ∃ s11 : Int, hcell h1 (Sl.at list1_1 s9 1) = some (VI s11) /\
 K (VI s11) h1
theorem v69 (b1 : Nat) (c0_1 : Sl) (c0_2 : Int) (c0_3 : Int) (list1_1 : Sl) (h : Heap) (K : Value -> Heap -> Prop) (hL : Vars h [(b1, [c0_1.v, (VI c0_2), (Value.int .u64 c0_3)])]) (H : u69 Tryz.prog b1 c0_1 c0_2 c0_3 list1_1 h K) : callM Tryz.prog 69 #[(VP b1 0), list1_1.v] h K := by
  refine c69 (VP b1 0) list1_1.v h K ?_
  unfold u69 at H
  unfold t69
  refine pop_len list1_1 _ _ sli33 ?_
  refine H.mono fun r1 h1 H => ?_
  obtain ⟨y1, y2, y3, s9, rfl, hL1, H⟩ := H
  obtain ⟨hi1, H⟩ := H
  refine pop_index sli33 siz3 .i64 list1_1 s9 hi1 ?_
  obtain ⟨s11, hc1, H⟩ := H
  refine rop_one one3 (VI s11) hc1 ?_
  exact H
def u70 (P : Program) (b1 : Nat) (c0_1 : Sl) (c0_2 : Int) (c0_3 : Int) (n1_1 : Int) (h : Heap) (K : Value -> Heap -> Prop) : Prop :=
 ((decide (n1_1 ≤ 1)) = true ->
 K (VI 0) h) /\
 ((decide (n1_1 ≤ 1)) = false ->
 callM P 122 #[(VP b1 0)] h fun r1 h1 => ∃ y1 : Sl, ∃ y2 : Int, ∃ y3 : Int, ∃ s9 : Int, r1 = (VI s9) /\ Vars h1 [(b1, [y1.v, (VI y2), (Value.int .u64 y3)])] /\
 ∃ J1 : Int -> Sl -> Int -> Int -> Heap -> Prop, (((decide (200 < n1_1)) = true ->
 callM P 122 #[(VP b1 0)] h1 fun r2 h2 => ∃ y8 : Sl, ∃ y9 : Int, ∃ y10 : Int, ∃ s15 : Int, r2 = (VI s15) /\ Vars h2 [(b1, [y8.v, (VI y9), (Value.int .u64 y10)])] /\
 J1 (w64 ((w64 (s9 * 256)) + s15)) y8 y9 y10 h2) /\
 ((decide (200 < n1_1)) = false ->
 J1 s9 y1 y2 y3 h1)) /\
 ∀ (y4 : Int) (y5 : Sl) (y6 : Int) (y7 : Int) (h3 : Heap), J1 y4 y5 y6 y7 h3 -> Vars h3 [(b1, [y5.v, (VI y6), (Value.int .u64 y7)])] ->
 n1_1 ≠ 0 /\
 K (VI (Int.tmod y4 n1_1)) h3)
theorem v70 (b1 : Nat) (c0_1 : Sl) (c0_2 : Int) (c0_3 : Int) (n1_1 : Int) (h : Heap) (K : Value -> Heap -> Prop) (hL : Vars h [(b1, [c0_1.v, (VI c0_2), (Value.int .u64 c0_3)])]) (H : u70 Tryz.prog b1 c0_1 c0_2 c0_3 n1_1 h K) : callM Tryz.prog 70 #[(VP b1 0), (VI n1_1)] h K := by
  refine c70 (VP b1 0) (VI n1_1) h K ?_
  unfold u70 at H
  unfold t70
  refine pop_leq .i64 n1_1 1 ?_
  refine condM_b (fun hb1 => ?_) (fun hb1 => ?_)
  ·exact H.1 hb1
  have H := H.2 hb1
  refine H.mono fun r1 h1 H => ?_
  obtain ⟨y1, y2, y3, s9, rfl, hL1, H⟩ := H
  obtain ⟨J1, H, HB1⟩ := H
  refine ⟨fun (vs : List Value) (h' : Heap) => ∃ y4 : Int, ∃ y5 : Sl, ∃ y6 : Int, ∃ y7 : Int, vs = [(VI y4)] /\ J1 y4 y5 y6 y7 h' /\ Vars h' [(b1, [y5.v, (VI y6), (Value.int .u64 y7)])], ?_, ?_⟩
  ·refine pop_gtr .i64 n1_1 200 ?_
   refine condM_b (fun hb2 => ?_) (fun hb2 => ?_)
   rotate_left
   ·have H := H.2 hb2
    exact ⟨s9, y1, y2, y3, rfl, H, hL1⟩
   have H := H.1 hb2
   refine pop_mul .i64 s9 256 ?_
   refine H.mono fun r2 h2 H => ?_
   obtain ⟨y8, y9, y10, s15, rfl, hL2, H⟩ := H
   refine pop_add .i64 (w64 (s9 * 256)) s15 ?_
   exact ⟨(w64 ((w64 (s9 * 256)) + s15)), y8, y9, y10, rfl, H, hL2⟩
  intro junk1 tv1 h3
  rintro ⟨y4, y5, y6, y7, hv, hJ1, hL3⟩
  cases hv
  have H := HB1 y4 y5 y6 y7 h3 hJ1 hL3
  obtain ⟨hz_1, H⟩ := H
  refine pop_rem .i64 y4 n1_1 hz_1 ?_
  exact H
def u72 (P : Program) (n0_1 : Int) (low1_1 : Int) (high2_1 : Int) (h : Heap) (K : Value -> Heap -> Prop) : Prop :=
 ((decide (low1_1 ≤ n0_1)) = true ->
 K (VB (decide (n0_1 ≤ high2_1))) h) /\
 ((decide (low1_1 ≤ n0_1)) = false ->
 K (VB false) h)
theorem v72 (n0_1 : Int) (low1_1 : Int) (high2_1 : Int) (h : Heap) (K : Value -> Heap -> Prop) (H : u72 Tryz.prog n0_1 low1_1 high2_1 h K) : callM Tryz.prog 72 #[(VI n0_1), (VI low1_1), (VI high2_1)] h K := by
  refine c72 (VI n0_1) (VI low1_1) (VI high2_1) h K ?_
  unfold u72 at H
  unfold t72
  have hL : Vars h [] := .nil
  refine pop_leq .i64 low1_1 n0_1 ?_
  refine guardM_st (fun hb1 => ?_) (fun hb1 => ?_)
  rotate_left
  ·have H := H.2 hb1
   refine guardM_n' hb1 (by decide) ?_
   refine guardM_n' hb1 (by decide) ?_
   refine pop_pickf' hb1 ?_
   exact H
  have H := H.1 hb1
  refine guardM_y' hb1 ?_
  refine guardM_y' hb1 ?_
  refine pop_leq .i64 n0_1 high2_1 ?_
  refine pop_pickt' hb1 ?_
  exact H
def u73 (P : Program) (g0_1 : Sl) (w1_1 : Sl) (w1_2 : Int) (h : Heap) (K : Value -> Heap -> Prop) : Prop :=
 ∀ (b1 : Nat) (b2 : Nat) (h2 : Heap), h.size ≤ b1 -> h.size ≤ b2 -> Fr (In []) h h2 -> Vars h2 [(b2, [w1_1.v, (VI w1_2)]), (b1, [g0_1.v])] ->
 callM P 55 #[(.agg #[g0_1.v]), (VI w1_2)] h2 fun r1 h3 => ∃ s10 : Bool, r1 = (VB s10) /\ Vars h3 [(b2, [w1_1.v, (VI w1_2)]), (b1, [g0_1.v])] /\
 ((!s10) = true ->
 K (VB false) h3) /\
 ((!s10) = false ->
 ((!decide ((w1_1.n : Int) = (g0_1.n : Int))) = true ->
 K (VB false) h3) /\
 ((!decide ((w1_1.n : Int) = (g0_1.n : Int))) = false ->
 ∃ J1 : Nat -> Int -> Heap -> Prop, (∃ n0 : Nat, J1 n0 0 h3) /\
 ∀ (n1 : Nat) (s24 : Int) (h4 : Heap), J1 n1 s24 h4 -> Vars h4 [(b2, [w1_1.v, (VI w1_2)]), (b1, [g0_1.v])] ->
 ((decide (s24 < (g0_1.n : Int))) = true ->
 InB g0_1 s24 /\
 ∃ s28 : Sl, hcell h4 (Sl.at g0_1 s24 1) = some s28.v /\
 InB w1_1 s24 /\
 ∃ s33 : Int, hcell h4 (Sl.at w1_1 s24 1) = some (VI s33) /\
 callM P 123 #[(VI 0), (VI (w64 ((s28.n : Int) - 1)))] h4 fun r2 h5 => ∃ s37 : Int, r2 = (VI s37) /\ Vars h5 [(b2, [w1_1.v, (VI w1_2)]), (b1, [g0_1.v])] /\
 hcell h5 (Sl.at w1_1 s24 1) = some (VI s33) /\
 callM P 74 #[(VI s33), (VI 0), (VI s37)] h5 fun r3 h6 => ∃ s38 : Bool, r3 = (VB s38) /\ Vars h6 [(b2, [w1_1.v, (VI w1_2)]), (b1, [g0_1.v])] /\
 ((!s38) = true ->
 K (VB false) h6) /\
 ((!s38) = false ->
 ∃ m : Nat, m < n1 /\ J1 m (w64 (s24 + 1)) h6)) /\
 ((decide (s24 < (g0_1.n : Int))) = false ->
 K (VB true) h4)))
theorem v73 (g0_1 : Sl) (w1_1 : Sl) (w1_2 : Int) (h : Heap) (K : Value -> Heap -> Prop) (H : u73 Tryz.prog g0_1 w1_1 w1_2 h K) : callM Tryz.prog 73 #[(Value.agg #[g0_1.v]), (Value.agg #[w1_1.v, (VI w1_2)])] h K := by
  refine c73 (Value.agg #[g0_1.v]) (Value.agg #[w1_1.v, (VI w1_2)]) h K ?_
  unfold u73 at H
  unfold t73
  have hL : Vars h [] := .nil
  refine eop_box 26 (Value.agg #[g0_1.v]) rfl hL (fun b1 h1 hb1 hf1 hL1 => ?_)
  refine eop_box 54 (Value.agg #[w1_1.v, (VI w1_2)]) rfl hL1 (fun b2 h2 hb2 hf2 hL2 => ?_)
  refine rop_locA agg26 hL2 1 rfl 0 (vs := [g0_1.v]) rfl rfl ?_
  refine pop_field 1 fld54_1 b2 0 ?_
  refine rop_loc one3 hL2 0 rfl 1 (v := (VI w1_2)) rfl ?_
  have H := H b1 b2 h2 hb1 (Nat.le_trans (Fr.size (Fr.no' (Fr.r (In []) _) hf1)) hb2) (Fr.no' (Fr.no' (Fr.r (In []) _) hf1) hf2) hL2
  refine H.mono fun r1 h3 H => ?_
  obtain ⟨s10, rfl, hL3, H⟩ := H
  refine pop_not s10 ?_
  refine guardM_sf (fun hb3 => ?_) (fun hb3 => ?_)
  rotate_left
  ·have H := H.1 hb3
   refine guardM_n' hb3 (by decide) ?_
   refine guardM_n' hb3 (by decide) ?_
   refine guardM_n' hb3 (by decide) ?_
   refine guardM_n' hb3 (by decide) ?_
   refine guardM_n' hb3 (by decide) ?_
   refine guardM_n' hb3 (by decide) ?_
   refine pop_pickt' hb3 ?_
   refine condM_t ?_
   exact H
  have H := H.2 hb3
  refine pop_field 0 fld54_0 b2 0 ?_
  refine guardM_y' hb3 ?_
  refine rop_loc one33 hL3 0 rfl 0 (v := w1_1.v) rfl ?_
  refine guardM_y' hb3 ?_
  refine pop_len w1_1 _ _ sli33 ?_
  refine guardM_y' hb3 ?_
  refine pop_field 0 fld26_0 b1 0 ?_
  refine guardM_y' hb3 ?_
  refine rop_loc one24 hL3 1 rfl 0 (v := g0_1.v) rfl ?_
  refine guardM_y' hb3 ?_
  refine pop_len g0_1 _ _ sli24 ?_
  refine guardM_y' hb3 ?_
  refine pop_ine .i64 _ _ (w1_1.n : Int) (g0_1.n : Int) ?_
  refine pop_pickf' hb3 ?_
  refine condM_b (fun hb4 => ?_) (fun hb4 => ?_)
  ·exact H.1 hb4
  have H := H.2 hb4
  refine pop_field 0 fld26_0 b1 0 ?_
  refine rop_loc one24 hL3 1 rfl 0 (v := g0_1.v) rfl ?_
  refine pop_len g0_1 _ _ sli24 ?_
  obtain ⟨J1, ⟨n2, h0_1⟩, HB1⟩ := H
  refine loop_intro (J := fun (n : Nat) (vs : List Value) (h' : Heap) => ∃ s24 : Int, vs = [(VI s24)] /\ J1 n s24 h' /\ Vars h' [(b2, [w1_1.v, (VI w1_2)]), (b1, [g0_1.v])]) n2 ⟨0, rfl, h0_1, hL3⟩ ?_
  intro I1 mu1 hI1 junk1 tv1 h4 hi1
  obtain ⟨n1, ⟨s24, hv, hJ1, hL4⟩, hn1⟩ := hI1 _ _ hi1
  cases hv
  have H := HB1 n1 s24 h4 hJ1 hL4
  refine pop_lss .i64 s24 (g0_1.n : Int) ?_
  refine condM_b (fun hb5 => ?_) (fun hb5 => ?_)
  rotate_left
  ·exact H.2 hb5
  have H := H.1 hb5
  obtain ⟨hi2, H⟩ := H
  refine pop_index sli24 siz33 .i64 g0_1 s24 hi2 ?_
  obtain ⟨s28, hc3, H⟩ := H
  refine rop_one one33 s28.v hc3 ?_
  refine pop_field 0 fld54_0 b2 0 ?_
  refine rop_loc one33 hL4 0 rfl 0 (v := w1_1.v) rfl ?_
  obtain ⟨hi3, H⟩ := H
  refine pop_index sli33 siz3 .i64 w1_1 s24 hi3 ?_
  obtain ⟨s33, hc2, H⟩ := H
  refine rop_one one3 (VI s33) hc2 ?_
  refine pop_len s28 _ _ sli33 ?_
  refine pop_sub .i64 (s28.n : Int) 1 ?_
  refine H.mono fun r2 h5 H => ?_
  obtain ⟨s37, rfl, hL5, H⟩ := H
  refine ⟨?_, ?_⟩
  ·exact still_one one3 H.1
  obtain ⟨hc1, H⟩ := H
  refine ⟨?_, ?_⟩
  ·exact still_loc one33 hL5 0 rfl 0 (v := w1_1.v) rfl
  refine H.mono fun r3 h6 H => ?_
  obtain ⟨s38, rfl, hL6, H⟩ := H
  refine ⟨?_, ?_⟩
  ·exact still_loc one33 hL6 0 rfl 0 (v := w1_1.v) rfl
  refine pop_not s38 ?_
  refine condM_b (fun hb6 => ?_) (fun hb6 => ?_)
  ·exact H.1 hb6
  have H := H.2 hb6
  refine pop_add .i64 s24 1 ?_
  obtain ⟨m_1, hm_1, H⟩ := H
  exact hn1 _ _ ⟨m_1, hm_1, (w64 (s24 + 1)), rfl, H, hL6⟩
def u74 (P : Program) (n0_1 : Int) (lo1_1 : Int) (hi2_1 : Int) (h : Heap) (K : Value -> Heap -> Prop) : Prop :=
 ((decide (lo1_1 ≤ n0_1)) = true ->
 K (VB (decide (n0_1 ≤ hi2_1))) h) /\
 ((decide (lo1_1 ≤ n0_1)) = false ->
 K (VB false) h)
theorem v74 (n0_1 : Int) (lo1_1 : Int) (hi2_1 : Int) (h : Heap) (K : Value -> Heap -> Prop) (H : u74 Tryz.prog n0_1 lo1_1 hi2_1 h K) : callM Tryz.prog 74 #[(VI n0_1), (VI lo1_1), (VI hi2_1)] h K := by
  refine c74 (VI n0_1) (VI lo1_1) (VI hi2_1) h K ?_
  unfold u74 at H
  unfold t74
  have hL : Vars h [] := .nil
  refine pop_geq .i64 n0_1 lo1_1 ?_
  refine guardM_st (fun hb1 => ?_) (fun hb1 => ?_)
  rotate_left
  ·have H := H.2 hb1
   refine guardM_n' hb1 (by decide) ?_
   refine guardM_n' hb1 (by decide) ?_
   refine pop_pickf' hb1 ?_
   exact H
  have H := H.1 hb1
  refine guardM_y' hb1 ?_
  refine guardM_y' hb1 ?_
  refine pop_leq .i64 n0_1 hi2_1 ?_
  refine pop_pickt' hb1 ?_
  exact H
def u75 (P : Program) (s0_1 : Sl) (f1_1 : Value) (h : Heap) (K : Value -> Heap -> Prop) : Prop :=
 callM P 124 #[s0_1.v, f1_1] h fun r1 h1 => ∃ s7 : Int, r1 = (VI s7) /\ Vars h1 [] /\
 K (VB (decide (0 ≤ s7))) h1
theorem v75 (s0_1 : Sl) (f1_1 : Value) (h : Heap) (K : Value -> Heap -> Prop) (H : u75 Tryz.prog s0_1 f1_1 h K) : callM Tryz.prog 75 #[s0_1.v, f1_1] h K := by
  refine c75 s0_1.v f1_1 h K ?_
  unfold u75 at H
  unfold t75
  have hL : Vars h [] := .nil
  refine H.mono fun r1 h1 H => ?_
  obtain ⟨s7, rfl, hL1, H⟩ := H
  refine pop_geq .i64 s7 0 ?_
  exact H
def u77 (P : Program) (list0_1 : Sl) (h : Heap) (K : Value -> Heap -> Prop) : Prop :=
 ((decide ((list0_1.n : Int) = 0)) = true ->
 K (VS ({ data := #[45] })) h) /\
 ((decide ((list0_1.n : Int) = 0)) = false ->
 eop P (Instr.buildSlice 99 0 #[]) h fun r1 h1 => ∃ s9 : Sl, r1 = s9.v /\ Vars h1 [] /\
 ∃ J1 : Nat -> Sl -> Int -> Heap -> Prop, (∃ n0 : Nat, J1 n0 s9 0 h1) /\
 ∀ (n1 : Nat) (words3_1 : Sl) (s12 : Int) (h2 : Heap), J1 n1 words3_1 s12 h2 -> Vars h2 [] ->
 ((decide (s12 < (list0_1.n : Int))) = true ->
 InB list0_1 s12 /\
 ∃ s15 : Int, hcell h2 (Sl.at list0_1 s12 1) = some (VI s15) /\
 callM P 125 #[(VI s15)] h2 fun r2 h3 => ∃ s18 : ByteArray, r2 = (VS s18) /\ Vars h3 [] /\
 eop P (Instr.buildSlice 99 1 #[(0, (VS s18))]) h3 fun r3 h4 => ∃ s19 : Sl, r3 = s19.v /\ Vars h4 [] /\
 eop P (appS 99 99 99 words3_1.v s19.v) h4 fun r4 h5 => ∃ s20 : Sl, r4 = s20.v /\ Vars h5 [] /\
 ∃ m : Nat, m < n1 /\ J1 m s20 (w64 (s12 + 1)) h5) /\
 ((decide (s12 < (list0_1.n : Int))) = false ->
 callM P 78 #[words3_1.v, (VS ({ data := #[44] }))] h2 fun r5 h6 => ∃ s23 : ByteArray, r5 = (VS s23) /\ Vars h6 [] /\
 K (VS s23) h6))
theorem v77 (list0_1 : Sl) (h : Heap) (K : Value -> Heap -> Prop) (H : u77 Tryz.prog list0_1 h K) : callM Tryz.prog 77 #[list0_1.v] h K := by
  refine c77 list0_1.v h K ?_
  unfold u77 at H
  unfold t77
  have hL : Vars h [] := .nil
  refine pop_len list0_1 _ _ sli33 ?_
  refine pop_ieq .i64 _ _ (list0_1.n : Int) 0 ?_
  refine condM_b (fun hb1 => ?_) (fun hb1 => ?_)
  ·exact H.1 hb1
  have H := H.2 hb1
  refine H.mono fun r1 h1 H => ?_
  obtain ⟨s9, rfl, hL1, H⟩ := H
  refine pop_len list0_1 _ _ sli33 ?_
  obtain ⟨J1, ⟨n2, h0_1⟩, HB1⟩ := H
  refine loop_intro (J := fun (n : Nat) (vs : List Value) (h' : Heap) => ∃ words3_1 : Sl, ∃ s12 : Int, vs = [words3_1.v, (VI s12)] /\ J1 n words3_1 s12 h' /\ Vars h' []) n2 ⟨s9, 0, rfl, h0_1, hL1⟩ ?_
  intro I1 mu1 hI1 junk1 tv1 tv2 h2 hi1
  obtain ⟨n1, ⟨words3_1, s12, hv, hJ1, hL2⟩, hn1⟩ := hI1 _ _ hi1
  cases hv
  have H := HB1 n1 words3_1 s12 h2 hJ1 hL2
  refine pop_lss .i64 s12 (list0_1.n : Int) ?_
  refine condM_b (fun hb2 => ?_) (fun hb2 => ?_)
  rotate_left
  ·have H := H.2 hb2
   refine H.mono fun r5 h6 H => ?_
   obtain ⟨s23, rfl, hL6, H⟩ := H
   exact H
  have H := H.1 hb2
  obtain ⟨hi2, H⟩ := H
  refine pop_index sli33 siz3 .i64 list0_1 s12 hi2 ?_
  obtain ⟨s15, hc1, H⟩ := H
  refine rop_one one3 (VI s15) hc1 ?_
  refine H.mono fun r2 h3 H => ?_
  obtain ⟨s18, rfl, hL3, H⟩ := H
  refine H.mono fun r3 h4 H => ?_
  obtain ⟨s19, rfl, hL4, H⟩ := H
  refine H.mono fun r4 h5 H => ?_
  obtain ⟨s20, rfl, hL5, H⟩ := H
  refine pop_add .i64 s12 1 ?_
  obtain ⟨m_1, hm_1, H⟩ := H
  exact hn1 _ _ ⟨m_1, hm_1, s20, (w64 (s12 + 1)), rfl, H, hL5⟩
def u79 (P : Program) (l0_1 : Sl) (lo1_1 : Int) (hi2_1 : Int) (h : Heap) (K : Value -> Heap -> Prop) : Prop :=
 ∃ J1 : Nat -> Int -> Heap -> Prop, (∃ n0 : Nat, J1 n0 0 h) /\
 ∀ (n1 : Nat) (s11 : Int) (h1 : Heap), J1 n1 s11 h1 -> Vars h1 [] ->
 ((decide (s11 < (l0_1.n : Int))) = true ->
 InB l0_1 s11 /\
 ∃ s14 : Int, hcell h1 (Sl.at l0_1 s11 1) = some (VI s14) /\
 callM P 74 #[(VI s14), (VI lo1_1), (VI hi2_1)] h1 fun r1 h2 => ∃ s18 : Bool, r1 = (VB s18) /\ Vars h2 [] /\
 ((!s18) = true ->
 K (VB false) h2) /\
 ((!s18) = false ->
 ∃ m : Nat, m < n1 /\ J1 m (w64 (s11 + 1)) h2)) /\
 ((decide (s11 < (l0_1.n : Int))) = false ->
 K (VB true) h1)
theorem v79 (l0_1 : Sl) (lo1_1 : Int) (hi2_1 : Int) (h : Heap) (K : Value -> Heap -> Prop) (H : u79 Tryz.prog l0_1 lo1_1 hi2_1 h K) : callM Tryz.prog 79 #[l0_1.v, (VI lo1_1), (VI hi2_1)] h K := by
  refine c79 l0_1.v (VI lo1_1) (VI hi2_1) h K ?_
  unfold u79 at H
  unfold t79
  have hL : Vars h [] := .nil
  refine pop_len l0_1 _ _ sli33 ?_
  obtain ⟨J1, ⟨n2, h0_1⟩, HB1⟩ := H
  refine loop_intro (J := fun (n : Nat) (vs : List Value) (h' : Heap) => ∃ s11 : Int, vs = [(VI s11)] /\ J1 n s11 h' /\ Vars h' []) n2 ⟨0, rfl, h0_1, hL⟩ ?_
  intro I1 mu1 hI1 junk1 tv1 h1 hi1
  obtain ⟨n1, ⟨s11, hv, hJ1, hL1⟩, hn1⟩ := hI1 _ _ hi1
  cases hv
  have H := HB1 n1 s11 h1 hJ1 hL1
  refine pop_lss .i64 s11 (l0_1.n : Int) ?_
  refine condM_b (fun hb1 => ?_) (fun hb1 => ?_)
  rotate_left
  ·exact H.2 hb1
  have H := H.1 hb1
  obtain ⟨hi2, H⟩ := H
  refine pop_index sli33 siz3 .i64 l0_1 s11 hi2 ?_
  obtain ⟨s14, hc1, H⟩ := H
  refine rop_one one3 (VI s14) hc1 ?_
  refine H.mono fun r1 h2 H => ?_
  obtain ⟨s18, rfl, hL2, H⟩ := H
  refine pop_not s18 ?_
  refine condM_b (fun hb2 => ?_) (fun hb2 => ?_)
  ·exact H.1 hb2
  have H := H.2 hb2
  refine pop_add .i64 s11 1 ?_
  obtain ⟨m_1, hm_1, H⟩ := H
  exact hn1 _ _ ⟨m_1, hm_1, (w64 (s11 + 1)), rfl, H, hL2⟩
end Go.Proofs.YtkjkfjkapbpgiaaGreatDoor
