import Derived.Test.YtgiamamfnpklkaaChancesBalancedT
import Derived.Test.YtgiamamfnpklkaaM2
set_option linter.unusedVariables false
set_option linter.unusedSimpArgs false
set_option maxRecDepth 100000
set_option maxHeartbeats 16000000
namespace Go.Proofs.Ytgiamamfnpklkaa
open Go Go.Mx
section
variable {P : Program} {b c want : Bool} {A : (Value -> Heap -> Prop) -> Prop} {h : Heap} {K : Value -> Heap -> Prop} {Q : Value -> Prop} {t : TypeId} {n : Nat} {L : List (Nat × List Value)} {d : Nat} {cs : List Value}
theorem gn (H : K undef h) (hb : b ≠ want := by decide) : guardM (.bool b) want A h K := guardM_n hb H
theorem gm (hb : b = c) (H : K undef h) (hc : c ≠ want := by decide) : guardM (.bool b) want A h K := guardM_n' hb hc H
theorem gy (hb : b = want) (H : A K) : guardM (.bool b) want A h K := guardM_y' hb H
theorem ul (ht : sizeC P t = some n) (hL : Vars h L) (i : Nat) (o : Nat) {v : Value} (vs : List Value) (L' : List (Nat × List Value)) (H : ∀ h1 : Heap, Fr (fun k => k = d) h h1 -> Vars h1 L' -> K undef h1) (hi : nthL L i = some (d, cs) := by rfl) (hv : v.cells = vs.toArray := by rfl) (hn : vs.length = n := by rfl) (hp : vs.all plainV = true := by rfl) (ho : Nat.ble (o + vs.length) cs.length = true := by rfl) (hL' : setL L i (splice cs o vs) = L' := by rfl) : uop P (Instr.storeAt t (VP d o) v) h K := uop_loc ht hL i hi o vs hv hn hp (Nat.le_of_ble_eq_true ho) hL' H
theorem ra (ht : aggC P t = some n) (hL : Vars h L) (i : Nat) (o : Nat) (vs : List Value) (H : Q (.agg vs.toArray)) (hi : nthL L i = some (d, cs) := by rfl) (hv : cutL cs o n = vs := by rfl) (hn : vs.length = n := by rfl) : rop P (Instr.loadAt t (VP d o)) h Q := rop_locA ht hL i hi o hv hn H
theorem rl (ht : oneC P t = true) (hL : Vars h L) (i : Nat) (o : Nat) (v : Value) (H : Q v) (hi : nthL L i = some (d, cs) := by rfl) (hv : cs[o]? = some v := by rfl) : rop P (Instr.loadAt t (VP d o)) h Q := rop_loc ht hL i hi o hv H
end
theorem agg26 : aggC Try.prog 26 = some 1 := by kernel_rfl
theorem agg36 : aggC Try.prog 36 = some 2 := by kernel_rfl
theorem boo4 : Try.prog.underlying 4 = some .bool := by kernel_rfl
theorem fld26_0 : fieldC Try.prog 26 0 = some 0 := by kernel_rfl
theorem fld36_0 : fieldC Try.prog 36 0 = some 0 := by kernel_rfl
theorem fld36_1 : fieldC Try.prog 36 1 = some 1 := by kernel_rfl
theorem fld69_0 : fieldC Try.prog 69 0 = some 0 := by kernel_rfl
theorem fld69_1 : fieldC Try.prog 69 1 = some 1 := by kernel_rfl
theorem fld69_2 : fieldC Try.prog 69 2 = some 2 := by kernel_rfl
theorem one22 : oneC Try.prog 22 = true := by kernel_rfl
theorem one24 : oneC Try.prog 24 = true := by kernel_rfl
theorem one3 : oneC Try.prog 3 = true := by kernel_rfl
theorem one37 : oneC Try.prog 37 = true := by kernel_rfl
theorem one5 : oneC Try.prog 5 = true := by kernel_rfl
theorem one67 : oneC Try.prog 67 = true := by kernel_rfl
theorem siz24 : sizeC Try.prog 24 = some 1 := by kernel_rfl
theorem siz26 : sizeC Try.prog 26 = some 1 := by kernel_rfl
theorem siz3 : sizeC Try.prog 3 = some 1 := by kernel_rfl
theorem siz36 : sizeC Try.prog 36 = some 2 := by kernel_rfl
theorem siz37 : sizeC Try.prog 37 = some 1 := by kernel_rfl
theorem siz5 : sizeC Try.prog 5 = some 1 := by kernel_rfl
theorem siz67 : sizeC Try.prog 67 = some 1 := by kernel_rfl
theorem sli22 : Try.prog.underlying 22 = some (.slice 5) := by kernel_rfl
theorem sli24 : Try.prog.underlying 24 = some (.slice 37) := by kernel_rfl
theorem sli29 : Try.prog.underlying 29 = some (.slice 36) := by kernel_rfl
theorem sli37 : Try.prog.underlying 37 = some (.slice 3) := by kernel_rfl
theorem zer26 : zeroC Try.prog 26 = some (Value.agg #[nilSl.v]) := by kernel_rfl
theorem zer3 : zeroC Try.prog 3 = some (VI 0) := by kernel_rfl
theorem zer36 : zeroC Try.prog 36 = some (Value.agg #[(VI 0), (VI 0)]) := by kernel_rfl
def u3 (P : Program) (code0_1 : Sl) (more1_1 : Sl) (h : Heap) (K : Value -> Heap -> Prop) : Prop :=
 callM P 6 #[code0_1.v, more1_1.v] h fun r1 h1 => ∃ s55 : Bool, r1 = (VB s55) /\ Vars h1 [] /\
 (s55 = true ->
 K (VB true) h1) /\
 (s55 = false ->
 callM P 7 #[code0_1.v] h1 fun r2 h2 => ∃ s58 : Sl, ∃ s58b : Int, ∃ s58c : Int, r2 = (.tuple #[(.agg #[s58.v]), (VI s58b), (VI s58c)]) /\ Vars h2 [] /\
 ∀ (b1 : Nat) (h4 : Heap), h2.size ≤ b1 -> Fr (In []) h2 h4 -> Vars h4 [(b1, [s58.v])] ->
 callM P 8 #[(.agg #[s58.v]), (VI s58b), (VI s58c)] h4 fun r3 h5 => ∃ s66 : Sl, ∃ s66b : Bool, r3 = (.tuple #[s66.v, (VB s66b)]) /\ Vars h5 [(b1, [s58.v])] /\
 callM P 9 #[(.agg #[s58.v]), (VI s58b), (VI s58c)] h5 fun r4 h6 => ∃ s73 : Sl, ∃ s73b : Bool, r4 = (.tuple #[s73.v, (VB s73b)]) /\ Vars h6 [(b1, [s58.v])] /\
 callM P 10 #[(.agg #[s58.v]), (VI s58b), (VI s58c)] h6 fun r5 h7 => ∃ s80 : Bool, ∃ s80b : Bool, r5 = (.tuple #[(VB s80), (VB s80b)]) /\ Vars h7 [(b1, [s58.v])] /\
 callM P 11 #[(.agg #[s58.v]), (VI s58b), (VI s58c)] h7 fun r6 h8 => ∃ s87 : Bool, ∃ s87b : Bool, r6 = (.tuple #[(VB s87), (VB s87b)]) /\ Vars h8 [(b1, [s58.v])] /\
 ((!(s66b == s73b)) = true ->
 K (VB false) h8) /\
 ((!(s66b == s73b)) = false ->
 callM P 12 #[s66.v, s73.v] h8 fun r7 h9 => ∃ s96 : Bool, r7 = (VB s96) /\ Vars h9 [(b1, [s58.v])] /\
 ((!s96) = true ->
 K (VB false) h9) /\
 ((!s96) = false ->
 ((!(s80b == s87b)) = true ->
 K (VB false) h9) /\
 ((!(s80b == s87b)) = false ->
 ((!(s80 == s87)) = true ->
 K (VB false) h9) /\
 ((!(s80 == s87)) = false ->
 (s80b = true ->
 ((!(s66b == s80)) = true ->
 K (VB false) h9) /\
 ((!(s66b == s80)) = false ->
 ∃ J1 : Heap -> Prop, ((s66b = true ->
 callM P 8 #[(.agg #[s58.v]), (VI s58c), (VI s58b)] h9 fun r8 h10 => ∃ s122 : Sl, ∃ s122b : Bool, r8 = (.tuple #[s122.v, (VB s122b)]) /\ Vars h10 [(b1, [s58.v])] /\
 ((!s122b) = true ->
 K (VB false) h10) /\
 ((!s122b) = false ->
 ((!decide ((s66.n : Int) = (s58.n : Int))) = true ->
 K (VB false) h10) /\
 ((!decide ((s66.n : Int) = (s58.n : Int))) = false ->
 InB s66 s58b /\
 ∃ s139 : Int, ∃ s139b : Int, CellsAt h10 (Sl.at s66 s58b 2) [(VI s139), (VI s139b)] /\
 pop P (binE .neq 36 (.tmp 139) (.tmp 140) (.agg #[(VI s139), (VI s139b)]) (.agg #[(VI 1), (VI 1)])) fun r9 => ∃ s141 : Bool, r9 = (VB s141) /\ 
 (s141 = true ->
 K (VB false) h10) /\
 (s141 = false ->
 InB s66 s58c /\
 ∃ s147 : Int, ∃ s147b : Int, CellsAt h10 (Sl.at s66 s58c 2) [(VI s147), (VI s147b)] /\
 pop P (binE .neq 36 (.tmp 147) (.tmp 148) (.agg #[(VI s147), (VI s147b)]) (.agg #[(VI 0), (VI 1)])) fun r10 => ∃ s149 : Bool, r10 = (VB s149) /\ 
 (s149 = true ->
 K (VB false) h10) /\
 (s149 = false ->
 ∃ J2 : Nat -> Int -> Heap -> Prop, (∃ n0 : Nat, J2 n0 0 h10) /\
 ∀ (n1 : Nat) (s154 : Int) (h11 : Heap), J2 n1 s154 h11 -> Vars h11 [(b1, [s58.v])] ->
 ((decide (s154 < (s58.n : Int))) = true ->
 InB s58 s154 /\
 ∃ s158 : Sl, hcell h11 (Sl.at s58 s154 1) = some s158.v /\
 InB s66 s154 /\
 ∃ s162 : Int, ∃ s162b : Int, CellsAt h11 (Sl.at s66 s154 2) [(VI s162), (VI s162b)] /\
 InB s122 s154 /\
 ∀ (b2 : Nat) (h13 : Heap), h11.size ≤ b2 -> Fr (In []) h11 h13 -> Vars h13 [(b2, [(VI s162), (VI s162b)]), (b1, [s58.v])] ->
 ∃ s166 : Int, ∃ s166b : Int, CellsAt h13 (Sl.at s122 s154 2) [(VI s166), (VI s166b)] /\
 ∀ (b3 : Nat) (h15 : Heap), h13.size ≤ b3 -> Fr (In []) h13 h15 -> Vars h15 [(b3, [(VI s166), (VI s166b)]), (b2, [(VI s162), (VI s162b)]), (b1, [s58.v])] ->
 callM P 13 #[(.agg #[s58.v]), (VI s154), (VI s58b), (VI s58c)] h15 fun r11 h16 => ∃ s172 : Int, ∃ s172b : Int, ∃ s172c : Bool, r11 = (.tuple #[(.agg #[(VI s172), (VI s172b)]), (VB s172c)]) /\ Vars h16 [(b3, [(VI s166), (VI s166b)]), (b2, [(VI s162), (VI s162b)]), (b1, [s58.v])] /\
 ∀ (b4 : Nat) (h18 : Heap), h16.size ≤ b4 -> Fr (In []) h16 h18 -> Vars h18 [(b4, [(VI s172), (VI s172b)]), (b3, [(VI s166), (VI s166b)]), (b2, [(VI s162), (VI s162b)]), (b1, [s58.v])] ->
 callM P 14 #[(.agg #[s58.v]), (VI s154), (VI s58b), (VI s58c)] h18 fun r12 h19 => ∃ s180 : Int, ∃ s180b : Int, ∃ s180c : Bool, r12 = (.tuple #[(.agg #[(VI s180), (VI s180b)]), (VB s180c)]) /\ Vars h19 [(b4, [(VI s172), (VI s172b)]), (b3, [(VI s166), (VI s166b)]), (b2, [(VI s162), (VI s162b)]), (b1, [s58.v])] /\
 ((!s172c) = true ->
 ∀ (b5 : Nat) (h21 : Heap), h19.size ≤ b5 -> Fr (In []) h19 h21 -> Vars h21 [(b5, [(VI s180), (VI s180b)]), (b4, [(VI s172), (VI s172b)]), (b3, [(VI s166), (VI s166b)]), (b2, [(VI s162), (VI s162b)]), (b1, [s58.v])] ->
 K (VB false) h21) /\
 ((!s172c) = false ->
 pop P (binE .neq 36 (.tmp 186) (.tmp 187) (.agg #[(VI s172), (VI s172b)]) (.agg #[(VI s162), (VI s162b)])) fun r13 => ∃ s188 : Bool, r13 = (VB s188) /\ 
 (s188 = true ->
 ∀ (b5 : Nat) (h21 : Heap), h19.size ≤ b5 -> Fr (In []) h19 h21 -> Vars h21 [(b5, [(VI s180), (VI s180b)]), (b4, [(VI s172), (VI s172b)]), (b3, [(VI s166), (VI s166b)]), (b2, [(VI s162), (VI s162b)]), (b1, [s58.v])] ->
 K (VB false) h21) /\
 (s188 = false ->
 ((!s180c) = true ->
 ∀ (b5 : Nat) (h21 : Heap), h19.size ≤ b5 -> Fr (In []) h19 h21 -> Vars h21 [(b5, [(VI s180), (VI s180b)]), (b4, [(VI s172), (VI s172b)]), (b3, [(VI s166), (VI s166b)]), (b2, [(VI s162), (VI s162b)]), (b1, [s58.v])] ->
 K (VB false) h21) /\
 ((!s180c) = false ->
 ((decide (s162 < 0)) = true ->
 ∀ (b5 : Nat) (h21 : Heap), h19.size ≤ b5 -> Fr (In []) h19 h21 -> Vars h21 [(b5, [(VI s180), (VI s180b)]), (b4, [(VI s172), (VI s172b)]), (b3, [(VI s166), (VI s166b)]), (b2, [(VI s162), (VI s162b)]), (b1, [s58.v])] ->
 K (VB false) h21) /\
 ((decide (s162 < 0)) = false ->
 ((decide (s162b < s162)) = true ->
 ∀ (b5 : Nat) (h21 : Heap), h19.size ≤ b5 -> Fr (In []) h19 h21 -> Vars h21 [(b5, [(VI s180), (VI s180b)]), (b4, [(VI s172), (VI s172b)]), (b3, [(VI s166), (VI s166b)]), (b2, [(VI s162), (VI s162b)]), (b1, [s58.v])] ->
 K (VB false) h21) /\
 ((decide (s162b < s162)) = false ->
 ((decide (s162b < 1)) = true ->
 ∀ (b5 : Nat) (h21 : Heap), h19.size ≤ b5 -> Fr (In []) h19 h21 -> Vars h21 [(b5, [(VI s180), (VI s180b)]), (b4, [(VI s172), (VI s172b)]), (b3, [(VI s166), (VI s166b)]), (b2, [(VI s162), (VI s162b)]), (b1, [s58.v])] ->
 K (VB false) h21) /\
 ((decide (s162b < 1)) = false ->
 ((!decide (s166b = s162b)) = true ->
 ∀ (b5 : Nat) (h21 : Heap), h19.size ≤ b5 -> Fr (In []) h19 h21 -> Vars h21 [(b5, [(VI s180), (VI s180b)]), (b4, [(VI s172), (VI s172b)]), (b3, [(VI s166), (VI s166b)]), (b2, [(VI s162), (VI s162b)]), (b1, [s58.v])] ->
 K (VB false) h21) /\
 ((!decide (s166b = s162b)) = false ->
 ((!decide (s166 = (w64 (s162b - s162)))) = true ->
 ∀ (b5 : Nat) (h21 : Heap), h19.size ≤ b5 -> Fr (In []) h19 h21 -> Vars h21 [(b5, [(VI s180), (VI s180b)]), (b4, [(VI s172), (VI s172b)]), (b3, [(VI s166), (VI s166b)]), (b2, [(VI s162), (VI s162b)]), (b1, [s58.v])] ->
 K (VB false) h21) /\
 ((!decide (s166 = (w64 (s162b - s162)))) = false ->
 ((decide (s154 = s58b)) = true ->
 ((!((decide (s180 = 0)) == true)) = true ->
 ∀ (b5 : Nat) (h21 : Heap), h19.size ≤ b5 -> Fr (In []) h19 h21 -> Vars h21 [(b5, [(VI s180), (VI s180b)]), (b4, [(VI s172), (VI s172b)]), (b3, [(VI s166), (VI s166b)]), (b2, [(VI s162), (VI s162b)]), (b1, [s58.v])] ->
 K (VB false) h21) /\
 ((!((decide (s180 = 0)) == true)) = false ->
 ∀ (b5 : Nat) (h21 : Heap), h19.size ≤ b5 -> Fr (In []) h19 h21 -> Vars h21 [(b5, [(VI s180), (VI s180b)]), (b4, [(VI s172), (VI s172b)]), (b3, [(VI s166), (VI s166b)]), (b2, [(VI s162), (VI s162b)]), (b1, [s58.v])] ->
 ∃ m : Nat, m < n1 /\ J2 m (w64 (s154 + 1)) h21)) /\
 ((decide (s154 = s58b)) = false ->
 ((!((decide (s180 = 0)) == (decide (s154 = s58c)))) = true ->
 ∀ (b5 : Nat) (h21 : Heap), h19.size ≤ b5 -> Fr (In []) h19 h21 -> Vars h21 [(b5, [(VI s180), (VI s180b)]), (b4, [(VI s172), (VI s172b)]), (b3, [(VI s166), (VI s166b)]), (b2, [(VI s162), (VI s162b)]), (b1, [s58.v])] ->
 K (VB false) h21) /\
 ((!((decide (s180 = 0)) == (decide (s154 = s58c)))) = false ->
 ((decide (s154 = s58c)) = true ->
 ∀ (b5 : Nat) (h21 : Heap), h19.size ≤ b5 -> Fr (In []) h19 h21 -> Vars h21 [(b5, [(VI s180), (VI s180b)]), (b4, [(VI s172), (VI s172b)]), (b3, [(VI s166), (VI s166b)]), (b2, [(VI s162), (VI s162b)]), (b1, [s58.v])] ->
 ∃ m : Nat, m < n1 /\ J2 m (w64 (s154 + 1)) h21) /\
 ((decide (s154 = s58c)) = false ->
 ∀ (b5 : Nat) (h21 : Heap), h19.size ≤ b5 -> Fr (In []) h19 h21 -> Vars h21 [(b5, [(VI s180), (VI s180b)]), (b4, [(VI s172), (VI s172b)]), (b3, [(VI s166), (VI s166b)]), (b2, [(VI s162), (VI s162b)]), (b1, [s58.v])] ->
 ∃ J3 : Int -> Int -> Int -> Int -> Heap -> Prop, (∃ J4 : Nat -> Int -> Int -> Int -> Int -> Int -> Heap -> Prop, (∃ n0 : Nat, J4 n0 0 1 0 1 0 h21) /\
 ∀ (n2 : Nat) (num26_1 : Int) (den27_1 : Int) (total28_1 : Int) (whole29_1 : Int) (s252 : Int) (h22 : Heap), J4 n2 num26_1 den27_1 total28_1 whole29_1 s252 h22 -> Vars h22 [(b5, [(VI s180), (VI s180b)]), (b4, [(VI s172), (VI s172b)]), (b3, [(VI s166), (VI s166b)]), (b2, [(VI s162), (VI s162b)]), (b1, [s58.v])] ->
 ((decide (s252 < (s158.n : Int))) = true ->
 InB s158 s252 /\
 ∃ s255 : Int, hcell h22 (Sl.at s158 s252 1) = some (VI s255) /\
 InB s66 s255 /\
 ∃ s261 : Int, hcell h22 (Addr.add (Sl.at s66 s255 2) 1) = some (VI s261) /\
 InB s66 s255 /\
 ∃ s267 : Int, hcell h22 (Addr.add (Sl.at s66 s255 2) 0) = some (VI s267) /\
 InB s66 s255 /\
 ∃ s276 : Int, hcell h22 (Addr.add (Sl.at s66 s255 2) 1) = some (VI s276) /\
 callM P 14 #[(.agg #[s58.v]), (VI s255), (VI s58b), (VI s58c)] h22 fun r14 h23 => ∃ s283 : Int, ∃ s283b : Int, ∃ s283c : Bool, r14 = (.tuple #[(.agg #[(VI s283), (VI s283b)]), (VB s283c)]) /\ Vars h23 [(b5, [(VI s180), (VI s180b)]), (b4, [(VI s172), (VI s172b)]), (b3, [(VI s166), (VI s166b)]), (b2, [(VI s162), (VI s162b)]), (b1, [s58.v])] /\
 ((!s283c) = true ->
 ∀ (b6 : Nat) (h25 : Heap), h23.size ≤ b6 -> Fr (In []) h23 h25 -> Vars h25 [(b6, [(VI s283), (VI s283b)]), (b5, [(VI s180), (VI s180b)]), (b4, [(VI s172), (VI s172b)]), (b3, [(VI s166), (VI s166b)]), (b2, [(VI s162), (VI s162b)]), (b1, [s58.v])] ->
 K (VB false) h25) /\
 ((!s283c) = false ->
 ((decide (1048576 < (w64 (den27_1 * s276)))) = true ->
 ∀ (b6 : Nat) (h25 : Heap), h23.size ≤ b6 -> Fr (In []) h23 h25 -> Vars h25 [(b6, [(VI s283), (VI s283b)]), (b5, [(VI s180), (VI s180b)]), (b4, [(VI s172), (VI s172b)]), (b3, [(VI s166), (VI s166b)]), (b2, [(VI s162), (VI s162b)]), (b1, [s58.v])] ->
 J3 (w64 ((w64 (num26_1 * s261)) + (w64 (s267 * den27_1)))) 0 (w64 ((w64 (total28_1 * s283b)) + (w64 (s283 * whole29_1)))) (w64 (whole29_1 * s283b)) h25) /\
 ((decide (1048576 < (w64 (den27_1 * s276)))) = false ->
 ((decide (1048576 < (w64 (whole29_1 * s283b)))) = true ->
 ∀ (b6 : Nat) (h25 : Heap), h23.size ≤ b6 -> Fr (In []) h23 h25 -> Vars h25 [(b6, [(VI s283), (VI s283b)]), (b5, [(VI s180), (VI s180b)]), (b4, [(VI s172), (VI s172b)]), (b3, [(VI s166), (VI s166b)]), (b2, [(VI s162), (VI s162b)]), (b1, [s58.v])] ->
 J3 (w64 ((w64 (num26_1 * s261)) + (w64 (s267 * den27_1)))) 0 (w64 ((w64 (total28_1 * s283b)) + (w64 (s283 * whole29_1)))) (w64 (whole29_1 * s283b)) h25) /\
 ((decide (1048576 < (w64 (whole29_1 * s283b)))) = false ->
 ((decide (1073741824 < (w64 ((w64 (num26_1 * s261)) + (w64 (s267 * den27_1)))))) = true ->
 ∀ (b6 : Nat) (h25 : Heap), h23.size ≤ b6 -> Fr (In []) h23 h25 -> Vars h25 [(b6, [(VI s283), (VI s283b)]), (b5, [(VI s180), (VI s180b)]), (b4, [(VI s172), (VI s172b)]), (b3, [(VI s166), (VI s166b)]), (b2, [(VI s162), (VI s162b)]), (b1, [s58.v])] ->
 J3 (w64 ((w64 (num26_1 * s261)) + (w64 (s267 * den27_1)))) 0 (w64 ((w64 (total28_1 * s283b)) + (w64 (s283 * whole29_1)))) (w64 (whole29_1 * s283b)) h25) /\
 ((decide (1073741824 < (w64 ((w64 (num26_1 * s261)) + (w64 (s267 * den27_1)))))) = false ->
 ((decide (1073741824 < (w64 ((w64 (total28_1 * s283b)) + (w64 (s283 * whole29_1)))))) = true ->
 ∀ (b6 : Nat) (h25 : Heap), h23.size ≤ b6 -> Fr (In []) h23 h25 -> Vars h25 [(b6, [(VI s283), (VI s283b)]), (b5, [(VI s180), (VI s180b)]), (b4, [(VI s172), (VI s172b)]), (b3, [(VI s166), (VI s166b)]), (b2, [(VI s162), (VI s162b)]), (b1, [s58.v])] ->
 J3 (w64 ((w64 (num26_1 * s261)) + (w64 (s267 * den27_1)))) 0 (w64 ((w64 (total28_1 * s283b)) + (w64 (s283 * whole29_1)))) (w64 (whole29_1 * s283b)) h25) /\
 ((decide (1073741824 < (w64 ((w64 (total28_1 * s283b)) + (w64 (s283 * whole29_1)))))) = false ->
 ∀ (b6 : Nat) (h25 : Heap), h23.size ≤ b6 -> Fr (In []) h23 h25 -> Vars h25 [(b6, [(VI s283), (VI s283b)]), (b5, [(VI s180), (VI s180b)]), (b4, [(VI s172), (VI s172b)]), (b3, [(VI s166), (VI s166b)]), (b2, [(VI s162), (VI s162b)]), (b1, [s58.v])] ->
 ∃ m : Nat, m < n2 /\ J4 m (w64 ((w64 (num26_1 * s261)) + (w64 (s267 * den27_1)))) (w64 (den27_1 * s276)) (w64 ((w64 (total28_1 * s283b)) + (w64 (s283 * whole29_1)))) (w64 (whole29_1 * s283b)) (w64 (s252 + 1)) h25)))))) /\
 ((decide (s252 < (s158.n : Int))) = false ->
 J3 num26_1 den27_1 total28_1 whole29_1 h22)) /\
 ∀ (y1 : Int) (y2 : Int) (y3 : Int) (y4 : Int) (h26 : Heap), J3 y1 y2 y3 y4 h26 -> Vars h26 [(b5, [(VI s180), (VI s180b)]), (b4, [(VI s172), (VI s172b)]), (b3, [(VI s166), (VI s166b)]), (b2, [(VI s162), (VI s162b)]), (b1, [s58.v])] ->
 ((decide (y2 = 0)) = true ->
 ∃ m : Nat, m < n1 /\ J2 m (w64 (s154 + 1)) h26) /\
 ((decide (y2 = 0)) = false ->
 ((decide (1048576 < s162b)) = true ->
 ∃ m : Nat, m < n1 /\ J2 m (w64 (s154 + 1)) h26) /\
 ((decide (1048576 < s162b)) = false ->
 ((decide (1048576 < s180b)) = true ->
 ∃ m : Nat, m < n1 /\ J2 m (w64 (s154 + 1)) h26) /\
 ((decide (1048576 < s180b)) = false ->
 ((decide (1073741824 < s180)) = true ->
 ∃ m : Nat, m < n1 /\ J2 m (w64 (s154 + 1)) h26) /\
 ((decide (1073741824 < s180)) = false ->
 ((!decide ((w64 (y1 * s162b)) = (w64 ((w64 (s162 * y2)) * (s158.n : Int))))) = true ->
 K (VB false) h26) /\
 ((!decide ((w64 (y1 * s162b)) = (w64 ((w64 (s162 * y2)) * (s158.n : Int))))) = false ->
 ((!decide ((w64 ((w64 (y3 + (w64 (y4 * (s158.n : Int))))) * s180b)) = (w64 ((w64 (s180 * y4)) * (s158.n : Int))))) = true ->
 K (VB false) h26) /\
 ((!decide ((w64 ((w64 (y3 + (w64 (y4 * (s158.n : Int))))) * s180b)) = (w64 ((w64 (s180 * y4)) * (s158.n : Int))))) = false ->
 ∃ m : Nat, m < n1 /\ J2 m (w64 (s154 + 1)) h26)))))))))))))))))) /\
 ((decide (s154 < (s58.n : Int))) = false ->
 J1  h11)))))) /\
 (s66b = false ->
 J1  h9)) /\
 ∀ (h27 : Heap), J1  h27 -> Vars h27 [(b1, [s58.v])] ->
 callM P 15 #[more1_1.v] h27 fun r15 h28 => ∃ s367 : Sl, ∃ s367b : Int, ∃ s367c : Int, r15 = (.tuple #[(.agg #[s367.v]), (VI s367b), (VI s367c)]) /\ Vars h28 [(b1, [s58.v])] /\
 ∀ (b7 : Nat) (h30 : Heap), h28.size ≤ b7 -> Fr (In []) h28 h30 -> Vars h30 [(b7, [s367.v]), (b1, [s58.v])] ->
 callM P 16 #[(.agg #[s367.v]), (VI s367b), (VI s367c)] h30 fun r16 h31 => ∃ s375 : Int, ∃ s375b : Int, ∃ s375c : Bool, r16 = (.tuple #[(.agg #[(VI s375), (VI s375b)]), (VB s375c)]) /\ Vars h31 [(b7, [s367.v]), (b1, [s58.v])] /\
 ∀ (b8 : Nat) (h33 : Heap), h31.size ≤ b8 -> Fr (In []) h31 h33 -> Vars h33 [(b8, [(VI s375), (VI s375b)]), (b7, [s367.v]), (b1, [s58.v])] ->
 callM P 17 #[(.agg #[s367.v]), (VI s367b), (VI s367c)] h33 fun r17 h34 => ∃ s382 : Int, ∃ s382b : Int, ∃ s382c : Bool, r17 = (.tuple #[(.agg #[(VI s382), (VI s382b)]), (VB s382c)]) /\ Vars h34 [(b8, [(VI s375), (VI s375b)]), (b7, [s367.v]), (b1, [s58.v])] /\
 ((!(s375c == s382c)) = true ->
 ∀ (b9 : Nat) (h36 : Heap), h34.size ≤ b9 -> Fr (In []) h34 h36 -> Vars h36 [(b9, [(VI s382), (VI s382b)]), (b8, [(VI s375), (VI s375b)]), (b7, [s367.v]), (b1, [s58.v])] ->
 K (VB false) h36) /\
 ((!(s375c == s382c)) = false ->
 pop P (binE .neq 36 (.tmp 389) (.tmp 390) (.agg #[(VI s375), (VI s375b)]) (.agg #[(VI s382), (VI s382b)])) fun r18 => ∃ s391 : Bool, r18 = (VB s391) /\ 
 (s391 = true ->
 ∀ (b9 : Nat) (h36 : Heap), h34.size ≤ b9 -> Fr (In []) h34 h36 -> Vars h36 [(b9, [(VI s382), (VI s382b)]), (b8, [(VI s375), (VI s375b)]), (b7, [s367.v]), (b1, [s58.v])] ->
 K (VB false) h36) /\
 (s391 = false ->
 (s375c = true ->
 ((decide (s375 < 1)) = true ->
 ∀ (b9 : Nat) (h36 : Heap), h34.size ≤ b9 -> Fr (In []) h34 h36 -> Vars h36 [(b9, [(VI s382), (VI s382b)]), (b8, [(VI s375), (VI s375b)]), (b7, [s367.v]), (b1, [s58.v])] ->
 K (VB false) h36) /\
 ((decide (s375 < 1)) = false ->
 ((decide (s375b < s375)) = true ->
 ∀ (b9 : Nat) (h36 : Heap), h34.size ≤ b9 -> Fr (In []) h34 h36 -> Vars h36 [(b9, [(VI s382), (VI s382b)]), (b8, [(VI s375), (VI s375b)]), (b7, [s367.v]), (b1, [s58.v])] ->
 K (VB false) h36) /\
 ((decide (s375b < s375)) = false ->
 ∀ (b9 : Nat) (h36 : Heap), h34.size ≤ b9 -> Fr (In []) h34 h36 -> Vars h36 [(b9, [(VI s382), (VI s382b)]), (b8, [(VI s375), (VI s375b)]), (b7, [s367.v]), (b1, [s58.v])] ->
 callM P 18 #[more1_1.v] h36 fun r19 h37 => ∃ s410 : Sl, ∃ s410b : Int, ∃ s410c : Int, ∃ s410d : Int, r19 = (.tuple #[(.agg #[s410.v]), (VI s410b), (VI s410c), (VI s410d)]) /\ Vars h37 [(b9, [(VI s382), (VI s382b)]), (b8, [(VI s375), (VI s375b)]), (b7, [s367.v]), (b1, [s58.v])] /\
 ∀ (b10 : Nat) (h39 : Heap), h37.size ≤ b10 -> Fr (In []) h37 h39 -> Vars h39 [(b10, [s410.v]), (b9, [(VI s382), (VI s382b)]), (b8, [(VI s375), (VI s375b)]), (b7, [s367.v]), (b1, [s58.v])] ->
 callM P 14 #[(.agg #[s410.v]), (VI s410b), (VI s410c), (VI s410d)] h39 fun r20 h40 => ∃ s420 : Int, ∃ s420b : Int, ∃ s420c : Bool, r20 = (.tuple #[(.agg #[(VI s420), (VI s420b)]), (VB s420c)]) /\ Vars h40 [(b10, [s410.v]), (b9, [(VI s382), (VI s382b)]), (b8, [(VI s375), (VI s375b)]), (b7, [s367.v]), (b1, [s58.v])] /\
 ∀ (b11 : Nat) (h42 : Heap), h40.size ≤ b11 -> Fr (In []) h40 h42 -> Vars h42 [(b11, [(VI s420), (VI s420b)]), (b10, [s410.v]), (b9, [(VI s382), (VI s382b)]), (b8, [(VI s375), (VI s375b)]), (b7, [s367.v]), (b1, [s58.v])] ->
 callM P 19 #[(.agg #[s410.v]), (VI s410b), (VI s410c), (VI s410d)] h42 fun r21 h43 => ∃ s428 : Int, ∃ s428b : Int, ∃ s428c : Bool, r21 = (.tuple #[(.agg #[(VI s428), (VI s428b)]), (VB s428c)]) /\ Vars h43 [(b11, [(VI s420), (VI s420b)]), (b10, [s410.v]), (b9, [(VI s382), (VI s382b)]), (b8, [(VI s375), (VI s375b)]), (b7, [s367.v]), (b1, [s58.v])] /\
 ∀ (b12 : Nat) (h45 : Heap), h43.size ≤ b12 -> Fr (In []) h43 h45 -> Vars h45 [(b12, [(VI s428), (VI s428b)]), (b11, [(VI s420), (VI s420b)]), (b10, [s410.v]), (b9, [(VI s382), (VI s382b)]), (b8, [(VI s375), (VI s375b)]), (b7, [s367.v]), (b1, [s58.v])] ->
 callM P 13 #[(.agg #[s410.v]), (VI s410b), (VI s410c), (VI s410d)] h45 fun r22 h46 => ∃ s436 : Int, ∃ s436b : Int, ∃ s436c : Bool, r22 = (.tuple #[(.agg #[(VI s436), (VI s436b)]), (VB s436c)]) /\ Vars h46 [(b12, [(VI s428), (VI s428b)]), (b11, [(VI s420), (VI s420b)]), (b10, [s410.v]), (b9, [(VI s382), (VI s382b)]), (b8, [(VI s375), (VI s375b)]), (b7, [s367.v]), (b1, [s58.v])] /\
 ∀ (b13 : Nat) (h48 : Heap), h46.size ≤ b13 -> Fr (In []) h46 h48 -> Vars h48 [(b13, [(VI s436), (VI s436b)]), (b12, [(VI s428), (VI s428b)]), (b11, [(VI s420), (VI s420b)]), (b10, [s410.v]), (b9, [(VI s382), (VI s382b)]), (b8, [(VI s375), (VI s375b)]), (b7, [s367.v]), (b1, [s58.v])] ->
 callM P 20 #[(.agg #[s410.v]), (VI s410b), (VI s410c), (VI s410d)] h48 fun r23 h49 => ∃ s444 : Int, ∃ s444b : Int, ∃ s444c : Bool, r23 = (.tuple #[(.agg #[(VI s444), (VI s444b)]), (VB s444c)]) /\ Vars h49 [(b13, [(VI s436), (VI s436b)]), (b12, [(VI s428), (VI s428b)]), (b11, [(VI s420), (VI s420b)]), (b10, [s410.v]), (b9, [(VI s382), (VI s382b)]), (b8, [(VI s375), (VI s375b)]), (b7, [s367.v]), (b1, [s58.v])] /\
 ((s420c == s428c) = true ->
 pop P (binE .eql 36 (.tmp 451) (.tmp 452) (.agg #[(VI s420), (VI s420b)]) (.agg #[(VI s428), (VI s428b)])) fun r24 => ∃ s453 : Bool, r24 = (VB s453) /\ 
 (s453 = true ->
 ((s436c == s444c) = true ->
 pop P (binE .eql 36 (.tmp 461) (.tmp 462) (.agg #[(VI s436), (VI s436b)]) (.agg #[(VI s444), (VI s444b)])) fun r25 => ∃ s463 : Bool, r25 = (VB s463) /\ 
 ∀ (b14 : Nat) (h51 : Heap), h49.size ≤ b14 -> Fr (In []) h49 h51 -> Vars h51 [(b14, [(VI s444), (VI s444b)]), (b13, [(VI s436), (VI s436b)]), (b12, [(VI s428), (VI s428b)]), (b11, [(VI s420), (VI s420b)]), (b10, [s410.v]), (b9, [(VI s382), (VI s382b)]), (b8, [(VI s375), (VI s375b)]), (b7, [s367.v]), (b1, [s58.v])] ->
 K (VB s463) h51) /\
 ((s436c == s444c) = false ->
 ∀ (b14 : Nat) (h51 : Heap), h49.size ≤ b14 -> Fr (In []) h49 h51 -> Vars h51 [(b14, [(VI s444), (VI s444b)]), (b13, [(VI s436), (VI s436b)]), (b12, [(VI s428), (VI s428b)]), (b11, [(VI s420), (VI s420b)]), (b10, [s410.v]), (b9, [(VI s382), (VI s382b)]), (b8, [(VI s375), (VI s375b)]), (b7, [s367.v]), (b1, [s58.v])] ->
 K (VB false) h51)) /\
 (s453 = false ->
 ∀ (b14 : Nat) (h51 : Heap), h49.size ≤ b14 -> Fr (In []) h49 h51 -> Vars h51 [(b14, [(VI s444), (VI s444b)]), (b13, [(VI s436), (VI s436b)]), (b12, [(VI s428), (VI s428b)]), (b11, [(VI s420), (VI s420b)]), (b10, [s410.v]), (b9, [(VI s382), (VI s382b)]), (b8, [(VI s375), (VI s375b)]), (b7, [s367.v]), (b1, [s58.v])] ->
 K (VB false) h51)) /\
 ((s420c == s428c) = false ->
 ∀ (b14 : Nat) (h51 : Heap), h49.size ≤ b14 -> Fr (In []) h49 h51 -> Vars h51 [(b14, [(VI s444), (VI s444b)]), (b13, [(VI s436), (VI s436b)]), (b12, [(VI s428), (VI s428b)]), (b11, [(VI s420), (VI s420b)]), (b10, [s410.v]), (b9, [(VI s382), (VI s382b)]), (b8, [(VI s375), (VI s375b)]), (b7, [s367.v]), (b1, [s58.v])] ->
 K (VB false) h51)))) /\
 (s375c = false ->
 ∀ (b9 : Nat) (h36 : Heap), h34.size ≤ b9 -> Fr (In []) h34 h36 -> Vars h36 [(b9, [(VI s382), (VI s382b)]), (b8, [(VI s375), (VI s375b)]), (b7, [s367.v]), (b1, [s58.v])] ->
 callM P 18 #[more1_1.v] h36 fun r26 h52 => ∃ s410e : Sl, ∃ s410f : Int, ∃ s410g : Int, ∃ s410h : Int, r26 = (.tuple #[(.agg #[s410e.v]), (VI s410f), (VI s410g), (VI s410h)]) /\ Vars h52 [(b9, [(VI s382), (VI s382b)]), (b8, [(VI s375), (VI s375b)]), (b7, [s367.v]), (b1, [s58.v])] /\
 ∀ (b15 : Nat) (h54 : Heap), h52.size ≤ b15 -> Fr (In []) h52 h54 -> Vars h54 [(b15, [s410e.v]), (b9, [(VI s382), (VI s382b)]), (b8, [(VI s375), (VI s375b)]), (b7, [s367.v]), (b1, [s58.v])] ->
 callM P 14 #[(.agg #[s410e.v]), (VI s410f), (VI s410g), (VI s410h)] h54 fun r27 h55 => ∃ s420d : Int, ∃ s420e : Int, ∃ s420f : Bool, r27 = (.tuple #[(.agg #[(VI s420d), (VI s420e)]), (VB s420f)]) /\ Vars h55 [(b15, [s410e.v]), (b9, [(VI s382), (VI s382b)]), (b8, [(VI s375), (VI s375b)]), (b7, [s367.v]), (b1, [s58.v])] /\
 ∀ (b16 : Nat) (h57 : Heap), h55.size ≤ b16 -> Fr (In []) h55 h57 -> Vars h57 [(b16, [(VI s420d), (VI s420e)]), (b15, [s410e.v]), (b9, [(VI s382), (VI s382b)]), (b8, [(VI s375), (VI s375b)]), (b7, [s367.v]), (b1, [s58.v])] ->
 callM P 19 #[(.agg #[s410e.v]), (VI s410f), (VI s410g), (VI s410h)] h57 fun r28 h58 => ∃ s428d : Int, ∃ s428e : Int, ∃ s428f : Bool, r28 = (.tuple #[(.agg #[(VI s428d), (VI s428e)]), (VB s428f)]) /\ Vars h58 [(b16, [(VI s420d), (VI s420e)]), (b15, [s410e.v]), (b9, [(VI s382), (VI s382b)]), (b8, [(VI s375), (VI s375b)]), (b7, [s367.v]), (b1, [s58.v])] /\
 ∀ (b17 : Nat) (h60 : Heap), h58.size ≤ b17 -> Fr (In []) h58 h60 -> Vars h60 [(b17, [(VI s428d), (VI s428e)]), (b16, [(VI s420d), (VI s420e)]), (b15, [s410e.v]), (b9, [(VI s382), (VI s382b)]), (b8, [(VI s375), (VI s375b)]), (b7, [s367.v]), (b1, [s58.v])] ->
 callM P 13 #[(.agg #[s410e.v]), (VI s410f), (VI s410g), (VI s410h)] h60 fun r29 h61 => ∃ s436d : Int, ∃ s436e : Int, ∃ s436f : Bool, r29 = (.tuple #[(.agg #[(VI s436d), (VI s436e)]), (VB s436f)]) /\ Vars h61 [(b17, [(VI s428d), (VI s428e)]), (b16, [(VI s420d), (VI s420e)]), (b15, [s410e.v]), (b9, [(VI s382), (VI s382b)]), (b8, [(VI s375), (VI s375b)]), (b7, [s367.v]), (b1, [s58.v])] /\
 ∀ (b18 : Nat) (h63 : Heap), h61.size ≤ b18 -> Fr (In []) h61 h63 -> Vars h63 [(b18, [(VI s436d), (VI s436e)]), (b17, [(VI s428d), (VI s428e)]), (b16, [(VI s420d), (VI s420e)]), (b15, [s410e.v]), (b9, [(VI s382), (VI s382b)]), (b8, [(VI s375), (VI s375b)]), (b7, [s367.v]), (b1, [s58.v])] ->
 callM P 20 #[(.agg #[s410e.v]), (VI s410f), (VI s410g), (VI s410h)] h63 fun r30 h64 => ∃ s444d : Int, ∃ s444e : Int, ∃ s444f : Bool, r30 = (.tuple #[(.agg #[(VI s444d), (VI s444e)]), (VB s444f)]) /\ Vars h64 [(b18, [(VI s436d), (VI s436e)]), (b17, [(VI s428d), (VI s428e)]), (b16, [(VI s420d), (VI s420e)]), (b15, [s410e.v]), (b9, [(VI s382), (VI s382b)]), (b8, [(VI s375), (VI s375b)]), (b7, [s367.v]), (b1, [s58.v])] /\
 ((s420f == s428f) = true ->
 pop P (binE .eql 36 (.tmp 451) (.tmp 452) (.agg #[(VI s420d), (VI s420e)]) (.agg #[(VI s428d), (VI s428e)])) fun r31 => ∃ s453b : Bool, r31 = (VB s453b) /\ 
 (s453b = true ->
 ((s436f == s444f) = true ->
 pop P (binE .eql 36 (.tmp 461) (.tmp 462) (.agg #[(VI s436d), (VI s436e)]) (.agg #[(VI s444d), (VI s444e)])) fun r32 => ∃ s463b : Bool, r32 = (VB s463b) /\ 
 ∀ (b19 : Nat) (h66 : Heap), h64.size ≤ b19 -> Fr (In []) h64 h66 -> Vars h66 [(b19, [(VI s444d), (VI s444e)]), (b18, [(VI s436d), (VI s436e)]), (b17, [(VI s428d), (VI s428e)]), (b16, [(VI s420d), (VI s420e)]), (b15, [s410e.v]), (b9, [(VI s382), (VI s382b)]), (b8, [(VI s375), (VI s375b)]), (b7, [s367.v]), (b1, [s58.v])] ->
 K (VB s463b) h66) /\
 ((s436f == s444f) = false ->
 ∀ (b19 : Nat) (h66 : Heap), h64.size ≤ b19 -> Fr (In []) h64 h66 -> Vars h66 [(b19, [(VI s444d), (VI s444e)]), (b18, [(VI s436d), (VI s436e)]), (b17, [(VI s428d), (VI s428e)]), (b16, [(VI s420d), (VI s420e)]), (b15, [s410e.v]), (b9, [(VI s382), (VI s382b)]), (b8, [(VI s375), (VI s375b)]), (b7, [s367.v]), (b1, [s58.v])] ->
 K (VB false) h66)) /\
 (s453b = false ->
 ∀ (b19 : Nat) (h66 : Heap), h64.size ≤ b19 -> Fr (In []) h64 h66 -> Vars h66 [(b19, [(VI s444d), (VI s444e)]), (b18, [(VI s436d), (VI s436e)]), (b17, [(VI s428d), (VI s428e)]), (b16, [(VI s420d), (VI s420e)]), (b15, [s410e.v]), (b9, [(VI s382), (VI s382b)]), (b8, [(VI s375), (VI s375b)]), (b7, [s367.v]), (b1, [s58.v])] ->
 K (VB false) h66)) /\
 ((s420f == s428f) = false ->
 ∀ (b19 : Nat) (h66 : Heap), h64.size ≤ b19 -> Fr (In []) h64 h66 -> Vars h66 [(b19, [(VI s444d), (VI s444e)]), (b18, [(VI s436d), (VI s436e)]), (b17, [(VI s428d), (VI s428e)]), (b16, [(VI s420d), (VI s420e)]), (b15, [s410e.v]), (b9, [(VI s382), (VI s382b)]), (b8, [(VI s375), (VI s375b)]), (b7, [s367.v]), (b1, [s58.v])] ->
 K (VB false) h66)))))) /\
 (s80b = false ->
 ((!(s66b == false)) = true ->
 K (VB false) h9) /\
 ((!(s66b == false)) = false ->
 ∃ J5 : Heap -> Prop, ((s66b = true ->
 callM P 8 #[(.agg #[s58.v]), (VI s58c), (VI s58b)] h9 fun r33 h67 => ∃ s122c : Sl, ∃ s122d : Bool, r33 = (.tuple #[s122c.v, (VB s122d)]) /\ Vars h67 [(b1, [s58.v])] /\
 ((!s122d) = true ->
 K (VB false) h67) /\
 ((!s122d) = false ->
 ((!decide ((s66.n : Int) = (s58.n : Int))) = true ->
 K (VB false) h67) /\
 ((!decide ((s66.n : Int) = (s58.n : Int))) = false ->
 InB s66 s58b /\
 ∃ s139c : Int, ∃ s139d : Int, CellsAt h67 (Sl.at s66 s58b 2) [(VI s139c), (VI s139d)] /\
 pop P (binE .neq 36 (.tmp 139) (.tmp 140) (.agg #[(VI s139c), (VI s139d)]) (.agg #[(VI 1), (VI 1)])) fun r34 => ∃ s141b : Bool, r34 = (VB s141b) /\ 
 (s141b = true ->
 K (VB false) h67) /\
 (s141b = false ->
 InB s66 s58c /\
 ∃ s147c : Int, ∃ s147d : Int, CellsAt h67 (Sl.at s66 s58c 2) [(VI s147c), (VI s147d)] /\
 pop P (binE .neq 36 (.tmp 147) (.tmp 148) (.agg #[(VI s147c), (VI s147d)]) (.agg #[(VI 0), (VI 1)])) fun r35 => ∃ s149b : Bool, r35 = (VB s149b) /\ 
 (s149b = true ->
 K (VB false) h67) /\
 (s149b = false ->
 ∃ J6 : Nat -> Int -> Heap -> Prop, (∃ n0 : Nat, J6 n0 0 h67) /\
 ∀ (n5 : Nat) (s154b : Int) (h68 : Heap), J6 n5 s154b h68 -> Vars h68 [(b1, [s58.v])] ->
 ((decide (s154b < (s58.n : Int))) = true ->
 InB s58 s154b /\
 ∃ s158b : Sl, hcell h68 (Sl.at s58 s154b 1) = some s158b.v /\
 InB s66 s154b /\
 ∃ s162c : Int, ∃ s162d : Int, CellsAt h68 (Sl.at s66 s154b 2) [(VI s162c), (VI s162d)] /\
 InB s122c s154b /\
 ∀ (b20 : Nat) (h70 : Heap), h68.size ≤ b20 -> Fr (In []) h68 h70 -> Vars h70 [(b20, [(VI s162c), (VI s162d)]), (b1, [s58.v])] ->
 ∃ s166c : Int, ∃ s166d : Int, CellsAt h70 (Sl.at s122c s154b 2) [(VI s166c), (VI s166d)] /\
 ∀ (b21 : Nat) (h72 : Heap), h70.size ≤ b21 -> Fr (In []) h70 h72 -> Vars h72 [(b21, [(VI s166c), (VI s166d)]), (b20, [(VI s162c), (VI s162d)]), (b1, [s58.v])] ->
 callM P 13 #[(.agg #[s58.v]), (VI s154b), (VI s58b), (VI s58c)] h72 fun r36 h73 => ∃ s172d : Int, ∃ s172e : Int, ∃ s172f : Bool, r36 = (.tuple #[(.agg #[(VI s172d), (VI s172e)]), (VB s172f)]) /\ Vars h73 [(b21, [(VI s166c), (VI s166d)]), (b20, [(VI s162c), (VI s162d)]), (b1, [s58.v])] /\
 ∀ (b22 : Nat) (h75 : Heap), h73.size ≤ b22 -> Fr (In []) h73 h75 -> Vars h75 [(b22, [(VI s172d), (VI s172e)]), (b21, [(VI s166c), (VI s166d)]), (b20, [(VI s162c), (VI s162d)]), (b1, [s58.v])] ->
 callM P 14 #[(.agg #[s58.v]), (VI s154b), (VI s58b), (VI s58c)] h75 fun r37 h76 => ∃ s180d : Int, ∃ s180e : Int, ∃ s180f : Bool, r37 = (.tuple #[(.agg #[(VI s180d), (VI s180e)]), (VB s180f)]) /\ Vars h76 [(b22, [(VI s172d), (VI s172e)]), (b21, [(VI s166c), (VI s166d)]), (b20, [(VI s162c), (VI s162d)]), (b1, [s58.v])] /\
 ((!s172f) = true ->
 ∀ (b23 : Nat) (h78 : Heap), h76.size ≤ b23 -> Fr (In []) h76 h78 -> Vars h78 [(b23, [(VI s180d), (VI s180e)]), (b22, [(VI s172d), (VI s172e)]), (b21, [(VI s166c), (VI s166d)]), (b20, [(VI s162c), (VI s162d)]), (b1, [s58.v])] ->
 K (VB false) h78) /\
 ((!s172f) = false ->
 pop P (binE .neq 36 (.tmp 186) (.tmp 187) (.agg #[(VI s172d), (VI s172e)]) (.agg #[(VI s162c), (VI s162d)])) fun r38 => ∃ s188b : Bool, r38 = (VB s188b) /\ 
 (s188b = true ->
 ∀ (b23 : Nat) (h78 : Heap), h76.size ≤ b23 -> Fr (In []) h76 h78 -> Vars h78 [(b23, [(VI s180d), (VI s180e)]), (b22, [(VI s172d), (VI s172e)]), (b21, [(VI s166c), (VI s166d)]), (b20, [(VI s162c), (VI s162d)]), (b1, [s58.v])] ->
 K (VB false) h78) /\
 (s188b = false ->
 ((!s180f) = true ->
 ∀ (b23 : Nat) (h78 : Heap), h76.size ≤ b23 -> Fr (In []) h76 h78 -> Vars h78 [(b23, [(VI s180d), (VI s180e)]), (b22, [(VI s172d), (VI s172e)]), (b21, [(VI s166c), (VI s166d)]), (b20, [(VI s162c), (VI s162d)]), (b1, [s58.v])] ->
 K (VB false) h78) /\
 ((!s180f) = false ->
 ((decide (s162c < 0)) = true ->
 ∀ (b23 : Nat) (h78 : Heap), h76.size ≤ b23 -> Fr (In []) h76 h78 -> Vars h78 [(b23, [(VI s180d), (VI s180e)]), (b22, [(VI s172d), (VI s172e)]), (b21, [(VI s166c), (VI s166d)]), (b20, [(VI s162c), (VI s162d)]), (b1, [s58.v])] ->
 K (VB false) h78) /\
 ((decide (s162c < 0)) = false ->
 ((decide (s162d < s162c)) = true ->
 ∀ (b23 : Nat) (h78 : Heap), h76.size ≤ b23 -> Fr (In []) h76 h78 -> Vars h78 [(b23, [(VI s180d), (VI s180e)]), (b22, [(VI s172d), (VI s172e)]), (b21, [(VI s166c), (VI s166d)]), (b20, [(VI s162c), (VI s162d)]), (b1, [s58.v])] ->
 K (VB false) h78) /\
 ((decide (s162d < s162c)) = false ->
 ((decide (s162d < 1)) = true ->
 ∀ (b23 : Nat) (h78 : Heap), h76.size ≤ b23 -> Fr (In []) h76 h78 -> Vars h78 [(b23, [(VI s180d), (VI s180e)]), (b22, [(VI s172d), (VI s172e)]), (b21, [(VI s166c), (VI s166d)]), (b20, [(VI s162c), (VI s162d)]), (b1, [s58.v])] ->
 K (VB false) h78) /\
 ((decide (s162d < 1)) = false ->
 ((!decide (s166d = s162d)) = true ->
 ∀ (b23 : Nat) (h78 : Heap), h76.size ≤ b23 -> Fr (In []) h76 h78 -> Vars h78 [(b23, [(VI s180d), (VI s180e)]), (b22, [(VI s172d), (VI s172e)]), (b21, [(VI s166c), (VI s166d)]), (b20, [(VI s162c), (VI s162d)]), (b1, [s58.v])] ->
 K (VB false) h78) /\
 ((!decide (s166d = s162d)) = false ->
 ((!decide (s166c = (w64 (s162d - s162c)))) = true ->
 ∀ (b23 : Nat) (h78 : Heap), h76.size ≤ b23 -> Fr (In []) h76 h78 -> Vars h78 [(b23, [(VI s180d), (VI s180e)]), (b22, [(VI s172d), (VI s172e)]), (b21, [(VI s166c), (VI s166d)]), (b20, [(VI s162c), (VI s162d)]), (b1, [s58.v])] ->
 K (VB false) h78) /\
 ((!decide (s166c = (w64 (s162d - s162c)))) = false ->
 ((decide (s154b = s58b)) = true ->
 ((!((decide (s180d = 0)) == true)) = true ->
 ∀ (b23 : Nat) (h78 : Heap), h76.size ≤ b23 -> Fr (In []) h76 h78 -> Vars h78 [(b23, [(VI s180d), (VI s180e)]), (b22, [(VI s172d), (VI s172e)]), (b21, [(VI s166c), (VI s166d)]), (b20, [(VI s162c), (VI s162d)]), (b1, [s58.v])] ->
 K (VB false) h78) /\
 ((!((decide (s180d = 0)) == true)) = false ->
 ∀ (b23 : Nat) (h78 : Heap), h76.size ≤ b23 -> Fr (In []) h76 h78 -> Vars h78 [(b23, [(VI s180d), (VI s180e)]), (b22, [(VI s172d), (VI s172e)]), (b21, [(VI s166c), (VI s166d)]), (b20, [(VI s162c), (VI s162d)]), (b1, [s58.v])] ->
 ∃ m : Nat, m < n5 /\ J6 m (w64 (s154b + 1)) h78)) /\
 ((decide (s154b = s58b)) = false ->
 ((!((decide (s180d = 0)) == (decide (s154b = s58c)))) = true ->
 ∀ (b23 : Nat) (h78 : Heap), h76.size ≤ b23 -> Fr (In []) h76 h78 -> Vars h78 [(b23, [(VI s180d), (VI s180e)]), (b22, [(VI s172d), (VI s172e)]), (b21, [(VI s166c), (VI s166d)]), (b20, [(VI s162c), (VI s162d)]), (b1, [s58.v])] ->
 K (VB false) h78) /\
 ((!((decide (s180d = 0)) == (decide (s154b = s58c)))) = false ->
 ((decide (s154b = s58c)) = true ->
 ∀ (b23 : Nat) (h78 : Heap), h76.size ≤ b23 -> Fr (In []) h76 h78 -> Vars h78 [(b23, [(VI s180d), (VI s180e)]), (b22, [(VI s172d), (VI s172e)]), (b21, [(VI s166c), (VI s166d)]), (b20, [(VI s162c), (VI s162d)]), (b1, [s58.v])] ->
 ∃ m : Nat, m < n5 /\ J6 m (w64 (s154b + 1)) h78) /\
 ((decide (s154b = s58c)) = false ->
 ∀ (b23 : Nat) (h78 : Heap), h76.size ≤ b23 -> Fr (In []) h76 h78 -> Vars h78 [(b23, [(VI s180d), (VI s180e)]), (b22, [(VI s172d), (VI s172e)]), (b21, [(VI s166c), (VI s166d)]), (b20, [(VI s162c), (VI s162d)]), (b1, [s58.v])] ->
 ∃ J7 : Int -> Int -> Int -> Int -> Heap -> Prop, (∃ J8 : Nat -> Int -> Int -> Int -> Int -> Int -> Heap -> Prop, (∃ n0 : Nat, J8 n0 0 1 0 1 0 h78) /\
 ∀ (n6 : Nat) (num26_2 : Int) (den27_2 : Int) (total28_2 : Int) (whole29_2 : Int) (s252b : Int) (h79 : Heap), J8 n6 num26_2 den27_2 total28_2 whole29_2 s252b h79 -> Vars h79 [(b23, [(VI s180d), (VI s180e)]), (b22, [(VI s172d), (VI s172e)]), (b21, [(VI s166c), (VI s166d)]), (b20, [(VI s162c), (VI s162d)]), (b1, [s58.v])] ->
 ((decide (s252b < (s158b.n : Int))) = true ->
 InB s158b s252b /\
 ∃ s255b : Int, hcell h79 (Sl.at s158b s252b 1) = some (VI s255b) /\
 InB s66 s255b /\
 ∃ s261b : Int, hcell h79 (Addr.add (Sl.at s66 s255b 2) 1) = some (VI s261b) /\
 InB s66 s255b /\
 ∃ s267b : Int, hcell h79 (Addr.add (Sl.at s66 s255b 2) 0) = some (VI s267b) /\
 InB s66 s255b /\
 ∃ s276b : Int, hcell h79 (Addr.add (Sl.at s66 s255b 2) 1) = some (VI s276b) /\
 callM P 14 #[(.agg #[s58.v]), (VI s255b), (VI s58b), (VI s58c)] h79 fun r39 h80 => ∃ s283d : Int, ∃ s283e : Int, ∃ s283f : Bool, r39 = (.tuple #[(.agg #[(VI s283d), (VI s283e)]), (VB s283f)]) /\ Vars h80 [(b23, [(VI s180d), (VI s180e)]), (b22, [(VI s172d), (VI s172e)]), (b21, [(VI s166c), (VI s166d)]), (b20, [(VI s162c), (VI s162d)]), (b1, [s58.v])] /\
 ((!s283f) = true ->
 ∀ (b24 : Nat) (h82 : Heap), h80.size ≤ b24 -> Fr (In []) h80 h82 -> Vars h82 [(b24, [(VI s283d), (VI s283e)]), (b23, [(VI s180d), (VI s180e)]), (b22, [(VI s172d), (VI s172e)]), (b21, [(VI s166c), (VI s166d)]), (b20, [(VI s162c), (VI s162d)]), (b1, [s58.v])] ->
 K (VB false) h82) /\
 ((!s283f) = false ->
 ((decide (1048576 < (w64 (den27_2 * s276b)))) = true ->
 ∀ (b24 : Nat) (h82 : Heap), h80.size ≤ b24 -> Fr (In []) h80 h82 -> Vars h82 [(b24, [(VI s283d), (VI s283e)]), (b23, [(VI s180d), (VI s180e)]), (b22, [(VI s172d), (VI s172e)]), (b21, [(VI s166c), (VI s166d)]), (b20, [(VI s162c), (VI s162d)]), (b1, [s58.v])] ->
 J7 (w64 ((w64 (num26_2 * s261b)) + (w64 (s267b * den27_2)))) 0 (w64 ((w64 (total28_2 * s283e)) + (w64 (s283d * whole29_2)))) (w64 (whole29_2 * s283e)) h82) /\
 ((decide (1048576 < (w64 (den27_2 * s276b)))) = false ->
 ((decide (1048576 < (w64 (whole29_2 * s283e)))) = true ->
 ∀ (b24 : Nat) (h82 : Heap), h80.size ≤ b24 -> Fr (In []) h80 h82 -> Vars h82 [(b24, [(VI s283d), (VI s283e)]), (b23, [(VI s180d), (VI s180e)]), (b22, [(VI s172d), (VI s172e)]), (b21, [(VI s166c), (VI s166d)]), (b20, [(VI s162c), (VI s162d)]), (b1, [s58.v])] ->
 J7 (w64 ((w64 (num26_2 * s261b)) + (w64 (s267b * den27_2)))) 0 (w64 ((w64 (total28_2 * s283e)) + (w64 (s283d * whole29_2)))) (w64 (whole29_2 * s283e)) h82) /\
 ((decide (1048576 < (w64 (whole29_2 * s283e)))) = false ->
 ((decide (1073741824 < (w64 ((w64 (num26_2 * s261b)) + (w64 (s267b * den27_2)))))) = true ->
 ∀ (b24 : Nat) (h82 : Heap), h80.size ≤ b24 -> Fr (In []) h80 h82 -> Vars h82 [(b24, [(VI s283d), (VI s283e)]), (b23, [(VI s180d), (VI s180e)]), (b22, [(VI s172d), (VI s172e)]), (b21, [(VI s166c), (VI s166d)]), (b20, [(VI s162c), (VI s162d)]), (b1, [s58.v])] ->
 J7 (w64 ((w64 (num26_2 * s261b)) + (w64 (s267b * den27_2)))) 0 (w64 ((w64 (total28_2 * s283e)) + (w64 (s283d * whole29_2)))) (w64 (whole29_2 * s283e)) h82) /\
 ((decide (1073741824 < (w64 ((w64 (num26_2 * s261b)) + (w64 (s267b * den27_2)))))) = false ->
 ((decide (1073741824 < (w64 ((w64 (total28_2 * s283e)) + (w64 (s283d * whole29_2)))))) = true ->
 ∀ (b24 : Nat) (h82 : Heap), h80.size ≤ b24 -> Fr (In []) h80 h82 -> Vars h82 [(b24, [(VI s283d), (VI s283e)]), (b23, [(VI s180d), (VI s180e)]), (b22, [(VI s172d), (VI s172e)]), (b21, [(VI s166c), (VI s166d)]), (b20, [(VI s162c), (VI s162d)]), (b1, [s58.v])] ->
 J7 (w64 ((w64 (num26_2 * s261b)) + (w64 (s267b * den27_2)))) 0 (w64 ((w64 (total28_2 * s283e)) + (w64 (s283d * whole29_2)))) (w64 (whole29_2 * s283e)) h82) /\
 ((decide (1073741824 < (w64 ((w64 (total28_2 * s283e)) + (w64 (s283d * whole29_2)))))) = false ->
 ∀ (b24 : Nat) (h82 : Heap), h80.size ≤ b24 -> Fr (In []) h80 h82 -> Vars h82 [(b24, [(VI s283d), (VI s283e)]), (b23, [(VI s180d), (VI s180e)]), (b22, [(VI s172d), (VI s172e)]), (b21, [(VI s166c), (VI s166d)]), (b20, [(VI s162c), (VI s162d)]), (b1, [s58.v])] ->
 ∃ m : Nat, m < n6 /\ J8 m (w64 ((w64 (num26_2 * s261b)) + (w64 (s267b * den27_2)))) (w64 (den27_2 * s276b)) (w64 ((w64 (total28_2 * s283e)) + (w64 (s283d * whole29_2)))) (w64 (whole29_2 * s283e)) (w64 (s252b + 1)) h82)))))) /\
 ((decide (s252b < (s158b.n : Int))) = false ->
 J7 num26_2 den27_2 total28_2 whole29_2 h79)) /\
 ∀ (y5 : Int) (y6 : Int) (y7 : Int) (y8 : Int) (h83 : Heap), J7 y5 y6 y7 y8 h83 -> Vars h83 [(b23, [(VI s180d), (VI s180e)]), (b22, [(VI s172d), (VI s172e)]), (b21, [(VI s166c), (VI s166d)]), (b20, [(VI s162c), (VI s162d)]), (b1, [s58.v])] ->
 ((decide (y6 = 0)) = true ->
 ∃ m : Nat, m < n5 /\ J6 m (w64 (s154b + 1)) h83) /\
 ((decide (y6 = 0)) = false ->
 ((decide (1048576 < s162d)) = true ->
 ∃ m : Nat, m < n5 /\ J6 m (w64 (s154b + 1)) h83) /\
 ((decide (1048576 < s162d)) = false ->
 ((decide (1048576 < s180e)) = true ->
 ∃ m : Nat, m < n5 /\ J6 m (w64 (s154b + 1)) h83) /\
 ((decide (1048576 < s180e)) = false ->
 ((decide (1073741824 < s180d)) = true ->
 ∃ m : Nat, m < n5 /\ J6 m (w64 (s154b + 1)) h83) /\
 ((decide (1073741824 < s180d)) = false ->
 ((!decide ((w64 (y5 * s162d)) = (w64 ((w64 (s162c * y6)) * (s158b.n : Int))))) = true ->
 K (VB false) h83) /\
 ((!decide ((w64 (y5 * s162d)) = (w64 ((w64 (s162c * y6)) * (s158b.n : Int))))) = false ->
 ((!decide ((w64 ((w64 (y7 + (w64 (y8 * (s158b.n : Int))))) * s180e)) = (w64 ((w64 (s180d * y8)) * (s158b.n : Int))))) = true ->
 K (VB false) h83) /\
 ((!decide ((w64 ((w64 (y7 + (w64 (y8 * (s158b.n : Int))))) * s180e)) = (w64 ((w64 (s180d * y8)) * (s158b.n : Int))))) = false ->
 ∃ m : Nat, m < n5 /\ J6 m (w64 (s154b + 1)) h83)))))))))))))))))) /\
 ((decide (s154b < (s58.n : Int))) = false ->
 J5  h68)))))) /\
 (s66b = false ->
 J5  h9)) /\
 ∀ (h84 : Heap), J5  h84 -> Vars h84 [(b1, [s58.v])] ->
 callM P 15 #[more1_1.v] h84 fun r40 h85 => ∃ s367d : Sl, ∃ s367e : Int, ∃ s367f : Int, r40 = (.tuple #[(.agg #[s367d.v]), (VI s367e), (VI s367f)]) /\ Vars h85 [(b1, [s58.v])] /\
 ∀ (b25 : Nat) (h87 : Heap), h85.size ≤ b25 -> Fr (In []) h85 h87 -> Vars h87 [(b25, [s367d.v]), (b1, [s58.v])] ->
 callM P 16 #[(.agg #[s367d.v]), (VI s367e), (VI s367f)] h87 fun r41 h88 => ∃ s375d : Int, ∃ s375e : Int, ∃ s375f : Bool, r41 = (.tuple #[(.agg #[(VI s375d), (VI s375e)]), (VB s375f)]) /\ Vars h88 [(b25, [s367d.v]), (b1, [s58.v])] /\
 ∀ (b26 : Nat) (h90 : Heap), h88.size ≤ b26 -> Fr (In []) h88 h90 -> Vars h90 [(b26, [(VI s375d), (VI s375e)]), (b25, [s367d.v]), (b1, [s58.v])] ->
 callM P 17 #[(.agg #[s367d.v]), (VI s367e), (VI s367f)] h90 fun r42 h91 => ∃ s382d : Int, ∃ s382e : Int, ∃ s382f : Bool, r42 = (.tuple #[(.agg #[(VI s382d), (VI s382e)]), (VB s382f)]) /\ Vars h91 [(b26, [(VI s375d), (VI s375e)]), (b25, [s367d.v]), (b1, [s58.v])] /\
 ((!(s375f == s382f)) = true ->
 ∀ (b27 : Nat) (h93 : Heap), h91.size ≤ b27 -> Fr (In []) h91 h93 -> Vars h93 [(b27, [(VI s382d), (VI s382e)]), (b26, [(VI s375d), (VI s375e)]), (b25, [s367d.v]), (b1, [s58.v])] ->
 K (VB false) h93) /\
 ((!(s375f == s382f)) = false ->
 pop P (binE .neq 36 (.tmp 389) (.tmp 390) (.agg #[(VI s375d), (VI s375e)]) (.agg #[(VI s382d), (VI s382e)])) fun r43 => ∃ s391b : Bool, r43 = (VB s391b) /\ 
 (s391b = true ->
 ∀ (b27 : Nat) (h93 : Heap), h91.size ≤ b27 -> Fr (In []) h91 h93 -> Vars h93 [(b27, [(VI s382d), (VI s382e)]), (b26, [(VI s375d), (VI s375e)]), (b25, [s367d.v]), (b1, [s58.v])] ->
 K (VB false) h93) /\
 (s391b = false ->
 (s375f = true ->
 ((decide (s375d < 1)) = true ->
 ∀ (b27 : Nat) (h93 : Heap), h91.size ≤ b27 -> Fr (In []) h91 h93 -> Vars h93 [(b27, [(VI s382d), (VI s382e)]), (b26, [(VI s375d), (VI s375e)]), (b25, [s367d.v]), (b1, [s58.v])] ->
 K (VB false) h93) /\
 ((decide (s375d < 1)) = false ->
 ((decide (s375e < s375d)) = true ->
 ∀ (b27 : Nat) (h93 : Heap), h91.size ≤ b27 -> Fr (In []) h91 h93 -> Vars h93 [(b27, [(VI s382d), (VI s382e)]), (b26, [(VI s375d), (VI s375e)]), (b25, [s367d.v]), (b1, [s58.v])] ->
 K (VB false) h93) /\
 ((decide (s375e < s375d)) = false ->
 ∀ (b27 : Nat) (h93 : Heap), h91.size ≤ b27 -> Fr (In []) h91 h93 -> Vars h93 [(b27, [(VI s382d), (VI s382e)]), (b26, [(VI s375d), (VI s375e)]), (b25, [s367d.v]), (b1, [s58.v])] ->
 callM P 18 #[more1_1.v] h93 fun r44 h94 => ∃ s410i : Sl, ∃ t410_10 : Int, ∃ t410_11 : Int, ∃ t410_12 : Int, r44 = (.tuple #[(.agg #[s410i.v]), (VI t410_10), (VI t410_11), (VI t410_12)]) /\ Vars h94 [(b27, [(VI s382d), (VI s382e)]), (b26, [(VI s375d), (VI s375e)]), (b25, [s367d.v]), (b1, [s58.v])] /\
 ∀ (b28 : Nat) (h96 : Heap), h94.size ≤ b28 -> Fr (In []) h94 h96 -> Vars h96 [(b28, [s410i.v]), (b27, [(VI s382d), (VI s382e)]), (b26, [(VI s375d), (VI s375e)]), (b25, [s367d.v]), (b1, [s58.v])] ->
 callM P 14 #[(.agg #[s410i.v]), (VI t410_10), (VI t410_11), (VI t410_12)] h96 fun r45 h97 => ∃ s420g : Int, ∃ s420h : Int, ∃ s420i : Bool, r45 = (.tuple #[(.agg #[(VI s420g), (VI s420h)]), (VB s420i)]) /\ Vars h97 [(b28, [s410i.v]), (b27, [(VI s382d), (VI s382e)]), (b26, [(VI s375d), (VI s375e)]), (b25, [s367d.v]), (b1, [s58.v])] /\
 ∀ (b29 : Nat) (h99 : Heap), h97.size ≤ b29 -> Fr (In []) h97 h99 -> Vars h99 [(b29, [(VI s420g), (VI s420h)]), (b28, [s410i.v]), (b27, [(VI s382d), (VI s382e)]), (b26, [(VI s375d), (VI s375e)]), (b25, [s367d.v]), (b1, [s58.v])] ->
 callM P 19 #[(.agg #[s410i.v]), (VI t410_10), (VI t410_11), (VI t410_12)] h99 fun r46 h100 => ∃ s428g : Int, ∃ s428h : Int, ∃ s428i : Bool, r46 = (.tuple #[(.agg #[(VI s428g), (VI s428h)]), (VB s428i)]) /\ Vars h100 [(b29, [(VI s420g), (VI s420h)]), (b28, [s410i.v]), (b27, [(VI s382d), (VI s382e)]), (b26, [(VI s375d), (VI s375e)]), (b25, [s367d.v]), (b1, [s58.v])] /\
 ∀ (b30 : Nat) (h102 : Heap), h100.size ≤ b30 -> Fr (In []) h100 h102 -> Vars h102 [(b30, [(VI s428g), (VI s428h)]), (b29, [(VI s420g), (VI s420h)]), (b28, [s410i.v]), (b27, [(VI s382d), (VI s382e)]), (b26, [(VI s375d), (VI s375e)]), (b25, [s367d.v]), (b1, [s58.v])] ->
 callM P 13 #[(.agg #[s410i.v]), (VI t410_10), (VI t410_11), (VI t410_12)] h102 fun r47 h103 => ∃ s436g : Int, ∃ s436h : Int, ∃ s436i : Bool, r47 = (.tuple #[(.agg #[(VI s436g), (VI s436h)]), (VB s436i)]) /\ Vars h103 [(b30, [(VI s428g), (VI s428h)]), (b29, [(VI s420g), (VI s420h)]), (b28, [s410i.v]), (b27, [(VI s382d), (VI s382e)]), (b26, [(VI s375d), (VI s375e)]), (b25, [s367d.v]), (b1, [s58.v])] /\
 ∀ (b31 : Nat) (h105 : Heap), h103.size ≤ b31 -> Fr (In []) h103 h105 -> Vars h105 [(b31, [(VI s436g), (VI s436h)]), (b30, [(VI s428g), (VI s428h)]), (b29, [(VI s420g), (VI s420h)]), (b28, [s410i.v]), (b27, [(VI s382d), (VI s382e)]), (b26, [(VI s375d), (VI s375e)]), (b25, [s367d.v]), (b1, [s58.v])] ->
 callM P 20 #[(.agg #[s410i.v]), (VI t410_10), (VI t410_11), (VI t410_12)] h105 fun r48 h106 => ∃ s444g : Int, ∃ s444h : Int, ∃ s444i : Bool, r48 = (.tuple #[(.agg #[(VI s444g), (VI s444h)]), (VB s444i)]) /\ Vars h106 [(b31, [(VI s436g), (VI s436h)]), (b30, [(VI s428g), (VI s428h)]), (b29, [(VI s420g), (VI s420h)]), (b28, [s410i.v]), (b27, [(VI s382d), (VI s382e)]), (b26, [(VI s375d), (VI s375e)]), (b25, [s367d.v]), (b1, [s58.v])] /\
 ((s420i == s428i) = true ->
 pop P (binE .eql 36 (.tmp 451) (.tmp 452) (.agg #[(VI s420g), (VI s420h)]) (.agg #[(VI s428g), (VI s428h)])) fun r49 => ∃ s453c : Bool, r49 = (VB s453c) /\ 
 (s453c = true ->
 ((s436i == s444i) = true ->
 pop P (binE .eql 36 (.tmp 461) (.tmp 462) (.agg #[(VI s436g), (VI s436h)]) (.agg #[(VI s444g), (VI s444h)])) fun r50 => ∃ s463c : Bool, r50 = (VB s463c) /\ 
 ∀ (b32 : Nat) (h108 : Heap), h106.size ≤ b32 -> Fr (In []) h106 h108 -> Vars h108 [(b32, [(VI s444g), (VI s444h)]), (b31, [(VI s436g), (VI s436h)]), (b30, [(VI s428g), (VI s428h)]), (b29, [(VI s420g), (VI s420h)]), (b28, [s410i.v]), (b27, [(VI s382d), (VI s382e)]), (b26, [(VI s375d), (VI s375e)]), (b25, [s367d.v]), (b1, [s58.v])] ->
 K (VB s463c) h108) /\
 ((s436i == s444i) = false ->
 ∀ (b32 : Nat) (h108 : Heap), h106.size ≤ b32 -> Fr (In []) h106 h108 -> Vars h108 [(b32, [(VI s444g), (VI s444h)]), (b31, [(VI s436g), (VI s436h)]), (b30, [(VI s428g), (VI s428h)]), (b29, [(VI s420g), (VI s420h)]), (b28, [s410i.v]), (b27, [(VI s382d), (VI s382e)]), (b26, [(VI s375d), (VI s375e)]), (b25, [s367d.v]), (b1, [s58.v])] ->
 K (VB false) h108)) /\
 (s453c = false ->
 ∀ (b32 : Nat) (h108 : Heap), h106.size ≤ b32 -> Fr (In []) h106 h108 -> Vars h108 [(b32, [(VI s444g), (VI s444h)]), (b31, [(VI s436g), (VI s436h)]), (b30, [(VI s428g), (VI s428h)]), (b29, [(VI s420g), (VI s420h)]), (b28, [s410i.v]), (b27, [(VI s382d), (VI s382e)]), (b26, [(VI s375d), (VI s375e)]), (b25, [s367d.v]), (b1, [s58.v])] ->
 K (VB false) h108)) /\
 ((s420i == s428i) = false ->
 ∀ (b32 : Nat) (h108 : Heap), h106.size ≤ b32 -> Fr (In []) h106 h108 -> Vars h108 [(b32, [(VI s444g), (VI s444h)]), (b31, [(VI s436g), (VI s436h)]), (b30, [(VI s428g), (VI s428h)]), (b29, [(VI s420g), (VI s420h)]), (b28, [s410i.v]), (b27, [(VI s382d), (VI s382e)]), (b26, [(VI s375d), (VI s375e)]), (b25, [s367d.v]), (b1, [s58.v])] ->
 K (VB false) h108)))) /\
 (s375f = false ->
 ∀ (b27 : Nat) (h93 : Heap), h91.size ≤ b27 -> Fr (In []) h91 h93 -> Vars h93 [(b27, [(VI s382d), (VI s382e)]), (b26, [(VI s375d), (VI s375e)]), (b25, [s367d.v]), (b1, [s58.v])] ->
 callM P 18 #[more1_1.v] h93 fun r51 h109 => ∃ t410_13 : Sl, ∃ t410_14 : Int, ∃ t410_15 : Int, ∃ t410_16 : Int, r51 = (.tuple #[(.agg #[t410_13.v]), (VI t410_14), (VI t410_15), (VI t410_16)]) /\ Vars h109 [(b27, [(VI s382d), (VI s382e)]), (b26, [(VI s375d), (VI s375e)]), (b25, [s367d.v]), (b1, [s58.v])] /\
 ∀ (b33 : Nat) (h111 : Heap), h109.size ≤ b33 -> Fr (In []) h109 h111 -> Vars h111 [(b33, [t410_13.v]), (b27, [(VI s382d), (VI s382e)]), (b26, [(VI s375d), (VI s375e)]), (b25, [s367d.v]), (b1, [s58.v])] ->
 callM P 14 #[(.agg #[t410_13.v]), (VI t410_14), (VI t410_15), (VI t410_16)] h111 fun r52 h112 => ∃ t420_10 : Int, ∃ t420_11 : Int, ∃ t420_12 : Bool, r52 = (.tuple #[(.agg #[(VI t420_10), (VI t420_11)]), (VB t420_12)]) /\ Vars h112 [(b33, [t410_13.v]), (b27, [(VI s382d), (VI s382e)]), (b26, [(VI s375d), (VI s375e)]), (b25, [s367d.v]), (b1, [s58.v])] /\
 ∀ (b34 : Nat) (h114 : Heap), h112.size ≤ b34 -> Fr (In []) h112 h114 -> Vars h114 [(b34, [(VI t420_10), (VI t420_11)]), (b33, [t410_13.v]), (b27, [(VI s382d), (VI s382e)]), (b26, [(VI s375d), (VI s375e)]), (b25, [s367d.v]), (b1, [s58.v])] ->
 callM P 19 #[(.agg #[t410_13.v]), (VI t410_14), (VI t410_15), (VI t410_16)] h114 fun r53 h115 => ∃ t428_10 : Int, ∃ t428_11 : Int, ∃ t428_12 : Bool, r53 = (.tuple #[(.agg #[(VI t428_10), (VI t428_11)]), (VB t428_12)]) /\ Vars h115 [(b34, [(VI t420_10), (VI t420_11)]), (b33, [t410_13.v]), (b27, [(VI s382d), (VI s382e)]), (b26, [(VI s375d), (VI s375e)]), (b25, [s367d.v]), (b1, [s58.v])] /\
 ∀ (b35 : Nat) (h117 : Heap), h115.size ≤ b35 -> Fr (In []) h115 h117 -> Vars h117 [(b35, [(VI t428_10), (VI t428_11)]), (b34, [(VI t420_10), (VI t420_11)]), (b33, [t410_13.v]), (b27, [(VI s382d), (VI s382e)]), (b26, [(VI s375d), (VI s375e)]), (b25, [s367d.v]), (b1, [s58.v])] ->
 callM P 13 #[(.agg #[t410_13.v]), (VI t410_14), (VI t410_15), (VI t410_16)] h117 fun r54 h118 => ∃ t436_10 : Int, ∃ t436_11 : Int, ∃ t436_12 : Bool, r54 = (.tuple #[(.agg #[(VI t436_10), (VI t436_11)]), (VB t436_12)]) /\ Vars h118 [(b35, [(VI t428_10), (VI t428_11)]), (b34, [(VI t420_10), (VI t420_11)]), (b33, [t410_13.v]), (b27, [(VI s382d), (VI s382e)]), (b26, [(VI s375d), (VI s375e)]), (b25, [s367d.v]), (b1, [s58.v])] /\
 ∀ (b36 : Nat) (h120 : Heap), h118.size ≤ b36 -> Fr (In []) h118 h120 -> Vars h120 [(b36, [(VI t436_10), (VI t436_11)]), (b35, [(VI t428_10), (VI t428_11)]), (b34, [(VI t420_10), (VI t420_11)]), (b33, [t410_13.v]), (b27, [(VI s382d), (VI s382e)]), (b26, [(VI s375d), (VI s375e)]), (b25, [s367d.v]), (b1, [s58.v])] ->
 callM P 20 #[(.agg #[t410_13.v]), (VI t410_14), (VI t410_15), (VI t410_16)] h120 fun r55 h121 => ∃ t444_10 : Int, ∃ t444_11 : Int, ∃ t444_12 : Bool, r55 = (.tuple #[(.agg #[(VI t444_10), (VI t444_11)]), (VB t444_12)]) /\ Vars h121 [(b36, [(VI t436_10), (VI t436_11)]), (b35, [(VI t428_10), (VI t428_11)]), (b34, [(VI t420_10), (VI t420_11)]), (b33, [t410_13.v]), (b27, [(VI s382d), (VI s382e)]), (b26, [(VI s375d), (VI s375e)]), (b25, [s367d.v]), (b1, [s58.v])] /\
 ((t420_12 == t428_12) = true ->
 pop P (binE .eql 36 (.tmp 451) (.tmp 452) (.agg #[(VI t420_10), (VI t420_11)]) (.agg #[(VI t428_10), (VI t428_11)])) fun r56 => ∃ s453d : Bool, r56 = (VB s453d) /\ 
 (s453d = true ->
 ((t436_12 == t444_12) = true ->
 pop P (binE .eql 36 (.tmp 461) (.tmp 462) (.agg #[(VI t436_10), (VI t436_11)]) (.agg #[(VI t444_10), (VI t444_11)])) fun r57 => ∃ s463d : Bool, r57 = (VB s463d) /\ 
 ∀ (b37 : Nat) (h123 : Heap), h121.size ≤ b37 -> Fr (In []) h121 h123 -> Vars h123 [(b37, [(VI t444_10), (VI t444_11)]), (b36, [(VI t436_10), (VI t436_11)]), (b35, [(VI t428_10), (VI t428_11)]), (b34, [(VI t420_10), (VI t420_11)]), (b33, [t410_13.v]), (b27, [(VI s382d), (VI s382e)]), (b26, [(VI s375d), (VI s375e)]), (b25, [s367d.v]), (b1, [s58.v])] ->
 K (VB s463d) h123) /\
 ((t436_12 == t444_12) = false ->
 ∀ (b37 : Nat) (h123 : Heap), h121.size ≤ b37 -> Fr (In []) h121 h123 -> Vars h123 [(b37, [(VI t444_10), (VI t444_11)]), (b36, [(VI t436_10), (VI t436_11)]), (b35, [(VI t428_10), (VI t428_11)]), (b34, [(VI t420_10), (VI t420_11)]), (b33, [t410_13.v]), (b27, [(VI s382d), (VI s382e)]), (b26, [(VI s375d), (VI s375e)]), (b25, [s367d.v]), (b1, [s58.v])] ->
 K (VB false) h123)) /\
 (s453d = false ->
 ∀ (b37 : Nat) (h123 : Heap), h121.size ≤ b37 -> Fr (In []) h121 h123 -> Vars h123 [(b37, [(VI t444_10), (VI t444_11)]), (b36, [(VI t436_10), (VI t436_11)]), (b35, [(VI t428_10), (VI t428_11)]), (b34, [(VI t420_10), (VI t420_11)]), (b33, [t410_13.v]), (b27, [(VI s382d), (VI s382e)]), (b26, [(VI s375d), (VI s375e)]), (b25, [s367d.v]), (b1, [s58.v])] ->
 K (VB false) h123)) /\
 ((t420_12 == t428_12) = false ->
 ∀ (b37 : Nat) (h123 : Heap), h121.size ≤ b37 -> Fr (In []) h121 h123 -> Vars h123 [(b37, [(VI t444_10), (VI t444_11)]), (b36, [(VI t436_10), (VI t436_11)]), (b35, [(VI t428_10), (VI t428_11)]), (b34, [(VI t420_10), (VI t420_11)]), (b33, [t410_13.v]), (b27, [(VI s382d), (VI s382e)]), (b26, [(VI s375d), (VI s375e)]), (b25, [s367d.v]), (b1, [s58.v])] ->
 K (VB false) h123)))))))))))
theorem v3 (code0_1 : Sl) (more1_1 : Sl) (h : Heap) (K : Value -> Heap -> Prop) (H : u3 Try.prog code0_1 more1_1 h K) : callM Try.prog 3 #[code0_1.v, more1_1.v] h K := by
  refine c3 code0_1.v more1_1.v h K ?_
  unfold u3 at H
  unfold t3
  have hL : Vars h [] := .nil
  refine H.mono fun r1 h1 H => ?_
  obtain ⟨s55, rfl, hL1, H⟩ := H
  refine condM_b (fun hb1 => ?_) (fun hb1 => ?_)
  ·exact H.1 hb1
  have H := H.2 hb1
  refine H.mono fun r2 h2 H => ?_
  obtain ⟨s58, s58b, s58c, rfl, hL2, H⟩ := H
  refine pop_ext (v := (Value.agg #[s58.v])) rfl ?_
  refine pop_ext (v := (VI s58b)) rfl ?_
  refine pop_ext (v := (VI s58c)) rfl ?_
  refine eop_alloc 26 zer26 rfl hL2 (fun b1 h3 hb2 hf1 hL3 => ?_)
  refine ul siz26 hL3 0 0 [s58.v] [(b1, [s58.v])] (fun h4 hf2 hL4 => ?_)
  refine ra agg26 hL4 0 0 [s58.v] ?_
  have H := H b1 h4 hb2 (Fr.new (Fr.no' (Fr.r (In []) _) hf1) hb2 hf2) hL4
  refine H.mono fun r3 h5 H => ?_
  obtain ⟨s66, s66b, rfl, hL5, H⟩ := H
  refine pop_ext (v := s66.v) rfl ?_
  refine pop_ext (v := (VB s66b)) rfl ?_
  refine ra agg26 hL5 0 0 [s58.v] ?_
  refine H.mono fun r4 h6 H => ?_
  obtain ⟨s73, s73b, rfl, hL6, H⟩ := H
  refine pop_ext (v := s73.v) rfl ?_
  refine pop_ext (v := (VB s73b)) rfl ?_
  refine ra agg26 hL6 0 0 [s58.v] ?_
  refine H.mono fun r5 h7 H => ?_
  obtain ⟨s80, s80b, rfl, hL7, H⟩ := H
  refine pop_ext (v := (VB s80)) rfl ?_
  refine pop_ext (v := (VB s80b)) rfl ?_
  refine ra agg26 hL7 0 0 [s58.v] ?_
  refine H.mono fun r6 h8 H => ?_
  obtain ⟨s87, s87b, rfl, hL8, H⟩ := H
  refine pop_ext (v := (VB s87)) rfl ?_
  refine pop_ext (v := (VB s87b)) rfl ?_
  refine pop_bne boo4 _ _ s66b s73b ?_
  refine guardM_sf (fun hb3 => ?_) (fun hb3 => ?_)
  rotate_left
  ·have H := H.1 hb3
   refine gm hb3 ?_
   refine gm hb3 ?_
   refine gm hb3 ?_
   refine pop_pickt' hb3 ?_
   refine gn ?_
   refine gn ?_
   refine gn ?_
   refine pop_pickt _ _ ?_
   refine gn ?_
   refine gn ?_
   refine gn ?_
   refine pop_pickt _ _ ?_
   refine gn ?_
   refine gn ?_
   refine gn ?_
   refine gn ?_
   refine gn ?_
   refine gn ?_
   refine pop_pickt _ _ ?_
   refine condM_t ?_
   exact H
  have H := H.2 hb3
  refine gy hb3 ?_
  refine gy hb3 ?_
  refine H.mono fun r7 h9 H => ?_
  obtain ⟨s96, rfl, hL9, H⟩ := H
  refine gy hb3 ?_
  refine pop_not s96 ?_
  refine pop_pickf' hb3 ?_
  refine guardM_sf (fun hb4 => ?_) (fun hb4 => ?_)
  rotate_left
  ·have H := H.1 hb4
   refine gm hb4 ?_
   refine gm hb4 ?_
   refine pop_pickt' hb4 ?_
   refine gn ?_
   refine gn ?_
   refine gn ?_
   refine pop_pickt _ _ ?_
   refine gn ?_
   refine gn ?_
   refine gn ?_
   refine gn ?_
   refine gn ?_
   refine gn ?_
   refine pop_pickt _ _ ?_
   refine condM_t ?_
   exact H
  have H := H.2 hb4
  refine gy hb4 ?_
  refine gy hb4 ?_
  refine pop_bne boo4 _ _ s80b s87b ?_
  refine pop_pickf' hb4 ?_
  refine guardM_sf (fun hb5 => ?_) (fun hb5 => ?_)
  rotate_left
  ·have H := H.1 hb5
   refine gm hb5 ?_
   refine gm hb5 ?_
   refine pop_pickt' hb5 ?_
   refine gn ?_
   refine gn ?_
   refine gn ?_
   refine gn ?_
   refine gn ?_
   refine gn ?_
   refine pop_pickt _ _ ?_
   refine condM_t ?_
   exact H
  have H := H.2 hb5
  refine gy hb5 ?_
  refine gy hb5 ?_
  refine pop_bne boo4 _ _ s80 s87 ?_
  refine pop_pickf' hb5 ?_
  refine guardM_sf (fun hb6 => ?_) (fun hb6 => ?_)
  rotate_left
  ·have H := H.1 hb6
   refine gm hb6 ?_
   refine gm hb6 ?_
   refine gn ?_
   refine gm hb6 ?_
   refine gm hb6 ?_
   refine pop_pickt' hb6 ?_
   refine condM_t ?_
   exact H
  have H := H.2 hb6
  refine gy hb6 ?_
  refine gy hb6 ?_
  refine guardM_st (fun hb7 => ?_) (fun hb7 => ?_)
  ·have H := H.1 hb7
   refine gy hb6 ?_
   refine pop_pickt' hb7 ?_
   refine gy hb6 ?_
   refine pop_bne boo4 _ _ s66b s80 ?_
   refine pop_pickf' hb6 ?_
   refine condM_b (fun hb8 => ?_) (fun hb8 => ?_)
   ·exact H.1 hb8
   have H := H.2 hb8
   obtain ⟨J1, H, HB4⟩ := H
   refine ⟨fun (vs : List Value) (h' : Heap) => vs = [] /\ J1  h' /\ Vars h' [(b1, [s58.v])], ?_, ?_⟩
   ·refine condM_b (fun hb9 => ?_) (fun hb9 => ?_)
    rotate_left
    ·have H := H.2 hb9
     exact ⟨rfl, H, hL9⟩
    have H := H.1 hb9
    refine ra agg26 hL9 0 0 [s58.v] ?_
    refine H.mono fun r8 h10 H => ?_
    obtain ⟨s122, s122b, rfl, hL10, H⟩ := H
    refine pop_ext (v := s122.v) rfl ?_
    refine pop_ext (v := (VB s122b)) rfl ?_
    refine pop_not s122b ?_
    refine guardM_sf (fun hb10 => ?_) (fun hb10 => ?_)
    rotate_left
    ·have H := H.1 hb10
     refine gm hb10 ?_
     refine gm hb10 ?_
     refine gm hb10 ?_
     refine gm hb10 ?_
     refine gm hb10 ?_
     refine pop_pickt' hb10 ?_
     refine gn ?_
     refine gn ?_
     refine gn ?_
     refine gn ?_
     refine gn ?_
     refine gn ?_
     refine pop_pickt _ _ ?_
     refine gn ?_
     refine gn ?_
     refine gn ?_
     refine gn ?_
     refine gn ?_
     refine gn ?_
     refine pop_pickt _ _ ?_
     refine condM_t ?_
     exact H
    have H := H.2 hb10
    refine gy hb10 ?_
    refine pop_len s66 _ _ sli29 ?_
    refine gy hb10 ?_
    refine pop_field 0 fld26_0 b1 0 ?_
    refine gy hb10 ?_
    refine rl one24 hL10 0 0 s58.v ?_
    refine gy hb10 ?_
    refine pop_len s58 _ _ sli24 ?_
    refine gy hb10 ?_
    refine pop_ine .i64 _ _ (s66.n : Int) (s58.n : Int) ?_
    refine pop_pickf' hb10 ?_
    refine guardM_sf (fun hb11 => ?_) (fun hb11 => ?_)
    rotate_left
    ·have H := H.1 hb11
     refine gm hb11 ?_
     refine gm hb11 ?_
     refine gm hb11 ?_
     refine gm hb11 ?_
     refine gm hb11 ?_
     refine pop_pickt' hb11 ?_
     refine gn ?_
     refine gn ?_
     refine gn ?_
     refine gn ?_
     refine gn ?_
     refine gn ?_
     refine pop_pickt _ _ ?_
     refine condM_t ?_
     exact H
    have H := H.2 hb11
    refine gy hb11 ?_
    refine gy hb11 ?_
    obtain ⟨hi1, H⟩ := H
    refine pop_index sli29 siz36 .i64 s66 s58b hi1 ?_
    refine gy hb11 ?_
    obtain ⟨s139, s139b, hc9, H⟩ := H
    refine rop_agg agg36 [(VI s139), (VI s139b)] rfl hc9 ?_
    refine gy hb11 ?_
    refine pop.mk' (v := (Value.agg #[(VI 1), (VI 1)])) (fun w => by kernel_rfl) ?_
    refine gy hb11 ?_
    refine H.mono fun r9 H => ?_
    obtain ⟨s141, rfl, H⟩ := H
    refine pop_pickf' hb11 ?_
    refine guardM_sf (fun hb12 => ?_) (fun hb12 => ?_)
    rotate_left
    ·have H := H.1 hb12
     refine gm hb12 ?_
     refine gm hb12 ?_
     refine gm hb12 ?_
     refine gm hb12 ?_
     refine gm hb12 ?_
     refine pop_pickt' hb12 ?_
     refine condM_t ?_
     exact H
    have H := H.2 hb12
    refine gy hb12 ?_
    refine gy hb12 ?_
    obtain ⟨hi2, H⟩ := H
    refine pop_index sli29 siz36 .i64 s66 s58c hi2 ?_
    refine gy hb12 ?_
    obtain ⟨s147, s147b, hc8, H⟩ := H
    refine rop_agg agg36 [(VI s147), (VI s147b)] rfl hc8 ?_
    refine gy hb12 ?_
    refine pop.mk' (v := (Value.agg #[(VI 0), (VI 1)])) (fun w => by kernel_rfl) ?_
    refine gy hb12 ?_
    refine H.mono fun r10 H => ?_
    obtain ⟨s149, rfl, H⟩ := H
    refine pop_pickf' hb12 ?_
    refine condM_b (fun hb13 => ?_) (fun hb13 => ?_)
    ·exact H.1 hb13
    have H := H.2 hb13
    refine pop_field 0 fld26_0 b1 0 ?_
    refine rl one24 hL10 0 0 s58.v ?_
    refine pop_len s58 _ _ sli24 ?_
    obtain ⟨J2, ⟨n4, h0_2⟩, HB3⟩ := H
    refine loop_intro (J := fun (n : Nat) (vs : List Value) (h' : Heap) => ∃ s154 : Int, vs = [(VI s154)] /\ J2 n s154 h' /\ Vars h' [(b1, [s58.v])]) n4 ⟨0, rfl, h0_2, hL10⟩ ?_
    intro I2 mu2 hI2 junk1 tv10 h11 hi3
    obtain ⟨n1, ⟨s154, hv, hJ1, hL11⟩, hn1⟩ := hI2 _ _ hi3
    cases hv
    have H := HB3 n1 s154 h11 hJ1 hL11
    refine pop_lss .i64 s154 (s58.n : Int) ?_
    refine condM_b (fun hb14 => ?_) (fun hb14 => ?_)
    rotate_left
    ·have H := H.2 hb14
     exact ⟨rfl, H, hL11⟩
    have H := H.1 hb14
    obtain ⟨hi4, H⟩ := H
    refine pop_index sli24 siz37 .i64 s58 s154 hi4 ?_
    obtain ⟨s158, hc7, H⟩ := H
    refine rop_one one37 s158.v hc7 ?_
    obtain ⟨hi5, H⟩ := H
    refine pop_index sli29 siz36 .i64 s66 s154 hi5 ?_
    obtain ⟨s162, s162b, hc6, H⟩ := H
    refine rop_agg agg36 [(VI s162), (VI s162b)] rfl hc6 ?_
    refine eop_alloc 36 zer36 rfl hL11 (fun b2 h12 hb15 hf3 hL12 => ?_)
    refine ul siz36 hL12 0 0 [(VI s162), (VI s162b)] [(b2, [(VI s162), (VI s162b)]), (b1, [s58.v])] (fun h13 hf4 hL13 => ?_)
    obtain ⟨hi6, H⟩ := H
    refine pop_index sli29 siz36 .i64 s122 s154 hi6 ?_
    have H := H b2 h13 hb15 (Fr.new (Fr.no' (Fr.r (In []) _) hf3) hb15 hf4) hL13
    obtain ⟨s166, s166b, hc5, H⟩ := H
    refine rop_agg agg36 [(VI s166), (VI s166b)] rfl hc5 ?_
    refine eop_alloc 36 zer36 rfl hL13 (fun b3 h14 hb16 hf5 hL14 => ?_)
    refine ul siz36 hL14 0 0 [(VI s166), (VI s166b)] [(b3, [(VI s166), (VI s166b)]), (b2, [(VI s162), (VI s162b)]), (b1, [s58.v])] (fun h15 hf6 hL15 => ?_)
    refine ra agg26 hL15 2 0 [s58.v] ?_
    have H := H b3 h15 hb16 (Fr.new (Fr.no' (Fr.r (In []) _) hf5) hb16 hf6) hL15
    refine H.mono fun r11 h16 H => ?_
    obtain ⟨s172, s172b, s172c, rfl, hL16, H⟩ := H
    refine pop_ext (v := (Value.agg #[(VI s172), (VI s172b)])) rfl ?_
    refine pop_ext (v := (VB s172c)) rfl ?_
    refine eop_alloc 36 zer36 rfl hL16 (fun b4 h17 hb17 hf7 hL17 => ?_)
    refine ul siz36 hL17 0 0 [(VI s172), (VI s172b)] [(b4, [(VI s172), (VI s172b)]), (b3, [(VI s166), (VI s166b)]), (b2, [(VI s162), (VI s162b)]), (b1, [s58.v])] (fun h18 hf8 hL18 => ?_)
    refine ra agg26 hL18 3 0 [s58.v] ?_
    have H := H b4 h18 hb17 (Fr.new (Fr.no' (Fr.r (In []) _) hf7) hb17 hf8) hL18
    refine H.mono fun r12 h19 H => ?_
    obtain ⟨s180, s180b, s180c, rfl, hL19, H⟩ := H
    refine pop_ext (v := (Value.agg #[(VI s180), (VI s180b)])) rfl ?_
    refine pop_ext (v := (VB s180c)) rfl ?_
    refine eop_alloc 36 zer36 rfl hL19 (fun b5 h20 hb18 hf9 hL20 => ?_)
    refine ul siz36 hL20 0 0 [(VI s180), (VI s180b)] [(b5, [(VI s180), (VI s180b)]), (b4, [(VI s172), (VI s172b)]), (b3, [(VI s166), (VI s166b)]), (b2, [(VI s162), (VI s162b)]), (b1, [s58.v])] (fun h21 hf10 hL21 => ?_)
    refine pop_not s172c ?_
    refine guardM_sf (fun hb19 => ?_) (fun hb19 => ?_)
    rotate_left
    ·have H := H.1 hb19
     refine gm hb19 ?_
     refine gm hb19 ?_
     refine pop_pickt' hb19 ?_
     refine gn ?_
     refine gn ?_
     refine pop_pickt _ _ ?_
     refine gn ?_
     refine gn ?_
     refine gn ?_
     refine pop_pickt _ _ ?_
     refine gn ?_
     refine gn ?_
     refine gn ?_
     refine gn ?_
     refine gn ?_
     refine pop_pickt _ _ ?_
     refine gn ?_
     refine gn ?_
     refine gn ?_
     refine pop_pickt _ _ ?_
     refine gn ?_
     refine gn ?_
     refine gn ?_
     refine gn ?_
     refine gn ?_
     refine pop_pickt _ _ ?_
     refine gn ?_
     refine gn ?_
     refine gn ?_
     refine gn ?_
     refine gn ?_
     refine gn ?_
     refine gn ?_
     refine gn ?_
     refine pop_pickt _ _ ?_
     refine gn ?_
     refine gn ?_
     refine gn ?_
     refine gn ?_
     refine gn ?_
     refine gn ?_
     refine gn ?_
     refine gn ?_
     refine gn ?_
     refine gn ?_
     refine gn ?_
     refine gn ?_
     refine pop_pickt _ _ ?_
     refine condM_t ?_
     have H := H b5 h21 hb18 (Fr.new (Fr.no' (Fr.r (In []) _) hf9) hb18 hf10) hL21
     exact H
    have H := H.2 hb19
    refine ra agg36 hL21 1 0 [(VI s172), (VI s172b)] ?_
    refine gy hb19 ?_
    refine ra agg36 hL21 3 0 [(VI s162), (VI s162b)] ?_
    refine gy hb19 ?_
    refine H.mono fun r13 H => ?_
    obtain ⟨s188, rfl, H⟩ := H
    refine pop_pickf' hb19 ?_
    refine guardM_sf (fun hb20 => ?_) (fun hb20 => ?_)
    rotate_left
    ·have H := H.1 hb20
     refine gm hb20 ?_
     refine pop_pickt' hb20 ?_
     refine gn ?_
     refine gn ?_
     refine gn ?_
     refine pop_pickt _ _ ?_
     refine gn ?_
     refine gn ?_
     refine gn ?_
     refine gn ?_
     refine gn ?_
     refine pop_pickt _ _ ?_
     refine gn ?_
     refine gn ?_
     refine gn ?_
     refine pop_pickt _ _ ?_
     refine gn ?_
     refine gn ?_
     refine gn ?_
     refine gn ?_
     refine gn ?_
     refine pop_pickt _ _ ?_
     refine gn ?_
     refine gn ?_
     refine gn ?_
     refine gn ?_
     refine gn ?_
     refine gn ?_
     refine gn ?_
     refine gn ?_
     refine pop_pickt _ _ ?_
     refine gn ?_
     refine gn ?_
     refine gn ?_
     refine gn ?_
     refine gn ?_
     refine gn ?_
     refine gn ?_
     refine gn ?_
     refine gn ?_
     refine gn ?_
     refine gn ?_
     refine gn ?_
     refine pop_pickt _ _ ?_
     refine condM_t ?_
     have H := H b5 h21 hb18 (Fr.new (Fr.no' (Fr.r (In []) _) hf9) hb18 hf10) hL21
     exact H
    have H := H.2 hb20
    refine gy hb20 ?_
    refine pop_not s180c ?_
    refine pop_pickf' hb20 ?_
    refine guardM_sf (fun hb21 => ?_) (fun hb21 => ?_)
    rotate_left
    ·have H := H.1 hb21
     refine gm hb21 ?_
     refine gm hb21 ?_
     refine pop_pickt' hb21 ?_
     refine gn ?_
     refine gn ?_
     refine gn ?_
     refine gn ?_
     refine gn ?_
     refine pop_pickt _ _ ?_
     refine gn ?_
     refine gn ?_
     refine gn ?_
     refine pop_pickt _ _ ?_
     refine gn ?_
     refine gn ?_
     refine gn ?_
     refine gn ?_
     refine gn ?_
     refine pop_pickt _ _ ?_
     refine gn ?_
     refine gn ?_
     refine gn ?_
     refine gn ?_
     refine gn ?_
     refine gn ?_
     refine gn ?_
     refine gn ?_
     refine pop_pickt _ _ ?_
     refine gn ?_
     refine gn ?_
     refine gn ?_
     refine gn ?_
     refine gn ?_
     refine gn ?_
     refine gn ?_
     refine gn ?_
     refine gn ?_
     refine gn ?_
     refine gn ?_
     refine gn ?_
     refine pop_pickt _ _ ?_
     refine condM_t ?_
     have H := H b5 h21 hb18 (Fr.new (Fr.no' (Fr.r (In []) _) hf9) hb18 hf10) hL21
     exact H
    have H := H.2 hb21
    refine pop_field 0 fld36_0 b2 0 ?_
    refine gy hb21 ?_
    refine rl one3 hL21 3 0 (VI s162) ?_
    refine gy hb21 ?_
    refine pop_lss .i64 s162 0 ?_
    refine pop_pickf' hb21 ?_
    refine guardM_sf (fun hb22 => ?_) (fun hb22 => ?_)
    rotate_left
    ·have H := H.1 hb22
     refine gm hb22 ?_
     refine gm hb22 ?_
     refine gm hb22 ?_
     refine gm hb22 ?_
     refine pop_pickt' hb22 ?_
     refine gn ?_
     refine gn ?_
     refine gn ?_
     refine pop_pickt _ _ ?_
     refine gn ?_
     refine gn ?_
     refine gn ?_
     refine gn ?_
     refine gn ?_
     refine pop_pickt _ _ ?_
     refine gn ?_
     refine gn ?_
     refine gn ?_
     refine gn ?_
     refine gn ?_
     refine gn ?_
     refine gn ?_
     refine gn ?_
     refine pop_pickt _ _ ?_
     refine gn ?_
     refine gn ?_
     refine gn ?_
     refine gn ?_
     refine gn ?_
     refine gn ?_
     refine gn ?_
     refine gn ?_
     refine gn ?_
     refine gn ?_
     refine gn ?_
     refine gn ?_
     refine pop_pickt _ _ ?_
     refine condM_t ?_
     have H := H b5 h21 hb18 (Fr.new (Fr.no' (Fr.r (In []) _) hf9) hb18 hf10) hL21
     exact H
    have H := H.2 hb22
    refine pop_field 0 fld36_0 b2 0 ?_
    refine gy hb22 ?_
    refine rl one3 hL21 3 0 (VI s162) ?_
    refine gy hb22 ?_
    refine pop_field 1 fld36_1 b2 0 ?_
    refine gy hb22 ?_
    refine rl one3 hL21 3 1 (VI s162b) ?_
    refine gy hb22 ?_
    refine pop_gtr .i64 s162 s162b ?_
    refine pop_pickf' hb22 ?_
    refine guardM_sf (fun hb23 => ?_) (fun hb23 => ?_)
    rotate_left
    ·have H := H.1 hb23
     refine gm hb23 ?_
     refine gm hb23 ?_
     refine pop_pickt' hb23 ?_
     refine gn ?_
     refine gn ?_
     refine gn ?_
     refine gn ?_
     refine gn ?_
     refine pop_pickt _ _ ?_
     refine gn ?_
     refine gn ?_
     refine gn ?_
     refine gn ?_
     refine gn ?_
     refine gn ?_
     refine gn ?_
     refine gn ?_
     refine pop_pickt _ _ ?_
     refine gn ?_
     refine gn ?_
     refine gn ?_
     refine gn ?_
     refine gn ?_
     refine gn ?_
     refine gn ?_
     refine gn ?_
     refine gn ?_
     refine gn ?_
     refine gn ?_
     refine gn ?_
     refine pop_pickt _ _ ?_
     refine condM_t ?_
     have H := H b5 h21 hb18 (Fr.new (Fr.no' (Fr.r (In []) _) hf9) hb18 hf10) hL21
     exact H
    have H := H.2 hb23
    refine pop_field 1 fld36_1 b2 0 ?_
    refine gy hb23 ?_
    refine rl one3 hL21 3 1 (VI s162b) ?_
    refine gy hb23 ?_
    refine pop_lss .i64 s162b 1 ?_
    refine pop_pickf' hb23 ?_
    refine guardM_sf (fun hb24 => ?_) (fun hb24 => ?_)
    rotate_left
    ·have H := H.1 hb24
     refine gm hb24 ?_
     refine gm hb24 ?_
     refine gm hb24 ?_
     refine gm hb24 ?_
     refine pop_pickt' hb24 ?_
     refine gn ?_
     refine gn ?_
     refine gn ?_
     refine gn ?_
     refine gn ?_
     refine gn ?_
     refine gn ?_
     refine gn ?_
     refine pop_pickt _ _ ?_
     refine gn ?_
     refine gn ?_
     refine gn ?_
     refine gn ?_
     refine gn ?_
     refine gn ?_
     refine gn ?_
     refine gn ?_
     refine gn ?_
     refine gn ?_
     refine gn ?_
     refine gn ?_
     refine pop_pickt _ _ ?_
     refine condM_t ?_
     have H := H b5 h21 hb18 (Fr.new (Fr.no' (Fr.r (In []) _) hf9) hb18 hf10) hL21
     exact H
    have H := H.2 hb24
    refine pop_field 1 fld36_1 b3 0 ?_
    refine gy hb24 ?_
    refine rl one3 hL21 2 1 (VI s166b) ?_
    refine gy hb24 ?_
    refine pop_field 1 fld36_1 b2 0 ?_
    refine gy hb24 ?_
    refine rl one3 hL21 3 1 (VI s162b) ?_
    refine gy hb24 ?_
    refine pop_ine .i64 _ _ s166b s162b ?_
    refine pop_pickf' hb24 ?_
    refine guardM_sf (fun hb25 => ?_) (fun hb25 => ?_)
    rotate_left
    ·have H := H.1 hb25
     refine gm hb25 ?_
     refine gm hb25 ?_
     refine gm hb25 ?_
     refine gm hb25 ?_
     refine gm hb25 ?_
     refine gm hb25 ?_
     refine gm hb25 ?_
     refine pop_pickt' hb25 ?_
     refine gn ?_
     refine gn ?_
     refine gn ?_
     refine gn ?_
     refine gn ?_
     refine gn ?_
     refine gn ?_
     refine gn ?_
     refine gn ?_
     refine gn ?_
     refine gn ?_
     refine gn ?_
     refine pop_pickt _ _ ?_
     refine condM_t ?_
     have H := H b5 h21 hb18 (Fr.new (Fr.no' (Fr.r (In []) _) hf9) hb18 hf10) hL21
     exact H
    have H := H.2 hb25
    refine pop_field 0 fld36_0 b3 0 ?_
    refine gy hb25 ?_
    refine rl one3 hL21 2 0 (VI s166) ?_
    refine gy hb25 ?_
    refine pop_field 1 fld36_1 b2 0 ?_
    refine gy hb25 ?_
    refine rl one3 hL21 3 1 (VI s162b) ?_
    refine gy hb25 ?_
    refine pop_field 0 fld36_0 b2 0 ?_
    refine gy hb25 ?_
    refine rl one3 hL21 3 0 (VI s162) ?_
    refine gy hb25 ?_
    refine pop_sub .i64 s162b s162 ?_
    refine gy hb25 ?_
    refine pop_ine .i64 _ _ s166 (w64 (s162b - s162)) ?_
    refine pop_pickf' hb25 ?_
    refine guardM_sf (fun hb26 => ?_) (fun hb26 => ?_)
    rotate_left
    ·have H := H.1 hb26
     refine gm hb26 ?_
     refine gm hb26 ?_
     refine gm hb26 ?_
     refine gm hb26 ?_
     refine gm hb26 ?_
     refine gm hb26 ?_
     refine gn ?_
     refine gn ?_
     refine gn ?_
     refine gm hb26 ?_
     refine gm hb26 ?_
     refine pop_pickt' hb26 ?_
     refine condM_t ?_
     have H := H b5 h21 hb18 (Fr.new (Fr.no' (Fr.r (In []) _) hf9) hb18 hf10) hL21
     exact H
    have H := H.2 hb26
    refine pop_field 0 fld36_0 b5 0 ?_
    refine gy hb26 ?_
    refine rl one3 hL21 0 0 (VI s180) ?_
    refine gy hb26 ?_
    refine pop_ieq .i64 _ _ s180 0 ?_
    refine gy hb26 ?_
    refine gy hb26 ?_
    refine gy hb26 ?_
    refine pop_ieq .i64 _ _ s154 s58b ?_
    refine gy hb26 ?_
    refine guardM_sf (fun hb27 => ?_) (fun hb27 => ?_)
    rotate_left
    ·have H := H.1 hb27
     refine gm hb27 ?_
     refine gm hb27 ?_
     refine gy hb26 ?_
     refine pop_pickt' hb27 ?_
     refine gy hb26 ?_
     refine pop_bne boo4 _ _ (decide (s180 = 0)) true ?_
     refine pop_pickf' hb26 ?_
     refine condM_b (fun hb43 => ?_) (fun hb43 => ?_)
     ·have H := H.1 hb43
      have H := H b5 h21 hb18 (Fr.new (Fr.no' (Fr.r (In []) _) hf9) hb18 hf10) hL21
      exact H
     have H := H.2 hb43
     refine pop_ieq .i64 _ _ s154 s58b ?_
     refine gm hb27 ?_
     refine gm hb27 ?_
     refine gm hb27 ?_
     refine pop_pickt' hb27 ?_
     refine condM_t ?_
     refine pop_add .i64 s154 1 ?_
     have H := H b5 h21 hb18 (Fr.new (Fr.no' (Fr.r (In []) _) hf9) hb18 hf10) hL21
     obtain ⟨m_8, hm_8, H⟩ := H
     exact hn1 _ _ ⟨m_8, hm_8, (w64 (s154 + 1)), rfl, H, (Vars.tail (Vars.tail (Vars.tail (Vars.tail hL21))))⟩
    have H := H.2 hb27
    refine gy hb27 ?_
    refine gy hb27 ?_
    refine pop_ieq .i64 _ _ s154 s58c ?_
    refine gy hb26 ?_
    refine pop_pickf' hb27 ?_
    refine gy hb26 ?_
    refine pop_bne boo4 _ _ (decide (s180 = 0)) (decide (s154 = s58c)) ?_
    refine pop_pickf' hb26 ?_
    refine condM_b (fun hb28 => ?_) (fun hb28 => ?_)
    ·have H := H.1 hb28
     have H := H b5 h21 hb18 (Fr.new (Fr.no' (Fr.r (In []) _) hf9) hb18 hf10) hL21
     exact H
    have H := H.2 hb28
    refine pop_ieq .i64 _ _ s154 s58b ?_
    refine gy hb27 ?_
    refine gy hb27 ?_
    refine gy hb27 ?_
    refine pop_ieq .i64 _ _ s154 s58c ?_
    refine pop_pickf' hb27 ?_
    refine condM_b (fun hb29 => ?_) (fun hb29 => ?_)
    ·have H := H.1 hb29
     refine pop_add .i64 s154 1 ?_
     have H := H b5 h21 hb18 (Fr.new (Fr.no' (Fr.r (In []) _) hf9) hb18 hf10) hL21
     obtain ⟨m_1, hm_1, H⟩ := H
     exact hn1 _ _ ⟨m_1, hm_1, (w64 (s154 + 1)), rfl, H, (Vars.tail (Vars.tail (Vars.tail (Vars.tail hL21))))⟩
    have H := H.2 hb29
    have H := H b5 h21 hb18 (Fr.new (Fr.no' (Fr.r (In []) _) hf9) hb18 hf10) hL21
    obtain ⟨J3, H, HB2⟩ := H
    refine ⟨fun (vs : List Value) (h' : Heap) => ∃ y1 : Int, ∃ y2 : Int, ∃ y3 : Int, ∃ y4 : Int, vs = [(VI y1), (VI y2), (VI y3), (VI y4)] /\ J3 y1 y2 y3 y4 h' /\ Vars h' [(b5, [(VI s180), (VI s180b)]), (b4, [(VI s172), (VI s172b)]), (b3, [(VI s166), (VI s166b)]), (b2, [(VI s162), (VI s162b)]), (b1, [s58.v])], ?_, ?_⟩
    ·refine pop_len s158 _ _ sli37 ?_
     obtain ⟨J4, ⟨n3, h0_1⟩, HB1⟩ := H
     refine loop_intro (J := fun (n : Nat) (vs : List Value) (h' : Heap) => ∃ num26_1 : Int, ∃ den27_1 : Int, ∃ total28_1 : Int, ∃ whole29_1 : Int, ∃ s252 : Int, vs = [(VI num26_1), (VI den27_1), (VI total28_1), (VI whole29_1), (VI s252)] /\ J4 n num26_1 den27_1 total28_1 whole29_1 s252 h' /\ Vars h' [(b5, [(VI s180), (VI s180b)]), (b4, [(VI s172), (VI s172b)]), (b3, [(VI s166), (VI s166b)]), (b2, [(VI s162), (VI s162b)]), (b1, [s58.v])]) n3 ⟨0, 1, 0, 1, 0, rfl, h0_1, hL21⟩ ?_
     intro I1 mu1 hI1 junk2 tv1 tv2 tv3 tv4 tv5 h22 hi7
     obtain ⟨n2, ⟨num26_1, den27_1, total28_1, whole29_1, s252, hv, hJ2, hL22⟩, hn2⟩ := hI1 _ _ hi7
     cases hv
     have H := HB1 n2 num26_1 den27_1 total28_1 whole29_1 s252 h22 hJ2 hL22
     refine pop_lss .i64 s252 (s158.n : Int) ?_
     refine condM_b (fun hb30 => ?_) (fun hb30 => ?_)
     rotate_left
     ·have H := H.2 hb30
      exact ⟨num26_1, den27_1, total28_1, whole29_1, rfl, H, hL22⟩
     have H := H.1 hb30
     obtain ⟨hi8, H⟩ := H
     refine pop_index sli37 siz3 .i64 s158 s252 hi8 ?_
     obtain ⟨s255, hc4, H⟩ := H
     refine rop_one one3 (VI s255) hc4 ?_
     obtain ⟨hi9, H⟩ := H
     refine pop_index sli29 siz36 .i64 s66 s255 hi9 ?_
     refine pop_fieldA 1 fld36_1 (Sl.at s66 s255 2) ?_
     obtain ⟨s261, hc3, H⟩ := H
     refine rop_one one3 (VI s261) hc3 ?_
     refine pop_mul .i64 num26_1 s261 ?_
     obtain ⟨hi10, H⟩ := H
     refine pop_index sli29 siz36 .i64 s66 s255 hi10 ?_
     refine pop_fieldA 0 fld36_0 (Sl.at s66 s255 2) ?_
     obtain ⟨s267, hc2, H⟩ := H
     refine rop_one one3 (VI s267) hc2 ?_
     refine pop_mul .i64 s267 den27_1 ?_
     refine pop_add .i64 (w64 (num26_1 * s261)) (w64 (s267 * den27_1)) ?_
     obtain ⟨hi11, H⟩ := H
     refine pop_index sli29 siz36 .i64 s66 s255 hi11 ?_
     refine pop_fieldA 1 fld36_1 (Sl.at s66 s255 2) ?_
     obtain ⟨s276, hc1, H⟩ := H
     refine rop_one one3 (VI s276) hc1 ?_
     refine pop_mul .i64 den27_1 s276 ?_
     refine ra agg26 hL22 4 0 [s58.v] ?_
     refine H.mono fun r14 h23 H => ?_
     obtain ⟨s283, s283b, s283c, rfl, hL23, H⟩ := H
     refine pop_ext (v := (Value.agg #[(VI s283), (VI s283b)])) rfl ?_
     refine pop_ext (v := (VB s283c)) rfl ?_
     refine eop_alloc 36 zer36 rfl hL23 (fun b6 h24 hb31 hf11 hL24 => ?_)
     refine ul siz36 hL24 0 0 [(VI s283), (VI s283b)] [(b6, [(VI s283), (VI s283b)]), (b5, [(VI s180), (VI s180b)]), (b4, [(VI s172), (VI s172b)]), (b3, [(VI s166), (VI s166b)]), (b2, [(VI s162), (VI s162b)]), (b1, [s58.v])] (fun h25 hf12 hL25 => ?_)
     refine pop_not s283c ?_
     refine condM_b (fun hb32 => ?_) (fun hb32 => ?_)
     ·have H := H.1 hb32
      have H := H b6 h25 hb31 (Fr.new (Fr.no' (Fr.r (In []) _) hf11) hb31 hf12) hL25
      exact H
     have H := H.2 hb32
     refine pop_field 1 fld36_1 b6 0 ?_
     refine rl one3 hL25 0 1 (VI s283b) ?_
     refine pop_mul .i64 total28_1 s283b ?_
     refine pop_field 0 fld36_0 b6 0 ?_
     refine rl one3 hL25 0 0 (VI s283) ?_
     refine pop_mul .i64 s283 whole29_1 ?_
     refine pop_add .i64 (w64 (total28_1 * s283b)) (w64 (s283 * whole29_1)) ?_
     refine pop_field 1 fld36_1 b6 0 ?_
     refine rl one3 hL25 0 1 (VI s283b) ?_
     refine pop_mul .i64 whole29_1 s283b ?_
     refine pop_gtr .i64 (w64 (den27_1 * s276)) 1048576 ?_
     refine guardM_sf (fun hb33 => ?_) (fun hb33 => ?_)
     rotate_left
     ·have H := H.1 hb33
      refine gm hb33 ?_
      refine pop_pickt' hb33 ?_
      refine gn ?_
      refine gn ?_
      refine pop_pickt _ _ ?_
      refine gn ?_
      refine gn ?_
      refine pop_pickt _ _ ?_
      refine condM_t ?_
      have H := H b6 h25 hb31 (Fr.new (Fr.no' (Fr.r (In []) _) hf11) hb31 hf12) hL25
      exact ⟨(w64 ((w64 (num26_1 * s261)) + (w64 (s267 * den27_1)))), 0, (w64 ((w64 (total28_1 * s283b)) + (w64 (s283 * whole29_1)))), (w64 (whole29_1 * s283b)), rfl, H, Vars.pick hL25 [1, 2, 3, 4, 5] rfl⟩
     have H := H.2 hb33
     refine gy hb33 ?_
     refine pop_gtr .i64 (w64 (whole29_1 * s283b)) 1048576 ?_
     refine pop_pickf' hb33 ?_
     refine guardM_sf (fun hb34 => ?_) (fun hb34 => ?_)
     rotate_left
     ·have H := H.1 hb34
      refine gm hb34 ?_
      refine pop_pickt' hb34 ?_
      refine gn ?_
      refine gn ?_
      refine pop_pickt _ _ ?_
      refine condM_t ?_
      have H := H b6 h25 hb31 (Fr.new (Fr.no' (Fr.r (In []) _) hf11) hb31 hf12) hL25
      exact ⟨(w64 ((w64 (num26_1 * s261)) + (w64 (s267 * den27_1)))), 0, (w64 ((w64 (total28_1 * s283b)) + (w64 (s283 * whole29_1)))), (w64 (whole29_1 * s283b)), rfl, H, Vars.pick hL25 [1, 2, 3, 4, 5] rfl⟩
     have H := H.2 hb34
     refine gy hb34 ?_
     refine pop_gtr .i64 (w64 ((w64 (num26_1 * s261)) + (w64 (s267 * den27_1)))) 1073741824 ?_
     refine pop_pickf' hb34 ?_
     refine guardM_sf (fun hb35 => ?_) (fun hb35 => ?_)
     rotate_left
     ·have H := H.1 hb35
      refine gm hb35 ?_
      refine pop_pickt' hb35 ?_
      refine condM_t ?_
      have H := H b6 h25 hb31 (Fr.new (Fr.no' (Fr.r (In []) _) hf11) hb31 hf12) hL25
      exact ⟨(w64 ((w64 (num26_1 * s261)) + (w64 (s267 * den27_1)))), 0, (w64 ((w64 (total28_1 * s283b)) + (w64 (s283 * whole29_1)))), (w64 (whole29_1 * s283b)), rfl, H, Vars.pick hL25 [1, 2, 3, 4, 5] rfl⟩
     have H := H.2 hb35
     refine gy hb35 ?_
     refine pop_gtr .i64 (w64 ((w64 (total28_1 * s283b)) + (w64 (s283 * whole29_1)))) 1073741824 ?_
     refine pop_pickf' hb35 ?_
     refine condM_b (fun hb36 => ?_) (fun hb36 => ?_)
     ·have H := H.1 hb36
      have H := H b6 h25 hb31 (Fr.new (Fr.no' (Fr.r (In []) _) hf11) hb31 hf12) hL25
      exact ⟨(w64 ((w64 (num26_1 * s261)) + (w64 (s267 * den27_1)))), 0, (w64 ((w64 (total28_1 * s283b)) + (w64 (s283 * whole29_1)))), (w64 (whole29_1 * s283b)), rfl, H, Vars.pick hL25 [1, 2, 3, 4, 5] rfl⟩
     have H := H.2 hb36
     refine pop_add .i64 s252 1 ?_
     have H := H b6 h25 hb31 (Fr.new (Fr.no' (Fr.r (In []) _) hf11) hb31 hf12) hL25
     obtain ⟨m_2, hm_2, H⟩ := H
     exact hn2 _ _ ⟨m_2, hm_2, (w64 ((w64 (num26_1 * s261)) + (w64 (s267 * den27_1)))), (w64 (den27_1 * s276)), (w64 ((w64 (total28_1 * s283b)) + (w64 (s283 * whole29_1)))), (w64 (whole29_1 * s283b)), (w64 (s252 + 1)), rfl, H, (Vars.tail hL25)⟩
    intro junk3 tv6 tv7 tv8 tv9 h26
    rintro ⟨y1, y2, y3, y4, hv, hJ3, hL26⟩
    cases hv
    have H := HB2 y1 y2 y3 y4 h26 hJ3 hL26
    refine pop_ieq .i64 _ _ y2 0 ?_
    refine guardM_sf (fun hb37 => ?_) (fun hb37 => ?_)
    rotate_left
    ·have H := H.1 hb37
     refine gm hb37 ?_
     refine gm hb37 ?_
     refine pop_pickt' hb37 ?_
     refine gn ?_
     refine gn ?_
     refine gn ?_
     refine pop_pickt _ _ ?_
     refine gn ?_
     refine gn ?_
     refine gn ?_
     refine pop_pickt _ _ ?_
     refine condM_t ?_
     refine pop_add .i64 s154 1 ?_
     obtain ⟨m_7, hm_7, H⟩ := H
     exact hn1 _ _ ⟨m_7, hm_7, (w64 (s154 + 1)), rfl, H, (Vars.tail (Vars.tail (Vars.tail (Vars.tail hL26))))⟩
    have H := H.2 hb37
    refine pop_field 1 fld36_1 b2 0 ?_
    refine gy hb37 ?_
    refine rl one3 hL26 3 1 (VI s162b) ?_
    refine gy hb37 ?_
    refine pop_gtr .i64 s162b 1048576 ?_
    refine pop_pickf' hb37 ?_
    refine guardM_sf (fun hb38 => ?_) (fun hb38 => ?_)
    rotate_left
    ·have H := H.1 hb38
     refine gm hb38 ?_
     refine gm hb38 ?_
     refine pop_pickt' hb38 ?_
     refine gn ?_
     refine gn ?_
     refine gn ?_
     refine pop_pickt _ _ ?_
     refine condM_t ?_
     refine pop_add .i64 s154 1 ?_
     obtain ⟨m_6, hm_6, H⟩ := H
     exact hn1 _ _ ⟨m_6, hm_6, (w64 (s154 + 1)), rfl, H, (Vars.tail (Vars.tail (Vars.tail (Vars.tail hL26))))⟩
    have H := H.2 hb38
    refine pop_field 1 fld36_1 b5 0 ?_
    refine gy hb38 ?_
    refine rl one3 hL26 0 1 (VI s180b) ?_
    refine gy hb38 ?_
    refine pop_gtr .i64 s180b 1048576 ?_
    refine pop_pickf' hb38 ?_
    refine guardM_sf (fun hb39 => ?_) (fun hb39 => ?_)
    rotate_left
    ·have H := H.1 hb39
     refine gm hb39 ?_
     refine gm hb39 ?_
     refine pop_pickt' hb39 ?_
     refine condM_t ?_
     refine pop_add .i64 s154 1 ?_
     obtain ⟨m_5, hm_5, H⟩ := H
     exact hn1 _ _ ⟨m_5, hm_5, (w64 (s154 + 1)), rfl, H, (Vars.tail (Vars.tail (Vars.tail (Vars.tail hL26))))⟩
    have H := H.2 hb39
    refine pop_field 0 fld36_0 b5 0 ?_
    refine gy hb39 ?_
    refine rl one3 hL26 0 0 (VI s180) ?_
    refine gy hb39 ?_
    refine pop_gtr .i64 s180 1073741824 ?_
    refine pop_pickf' hb39 ?_
    refine condM_b (fun hb40 => ?_) (fun hb40 => ?_)
    ·have H := H.1 hb40
     refine pop_add .i64 s154 1 ?_
     obtain ⟨m_3, hm_3, H⟩ := H
     exact hn1 _ _ ⟨m_3, hm_3, (w64 (s154 + 1)), rfl, H, (Vars.tail (Vars.tail (Vars.tail (Vars.tail hL26))))⟩
    have H := H.2 hb40
    refine pop_field 1 fld36_1 b2 0 ?_
    refine rl one3 hL26 3 1 (VI s162b) ?_
    refine pop_mul .i64 y1 s162b ?_
    refine pop_field 0 fld36_0 b2 0 ?_
    refine rl one3 hL26 3 0 (VI s162) ?_
    refine pop_mul .i64 s162 y2 ?_
    refine pop_len s158 _ _ sli37 ?_
    refine pop_mul .i64 (w64 (s162 * y2)) (s158.n : Int) ?_
    refine pop_ine .i64 _ _ (w64 (y1 * s162b)) (w64 ((w64 (s162 * y2)) * (s158.n : Int))) ?_
    refine guardM_sf (fun hb41 => ?_) (fun hb41 => ?_)
    rotate_left
    ·have H := H.1 hb41
     refine gm hb41 ?_
     refine gm hb41 ?_
     refine gm hb41 ?_
     refine gm hb41 ?_
     refine gm hb41 ?_
     refine gm hb41 ?_
     refine gm hb41 ?_
     refine gm hb41 ?_
     refine gm hb41 ?_
     refine gm hb41 ?_
     refine gm hb41 ?_
     refine gm hb41 ?_
     refine gm hb41 ?_
     refine gm hb41 ?_
     refine gm hb41 ?_
     refine gm hb41 ?_
     refine pop_pickt' hb41 ?_
     refine condM_t ?_
     exact H
    have H := H.2 hb41
    refine gy hb41 ?_
    refine gy hb41 ?_
    refine gy hb41 ?_
    refine pop_len s158 _ _ sli37 ?_
    refine gy hb41 ?_
    refine pop_mul .i64 y4 (s158.n : Int) ?_
    refine gy hb41 ?_
    refine pop_add .i64 y3 (w64 (y4 * (s158.n : Int))) ?_
    refine gy hb41 ?_
    refine pop_field 1 fld36_1 b5 0 ?_
    refine gy hb41 ?_
    refine rl one3 hL26 0 1 (VI s180b) ?_
    refine gy hb41 ?_
    refine pop_mul .i64 (w64 (y3 + (w64 (y4 * (s158.n : Int))))) s180b ?_
    refine gy hb41 ?_
    refine pop_field 0 fld36_0 b5 0 ?_
    refine gy hb41 ?_
    refine rl one3 hL26 0 0 (VI s180) ?_
    refine gy hb41 ?_
    refine gy hb41 ?_
    refine pop_mul .i64 s180 y4 ?_
    refine gy hb41 ?_
    refine gy hb41 ?_
    refine pop_len s158 _ _ sli37 ?_
    refine gy hb41 ?_
    refine pop_mul .i64 (w64 (s180 * y4)) (s158.n : Int) ?_
    refine gy hb41 ?_
    refine pop_ine .i64 _ _ (w64 ((w64 (y3 + (w64 (y4 * (s158.n : Int))))) * s180b)) (w64 ((w64 (s180 * y4)) * (s158.n : Int))) ?_
    refine pop_pickf' hb41 ?_
    refine condM_b (fun hb42 => ?_) (fun hb42 => ?_)
    ·exact H.1 hb42
    have H := H.2 hb42
    refine pop_add .i64 s154 1 ?_
    obtain ⟨m_4, hm_4, H⟩ := H
    exact hn1 _ _ ⟨m_4, hm_4, (w64 (s154 + 1)), rfl, H, (Vars.tail (Vars.tail (Vars.tail (Vars.tail hL26))))⟩
   intro junk4  h27
   rintro ⟨hv, hJ4, hL27⟩
   have H := HB4  h27 hJ4 hL27
   refine H.mono fun r15 h28 H => ?_
   obtain ⟨s367, s367b, s367c, rfl, hL28, H⟩ := H
   refine pop_ext (v := (Value.agg #[s367.v])) rfl ?_
   refine pop_ext (v := (VI s367b)) rfl ?_
   refine pop_ext (v := (VI s367c)) rfl ?_
   refine eop_alloc 26 zer26 rfl hL28 (fun b7 h29 hb44 hf13 hL29 => ?_)
   refine ul siz26 hL29 0 0 [s367.v] [(b7, [s367.v]), (b1, [s58.v])] (fun h30 hf14 hL30 => ?_)
   refine ra agg26 hL30 0 0 [s367.v] ?_
   have H := H b7 h30 hb44 (Fr.new (Fr.no' (Fr.r (In []) _) hf13) hb44 hf14) hL30
   refine H.mono fun r16 h31 H => ?_
   obtain ⟨s375, s375b, s375c, rfl, hL31, H⟩ := H
   refine pop_ext (v := (Value.agg #[(VI s375), (VI s375b)])) rfl ?_
   refine pop_ext (v := (VB s375c)) rfl ?_
   refine eop_alloc 36 zer36 rfl hL31 (fun b8 h32 hb45 hf15 hL32 => ?_)
   refine ul siz36 hL32 0 0 [(VI s375), (VI s375b)] [(b8, [(VI s375), (VI s375b)]), (b7, [s367.v]), (b1, [s58.v])] (fun h33 hf16 hL33 => ?_)
   refine ra agg26 hL33 1 0 [s367.v] ?_
   have H := H b8 h33 hb45 (Fr.new (Fr.no' (Fr.r (In []) _) hf15) hb45 hf16) hL33
   refine H.mono fun r17 h34 H => ?_
   obtain ⟨s382, s382b, s382c, rfl, hL34, H⟩ := H
   refine pop_ext (v := (Value.agg #[(VI s382), (VI s382b)])) rfl ?_
   refine pop_ext (v := (VB s382c)) rfl ?_
   refine eop_alloc 36 zer36 rfl hL34 (fun b9 h35 hb46 hf17 hL35 => ?_)
   refine ul siz36 hL35 0 0 [(VI s382), (VI s382b)] [(b9, [(VI s382), (VI s382b)]), (b8, [(VI s375), (VI s375b)]), (b7, [s367.v]), (b1, [s58.v])] (fun h36 hf18 hL36 => ?_)
   refine pop_bne boo4 _ _ s375c s382c ?_
   refine guardM_sf (fun hb47 => ?_) (fun hb47 => ?_)
   rotate_left
   ·have H := H.1 hb47
    refine gm hb47 ?_
    refine gm hb47 ?_
    refine pop_pickt' hb47 ?_
    refine gn ?_
    refine gn ?_
    refine gn ?_
    refine gn ?_
    refine gn ?_
    refine gn ?_
    refine gn ?_
    refine gn ?_
    refine gn ?_
    refine gn ?_
    refine gn ?_
    refine gn ?_
    refine gn ?_
    refine pop_pickt _ _ ?_
    refine condM_t ?_
    have H := H b9 h36 hb46 (Fr.new (Fr.no' (Fr.r (In []) _) hf17) hb46 hf18) hL36
    exact H
   have H := H.2 hb47
   refine ra agg36 hL36 1 0 [(VI s375), (VI s375b)] ?_
   refine gy hb47 ?_
   refine ra agg36 hL36 0 0 [(VI s382), (VI s382b)] ?_
   refine gy hb47 ?_
   refine H.mono fun r18 H => ?_
   obtain ⟨s391, rfl, H⟩ := H
   refine pop_pickf' hb47 ?_
   refine guardM_sf (fun hb48 => ?_) (fun hb48 => ?_)
   rotate_left
   ·have H := H.1 hb48
    refine gm hb48 ?_
    refine gn ?_
    refine gn ?_
    refine gn ?_
    refine gn ?_
    refine gn ?_
    refine gn ?_
    refine gn ?_
    refine gn ?_
    refine gn ?_
    refine gn ?_
    refine gm hb48 ?_
    refine pop_pickt' hb48 ?_
    refine condM_t ?_
    have H := H b9 h36 hb46 (Fr.new (Fr.no' (Fr.r (In []) _) hf17) hb46 hf18) hL36
    exact H
   have H := H.2 hb48
   refine gy hb48 ?_
   refine guardM_st (fun hb49 => ?_) (fun hb49 => ?_)
   rotate_left
   ·have H := H.2 hb49
    refine gm hb49 ?_
    refine gm hb49 ?_
    refine gm hb49 ?_
    refine gn ?_
    refine gn ?_
    refine gn ?_
    refine gn ?_
    refine gn ?_
    refine gm hb49 ?_
    refine gy hb48 ?_
    refine pop_pickf' hb49 ?_
    refine pop_pickf' hb48 ?_
    refine condM_f ?_
    have H := H b9 h36 hb46 (Fr.new (Fr.no' (Fr.r (In []) _) hf17) hb46 hf18) hL36
    refine H.mono fun r26 h52 H => ?_
    obtain ⟨s410e, s410f, s410g, s410h, rfl, hL52, H⟩ := H
    refine pop_ext (v := (Value.agg #[s410e.v])) rfl ?_
    refine pop_ext (v := (VI s410f)) rfl ?_
    refine pop_ext (v := (VI s410g)) rfl ?_
    refine pop_ext (v := (VI s410h)) rfl ?_
    refine eop_alloc 26 zer26 rfl hL52 (fun b15 h53 hb60 hf29 hL53 => ?_)
    refine ul siz26 hL53 0 0 [s410e.v] [(b15, [s410e.v]), (b9, [(VI s382), (VI s382b)]), (b8, [(VI s375), (VI s375b)]), (b7, [s367.v]), (b1, [s58.v])] (fun h54 hf30 hL54 => ?_)
    refine ra agg26 hL54 0 0 [s410e.v] ?_
    have H := H b15 h54 hb60 (Fr.new (Fr.no' (Fr.r (In []) _) hf29) hb60 hf30) hL54
    refine H.mono fun r27 h55 H => ?_
    obtain ⟨s420d, s420e, s420f, rfl, hL55, H⟩ := H
    refine pop_ext (v := (Value.agg #[(VI s420d), (VI s420e)])) rfl ?_
    refine pop_ext (v := (VB s420f)) rfl ?_
    refine eop_alloc 36 zer36 rfl hL55 (fun b16 h56 hb61 hf31 hL56 => ?_)
    refine ul siz36 hL56 0 0 [(VI s420d), (VI s420e)] [(b16, [(VI s420d), (VI s420e)]), (b15, [s410e.v]), (b9, [(VI s382), (VI s382b)]), (b8, [(VI s375), (VI s375b)]), (b7, [s367.v]), (b1, [s58.v])] (fun h57 hf32 hL57 => ?_)
    refine ra agg26 hL57 1 0 [s410e.v] ?_
    have H := H b16 h57 hb61 (Fr.new (Fr.no' (Fr.r (In []) _) hf31) hb61 hf32) hL57
    refine H.mono fun r28 h58 H => ?_
    obtain ⟨s428d, s428e, s428f, rfl, hL58, H⟩ := H
    refine pop_ext (v := (Value.agg #[(VI s428d), (VI s428e)])) rfl ?_
    refine pop_ext (v := (VB s428f)) rfl ?_
    refine eop_alloc 36 zer36 rfl hL58 (fun b17 h59 hb62 hf33 hL59 => ?_)
    refine ul siz36 hL59 0 0 [(VI s428d), (VI s428e)] [(b17, [(VI s428d), (VI s428e)]), (b16, [(VI s420d), (VI s420e)]), (b15, [s410e.v]), (b9, [(VI s382), (VI s382b)]), (b8, [(VI s375), (VI s375b)]), (b7, [s367.v]), (b1, [s58.v])] (fun h60 hf34 hL60 => ?_)
    refine ra agg26 hL60 2 0 [s410e.v] ?_
    have H := H b17 h60 hb62 (Fr.new (Fr.no' (Fr.r (In []) _) hf33) hb62 hf34) hL60
    refine H.mono fun r29 h61 H => ?_
    obtain ⟨s436d, s436e, s436f, rfl, hL61, H⟩ := H
    refine pop_ext (v := (Value.agg #[(VI s436d), (VI s436e)])) rfl ?_
    refine pop_ext (v := (VB s436f)) rfl ?_
    refine eop_alloc 36 zer36 rfl hL61 (fun b18 h62 hb63 hf35 hL62 => ?_)
    refine ul siz36 hL62 0 0 [(VI s436d), (VI s436e)] [(b18, [(VI s436d), (VI s436e)]), (b17, [(VI s428d), (VI s428e)]), (b16, [(VI s420d), (VI s420e)]), (b15, [s410e.v]), (b9, [(VI s382), (VI s382b)]), (b8, [(VI s375), (VI s375b)]), (b7, [s367.v]), (b1, [s58.v])] (fun h63 hf36 hL63 => ?_)
    refine ra agg26 hL63 3 0 [s410e.v] ?_
    have H := H b18 h63 hb63 (Fr.new (Fr.no' (Fr.r (In []) _) hf35) hb63 hf36) hL63
    refine H.mono fun r30 h64 H => ?_
    obtain ⟨s444d, s444e, s444f, rfl, hL64, H⟩ := H
    refine pop_ext (v := (Value.agg #[(VI s444d), (VI s444e)])) rfl ?_
    refine pop_ext (v := (VB s444f)) rfl ?_
    refine eop_alloc 36 zer36 rfl hL64 (fun b19 h65 hb64 hf37 hL65 => ?_)
    refine ul siz36 hL65 0 0 [(VI s444d), (VI s444e)] [(b19, [(VI s444d), (VI s444e)]), (b18, [(VI s436d), (VI s436e)]), (b17, [(VI s428d), (VI s428e)]), (b16, [(VI s420d), (VI s420e)]), (b15, [s410e.v]), (b9, [(VI s382), (VI s382b)]), (b8, [(VI s375), (VI s375b)]), (b7, [s367.v]), (b1, [s58.v])] (fun h66 hf38 hL66 => ?_)
    refine pop_beq boo4 _ _ s420f s428f ?_
    refine guardM_st (fun hb65 => ?_) (fun hb65 => ?_)
    rotate_left
    ·have H := H.2 hb65
     refine gm hb65 ?_
     refine gm hb65 ?_
     refine pop_pickf' hb65 ?_
     refine gn ?_
     refine gn ?_
     refine gn ?_
     refine pop_pickf _ _ ?_
     refine gn ?_
     refine gn ?_
     refine gn ?_
     refine pop_pickf _ _ ?_
     have H := H b19 h66 hb64 (Fr.new (Fr.no' (Fr.r (In []) _) hf37) hb64 hf38) hL66
     exact H
    have H := H.1 hb65
    refine ra agg36 hL66 3 0 [(VI s420d), (VI s420e)] ?_
    refine gy hb65 ?_
    refine ra agg36 hL66 2 0 [(VI s428d), (VI s428e)] ?_
    refine gy hb65 ?_
    refine H.mono fun r31 H => ?_
    obtain ⟨s453b, rfl, H⟩ := H
    refine pop_pickt' hb65 ?_
    refine guardM_st (fun hb66 => ?_) (fun hb66 => ?_)
    rotate_left
    ·have H := H.2 hb66
     refine gm hb66 ?_
     refine gm hb66 ?_
     refine pop_pickf' hb66 ?_
     refine gn ?_
     refine gn ?_
     refine gn ?_
     refine pop_pickf _ _ ?_
     have H := H b19 h66 hb64 (Fr.new (Fr.no' (Fr.r (In []) _) hf37) hb64 hf38) hL66
     exact H
    have H := H.1 hb66
    refine gy hb66 ?_
    refine gy hb66 ?_
    refine pop_beq boo4 _ _ s436f s444f ?_
    refine pop_pickt' hb66 ?_
    refine guardM_st (fun hb67 => ?_) (fun hb67 => ?_)
    rotate_left
    ·have H := H.2 hb67
     refine gm hb67 ?_
     refine gm hb67 ?_
     refine pop_pickf' hb67 ?_
     have H := H b19 h66 hb64 (Fr.new (Fr.no' (Fr.r (In []) _) hf37) hb64 hf38) hL66
     exact H
    have H := H.1 hb67
    refine ra agg36 hL66 1 0 [(VI s436d), (VI s436e)] ?_
    refine gy hb67 ?_
    refine ra agg36 hL66 0 0 [(VI s444d), (VI s444e)] ?_
    refine gy hb67 ?_
    refine H.mono fun r32 H => ?_
    obtain ⟨s463b, rfl, H⟩ := H
    refine pop_pickt' hb67 ?_
    have H := H b19 h66 hb64 (Fr.new (Fr.no' (Fr.r (In []) _) hf37) hb64 hf38) hL66
    exact H
   have H := H.1 hb49
   refine pop_field 0 fld36_0 b8 0 ?_
   refine gy hb49 ?_
   refine rl one3 hL36 1 0 (VI s375) ?_
   refine gy hb49 ?_
   refine pop_lss .i64 s375 1 ?_
   refine gy hb49 ?_
   refine guardM_sf (fun hb50 => ?_) (fun hb50 => ?_)
   rotate_left
   ·have H := H.1 hb50
    refine gm hb50 ?_
    refine gm hb50 ?_
    refine gm hb50 ?_
    refine gm hb50 ?_
    refine gy hb49 ?_
    refine pop_pickt' hb50 ?_
    refine gy hb48 ?_
    refine pop_pickt' hb49 ?_
    refine pop_pickf' hb48 ?_
    refine condM_t ?_
    have H := H b9 h36 hb46 (Fr.new (Fr.no' (Fr.r (In []) _) hf17) hb46 hf18) hL36
    exact H
   have H := H.2 hb50
   refine pop_field 0 fld36_0 b8 0 ?_
   refine gy hb50 ?_
   refine rl one3 hL36 1 0 (VI s375) ?_
   refine gy hb50 ?_
   refine pop_field 1 fld36_1 b8 0 ?_
   refine gy hb50 ?_
   refine rl one3 hL36 1 1 (VI s375b) ?_
   refine gy hb50 ?_
   refine pop_gtr .i64 s375 s375b ?_
   refine gy hb49 ?_
   refine pop_pickf' hb50 ?_
   refine gy hb48 ?_
   refine pop_pickt' hb49 ?_
   refine pop_pickf' hb48 ?_
   refine condM_b (fun hb51 => ?_) (fun hb51 => ?_)
   ·have H := H.1 hb51
    have H := H b9 h36 hb46 (Fr.new (Fr.no' (Fr.r (In []) _) hf17) hb46 hf18) hL36
    exact H
   have H := H.2 hb51
   have H := H b9 h36 hb46 (Fr.new (Fr.no' (Fr.r (In []) _) hf17) hb46 hf18) hL36
   refine H.mono fun r19 h37 H => ?_
   obtain ⟨s410, s410b, s410c, s410d, rfl, hL37, H⟩ := H
   refine pop_ext (v := (Value.agg #[s410.v])) rfl ?_
   refine pop_ext (v := (VI s410b)) rfl ?_
   refine pop_ext (v := (VI s410c)) rfl ?_
   refine pop_ext (v := (VI s410d)) rfl ?_
   refine eop_alloc 26 zer26 rfl hL37 (fun b10 h38 hb52 hf19 hL38 => ?_)
   refine ul siz26 hL38 0 0 [s410.v] [(b10, [s410.v]), (b9, [(VI s382), (VI s382b)]), (b8, [(VI s375), (VI s375b)]), (b7, [s367.v]), (b1, [s58.v])] (fun h39 hf20 hL39 => ?_)
   refine ra agg26 hL39 0 0 [s410.v] ?_
   have H := H b10 h39 hb52 (Fr.new (Fr.no' (Fr.r (In []) _) hf19) hb52 hf20) hL39
   refine H.mono fun r20 h40 H => ?_
   obtain ⟨s420, s420b, s420c, rfl, hL40, H⟩ := H
   refine pop_ext (v := (Value.agg #[(VI s420), (VI s420b)])) rfl ?_
   refine pop_ext (v := (VB s420c)) rfl ?_
   refine eop_alloc 36 zer36 rfl hL40 (fun b11 h41 hb53 hf21 hL41 => ?_)
   refine ul siz36 hL41 0 0 [(VI s420), (VI s420b)] [(b11, [(VI s420), (VI s420b)]), (b10, [s410.v]), (b9, [(VI s382), (VI s382b)]), (b8, [(VI s375), (VI s375b)]), (b7, [s367.v]), (b1, [s58.v])] (fun h42 hf22 hL42 => ?_)
   refine ra agg26 hL42 1 0 [s410.v] ?_
   have H := H b11 h42 hb53 (Fr.new (Fr.no' (Fr.r (In []) _) hf21) hb53 hf22) hL42
   refine H.mono fun r21 h43 H => ?_
   obtain ⟨s428, s428b, s428c, rfl, hL43, H⟩ := H
   refine pop_ext (v := (Value.agg #[(VI s428), (VI s428b)])) rfl ?_
   refine pop_ext (v := (VB s428c)) rfl ?_
   refine eop_alloc 36 zer36 rfl hL43 (fun b12 h44 hb54 hf23 hL44 => ?_)
   refine ul siz36 hL44 0 0 [(VI s428), (VI s428b)] [(b12, [(VI s428), (VI s428b)]), (b11, [(VI s420), (VI s420b)]), (b10, [s410.v]), (b9, [(VI s382), (VI s382b)]), (b8, [(VI s375), (VI s375b)]), (b7, [s367.v]), (b1, [s58.v])] (fun h45 hf24 hL45 => ?_)
   refine ra agg26 hL45 2 0 [s410.v] ?_
   have H := H b12 h45 hb54 (Fr.new (Fr.no' (Fr.r (In []) _) hf23) hb54 hf24) hL45
   refine H.mono fun r22 h46 H => ?_
   obtain ⟨s436, s436b, s436c, rfl, hL46, H⟩ := H
   refine pop_ext (v := (Value.agg #[(VI s436), (VI s436b)])) rfl ?_
   refine pop_ext (v := (VB s436c)) rfl ?_
   refine eop_alloc 36 zer36 rfl hL46 (fun b13 h47 hb55 hf25 hL47 => ?_)
   refine ul siz36 hL47 0 0 [(VI s436), (VI s436b)] [(b13, [(VI s436), (VI s436b)]), (b12, [(VI s428), (VI s428b)]), (b11, [(VI s420), (VI s420b)]), (b10, [s410.v]), (b9, [(VI s382), (VI s382b)]), (b8, [(VI s375), (VI s375b)]), (b7, [s367.v]), (b1, [s58.v])] (fun h48 hf26 hL48 => ?_)
   refine ra agg26 hL48 3 0 [s410.v] ?_
   have H := H b13 h48 hb55 (Fr.new (Fr.no' (Fr.r (In []) _) hf25) hb55 hf26) hL48
   refine H.mono fun r23 h49 H => ?_
   obtain ⟨s444, s444b, s444c, rfl, hL49, H⟩ := H
   refine pop_ext (v := (Value.agg #[(VI s444), (VI s444b)])) rfl ?_
   refine pop_ext (v := (VB s444c)) rfl ?_
   refine eop_alloc 36 zer36 rfl hL49 (fun b14 h50 hb56 hf27 hL50 => ?_)
   refine ul siz36 hL50 0 0 [(VI s444), (VI s444b)] [(b14, [(VI s444), (VI s444b)]), (b13, [(VI s436), (VI s436b)]), (b12, [(VI s428), (VI s428b)]), (b11, [(VI s420), (VI s420b)]), (b10, [s410.v]), (b9, [(VI s382), (VI s382b)]), (b8, [(VI s375), (VI s375b)]), (b7, [s367.v]), (b1, [s58.v])] (fun h51 hf28 hL51 => ?_)
   refine pop_beq boo4 _ _ s420c s428c ?_
   refine guardM_st (fun hb57 => ?_) (fun hb57 => ?_)
   rotate_left
   ·have H := H.2 hb57
    refine gm hb57 ?_
    refine gm hb57 ?_
    refine pop_pickf' hb57 ?_
    refine gn ?_
    refine gn ?_
    refine gn ?_
    refine pop_pickf _ _ ?_
    refine gn ?_
    refine gn ?_
    refine gn ?_
    refine pop_pickf _ _ ?_
    have H := H b14 h51 hb56 (Fr.new (Fr.no' (Fr.r (In []) _) hf27) hb56 hf28) hL51
    exact H
   have H := H.1 hb57
   refine ra agg36 hL51 3 0 [(VI s420), (VI s420b)] ?_
   refine gy hb57 ?_
   refine ra agg36 hL51 2 0 [(VI s428), (VI s428b)] ?_
   refine gy hb57 ?_
   refine H.mono fun r24 H => ?_
   obtain ⟨s453, rfl, H⟩ := H
   refine pop_pickt' hb57 ?_
   refine guardM_st (fun hb58 => ?_) (fun hb58 => ?_)
   rotate_left
   ·have H := H.2 hb58
    refine gm hb58 ?_
    refine gm hb58 ?_
    refine pop_pickf' hb58 ?_
    refine gn ?_
    refine gn ?_
    refine gn ?_
    refine pop_pickf _ _ ?_
    have H := H b14 h51 hb56 (Fr.new (Fr.no' (Fr.r (In []) _) hf27) hb56 hf28) hL51
    exact H
   have H := H.1 hb58
   refine gy hb58 ?_
   refine gy hb58 ?_
   refine pop_beq boo4 _ _ s436c s444c ?_
   refine pop_pickt' hb58 ?_
   refine guardM_st (fun hb59 => ?_) (fun hb59 => ?_)
   rotate_left
   ·have H := H.2 hb59
    refine gm hb59 ?_
    refine gm hb59 ?_
    refine pop_pickf' hb59 ?_
    have H := H b14 h51 hb56 (Fr.new (Fr.no' (Fr.r (In []) _) hf27) hb56 hf28) hL51
    exact H
   have H := H.1 hb59
   refine ra agg36 hL51 1 0 [(VI s436), (VI s436b)] ?_
   refine gy hb59 ?_
   refine ra agg36 hL51 0 0 [(VI s444), (VI s444b)] ?_
   refine gy hb59 ?_
   refine H.mono fun r25 H => ?_
   obtain ⟨s463, rfl, H⟩ := H
   refine pop_pickt' hb59 ?_
   have H := H b14 h51 hb56 (Fr.new (Fr.no' (Fr.r (In []) _) hf27) hb56 hf28) hL51
   exact H
  have H := H.2 hb7
  refine gy hb6 ?_
  refine pop_pickf' hb7 ?_
  refine gy hb6 ?_
  refine pop_bne boo4 _ _ s66b false ?_
  refine pop_pickf' hb6 ?_
  refine condM_b (fun hb68 => ?_) (fun hb68 => ?_)
  ·exact H.1 hb68
  have H := H.2 hb68
  obtain ⟨J5, H, HB8⟩ := H
  refine ⟨fun (vs : List Value) (h' : Heap) => vs = [] /\ J5  h' /\ Vars h' [(b1, [s58.v])], ?_, ?_⟩
  ·refine condM_b (fun hb69 => ?_) (fun hb69 => ?_)
   rotate_left
   ·have H := H.2 hb69
    exact ⟨rfl, H, hL9⟩
   have H := H.1 hb69
   refine ra agg26 hL9 0 0 [s58.v] ?_
   refine H.mono fun r33 h67 H => ?_
   obtain ⟨s122c, s122d, rfl, hL67, H⟩ := H
   refine pop_ext (v := s122c.v) rfl ?_
   refine pop_ext (v := (VB s122d)) rfl ?_
   refine pop_not s122d ?_
   refine guardM_sf (fun hb70 => ?_) (fun hb70 => ?_)
   rotate_left
   ·have H := H.1 hb70
    refine gm hb70 ?_
    refine gm hb70 ?_
    refine gm hb70 ?_
    refine gm hb70 ?_
    refine gm hb70 ?_
    refine pop_pickt' hb70 ?_
    refine gn ?_
    refine gn ?_
    refine gn ?_
    refine gn ?_
    refine gn ?_
    refine gn ?_
    refine pop_pickt _ _ ?_
    refine gn ?_
    refine gn ?_
    refine gn ?_
    refine gn ?_
    refine gn ?_
    refine gn ?_
    refine pop_pickt _ _ ?_
    refine condM_t ?_
    exact H
   have H := H.2 hb70
   refine gy hb70 ?_
   refine pop_len s66 _ _ sli29 ?_
   refine gy hb70 ?_
   refine pop_field 0 fld26_0 b1 0 ?_
   refine gy hb70 ?_
   refine rl one24 hL67 0 0 s58.v ?_
   refine gy hb70 ?_
   refine pop_len s58 _ _ sli24 ?_
   refine gy hb70 ?_
   refine pop_ine .i64 _ _ (s66.n : Int) (s58.n : Int) ?_
   refine pop_pickf' hb70 ?_
   refine guardM_sf (fun hb71 => ?_) (fun hb71 => ?_)
   rotate_left
   ·have H := H.1 hb71
    refine gm hb71 ?_
    refine gm hb71 ?_
    refine gm hb71 ?_
    refine gm hb71 ?_
    refine gm hb71 ?_
    refine pop_pickt' hb71 ?_
    refine gn ?_
    refine gn ?_
    refine gn ?_
    refine gn ?_
    refine gn ?_
    refine gn ?_
    refine pop_pickt _ _ ?_
    refine condM_t ?_
    exact H
   have H := H.2 hb71
   refine gy hb71 ?_
   refine gy hb71 ?_
   obtain ⟨hi12, H⟩ := H
   refine pop_index sli29 siz36 .i64 s66 s58b hi12 ?_
   refine gy hb71 ?_
   obtain ⟨s139c, s139d, hc18, H⟩ := H
   refine rop_agg agg36 [(VI s139c), (VI s139d)] rfl hc18 ?_
   refine gy hb71 ?_
   refine pop.mk' (v := (Value.agg #[(VI 1), (VI 1)])) (fun w => by kernel_rfl) ?_
   refine gy hb71 ?_
   refine H.mono fun r34 H => ?_
   obtain ⟨s141b, rfl, H⟩ := H
   refine pop_pickf' hb71 ?_
   refine guardM_sf (fun hb72 => ?_) (fun hb72 => ?_)
   rotate_left
   ·have H := H.1 hb72
    refine gm hb72 ?_
    refine gm hb72 ?_
    refine gm hb72 ?_
    refine gm hb72 ?_
    refine gm hb72 ?_
    refine pop_pickt' hb72 ?_
    refine condM_t ?_
    exact H
   have H := H.2 hb72
   refine gy hb72 ?_
   refine gy hb72 ?_
   obtain ⟨hi13, H⟩ := H
   refine pop_index sli29 siz36 .i64 s66 s58c hi13 ?_
   refine gy hb72 ?_
   obtain ⟨s147c, s147d, hc17, H⟩ := H
   refine rop_agg agg36 [(VI s147c), (VI s147d)] rfl hc17 ?_
   refine gy hb72 ?_
   refine pop.mk' (v := (Value.agg #[(VI 0), (VI 1)])) (fun w => by kernel_rfl) ?_
   refine gy hb72 ?_
   refine H.mono fun r35 H => ?_
   obtain ⟨s149b, rfl, H⟩ := H
   refine pop_pickf' hb72 ?_
   refine condM_b (fun hb73 => ?_) (fun hb73 => ?_)
   ·exact H.1 hb73
   have H := H.2 hb73
   refine pop_field 0 fld26_0 b1 0 ?_
   refine rl one24 hL67 0 0 s58.v ?_
   refine pop_len s58 _ _ sli24 ?_
   obtain ⟨J6, ⟨n8, h0_4⟩, HB7⟩ := H
   refine loop_intro (J := fun (n : Nat) (vs : List Value) (h' : Heap) => ∃ s154b : Int, vs = [(VI s154b)] /\ J6 n s154b h' /\ Vars h' [(b1, [s58.v])]) n8 ⟨0, rfl, h0_4, hL67⟩ ?_
   intro I4 mu4 hI4 junk5 tv20 h68 hi14
   obtain ⟨n5, ⟨s154b, hv, hJ5, hL68⟩, hn3⟩ := hI4 _ _ hi14
   cases hv
   have H := HB7 n5 s154b h68 hJ5 hL68
   refine pop_lss .i64 s154b (s58.n : Int) ?_
   refine condM_b (fun hb74 => ?_) (fun hb74 => ?_)
   rotate_left
   ·have H := H.2 hb74
    exact ⟨rfl, H, hL68⟩
   have H := H.1 hb74
   obtain ⟨hi15, H⟩ := H
   refine pop_index sli24 siz37 .i64 s58 s154b hi15 ?_
   obtain ⟨s158b, hc16, H⟩ := H
   refine rop_one one37 s158b.v hc16 ?_
   obtain ⟨hi16, H⟩ := H
   refine pop_index sli29 siz36 .i64 s66 s154b hi16 ?_
   obtain ⟨s162c, s162d, hc15, H⟩ := H
   refine rop_agg agg36 [(VI s162c), (VI s162d)] rfl hc15 ?_
   refine eop_alloc 36 zer36 rfl hL68 (fun b20 h69 hb75 hf39 hL69 => ?_)
   refine ul siz36 hL69 0 0 [(VI s162c), (VI s162d)] [(b20, [(VI s162c), (VI s162d)]), (b1, [s58.v])] (fun h70 hf40 hL70 => ?_)
   obtain ⟨hi17, H⟩ := H
   refine pop_index sli29 siz36 .i64 s122c s154b hi17 ?_
   have H := H b20 h70 hb75 (Fr.new (Fr.no' (Fr.r (In []) _) hf39) hb75 hf40) hL70
   obtain ⟨s166c, s166d, hc14, H⟩ := H
   refine rop_agg agg36 [(VI s166c), (VI s166d)] rfl hc14 ?_
   refine eop_alloc 36 zer36 rfl hL70 (fun b21 h71 hb76 hf41 hL71 => ?_)
   refine ul siz36 hL71 0 0 [(VI s166c), (VI s166d)] [(b21, [(VI s166c), (VI s166d)]), (b20, [(VI s162c), (VI s162d)]), (b1, [s58.v])] (fun h72 hf42 hL72 => ?_)
   refine ra agg26 hL72 2 0 [s58.v] ?_
   have H := H b21 h72 hb76 (Fr.new (Fr.no' (Fr.r (In []) _) hf41) hb76 hf42) hL72
   refine H.mono fun r36 h73 H => ?_
   obtain ⟨s172d, s172e, s172f, rfl, hL73, H⟩ := H
   refine pop_ext (v := (Value.agg #[(VI s172d), (VI s172e)])) rfl ?_
   refine pop_ext (v := (VB s172f)) rfl ?_
   refine eop_alloc 36 zer36 rfl hL73 (fun b22 h74 hb77 hf43 hL74 => ?_)
   refine ul siz36 hL74 0 0 [(VI s172d), (VI s172e)] [(b22, [(VI s172d), (VI s172e)]), (b21, [(VI s166c), (VI s166d)]), (b20, [(VI s162c), (VI s162d)]), (b1, [s58.v])] (fun h75 hf44 hL75 => ?_)
   refine ra agg26 hL75 3 0 [s58.v] ?_
   have H := H b22 h75 hb77 (Fr.new (Fr.no' (Fr.r (In []) _) hf43) hb77 hf44) hL75
   refine H.mono fun r37 h76 H => ?_
   obtain ⟨s180d, s180e, s180f, rfl, hL76, H⟩ := H
   refine pop_ext (v := (Value.agg #[(VI s180d), (VI s180e)])) rfl ?_
   refine pop_ext (v := (VB s180f)) rfl ?_
   refine eop_alloc 36 zer36 rfl hL76 (fun b23 h77 hb78 hf45 hL77 => ?_)
   refine ul siz36 hL77 0 0 [(VI s180d), (VI s180e)] [(b23, [(VI s180d), (VI s180e)]), (b22, [(VI s172d), (VI s172e)]), (b21, [(VI s166c), (VI s166d)]), (b20, [(VI s162c), (VI s162d)]), (b1, [s58.v])] (fun h78 hf46 hL78 => ?_)
   refine pop_not s172f ?_
   refine guardM_sf (fun hb79 => ?_) (fun hb79 => ?_)
   rotate_left
   ·have H := H.1 hb79
    refine gm hb79 ?_
    refine gm hb79 ?_
    refine pop_pickt' hb79 ?_
    refine gn ?_
    refine gn ?_
    refine pop_pickt _ _ ?_
    refine gn ?_
    refine gn ?_
    refine gn ?_
    refine pop_pickt _ _ ?_
    refine gn ?_
    refine gn ?_
    refine gn ?_
    refine gn ?_
    refine gn ?_
    refine pop_pickt _ _ ?_
    refine gn ?_
    refine gn ?_
    refine gn ?_
    refine pop_pickt _ _ ?_
    refine gn ?_
    refine gn ?_
    refine gn ?_
    refine gn ?_
    refine gn ?_
    refine pop_pickt _ _ ?_
    refine gn ?_
    refine gn ?_
    refine gn ?_
    refine gn ?_
    refine gn ?_
    refine gn ?_
    refine gn ?_
    refine gn ?_
    refine pop_pickt _ _ ?_
    refine gn ?_
    refine gn ?_
    refine gn ?_
    refine gn ?_
    refine gn ?_
    refine gn ?_
    refine gn ?_
    refine gn ?_
    refine gn ?_
    refine gn ?_
    refine gn ?_
    refine gn ?_
    refine pop_pickt _ _ ?_
    refine condM_t ?_
    have H := H b23 h78 hb78 (Fr.new (Fr.no' (Fr.r (In []) _) hf45) hb78 hf46) hL78
    exact H
   have H := H.2 hb79
   refine ra agg36 hL78 1 0 [(VI s172d), (VI s172e)] ?_
   refine gy hb79 ?_
   refine ra agg36 hL78 3 0 [(VI s162c), (VI s162d)] ?_
   refine gy hb79 ?_
   refine H.mono fun r38 H => ?_
   obtain ⟨s188b, rfl, H⟩ := H
   refine pop_pickf' hb79 ?_
   refine guardM_sf (fun hb80 => ?_) (fun hb80 => ?_)
   rotate_left
   ·have H := H.1 hb80
    refine gm hb80 ?_
    refine pop_pickt' hb80 ?_
    refine gn ?_
    refine gn ?_
    refine gn ?_
    refine pop_pickt _ _ ?_
    refine gn ?_
    refine gn ?_
    refine gn ?_
    refine gn ?_
    refine gn ?_
    refine pop_pickt _ _ ?_
    refine gn ?_
    refine gn ?_
    refine gn ?_
    refine pop_pickt _ _ ?_
    refine gn ?_
    refine gn ?_
    refine gn ?_
    refine gn ?_
    refine gn ?_
    refine pop_pickt _ _ ?_
    refine gn ?_
    refine gn ?_
    refine gn ?_
    refine gn ?_
    refine gn ?_
    refine gn ?_
    refine gn ?_
    refine gn ?_
    refine pop_pickt _ _ ?_
    refine gn ?_
    refine gn ?_
    refine gn ?_
    refine gn ?_
    refine gn ?_
    refine gn ?_
    refine gn ?_
    refine gn ?_
    refine gn ?_
    refine gn ?_
    refine gn ?_
    refine gn ?_
    refine pop_pickt _ _ ?_
    refine condM_t ?_
    have H := H b23 h78 hb78 (Fr.new (Fr.no' (Fr.r (In []) _) hf45) hb78 hf46) hL78
    exact H
   have H := H.2 hb80
   refine gy hb80 ?_
   refine pop_not s180f ?_
   refine pop_pickf' hb80 ?_
   refine guardM_sf (fun hb81 => ?_) (fun hb81 => ?_)
   rotate_left
   ·have H := H.1 hb81
    refine gm hb81 ?_
    refine gm hb81 ?_
    refine pop_pickt' hb81 ?_
    refine gn ?_
    refine gn ?_
    refine gn ?_
    refine gn ?_
    refine gn ?_
    refine pop_pickt _ _ ?_
    refine gn ?_
    refine gn ?_
    refine gn ?_
    refine pop_pickt _ _ ?_
    refine gn ?_
    refine gn ?_
    refine gn ?_
    refine gn ?_
    refine gn ?_
    refine pop_pickt _ _ ?_
    refine gn ?_
    refine gn ?_
    refine gn ?_
    refine gn ?_
    refine gn ?_
    refine gn ?_
    refine gn ?_
    refine gn ?_
    refine pop_pickt _ _ ?_
    refine gn ?_
    refine gn ?_
    refine gn ?_
    refine gn ?_
    refine gn ?_
    refine gn ?_
    refine gn ?_
    refine gn ?_
    refine gn ?_
    refine gn ?_
    refine gn ?_
    refine gn ?_
    refine pop_pickt _ _ ?_
    refine condM_t ?_
    have H := H b23 h78 hb78 (Fr.new (Fr.no' (Fr.r (In []) _) hf45) hb78 hf46) hL78
    exact H
   have H := H.2 hb81
   refine pop_field 0 fld36_0 b20 0 ?_
   refine gy hb81 ?_
   refine rl one3 hL78 3 0 (VI s162c) ?_
   refine gy hb81 ?_
   refine pop_lss .i64 s162c 0 ?_
   refine pop_pickf' hb81 ?_
   refine guardM_sf (fun hb82 => ?_) (fun hb82 => ?_)
   rotate_left
   ·have H := H.1 hb82
    refine gm hb82 ?_
    refine gm hb82 ?_
    refine gm hb82 ?_
    refine gm hb82 ?_
    refine pop_pickt' hb82 ?_
    refine gn ?_
    refine gn ?_
    refine gn ?_
    refine pop_pickt _ _ ?_
    refine gn ?_
    refine gn ?_
    refine gn ?_
    refine gn ?_
    refine gn ?_
    refine pop_pickt _ _ ?_
    refine gn ?_
    refine gn ?_
    refine gn ?_
    refine gn ?_
    refine gn ?_
    refine gn ?_
    refine gn ?_
    refine gn ?_
    refine pop_pickt _ _ ?_
    refine gn ?_
    refine gn ?_
    refine gn ?_
    refine gn ?_
    refine gn ?_
    refine gn ?_
    refine gn ?_
    refine gn ?_
    refine gn ?_
    refine gn ?_
    refine gn ?_
    refine gn ?_
    refine pop_pickt _ _ ?_
    refine condM_t ?_
    have H := H b23 h78 hb78 (Fr.new (Fr.no' (Fr.r (In []) _) hf45) hb78 hf46) hL78
    exact H
   have H := H.2 hb82
   refine pop_field 0 fld36_0 b20 0 ?_
   refine gy hb82 ?_
   refine rl one3 hL78 3 0 (VI s162c) ?_
   refine gy hb82 ?_
   refine pop_field 1 fld36_1 b20 0 ?_
   refine gy hb82 ?_
   refine rl one3 hL78 3 1 (VI s162d) ?_
   refine gy hb82 ?_
   refine pop_gtr .i64 s162c s162d ?_
   refine pop_pickf' hb82 ?_
   refine guardM_sf (fun hb83 => ?_) (fun hb83 => ?_)
   rotate_left
   ·have H := H.1 hb83
    refine gm hb83 ?_
    refine gm hb83 ?_
    refine pop_pickt' hb83 ?_
    refine gn ?_
    refine gn ?_
    refine gn ?_
    refine gn ?_
    refine gn ?_
    refine pop_pickt _ _ ?_
    refine gn ?_
    refine gn ?_
    refine gn ?_
    refine gn ?_
    refine gn ?_
    refine gn ?_
    refine gn ?_
    refine gn ?_
    refine pop_pickt _ _ ?_
    refine gn ?_
    refine gn ?_
    refine gn ?_
    refine gn ?_
    refine gn ?_
    refine gn ?_
    refine gn ?_
    refine gn ?_
    refine gn ?_
    refine gn ?_
    refine gn ?_
    refine gn ?_
    refine pop_pickt _ _ ?_
    refine condM_t ?_
    have H := H b23 h78 hb78 (Fr.new (Fr.no' (Fr.r (In []) _) hf45) hb78 hf46) hL78
    exact H
   have H := H.2 hb83
   refine pop_field 1 fld36_1 b20 0 ?_
   refine gy hb83 ?_
   refine rl one3 hL78 3 1 (VI s162d) ?_
   refine gy hb83 ?_
   refine pop_lss .i64 s162d 1 ?_
   refine pop_pickf' hb83 ?_
   refine guardM_sf (fun hb84 => ?_) (fun hb84 => ?_)
   rotate_left
   ·have H := H.1 hb84
    refine gm hb84 ?_
    refine gm hb84 ?_
    refine gm hb84 ?_
    refine gm hb84 ?_
    refine pop_pickt' hb84 ?_
    refine gn ?_
    refine gn ?_
    refine gn ?_
    refine gn ?_
    refine gn ?_
    refine gn ?_
    refine gn ?_
    refine gn ?_
    refine pop_pickt _ _ ?_
    refine gn ?_
    refine gn ?_
    refine gn ?_
    refine gn ?_
    refine gn ?_
    refine gn ?_
    refine gn ?_
    refine gn ?_
    refine gn ?_
    refine gn ?_
    refine gn ?_
    refine gn ?_
    refine pop_pickt _ _ ?_
    refine condM_t ?_
    have H := H b23 h78 hb78 (Fr.new (Fr.no' (Fr.r (In []) _) hf45) hb78 hf46) hL78
    exact H
   have H := H.2 hb84
   refine pop_field 1 fld36_1 b21 0 ?_
   refine gy hb84 ?_
   refine rl one3 hL78 2 1 (VI s166d) ?_
   refine gy hb84 ?_
   refine pop_field 1 fld36_1 b20 0 ?_
   refine gy hb84 ?_
   refine rl one3 hL78 3 1 (VI s162d) ?_
   refine gy hb84 ?_
   refine pop_ine .i64 _ _ s166d s162d ?_
   refine pop_pickf' hb84 ?_
   refine guardM_sf (fun hb85 => ?_) (fun hb85 => ?_)
   rotate_left
   ·have H := H.1 hb85
    refine gm hb85 ?_
    refine gm hb85 ?_
    refine gm hb85 ?_
    refine gm hb85 ?_
    refine gm hb85 ?_
    refine gm hb85 ?_
    refine gm hb85 ?_
    refine pop_pickt' hb85 ?_
    refine gn ?_
    refine gn ?_
    refine gn ?_
    refine gn ?_
    refine gn ?_
    refine gn ?_
    refine gn ?_
    refine gn ?_
    refine gn ?_
    refine gn ?_
    refine gn ?_
    refine gn ?_
    refine pop_pickt _ _ ?_
    refine condM_t ?_
    have H := H b23 h78 hb78 (Fr.new (Fr.no' (Fr.r (In []) _) hf45) hb78 hf46) hL78
    exact H
   have H := H.2 hb85
   refine pop_field 0 fld36_0 b21 0 ?_
   refine gy hb85 ?_
   refine rl one3 hL78 2 0 (VI s166c) ?_
   refine gy hb85 ?_
   refine pop_field 1 fld36_1 b20 0 ?_
   refine gy hb85 ?_
   refine rl one3 hL78 3 1 (VI s162d) ?_
   refine gy hb85 ?_
   refine pop_field 0 fld36_0 b20 0 ?_
   refine gy hb85 ?_
   refine rl one3 hL78 3 0 (VI s162c) ?_
   refine gy hb85 ?_
   refine pop_sub .i64 s162d s162c ?_
   refine gy hb85 ?_
   refine pop_ine .i64 _ _ s166c (w64 (s162d - s162c)) ?_
   refine pop_pickf' hb85 ?_
   refine guardM_sf (fun hb86 => ?_) (fun hb86 => ?_)
   rotate_left
   ·have H := H.1 hb86
    refine gm hb86 ?_
    refine gm hb86 ?_
    refine gm hb86 ?_
    refine gm hb86 ?_
    refine gm hb86 ?_
    refine gm hb86 ?_
    refine gn ?_
    refine gn ?_
    refine gn ?_
    refine gm hb86 ?_
    refine gm hb86 ?_
    refine pop_pickt' hb86 ?_
    refine condM_t ?_
    have H := H b23 h78 hb78 (Fr.new (Fr.no' (Fr.r (In []) _) hf45) hb78 hf46) hL78
    exact H
   have H := H.2 hb86
   refine pop_field 0 fld36_0 b23 0 ?_
   refine gy hb86 ?_
   refine rl one3 hL78 0 0 (VI s180d) ?_
   refine gy hb86 ?_
   refine pop_ieq .i64 _ _ s180d 0 ?_
   refine gy hb86 ?_
   refine gy hb86 ?_
   refine gy hb86 ?_
   refine pop_ieq .i64 _ _ s154b s58b ?_
   refine gy hb86 ?_
   refine guardM_sf (fun hb87 => ?_) (fun hb87 => ?_)
   rotate_left
   ·have H := H.1 hb87
    refine gm hb87 ?_
    refine gm hb87 ?_
    refine gy hb86 ?_
    refine pop_pickt' hb87 ?_
    refine gy hb86 ?_
    refine pop_bne boo4 _ _ (decide (s180d = 0)) true ?_
    refine pop_pickf' hb86 ?_
    refine condM_b (fun hb103 => ?_) (fun hb103 => ?_)
    ·have H := H.1 hb103
     have H := H b23 h78 hb78 (Fr.new (Fr.no' (Fr.r (In []) _) hf45) hb78 hf46) hL78
     exact H
    have H := H.2 hb103
    refine pop_ieq .i64 _ _ s154b s58b ?_
    refine gm hb87 ?_
    refine gm hb87 ?_
    refine gm hb87 ?_
    refine pop_pickt' hb87 ?_
    refine condM_t ?_
    refine pop_add .i64 s154b 1 ?_
    have H := H b23 h78 hb78 (Fr.new (Fr.no' (Fr.r (In []) _) hf45) hb78 hf46) hL78
    obtain ⟨m_16, hm_16, H⟩ := H
    exact hn3 _ _ ⟨m_16, hm_16, (w64 (s154b + 1)), rfl, H, (Vars.tail (Vars.tail (Vars.tail (Vars.tail hL78))))⟩
   have H := H.2 hb87
   refine gy hb87 ?_
   refine gy hb87 ?_
   refine pop_ieq .i64 _ _ s154b s58c ?_
   refine gy hb86 ?_
   refine pop_pickf' hb87 ?_
   refine gy hb86 ?_
   refine pop_bne boo4 _ _ (decide (s180d = 0)) (decide (s154b = s58c)) ?_
   refine pop_pickf' hb86 ?_
   refine condM_b (fun hb88 => ?_) (fun hb88 => ?_)
   ·have H := H.1 hb88
    have H := H b23 h78 hb78 (Fr.new (Fr.no' (Fr.r (In []) _) hf45) hb78 hf46) hL78
    exact H
   have H := H.2 hb88
   refine pop_ieq .i64 _ _ s154b s58b ?_
   refine gy hb87 ?_
   refine gy hb87 ?_
   refine gy hb87 ?_
   refine pop_ieq .i64 _ _ s154b s58c ?_
   refine pop_pickf' hb87 ?_
   refine condM_b (fun hb89 => ?_) (fun hb89 => ?_)
   ·have H := H.1 hb89
    refine pop_add .i64 s154b 1 ?_
    have H := H b23 h78 hb78 (Fr.new (Fr.no' (Fr.r (In []) _) hf45) hb78 hf46) hL78
    obtain ⟨m_9, hm_9, H⟩ := H
    exact hn3 _ _ ⟨m_9, hm_9, (w64 (s154b + 1)), rfl, H, (Vars.tail (Vars.tail (Vars.tail (Vars.tail hL78))))⟩
   have H := H.2 hb89
   have H := H b23 h78 hb78 (Fr.new (Fr.no' (Fr.r (In []) _) hf45) hb78 hf46) hL78
   obtain ⟨J7, H, HB6⟩ := H
   refine ⟨fun (vs : List Value) (h' : Heap) => ∃ y5 : Int, ∃ y6 : Int, ∃ y7 : Int, ∃ y8 : Int, vs = [(VI y5), (VI y6), (VI y7), (VI y8)] /\ J7 y5 y6 y7 y8 h' /\ Vars h' [(b23, [(VI s180d), (VI s180e)]), (b22, [(VI s172d), (VI s172e)]), (b21, [(VI s166c), (VI s166d)]), (b20, [(VI s162c), (VI s162d)]), (b1, [s58.v])], ?_, ?_⟩
   ·refine pop_len s158b _ _ sli37 ?_
    obtain ⟨J8, ⟨n7, h0_3⟩, HB5⟩ := H
    refine loop_intro (J := fun (n : Nat) (vs : List Value) (h' : Heap) => ∃ num26_2 : Int, ∃ den27_2 : Int, ∃ total28_2 : Int, ∃ whole29_2 : Int, ∃ s252b : Int, vs = [(VI num26_2), (VI den27_2), (VI total28_2), (VI whole29_2), (VI s252b)] /\ J8 n num26_2 den27_2 total28_2 whole29_2 s252b h' /\ Vars h' [(b23, [(VI s180d), (VI s180e)]), (b22, [(VI s172d), (VI s172e)]), (b21, [(VI s166c), (VI s166d)]), (b20, [(VI s162c), (VI s162d)]), (b1, [s58.v])]) n7 ⟨0, 1, 0, 1, 0, rfl, h0_3, hL78⟩ ?_
    intro I3 mu3 hI3 junk6 tv11 tv12 tv13 tv14 tv15 h79 hi18
    obtain ⟨n6, ⟨num26_2, den27_2, total28_2, whole29_2, s252b, hv, hJ6, hL79⟩, hn4⟩ := hI3 _ _ hi18
    cases hv
    have H := HB5 n6 num26_2 den27_2 total28_2 whole29_2 s252b h79 hJ6 hL79
    refine pop_lss .i64 s252b (s158b.n : Int) ?_
    refine condM_b (fun hb90 => ?_) (fun hb90 => ?_)
    rotate_left
    ·have H := H.2 hb90
     exact ⟨num26_2, den27_2, total28_2, whole29_2, rfl, H, hL79⟩
    have H := H.1 hb90
    obtain ⟨hi19, H⟩ := H
    refine pop_index sli37 siz3 .i64 s158b s252b hi19 ?_
    obtain ⟨s255b, hc13, H⟩ := H
    refine rop_one one3 (VI s255b) hc13 ?_
    obtain ⟨hi20, H⟩ := H
    refine pop_index sli29 siz36 .i64 s66 s255b hi20 ?_
    refine pop_fieldA 1 fld36_1 (Sl.at s66 s255b 2) ?_
    obtain ⟨s261b, hc12, H⟩ := H
    refine rop_one one3 (VI s261b) hc12 ?_
    refine pop_mul .i64 num26_2 s261b ?_
    obtain ⟨hi21, H⟩ := H
    refine pop_index sli29 siz36 .i64 s66 s255b hi21 ?_
    refine pop_fieldA 0 fld36_0 (Sl.at s66 s255b 2) ?_
    obtain ⟨s267b, hc11, H⟩ := H
    refine rop_one one3 (VI s267b) hc11 ?_
    refine pop_mul .i64 s267b den27_2 ?_
    refine pop_add .i64 (w64 (num26_2 * s261b)) (w64 (s267b * den27_2)) ?_
    obtain ⟨hi22, H⟩ := H
    refine pop_index sli29 siz36 .i64 s66 s255b hi22 ?_
    refine pop_fieldA 1 fld36_1 (Sl.at s66 s255b 2) ?_
    obtain ⟨s276b, hc10, H⟩ := H
    refine rop_one one3 (VI s276b) hc10 ?_
    refine pop_mul .i64 den27_2 s276b ?_
    refine ra agg26 hL79 4 0 [s58.v] ?_
    refine H.mono fun r39 h80 H => ?_
    obtain ⟨s283d, s283e, s283f, rfl, hL80, H⟩ := H
    refine pop_ext (v := (Value.agg #[(VI s283d), (VI s283e)])) rfl ?_
    refine pop_ext (v := (VB s283f)) rfl ?_
    refine eop_alloc 36 zer36 rfl hL80 (fun b24 h81 hb91 hf47 hL81 => ?_)
    refine ul siz36 hL81 0 0 [(VI s283d), (VI s283e)] [(b24, [(VI s283d), (VI s283e)]), (b23, [(VI s180d), (VI s180e)]), (b22, [(VI s172d), (VI s172e)]), (b21, [(VI s166c), (VI s166d)]), (b20, [(VI s162c), (VI s162d)]), (b1, [s58.v])] (fun h82 hf48 hL82 => ?_)
    refine pop_not s283f ?_
    refine condM_b (fun hb92 => ?_) (fun hb92 => ?_)
    ·have H := H.1 hb92
     have H := H b24 h82 hb91 (Fr.new (Fr.no' (Fr.r (In []) _) hf47) hb91 hf48) hL82
     exact H
    have H := H.2 hb92
    refine pop_field 1 fld36_1 b24 0 ?_
    refine rl one3 hL82 0 1 (VI s283e) ?_
    refine pop_mul .i64 total28_2 s283e ?_
    refine pop_field 0 fld36_0 b24 0 ?_
    refine rl one3 hL82 0 0 (VI s283d) ?_
    refine pop_mul .i64 s283d whole29_2 ?_
    refine pop_add .i64 (w64 (total28_2 * s283e)) (w64 (s283d * whole29_2)) ?_
    refine pop_field 1 fld36_1 b24 0 ?_
    refine rl one3 hL82 0 1 (VI s283e) ?_
    refine pop_mul .i64 whole29_2 s283e ?_
    refine pop_gtr .i64 (w64 (den27_2 * s276b)) 1048576 ?_
    refine guardM_sf (fun hb93 => ?_) (fun hb93 => ?_)
    rotate_left
    ·have H := H.1 hb93
     refine gm hb93 ?_
     refine pop_pickt' hb93 ?_
     refine gn ?_
     refine gn ?_
     refine pop_pickt _ _ ?_
     refine gn ?_
     refine gn ?_
     refine pop_pickt _ _ ?_
     refine condM_t ?_
     have H := H b24 h82 hb91 (Fr.new (Fr.no' (Fr.r (In []) _) hf47) hb91 hf48) hL82
     exact ⟨(w64 ((w64 (num26_2 * s261b)) + (w64 (s267b * den27_2)))), 0, (w64 ((w64 (total28_2 * s283e)) + (w64 (s283d * whole29_2)))), (w64 (whole29_2 * s283e)), rfl, H, Vars.pick hL82 [1, 2, 3, 4, 5] rfl⟩
    have H := H.2 hb93
    refine gy hb93 ?_
    refine pop_gtr .i64 (w64 (whole29_2 * s283e)) 1048576 ?_
    refine pop_pickf' hb93 ?_
    refine guardM_sf (fun hb94 => ?_) (fun hb94 => ?_)
    rotate_left
    ·have H := H.1 hb94
     refine gm hb94 ?_
     refine pop_pickt' hb94 ?_
     refine gn ?_
     refine gn ?_
     refine pop_pickt _ _ ?_
     refine condM_t ?_
     have H := H b24 h82 hb91 (Fr.new (Fr.no' (Fr.r (In []) _) hf47) hb91 hf48) hL82
     exact ⟨(w64 ((w64 (num26_2 * s261b)) + (w64 (s267b * den27_2)))), 0, (w64 ((w64 (total28_2 * s283e)) + (w64 (s283d * whole29_2)))), (w64 (whole29_2 * s283e)), rfl, H, Vars.pick hL82 [1, 2, 3, 4, 5] rfl⟩
    have H := H.2 hb94
    refine gy hb94 ?_
    refine pop_gtr .i64 (w64 ((w64 (num26_2 * s261b)) + (w64 (s267b * den27_2)))) 1073741824 ?_
    refine pop_pickf' hb94 ?_
    refine guardM_sf (fun hb95 => ?_) (fun hb95 => ?_)
    rotate_left
    ·have H := H.1 hb95
     refine gm hb95 ?_
     refine pop_pickt' hb95 ?_
     refine condM_t ?_
     have H := H b24 h82 hb91 (Fr.new (Fr.no' (Fr.r (In []) _) hf47) hb91 hf48) hL82
     exact ⟨(w64 ((w64 (num26_2 * s261b)) + (w64 (s267b * den27_2)))), 0, (w64 ((w64 (total28_2 * s283e)) + (w64 (s283d * whole29_2)))), (w64 (whole29_2 * s283e)), rfl, H, Vars.pick hL82 [1, 2, 3, 4, 5] rfl⟩
    have H := H.2 hb95
    refine gy hb95 ?_
    refine pop_gtr .i64 (w64 ((w64 (total28_2 * s283e)) + (w64 (s283d * whole29_2)))) 1073741824 ?_
    refine pop_pickf' hb95 ?_
    refine condM_b (fun hb96 => ?_) (fun hb96 => ?_)
    ·have H := H.1 hb96
     have H := H b24 h82 hb91 (Fr.new (Fr.no' (Fr.r (In []) _) hf47) hb91 hf48) hL82
     exact ⟨(w64 ((w64 (num26_2 * s261b)) + (w64 (s267b * den27_2)))), 0, (w64 ((w64 (total28_2 * s283e)) + (w64 (s283d * whole29_2)))), (w64 (whole29_2 * s283e)), rfl, H, Vars.pick hL82 [1, 2, 3, 4, 5] rfl⟩
    have H := H.2 hb96
    refine pop_add .i64 s252b 1 ?_
    have H := H b24 h82 hb91 (Fr.new (Fr.no' (Fr.r (In []) _) hf47) hb91 hf48) hL82
    obtain ⟨m_10, hm_10, H⟩ := H
    exact hn4 _ _ ⟨m_10, hm_10, (w64 ((w64 (num26_2 * s261b)) + (w64 (s267b * den27_2)))), (w64 (den27_2 * s276b)), (w64 ((w64 (total28_2 * s283e)) + (w64 (s283d * whole29_2)))), (w64 (whole29_2 * s283e)), (w64 (s252b + 1)), rfl, H, (Vars.tail hL82)⟩
   intro junk7 tv16 tv17 tv18 tv19 h83
   rintro ⟨y5, y6, y7, y8, hv, hJ7, hL83⟩
   cases hv
   have H := HB6 y5 y6 y7 y8 h83 hJ7 hL83
   refine pop_ieq .i64 _ _ y6 0 ?_
   refine guardM_sf (fun hb97 => ?_) (fun hb97 => ?_)
   rotate_left
   ·have H := H.1 hb97
    refine gm hb97 ?_
    refine gm hb97 ?_
    refine pop_pickt' hb97 ?_
    refine gn ?_
    refine gn ?_
    refine gn ?_
    refine pop_pickt _ _ ?_
    refine gn ?_
    refine gn ?_
    refine gn ?_
    refine pop_pickt _ _ ?_
    refine condM_t ?_
    refine pop_add .i64 s154b 1 ?_
    obtain ⟨m_15, hm_15, H⟩ := H
    exact hn3 _ _ ⟨m_15, hm_15, (w64 (s154b + 1)), rfl, H, (Vars.tail (Vars.tail (Vars.tail (Vars.tail hL83))))⟩
   have H := H.2 hb97
   refine pop_field 1 fld36_1 b20 0 ?_
   refine gy hb97 ?_
   refine rl one3 hL83 3 1 (VI s162d) ?_
   refine gy hb97 ?_
   refine pop_gtr .i64 s162d 1048576 ?_
   refine pop_pickf' hb97 ?_
   refine guardM_sf (fun hb98 => ?_) (fun hb98 => ?_)
   rotate_left
   ·have H := H.1 hb98
    refine gm hb98 ?_
    refine gm hb98 ?_
    refine pop_pickt' hb98 ?_
    refine gn ?_
    refine gn ?_
    refine gn ?_
    refine pop_pickt _ _ ?_
    refine condM_t ?_
    refine pop_add .i64 s154b 1 ?_
    obtain ⟨m_14, hm_14, H⟩ := H
    exact hn3 _ _ ⟨m_14, hm_14, (w64 (s154b + 1)), rfl, H, (Vars.tail (Vars.tail (Vars.tail (Vars.tail hL83))))⟩
   have H := H.2 hb98
   refine pop_field 1 fld36_1 b23 0 ?_
   refine gy hb98 ?_
   refine rl one3 hL83 0 1 (VI s180e) ?_
   refine gy hb98 ?_
   refine pop_gtr .i64 s180e 1048576 ?_
   refine pop_pickf' hb98 ?_
   refine guardM_sf (fun hb99 => ?_) (fun hb99 => ?_)
   rotate_left
   ·have H := H.1 hb99
    refine gm hb99 ?_
    refine gm hb99 ?_
    refine pop_pickt' hb99 ?_
    refine condM_t ?_
    refine pop_add .i64 s154b 1 ?_
    obtain ⟨m_13, hm_13, H⟩ := H
    exact hn3 _ _ ⟨m_13, hm_13, (w64 (s154b + 1)), rfl, H, (Vars.tail (Vars.tail (Vars.tail (Vars.tail hL83))))⟩
   have H := H.2 hb99
   refine pop_field 0 fld36_0 b23 0 ?_
   refine gy hb99 ?_
   refine rl one3 hL83 0 0 (VI s180d) ?_
   refine gy hb99 ?_
   refine pop_gtr .i64 s180d 1073741824 ?_
   refine pop_pickf' hb99 ?_
   refine condM_b (fun hb100 => ?_) (fun hb100 => ?_)
   ·have H := H.1 hb100
    refine pop_add .i64 s154b 1 ?_
    obtain ⟨m_11, hm_11, H⟩ := H
    exact hn3 _ _ ⟨m_11, hm_11, (w64 (s154b + 1)), rfl, H, (Vars.tail (Vars.tail (Vars.tail (Vars.tail hL83))))⟩
   have H := H.2 hb100
   refine pop_field 1 fld36_1 b20 0 ?_
   refine rl one3 hL83 3 1 (VI s162d) ?_
   refine pop_mul .i64 y5 s162d ?_
   refine pop_field 0 fld36_0 b20 0 ?_
   refine rl one3 hL83 3 0 (VI s162c) ?_
   refine pop_mul .i64 s162c y6 ?_
   refine pop_len s158b _ _ sli37 ?_
   refine pop_mul .i64 (w64 (s162c * y6)) (s158b.n : Int) ?_
   refine pop_ine .i64 _ _ (w64 (y5 * s162d)) (w64 ((w64 (s162c * y6)) * (s158b.n : Int))) ?_
   refine guardM_sf (fun hb101 => ?_) (fun hb101 => ?_)
   rotate_left
   ·have H := H.1 hb101
    refine gm hb101 ?_
    refine gm hb101 ?_
    refine gm hb101 ?_
    refine gm hb101 ?_
    refine gm hb101 ?_
    refine gm hb101 ?_
    refine gm hb101 ?_
    refine gm hb101 ?_
    refine gm hb101 ?_
    refine gm hb101 ?_
    refine gm hb101 ?_
    refine gm hb101 ?_
    refine gm hb101 ?_
    refine gm hb101 ?_
    refine gm hb101 ?_
    refine gm hb101 ?_
    refine pop_pickt' hb101 ?_
    refine condM_t ?_
    exact H
   have H := H.2 hb101
   refine gy hb101 ?_
   refine gy hb101 ?_
   refine gy hb101 ?_
   refine pop_len s158b _ _ sli37 ?_
   refine gy hb101 ?_
   refine pop_mul .i64 y8 (s158b.n : Int) ?_
   refine gy hb101 ?_
   refine pop_add .i64 y7 (w64 (y8 * (s158b.n : Int))) ?_
   refine gy hb101 ?_
   refine pop_field 1 fld36_1 b23 0 ?_
   refine gy hb101 ?_
   refine rl one3 hL83 0 1 (VI s180e) ?_
   refine gy hb101 ?_
   refine pop_mul .i64 (w64 (y7 + (w64 (y8 * (s158b.n : Int))))) s180e ?_
   refine gy hb101 ?_
   refine pop_field 0 fld36_0 b23 0 ?_
   refine gy hb101 ?_
   refine rl one3 hL83 0 0 (VI s180d) ?_
   refine gy hb101 ?_
   refine gy hb101 ?_
   refine pop_mul .i64 s180d y8 ?_
   refine gy hb101 ?_
   refine gy hb101 ?_
   refine pop_len s158b _ _ sli37 ?_
   refine gy hb101 ?_
   refine pop_mul .i64 (w64 (s180d * y8)) (s158b.n : Int) ?_
   refine gy hb101 ?_
   refine pop_ine .i64 _ _ (w64 ((w64 (y7 + (w64 (y8 * (s158b.n : Int))))) * s180e)) (w64 ((w64 (s180d * y8)) * (s158b.n : Int))) ?_
   refine pop_pickf' hb101 ?_
   refine condM_b (fun hb102 => ?_) (fun hb102 => ?_)
   ·exact H.1 hb102
   have H := H.2 hb102
   refine pop_add .i64 s154b 1 ?_
   obtain ⟨m_12, hm_12, H⟩ := H
   exact hn3 _ _ ⟨m_12, hm_12, (w64 (s154b + 1)), rfl, H, (Vars.tail (Vars.tail (Vars.tail (Vars.tail hL83))))⟩
  intro junk8  h84
  rintro ⟨hv, hJ8, hL84⟩
  have H := HB8  h84 hJ8 hL84
  refine H.mono fun r40 h85 H => ?_
  obtain ⟨s367d, s367e, s367f, rfl, hL85, H⟩ := H
  refine pop_ext (v := (Value.agg #[s367d.v])) rfl ?_
  refine pop_ext (v := (VI s367e)) rfl ?_
  refine pop_ext (v := (VI s367f)) rfl ?_
  refine eop_alloc 26 zer26 rfl hL85 (fun b25 h86 hb104 hf49 hL86 => ?_)
  refine ul siz26 hL86 0 0 [s367d.v] [(b25, [s367d.v]), (b1, [s58.v])] (fun h87 hf50 hL87 => ?_)
  refine ra agg26 hL87 0 0 [s367d.v] ?_
  have H := H b25 h87 hb104 (Fr.new (Fr.no' (Fr.r (In []) _) hf49) hb104 hf50) hL87
  refine H.mono fun r41 h88 H => ?_
  obtain ⟨s375d, s375e, s375f, rfl, hL88, H⟩ := H
  refine pop_ext (v := (Value.agg #[(VI s375d), (VI s375e)])) rfl ?_
  refine pop_ext (v := (VB s375f)) rfl ?_
  refine eop_alloc 36 zer36 rfl hL88 (fun b26 h89 hb105 hf51 hL89 => ?_)
  refine ul siz36 hL89 0 0 [(VI s375d), (VI s375e)] [(b26, [(VI s375d), (VI s375e)]), (b25, [s367d.v]), (b1, [s58.v])] (fun h90 hf52 hL90 => ?_)
  refine ra agg26 hL90 1 0 [s367d.v] ?_
  have H := H b26 h90 hb105 (Fr.new (Fr.no' (Fr.r (In []) _) hf51) hb105 hf52) hL90
  refine H.mono fun r42 h91 H => ?_
  obtain ⟨s382d, s382e, s382f, rfl, hL91, H⟩ := H
  refine pop_ext (v := (Value.agg #[(VI s382d), (VI s382e)])) rfl ?_
  refine pop_ext (v := (VB s382f)) rfl ?_
  refine eop_alloc 36 zer36 rfl hL91 (fun b27 h92 hb106 hf53 hL92 => ?_)
  refine ul siz36 hL92 0 0 [(VI s382d), (VI s382e)] [(b27, [(VI s382d), (VI s382e)]), (b26, [(VI s375d), (VI s375e)]), (b25, [s367d.v]), (b1, [s58.v])] (fun h93 hf54 hL93 => ?_)
  refine pop_bne boo4 _ _ s375f s382f ?_
  refine guardM_sf (fun hb107 => ?_) (fun hb107 => ?_)
  rotate_left
  ·have H := H.1 hb107
   refine gm hb107 ?_
   refine gm hb107 ?_
   refine pop_pickt' hb107 ?_
   refine gn ?_
   refine gn ?_
   refine gn ?_
   refine gn ?_
   refine gn ?_
   refine gn ?_
   refine gn ?_
   refine gn ?_
   refine gn ?_
   refine gn ?_
   refine gn ?_
   refine gn ?_
   refine gn ?_
   refine pop_pickt _ _ ?_
   refine condM_t ?_
   have H := H b27 h93 hb106 (Fr.new (Fr.no' (Fr.r (In []) _) hf53) hb106 hf54) hL93
   exact H
  have H := H.2 hb107
  refine ra agg36 hL93 1 0 [(VI s375d), (VI s375e)] ?_
  refine gy hb107 ?_
  refine ra agg36 hL93 0 0 [(VI s382d), (VI s382e)] ?_
  refine gy hb107 ?_
  refine H.mono fun r43 H => ?_
  obtain ⟨s391b, rfl, H⟩ := H
  refine pop_pickf' hb107 ?_
  refine guardM_sf (fun hb108 => ?_) (fun hb108 => ?_)
  rotate_left
  ·have H := H.1 hb108
   refine gm hb108 ?_
   refine gn ?_
   refine gn ?_
   refine gn ?_
   refine gn ?_
   refine gn ?_
   refine gn ?_
   refine gn ?_
   refine gn ?_
   refine gn ?_
   refine gn ?_
   refine gm hb108 ?_
   refine pop_pickt' hb108 ?_
   refine condM_t ?_
   have H := H b27 h93 hb106 (Fr.new (Fr.no' (Fr.r (In []) _) hf53) hb106 hf54) hL93
   exact H
  have H := H.2 hb108
  refine gy hb108 ?_
  refine guardM_st (fun hb109 => ?_) (fun hb109 => ?_)
  rotate_left
  ·have H := H.2 hb109
   refine gm hb109 ?_
   refine gm hb109 ?_
   refine gm hb109 ?_
   refine gn ?_
   refine gn ?_
   refine gn ?_
   refine gn ?_
   refine gn ?_
   refine gm hb109 ?_
   refine gy hb108 ?_
   refine pop_pickf' hb109 ?_
   refine pop_pickf' hb108 ?_
   refine condM_f ?_
   have H := H b27 h93 hb106 (Fr.new (Fr.no' (Fr.r (In []) _) hf53) hb106 hf54) hL93
   refine H.mono fun r51 h109 H => ?_
   obtain ⟨t410_13, t410_14, t410_15, t410_16, rfl, hL109, H⟩ := H
   refine pop_ext (v := (Value.agg #[t410_13.v])) rfl ?_
   refine pop_ext (v := (VI t410_14)) rfl ?_
   refine pop_ext (v := (VI t410_15)) rfl ?_
   refine pop_ext (v := (VI t410_16)) rfl ?_
   refine eop_alloc 26 zer26 rfl hL109 (fun b33 h110 hb120 hf65 hL110 => ?_)
   refine ul siz26 hL110 0 0 [t410_13.v] [(b33, [t410_13.v]), (b27, [(VI s382d), (VI s382e)]), (b26, [(VI s375d), (VI s375e)]), (b25, [s367d.v]), (b1, [s58.v])] (fun h111 hf66 hL111 => ?_)
   refine ra agg26 hL111 0 0 [t410_13.v] ?_
   have H := H b33 h111 hb120 (Fr.new (Fr.no' (Fr.r (In []) _) hf65) hb120 hf66) hL111
   refine H.mono fun r52 h112 H => ?_
   obtain ⟨t420_10, t420_11, t420_12, rfl, hL112, H⟩ := H
   refine pop_ext (v := (Value.agg #[(VI t420_10), (VI t420_11)])) rfl ?_
   refine pop_ext (v := (VB t420_12)) rfl ?_
   refine eop_alloc 36 zer36 rfl hL112 (fun b34 h113 hb121 hf67 hL113 => ?_)
   refine ul siz36 hL113 0 0 [(VI t420_10), (VI t420_11)] [(b34, [(VI t420_10), (VI t420_11)]), (b33, [t410_13.v]), (b27, [(VI s382d), (VI s382e)]), (b26, [(VI s375d), (VI s375e)]), (b25, [s367d.v]), (b1, [s58.v])] (fun h114 hf68 hL114 => ?_)
   refine ra agg26 hL114 1 0 [t410_13.v] ?_
   have H := H b34 h114 hb121 (Fr.new (Fr.no' (Fr.r (In []) _) hf67) hb121 hf68) hL114
   refine H.mono fun r53 h115 H => ?_
   obtain ⟨t428_10, t428_11, t428_12, rfl, hL115, H⟩ := H
   refine pop_ext (v := (Value.agg #[(VI t428_10), (VI t428_11)])) rfl ?_
   refine pop_ext (v := (VB t428_12)) rfl ?_
   refine eop_alloc 36 zer36 rfl hL115 (fun b35 h116 hb122 hf69 hL116 => ?_)
   refine ul siz36 hL116 0 0 [(VI t428_10), (VI t428_11)] [(b35, [(VI t428_10), (VI t428_11)]), (b34, [(VI t420_10), (VI t420_11)]), (b33, [t410_13.v]), (b27, [(VI s382d), (VI s382e)]), (b26, [(VI s375d), (VI s375e)]), (b25, [s367d.v]), (b1, [s58.v])] (fun h117 hf70 hL117 => ?_)
   refine ra agg26 hL117 2 0 [t410_13.v] ?_
   have H := H b35 h117 hb122 (Fr.new (Fr.no' (Fr.r (In []) _) hf69) hb122 hf70) hL117
   refine H.mono fun r54 h118 H => ?_
   obtain ⟨t436_10, t436_11, t436_12, rfl, hL118, H⟩ := H
   refine pop_ext (v := (Value.agg #[(VI t436_10), (VI t436_11)])) rfl ?_
   refine pop_ext (v := (VB t436_12)) rfl ?_
   refine eop_alloc 36 zer36 rfl hL118 (fun b36 h119 hb123 hf71 hL119 => ?_)
   refine ul siz36 hL119 0 0 [(VI t436_10), (VI t436_11)] [(b36, [(VI t436_10), (VI t436_11)]), (b35, [(VI t428_10), (VI t428_11)]), (b34, [(VI t420_10), (VI t420_11)]), (b33, [t410_13.v]), (b27, [(VI s382d), (VI s382e)]), (b26, [(VI s375d), (VI s375e)]), (b25, [s367d.v]), (b1, [s58.v])] (fun h120 hf72 hL120 => ?_)
   refine ra agg26 hL120 3 0 [t410_13.v] ?_
   have H := H b36 h120 hb123 (Fr.new (Fr.no' (Fr.r (In []) _) hf71) hb123 hf72) hL120
   refine H.mono fun r55 h121 H => ?_
   obtain ⟨t444_10, t444_11, t444_12, rfl, hL121, H⟩ := H
   refine pop_ext (v := (Value.agg #[(VI t444_10), (VI t444_11)])) rfl ?_
   refine pop_ext (v := (VB t444_12)) rfl ?_
   refine eop_alloc 36 zer36 rfl hL121 (fun b37 h122 hb124 hf73 hL122 => ?_)
   refine ul siz36 hL122 0 0 [(VI t444_10), (VI t444_11)] [(b37, [(VI t444_10), (VI t444_11)]), (b36, [(VI t436_10), (VI t436_11)]), (b35, [(VI t428_10), (VI t428_11)]), (b34, [(VI t420_10), (VI t420_11)]), (b33, [t410_13.v]), (b27, [(VI s382d), (VI s382e)]), (b26, [(VI s375d), (VI s375e)]), (b25, [s367d.v]), (b1, [s58.v])] (fun h123 hf74 hL123 => ?_)
   refine pop_beq boo4 _ _ t420_12 t428_12 ?_
   refine guardM_st (fun hb125 => ?_) (fun hb125 => ?_)
   rotate_left
   ·have H := H.2 hb125
    refine gm hb125 ?_
    refine gm hb125 ?_
    refine pop_pickf' hb125 ?_
    refine gn ?_
    refine gn ?_
    refine gn ?_
    refine pop_pickf _ _ ?_
    refine gn ?_
    refine gn ?_
    refine gn ?_
    refine pop_pickf _ _ ?_
    have H := H b37 h123 hb124 (Fr.new (Fr.no' (Fr.r (In []) _) hf73) hb124 hf74) hL123
    exact H
   have H := H.1 hb125
   refine ra agg36 hL123 3 0 [(VI t420_10), (VI t420_11)] ?_
   refine gy hb125 ?_
   refine ra agg36 hL123 2 0 [(VI t428_10), (VI t428_11)] ?_
   refine gy hb125 ?_
   refine H.mono fun r56 H => ?_
   obtain ⟨s453d, rfl, H⟩ := H
   refine pop_pickt' hb125 ?_
   refine guardM_st (fun hb126 => ?_) (fun hb126 => ?_)
   rotate_left
   ·have H := H.2 hb126
    refine gm hb126 ?_
    refine gm hb126 ?_
    refine pop_pickf' hb126 ?_
    refine gn ?_
    refine gn ?_
    refine gn ?_
    refine pop_pickf _ _ ?_
    have H := H b37 h123 hb124 (Fr.new (Fr.no' (Fr.r (In []) _) hf73) hb124 hf74) hL123
    exact H
   have H := H.1 hb126
   refine gy hb126 ?_
   refine gy hb126 ?_
   refine pop_beq boo4 _ _ t436_12 t444_12 ?_
   refine pop_pickt' hb126 ?_
   refine guardM_st (fun hb127 => ?_) (fun hb127 => ?_)
   rotate_left
   ·have H := H.2 hb127
    refine gm hb127 ?_
    refine gm hb127 ?_
    refine pop_pickf' hb127 ?_
    have H := H b37 h123 hb124 (Fr.new (Fr.no' (Fr.r (In []) _) hf73) hb124 hf74) hL123
    exact H
   have H := H.1 hb127
   refine ra agg36 hL123 1 0 [(VI t436_10), (VI t436_11)] ?_
   refine gy hb127 ?_
   refine ra agg36 hL123 0 0 [(VI t444_10), (VI t444_11)] ?_
   refine gy hb127 ?_
   refine H.mono fun r57 H => ?_
   obtain ⟨s463d, rfl, H⟩ := H
   refine pop_pickt' hb127 ?_
   have H := H b37 h123 hb124 (Fr.new (Fr.no' (Fr.r (In []) _) hf73) hb124 hf74) hL123
   exact H
  have H := H.1 hb109
  refine pop_field 0 fld36_0 b26 0 ?_
  refine gy hb109 ?_
  refine rl one3 hL93 1 0 (VI s375d) ?_
  refine gy hb109 ?_
  refine pop_lss .i64 s375d 1 ?_
  refine gy hb109 ?_
  refine guardM_sf (fun hb110 => ?_) (fun hb110 => ?_)
  rotate_left
  ·have H := H.1 hb110
   refine gm hb110 ?_
   refine gm hb110 ?_
   refine gm hb110 ?_
   refine gm hb110 ?_
   refine gy hb109 ?_
   refine pop_pickt' hb110 ?_
   refine gy hb108 ?_
   refine pop_pickt' hb109 ?_
   refine pop_pickf' hb108 ?_
   refine condM_t ?_
   have H := H b27 h93 hb106 (Fr.new (Fr.no' (Fr.r (In []) _) hf53) hb106 hf54) hL93
   exact H
  have H := H.2 hb110
  refine pop_field 0 fld36_0 b26 0 ?_
  refine gy hb110 ?_
  refine rl one3 hL93 1 0 (VI s375d) ?_
  refine gy hb110 ?_
  refine pop_field 1 fld36_1 b26 0 ?_
  refine gy hb110 ?_
  refine rl one3 hL93 1 1 (VI s375e) ?_
  refine gy hb110 ?_
  refine pop_gtr .i64 s375d s375e ?_
  refine gy hb109 ?_
  refine pop_pickf' hb110 ?_
  refine gy hb108 ?_
  refine pop_pickt' hb109 ?_
  refine pop_pickf' hb108 ?_
  refine condM_b (fun hb111 => ?_) (fun hb111 => ?_)
  ·have H := H.1 hb111
   have H := H b27 h93 hb106 (Fr.new (Fr.no' (Fr.r (In []) _) hf53) hb106 hf54) hL93
   exact H
  have H := H.2 hb111
  have H := H b27 h93 hb106 (Fr.new (Fr.no' (Fr.r (In []) _) hf53) hb106 hf54) hL93
  refine H.mono fun r44 h94 H => ?_
  obtain ⟨s410i, t410_10, t410_11, t410_12, rfl, hL94, H⟩ := H
  refine pop_ext (v := (Value.agg #[s410i.v])) rfl ?_
  refine pop_ext (v := (VI t410_10)) rfl ?_
  refine pop_ext (v := (VI t410_11)) rfl ?_
  refine pop_ext (v := (VI t410_12)) rfl ?_
  refine eop_alloc 26 zer26 rfl hL94 (fun b28 h95 hb112 hf55 hL95 => ?_)
  refine ul siz26 hL95 0 0 [s410i.v] [(b28, [s410i.v]), (b27, [(VI s382d), (VI s382e)]), (b26, [(VI s375d), (VI s375e)]), (b25, [s367d.v]), (b1, [s58.v])] (fun h96 hf56 hL96 => ?_)
  refine ra agg26 hL96 0 0 [s410i.v] ?_
  have H := H b28 h96 hb112 (Fr.new (Fr.no' (Fr.r (In []) _) hf55) hb112 hf56) hL96
  refine H.mono fun r45 h97 H => ?_
  obtain ⟨s420g, s420h, s420i, rfl, hL97, H⟩ := H
  refine pop_ext (v := (Value.agg #[(VI s420g), (VI s420h)])) rfl ?_
  refine pop_ext (v := (VB s420i)) rfl ?_
  refine eop_alloc 36 zer36 rfl hL97 (fun b29 h98 hb113 hf57 hL98 => ?_)
  refine ul siz36 hL98 0 0 [(VI s420g), (VI s420h)] [(b29, [(VI s420g), (VI s420h)]), (b28, [s410i.v]), (b27, [(VI s382d), (VI s382e)]), (b26, [(VI s375d), (VI s375e)]), (b25, [s367d.v]), (b1, [s58.v])] (fun h99 hf58 hL99 => ?_)
  refine ra agg26 hL99 1 0 [s410i.v] ?_
  have H := H b29 h99 hb113 (Fr.new (Fr.no' (Fr.r (In []) _) hf57) hb113 hf58) hL99
  refine H.mono fun r46 h100 H => ?_
  obtain ⟨s428g, s428h, s428i, rfl, hL100, H⟩ := H
  refine pop_ext (v := (Value.agg #[(VI s428g), (VI s428h)])) rfl ?_
  refine pop_ext (v := (VB s428i)) rfl ?_
  refine eop_alloc 36 zer36 rfl hL100 (fun b30 h101 hb114 hf59 hL101 => ?_)
  refine ul siz36 hL101 0 0 [(VI s428g), (VI s428h)] [(b30, [(VI s428g), (VI s428h)]), (b29, [(VI s420g), (VI s420h)]), (b28, [s410i.v]), (b27, [(VI s382d), (VI s382e)]), (b26, [(VI s375d), (VI s375e)]), (b25, [s367d.v]), (b1, [s58.v])] (fun h102 hf60 hL102 => ?_)
  refine ra agg26 hL102 2 0 [s410i.v] ?_
  have H := H b30 h102 hb114 (Fr.new (Fr.no' (Fr.r (In []) _) hf59) hb114 hf60) hL102
  refine H.mono fun r47 h103 H => ?_
  obtain ⟨s436g, s436h, s436i, rfl, hL103, H⟩ := H
  refine pop_ext (v := (Value.agg #[(VI s436g), (VI s436h)])) rfl ?_
  refine pop_ext (v := (VB s436i)) rfl ?_
  refine eop_alloc 36 zer36 rfl hL103 (fun b31 h104 hb115 hf61 hL104 => ?_)
  refine ul siz36 hL104 0 0 [(VI s436g), (VI s436h)] [(b31, [(VI s436g), (VI s436h)]), (b30, [(VI s428g), (VI s428h)]), (b29, [(VI s420g), (VI s420h)]), (b28, [s410i.v]), (b27, [(VI s382d), (VI s382e)]), (b26, [(VI s375d), (VI s375e)]), (b25, [s367d.v]), (b1, [s58.v])] (fun h105 hf62 hL105 => ?_)
  refine ra agg26 hL105 3 0 [s410i.v] ?_
  have H := H b31 h105 hb115 (Fr.new (Fr.no' (Fr.r (In []) _) hf61) hb115 hf62) hL105
  refine H.mono fun r48 h106 H => ?_
  obtain ⟨s444g, s444h, s444i, rfl, hL106, H⟩ := H
  refine pop_ext (v := (Value.agg #[(VI s444g), (VI s444h)])) rfl ?_
  refine pop_ext (v := (VB s444i)) rfl ?_
  refine eop_alloc 36 zer36 rfl hL106 (fun b32 h107 hb116 hf63 hL107 => ?_)
  refine ul siz36 hL107 0 0 [(VI s444g), (VI s444h)] [(b32, [(VI s444g), (VI s444h)]), (b31, [(VI s436g), (VI s436h)]), (b30, [(VI s428g), (VI s428h)]), (b29, [(VI s420g), (VI s420h)]), (b28, [s410i.v]), (b27, [(VI s382d), (VI s382e)]), (b26, [(VI s375d), (VI s375e)]), (b25, [s367d.v]), (b1, [s58.v])] (fun h108 hf64 hL108 => ?_)
  refine pop_beq boo4 _ _ s420i s428i ?_
  refine guardM_st (fun hb117 => ?_) (fun hb117 => ?_)
  rotate_left
  ·have H := H.2 hb117
   refine gm hb117 ?_
   refine gm hb117 ?_
   refine pop_pickf' hb117 ?_
   refine gn ?_
   refine gn ?_
   refine gn ?_
   refine pop_pickf _ _ ?_
   refine gn ?_
   refine gn ?_
   refine gn ?_
   refine pop_pickf _ _ ?_
   have H := H b32 h108 hb116 (Fr.new (Fr.no' (Fr.r (In []) _) hf63) hb116 hf64) hL108
   exact H
  have H := H.1 hb117
  refine ra agg36 hL108 3 0 [(VI s420g), (VI s420h)] ?_
  refine gy hb117 ?_
  refine ra agg36 hL108 2 0 [(VI s428g), (VI s428h)] ?_
  refine gy hb117 ?_
  refine H.mono fun r49 H => ?_
  obtain ⟨s453c, rfl, H⟩ := H
  refine pop_pickt' hb117 ?_
  refine guardM_st (fun hb118 => ?_) (fun hb118 => ?_)
  rotate_left
  ·have H := H.2 hb118
   refine gm hb118 ?_
   refine gm hb118 ?_
   refine pop_pickf' hb118 ?_
   refine gn ?_
   refine gn ?_
   refine gn ?_
   refine pop_pickf _ _ ?_
   have H := H b32 h108 hb116 (Fr.new (Fr.no' (Fr.r (In []) _) hf63) hb116 hf64) hL108
   exact H
  have H := H.1 hb118
  refine gy hb118 ?_
  refine gy hb118 ?_
  refine pop_beq boo4 _ _ s436i s444i ?_
  refine pop_pickt' hb118 ?_
  refine guardM_st (fun hb119 => ?_) (fun hb119 => ?_)
  rotate_left
  ·have H := H.2 hb119
   refine gm hb119 ?_
   refine gm hb119 ?_
   refine pop_pickf' hb119 ?_
   have H := H b32 h108 hb116 (Fr.new (Fr.no' (Fr.r (In []) _) hf63) hb116 hf64) hL108
   exact H
  have H := H.1 hb119
  refine ra agg36 hL108 1 0 [(VI s436g), (VI s436h)] ?_
  refine gy hb119 ?_
  refine ra agg36 hL108 0 0 [(VI s444g), (VI s444h)] ?_
  refine gy hb119 ?_
  refine H.mono fun r50 H => ?_
  obtain ⟨s463c, rfl, H⟩ := H
  refine pop_pickt' hb119 ?_
  have H := H b32 h108 hb116 (Fr.new (Fr.no' (Fr.r (In []) _) hf63) hb116 hf64) hL108
  exact H
def u6 (P : Program) (code0_1 : Sl) (more1_1 : Sl) (h : Heap) (K : Value -> Heap -> Prop) : Prop :=
 ((decide (1048576 < (code0_1.n : Int))) = true ->
 K (VB true) h) /\
 ((decide (1048576 < (code0_1.n : Int))) = false ->
 K (VB (decide ((w64 (1048576 - (code0_1.n : Int))) < (more1_1.n : Int)))) h)
theorem v6 (code0_1 : Sl) (more1_1 : Sl) (h : Heap) (K : Value -> Heap -> Prop) (H : u6 Try.prog code0_1 more1_1 h K) : callM Try.prog 6 #[code0_1.v, more1_1.v] h K := by
  refine c6 code0_1.v more1_1.v h K ?_
  unfold u6 at H
  unfold t6
  have hL : Vars h [] := .nil
  refine pop_len code0_1 _ _ sli22 ?_
  refine pop_gtr .i64 (code0_1.n : Int) 1048576 ?_
  refine guardM_sf (fun hb1 => ?_) (fun hb1 => ?_)
  rotate_left
  ·have H := H.1 hb1
   refine gm hb1 ?_
   refine gm hb1 ?_
   refine gm hb1 ?_
   refine gm hb1 ?_
   refine gm hb1 ?_
   refine pop_pickt' hb1 ?_
   exact H
  have H := H.2 hb1
  refine gy hb1 ?_
  refine pop_len more1_1 _ _ sli22 ?_
  refine gy hb1 ?_
  refine gy hb1 ?_
  refine pop_len code0_1 _ _ sli22 ?_
  refine gy hb1 ?_
  refine pop_sub .i64 1048576 (code0_1.n : Int) ?_
  refine gy hb1 ?_
  refine pop_gtr .i64 (more1_1.n : Int) (w64 (1048576 - (code0_1.n : Int))) ?_
  refine pop_pickf' hb1 ?_
  exact H
def u7 (P : Program) (code0_1 : Sl) (h : Heap) (K : Value -> Heap -> Prop) : Prop :=
 ∀ (b1 : Nat) (b2 : Nat) (h2 : Heap), h.size ≤ b1 -> h.size ≤ b2 -> Fr (In []) h h2 -> Vars h2 [(b2, [code0_1.v, (VI 0), (Value.int .u64 0)]), (b1, [nilSl.v])] ->
 callM P 57 #[(VP b2 0)] h2 fun r1 h3 => ∃ y1 : Sl, ∃ y2 : Int, ∃ y3 : Int, ∃ s10 : Sl, ∃ s10b : Int, ∃ s10c : Int, r1 = (.tuple #[(.agg #[s10.v]), (VI s10b), (VI s10c)]) /\ Vars h3 [(b2, [y1.v, (VI y2), (Value.int .u64 y3)]), (b1, [nilSl.v])] /\
 ∀ (h4 : Heap), Fr (In [b1]) h3 h4 -> Vars h4 [(b2, [y1.v, (VI y2), (Value.int .u64 y3)]), (b1, [s10.v])] ->
 K (.tuple #[(.agg #[s10.v]), (VI s10b), (VI s10c)]) h4
theorem v7 (code0_1 : Sl) (h : Heap) (K : Value -> Heap -> Prop) (H : u7 Try.prog code0_1 h K) : callM Try.prog 7 #[code0_1.v] h K := by
  refine c7 code0_1.v h K ?_
  unfold u7 at H
  unfold t7
  have hL : Vars h [] := .nil
  refine eop_alloc 26 zer26 rfl hL (fun b1 h1 hb1 hf1 hL1 => ?_)
  refine pop.mk' (v := (Value.agg #[code0_1.v, (VI 0), (Value.int .u64 0)])) (fun w => by kernel_rfl) ?_
  refine eop_box 69 (Value.agg #[code0_1.v, (VI 0), (Value.int .u64 0)]) rfl hL1 (fun b2 h2 hb2 hf2 hL2 => ?_)
  have H := H b1 b2 h2 hb1 (Nat.le_trans (Fr.size (Fr.no' (Fr.r (In []) _) hf1)) hb2) (Fr.no' (Fr.no' (Fr.r (In []) _) hf1) hf2) hL2
  refine H.mono fun r1 h3 H => ?_
  obtain ⟨y1, y2, y3, s10, s10b, s10c, rfl, hL3, H⟩ := H
  refine pop_ext (v := (Value.agg #[s10.v])) rfl ?_
  refine pop_ext (v := (VI s10b)) rfl ?_
  refine pop_ext (v := (VI s10c)) rfl ?_
  refine ul siz26 hL3 1 0 [s10.v] [(b2, [y1.v, (VI y2), (Value.int .u64 y3)]), (b1, [s10.v])] (fun h4 hf3 hL4 => ?_)
  refine ra agg26 hL4 1 0 [s10.v] ?_
  have H := H  h4  (Fr.old (Fr.r (In []) _) hf3) hL4
  exact H
def u8 (P : Program) (g0_1 : Sl) (a1_1 : Int) (b2_1 : Int) (h : Heap) (K : Value -> Heap -> Prop) : Prop :=
 ∀ (b1 : Nat) (h1 : Heap), h.size ≤ b1 -> Fr (In []) h h1 -> Vars h1 [(b1, [g0_1.v])] ->
 callM P 58 #[(.agg #[g0_1.v]), (VI a1_1), (VI b2_1)] h1 fun r1 h2 => ∃ s16 : Bool, r1 = (VB s16) /\ Vars h2 [(b1, [g0_1.v])] /\
 ((!s16) = true ->
 K (.tuple #[nilSl.v, (VB false)]) h2) /\
 ((!s16) = false ->
 eop P (Instr.buildSlice 29 0 #[]) h2 fun r2 h3 => ∃ s18 : Sl, r2 = s18.v /\ Vars h3 [(b1, [g0_1.v])] /\
 callM P 59 #[(.agg #[g0_1.v]), (VI a1_1), (VI b2_1)] h3 fun r3 h4 => ∃ s23 : Sl, ∃ s23b : Int, r3 = (.tuple #[s23.v, (VI s23b)]) /\ Vars h4 [(b1, [g0_1.v])] /\
 ∃ J1 : Nat -> Sl -> Int -> Heap -> Prop, (∃ n0 : Nat, J1 n0 s18 0 h4) /\
 ∀ (n1 : Nat) (out8_1 : Sl) (s28 : Int) (h5 : Heap), J1 n1 out8_1 s28 h5 -> Vars h5 [(b1, [g0_1.v])] ->
 ((decide (s28 < (s23.n : Int))) = true ->
 InB s23 s28 /\
 ∃ s31 : Int, hcell h5 (Sl.at s23 s28 1) = some (VI s31) /\
 callM P 60 #[(VI s31), (VI s23b)] h5 fun r4 h6 => ∃ s35 : Int, ∃ s35b : Int, r4 = (.agg #[(VI s35), (VI s35b)]) /\ Vars h6 [(b1, [g0_1.v])] /\
 eop P (Instr.buildSlice 29 1 #[(0, (.agg #[(VI s35), (VI s35b)]))]) h6 fun r5 h7 => ∃ s36 : Sl, r5 = s36.v /\ Vars h7 [(b1, [g0_1.v])] /\
 eop P (appS 29 29 29 out8_1.v s36.v) h7 fun r6 h8 => ∃ s37 : Sl, r6 = s37.v /\ Vars h8 [(b1, [g0_1.v])] /\
 ∃ m : Nat, m < n1 /\ J1 m s37 (w64 (s28 + 1)) h8) /\
 ((decide (s28 < (s23.n : Int))) = false ->
 K (.tuple #[out8_1.v, (VB true)]) h5))
theorem v8 (g0_1 : Sl) (a1_1 : Int) (b2_1 : Int) (h : Heap) (K : Value -> Heap -> Prop) (H : u8 Try.prog g0_1 a1_1 b2_1 h K) : callM Try.prog 8 #[(Value.agg #[g0_1.v]), (VI a1_1), (VI b2_1)] h K := by
  refine c8 (Value.agg #[g0_1.v]) (VI a1_1) (VI b2_1) h K ?_
  unfold u8 at H
  unfold t8
  have hL : Vars h [] := .nil
  refine eop_box 26 (Value.agg #[g0_1.v]) rfl hL (fun b1 h1 hb1 hf1 hL1 => ?_)
  refine ra agg26 hL1 0 0 [g0_1.v] ?_
  have H := H b1 h1 hb1 (Fr.no' (Fr.r (In []) _) hf1) hL1
  refine H.mono fun r1 h2 H => ?_
  obtain ⟨s16, rfl, hL2, H⟩ := H
  refine pop_not s16 ?_
  refine condM_b (fun hb2 => ?_) (fun hb2 => ?_)
  ·exact H.1 hb2
  have H := H.2 hb2
  refine H.mono fun r2 h3 H => ?_
  obtain ⟨s18, rfl, hL3, H⟩ := H
  refine ra agg26 hL3 0 0 [g0_1.v] ?_
  refine H.mono fun r3 h4 H => ?_
  obtain ⟨s23, s23b, rfl, hL4, H⟩ := H
  refine pop_ext (v := s23.v) rfl ?_
  refine pop_ext (v := (VI s23b)) rfl ?_
  refine pop_len s23 _ _ sli37 ?_
  obtain ⟨J1, ⟨n2, h0_1⟩, HB1⟩ := H
  refine loop_intro (J := fun (n : Nat) (vs : List Value) (h' : Heap) => ∃ out8_1 : Sl, ∃ s28 : Int, vs = [out8_1.v, (VI s28)] /\ J1 n out8_1 s28 h' /\ Vars h' [(b1, [g0_1.v])]) n2 ⟨s18, 0, rfl, h0_1, hL4⟩ ?_
  intro I1 mu1 hI1 junk1 tv1 tv2 h5 hi1
  obtain ⟨n1, ⟨out8_1, s28, hv, hJ1, hL5⟩, hn1⟩ := hI1 _ _ hi1
  cases hv
  have H := HB1 n1 out8_1 s28 h5 hJ1 hL5
  refine pop_lss .i64 s28 (s23.n : Int) ?_
  refine condM_b (fun hb3 => ?_) (fun hb3 => ?_)
  rotate_left
  ·exact H.2 hb3
  have H := H.1 hb3
  obtain ⟨hi2, H⟩ := H
  refine pop_index sli37 siz3 .i64 s23 s28 hi2 ?_
  obtain ⟨s31, hc1, H⟩ := H
  refine rop_one one3 (VI s31) hc1 ?_
  refine H.mono fun r4 h6 H => ?_
  obtain ⟨s35, s35b, rfl, hL6, H⟩ := H
  refine H.mono fun r5 h7 H => ?_
  obtain ⟨s36, rfl, hL7, H⟩ := H
  refine H.mono fun r6 h8 H => ?_
  obtain ⟨s37, rfl, hL8, H⟩ := H
  refine pop_add .i64 s28 1 ?_
  obtain ⟨m_1, hm_1, H⟩ := H
  exact hn1 _ _ ⟨m_1, hm_1, s37, (w64 (s28 + 1)), rfl, H, hL8⟩
def u9 (P : Program) (g0_1 : Sl) (a1_1 : Int) (b2_1 : Int) (h : Heap) (K : Value -> Heap -> Prop) : Prop :=
 ∀ (b1 : Nat) (h1 : Heap), h.size ≤ b1 -> Fr (In []) h h1 -> Vars h1 [(b1, [g0_1.v])] ->
 callM P 61 #[(.agg #[g0_1.v]), (VI a1_1), (VI b2_1)] h1 fun r1 h2 => ∃ s11 : Bool, r1 = (VB s11) /\ Vars h2 [(b1, [g0_1.v])] /\
 ((!s11) = true ->
 K (.tuple #[nilSl.v, (VB false)]) h2) /\
 ((!s11) = false ->
 callM P 62 #[(.agg #[g0_1.v]), (VI a1_1), (VI b2_1)] h2 fun r2 h3 => ∃ s16 : Sl, r2 = s16.v /\ Vars h3 [(b1, [g0_1.v])] /\
 K (.tuple #[s16.v, (VB true)]) h3)
theorem v9 (g0_1 : Sl) (a1_1 : Int) (b2_1 : Int) (h : Heap) (K : Value -> Heap -> Prop) (H : u9 Try.prog g0_1 a1_1 b2_1 h K) : callM Try.prog 9 #[(Value.agg #[g0_1.v]), (VI a1_1), (VI b2_1)] h K := by
  refine c9 (Value.agg #[g0_1.v]) (VI a1_1) (VI b2_1) h K ?_
  unfold u9 at H
  unfold t9
  have hL : Vars h [] := .nil
  refine eop_box 26 (Value.agg #[g0_1.v]) rfl hL (fun b1 h1 hb1 hf1 hL1 => ?_)
  refine ra agg26 hL1 0 0 [g0_1.v] ?_
  have H := H b1 h1 hb1 (Fr.no' (Fr.r (In []) _) hf1) hL1
  refine H.mono fun r1 h2 H => ?_
  obtain ⟨s11, rfl, hL2, H⟩ := H
  refine pop_not s11 ?_
  refine condM_b (fun hb2 => ?_) (fun hb2 => ?_)
  ·exact H.1 hb2
  have H := H.2 hb2
  refine ra agg26 hL2 0 0 [g0_1.v] ?_
  refine H.mono fun r2 h3 H => ?_
  obtain ⟨s16, rfl, hL3, H⟩ := H
  exact H
def u10 (P : Program) (g0_1 : Sl) (a1_1 : Int) (b2_1 : Int) (h : Heap) (K : Value -> Heap -> Prop) : Prop :=
 ∀ (b1 : Nat) (h1 : Heap), h.size ≤ b1 -> Fr (In []) h h1 -> Vars h1 [(b1, [g0_1.v])] ->
 eop P (Instr.buildSlice 37 2 #[(0, (VI a1_1)), (1, (VI b2_1))]) h1 fun r1 h2 => ∃ s11 : Sl, r1 = s11.v /\ Vars h2 [(b1, [g0_1.v])] /\
 callM P 63 #[(.agg #[g0_1.v]), s11.v] h2 fun r2 h3 => ∃ s12 : Bool, r2 = (VB s12) /\ Vars h3 [(b1, [g0_1.v])] /\
 ((!s12) = true ->
 K (.tuple #[(VB false), (VB false)]) h3) /\
 ((!s12) = false ->
 ((decide (a1_1 = b2_1)) = true ->
 K (.tuple #[(VB false), (VB false)]) h3) /\
 ((decide (a1_1 = b2_1)) = false ->
 callM P 58 #[(.agg #[g0_1.v]), (VI a1_1), (VI b2_1)] h3 fun r3 h4 => ∃ s22 : Bool, r3 = (VB s22) /\ Vars h4 [(b1, [g0_1.v])] /\
 K (.tuple #[(VB s22), (VB true)]) h4))
theorem v10 (g0_1 : Sl) (a1_1 : Int) (b2_1 : Int) (h : Heap) (K : Value -> Heap -> Prop) (H : u10 Try.prog g0_1 a1_1 b2_1 h K) : callM Try.prog 10 #[(Value.agg #[g0_1.v]), (VI a1_1), (VI b2_1)] h K := by
  refine c10 (Value.agg #[g0_1.v]) (VI a1_1) (VI b2_1) h K ?_
  unfold u10 at H
  unfold t10
  have hL : Vars h [] := .nil
  refine eop_box 26 (Value.agg #[g0_1.v]) rfl hL (fun b1 h1 hb1 hf1 hL1 => ?_)
  refine ra agg26 hL1 0 0 [g0_1.v] ?_
  have H := H b1 h1 hb1 (Fr.no' (Fr.r (In []) _) hf1) hL1
  refine H.mono fun r1 h2 H => ?_
  obtain ⟨s11, rfl, hL2, H⟩ := H
  refine H.mono fun r2 h3 H => ?_
  obtain ⟨s12, rfl, hL3, H⟩ := H
  refine pop_not s12 ?_
  refine guardM_sf (fun hb2 => ?_) (fun hb2 => ?_)
  rotate_left
  ·have H := H.1 hb2
   refine gm hb2 ?_
   refine gm hb2 ?_
   refine pop_pickt' hb2 ?_
   refine condM_t ?_
   exact H
  have H := H.2 hb2
  refine gy hb2 ?_
  refine gy hb2 ?_
  refine pop_ieq .i64 _ _ a1_1 b2_1 ?_
  refine pop_pickf' hb2 ?_
  refine condM_b (fun hb3 => ?_) (fun hb3 => ?_)
  ·exact H.1 hb3
  have H := H.2 hb3
  refine ra agg26 hL3 0 0 [g0_1.v] ?_
  refine H.mono fun r3 h4 H => ?_
  obtain ⟨s22, rfl, hL4, H⟩ := H
  exact H
def u11 (P : Program) (g0_1 : Sl) (a1_1 : Int) (b2_1 : Int) (h : Heap) (K : Value -> Heap -> Prop) : Prop :=
 ∀ (b1 : Nat) (h1 : Heap), h.size ≤ b1 -> Fr (In []) h h1 -> Vars h1 [(b1, [g0_1.v])] ->
 callM P 64 #[(.agg #[g0_1.v]), (VI a1_1), (VI b2_1)] h1 fun r1 h2 => ∃ s11 : Bool, r1 = (VB s11) /\ Vars h2 [(b1, [g0_1.v])] /\
 ((!s11) = true ->
 K (.tuple #[(VB false), (VB false)]) h2) /\
 ((!s11) = false ->
 callM P 65 #[(.agg #[g0_1.v]), (VI a1_1), (VI b2_1)] h2 fun r2 h3 => ∃ s16 : Bool, r2 = (VB s16) /\ Vars h3 [(b1, [g0_1.v])] /\
 K (.tuple #[(VB s16), (VB true)]) h3)
theorem v11 (g0_1 : Sl) (a1_1 : Int) (b2_1 : Int) (h : Heap) (K : Value -> Heap -> Prop) (H : u11 Try.prog g0_1 a1_1 b2_1 h K) : callM Try.prog 11 #[(Value.agg #[g0_1.v]), (VI a1_1), (VI b2_1)] h K := by
  refine c11 (Value.agg #[g0_1.v]) (VI a1_1) (VI b2_1) h K ?_
  unfold u11 at H
  unfold t11
  have hL : Vars h [] := .nil
  refine eop_box 26 (Value.agg #[g0_1.v]) rfl hL (fun b1 h1 hb1 hf1 hL1 => ?_)
  refine ra agg26 hL1 0 0 [g0_1.v] ?_
  have H := H b1 h1 hb1 (Fr.no' (Fr.r (In []) _) hf1) hL1
  refine H.mono fun r1 h2 H => ?_
  obtain ⟨s11, rfl, hL2, H⟩ := H
  refine pop_not s11 ?_
  refine condM_b (fun hb2 => ?_) (fun hb2 => ?_)
  ·exact H.1 hb2
  have H := H.2 hb2
  refine ra agg26 hL2 0 0 [g0_1.v] ?_
  refine H.mono fun r2 h3 H => ?_
  obtain ⟨s16, rfl, hL3, H⟩ := H
  exact H
def u12 (P : Program) (a0_1 : Sl) (b1_1 : Sl) (h : Heap) (K : Value -> Heap -> Prop) : Prop :=
 ((!decide ((a0_1.n : Int) = (b1_1.n : Int))) = true ->
 K (VB false) h) /\
 ((!decide ((a0_1.n : Int) = (b1_1.n : Int))) = false ->
 ∃ J1 : Nat -> Int -> Heap -> Prop, (∃ n0 : Nat, J1 n0 0 h) /\
 ∀ (n1 : Nat) (s13 : Int) (h1 : Heap), J1 n1 s13 h1 -> Vars h1 [] ->
 ((decide (s13 < (a0_1.n : Int))) = true ->
 InB a0_1 s13 /\
 ∃ s19 : Int, ∃ s19b : Int, CellsAt h1 (Sl.at a0_1 s13 2) [(VI s19), (VI s19b)] /\
 InB b1_1 s13 /\
 ∃ s23 : Int, ∃ s23b : Int, CellsAt h1 (Sl.at b1_1 s13 2) [(VI s23), (VI s23b)] /\
 pop P (binE .neq 36 (.tmp 19) (.tmp 23) (.agg #[(VI s19), (VI s19b)]) (.agg #[(VI s23), (VI s23b)])) fun r1 => ∃ s24 : Bool, r1 = (VB s24) /\ 
 (s24 = true ->
 K (VB false) h1) /\
 (s24 = false ->
 ∃ m : Nat, m < n1 /\ J1 m (w64 (s13 + 1)) h1)) /\
 ((decide (s13 < (a0_1.n : Int))) = false ->
 K (VB true) h1))
theorem v12 (a0_1 : Sl) (b1_1 : Sl) (h : Heap) (K : Value -> Heap -> Prop) (H : u12 Try.prog a0_1 b1_1 h K) : callM Try.prog 12 #[a0_1.v, b1_1.v] h K := by
  refine c12 a0_1.v b1_1.v h K ?_
  unfold u12 at H
  unfold t12
  have hL : Vars h [] := .nil
  refine pop_len a0_1 _ _ sli29 ?_
  refine pop_len b1_1 _ _ sli29 ?_
  refine pop_ine .i64 _ _ (a0_1.n : Int) (b1_1.n : Int) ?_
  refine condM_b (fun hb1 => ?_) (fun hb1 => ?_)
  ·exact H.1 hb1
  have H := H.2 hb1
  refine pop_len a0_1 _ _ sli29 ?_
  obtain ⟨J1, ⟨n2, h0_1⟩, HB1⟩ := H
  refine loop_intro (J := fun (n : Nat) (vs : List Value) (h' : Heap) => ∃ s13 : Int, vs = [(VI s13)] /\ J1 n s13 h' /\ Vars h' []) n2 ⟨0, rfl, h0_1, hL⟩ ?_
  intro I1 mu1 hI1 junk1 tv1 h1 hi1
  obtain ⟨n1, ⟨s13, hv, hJ1, hL1⟩, hn1⟩ := hI1 _ _ hi1
  cases hv
  have H := HB1 n1 s13 h1 hJ1 hL1
  refine pop_lss .i64 s13 (a0_1.n : Int) ?_
  refine condM_b (fun hb2 => ?_) (fun hb2 => ?_)
  rotate_left
  ·exact H.2 hb2
  have H := H.1 hb2
  obtain ⟨hi2, H⟩ := H
  refine pop_index sli29 siz36 .i64 a0_1 s13 hi2 ?_
  obtain ⟨s19, s19b, hc2, H⟩ := H
  refine rop_agg agg36 [(VI s19), (VI s19b)] rfl hc2 ?_
  obtain ⟨hi3, H⟩ := H
  refine pop_index sli29 siz36 .i64 b1_1 s13 hi3 ?_
  obtain ⟨s23, s23b, hc1, H⟩ := H
  refine rop_agg agg36 [(VI s23), (VI s23b)] rfl hc1 ?_
  refine H.mono fun r1 H => ?_
  obtain ⟨s24, rfl, H⟩ := H
  refine condM_b (fun hb3 => ?_) (fun hb3 => ?_)
  ·exact H.1 hb3
  have H := H.2 hb3
  refine pop_add .i64 s13 1 ?_
  obtain ⟨m_1, hm_1, H⟩ := H
  exact hn1 _ _ ⟨m_1, hm_1, (w64 (s13 + 1)), rfl, H, hL1⟩
def u13 (P : Program) (g0_1 : Sl) (p1_1 : Int) (a2_1 : Int) (b3_1 : Int) (h : Heap) (K : Value -> Heap -> Prop) : Prop :=
 ∀ (b1 : Nat) (b2 : Nat) (h2 : Heap), h.size ≤ b1 -> h.size ≤ b2 -> Fr (In []) h h2 -> Vars h2 [(b2, [(VI 0), (VI 0)]), (b1, [g0_1.v])] ->
 callM P 58 #[(.agg #[g0_1.v]), (VI a2_1), (VI b3_1)] h2 fun r1 h3 => ∃ s15 : Bool, r1 = (VB s15) /\ Vars h3 [(b2, [(VI 0), (VI 0)]), (b1, [g0_1.v])] /\
 ((!s15) = true ->
 ∀ (h10 : Heap), Fr (In [b2]) h3 h10 -> Vars h10 [(b2, [(VI 0), (VI 0)]), (b1, [g0_1.v])] ->
 K (.tuple #[(.agg #[(VI 0), (VI 0)]), (VB false)]) h10) /\
 ((!s15) = false ->
 eop P (Instr.buildSlice 37 1 #[(0, (VI p1_1))]) h3 fun r2 h4 => ∃ s20 : Sl, r2 = s20.v /\ Vars h4 [(b2, [(VI 0), (VI 0)]), (b1, [g0_1.v])] /\
 callM P 63 #[(.agg #[g0_1.v]), s20.v] h4 fun r3 h5 => ∃ s21 : Bool, r3 = (VB s21) /\ Vars h5 [(b2, [(VI 0), (VI 0)]), (b1, [g0_1.v])] /\
 ((!s21) = true ->
 ∀ (h6 : Heap), Fr (In [b2]) h5 h6 -> Vars h6 [(b2, [(VI 0), (VI 0)]), (b1, [g0_1.v])] ->
 K (.tuple #[(.agg #[(VI 0), (VI 0)]), (VB false)]) h6) /\
 ((!s21) = false ->
 callM P 59 #[(.agg #[g0_1.v]), (VI a2_1), (VI b3_1)] h5 fun r4 h7 => ∃ s29 : Sl, ∃ s29b : Int, r4 = (.tuple #[s29.v, (VI s29b)]) /\ Vars h7 [(b2, [(VI 0), (VI 0)]), (b1, [g0_1.v])] /\
 InB s29 p1_1 /\
 ∃ s35 : Int, hcell h7 (Sl.at s29 p1_1 1) = some (VI s35) /\
 callM P 60 #[(VI s35), (VI s29b)] h7 fun r5 h8 => ∃ s37 : Int, ∃ s37b : Int, r5 = (.agg #[(VI s37), (VI s37b)]) /\ Vars h8 [(b2, [(VI 0), (VI 0)]), (b1, [g0_1.v])] /\
 ∀ (h9 : Heap), Fr (In [b2]) h8 h9 -> Vars h9 [(b2, [(VI s37), (VI s37b)]), (b1, [g0_1.v])] ->
 K (.tuple #[(.agg #[(VI s37), (VI s37b)]), (VB true)]) h9))
theorem v13 (g0_1 : Sl) (p1_1 : Int) (a2_1 : Int) (b3_1 : Int) (h : Heap) (K : Value -> Heap -> Prop) (H : u13 Try.prog g0_1 p1_1 a2_1 b3_1 h K) : callM Try.prog 13 #[(Value.agg #[g0_1.v]), (VI p1_1), (VI a2_1), (VI b3_1)] h K := by
  refine c13 (Value.agg #[g0_1.v]) (VI p1_1) (VI a2_1) (VI b3_1) h K ?_
  unfold u13 at H
  unfold t13
  have hL : Vars h [] := .nil
  refine eop_box 26 (Value.agg #[g0_1.v]) rfl hL (fun b1 h1 hb1 hf1 hL1 => ?_)
  refine eop_alloc 36 zer36 rfl hL1 (fun b2 h2 hb2 hf2 hL2 => ?_)
  refine ra agg26 hL2 1 0 [g0_1.v] ?_
  have H := H b1 b2 h2 hb1 (Nat.le_trans (Fr.size (Fr.no' (Fr.r (In []) _) hf1)) hb2) (Fr.no' (Fr.no' (Fr.r (In []) _) hf1) hf2) hL2
  refine H.mono fun r1 h3 H => ?_
  obtain ⟨s15, rfl, hL3, H⟩ := H
  refine pop_not s15 ?_
  refine guardM_sf (fun hb3 => ?_) (fun hb3 => ?_)
  rotate_left
  ·have H := H.1 hb3
   refine gm hb3 ?_
   refine gm hb3 ?_
   refine gm hb3 ?_
   refine gm hb3 ?_
   refine pop_pickt' hb3 ?_
   refine condM_t ?_
   refine pop.mk' (v := (Value.agg #[(VI 0), (VI 0)])) (fun w => by kernel_rfl) ?_
   refine ul siz36 hL3 0 0 [(VI 0), (VI 0)] [(b2, [(VI 0), (VI 0)]), (b1, [g0_1.v])] (fun h10 hf5 hL10 => ?_)
   refine ra agg36 hL10 0 0 [(VI 0), (VI 0)] ?_
   have H := H  h10  (Fr.old (Fr.r (In []) _) hf5) hL10
   exact H
  have H := H.2 hb3
  refine ra agg26 hL3 1 0 [g0_1.v] ?_
  refine gy hb3 ?_
  refine gy hb3 ?_
  refine H.mono fun r2 h4 H => ?_
  obtain ⟨s20, rfl, hL4, H⟩ := H
  refine gy hb3 ?_
  refine H.mono fun r3 h5 H => ?_
  obtain ⟨s21, rfl, hL5, H⟩ := H
  refine gy hb3 ?_
  refine pop_not s21 ?_
  refine pop_pickf' hb3 ?_
  refine condM_b (fun hb4 => ?_) (fun hb4 => ?_)
  ·have H := H.1 hb4
   refine pop.mk' (v := (Value.agg #[(VI 0), (VI 0)])) (fun w => by kernel_rfl) ?_
   refine ul siz36 hL5 0 0 [(VI 0), (VI 0)] [(b2, [(VI 0), (VI 0)]), (b1, [g0_1.v])] (fun h6 hf3 hL6 => ?_)
   refine ra agg36 hL6 0 0 [(VI 0), (VI 0)] ?_
   have H := H  h6  (Fr.old (Fr.r (In []) _) hf3) hL6
   exact H
  have H := H.2 hb4
  refine ra agg26 hL5 1 0 [g0_1.v] ?_
  refine H.mono fun r4 h7 H => ?_
  obtain ⟨s29, s29b, rfl, hL7, H⟩ := H
  refine pop_ext (v := s29.v) rfl ?_
  refine pop_ext (v := (VI s29b)) rfl ?_
  obtain ⟨hi1, H⟩ := H
  refine pop_index sli37 siz3 .i64 s29 p1_1 hi1 ?_
  obtain ⟨s35, hc1, H⟩ := H
  refine rop_one one3 (VI s35) hc1 ?_
  refine H.mono fun r5 h8 H => ?_
  obtain ⟨s37, s37b, rfl, hL8, H⟩ := H
  refine ul siz36 hL8 0 0 [(VI s37), (VI s37b)] [(b2, [(VI s37), (VI s37b)]), (b1, [g0_1.v])] (fun h9 hf4 hL9 => ?_)
  refine ra agg36 hL9 0 0 [(VI s37), (VI s37b)] ?_
  have H := H  h9  (Fr.old (Fr.r (In []) _) hf4) hL9
  exact H
def u14 (P : Program) (g0_1 : Sl) (p1_1 : Int) (a2_1 : Int) (b3_1 : Int) (h : Heap) (K : Value -> Heap -> Prop) : Prop :=
 ∀ (b1 : Nat) (b2 : Nat) (h2 : Heap), h.size ≤ b1 -> h.size ≤ b2 -> Fr (In []) h h2 -> Vars h2 [(b2, [(VI 0), (VI 0)]), (b1, [g0_1.v])] ->
 callM P 58 #[(.agg #[g0_1.v]), (VI a2_1), (VI b3_1)] h2 fun r1 h3 => ∃ s15 : Bool, r1 = (VB s15) /\ Vars h3 [(b2, [(VI 0), (VI 0)]), (b1, [g0_1.v])] /\
 ((!s15) = true ->
 ∀ (h10 : Heap), Fr (In [b2]) h3 h10 -> Vars h10 [(b2, [(VI 0), (VI 0)]), (b1, [g0_1.v])] ->
 K (.tuple #[(.agg #[(VI 0), (VI 0)]), (VB false)]) h10) /\
 ((!s15) = false ->
 eop P (Instr.buildSlice 37 1 #[(0, (VI p1_1))]) h3 fun r2 h4 => ∃ s20 : Sl, r2 = s20.v /\ Vars h4 [(b2, [(VI 0), (VI 0)]), (b1, [g0_1.v])] /\
 callM P 63 #[(.agg #[g0_1.v]), s20.v] h4 fun r3 h5 => ∃ s21 : Bool, r3 = (VB s21) /\ Vars h5 [(b2, [(VI 0), (VI 0)]), (b1, [g0_1.v])] /\
 ((!s21) = true ->
 ∀ (h6 : Heap), Fr (In [b2]) h5 h6 -> Vars h6 [(b2, [(VI 0), (VI 0)]), (b1, [g0_1.v])] ->
 K (.tuple #[(.agg #[(VI 0), (VI 0)]), (VB false)]) h6) /\
 ((!s21) = false ->
 callM P 66 #[(.agg #[g0_1.v]), (VI a2_1), (VI b3_1), (Value.func (Fn.func 67) #[] #[(VP b1 0)]), (VI 0), (VI 0)] h5 fun r4 h7 => ∃ y1 : Sl, ∃ s30 : Sl, ∃ s30b : Int, r4 = (.tuple #[s30.v, (VI s30b)]) /\ Vars h7 [(b2, [(VI 0), (VI 0)]), (b1, [y1.v])] /\
 InB s30 p1_1 /\
 ∃ s36 : Int, hcell h7 (Sl.at s30 p1_1 1) = some (VI s36) /\
 callM P 60 #[(VI s36), (VI s30b)] h7 fun r5 h8 => ∃ s38 : Int, ∃ s38b : Int, r5 = (.agg #[(VI s38), (VI s38b)]) /\ Vars h8 [(b2, [(VI 0), (VI 0)]), (b1, [y1.v])] /\
 ∀ (h9 : Heap), Fr (In [b2]) h8 h9 -> Vars h9 [(b2, [(VI s38), (VI s38b)]), (b1, [y1.v])] ->
 K (.tuple #[(.agg #[(VI s38), (VI s38b)]), (VB true)]) h9))
theorem v14 (g0_1 : Sl) (p1_1 : Int) (a2_1 : Int) (b3_1 : Int) (h : Heap) (K : Value -> Heap -> Prop) (H : u14 Try.prog g0_1 p1_1 a2_1 b3_1 h K) : callM Try.prog 14 #[(Value.agg #[g0_1.v]), (VI p1_1), (VI a2_1), (VI b3_1)] h K := by
  refine c14 (Value.agg #[g0_1.v]) (VI p1_1) (VI a2_1) (VI b3_1) h K ?_
  unfold u14 at H
  unfold t14
  have hL : Vars h [] := .nil
  refine eop_box 26 (Value.agg #[g0_1.v]) rfl hL (fun b1 h1 hb1 hf1 hL1 => ?_)
  refine eop_alloc 36 zer36 rfl hL1 (fun b2 h2 hb2 hf2 hL2 => ?_)
  refine ra agg26 hL2 1 0 [g0_1.v] ?_
  have H := H b1 b2 h2 hb1 (Nat.le_trans (Fr.size (Fr.no' (Fr.r (In []) _) hf1)) hb2) (Fr.no' (Fr.no' (Fr.r (In []) _) hf1) hf2) hL2
  refine H.mono fun r1 h3 H => ?_
  obtain ⟨s15, rfl, hL3, H⟩ := H
  refine pop_not s15 ?_
  refine guardM_sf (fun hb3 => ?_) (fun hb3 => ?_)
  rotate_left
  ·have H := H.1 hb3
   refine gm hb3 ?_
   refine gm hb3 ?_
   refine gm hb3 ?_
   refine gm hb3 ?_
   refine pop_pickt' hb3 ?_
   refine condM_t ?_
   refine pop.mk' (v := (Value.agg #[(VI 0), (VI 0)])) (fun w => by kernel_rfl) ?_
   refine ul siz36 hL3 0 0 [(VI 0), (VI 0)] [(b2, [(VI 0), (VI 0)]), (b1, [g0_1.v])] (fun h10 hf5 hL10 => ?_)
   refine ra agg36 hL10 0 0 [(VI 0), (VI 0)] ?_
   have H := H  h10  (Fr.old (Fr.r (In []) _) hf5) hL10
   exact H
  have H := H.2 hb3
  refine ra agg26 hL3 1 0 [g0_1.v] ?_
  refine gy hb3 ?_
  refine gy hb3 ?_
  refine H.mono fun r2 h4 H => ?_
  obtain ⟨s20, rfl, hL4, H⟩ := H
  refine gy hb3 ?_
  refine H.mono fun r3 h5 H => ?_
  obtain ⟨s21, rfl, hL5, H⟩ := H
  refine gy hb3 ?_
  refine pop_not s21 ?_
  refine pop_pickf' hb3 ?_
  refine condM_b (fun hb4 => ?_) (fun hb4 => ?_)
  ·have H := H.1 hb4
   refine pop.mk' (v := (Value.agg #[(VI 0), (VI 0)])) (fun w => by kernel_rfl) ?_
   refine ul siz36 hL5 0 0 [(VI 0), (VI 0)] [(b2, [(VI 0), (VI 0)]), (b1, [g0_1.v])] (fun h6 hf3 hL6 => ?_)
   refine ra agg36 hL6 0 0 [(VI 0), (VI 0)] ?_
   have H := H  h6  (Fr.old (Fr.r (In []) _) hf3) hL6
   exact H
  have H := H.2 hb4
  refine ra agg26 hL5 1 0 [g0_1.v] ?_
  refine pop_func _ _ _ ?_
  refine H.mono fun r4 h7 H => ?_
  obtain ⟨y1, s30, s30b, rfl, hL7, H⟩ := H
  refine pop_ext (v := s30.v) rfl ?_
  refine pop_ext (v := (VI s30b)) rfl ?_
  obtain ⟨hi1, H⟩ := H
  refine pop_index sli37 siz3 .i64 s30 p1_1 hi1 ?_
  obtain ⟨s36, hc1, H⟩ := H
  refine rop_one one3 (VI s36) hc1 ?_
  refine H.mono fun r5 h8 H => ?_
  obtain ⟨s38, s38b, rfl, hL8, H⟩ := H
  refine ul siz36 hL8 0 0 [(VI s38), (VI s38b)] [(b2, [(VI s38), (VI s38b)]), (b1, [y1.v])] (fun h9 hf4 hL9 => ?_)
  refine ra agg36 hL9 0 0 [(VI s38), (VI s38b)] ?_
  have H := H  h9  (Fr.old (Fr.r (In []) _) hf4) hL9
  exact H
def u15 (P : Program) (code0_1 : Sl) (h : Heap) (K : Value -> Heap -> Prop) : Prop :=
 ∀ (b1 : Nat) (b2 : Nat) (h2 : Heap), h.size ≤ b1 -> h.size ≤ b2 -> Fr (In []) h h2 -> Vars h2 [(b2, [code0_1.v, (VI 0), (Value.int .u64 0)]), (b1, [nilSl.v])] ->
 callM P 68 #[(VP b2 0)] h2 fun r1 h3 => ∃ y1 : Sl, ∃ y2 : Int, ∃ y3 : Int, ∃ s11 : Sl, r1 = (.agg #[s11.v]) /\ Vars h3 [(b2, [y1.v, (VI y2), (Value.int .u64 y3)]), (b1, [nilSl.v])] /\
 ∀ (b3 : Nat) (h5 : Heap), h3.size ≤ b3 -> Fr (In []) h3 h5 -> Vars h5 [(b3, [s11.v]), (b2, [y1.v, (VI y2), (Value.int .u64 y3)]), (b1, [nilSl.v])] ->
 callM P 69 #[(VP b2 0), (.agg #[s11.v])] h5 fun r2 h6 => ∃ y4 : Sl, ∃ y5 : Int, ∃ y6 : Int, ∃ s15 : Int, r2 = (VI s15) /\ Vars h6 [(b3, [s11.v]), (b2, [y4.v, (VI y5), (Value.int .u64 y6)]), (b1, [nilSl.v])] /\
 callM P 70 #[(VP b2 0), (VI 5)] h6 fun r3 h7 => ∃ y7 : Sl, ∃ y8 : Int, ∃ y9 : Int, ∃ s17 : Int, r3 = (VI s17) /\ Vars h7 [(b3, [s11.v]), (b2, [y7.v, (VI y8), (Value.int .u64 y9)]), (b1, [nilSl.v])] /\
 callM P 70 #[(VP b2 0), (VI 9)] h7 fun r4 h8 => ∃ y10 : Sl, ∃ y11 : Int, ∃ y12 : Int, ∃ s19 : Int, r4 = (VI s19) /\ Vars h8 [(b3, [s11.v]), (b2, [y10.v, (VI y11), (Value.int .u64 y12)]), (b1, [nilSl.v])] /\
 ∀ (h9 : Heap), Fr (In [b1]) h8 h9 -> Vars h9 [(b3, [s11.v]), (b2, [y10.v, (VI y11), (Value.int .u64 y12)]), (b1, [s11.v])] ->
 K (.tuple #[(.agg #[s11.v]), (VI s15), (VI (w64 (s17 - (w64 (Int.tdiv s19 8)))))]) h9
theorem v15 (code0_1 : Sl) (h : Heap) (K : Value -> Heap -> Prop) (H : u15 Try.prog code0_1 h K) : callM Try.prog 15 #[code0_1.v] h K := by
  refine c15 code0_1.v h K ?_
  unfold u15 at H
  unfold t15
  have hL : Vars h [] := .nil
  refine eop_alloc 26 zer26 rfl hL (fun b1 h1 hb1 hf1 hL1 => ?_)
  refine pop.mk' (v := (Value.agg #[code0_1.v, (VI 0), (Value.int .u64 0)])) (fun w => by kernel_rfl) ?_
  refine eop_box 69 (Value.agg #[code0_1.v, (VI 0), (Value.int .u64 0)]) rfl hL1 (fun b2 h2 hb2 hf2 hL2 => ?_)
  have H := H b1 b2 h2 hb1 (Nat.le_trans (Fr.size (Fr.no' (Fr.r (In []) _) hf1)) hb2) (Fr.no' (Fr.no' (Fr.r (In []) _) hf1) hf2) hL2
  refine H.mono fun r1 h3 H => ?_
  obtain ⟨y1, y2, y3, s11, rfl, hL3, H⟩ := H
  refine eop_alloc 26 zer26 rfl hL3 (fun b3 h4 hb3 hf3 hL4 => ?_)
  refine ul siz26 hL4 0 0 [s11.v] [(b3, [s11.v]), (b2, [y1.v, (VI y2), (Value.int .u64 y3)]), (b1, [nilSl.v])] (fun h5 hf4 hL5 => ?_)
  refine ra agg26 hL5 0 0 [s11.v] ?_
  refine ra agg26 hL5 0 0 [s11.v] ?_
  have H := H b3 h5 hb3 (Fr.new (Fr.no' (Fr.r (In []) _) hf3) hb3 hf4) hL5
  refine H.mono fun r2 h6 H => ?_
  obtain ⟨y4, y5, y6, s15, rfl, hL6, H⟩ := H
  refine ⟨?_, ?_⟩
  ·exact still_locA agg26 hL6 0 rfl 0 (vs := [s11.v]) rfl rfl
  refine H.mono fun r3 h7 H => ?_
  obtain ⟨y7, y8, y9, s17, rfl, hL7, H⟩ := H
  refine ⟨?_, ?_⟩
  ·exact still_locA agg26 hL7 0 rfl 0 (vs := [s11.v]) rfl rfl
  refine H.mono fun r4 h8 H => ?_
  obtain ⟨y10, y11, y12, s19, rfl, hL8, H⟩ := H
  refine ⟨?_, ?_⟩
  ·exact still_locA agg26 hL8 0 rfl 0 (vs := [s11.v]) rfl rfl
  refine pop_quo .i64 s19 8 (by decide) ?_
  refine pop_sub .i64 s17 (w64 (Int.tdiv s19 8)) ?_
  refine ul siz26 hL8 2 0 [s11.v] [(b3, [s11.v]), (b2, [y10.v, (VI y11), (Value.int .u64 y12)]), (b1, [s11.v])] (fun h9 hf5 hL9 => ?_)
  refine ra agg26 hL9 2 0 [s11.v] ?_
  have H := H  h9  (Fr.old (Fr.r (In []) _) hf5) hL9
  exact H
def u16 (P : Program) (g0_1 : Sl) (p1_1 : Int) (k2_1 : Int) (h : Heap) (K : Value -> Heap -> Prop) : Prop :=
 ∀ (b1 : Nat) (b2 : Nat) (h2 : Heap), h.size ≤ b1 -> h.size ≤ b2 -> Fr (In []) h h2 -> Vars h2 [(b2, [(VI 0), (VI 0)]), (b1, [g0_1.v])] ->
 eop P (Instr.buildSlice 37 1 #[(0, (VI p1_1))]) h2 fun r1 h3 => ∃ s14 : Sl, r1 = s14.v /\ Vars h3 [(b2, [(VI 0), (VI 0)]), (b1, [g0_1.v])] /\
 callM P 63 #[(.agg #[g0_1.v]), s14.v] h3 fun r2 h4 => ∃ s15 : Bool, r2 = (VB s15) /\ Vars h4 [(b2, [(VI 0), (VI 0)]), (b1, [g0_1.v])] /\
 ((!s15) = true ->
 ∀ (h10 : Heap), Fr (In [b2]) h4 h10 -> Vars h10 [(b2, [(VI 0), (VI 0)]), (b1, [g0_1.v])] ->
 K (.tuple #[(.agg #[(VI 0), (VI 0)]), (VB false)]) h10) /\
 ((!s15) = false ->
 InB g0_1 p1_1 /\
 ∃ s23 : Sl, hcell h4 (Sl.at g0_1 p1_1 1) = some s23.v /\
 callM P 71 #[(VI k2_1), (VI 0), (VI (w64 ((s23.n : Int) - 1)))] h4 fun r3 h5 => ∃ s26 : Bool, r3 = (VB s26) /\ Vars h5 [(b2, [(VI 0), (VI 0)]), (b1, [g0_1.v])] /\
 ((!s26) = true ->
 ∀ (h6 : Heap), Fr (In [b2]) h5 h6 -> Vars h6 [(b2, [(VI 0), (VI 0)]), (b1, [g0_1.v])] ->
 K (.tuple #[(.agg #[(VI 0), (VI 0)]), (VB false)]) h6) /\
 ((!s26) = false ->
 InB g0_1 p1_1 /\
 ∃ s34 : Sl, hcell h5 (Sl.at g0_1 p1_1 1) = some s34.v /\
 ∃ J1 : Nat -> Int -> Int -> Heap -> Prop, (∃ n0 : Nat, J1 n0 0 0 h5) /\
 ∀ (n1 : Nat) (many9_1 : Int) (s37 : Int) (h7 : Heap), J1 n1 many9_1 s37 h7 -> Vars h7 [(b2, [(VI 0), (VI 0)]), (b1, [g0_1.v])] ->
 ((decide (s37 < (s34.n : Int))) = true ->
 InB s34 s37 /\
 ∃ s40 : Int, hcell h7 (Sl.at s34 s37 1) = some (VI s40) /\
 InB s34 k2_1 /\
 ∃ s45 : Int, hcell h7 (Sl.at s34 k2_1 1) = some (VI s45) /\
 ((decide (s40 = s45)) = true ->
 ∃ m : Nat, m < n1 /\ J1 m (w64 (many9_1 + 1)) (w64 (s37 + 1)) h7) /\
 ((decide (s40 = s45)) = false ->
 ∃ m : Nat, m < n1 /\ J1 m many9_1 (w64 (s37 + 1)) h7)) /\
 ((decide (s37 < (s34.n : Int))) = false ->
 callM P 60 #[(VI many9_1), (VI (s34.n : Int))] h7 fun r4 h8 => ∃ s53 : Int, ∃ s53b : Int, r4 = (.agg #[(VI s53), (VI s53b)]) /\ Vars h8 [(b2, [(VI 0), (VI 0)]), (b1, [g0_1.v])] /\
 ∀ (h9 : Heap), Fr (In [b2]) h8 h9 -> Vars h9 [(b2, [(VI s53), (VI s53b)]), (b1, [g0_1.v])] ->
 K (.tuple #[(.agg #[(VI s53), (VI s53b)]), (VB true)]) h9)))
theorem v16 (g0_1 : Sl) (p1_1 : Int) (k2_1 : Int) (h : Heap) (K : Value -> Heap -> Prop) (H : u16 Try.prog g0_1 p1_1 k2_1 h K) : callM Try.prog 16 #[(Value.agg #[g0_1.v]), (VI p1_1), (VI k2_1)] h K := by
  refine c16 (Value.agg #[g0_1.v]) (VI p1_1) (VI k2_1) h K ?_
  unfold u16 at H
  unfold t16
  have hL : Vars h [] := .nil
  refine eop_box 26 (Value.agg #[g0_1.v]) rfl hL (fun b1 h1 hb1 hf1 hL1 => ?_)
  refine eop_alloc 36 zer36 rfl hL1 (fun b2 h2 hb2 hf2 hL2 => ?_)
  refine ra agg26 hL2 1 0 [g0_1.v] ?_
  have H := H b1 b2 h2 hb1 (Nat.le_trans (Fr.size (Fr.no' (Fr.r (In []) _) hf1)) hb2) (Fr.no' (Fr.no' (Fr.r (In []) _) hf1) hf2) hL2
  refine H.mono fun r1 h3 H => ?_
  obtain ⟨s14, rfl, hL3, H⟩ := H
  refine H.mono fun r2 h4 H => ?_
  obtain ⟨s15, rfl, hL4, H⟩ := H
  refine pop_not s15 ?_
  refine guardM_sf (fun hb3 => ?_) (fun hb3 => ?_)
  rotate_left
  ·have H := H.1 hb3
   refine gm hb3 ?_
   refine gm hb3 ?_
   refine gm hb3 ?_
   refine gm hb3 ?_
   refine gm hb3 ?_
   refine gm hb3 ?_
   refine gm hb3 ?_
   refine gm hb3 ?_
   refine gm hb3 ?_
   refine pop_pickt' hb3 ?_
   refine condM_t ?_
   refine pop.mk' (v := (Value.agg #[(VI 0), (VI 0)])) (fun w => by kernel_rfl) ?_
   refine ul siz36 hL4 0 0 [(VI 0), (VI 0)] [(b2, [(VI 0), (VI 0)]), (b1, [g0_1.v])] (fun h10 hf5 hL10 => ?_)
   refine ra agg36 hL10 0 0 [(VI 0), (VI 0)] ?_
   have H := H  h10  (Fr.old (Fr.r (In []) _) hf5) hL10
   exact H
  have H := H.2 hb3
  refine gy hb3 ?_
  refine pop_field 0 fld26_0 b1 0 ?_
  refine gy hb3 ?_
  refine rl one24 hL4 1 0 g0_1.v ?_
  refine gy hb3 ?_
  refine gy hb3 ?_
  obtain ⟨hi1, H⟩ := H
  refine pop_index sli24 siz37 .i64 g0_1 p1_1 hi1 ?_
  refine gy hb3 ?_
  obtain ⟨s23, hc4, H⟩ := H
  refine rop_one one37 s23.v hc4 ?_
  refine gy hb3 ?_
  refine pop_len s23 _ _ sli37 ?_
  refine gy hb3 ?_
  refine pop_sub .i64 (s23.n : Int) 1 ?_
  refine gy hb3 ?_
  refine H.mono fun r3 h5 H => ?_
  obtain ⟨s26, rfl, hL5, H⟩ := H
  refine gy hb3 ?_
  refine pop_not s26 ?_
  refine pop_pickf' hb3 ?_
  refine condM_b (fun hb4 => ?_) (fun hb4 => ?_)
  ·have H := H.1 hb4
   refine pop.mk' (v := (Value.agg #[(VI 0), (VI 0)])) (fun w => by kernel_rfl) ?_
   refine ul siz36 hL5 0 0 [(VI 0), (VI 0)] [(b2, [(VI 0), (VI 0)]), (b1, [g0_1.v])] (fun h6 hf3 hL6 => ?_)
   refine ra agg36 hL6 0 0 [(VI 0), (VI 0)] ?_
   have H := H  h6  (Fr.old (Fr.r (In []) _) hf3) hL6
   exact H
  have H := H.2 hb4
  refine pop_field 0 fld26_0 b1 0 ?_
  refine rl one24 hL5 1 0 g0_1.v ?_
  obtain ⟨hi2, H⟩ := H
  refine pop_index sli24 siz37 .i64 g0_1 p1_1 hi2 ?_
  obtain ⟨s34, hc3, H⟩ := H
  refine rop_one one37 s34.v hc3 ?_
  refine pop_len s34 _ _ sli37 ?_
  obtain ⟨J1, ⟨n2, h0_1⟩, HB1⟩ := H
  refine loop_intro (J := fun (n : Nat) (vs : List Value) (h' : Heap) => ∃ many9_1 : Int, ∃ s37 : Int, vs = [(VI many9_1), (VI s37)] /\ J1 n many9_1 s37 h' /\ Vars h' [(b2, [(VI 0), (VI 0)]), (b1, [g0_1.v])]) n2 ⟨0, 0, rfl, h0_1, hL5⟩ ?_
  intro I1 mu1 hI1 junk1 tv1 tv2 h7 hi3
  obtain ⟨n1, ⟨many9_1, s37, hv, hJ1, hL7⟩, hn1⟩ := hI1 _ _ hi3
  cases hv
  have H := HB1 n1 many9_1 s37 h7 hJ1 hL7
  refine pop_lss .i64 s37 (s34.n : Int) ?_
  refine condM_b (fun hb5 => ?_) (fun hb5 => ?_)
  rotate_left
  ·have H := H.2 hb5
   refine pop_len s34 _ _ sli37 ?_
   refine H.mono fun r4 h8 H => ?_
   obtain ⟨s53, s53b, rfl, hL8, H⟩ := H
   refine ul siz36 hL8 0 0 [(VI s53), (VI s53b)] [(b2, [(VI s53), (VI s53b)]), (b1, [g0_1.v])] (fun h9 hf4 hL9 => ?_)
   refine ra agg36 hL9 0 0 [(VI s53), (VI s53b)] ?_
   have H := H  h9  (Fr.old (Fr.r (In []) _) hf4) hL9
   exact H
  have H := H.1 hb5
  obtain ⟨hi4, H⟩ := H
  refine pop_index sli37 siz3 .i64 s34 s37 hi4 ?_
  obtain ⟨s40, hc2, H⟩ := H
  refine rop_one one3 (VI s40) hc2 ?_
  obtain ⟨hi5, H⟩ := H
  refine pop_index sli37 siz3 .i64 s34 k2_1 hi5 ?_
  obtain ⟨s45, hc1, H⟩ := H
  refine rop_one one3 (VI s45) hc1 ?_
  refine pop_ieq .i64 _ _ s40 s45 ?_
  refine condM_b (fun hb6 => ?_) (fun hb6 => ?_)
  rotate_left
  ·have H := H.2 hb6
   refine pop_add .i64 s37 1 ?_
   obtain ⟨m_2, hm_2, H⟩ := H
   exact hn1 _ _ ⟨m_2, hm_2, many9_1, (w64 (s37 + 1)), rfl, H, hL7⟩
  have H := H.1 hb6
  refine pop_add .i64 many9_1 1 ?_
  refine pop_add .i64 s37 1 ?_
  obtain ⟨m_1, hm_1, H⟩ := H
  exact hn1 _ _ ⟨m_1, hm_1, (w64 (many9_1 + 1)), (w64 (s37 + 1)), rfl, H, hL7⟩
def u17 (P : Program) (g0_1 : Sl) (p1_1 : Int) (k2_1 : Int) (h : Heap) (K : Value -> Heap -> Prop) : Prop :=
 ∀ (b1 : Nat) (b2 : Nat) (h2 : Heap), h.size ≤ b1 -> h.size ≤ b2 -> Fr (In []) h h2 -> Vars h2 [(b2, [(VI 0), (VI 0)]), (b1, [g0_1.v])] ->
 callM P 72 #[(.agg #[g0_1.v]), (VI p1_1)] h2 fun r1 h3 => ∃ s13 : Bool, r1 = (VB s13) /\ Vars h3 [(b2, [(VI 0), (VI 0)]), (b1, [g0_1.v])] /\
 ((!s13) = true ->
 ∀ (h9 : Heap), Fr (In [b2]) h3 h9 -> Vars h9 [(b2, [(VI 0), (VI 0)]), (b1, [g0_1.v])] ->
 K (.tuple #[(.agg #[(VI 0), (VI 0)]), (VB false)]) h9) /\
 ((!s13) = false ->
 InB g0_1 p1_1 /\
 ∃ s21 : Sl, hcell h3 (Sl.at g0_1 p1_1 1) = some s21.v /\
 callM P 73 #[(VI k2_1), (VI 0), (VI (w64 ((s21.n : Int) - 1)))] h3 fun r2 h4 => ∃ s24 : Bool, r2 = (VB s24) /\ Vars h4 [(b2, [(VI 0), (VI 0)]), (b1, [g0_1.v])] /\
 ((!s24) = true ->
 ∀ (h5 : Heap), Fr (In [b2]) h4 h5 -> Vars h5 [(b2, [(VI 0), (VI 0)]), (b1, [g0_1.v])] ->
 K (.tuple #[(.agg #[(VI 0), (VI 0)]), (VB false)]) h5) /\
 ((!s24) = false ->
 InB g0_1 p1_1 /\
 ∃ s32 : Sl, hcell h4 (Sl.at g0_1 p1_1 1) = some s32.v /\
 ∃ J1 : Nat -> Int -> Int -> Heap -> Prop, (∃ n0 : Nat, J1 n0 0 0 h4) /\
 ∀ (n1 : Nat) (n8_1 : Int) (s34 : Int) (h6 : Heap), J1 n1 n8_1 s34 h6 -> Vars h6 [(b2, [(VI 0), (VI 0)]), (b1, [g0_1.v])] ->
 ((decide (s34 < (s32.n : Int))) = true ->
 InB s32 s34 /\
 ∃ s37 : Int, hcell h6 (Sl.at s32 s34 1) = some (VI s37) /\
 InB g0_1 p1_1 /\
 ∃ s43 : Sl, hcell h6 (Sl.at g0_1 p1_1 1) = some s43.v /\
 InB s43 k2_1 /\
 ∃ s46 : Int, hcell h6 (Sl.at s43 k2_1 1) = some (VI s46) /\
 ((decide (s37 = s46)) = true ->
 ∃ m : Nat, m < n1 /\ J1 m (w64 (n8_1 + 1)) (w64 (s34 + 1)) h6) /\
 ((decide (s37 = s46)) = false ->
 ∃ m : Nat, m < n1 /\ J1 m n8_1 (w64 (s34 + 1)) h6)) /\
 ((decide (s34 < (s32.n : Int))) = false ->
 InB g0_1 p1_1 /\
 ∃ s56 : Sl, hcell h6 (Sl.at g0_1 p1_1 1) = some s56.v /\
 callM P 74 #[(VI n8_1), (VI (s56.n : Int))] h6 fun r3 h7 => ∃ s58 : Int, ∃ s58b : Int, r3 = (.agg #[(VI s58), (VI s58b)]) /\ Vars h7 [(b2, [(VI 0), (VI 0)]), (b1, [g0_1.v])] /\
 ∀ (h8 : Heap), Fr (In [b2]) h7 h8 -> Vars h8 [(b2, [(VI s58), (VI s58b)]), (b1, [g0_1.v])] ->
 K (.tuple #[(.agg #[(VI s58), (VI s58b)]), (VB true)]) h8)))
theorem v17 (g0_1 : Sl) (p1_1 : Int) (k2_1 : Int) (h : Heap) (K : Value -> Heap -> Prop) (H : u17 Try.prog g0_1 p1_1 k2_1 h K) : callM Try.prog 17 #[(Value.agg #[g0_1.v]), (VI p1_1), (VI k2_1)] h K := by
  refine c17 (Value.agg #[g0_1.v]) (VI p1_1) (VI k2_1) h K ?_
  unfold u17 at H
  unfold t17
  have hL : Vars h [] := .nil
  refine eop_box 26 (Value.agg #[g0_1.v]) rfl hL (fun b1 h1 hb1 hf1 hL1 => ?_)
  refine eop_alloc 36 zer36 rfl hL1 (fun b2 h2 hb2 hf2 hL2 => ?_)
  refine ra agg26 hL2 1 0 [g0_1.v] ?_
  have H := H b1 b2 h2 hb1 (Nat.le_trans (Fr.size (Fr.no' (Fr.r (In []) _) hf1)) hb2) (Fr.no' (Fr.no' (Fr.r (In []) _) hf1) hf2) hL2
  refine H.mono fun r1 h3 H => ?_
  obtain ⟨s13, rfl, hL3, H⟩ := H
  refine pop_not s13 ?_
  refine guardM_sf (fun hb3 => ?_) (fun hb3 => ?_)
  rotate_left
  ·have H := H.1 hb3
   refine gm hb3 ?_
   refine gm hb3 ?_
   refine gm hb3 ?_
   refine gm hb3 ?_
   refine gm hb3 ?_
   refine gm hb3 ?_
   refine gm hb3 ?_
   refine gm hb3 ?_
   refine gm hb3 ?_
   refine pop_pickt' hb3 ?_
   refine condM_t ?_
   refine pop.mk' (v := (Value.agg #[(VI 0), (VI 0)])) (fun w => by kernel_rfl) ?_
   refine ul siz36 hL3 0 0 [(VI 0), (VI 0)] [(b2, [(VI 0), (VI 0)]), (b1, [g0_1.v])] (fun h9 hf5 hL9 => ?_)
   refine ra agg36 hL9 0 0 [(VI 0), (VI 0)] ?_
   have H := H  h9  (Fr.old (Fr.r (In []) _) hf5) hL9
   exact H
  have H := H.2 hb3
  refine gy hb3 ?_
  refine pop_field 0 fld26_0 b1 0 ?_
  refine gy hb3 ?_
  refine rl one24 hL3 1 0 g0_1.v ?_
  refine gy hb3 ?_
  refine gy hb3 ?_
  obtain ⟨hi1, H⟩ := H
  refine pop_index sli24 siz37 .i64 g0_1 p1_1 hi1 ?_
  refine gy hb3 ?_
  obtain ⟨s21, hc6, H⟩ := H
  refine rop_one one37 s21.v hc6 ?_
  refine gy hb3 ?_
  refine pop_len s21 _ _ sli37 ?_
  refine gy hb3 ?_
  refine pop_sub .i64 (s21.n : Int) 1 ?_
  refine gy hb3 ?_
  refine H.mono fun r2 h4 H => ?_
  obtain ⟨s24, rfl, hL4, H⟩ := H
  refine gy hb3 ?_
  refine pop_not s24 ?_
  refine pop_pickf' hb3 ?_
  refine condM_b (fun hb4 => ?_) (fun hb4 => ?_)
  ·have H := H.1 hb4
   refine pop.mk' (v := (Value.agg #[(VI 0), (VI 0)])) (fun w => by kernel_rfl) ?_
   refine ul siz36 hL4 0 0 [(VI 0), (VI 0)] [(b2, [(VI 0), (VI 0)]), (b1, [g0_1.v])] (fun h5 hf3 hL5 => ?_)
   refine ra agg36 hL5 0 0 [(VI 0), (VI 0)] ?_
   have H := H  h5  (Fr.old (Fr.r (In []) _) hf3) hL5
   exact H
  have H := H.2 hb4
  refine pop_field 0 fld26_0 b1 0 ?_
  refine rl one24 hL4 1 0 g0_1.v ?_
  obtain ⟨hi2, H⟩ := H
  refine pop_index sli24 siz37 .i64 g0_1 p1_1 hi2 ?_
  obtain ⟨s32, hc5, H⟩ := H
  refine rop_one one37 s32.v hc5 ?_
  refine pop_len s32 _ _ sli37 ?_
  obtain ⟨J1, ⟨n2, h0_1⟩, HB1⟩ := H
  refine loop_intro (J := fun (n : Nat) (vs : List Value) (h' : Heap) => ∃ n8_1 : Int, ∃ s34 : Int, vs = [(VI n8_1), (VI s34)] /\ J1 n n8_1 s34 h' /\ Vars h' [(b2, [(VI 0), (VI 0)]), (b1, [g0_1.v])]) n2 ⟨0, 0, rfl, h0_1, hL4⟩ ?_
  intro I1 mu1 hI1 junk1 tv1 tv2 h6 hi3
  obtain ⟨n1, ⟨n8_1, s34, hv, hJ1, hL6⟩, hn1⟩ := hI1 _ _ hi3
  cases hv
  have H := HB1 n1 n8_1 s34 h6 hJ1 hL6
  refine pop_lss .i64 s34 (s32.n : Int) ?_
  refine condM_b (fun hb5 => ?_) (fun hb5 => ?_)
  rotate_left
  ·have H := H.2 hb5
   refine pop_field 0 fld26_0 b1 0 ?_
   refine rl one24 hL6 1 0 g0_1.v ?_
   obtain ⟨hi7, H⟩ := H
   refine pop_index sli24 siz37 .i64 g0_1 p1_1 hi7 ?_
   obtain ⟨s56, hc4, H⟩ := H
   refine rop_one one37 s56.v hc4 ?_
   refine pop_len s56 _ _ sli37 ?_
   refine H.mono fun r3 h7 H => ?_
   obtain ⟨s58, s58b, rfl, hL7, H⟩ := H
   refine ul siz36 hL7 0 0 [(VI s58), (VI s58b)] [(b2, [(VI s58), (VI s58b)]), (b1, [g0_1.v])] (fun h8 hf4 hL8 => ?_)
   refine ra agg36 hL8 0 0 [(VI s58), (VI s58b)] ?_
   have H := H  h8  (Fr.old (Fr.r (In []) _) hf4) hL8
   exact H
  have H := H.1 hb5
  obtain ⟨hi4, H⟩ := H
  refine pop_index sli37 siz3 .i64 s32 s34 hi4 ?_
  obtain ⟨s37, hc3, H⟩ := H
  refine rop_one one3 (VI s37) hc3 ?_
  refine pop_field 0 fld26_0 b1 0 ?_
  refine rl one24 hL6 1 0 g0_1.v ?_
  obtain ⟨hi5, H⟩ := H
  refine pop_index sli24 siz37 .i64 g0_1 p1_1 hi5 ?_
  obtain ⟨s43, hc2, H⟩ := H
  refine rop_one one37 s43.v hc2 ?_
  obtain ⟨hi6, H⟩ := H
  refine pop_index sli37 siz3 .i64 s43 k2_1 hi6 ?_
  obtain ⟨s46, hc1, H⟩ := H
  refine rop_one one3 (VI s46) hc1 ?_
  refine pop_ieq .i64 _ _ s37 s46 ?_
  refine condM_b (fun hb6 => ?_) (fun hb6 => ?_)
  rotate_left
  ·have H := H.2 hb6
   refine pop_add .i64 s34 1 ?_
   obtain ⟨m_2, hm_2, H⟩ := H
   exact hn1 _ _ ⟨m_2, hm_2, n8_1, (w64 (s34 + 1)), rfl, H, hL6⟩
  have H := H.1 hb6
  refine pop_add .i64 n8_1 1 ?_
  refine pop_add .i64 s34 1 ?_
  obtain ⟨m_1, hm_1, H⟩ := H
  exact hn1 _ _ ⟨m_1, hm_1, (w64 (n8_1 + 1)), (w64 (s34 + 1)), rfl, H, hL6⟩
def u18 (P : Program) (code0_1 : Sl) (h : Heap) (K : Value -> Heap -> Prop) : Prop :=
 ∀ (b1 : Nat) (h1 : Heap), h.size ≤ b1 -> Fr (In []) h h1 -> Vars h1 [(b1, [nilSl.v])] ->
 callM P 75 #[code0_1.v] h1 fun r1 h2 => ∃ s7 : Sl, ∃ s7b : Int, ∃ s7c : Int, ∃ s7d : Int, r1 = (.tuple #[(.agg #[s7.v]), (VI s7b), (VI s7c), (VI s7d)]) /\ Vars h2 [(b1, [nilSl.v])] /\
 ∀ (h3 : Heap), Fr (In [b1]) h2 h3 -> Vars h3 [(b1, [s7.v])] ->
 K (.tuple #[(.agg #[s7.v]), (VI s7b), (VI s7c), (VI s7d)]) h3
theorem v18 (code0_1 : Sl) (h : Heap) (K : Value -> Heap -> Prop) (H : u18 Try.prog code0_1 h K) : callM Try.prog 18 #[code0_1.v] h K := by
  refine c18 code0_1.v h K ?_
  unfold u18 at H
  unfold t18
  have hL : Vars h [] := .nil
  refine eop_alloc 26 zer26 rfl hL (fun b1 h1 hb1 hf1 hL1 => ?_)
  have H := H b1 h1 hb1 (Fr.no' (Fr.r (In []) _) hf1) hL1
  refine H.mono fun r1 h2 H => ?_
  obtain ⟨s7, s7b, s7c, s7d, rfl, hL2, H⟩ := H
  refine pop_ext (v := (Value.agg #[s7.v])) rfl ?_
  refine pop_ext (v := (VI s7b)) rfl ?_
  refine pop_ext (v := (VI s7c)) rfl ?_
  refine pop_ext (v := (VI s7d)) rfl ?_
  refine ul siz26 hL2 0 0 [s7.v] [(b1, [s7.v])] (fun h3 hf2 hL3 => ?_)
  refine ra agg26 hL3 0 0 [s7.v] ?_
  have H := H  h3  (Fr.old (Fr.r (In []) _) hf2) hL3
  exact H
end Go.Proofs.Ytgiamamfnpklkaa
