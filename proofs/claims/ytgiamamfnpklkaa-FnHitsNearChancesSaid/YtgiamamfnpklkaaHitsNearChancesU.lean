import Derived.Test.YtgiamamfnpklkaaHitsNearChancesT
import Derived.Test.YtgiamamfnpklkaaM2
set_option linter.unusedVariables false
set_option linter.unusedSimpArgs false
set_option maxRecDepth 100000
set_option maxHeartbeats 16000000
namespace Go.Proofs.Ytgiamamfnpklkaa
open Go Go.Mx
section
variable {P : Program} {b c want : Bool} {A : (Value -> Heap -> Prop) -> Prop} {h : Heap} {K : Value -> Heap -> Prop} {Q : Value -> Prop} {t : TypeId} {n : Nat} {L : List (Nat × List Value)} {d : Nat} {cs : List Value}
theorem gn (H : K undef h) (hb : b ≠ want := by decide) : guardM (.bool b) want A h K := guardM_n hb H
theorem gm (hb : b = c) (H : K undef h) (hc : c ≠ want := by decide) : guardM (.bool b) want A h K := guardM_n' hb hc H
theorem gy (hb : b = want) (H : A K) : guardM (.bool b) want A h K := guardM_y' hb H
theorem ul (ht : sizeC P t = some n) (hL : Vars h L) (i : Nat) (o : Nat) {v : Value} (vs : List Value) (L' : List (Nat × List Value)) (H : ∀ h1 : Heap, Fr (fun k => k = d) h h1 -> Vars h1 L' -> K undef h1) (hi : nthL L i = some (d, cs) := by rfl) (hv : v.cells = vs.toArray := by rfl) (hn : vs.length = n := by rfl) (hp : vs.all plainV = true := by rfl) (ho : Nat.ble (o + vs.length) cs.length = true := by rfl) (hL' : setL L i (splice cs o vs) = L' := by rfl) : uop P (Instr.storeAt t (VP d o) v) h K := uop_loc ht hL i hi o vs hv hn hp (Nat.le_of_ble_eq_true ho) hL' H
theorem ra (ht : aggC P t = some n) (hL : Vars h L) (i : Nat) (o : Nat) (vs : List Value) (H : Q (.agg vs.toArray)) (hi : nthL L i = some (d, cs) := by rfl) (hv : cutL cs o n = vs := by rfl) (hn : vs.length = n := by rfl) : rop P (Instr.loadAt t (VP d o)) h Q := rop_locA ht hL i hi o hv hn H
theorem rl (ht : oneC P t = true) (hL : Vars h L) (i : Nat) (o : Nat) (v : Value) (H : Q v) (hi : nthL L i = some (d, cs) := by rfl) (hv : cs[o]? = some v := by rfl) : rop P (Instr.loadAt t (VP d o)) h Q := rop_loc ht hL i hi o hv H
end
theorem agg114 : aggC Try.prog 114 = some 2 := by kernel_rfl
theorem agg26 : aggC Try.prog 26 = some 1 := by kernel_rfl
theorem agg36 : aggC Try.prog 36 = some 2 := by kernel_rfl
theorem agg91 : aggC Try.prog 91 = some 3 := by kernel_rfl
theorem boo4 : Try.prog.underlying 4 = some .bool := by kernel_rfl
theorem fld114_0 : fieldC Try.prog 114 0 = some 0 := by kernel_rfl
theorem fld114_1 : fieldC Try.prog 114 1 = some 1 := by kernel_rfl
theorem fld26_0 : fieldC Try.prog 26 0 = some 0 := by kernel_rfl
theorem fld36_0 : fieldC Try.prog 36 0 = some 0 := by kernel_rfl
theorem fld36_1 : fieldC Try.prog 36 1 = some 1 := by kernel_rfl
theorem fld69_0 : fieldC Try.prog 69 0 = some 0 := by kernel_rfl
theorem fld69_1 : fieldC Try.prog 69 1 = some 1 := by kernel_rfl
theorem fld69_2 : fieldC Try.prog 69 2 = some 2 := by kernel_rfl
theorem fld91_0 : fieldC Try.prog 91 0 = some 0 := by kernel_rfl
theorem fld91_1 : fieldC Try.prog 91 1 = some 1 := by kernel_rfl
theorem fld91_2 : fieldC Try.prog 91 2 = some 2 := by kernel_rfl
theorem one22 : oneC Try.prog 22 = true := by kernel_rfl
theorem one24 : oneC Try.prog 24 = true := by kernel_rfl
theorem one3 : oneC Try.prog 3 = true := by kernel_rfl
theorem one37 : oneC Try.prog 37 = true := by kernel_rfl
theorem one5 : oneC Try.prog 5 = true := by kernel_rfl
theorem one67 : oneC Try.prog 67 = true := by kernel_rfl
theorem siz114 : sizeC Try.prog 114 = some 2 := by kernel_rfl
theorem siz24 : sizeC Try.prog 24 = some 1 := by kernel_rfl
theorem siz26 : sizeC Try.prog 26 = some 1 := by kernel_rfl
theorem siz3 : sizeC Try.prog 3 = some 1 := by kernel_rfl
theorem siz36 : sizeC Try.prog 36 = some 2 := by kernel_rfl
theorem siz37 : sizeC Try.prog 37 = some 1 := by kernel_rfl
theorem siz5 : sizeC Try.prog 5 = some 1 := by kernel_rfl
theorem siz67 : sizeC Try.prog 67 = some 1 := by kernel_rfl
theorem siz91 : sizeC Try.prog 91 = some 3 := by kernel_rfl
theorem sli22 : Try.prog.underlying 22 = some (.slice 5) := by kernel_rfl
theorem sli24 : Try.prog.underlying 24 = some (.slice 37) := by kernel_rfl
theorem sli29 : Try.prog.underlying 29 = some (.slice 36) := by kernel_rfl
theorem sli37 : Try.prog.underlying 37 = some (.slice 3) := by kernel_rfl
theorem zer114 : zeroC Try.prog 114 = some (Value.agg #[nilSl.v, (VI 0)]) := by kernel_rfl
theorem zer26 : zeroC Try.prog 26 = some (Value.agg #[nilSl.v]) := by kernel_rfl
theorem zer3 : zeroC Try.prog 3 = some (VI 0) := by kernel_rfl
theorem zer36 : zeroC Try.prog 36 = some (Value.agg #[(VI 0), (VI 0)]) := by kernel_rfl
theorem zer91 : zeroC Try.prog 91 = some (Value.agg #[nilSl.v, nilSl.v, (VI 0)]) := by kernel_rfl
def u4 (P : Program) (code0_1 : Sl) (more1_1 : Sl) (h : Heap) (K : Value -> Heap -> Prop) : Prop :=
 callM P 6 #[code0_1.v, more1_1.v] h fun r1 h1 => ∃ s52 : Bool, r1 = (VB s52) /\ Vars h1 [] /\
 (s52 = true ->
 K (VB true) h1) /\
 (s52 = false ->
 callM P 21 #[code0_1.v] h1 fun r2 h2 => ∃ s55 : Sl, ∃ s55b : Sl, ∃ s55c : Int, ∃ s55d : Int, ∃ s55e : Int, ∃ s55f : Int, r2 = (.tuple #[(.agg #[s55.v]), s55b.v, (VI s55c), (VI s55d), (VI s55e), (VI s55f)]) /\ Vars h2 [] /\
 ∀ (b1 : Nat) (h4 : Heap), h2.size ≤ b1 -> Fr (In []) h2 h4 -> Vars h4 [(b1, [s55.v])] ->
 callM P 22 #[(.agg #[s55.v]), s55b.v, (VI s55c), (VI s55d), (VI s55e), (VI s55f)] h4 fun r3 h5 => ∃ s69 : Int, ∃ s69b : Bool, r3 = (.tuple #[(VI s69), (VB s69b)]) /\ Vars h5 [(b1, [s55.v])] /\
 callM P 23 #[(.agg #[s55.v]), s55b.v, (VI s55c), (VI s55d), (VI s55e), (VI s55f)] h5 fun r4 h6 => ∃ s79 : Int, ∃ s79b : Bool, r4 = (.tuple #[(VI s79), (VB s79b)]) /\ Vars h6 [(b1, [s55.v])] /\
 callM P 24 #[(.agg #[s55.v]), s55b.v, (VI s55c), (VI s55d), (VI s55e), (VI s55f)] h6 fun r5 h7 => ∃ s89 : Sl, ∃ s89b : Bool, r5 = (.tuple #[s89.v, (VB s89b)]) /\ Vars h7 [(b1, [s55.v])] /\
 callM P 25 #[(.agg #[s55.v]), s55b.v, (VI s55c), (VI s55d), (VI s55e), (VI s55f)] h7 fun r6 h8 => ∃ s99 : Sl, ∃ s99b : Bool, r6 = (.tuple #[s99.v, (VB s99b)]) /\ Vars h8 [(b1, [s55.v])] /\
 callM P 26 #[(.agg #[s55.v]), s55b.v, (VI s55c), (VI s55d), (VI s55e), (VI s55f)] h8 fun r7 h9 => ∃ s109 : Int, ∃ s109b : Int, ∃ s109c : Bool, r7 = (.tuple #[(.agg #[(VI s109), (VI s109b)]), (VB s109c)]) /\ Vars h9 [(b1, [s55.v])] /\
 ∀ (b2 : Nat) (h11 : Heap), h9.size ≤ b2 -> Fr (In []) h9 h11 -> Vars h11 [(b2, [(VI s109), (VI s109b)]), (b1, [s55.v])] ->
 callM P 27 #[(.agg #[s55.v]), s55b.v, (VI s55c), (VI s55d), (VI s55e), (VI s55f)] h11 fun r8 h12 => ∃ s119 : Int, ∃ s119b : Int, ∃ s119c : Bool, r8 = (.tuple #[(.agg #[(VI s119), (VI s119b)]), (VB s119c)]) /\ Vars h12 [(b2, [(VI s109), (VI s109b)]), (b1, [s55.v])] /\
 ∀ (b3 : Nat) (h14 : Heap), h12.size ≤ b3 -> Fr (In []) h12 h14 -> Vars h14 [(b3, [(VI s119), (VI s119b)]), (b2, [(VI s109), (VI s109b)]), (b1, [s55.v])] ->
 callM P 28 #[(.agg #[s55.v]), s55b.v, (VI s55c), (VI s55d), (VI s55e), (VI s55f)] h14 fun r9 h15 => ∃ s129 : Int, ∃ s129b : Bool, r9 = (.tuple #[(VI s129), (VB s129b)]) /\ Vars h15 [(b3, [(VI s119), (VI s119b)]), (b2, [(VI s109), (VI s109b)]), (b1, [s55.v])] /\
 callM P 29 #[(.agg #[s55.v]), s55b.v, (VI s55c), (VI s55d), (VI s55e), (VI s55f)] h15 fun r10 h16 => ∃ s139 : Int, ∃ s139b : Bool, r10 = (.tuple #[(VI s139), (VB s139b)]) /\ Vars h16 [(b3, [(VI s119), (VI s119b)]), (b2, [(VI s109), (VI s109b)]), (b1, [s55.v])] /\
 callM P 30 #[(.agg #[s55.v]), s55b.v, (VI s55c), (VI s55d), (VI s55e), (VI s55f)] h16 fun r11 h17 => ∃ s149 : Sl, ∃ s149b : Bool, r11 = (.tuple #[s149.v, (VB s149b)]) /\ Vars h17 [(b3, [(VI s119), (VI s119b)]), (b2, [(VI s109), (VI s109b)]), (b1, [s55.v])] /\
 callM P 31 #[(.agg #[s55.v]), s55b.v, (VI s55c), (VI s55d), (VI s55e), (VI s55f)] h17 fun r12 h18 => ∃ s159 : Sl, ∃ s159b : Bool, r12 = (.tuple #[s159.v, (VB s159b)]) /\ Vars h18 [(b3, [(VI s119), (VI s119b)]), (b2, [(VI s109), (VI s109b)]), (b1, [s55.v])] /\
 ((!(s69b == s79b)) = true ->
 K (VB false) h18) /\
 ((!(s69b == s79b)) = false ->
 ((!decide (s69 = s79)) = true ->
 K (VB false) h18) /\
 ((!decide (s69 = s79)) = false ->
 ((!(s89b == s99b)) = true ->
 K (VB false) h18) /\
 ((!(s89b == s99b)) = false ->
 callM P 32 #[s89.v, s99.v] h18 fun r13 h19 => ∃ s178 : Bool, r13 = (VB s178) /\ Vars h19 [(b3, [(VI s119), (VI s119b)]), (b2, [(VI s109), (VI s109b)]), (b1, [s55.v])] /\
 ((!s178) = true ->
 K (VB false) h19) /\
 ((!s178) = false ->
 ((!(s109c == s119c)) = true ->
 K (VB false) h19) /\
 ((!(s109c == s119c)) = false ->
 pop P (binE .neq 36 (.tmp 187) (.tmp 188) (.agg #[(VI s109), (VI s109b)]) (.agg #[(VI s119), (VI s119b)])) fun r14 => ∃ s189 : Bool, r14 = (VB s189) /\ 
 (s189 = true ->
 K (VB false) h19) /\
 (s189 = false ->
 ((!(s129b == s139b)) = true ->
 K (VB false) h19) /\
 ((!(s129b == s139b)) = false ->
 ((!decide (s129 = s139)) = true ->
 K (VB false) h19) /\
 ((!decide (s129 = s139)) = false ->
 ((!(s149b == s159b)) = true ->
 K (VB false) h19) /\
 ((!(s149b == s159b)) = false ->
 callM P 32 #[s149.v, s159.v] h19 fun r15 h20 => ∃ s209 : Bool, r15 = (VB s209) /\ Vars h20 [(b3, [(VI s119), (VI s119b)]), (b2, [(VI s109), (VI s109b)]), (b1, [s55.v])] /\
 ((!s209) = true ->
 K (VB false) h20) /\
 ((!s209) = false ->
 ((!(s89b == s69b)) = true ->
 K (VB false) h20) /\
 ((!(s89b == s69b)) = false ->
 ((!(s109c == s69b)) = true ->
 K (VB false) h20) /\
 ((!(s109c == s69b)) = false ->
 ((!(s129b == s69b)) = true ->
 K (VB false) h20) /\
 ((!(s129b == s69b)) = false ->
 ((!(s149b == s69b)) = true ->
 K (VB false) h20) /\
 ((!(s149b == s69b)) = false ->
 ∃ J1 : Heap -> Prop, ((s69b = true ->
 callM P 33 #[(.agg #[s55.v]), (VI s55d), (VI s55e)] h20 fun r16 h21 => ∃ s237 : Int, ∃ s237b : Int, ∃ s237c : Bool, r16 = (.tuple #[(.agg #[(VI s237), (VI s237b)]), (VB s237c)]) /\ Vars h21 [(b3, [(VI s119), (VI s119b)]), (b2, [(VI s109), (VI s109b)]), (b1, [s55.v])] /\
 ((!s237c) = true ->
 ∀ (b4 : Nat) (h23 : Heap), h21.size ≤ b4 -> Fr (In []) h21 h23 -> Vars h23 [(b4, [(VI s237), (VI s237b)]), (b3, [(VI s119), (VI s119b)]), (b2, [(VI s109), (VI s109b)]), (b1, [s55.v])] ->
 K (VB false) h23) /\
 ((!s237c) = false ->
 ((!decide ((s89.n : Int) = s55f)) = true ->
 ∀ (b4 : Nat) (h23 : Heap), h21.size ≤ b4 -> Fr (In []) h21 h23 -> Vars h23 [(b4, [(VI s237), (VI s237b)]), (b3, [(VI s119), (VI s119b)]), (b2, [(VI s109), (VI s109b)]), (b1, [s55.v])] ->
 K (VB false) h23) /\
 ((!decide ((s89.n : Int) = s55f)) = false ->
 ∀ (b4 : Nat) (h23 : Heap), h21.size ≤ b4 -> Fr (In []) h21 h23 -> Vars h23 [(b4, [(VI s237), (VI s237b)]), (b3, [(VI s119), (VI s119b)]), (b2, [(VI s109), (VI s109b)]), (b1, [s55.v])] ->
 callM P 34 #[s89.v] h23 fun r17 h24 => ∃ s250 : Int, r17 = (VI s250) /\ Vars h24 [(b4, [(VI s237), (VI s237b)]), (b3, [(VI s119), (VI s119b)]), (b2, [(VI s109), (VI s109b)]), (b1, [s55.v])] /\
 ((!decide (s250 = s69)) = true ->
 K (VB false) h24) /\
 ((!decide (s250 = s69)) = false ->
 ((decide ((w64 (s237 * s109b)) < (w64 (s109 * s237b)))) = true ->
 K (VB false) h24) /\
 ((decide ((w64 (s237 * s109b)) < (w64 (s109 * s237b)))) = false ->
 ∃ J2 : Heap -> Prop, (((decide (0 < s55f)) = true ->
 callM P 30 #[(.agg #[s55.v]), s55b.v, (VI s55c), (VI s55d), (VI s55e), (VI (w64 (s55f - 1)))] h24 fun r18 h25 => ∃ s277 : Sl, ∃ s277b : Bool, r18 = (.tuple #[s277.v, (VB s277b)]) /\ Vars h25 [(b4, [(VI s237), (VI s237b)]), (b3, [(VI s119), (VI s119b)]), (b2, [(VI s109), (VI s109b)]), (b1, [s55.v])] /\
 callM P 24 #[(.agg #[s55.v]), s277.v, (VI s55c), (VI s55d), (VI s55e), (VI 1)] h25 fun r19 h26 => ∃ s286 : Sl, ∃ s286b : Bool, r19 = (.tuple #[s286.v, (VB s286b)]) /\ Vars h26 [(b4, [(VI s237), (VI s237b)]), (b3, [(VI s119), (VI s119b)]), (b2, [(VI s109), (VI s109b)]), (b1, [s55.v])] /\
 callM P 30 #[(.agg #[s55.v]), s277.v, (VI s55c), (VI s55d), (VI s55e), (VI 1)] h26 fun r20 h27 => ∃ s295 : Sl, ∃ s295b : Bool, r20 = (.tuple #[s295.v, (VB s295b)]) /\ Vars h27 [(b4, [(VI s237), (VI s237b)]), (b3, [(VI s119), (VI s119b)]), (b2, [(VI s109), (VI s109b)]), (b1, [s55.v])] /\
 callM P 22 #[(.agg #[s55.v]), s55b.v, (VI s55c), (VI s55d), (VI s55e), (VI (w64 (s55f - 1)))] h27 fun r21 h28 => ∃ s306 : Int, ∃ s306b : Bool, r21 = (.tuple #[(VI s306), (VB s306b)]) /\ Vars h28 [(b4, [(VI s237), (VI s237b)]), (b3, [(VI s119), (VI s119b)]), (b2, [(VI s109), (VI s109b)]), (b1, [s55.v])] /\
 ((!s277b) = true ->
 K (VB false) h28) /\
 ((!s277b) = false ->
 ((!s286b) = true ->
 K (VB false) h28) /\
 ((!s286b) = false ->
 ((!decide ((s286.n : Int) = 1)) = true ->
 K (VB false) h28) /\
 ((!decide ((s286.n : Int) = 1)) = false ->
 InB s286 0 /\
 ∃ s323 : Int, hcell h28 (Sl.at s286 0 1) = some (VI s323) /\
 InB s89 (w64 (s55f - 1)) /\
 ∃ s328 : Int, hcell h28 (Sl.at s89 (w64 (s55f - 1)) 1) = some (VI s328) /\
 ((!decide (s323 = s328)) = true ->
 hcell h28 (Sl.at s89 (w64 (s55f - 1)) 1) = some (VI s328) /\
 hcell h28 (Sl.at s286 0 1) = some (VI s323) /\
 K (VB false) h28) /\
 ((!decide (s323 = s328)) = false ->
 ((!s295b) = true ->
 hcell h28 (Sl.at s89 (w64 (s55f - 1)) 1) = some (VI s328) /\
 hcell h28 (Sl.at s286 0 1) = some (VI s323) /\
 K (VB false) h28) /\
 ((!s295b) = false ->
 callM P 32 #[s295.v, s149.v] h28 fun r22 h29 => ∃ s338 : Bool, r22 = (VB s338) /\ Vars h29 [(b4, [(VI s237), (VI s237b)]), (b3, [(VI s119), (VI s119b)]), (b2, [(VI s109), (VI s109b)]), (b1, [s55.v])] /\
 hcell h29 (Sl.at s89 (w64 (s55f - 1)) 1) = some (VI s328) /\
 hcell h29 (Sl.at s286 0 1) = some (VI s323) /\
 ((!s338) = true ->
 K (VB false) h29) /\
 ((!s338) = false ->
 ((!s306b) = true ->
 K (VB false) h29) /\
 ((!s306b) = false ->
 InB s286 0 /\
 ∃ s349 : Int, hcell h29 (Sl.at s286 0 1) = some (VI s349) /\
 ((!decide ((w64 (s306 + s349)) = s69)) = true ->
 K (VB false) h29) /\
 ((!decide ((w64 (s306 + s349)) = s69)) = false ->
 J2  h29))))))))) /\
 ((decide (0 < s55f)) = false ->
 J2  h24)) /\
 ∀ (h30 : Heap), J2  h30 -> Vars h30 [(b4, [(VI s237), (VI s237b)]), (b3, [(VI s119), (VI s119b)]), (b2, [(VI s109), (VI s109b)]), (b1, [s55.v])] ->
 callM P 22 #[(.agg #[s55.v]), s55b.v, (VI s55c), (VI s55e), (VI s55d), (VI s55f)] h30 fun r23 h31 => ∃ s361 : Int, ∃ s361b : Bool, r23 = (.tuple #[(VI s361), (VB s361b)]) /\ Vars h31 [(b4, [(VI s237), (VI s237b)]), (b3, [(VI s119), (VI s119b)]), (b2, [(VI s109), (VI s109b)]), (b1, [s55.v])] /\
 ((!s361b) = true ->
 K (VB false) h31) /\
 ((!s361b) = false ->
 ((!decide (s361 = (w64 (s55f - s69)))) = true ->
 K (VB false) h31) /\
 ((!decide (s361 = (w64 (s55f - s69)))) = false ->
 J1  h31))))))) /\
 (s69b = false ->
 J1  h20)) /\
 ∀ (h32 : Heap), J1  h32 -> Vars h32 [(b3, [(VI s119), (VI s119b)]), (b2, [(VI s109), (VI s109b)]), (b1, [s55.v])] ->
 callM P 35 #[more1_1.v] h32 fun r24 h33 => ∃ s375 : Sl, ∃ s375b : Int, ∃ s375c : Int, r24 = (.tuple #[(.agg #[s375.v]), (VI s375b), (VI s375c)]) /\ Vars h33 [(b3, [(VI s119), (VI s119b)]), (b2, [(VI s109), (VI s109b)]), (b1, [s55.v])] /\
 ∀ (b5 : Nat) (h35 : Heap), h33.size ≤ b5 -> Fr (In []) h33 h35 -> Vars h35 [(b5, [s375.v]), (b3, [(VI s119), (VI s119b)]), (b2, [(VI s109), (VI s109b)]), (b1, [s55.v])] ->
 callM P 33 #[(.agg #[s375.v]), (VI s375b), (VI s375c)] h35 fun r25 h36 => ∃ s383 : Int, ∃ s383b : Int, ∃ s383c : Bool, r25 = (.tuple #[(.agg #[(VI s383), (VI s383b)]), (VB s383c)]) /\ Vars h36 [(b5, [s375.v]), (b3, [(VI s119), (VI s119b)]), (b2, [(VI s109), (VI s109b)]), (b1, [s55.v])] /\
 ∀ (b6 : Nat) (h38 : Heap), h36.size ≤ b6 -> Fr (In []) h36 h38 -> Vars h38 [(b6, [(VI s383), (VI s383b)]), (b5, [s375.v]), (b3, [(VI s119), (VI s119b)]), (b2, [(VI s109), (VI s109b)]), (b1, [s55.v])] ->
 callM P 36 #[(.agg #[s375.v]), (VI s375b), (VI s375c)] h38 fun r26 h39 => ∃ s390 : Int, ∃ s390b : Int, ∃ s390c : Bool, r26 = (.tuple #[(.agg #[(VI s390), (VI s390b)]), (VB s390c)]) /\ Vars h39 [(b6, [(VI s383), (VI s383b)]), (b5, [s375.v]), (b3, [(VI s119), (VI s119b)]), (b2, [(VI s109), (VI s109b)]), (b1, [s55.v])] /\
 ((s383c == s390c) = true ->
 pop P (binE .eql 36 (.tmp 397) (.tmp 398) (.agg #[(VI s383), (VI s383b)]) (.agg #[(VI s390), (VI s390b)])) fun r27 => ∃ s399 : Bool, r27 = (VB s399) /\ 
 (s399 = true ->
 ((!s383c) = true ->
 ∀ (b7 : Nat) (h41 : Heap), h39.size ≤ b7 -> Fr (In []) h39 h41 -> Vars h41 [(b7, [(VI s390), (VI s390b)]), (b6, [(VI s383), (VI s383b)]), (b5, [s375.v]), (b3, [(VI s119), (VI s119b)]), (b2, [(VI s109), (VI s109b)]), (b1, [s55.v])] ->
 K (VB true) h41) /\
 ((!s383c) = false ->
 ∀ (b7 : Nat) (h41 : Heap), h39.size ≤ b7 -> Fr (In []) h39 h41 -> Vars h41 [(b7, [(VI s390), (VI s390b)]), (b6, [(VI s383), (VI s383b)]), (b5, [s375.v]), (b3, [(VI s119), (VI s119b)]), (b2, [(VI s109), (VI s109b)]), (b1, [s55.v])] ->
 K (VB (decide (s383b ≤ s383))) h41)) /\
 (s399 = false ->
 ∀ (b7 : Nat) (h41 : Heap), h39.size ≤ b7 -> Fr (In []) h39 h41 -> Vars h41 [(b7, [(VI s390), (VI s390b)]), (b6, [(VI s383), (VI s383b)]), (b5, [s375.v]), (b3, [(VI s119), (VI s119b)]), (b2, [(VI s109), (VI s109b)]), (b1, [s55.v])] ->
 K (VB false) h41)) /\
 ((s383c == s390c) = false ->
 ∀ (b7 : Nat) (h41 : Heap), h39.size ≤ b7 -> Fr (In []) h39 h41 -> Vars h41 [(b7, [(VI s390), (VI s390b)]), (b6, [(VI s383), (VI s383b)]), (b5, [s375.v]), (b3, [(VI s119), (VI s119b)]), (b2, [(VI s109), (VI s109b)]), (b1, [s55.v])] ->
 K (VB false) h41))))))))))))))))
theorem v4 (code0_1 : Sl) (more1_1 : Sl) (h : Heap) (K : Value -> Heap -> Prop) (H : u4 Try.prog code0_1 more1_1 h K) : callM Try.prog 4 #[code0_1.v, more1_1.v] h K := by
  refine c4 code0_1.v more1_1.v h K ?_
  unfold u4 at H
  unfold t4
  have hL : Vars h [] := .nil
  refine H.mono fun r1 h1 H => ?_
  obtain ⟨s52, rfl, hL1, H⟩ := H
  refine condM_b (fun hb1 => ?_) (fun hb1 => ?_)
  ·exact H.1 hb1
  have H := H.2 hb1
  refine H.mono fun r2 h2 H => ?_
  obtain ⟨s55, s55b, s55c, s55d, s55e, s55f, rfl, hL2, H⟩ := H
  refine pop_ext (v := (Value.agg #[s55.v])) rfl ?_
  refine pop_ext (v := s55b.v) rfl ?_
  refine pop_ext (v := (VI s55c)) rfl ?_
  refine pop_ext (v := (VI s55d)) rfl ?_
  refine pop_ext (v := (VI s55e)) rfl ?_
  refine pop_ext (v := (VI s55f)) rfl ?_
  refine eop_alloc 26 zer26 rfl hL2 (fun b1 h3 hb2 hf1 hL3 => ?_)
  refine ul siz26 hL3 0 0 [s55.v] [(b1, [s55.v])] (fun h4 hf2 hL4 => ?_)
  refine ra agg26 hL4 0 0 [s55.v] ?_
  have H := H b1 h4 hb2 (Fr.new (Fr.no' (Fr.r (In []) _) hf1) hb2 hf2) hL4
  refine H.mono fun r3 h5 H => ?_
  obtain ⟨s69, s69b, rfl, hL5, H⟩ := H
  refine pop_ext (v := (VI s69)) rfl ?_
  refine pop_ext (v := (VB s69b)) rfl ?_
  refine ra agg26 hL5 0 0 [s55.v] ?_
  refine H.mono fun r4 h6 H => ?_
  obtain ⟨s79, s79b, rfl, hL6, H⟩ := H
  refine pop_ext (v := (VI s79)) rfl ?_
  refine pop_ext (v := (VB s79b)) rfl ?_
  refine ra agg26 hL6 0 0 [s55.v] ?_
  refine H.mono fun r5 h7 H => ?_
  obtain ⟨s89, s89b, rfl, hL7, H⟩ := H
  refine pop_ext (v := s89.v) rfl ?_
  refine pop_ext (v := (VB s89b)) rfl ?_
  refine ra agg26 hL7 0 0 [s55.v] ?_
  refine H.mono fun r6 h8 H => ?_
  obtain ⟨s99, s99b, rfl, hL8, H⟩ := H
  refine pop_ext (v := s99.v) rfl ?_
  refine pop_ext (v := (VB s99b)) rfl ?_
  refine ra agg26 hL8 0 0 [s55.v] ?_
  refine H.mono fun r7 h9 H => ?_
  obtain ⟨s109, s109b, s109c, rfl, hL9, H⟩ := H
  refine pop_ext (v := (Value.agg #[(VI s109), (VI s109b)])) rfl ?_
  refine pop_ext (v := (VB s109c)) rfl ?_
  refine eop_alloc 36 zer36 rfl hL9 (fun b2 h10 hb3 hf3 hL10 => ?_)
  refine ul siz36 hL10 0 0 [(VI s109), (VI s109b)] [(b2, [(VI s109), (VI s109b)]), (b1, [s55.v])] (fun h11 hf4 hL11 => ?_)
  refine ra agg26 hL11 1 0 [s55.v] ?_
  have H := H b2 h11 hb3 (Fr.new (Fr.no' (Fr.r (In []) _) hf3) hb3 hf4) hL11
  refine H.mono fun r8 h12 H => ?_
  obtain ⟨s119, s119b, s119c, rfl, hL12, H⟩ := H
  refine pop_ext (v := (Value.agg #[(VI s119), (VI s119b)])) rfl ?_
  refine pop_ext (v := (VB s119c)) rfl ?_
  refine eop_alloc 36 zer36 rfl hL12 (fun b3 h13 hb4 hf5 hL13 => ?_)
  refine ul siz36 hL13 0 0 [(VI s119), (VI s119b)] [(b3, [(VI s119), (VI s119b)]), (b2, [(VI s109), (VI s109b)]), (b1, [s55.v])] (fun h14 hf6 hL14 => ?_)
  refine ra agg26 hL14 2 0 [s55.v] ?_
  have H := H b3 h14 hb4 (Fr.new (Fr.no' (Fr.r (In []) _) hf5) hb4 hf6) hL14
  refine H.mono fun r9 h15 H => ?_
  obtain ⟨s129, s129b, rfl, hL15, H⟩ := H
  refine pop_ext (v := (VI s129)) rfl ?_
  refine pop_ext (v := (VB s129b)) rfl ?_
  refine ra agg26 hL15 2 0 [s55.v] ?_
  refine H.mono fun r10 h16 H => ?_
  obtain ⟨s139, s139b, rfl, hL16, H⟩ := H
  refine pop_ext (v := (VI s139)) rfl ?_
  refine pop_ext (v := (VB s139b)) rfl ?_
  refine ra agg26 hL16 2 0 [s55.v] ?_
  refine H.mono fun r11 h17 H => ?_
  obtain ⟨s149, s149b, rfl, hL17, H⟩ := H
  refine pop_ext (v := s149.v) rfl ?_
  refine pop_ext (v := (VB s149b)) rfl ?_
  refine ra agg26 hL17 2 0 [s55.v] ?_
  refine H.mono fun r12 h18 H => ?_
  obtain ⟨s159, s159b, rfl, hL18, H⟩ := H
  refine pop_ext (v := s159.v) rfl ?_
  refine pop_ext (v := (VB s159b)) rfl ?_
  refine pop_bne boo4 _ _ s69b s79b ?_
  refine guardM_sf (fun hb5 => ?_) (fun hb5 => ?_)
  rotate_left
  ·have H := H.1 hb5
   refine gm hb5 ?_
   refine gm hb5 ?_
   refine pop_pickt' hb5 ?_
   refine gn ?_
   refine gn ?_
   refine gn ?_
   refine pop_pickt _ _ ?_
   refine gn ?_
   refine gn ?_
   refine gn ?_
   refine gn ?_
   refine pop_pickt _ _ ?_
   refine gn ?_
   refine gn ?_
   refine gn ?_
   refine pop_pickt _ _ ?_
   refine gn ?_
   refine gn ?_
   refine gn ?_
   refine pop_pickt _ _ ?_
   refine gn ?_
   refine gn ?_
   refine gn ?_
   refine pop_pickt _ _ ?_
   refine gn ?_
   refine gn ?_
   refine gn ?_
   refine pop_pickt _ _ ?_
   refine gn ?_
   refine gn ?_
   refine gn ?_
   refine pop_pickt _ _ ?_
   refine gn ?_
   refine gn ?_
   refine gn ?_
   refine gn ?_
   refine pop_pickt _ _ ?_
   refine gn ?_
   refine gn ?_
   refine gn ?_
   refine pop_pickt _ _ ?_
   refine gn ?_
   refine gn ?_
   refine gn ?_
   refine pop_pickt _ _ ?_
   refine gn ?_
   refine gn ?_
   refine gn ?_
   refine pop_pickt _ _ ?_
   refine gn ?_
   refine gn ?_
   refine gn ?_
   refine pop_pickt _ _ ?_
   refine condM_t ?_
   exact H
  have H := H.2 hb5
  refine gy hb5 ?_
  refine gy hb5 ?_
  refine pop_ine .i64 _ _ s69 s79 ?_
  refine pop_pickf' hb5 ?_
  refine guardM_sf (fun hb6 => ?_) (fun hb6 => ?_)
  rotate_left
  ·have H := H.1 hb6
   refine gm hb6 ?_
   refine gm hb6 ?_
   refine pop_pickt' hb6 ?_
   refine gn ?_
   refine gn ?_
   refine gn ?_
   refine gn ?_
   refine pop_pickt _ _ ?_
   refine gn ?_
   refine gn ?_
   refine gn ?_
   refine pop_pickt _ _ ?_
   refine gn ?_
   refine gn ?_
   refine gn ?_
   refine pop_pickt _ _ ?_
   refine gn ?_
   refine gn ?_
   refine gn ?_
   refine pop_pickt _ _ ?_
   refine gn ?_
   refine gn ?_
   refine gn ?_
   refine pop_pickt _ _ ?_
   refine gn ?_
   refine gn ?_
   refine gn ?_
   refine pop_pickt _ _ ?_
   refine gn ?_
   refine gn ?_
   refine gn ?_
   refine gn ?_
   refine pop_pickt _ _ ?_
   refine gn ?_
   refine gn ?_
   refine gn ?_
   refine pop_pickt _ _ ?_
   refine gn ?_
   refine gn ?_
   refine gn ?_
   refine pop_pickt _ _ ?_
   refine gn ?_
   refine gn ?_
   refine gn ?_
   refine pop_pickt _ _ ?_
   refine gn ?_
   refine gn ?_
   refine gn ?_
   refine pop_pickt _ _ ?_
   refine condM_t ?_
   exact H
  have H := H.2 hb6
  refine gy hb6 ?_
  refine gy hb6 ?_
  refine pop_bne boo4 _ _ s89b s99b ?_
  refine pop_pickf' hb6 ?_
  refine guardM_sf (fun hb7 => ?_) (fun hb7 => ?_)
  rotate_left
  ·have H := H.1 hb7
   refine gm hb7 ?_
   refine gm hb7 ?_
   refine gm hb7 ?_
   refine pop_pickt' hb7 ?_
   refine gn ?_
   refine gn ?_
   refine gn ?_
   refine pop_pickt _ _ ?_
   refine gn ?_
   refine gn ?_
   refine gn ?_
   refine pop_pickt _ _ ?_
   refine gn ?_
   refine gn ?_
   refine gn ?_
   refine pop_pickt _ _ ?_
   refine gn ?_
   refine gn ?_
   refine gn ?_
   refine pop_pickt _ _ ?_
   refine gn ?_
   refine gn ?_
   refine gn ?_
   refine pop_pickt _ _ ?_
   refine gn ?_
   refine gn ?_
   refine gn ?_
   refine gn ?_
   refine pop_pickt _ _ ?_
   refine gn ?_
   refine gn ?_
   refine gn ?_
   refine pop_pickt _ _ ?_
   refine gn ?_
   refine gn ?_
   refine gn ?_
   refine pop_pickt _ _ ?_
   refine gn ?_
   refine gn ?_
   refine gn ?_
   refine pop_pickt _ _ ?_
   refine gn ?_
   refine gn ?_
   refine gn ?_
   refine pop_pickt _ _ ?_
   refine condM_t ?_
   exact H
  have H := H.2 hb7
  refine gy hb7 ?_
  refine gy hb7 ?_
  refine H.mono fun r13 h19 H => ?_
  obtain ⟨s178, rfl, hL19, H⟩ := H
  refine gy hb7 ?_
  refine pop_not s178 ?_
  refine pop_pickf' hb7 ?_
  refine guardM_sf (fun hb8 => ?_) (fun hb8 => ?_)
  rotate_left
  ·have H := H.1 hb8
   refine gm hb8 ?_
   refine gm hb8 ?_
   refine pop_pickt' hb8 ?_
   refine gn ?_
   refine gn ?_
   refine gn ?_
   refine pop_pickt _ _ ?_
   refine gn ?_
   refine gn ?_
   refine gn ?_
   refine pop_pickt _ _ ?_
   refine gn ?_
   refine gn ?_
   refine gn ?_
   refine pop_pickt _ _ ?_
   refine gn ?_
   refine gn ?_
   refine gn ?_
   refine pop_pickt _ _ ?_
   refine gn ?_
   refine gn ?_
   refine gn ?_
   refine gn ?_
   refine pop_pickt _ _ ?_
   refine gn ?_
   refine gn ?_
   refine gn ?_
   refine pop_pickt _ _ ?_
   refine gn ?_
   refine gn ?_
   refine gn ?_
   refine pop_pickt _ _ ?_
   refine gn ?_
   refine gn ?_
   refine gn ?_
   refine pop_pickt _ _ ?_
   refine gn ?_
   refine gn ?_
   refine gn ?_
   refine pop_pickt _ _ ?_
   refine condM_t ?_
   exact H
  have H := H.2 hb8
  refine gy hb8 ?_
  refine gy hb8 ?_
  refine pop_bne boo4 _ _ s109c s119c ?_
  refine pop_pickf' hb8 ?_
  refine guardM_sf (fun hb9 => ?_) (fun hb9 => ?_)
  rotate_left
  ·have H := H.1 hb9
   refine gm hb9 ?_
   refine gm hb9 ?_
   refine pop_pickt' hb9 ?_
   refine gn ?_
   refine gn ?_
   refine gn ?_
   refine pop_pickt _ _ ?_
   refine gn ?_
   refine gn ?_
   refine gn ?_
   refine pop_pickt _ _ ?_
   refine gn ?_
   refine gn ?_
   refine gn ?_
   refine pop_pickt _ _ ?_
   refine gn ?_
   refine gn ?_
   refine gn ?_
   refine gn ?_
   refine pop_pickt _ _ ?_
   refine gn ?_
   refine gn ?_
   refine gn ?_
   refine pop_pickt _ _ ?_
   refine gn ?_
   refine gn ?_
   refine gn ?_
   refine pop_pickt _ _ ?_
   refine gn ?_
   refine gn ?_
   refine gn ?_
   refine pop_pickt _ _ ?_
   refine gn ?_
   refine gn ?_
   refine gn ?_
   refine pop_pickt _ _ ?_
   refine condM_t ?_
   exact H
  have H := H.2 hb9
  refine ra agg36 hL19 1 0 [(VI s109), (VI s109b)] ?_
  refine gy hb9 ?_
  refine ra agg36 hL19 0 0 [(VI s119), (VI s119b)] ?_
  refine gy hb9 ?_
  refine H.mono fun r14 H => ?_
  obtain ⟨s189, rfl, H⟩ := H
  refine pop_pickf' hb9 ?_
  refine guardM_sf (fun hb10 => ?_) (fun hb10 => ?_)
  rotate_left
  ·have H := H.1 hb10
   refine gm hb10 ?_
   refine gm hb10 ?_
   refine pop_pickt' hb10 ?_
   refine gn ?_
   refine gn ?_
   refine gn ?_
   refine pop_pickt _ _ ?_
   refine gn ?_
   refine gn ?_
   refine gn ?_
   refine pop_pickt _ _ ?_
   refine gn ?_
   refine gn ?_
   refine gn ?_
   refine gn ?_
   refine pop_pickt _ _ ?_
   refine gn ?_
   refine gn ?_
   refine gn ?_
   refine pop_pickt _ _ ?_
   refine gn ?_
   refine gn ?_
   refine gn ?_
   refine pop_pickt _ _ ?_
   refine gn ?_
   refine gn ?_
   refine gn ?_
   refine pop_pickt _ _ ?_
   refine gn ?_
   refine gn ?_
   refine gn ?_
   refine pop_pickt _ _ ?_
   refine condM_t ?_
   exact H
  have H := H.2 hb10
  refine gy hb10 ?_
  refine gy hb10 ?_
  refine pop_bne boo4 _ _ s129b s139b ?_
  refine pop_pickf' hb10 ?_
  refine guardM_sf (fun hb11 => ?_) (fun hb11 => ?_)
  rotate_left
  ·have H := H.1 hb11
   refine gm hb11 ?_
   refine gm hb11 ?_
   refine pop_pickt' hb11 ?_
   refine gn ?_
   refine gn ?_
   refine gn ?_
   refine pop_pickt _ _ ?_
   refine gn ?_
   refine gn ?_
   refine gn ?_
   refine gn ?_
   refine pop_pickt _ _ ?_
   refine gn ?_
   refine gn ?_
   refine gn ?_
   refine pop_pickt _ _ ?_
   refine gn ?_
   refine gn ?_
   refine gn ?_
   refine pop_pickt _ _ ?_
   refine gn ?_
   refine gn ?_
   refine gn ?_
   refine pop_pickt _ _ ?_
   refine gn ?_
   refine gn ?_
   refine gn ?_
   refine pop_pickt _ _ ?_
   refine condM_t ?_
   exact H
  have H := H.2 hb11
  refine gy hb11 ?_
  refine gy hb11 ?_
  refine pop_ine .i64 _ _ s129 s139 ?_
  refine pop_pickf' hb11 ?_
  refine guardM_sf (fun hb12 => ?_) (fun hb12 => ?_)
  rotate_left
  ·have H := H.1 hb12
   refine gm hb12 ?_
   refine gm hb12 ?_
   refine pop_pickt' hb12 ?_
   refine gn ?_
   refine gn ?_
   refine gn ?_
   refine gn ?_
   refine pop_pickt _ _ ?_
   refine gn ?_
   refine gn ?_
   refine gn ?_
   refine pop_pickt _ _ ?_
   refine gn ?_
   refine gn ?_
   refine gn ?_
   refine pop_pickt _ _ ?_
   refine gn ?_
   refine gn ?_
   refine gn ?_
   refine pop_pickt _ _ ?_
   refine gn ?_
   refine gn ?_
   refine gn ?_
   refine pop_pickt _ _ ?_
   refine condM_t ?_
   exact H
  have H := H.2 hb12
  refine gy hb12 ?_
  refine gy hb12 ?_
  refine pop_bne boo4 _ _ s149b s159b ?_
  refine pop_pickf' hb12 ?_
  refine guardM_sf (fun hb13 => ?_) (fun hb13 => ?_)
  rotate_left
  ·have H := H.1 hb13
   refine gm hb13 ?_
   refine gm hb13 ?_
   refine gm hb13 ?_
   refine pop_pickt' hb13 ?_
   refine gn ?_
   refine gn ?_
   refine gn ?_
   refine pop_pickt _ _ ?_
   refine gn ?_
   refine gn ?_
   refine gn ?_
   refine pop_pickt _ _ ?_
   refine gn ?_
   refine gn ?_
   refine gn ?_
   refine pop_pickt _ _ ?_
   refine gn ?_
   refine gn ?_
   refine gn ?_
   refine pop_pickt _ _ ?_
   refine condM_t ?_
   exact H
  have H := H.2 hb13
  refine gy hb13 ?_
  refine gy hb13 ?_
  refine H.mono fun r15 h20 H => ?_
  obtain ⟨s209, rfl, hL20, H⟩ := H
  refine gy hb13 ?_
  refine pop_not s209 ?_
  refine pop_pickf' hb13 ?_
  refine guardM_sf (fun hb14 => ?_) (fun hb14 => ?_)
  rotate_left
  ·have H := H.1 hb14
   refine gm hb14 ?_
   refine gm hb14 ?_
   refine pop_pickt' hb14 ?_
   refine gn ?_
   refine gn ?_
   refine gn ?_
   refine pop_pickt _ _ ?_
   refine gn ?_
   refine gn ?_
   refine gn ?_
   refine pop_pickt _ _ ?_
   refine gn ?_
   refine gn ?_
   refine gn ?_
   refine pop_pickt _ _ ?_
   refine condM_t ?_
   exact H
  have H := H.2 hb14
  refine gy hb14 ?_
  refine gy hb14 ?_
  refine pop_bne boo4 _ _ s89b s69b ?_
  refine pop_pickf' hb14 ?_
  refine guardM_sf (fun hb15 => ?_) (fun hb15 => ?_)
  rotate_left
  ·have H := H.1 hb15
   refine gm hb15 ?_
   refine gm hb15 ?_
   refine pop_pickt' hb15 ?_
   refine gn ?_
   refine gn ?_
   refine gn ?_
   refine pop_pickt _ _ ?_
   refine gn ?_
   refine gn ?_
   refine gn ?_
   refine pop_pickt _ _ ?_
   refine condM_t ?_
   exact H
  have H := H.2 hb15
  refine gy hb15 ?_
  refine gy hb15 ?_
  refine pop_bne boo4 _ _ s109c s69b ?_
  refine pop_pickf' hb15 ?_
  refine guardM_sf (fun hb16 => ?_) (fun hb16 => ?_)
  rotate_left
  ·have H := H.1 hb16
   refine gm hb16 ?_
   refine gm hb16 ?_
   refine pop_pickt' hb16 ?_
   refine gn ?_
   refine gn ?_
   refine gn ?_
   refine pop_pickt _ _ ?_
   refine condM_t ?_
   exact H
  have H := H.2 hb16
  refine gy hb16 ?_
  refine gy hb16 ?_
  refine pop_bne boo4 _ _ s129b s69b ?_
  refine pop_pickf' hb16 ?_
  refine guardM_sf (fun hb17 => ?_) (fun hb17 => ?_)
  rotate_left
  ·have H := H.1 hb17
   refine gm hb17 ?_
   refine gm hb17 ?_
   refine pop_pickt' hb17 ?_
   refine condM_t ?_
   exact H
  have H := H.2 hb17
  refine gy hb17 ?_
  refine gy hb17 ?_
  refine pop_bne boo4 _ _ s149b s69b ?_
  refine pop_pickf' hb17 ?_
  refine condM_b (fun hb18 => ?_) (fun hb18 => ?_)
  ·exact H.1 hb18
  have H := H.2 hb18
  obtain ⟨J1, H, HB2⟩ := H
  refine ⟨fun (vs : List Value) (h' : Heap) => vs = [] /\ J1  h' /\ Vars h' [(b3, [(VI s119), (VI s119b)]), (b2, [(VI s109), (VI s109b)]), (b1, [s55.v])], ?_, ?_⟩
  ·refine condM_b (fun hb19 => ?_) (fun hb19 => ?_)
   rotate_left
   ·have H := H.2 hb19
    exact ⟨rfl, H, hL20⟩
   have H := H.1 hb19
   refine ra agg26 hL20 2 0 [s55.v] ?_
   refine H.mono fun r16 h21 H => ?_
   obtain ⟨s237, s237b, s237c, rfl, hL21, H⟩ := H
   refine pop_ext (v := (Value.agg #[(VI s237), (VI s237b)])) rfl ?_
   refine pop_ext (v := (VB s237c)) rfl ?_
   refine eop_alloc 36 zer36 rfl hL21 (fun b4 h22 hb20 hf7 hL22 => ?_)
   refine ul siz36 hL22 0 0 [(VI s237), (VI s237b)] [(b4, [(VI s237), (VI s237b)]), (b3, [(VI s119), (VI s119b)]), (b2, [(VI s109), (VI s109b)]), (b1, [s55.v])] (fun h23 hf8 hL23 => ?_)
   refine pop_not s237c ?_
   refine guardM_sf (fun hb21 => ?_) (fun hb21 => ?_)
   rotate_left
   ·have H := H.1 hb21
    refine gm hb21 ?_
    refine gm hb21 ?_
    refine gm hb21 ?_
    refine pop_pickt' hb21 ?_
    refine gn ?_
    refine gn ?_
    refine gn ?_
    refine gn ?_
    refine pop_pickt _ _ ?_
    refine gn ?_
    refine gn ?_
    refine gn ?_
    refine gn ?_
    refine gn ?_
    refine gn ?_
    refine gn ?_
    refine gn ?_
    refine gn ?_
    refine gn ?_
    refine gn ?_
    refine pop_pickt _ _ ?_
    refine condM_t ?_
    have H := H b4 h23 hb20 (Fr.new (Fr.no' (Fr.r (In []) _) hf7) hb20 hf8) hL23
    exact H
   have H := H.2 hb21
   refine gy hb21 ?_
   refine pop_len s89 _ _ sli37 ?_
   refine gy hb21 ?_
   refine gy hb21 ?_
   refine pop_ine .i64 _ _ (s89.n : Int) s55f ?_
   refine pop_pickf' hb21 ?_
   refine guardM_sf (fun hb22 => ?_) (fun hb22 => ?_)
   rotate_left
   ·have H := H.1 hb22
    refine gm hb22 ?_
    refine gm hb22 ?_
    refine gm hb22 ?_
    refine pop_pickt' hb22 ?_
    refine gn ?_
    refine gn ?_
    refine gn ?_
    refine gn ?_
    refine gn ?_
    refine gn ?_
    refine gn ?_
    refine gn ?_
    refine gn ?_
    refine gn ?_
    refine gn ?_
    refine pop_pickt _ _ ?_
    refine condM_t ?_
    have H := H b4 h23 hb20 (Fr.new (Fr.no' (Fr.r (In []) _) hf7) hb20 hf8) hL23
    exact H
   have H := H.2 hb22
   refine gy hb22 ?_
   have H := H b4 h23 hb20 (Fr.new (Fr.no' (Fr.r (In []) _) hf7) hb20 hf8) hL23
   refine H.mono fun r17 h24 H => ?_
   obtain ⟨s250, rfl, hL24, H⟩ := H
   refine gy hb22 ?_
   refine gy hb22 ?_
   refine pop_ine .i64 _ _ s250 s69 ?_
   refine pop_pickf' hb22 ?_
   refine guardM_sf (fun hb23 => ?_) (fun hb23 => ?_)
   rotate_left
   ·have H := H.1 hb23
    refine gm hb23 ?_
    refine gm hb23 ?_
    refine gm hb23 ?_
    refine gm hb23 ?_
    refine gm hb23 ?_
    refine gm hb23 ?_
    refine gm hb23 ?_
    refine gm hb23 ?_
    refine gm hb23 ?_
    refine gm hb23 ?_
    refine pop_pickt' hb23 ?_
    refine condM_t ?_
    exact H
   have H := H.2 hb23
   refine pop_field 0 fld36_0 b2 0 ?_
   refine gy hb23 ?_
   refine rl one3 hL24 2 0 (VI s109) ?_
   refine gy hb23 ?_
   refine pop_field 1 fld36_1 b4 0 ?_
   refine gy hb23 ?_
   refine rl one3 hL24 0 1 (VI s237b) ?_
   refine gy hb23 ?_
   refine pop_mul .i64 s109 s237b ?_
   refine gy hb23 ?_
   refine pop_field 0 fld36_0 b4 0 ?_
   refine gy hb23 ?_
   refine rl one3 hL24 0 0 (VI s237) ?_
   refine gy hb23 ?_
   refine pop_field 1 fld36_1 b2 0 ?_
   refine gy hb23 ?_
   refine rl one3 hL24 2 1 (VI s109b) ?_
   refine gy hb23 ?_
   refine pop_mul .i64 s237 s109b ?_
   refine gy hb23 ?_
   refine pop_gtr .i64 (w64 (s109 * s237b)) (w64 (s237 * s109b)) ?_
   refine pop_pickf' hb23 ?_
   refine condM_b (fun hb24 => ?_) (fun hb24 => ?_)
   ·exact H.1 hb24
   have H := H.2 hb24
   obtain ⟨J2, H, HB1⟩ := H
   refine ⟨fun (vs : List Value) (h' : Heap) => vs = [] /\ J2  h' /\ Vars h' [(b4, [(VI s237), (VI s237b)]), (b3, [(VI s119), (VI s119b)]), (b2, [(VI s109), (VI s109b)]), (b1, [s55.v])], ?_, ?_⟩
   ·refine pop_gtr .i64 s55f 0 ?_
    refine condM_b (fun hb25 => ?_) (fun hb25 => ?_)
    rotate_left
    ·have H := H.2 hb25
     exact ⟨rfl, H, hL24⟩
    have H := H.1 hb25
    refine ra agg26 hL24 3 0 [s55.v] ?_
    refine pop_sub .i64 s55f 1 ?_
    refine H.mono fun r18 h25 H => ?_
    obtain ⟨s277, s277b, rfl, hL25, H⟩ := H
    refine pop_ext (v := s277.v) rfl ?_
    refine pop_ext (v := (VB s277b)) rfl ?_
    refine ra agg26 hL25 3 0 [s55.v] ?_
    refine H.mono fun r19 h26 H => ?_
    obtain ⟨s286, s286b, rfl, hL26, H⟩ := H
    refine pop_ext (v := s286.v) rfl ?_
    refine pop_ext (v := (VB s286b)) rfl ?_
    refine ra agg26 hL26 3 0 [s55.v] ?_
    refine H.mono fun r20 h27 H => ?_
    obtain ⟨s295, s295b, rfl, hL27, H⟩ := H
    refine pop_ext (v := s295.v) rfl ?_
    refine pop_ext (v := (VB s295b)) rfl ?_
    refine ra agg26 hL27 3 0 [s55.v] ?_
    refine pop_sub .i64 s55f 1 ?_
    refine H.mono fun r21 h28 H => ?_
    obtain ⟨s306, s306b, rfl, hL28, H⟩ := H
    refine pop_ext (v := (VI s306)) rfl ?_
    refine pop_ext (v := (VB s306b)) rfl ?_
    refine pop_not s277b ?_
    refine guardM_sf (fun hb26 => ?_) (fun hb26 => ?_)
    rotate_left
    ·have H := H.1 hb26
     refine gm hb26 ?_
     refine pop_pickt' hb26 ?_
     refine gn ?_
     refine gn ?_
     refine gn ?_
     refine pop_pickt _ _ ?_
     refine gn ?_
     refine gn ?_
     refine gn ?_
     refine gn ?_
     refine gn ?_
     refine gn ?_
     refine gn ?_
     refine gn ?_
     refine gn ?_
     refine pop_pickt _ _ ?_
     refine gn ?_
     refine gn ?_
     refine pop_pickt _ _ ?_
     refine gn ?_
     refine gn ?_
     refine gn ?_
     refine ⟨⟨_, rfl, fun h => absurd (h.symm.trans rfl) (by decide), fun _ => rfl⟩, ?_⟩
     refine ⟨⟨_, rfl, fun h => absurd (h.symm.trans rfl) (by decide), fun _ => rfl⟩, ?_⟩
     refine gn ?_
     refine pop_pickt _ _ ?_
     refine gn ?_
     refine gn ?_
     refine pop_pickt _ _ ?_
     refine gn ?_
     refine gn ?_
     refine gn ?_
     refine gn ?_
     refine gn ?_
     refine gn ?_
     refine gn ?_
     refine pop_pickt _ _ ?_
     refine condM_t ?_
     exact H
    have H := H.2 hb26
    refine gy hb26 ?_
    refine pop_not s286b ?_
    refine pop_pickf' hb26 ?_
    refine guardM_sf (fun hb27 => ?_) (fun hb27 => ?_)
    rotate_left
    ·have H := H.1 hb27
     refine gm hb27 ?_
     refine gm hb27 ?_
     refine pop_pickt' hb27 ?_
     refine gn ?_
     refine gn ?_
     refine gn ?_
     refine gn ?_
     refine gn ?_
     refine gn ?_
     refine gn ?_
     refine gn ?_
     refine gn ?_
     refine pop_pickt _ _ ?_
     refine gn ?_
     refine gn ?_
     refine pop_pickt _ _ ?_
     refine gn ?_
     refine gn ?_
     refine gn ?_
     refine ⟨⟨_, rfl, fun h => absurd (h.symm.trans rfl) (by decide), fun _ => rfl⟩, ?_⟩
     refine ⟨⟨_, rfl, fun h => absurd (h.symm.trans rfl) (by decide), fun _ => rfl⟩, ?_⟩
     refine gn ?_
     refine pop_pickt _ _ ?_
     refine gn ?_
     refine gn ?_
     refine pop_pickt _ _ ?_
     refine gn ?_
     refine gn ?_
     refine gn ?_
     refine gn ?_
     refine gn ?_
     refine gn ?_
     refine gn ?_
     refine pop_pickt _ _ ?_
     refine condM_t ?_
     exact H
    have H := H.2 hb27
    refine gy hb27 ?_
    refine pop_len s286 _ _ sli37 ?_
    refine gy hb27 ?_
    refine pop_ine .i64 _ _ (s286.n : Int) 1 ?_
    refine pop_pickf' hb27 ?_
    refine guardM_sf (fun hb28 => ?_) (fun hb28 => ?_)
    rotate_left
    ·have H := H.1 hb28
     refine gm hb28 ?_
     refine gm hb28 ?_
     refine gm hb28 ?_
     refine gm hb28 ?_
     refine gm hb28 ?_
     refine gm hb28 ?_
     refine gm hb28 ?_
     refine gm hb28 ?_
     refine pop_pickt' hb28 ?_
     refine gn ?_
     refine gn ?_
     refine pop_pickt _ _ ?_
     refine gn ?_
     refine gn ?_
     refine gn ?_
     refine ⟨⟨_, rfl, fun h => absurd (h.symm.trans hb28) (by decide), fun _ => rfl⟩, ?_⟩
     refine ⟨⟨_, rfl, fun h => absurd (h.symm.trans hb28) (by decide), fun _ => rfl⟩, ?_⟩
     refine gn ?_
     refine pop_pickt _ _ ?_
     refine gn ?_
     refine gn ?_
     refine pop_pickt _ _ ?_
     refine gn ?_
     refine gn ?_
     refine gn ?_
     refine gn ?_
     refine gn ?_
     refine gn ?_
     refine gn ?_
     refine pop_pickt _ _ ?_
     refine condM_t ?_
     exact H
    have H := H.2 hb28
    refine gy hb28 ?_
    obtain ⟨hi1, H⟩ := H
    refine pop_index sli37 siz3 .i64 s286 0 hi1 ?_
    refine gy hb28 ?_
    obtain ⟨s323, hc9, H⟩ := H
    refine rop_one one3 (VI s323) hc9 ?_
    refine gy hb28 ?_
    refine gy hb28 ?_
    refine gy hb28 ?_
    refine pop_sub .i64 s55f 1 ?_
    refine gy hb28 ?_
    obtain ⟨hi2, H⟩ := H
    refine pop_index sli37 siz3 .i64 s89 (w64 (s55f - 1)) hi2 ?_
    refine gy hb28 ?_
    obtain ⟨s328, hc8, H⟩ := H
    refine rop_one one3 (VI s328) hc8 ?_
    refine gy hb28 ?_
    refine pop_ine .i64 _ _ s323 s328 ?_
    refine pop_pickf' hb28 ?_
    refine guardM_sf (fun hb29 => ?_) (fun hb29 => ?_)
    rotate_left
    ·have H := H.1 hb29
     refine gm hb29 ?_
     refine pop_pickt' hb29 ?_
     refine gn ?_
     refine gn ?_
     refine gn ?_
     refine ⟨⟨_, rfl, fun _ => ?_, fun h => absurd hb28 h⟩, ?_⟩
     ·exact still_one one3 H.1
     obtain ⟨hc6, H⟩ := H
     refine ⟨⟨_, rfl, fun _ => ?_, fun h => absurd hb28 h⟩, ?_⟩
     ·exact still_one one3 H.1
     obtain ⟨hc7, H⟩ := H
     refine gn ?_
     refine pop_pickt _ _ ?_
     refine gn ?_
     refine gn ?_
     refine pop_pickt _ _ ?_
     refine gn ?_
     refine gn ?_
     refine gn ?_
     refine gn ?_
     refine gn ?_
     refine gn ?_
     refine gn ?_
     refine pop_pickt _ _ ?_
     refine condM_t ?_
     exact H
    have H := H.2 hb29
    refine gy hb29 ?_
    refine pop_not s295b ?_
    refine pop_pickf' hb29 ?_
    refine guardM_sf (fun hb30 => ?_) (fun hb30 => ?_)
    rotate_left
    ·have H := H.1 hb30
     refine gm hb30 ?_
     refine gm hb30 ?_
     refine ⟨⟨_, rfl, fun _ => ?_, fun h => absurd hb28 h⟩, ?_⟩
     ·exact still_one one3 H.1
     obtain ⟨hc4, H⟩ := H
     refine ⟨⟨_, rfl, fun _ => ?_, fun h => absurd hb28 h⟩, ?_⟩
     ·exact still_one one3 H.1
     obtain ⟨hc5, H⟩ := H
     refine gm hb30 ?_
     refine pop_pickt' hb30 ?_
     refine gn ?_
     refine gn ?_
     refine pop_pickt _ _ ?_
     refine gn ?_
     refine gn ?_
     refine gn ?_
     refine gn ?_
     refine gn ?_
     refine gn ?_
     refine gn ?_
     refine pop_pickt _ _ ?_
     refine condM_t ?_
     exact H
    have H := H.2 hb30
    refine gy hb30 ?_
    refine gy hb30 ?_
    refine H.mono fun r22 h29 H => ?_
    obtain ⟨s338, rfl, hL29, H⟩ := H
    refine ⟨⟨_, rfl, fun _ => ?_, fun h => absurd hb28 h⟩, ?_⟩
    ·exact still_one one3 H.1
    obtain ⟨hc1, H⟩ := H
    refine ⟨⟨_, rfl, fun _ => ?_, fun h => absurd hb28 h⟩, ?_⟩
    ·exact still_one one3 H.1
    obtain ⟨hc2, H⟩ := H
    refine gy hb30 ?_
    refine pop_not s338 ?_
    refine pop_pickf' hb30 ?_
    refine guardM_sf (fun hb31 => ?_) (fun hb31 => ?_)
    rotate_left
    ·have H := H.1 hb31
     refine gm hb31 ?_
     refine pop_pickt' hb31 ?_
     refine gn ?_
     refine gn ?_
     refine gn ?_
     refine gn ?_
     refine gn ?_
     refine gn ?_
     refine gn ?_
     refine pop_pickt _ _ ?_
     refine condM_t ?_
     exact H
    have H := H.2 hb31
    refine gy hb31 ?_
    refine pop_not s306b ?_
    refine pop_pickf' hb31 ?_
    refine guardM_sf (fun hb32 => ?_) (fun hb32 => ?_)
    rotate_left
    ·have H := H.1 hb32
     refine gm hb32 ?_
     refine gm hb32 ?_
     refine gm hb32 ?_
     refine gm hb32 ?_
     refine gm hb32 ?_
     refine gm hb32 ?_
     refine pop_pickt' hb32 ?_
     refine condM_t ?_
     exact H
    have H := H.2 hb32
    refine gy hb32 ?_
    refine gy hb32 ?_
    obtain ⟨hi3, H⟩ := H
    refine pop_index sli37 siz3 .i64 s286 0 hi3 ?_
    refine gy hb32 ?_
    obtain ⟨s349, hc3, H⟩ := H
    refine rop_one one3 (VI s349) hc3 ?_
    refine gy hb32 ?_
    refine pop_add .i64 s306 s349 ?_
    refine gy hb32 ?_
    refine gy hb32 ?_
    refine pop_ine .i64 _ _ (w64 (s306 + s349)) s69 ?_
    refine pop_pickf' hb32 ?_
    refine condM_b (fun hb33 => ?_) (fun hb33 => ?_)
    ·exact H.1 hb33
    have H := H.2 hb33
    exact ⟨rfl, H, hL29⟩
   intro junk1  h30
   rintro ⟨hv, hJ1, hL30⟩
   have H := HB1  h30 hJ1 hL30
   refine ra agg26 hL30 3 0 [s55.v] ?_
   refine H.mono fun r23 h31 H => ?_
   obtain ⟨s361, s361b, rfl, hL31, H⟩ := H
   refine pop_ext (v := (VI s361)) rfl ?_
   refine pop_ext (v := (VB s361b)) rfl ?_
   refine pop_not s361b ?_
   refine guardM_sf (fun hb34 => ?_) (fun hb34 => ?_)
   rotate_left
   ·have H := H.1 hb34
    refine gm hb34 ?_
    refine gm hb34 ?_
    refine gm hb34 ?_
    refine gm hb34 ?_
    refine pop_pickt' hb34 ?_
    refine condM_t ?_
    exact H
   have H := H.2 hb34
   refine gy hb34 ?_
   refine gy hb34 ?_
   refine gy hb34 ?_
   refine pop_sub .i64 s55f s69 ?_
   refine gy hb34 ?_
   refine pop_ine .i64 _ _ s361 (w64 (s55f - s69)) ?_
   refine pop_pickf' hb34 ?_
   refine condM_b (fun hb35 => ?_) (fun hb35 => ?_)
   ·exact H.1 hb35
   have H := H.2 hb35
   exact ⟨rfl, H, Vars.pick hL31 [1, 2, 3] rfl⟩
  intro junk2  h32
  rintro ⟨hv, hJ2, hL32⟩
  have H := HB2  h32 hJ2 hL32
  refine H.mono fun r24 h33 H => ?_
  obtain ⟨s375, s375b, s375c, rfl, hL33, H⟩ := H
  refine pop_ext (v := (Value.agg #[s375.v])) rfl ?_
  refine pop_ext (v := (VI s375b)) rfl ?_
  refine pop_ext (v := (VI s375c)) rfl ?_
  refine eop_alloc 26 zer26 rfl hL33 (fun b5 h34 hb36 hf9 hL34 => ?_)
  refine ul siz26 hL34 0 0 [s375.v] [(b5, [s375.v]), (b3, [(VI s119), (VI s119b)]), (b2, [(VI s109), (VI s109b)]), (b1, [s55.v])] (fun h35 hf10 hL35 => ?_)
  refine ra agg26 hL35 0 0 [s375.v] ?_
  have H := H b5 h35 hb36 (Fr.new (Fr.no' (Fr.r (In []) _) hf9) hb36 hf10) hL35
  refine H.mono fun r25 h36 H => ?_
  obtain ⟨s383, s383b, s383c, rfl, hL36, H⟩ := H
  refine pop_ext (v := (Value.agg #[(VI s383), (VI s383b)])) rfl ?_
  refine pop_ext (v := (VB s383c)) rfl ?_
  refine eop_alloc 36 zer36 rfl hL36 (fun b6 h37 hb37 hf11 hL37 => ?_)
  refine ul siz36 hL37 0 0 [(VI s383), (VI s383b)] [(b6, [(VI s383), (VI s383b)]), (b5, [s375.v]), (b3, [(VI s119), (VI s119b)]), (b2, [(VI s109), (VI s109b)]), (b1, [s55.v])] (fun h38 hf12 hL38 => ?_)
  refine ra agg26 hL38 1 0 [s375.v] ?_
  have H := H b6 h38 hb37 (Fr.new (Fr.no' (Fr.r (In []) _) hf11) hb37 hf12) hL38
  refine H.mono fun r26 h39 H => ?_
  obtain ⟨s390, s390b, s390c, rfl, hL39, H⟩ := H
  refine pop_ext (v := (Value.agg #[(VI s390), (VI s390b)])) rfl ?_
  refine pop_ext (v := (VB s390c)) rfl ?_
  refine eop_alloc 36 zer36 rfl hL39 (fun b7 h40 hb38 hf13 hL40 => ?_)
  refine ul siz36 hL40 0 0 [(VI s390), (VI s390b)] [(b7, [(VI s390), (VI s390b)]), (b6, [(VI s383), (VI s383b)]), (b5, [s375.v]), (b3, [(VI s119), (VI s119b)]), (b2, [(VI s109), (VI s109b)]), (b1, [s55.v])] (fun h41 hf14 hL41 => ?_)
  refine pop_beq boo4 _ _ s383c s390c ?_
  refine guardM_st (fun hb39 => ?_) (fun hb39 => ?_)
  rotate_left
  ·have H := H.2 hb39
   refine gm hb39 ?_
   refine gm hb39 ?_
   refine pop_pickf' hb39 ?_
   refine gn ?_
   refine gn ?_
   refine gn ?_
   refine gn ?_
   refine gn ?_
   refine gn ?_
   refine gn ?_
   refine gn ?_
   refine gn ?_
   refine pop_pickf _ _ ?_
   have H := H b7 h41 hb38 (Fr.new (Fr.no' (Fr.r (In []) _) hf13) hb38 hf14) hL41
   exact H
  have H := H.1 hb39
  refine ra agg36 hL41 1 0 [(VI s383), (VI s383b)] ?_
  refine gy hb39 ?_
  refine ra agg36 hL41 0 0 [(VI s390), (VI s390b)] ?_
  refine gy hb39 ?_
  refine H.mono fun r27 H => ?_
  obtain ⟨s399, rfl, H⟩ := H
  refine pop_pickt' hb39 ?_
  refine guardM_st (fun hb40 => ?_) (fun hb40 => ?_)
  rotate_left
  ·have H := H.2 hb40
   refine gm hb40 ?_
   refine gm hb40 ?_
   refine gn ?_
   refine gn ?_
   refine gn ?_
   refine gn ?_
   refine gn ?_
   refine gm hb40 ?_
   refine pop_pickf' hb40 ?_
   have H := H b7 h41 hb38 (Fr.new (Fr.no' (Fr.r (In []) _) hf13) hb38 hf14) hL41
   exact H
  have H := H.1 hb40
  refine gy hb40 ?_
  refine pop_not s383c ?_
  refine gy hb40 ?_
  refine guardM_sf (fun hb41 => ?_) (fun hb41 => ?_)
  rotate_left
  ·have H := H.1 hb41
   refine gm hb41 ?_
   refine gm hb41 ?_
   refine gm hb41 ?_
   refine gm hb41 ?_
   refine gy hb40 ?_
   refine pop_pickt' hb41 ?_
   refine pop_pickt' hb40 ?_
   have H := H b7 h41 hb38 (Fr.new (Fr.no' (Fr.r (In []) _) hf13) hb38 hf14) hL41
   exact H
  have H := H.2 hb41
  refine pop_field 0 fld36_0 b6 0 ?_
  refine gy hb41 ?_
  refine rl one3 hL41 1 0 (VI s383) ?_
  refine gy hb41 ?_
  refine pop_field 1 fld36_1 b6 0 ?_
  refine gy hb41 ?_
  refine rl one3 hL41 1 1 (VI s383b) ?_
  refine gy hb41 ?_
  refine pop_geq .i64 s383 s383b ?_
  refine gy hb40 ?_
  refine pop_pickf' hb41 ?_
  refine pop_pickt' hb40 ?_
  have H := H b7 h41 hb38 (Fr.new (Fr.no' (Fr.r (In []) _) hf13) hb38 hf14) hL41
  exact H
def u6 (P : Program) (code0_1 : Sl) (more1_1 : Sl) (h : Heap) (K : Value -> Heap -> Prop) : Prop :=
 ((decide (1048576 < (code0_1.n : Int))) = true ->
 K (VB true) h) /\
 ((decide (1048576 < (code0_1.n : Int))) = false ->
 K (VB (decide ((w64 (1048576 - (code0_1.n : Int))) < (more1_1.n : Int)))) h)
theorem v6 (code0_1 : Sl) (more1_1 : Sl) (h : Heap) (K : Value -> Heap -> Prop) (H : u6 Try.prog code0_1 more1_1 h K) : callM Try.prog 6 #[code0_1.v, more1_1.v] h K := by
  refine c6 code0_1.v more1_1.v h K ?_
  unfold u6 at H
  unfold t6
  have hL : Vars h [] := .nil
  refine pop_len code0_1 _ _ sli22 ?_
  refine pop_gtr .i64 (code0_1.n : Int) 1048576 ?_
  refine guardM_sf (fun hb1 => ?_) (fun hb1 => ?_)
  rotate_left
  ·have H := H.1 hb1
   refine gm hb1 ?_
   refine gm hb1 ?_
   refine gm hb1 ?_
   refine gm hb1 ?_
   refine gm hb1 ?_
   refine pop_pickt' hb1 ?_
   exact H
  have H := H.2 hb1
  refine gy hb1 ?_
  refine pop_len more1_1 _ _ sli22 ?_
  refine gy hb1 ?_
  refine gy hb1 ?_
  refine pop_len code0_1 _ _ sli22 ?_
  refine gy hb1 ?_
  refine pop_sub .i64 1048576 (code0_1.n : Int) ?_
  refine gy hb1 ?_
  refine pop_gtr .i64 (more1_1.n : Int) (w64 (1048576 - (code0_1.n : Int))) ?_
  refine pop_pickf' hb1 ?_
  exact H
def u7 (P : Program) (code0_1 : Sl) (h : Heap) (K : Value -> Heap -> Prop) : Prop :=
 ∀ (b1 : Nat) (b2 : Nat) (h2 : Heap), h.size ≤ b1 -> h.size ≤ b2 -> Fr (In []) h h2 -> Vars h2 [(b2, [code0_1.v, (VI 0), (Value.int .u64 0)]), (b1, [nilSl.v])] ->
 callM P 57 #[(VP b2 0)] h2 fun r1 h3 => ∃ y1 : Sl, ∃ y2 : Int, ∃ y3 : Int, ∃ s10 : Sl, ∃ s10b : Int, ∃ s10c : Int, r1 = (.tuple #[(.agg #[s10.v]), (VI s10b), (VI s10c)]) /\ Vars h3 [(b2, [y1.v, (VI y2), (Value.int .u64 y3)]), (b1, [nilSl.v])] /\
 ∀ (h4 : Heap), Fr (In [b1]) h3 h4 -> Vars h4 [(b2, [y1.v, (VI y2), (Value.int .u64 y3)]), (b1, [s10.v])] ->
 K (.tuple #[(.agg #[s10.v]), (VI s10b), (VI s10c)]) h4
theorem v7 (code0_1 : Sl) (h : Heap) (K : Value -> Heap -> Prop) (H : u7 Try.prog code0_1 h K) : callM Try.prog 7 #[code0_1.v] h K := by
  refine c7 code0_1.v h K ?_
  unfold u7 at H
  unfold t7
  have hL : Vars h [] := .nil
  refine eop_alloc 26 zer26 rfl hL (fun b1 h1 hb1 hf1 hL1 => ?_)
  refine pop.mk' (v := (Value.agg #[code0_1.v, (VI 0), (Value.int .u64 0)])) (fun w => by kernel_rfl) ?_
  refine eop_box 69 (Value.agg #[code0_1.v, (VI 0), (Value.int .u64 0)]) rfl hL1 (fun b2 h2 hb2 hf2 hL2 => ?_)
  have H := H b1 b2 h2 hb1 (Nat.le_trans (Fr.size (Fr.no' (Fr.r (In []) _) hf1)) hb2) (Fr.no' (Fr.no' (Fr.r (In []) _) hf1) hf2) hL2
  refine H.mono fun r1 h3 H => ?_
  obtain ⟨y1, y2, y3, s10, s10b, s10c, rfl, hL3, H⟩ := H
  refine pop_ext (v := (Value.agg #[s10.v])) rfl ?_
  refine pop_ext (v := (VI s10b)) rfl ?_
  refine pop_ext (v := (VI s10c)) rfl ?_
  refine ul siz26 hL3 1 0 [s10.v] [(b2, [y1.v, (VI y2), (Value.int .u64 y3)]), (b1, [s10.v])] (fun h4 hf3 hL4 => ?_)
  refine ra agg26 hL4 1 0 [s10.v] ?_
  have H := H  h4  (Fr.old (Fr.r (In []) _) hf3) hL4
  exact H
def u21 (P : Program) (code0_1 : Sl) (h : Heap) (K : Value -> Heap -> Prop) : Prop :=
 ∀ (b1 : Nat) (b2 : Nat) (h2 : Heap), h.size ≤ b1 -> h.size ≤ b2 -> Fr (In []) h h2 -> Vars h2 [(b2, [code0_1.v, (VI 0), (Value.int .u64 0)]), (b1, [nilSl.v])] ->
 callM P 78 #[(VP b2 0)] h2 fun r1 h3 => ∃ y1 : Sl, ∃ y2 : Int, ∃ y3 : Int, ∃ s13 : Sl, ∃ s13b : Sl, ∃ s13c : Int, ∃ s13d : Int, ∃ s13e : Int, ∃ s13f : Int, r1 = (.tuple #[(.agg #[s13.v]), s13b.v, (VI s13c), (VI s13d), (VI s13e), (VI s13f)]) /\ Vars h3 [(b2, [y1.v, (VI y2), (Value.int .u64 y3)]), (b1, [nilSl.v])] /\
 ∀ (h4 : Heap), Fr (In [b1]) h3 h4 -> Vars h4 [(b2, [y1.v, (VI y2), (Value.int .u64 y3)]), (b1, [s13.v])] ->
 K (.tuple #[(.agg #[s13.v]), s13b.v, (VI s13c), (VI s13d), (VI s13e), (VI s13f)]) h4
theorem v21 (code0_1 : Sl) (h : Heap) (K : Value -> Heap -> Prop) (H : u21 Try.prog code0_1 h K) : callM Try.prog 21 #[code0_1.v] h K := by
  refine c21 code0_1.v h K ?_
  unfold u21 at H
  unfold t21
  have hL : Vars h [] := .nil
  refine eop_alloc 26 zer26 rfl hL (fun b1 h1 hb1 hf1 hL1 => ?_)
  refine pop.mk' (v := (Value.agg #[code0_1.v, (VI 0), (Value.int .u64 0)])) (fun w => by kernel_rfl) ?_
  refine eop_box 69 (Value.agg #[code0_1.v, (VI 0), (Value.int .u64 0)]) rfl hL1 (fun b2 h2 hb2 hf2 hL2 => ?_)
  have H := H b1 b2 h2 hb1 (Nat.le_trans (Fr.size (Fr.no' (Fr.r (In []) _) hf1)) hb2) (Fr.no' (Fr.no' (Fr.r (In []) _) hf1) hf2) hL2
  refine H.mono fun r1 h3 H => ?_
  obtain ⟨y1, y2, y3, s13, s13b, s13c, s13d, s13e, s13f, rfl, hL3, H⟩ := H
  refine pop_ext (v := (Value.agg #[s13.v])) rfl ?_
  refine pop_ext (v := s13b.v) rfl ?_
  refine pop_ext (v := (VI s13c)) rfl ?_
  refine pop_ext (v := (VI s13d)) rfl ?_
  refine pop_ext (v := (VI s13e)) rfl ?_
  refine pop_ext (v := (VI s13f)) rfl ?_
  refine ul siz26 hL3 1 0 [s13.v] [(b2, [y1.v, (VI y2), (Value.int .u64 y3)]), (b1, [s13.v])] (fun h4 hf3 hL4 => ?_)
  refine ra agg26 hL4 1 0 [s13.v] ?_
  have H := H  h4  (Fr.old (Fr.r (In []) _) hf3) hL4
  exact H
def u22 (P : Program) (g0_1 : Sl) (rotors1_1 : Sl) (p2_1 : Int) (a3_1 : Int) (b4_1 : Int) (n5_1 : Int) (h : Heap) (K : Value -> Heap -> Prop) : Prop :=
 ∀ (b1 : Nat) (h1 : Heap), h.size ≤ b1 -> Fr (In []) h h1 -> Vars h1 [(b1, [g0_1.v])] ->
 callM P 79 #[(.agg #[g0_1.v]), rotors1_1.v, (VI p2_1), (VI a3_1), (VI b4_1), (VI n5_1)] h1 fun r1 h2 => ∃ s25 : Sl, ∃ s25b : Sl, ∃ s25c : Int, ∃ s25d : Bool, r1 = (.tuple #[s25.v, s25b.v, (VI s25c), (VB s25d)]) /\ Vars h2 [(b1, [g0_1.v])] /\
 callM P 80 #[s25.v] h2 fun r2 h3 => ∃ s31 : Int, r2 = (VI s31) /\ Vars h3 [(b1, [g0_1.v])] /\
 K (.tuple #[(VI s31), (VB s25d)]) h3
theorem v22 (g0_1 : Sl) (rotors1_1 : Sl) (p2_1 : Int) (a3_1 : Int) (b4_1 : Int) (n5_1 : Int) (h : Heap) (K : Value -> Heap -> Prop) (H : u22 Try.prog g0_1 rotors1_1 p2_1 a3_1 b4_1 n5_1 h K) : callM Try.prog 22 #[(Value.agg #[g0_1.v]), rotors1_1.v, (VI p2_1), (VI a3_1), (VI b4_1), (VI n5_1)] h K := by
  refine c22 (Value.agg #[g0_1.v]) rotors1_1.v (VI p2_1) (VI a3_1) (VI b4_1) (VI n5_1) h K ?_
  unfold u22 at H
  unfold t22
  have hL : Vars h [] := .nil
  refine eop_box 26 (Value.agg #[g0_1.v]) rfl hL (fun b1 h1 hb1 hf1 hL1 => ?_)
  refine ra agg26 hL1 0 0 [g0_1.v] ?_
  have H := H b1 h1 hb1 (Fr.no' (Fr.r (In []) _) hf1) hL1
  refine H.mono fun r1 h2 H => ?_
  obtain ⟨s25, s25b, s25c, s25d, rfl, hL2, H⟩ := H
  refine pop_ext (v := s25.v) rfl ?_
  refine pop_ext (v := s25b.v) rfl ?_
  refine pop_ext (v := (VI s25c)) rfl ?_
  refine pop_ext (v := (VB s25d)) rfl ?_
  refine H.mono fun r2 h3 H => ?_
  obtain ⟨s31, rfl, hL3, H⟩ := H
  exact H
def u23 (P : Program) (g0_1 : Sl) (rotors1_1 : Sl) (p2_1 : Int) (a3_1 : Int) (b4_1 : Int) (n5_1 : Int) (h : Heap) (K : Value -> Heap -> Prop) : Prop :=
 ∀ (b1 : Nat) (h1 : Heap), h.size ≤ b1 -> Fr (In []) h h1 -> Vars h1 [(b1, [g0_1.v])] ->
 callM P 81 #[(.agg #[g0_1.v]), rotors1_1.v, (VI p2_1), (VI a3_1), (VI b4_1), (VI n5_1)] h1 fun r1 h2 => ∃ s20 : Bool, r1 = (VB s20) /\ Vars h2 [(b1, [g0_1.v])] /\
 ((!s20) = true ->
 K (.tuple #[(VI 0), (VB false)]) h2) /\
 ((!s20) = false ->
 callM P 83 #[(.agg #[g0_1.v]), rotors1_1.v, (VI p2_1), (VI a3_1), (VI b4_1), (VI n5_1)] h2 fun r2 h3 => ∃ s28 : Sl, ∃ s28b : Sl, ∃ s28c : Int, r2 = (.agg #[s28.v, s28b.v, (VI s28c)]) /\ Vars h3 [(b1, [g0_1.v])] /\
 callM P 82 #[s28.v] h3 fun r3 h4 => ∃ s30 : Int, r3 = (VI s30) /\ Vars h4 [(b1, [g0_1.v])] /\
 K (.tuple #[(VI s30), (VB true)]) h4)
theorem v23 (g0_1 : Sl) (rotors1_1 : Sl) (p2_1 : Int) (a3_1 : Int) (b4_1 : Int) (n5_1 : Int) (h : Heap) (K : Value -> Heap -> Prop) (H : u23 Try.prog g0_1 rotors1_1 p2_1 a3_1 b4_1 n5_1 h K) : callM Try.prog 23 #[(Value.agg #[g0_1.v]), rotors1_1.v, (VI p2_1), (VI a3_1), (VI b4_1), (VI n5_1)] h K := by
  refine c23 (Value.agg #[g0_1.v]) rotors1_1.v (VI p2_1) (VI a3_1) (VI b4_1) (VI n5_1) h K ?_
  unfold u23 at H
  unfold t23
  have hL : Vars h [] := .nil
  refine eop_box 26 (Value.agg #[g0_1.v]) rfl hL (fun b1 h1 hb1 hf1 hL1 => ?_)
  refine ra agg26 hL1 0 0 [g0_1.v] ?_
  have H := H b1 h1 hb1 (Fr.no' (Fr.r (In []) _) hf1) hL1
  refine H.mono fun r1 h2 H => ?_
  obtain ⟨s20, rfl, hL2, H⟩ := H
  refine pop_not s20 ?_
  refine condM_b (fun hb2 => ?_) (fun hb2 => ?_)
  ·exact H.1 hb2
  have H := H.2 hb2
  refine ra agg26 hL2 0 0 [g0_1.v] ?_
  refine H.mono fun r2 h3 H => ?_
  obtain ⟨s28, s28b, s28c, rfl, hL3, H⟩ := H
  refine pop.mk' (v := s28.v) (fun w => by kernel_rfl) ?_
  refine H.mono fun r3 h4 H => ?_
  obtain ⟨s30, rfl, hL4, H⟩ := H
  exact H
def u24 (P : Program) (g0_1 : Sl) (rotors1_1 : Sl) (p2_1 : Int) (a3_1 : Int) (b4_1 : Int) (n5_1 : Int) (h : Heap) (K : Value -> Heap -> Prop) : Prop :=
 ∀ (b1 : Nat) (h1 : Heap), h.size ≤ b1 -> Fr (In []) h h1 -> Vars h1 [(b1, [g0_1.v])] ->
 callM P 79 #[(.agg #[g0_1.v]), rotors1_1.v, (VI p2_1), (VI a3_1), (VI b4_1), (VI n5_1)] h1 fun r1 h2 => ∃ s25 : Sl, ∃ s25b : Sl, ∃ s25c : Int, ∃ s25d : Bool, r1 = (.tuple #[s25.v, s25b.v, (VI s25c), (VB s25d)]) /\ Vars h2 [(b1, [g0_1.v])] /\
 K (.tuple #[s25.v, (VB s25d)]) h2
theorem v24 (g0_1 : Sl) (rotors1_1 : Sl) (p2_1 : Int) (a3_1 : Int) (b4_1 : Int) (n5_1 : Int) (h : Heap) (K : Value -> Heap -> Prop) (H : u24 Try.prog g0_1 rotors1_1 p2_1 a3_1 b4_1 n5_1 h K) : callM Try.prog 24 #[(Value.agg #[g0_1.v]), rotors1_1.v, (VI p2_1), (VI a3_1), (VI b4_1), (VI n5_1)] h K := by
  refine c24 (Value.agg #[g0_1.v]) rotors1_1.v (VI p2_1) (VI a3_1) (VI b4_1) (VI n5_1) h K ?_
  unfold u24 at H
  unfold t24
  have hL : Vars h [] := .nil
  refine eop_box 26 (Value.agg #[g0_1.v]) rfl hL (fun b1 h1 hb1 hf1 hL1 => ?_)
  refine ra agg26 hL1 0 0 [g0_1.v] ?_
  have H := H b1 h1 hb1 (Fr.no' (Fr.r (In []) _) hf1) hL1
  refine H.mono fun r1 h2 H => ?_
  obtain ⟨s25, s25b, s25c, s25d, rfl, hL2, H⟩ := H
  refine pop_ext (v := s25.v) rfl ?_
  refine pop_ext (v := s25b.v) rfl ?_
  refine pop_ext (v := (VI s25c)) rfl ?_
  refine pop_ext (v := (VB s25d)) rfl ?_
  exact H
def u25 (P : Program) (g0_1 : Sl) (rotors1_1 : Sl) (p2_1 : Int) (a3_1 : Int) (b4_1 : Int) (n5_1 : Int) (h : Heap) (K : Value -> Heap -> Prop) : Prop :=
 ∀ (b1 : Nat) (h1 : Heap), h.size ≤ b1 -> Fr (In []) h h1 -> Vars h1 [(b1, [g0_1.v])] ->
 callM P 81 #[(.agg #[g0_1.v]), rotors1_1.v, (VI p2_1), (VI a3_1), (VI b4_1), (VI n5_1)] h1 fun r1 h2 => ∃ s20 : Bool, r1 = (VB s20) /\ Vars h2 [(b1, [g0_1.v])] /\
 ((!s20) = true ->
 K (.tuple #[nilSl.v, (VB false)]) h2) /\
 ((!s20) = false ->
 callM P 83 #[(.agg #[g0_1.v]), rotors1_1.v, (VI p2_1), (VI a3_1), (VI b4_1), (VI n5_1)] h2 fun r2 h3 => ∃ s28 : Sl, ∃ s28b : Sl, ∃ s28c : Int, r2 = (.agg #[s28.v, s28b.v, (VI s28c)]) /\ Vars h3 [(b1, [g0_1.v])] /\
 K (.tuple #[s28.v, (VB true)]) h3)
theorem v25 (g0_1 : Sl) (rotors1_1 : Sl) (p2_1 : Int) (a3_1 : Int) (b4_1 : Int) (n5_1 : Int) (h : Heap) (K : Value -> Heap -> Prop) (H : u25 Try.prog g0_1 rotors1_1 p2_1 a3_1 b4_1 n5_1 h K) : callM Try.prog 25 #[(Value.agg #[g0_1.v]), rotors1_1.v, (VI p2_1), (VI a3_1), (VI b4_1), (VI n5_1)] h K := by
  refine c25 (Value.agg #[g0_1.v]) rotors1_1.v (VI p2_1) (VI a3_1) (VI b4_1) (VI n5_1) h K ?_
  unfold u25 at H
  unfold t25
  have hL : Vars h [] := .nil
  refine eop_box 26 (Value.agg #[g0_1.v]) rfl hL (fun b1 h1 hb1 hf1 hL1 => ?_)
  refine ra agg26 hL1 0 0 [g0_1.v] ?_
  have H := H b1 h1 hb1 (Fr.no' (Fr.r (In []) _) hf1) hL1
  refine H.mono fun r1 h2 H => ?_
  obtain ⟨s20, rfl, hL2, H⟩ := H
  refine pop_not s20 ?_
  refine condM_b (fun hb2 => ?_) (fun hb2 => ?_)
  ·exact H.1 hb2
  have H := H.2 hb2
  refine ra agg26 hL2 0 0 [g0_1.v] ?_
  refine H.mono fun r2 h3 H => ?_
  obtain ⟨s28, s28b, s28c, rfl, hL3, H⟩ := H
  refine pop.mk' (v := s28.v) (fun w => by kernel_rfl) ?_
  exact H
def u26 (P : Program) (g0_1 : Sl) (rotors1_1 : Sl) (p2_1 : Int) (a3_1 : Int) (b4_1 : Int) (n5_1 : Int) (h : Heap) (K : Value -> Heap -> Prop) : Prop :=
 ∀ (b1 : Nat) (b2 : Nat) (h2 : Heap), h.size ≤ b1 -> h.size ≤ b2 -> Fr (In []) h h2 -> Vars h2 [(b2, [(VI 0), (VI 0)]), (b1, [g0_1.v])] ->
 callM P 79 #[(.agg #[g0_1.v]), rotors1_1.v, (VI p2_1), (VI a3_1), (VI b4_1), (VI n5_1)] h2 fun r1 h3 => ∃ s27 : Sl, ∃ s27b : Sl, ∃ s27c : Int, ∃ s27d : Bool, r1 = (.tuple #[s27.v, s27b.v, (VI s27c), (VB s27d)]) /\ Vars h3 [(b2, [(VI 0), (VI 0)]), (b1, [g0_1.v])] /\
 ((!s27d) = true ->
 ∀ (h4 : Heap), Fr (In [b2]) h3 h4 -> Vars h4 [(b2, [(VI 0), (VI 0)]), (b1, [g0_1.v])] ->
 K (.tuple #[(.agg #[(VI 0), (VI 0)]), (VB false)]) h4) /\
 ((!s27d) = false ->
 callM P 59 #[(.agg #[g0_1.v]), (VI a3_1), (VI b4_1)] h3 fun r2 h5 => ∃ s39 : Sl, ∃ s39b : Int, r2 = (.tuple #[s39.v, (VI s39b)]) /\ Vars h5 [(b2, [(VI 0), (VI 0)]), (b1, [g0_1.v])] /\
 InB s39 p2_1 /\
 ∃ s50 : Int, hcell h5 (Sl.at s39 p2_1 1) = some (VI s50) /\
 callM P 80 #[s27.v] h5 fun r3 h6 => ∃ s43 : Int, r3 = (VI s43) /\ Vars h6 [(b2, [(VI 0), (VI 0)]), (b1, [g0_1.v])] /\
 hcell h6 (Sl.at s39 p2_1 1) = some (VI s50) /\
 callM P 84 #[(VI (w64 ((w64 (s43 * s39b)) - (w64 (n5_1 * s50)))))] h6 fun r4 h7 => ∃ s53 : Int, r4 = (VI s53) /\ Vars h7 [(b2, [(VI 0), (VI 0)]), (b1, [g0_1.v])] /\
 hcell h7 (Sl.at s39 p2_1 1) = some (VI s50) /\
 callM P 84 #[(VI s39b)] h7 fun r5 h8 => ∃ s55 : Int, r5 = (VI s55) /\ Vars h8 [(b2, [(VI 0), (VI 0)]), (b1, [g0_1.v])] /\
 hcell h8 (Sl.at s39 p2_1 1) = some (VI s50) /\
 callM P 60 #[(VI s53), (VI s55)] h8 fun r6 h9 => ∃ s56 : Int, ∃ s56b : Int, r6 = (.agg #[(VI s56), (VI s56b)]) /\ Vars h9 [(b2, [(VI 0), (VI 0)]), (b1, [g0_1.v])] /\
 hcell h9 (Sl.at s39 p2_1 1) = some (VI s50) /\
 ∀ (h10 : Heap), Fr (In [b2]) h9 h10 -> Vars h10 [(b2, [(VI s56), (VI s56b)]), (b1, [g0_1.v])] ->
 K (.tuple #[(.agg #[(VI s56), (VI s56b)]), (VB true)]) h10)
theorem v26 (g0_1 : Sl) (rotors1_1 : Sl) (p2_1 : Int) (a3_1 : Int) (b4_1 : Int) (n5_1 : Int) (h : Heap) (K : Value -> Heap -> Prop) (H : u26 Try.prog g0_1 rotors1_1 p2_1 a3_1 b4_1 n5_1 h K) : callM Try.prog 26 #[(Value.agg #[g0_1.v]), rotors1_1.v, (VI p2_1), (VI a3_1), (VI b4_1), (VI n5_1)] h K := by
  refine c26 (Value.agg #[g0_1.v]) rotors1_1.v (VI p2_1) (VI a3_1) (VI b4_1) (VI n5_1) h K ?_
  unfold u26 at H
  unfold t26
  have hL : Vars h [] := .nil
  refine eop_box 26 (Value.agg #[g0_1.v]) rfl hL (fun b1 h1 hb1 hf1 hL1 => ?_)
  refine eop_alloc 36 zer36 rfl hL1 (fun b2 h2 hb2 hf2 hL2 => ?_)
  refine ra agg26 hL2 1 0 [g0_1.v] ?_
  have H := H b1 b2 h2 hb1 (Nat.le_trans (Fr.size (Fr.no' (Fr.r (In []) _) hf1)) hb2) (Fr.no' (Fr.no' (Fr.r (In []) _) hf1) hf2) hL2
  refine H.mono fun r1 h3 H => ?_
  obtain ⟨s27, s27b, s27c, s27d, rfl, hL3, H⟩ := H
  refine pop_ext (v := s27.v) rfl ?_
  refine pop_ext (v := s27b.v) rfl ?_
  refine pop_ext (v := (VI s27c)) rfl ?_
  refine pop_ext (v := (VB s27d)) rfl ?_
  refine pop_not s27d ?_
  refine condM_b (fun hb3 => ?_) (fun hb3 => ?_)
  ·have H := H.1 hb3
   refine pop.mk' (v := (Value.agg #[(VI 0), (VI 0)])) (fun w => by kernel_rfl) ?_
   refine ul siz36 hL3 0 0 [(VI 0), (VI 0)] [(b2, [(VI 0), (VI 0)]), (b1, [g0_1.v])] (fun h4 hf3 hL4 => ?_)
   refine ra agg36 hL4 0 0 [(VI 0), (VI 0)] ?_
   have H := H  h4  (Fr.old (Fr.r (In []) _) hf3) hL4
   exact H
  have H := H.2 hb3
  refine ra agg26 hL3 1 0 [g0_1.v] ?_
  refine H.mono fun r2 h5 H => ?_
  obtain ⟨s39, s39b, rfl, hL5, H⟩ := H
  refine pop_ext (v := s39.v) rfl ?_
  refine pop_ext (v := (VI s39b)) rfl ?_
  obtain ⟨hi1, H⟩ := H
  refine pop_index sli37 siz3 .i64 s39 p2_1 hi1 ?_
  obtain ⟨s50, hc5, H⟩ := H
  refine rop_one one3 (VI s50) hc5 ?_
  refine pop_mul .i64 n5_1 s50 ?_
  refine H.mono fun r3 h6 H => ?_
  obtain ⟨s43, rfl, hL6, H⟩ := H
  refine ⟨?_, ?_⟩
  ·exact still_one one3 H.1
  obtain ⟨hc1, H⟩ := H
  refine pop_mul .i64 s43 s39b ?_
  refine pop_sub .i64 (w64 (s43 * s39b)) (w64 (n5_1 * s50)) ?_
  refine H.mono fun r4 h7 H => ?_
  obtain ⟨s53, rfl, hL7, H⟩ := H
  refine ⟨?_, ?_⟩
  ·exact still_one one3 H.1
  obtain ⟨hc2, H⟩ := H
  refine H.mono fun r5 h8 H => ?_
  obtain ⟨s55, rfl, hL8, H⟩ := H
  refine ⟨?_, ?_⟩
  ·exact still_one one3 H.1
  obtain ⟨hc3, H⟩ := H
  refine H.mono fun r6 h9 H => ?_
  obtain ⟨s56, s56b, rfl, hL9, H⟩ := H
  refine ⟨?_, ?_⟩
  ·exact still_one one3 H.1
  obtain ⟨hc4, H⟩ := H
  refine ul siz36 hL9 0 0 [(VI s56), (VI s56b)] [(b2, [(VI s56), (VI s56b)]), (b1, [g0_1.v])] (fun h10 hf4 hL10 => ?_)
  refine ra agg36 hL10 0 0 [(VI s56), (VI s56b)] ?_
  have H := H  h10  (Fr.old (Fr.r (In []) _) hf4) hL10
  exact H
def u27 (P : Program) (g0_1 : Sl) (rotors1_1 : Sl) (p2_1 : Int) (a3_1 : Int) (b4_1 : Int) (n5_1 : Int) (h : Heap) (K : Value -> Heap -> Prop) : Prop :=
 ∀ (b1 : Nat) (b2 : Nat) (h2 : Heap), h.size ≤ b1 -> h.size ≤ b2 -> Fr (In []) h h2 -> Vars h2 [(b2, [(VI 0), (VI 0)]), (b1, [g0_1.v])] ->
 callM P 81 #[(.agg #[g0_1.v]), rotors1_1.v, (VI p2_1), (VI a3_1), (VI b4_1), (VI n5_1)] h2 fun r1 h3 => ∃ s22 : Bool, r1 = (VB s22) /\ Vars h3 [(b2, [(VI 0), (VI 0)]), (b1, [g0_1.v])] /\
 ((!s22) = true ->
 ∀ (h4 : Heap), Fr (In [b2]) h3 h4 -> Vars h4 [(b2, [(VI 0), (VI 0)]), (b1, [g0_1.v])] ->
 K (.tuple #[(.agg #[(VI 0), (VI 0)]), (VB false)]) h4) /\
 ((!s22) = false ->
 callM P 62 #[(.agg #[g0_1.v]), (VI a3_1), (VI b4_1)] h3 fun r2 h5 => ∃ s28 : Sl, r2 = s28.v /\ Vars h5 [(b2, [(VI 0), (VI 0)]), (b1, [g0_1.v])] /\
 InB s28 p2_1 /\
 ∃ s31 : Int, ∃ s31b : Int, CellsAt h5 (Sl.at s28 p2_1 2) [(VI s31), (VI s31b)] /\
 ∀ (b3 : Nat) (h7 : Heap), h5.size ≤ b3 -> Fr (In []) h5 h7 -> Vars h7 [(b3, [(VI s31), (VI s31b)]), (b2, [(VI 0), (VI 0)]), (b1, [g0_1.v])] ->
 callM P 83 #[(.agg #[g0_1.v]), rotors1_1.v, (VI p2_1), (VI a3_1), (VI b4_1), (VI n5_1)] h7 fun r3 h8 => ∃ s38 : Sl, ∃ s38b : Sl, ∃ s38c : Int, r3 = (.agg #[s38.v, s38b.v, (VI s38c)]) /\ Vars h8 [(b3, [(VI s31), (VI s31b)]), (b2, [(VI 0), (VI 0)]), (b1, [g0_1.v])] /\
 callM P 82 #[s38.v] h8 fun r4 h9 => ∃ s40 : Int, r4 = (VI s40) /\ Vars h9 [(b3, [(VI s31), (VI s31b)]), (b2, [(VI 0), (VI 0)]), (b1, [g0_1.v])] /\
 callM P 85 #[(VI (w64 ((w64 (s40 * s31b)) - (w64 (n5_1 * s31)))))] h9 fun r5 h10 => ∃ s50 : Int, r5 = (VI s50) /\ Vars h10 [(b3, [(VI s31), (VI s31b)]), (b2, [(VI 0), (VI 0)]), (b1, [g0_1.v])] /\
 callM P 74 #[(VI s50), (VI s31b)] h10 fun r6 h11 => ∃ s53 : Int, ∃ s53b : Int, r6 = (.agg #[(VI s53), (VI s53b)]) /\ Vars h11 [(b3, [(VI s31), (VI s31b)]), (b2, [(VI 0), (VI 0)]), (b1, [g0_1.v])] /\
 ∀ (h12 : Heap), Fr (In [b2]) h11 h12 -> Vars h12 [(b3, [(VI s31), (VI s31b)]), (b2, [(VI s53), (VI s53b)]), (b1, [g0_1.v])] ->
 K (.tuple #[(.agg #[(VI s53), (VI s53b)]), (VB true)]) h12)
theorem v27 (g0_1 : Sl) (rotors1_1 : Sl) (p2_1 : Int) (a3_1 : Int) (b4_1 : Int) (n5_1 : Int) (h : Heap) (K : Value -> Heap -> Prop) (H : u27 Try.prog g0_1 rotors1_1 p2_1 a3_1 b4_1 n5_1 h K) : callM Try.prog 27 #[(Value.agg #[g0_1.v]), rotors1_1.v, (VI p2_1), (VI a3_1), (VI b4_1), (VI n5_1)] h K := by
  refine c27 (Value.agg #[g0_1.v]) rotors1_1.v (VI p2_1) (VI a3_1) (VI b4_1) (VI n5_1) h K ?_
  unfold u27 at H
  unfold t27
  have hL : Vars h [] := .nil
  refine eop_box 26 (Value.agg #[g0_1.v]) rfl hL (fun b1 h1 hb1 hf1 hL1 => ?_)
  refine eop_alloc 36 zer36 rfl hL1 (fun b2 h2 hb2 hf2 hL2 => ?_)
  refine ra agg26 hL2 1 0 [g0_1.v] ?_
  have H := H b1 b2 h2 hb1 (Nat.le_trans (Fr.size (Fr.no' (Fr.r (In []) _) hf1)) hb2) (Fr.no' (Fr.no' (Fr.r (In []) _) hf1) hf2) hL2
  refine H.mono fun r1 h3 H => ?_
  obtain ⟨s22, rfl, hL3, H⟩ := H
  refine pop_not s22 ?_
  refine condM_b (fun hb3 => ?_) (fun hb3 => ?_)
  ·have H := H.1 hb3
   refine pop.mk' (v := (Value.agg #[(VI 0), (VI 0)])) (fun w => by kernel_rfl) ?_
   refine ul siz36 hL3 0 0 [(VI 0), (VI 0)] [(b2, [(VI 0), (VI 0)]), (b1, [g0_1.v])] (fun h4 hf3 hL4 => ?_)
   refine ra agg36 hL4 0 0 [(VI 0), (VI 0)] ?_
   have H := H  h4  (Fr.old (Fr.r (In []) _) hf3) hL4
   exact H
  have H := H.2 hb3
  refine ra agg26 hL3 1 0 [g0_1.v] ?_
  refine H.mono fun r2 h5 H => ?_
  obtain ⟨s28, rfl, hL5, H⟩ := H
  obtain ⟨hi1, H⟩ := H
  refine pop_index sli29 siz36 .i64 s28 p2_1 hi1 ?_
  obtain ⟨s31, s31b, hc1, H⟩ := H
  refine rop_agg agg36 [(VI s31), (VI s31b)] rfl hc1 ?_
  refine eop_alloc 36 zer36 rfl hL5 (fun b3 h6 hb4 hf4 hL6 => ?_)
  refine ul siz36 hL6 0 0 [(VI s31), (VI s31b)] [(b3, [(VI s31), (VI s31b)]), (b2, [(VI 0), (VI 0)]), (b1, [g0_1.v])] (fun h7 hf5 hL7 => ?_)
  refine ra agg26 hL7 2 0 [g0_1.v] ?_
  have H := H b3 h7 hb4 (Fr.new (Fr.no' (Fr.r (In []) _) hf4) hb4 hf5) hL7
  refine H.mono fun r3 h8 H => ?_
  obtain ⟨s38, s38b, s38c, rfl, hL8, H⟩ := H
  refine pop.mk' (v := s38.v) (fun w => by kernel_rfl) ?_
  refine H.mono fun r4 h9 H => ?_
  obtain ⟨s40, rfl, hL9, H⟩ := H
  refine pop_field 1 fld36_1 b3 0 ?_
  refine rl one3 hL9 0 1 (VI s31b) ?_
  refine pop_mul .i64 s40 s31b ?_
  refine pop_field 0 fld36_0 b3 0 ?_
  refine rl one3 hL9 0 0 (VI s31) ?_
  refine pop_mul .i64 n5_1 s31 ?_
  refine pop_sub .i64 (w64 (s40 * s31b)) (w64 (n5_1 * s31)) ?_
  refine pop_field 1 fld36_1 b3 0 ?_
  refine rl one3 hL9 0 1 (VI s31b) ?_
  refine H.mono fun r5 h10 H => ?_
  obtain ⟨s50, rfl, hL10, H⟩ := H
  refine ⟨?_, ?_⟩
  ·exact still_loc one3 hL10 0 rfl 1 (v := (VI s31b)) rfl
  refine ⟨?_, ?_⟩
  ·exact still_loc one3 hL10 0 rfl 0 (v := (VI s31)) rfl
  refine ⟨?_, ?_⟩
  ·exact still_loc one3 hL10 0 rfl 1 (v := (VI s31b)) rfl
  refine H.mono fun r6 h11 H => ?_
  obtain ⟨s53, s53b, rfl, hL11, H⟩ := H
  refine ⟨?_, ?_⟩
  ·exact still_loc one3 hL11 0 rfl 0 (v := (VI s31)) rfl
  refine ⟨?_, ?_⟩
  ·exact still_loc one3 hL11 0 rfl 1 (v := (VI s31b)) rfl
  refine ul siz36 hL11 1 0 [(VI s53), (VI s53b)] [(b3, [(VI s31), (VI s31b)]), (b2, [(VI s53), (VI s53b)]), (b1, [g0_1.v])] (fun h12 hf6 hL12 => ?_)
  refine ra agg36 hL12 1 0 [(VI s53), (VI s53b)] ?_
  have H := H  h12  (Fr.old (Fr.r (In []) _) hf6) hL12
  exact H
def u28 (P : Program) (g0_1 : Sl) (rotors1_1 : Sl) (p2_1 : Int) (a3_1 : Int) (b4_1 : Int) (n5_1 : Int) (h : Heap) (K : Value -> Heap -> Prop) : Prop :=
 ∀ (b1 : Nat) (h1 : Heap), h.size ≤ b1 -> Fr (In []) h h1 -> Vars h1 [(b1, [g0_1.v])] ->
 callM P 79 #[(.agg #[g0_1.v]), rotors1_1.v, (VI p2_1), (VI a3_1), (VI b4_1), (VI n5_1)] h1 fun r1 h2 => ∃ s25 : Sl, ∃ s25b : Sl, ∃ s25c : Int, ∃ s25d : Bool, r1 = (.tuple #[s25.v, s25b.v, (VI s25c), (VB s25d)]) /\ Vars h2 [(b1, [g0_1.v])] /\
 K (.tuple #[(VI s25c), (VB s25d)]) h2
theorem v28 (g0_1 : Sl) (rotors1_1 : Sl) (p2_1 : Int) (a3_1 : Int) (b4_1 : Int) (n5_1 : Int) (h : Heap) (K : Value -> Heap -> Prop) (H : u28 Try.prog g0_1 rotors1_1 p2_1 a3_1 b4_1 n5_1 h K) : callM Try.prog 28 #[(Value.agg #[g0_1.v]), rotors1_1.v, (VI p2_1), (VI a3_1), (VI b4_1), (VI n5_1)] h K := by
  refine c28 (Value.agg #[g0_1.v]) rotors1_1.v (VI p2_1) (VI a3_1) (VI b4_1) (VI n5_1) h K ?_
  unfold u28 at H
  unfold t28
  have hL : Vars h [] := .nil
  refine eop_box 26 (Value.agg #[g0_1.v]) rfl hL (fun b1 h1 hb1 hf1 hL1 => ?_)
  refine ra agg26 hL1 0 0 [g0_1.v] ?_
  have H := H b1 h1 hb1 (Fr.no' (Fr.r (In []) _) hf1) hL1
  refine H.mono fun r1 h2 H => ?_
  obtain ⟨s25, s25b, s25c, s25d, rfl, hL2, H⟩ := H
  refine pop_ext (v := s25.v) rfl ?_
  refine pop_ext (v := s25b.v) rfl ?_
  refine pop_ext (v := (VI s25c)) rfl ?_
  refine pop_ext (v := (VB s25d)) rfl ?_
  exact H
def u29 (P : Program) (g0_1 : Sl) (rotors1_1 : Sl) (p2_1 : Int) (a3_1 : Int) (b4_1 : Int) (n5_1 : Int) (h : Heap) (K : Value -> Heap -> Prop) : Prop :=
 ∀ (b1 : Nat) (h1 : Heap), h.size ≤ b1 -> Fr (In []) h h1 -> Vars h1 [(b1, [g0_1.v])] ->
 callM P 81 #[(.agg #[g0_1.v]), rotors1_1.v, (VI p2_1), (VI a3_1), (VI b4_1), (VI n5_1)] h1 fun r1 h2 => ∃ s20 : Bool, r1 = (VB s20) /\ Vars h2 [(b1, [g0_1.v])] /\
 ((!s20) = true ->
 K (.tuple #[(VI 0), (VB false)]) h2) /\
 ((!s20) = false ->
 callM P 83 #[(.agg #[g0_1.v]), rotors1_1.v, (VI p2_1), (VI a3_1), (VI b4_1), (VI n5_1)] h2 fun r2 h3 => ∃ s28 : Sl, ∃ s28b : Sl, ∃ s28c : Int, r2 = (.agg #[s28.v, s28b.v, (VI s28c)]) /\ Vars h3 [(b1, [g0_1.v])] /\
 K (.tuple #[(VI s28c), (VB true)]) h3)
theorem v29 (g0_1 : Sl) (rotors1_1 : Sl) (p2_1 : Int) (a3_1 : Int) (b4_1 : Int) (n5_1 : Int) (h : Heap) (K : Value -> Heap -> Prop) (H : u29 Try.prog g0_1 rotors1_1 p2_1 a3_1 b4_1 n5_1 h K) : callM Try.prog 29 #[(Value.agg #[g0_1.v]), rotors1_1.v, (VI p2_1), (VI a3_1), (VI b4_1), (VI n5_1)] h K := by
  refine c29 (Value.agg #[g0_1.v]) rotors1_1.v (VI p2_1) (VI a3_1) (VI b4_1) (VI n5_1) h K ?_
  unfold u29 at H
  unfold t29
  have hL : Vars h [] := .nil
  refine eop_box 26 (Value.agg #[g0_1.v]) rfl hL (fun b1 h1 hb1 hf1 hL1 => ?_)
  refine ra agg26 hL1 0 0 [g0_1.v] ?_
  have H := H b1 h1 hb1 (Fr.no' (Fr.r (In []) _) hf1) hL1
  refine H.mono fun r1 h2 H => ?_
  obtain ⟨s20, rfl, hL2, H⟩ := H
  refine pop_not s20 ?_
  refine condM_b (fun hb2 => ?_) (fun hb2 => ?_)
  ·exact H.1 hb2
  have H := H.2 hb2
  refine ra agg26 hL2 0 0 [g0_1.v] ?_
  refine H.mono fun r2 h3 H => ?_
  obtain ⟨s28, s28b, s28c, rfl, hL3, H⟩ := H
  refine pop.mk' (v := (VI s28c)) (fun w => by kernel_rfl) ?_
  exact H
def u30 (P : Program) (g0_1 : Sl) (rotors1_1 : Sl) (p2_1 : Int) (a3_1 : Int) (b4_1 : Int) (n5_1 : Int) (h : Heap) (K : Value -> Heap -> Prop) : Prop :=
 ∀ (b1 : Nat) (h1 : Heap), h.size ≤ b1 -> Fr (In []) h h1 -> Vars h1 [(b1, [g0_1.v])] ->
 callM P 79 #[(.agg #[g0_1.v]), rotors1_1.v, (VI p2_1), (VI a3_1), (VI b4_1), (VI n5_1)] h1 fun r1 h2 => ∃ s25 : Sl, ∃ s25b : Sl, ∃ s25c : Int, ∃ s25d : Bool, r1 = (.tuple #[s25.v, s25b.v, (VI s25c), (VB s25d)]) /\ Vars h2 [(b1, [g0_1.v])] /\
 K (.tuple #[s25b.v, (VB s25d)]) h2
theorem v30 (g0_1 : Sl) (rotors1_1 : Sl) (p2_1 : Int) (a3_1 : Int) (b4_1 : Int) (n5_1 : Int) (h : Heap) (K : Value -> Heap -> Prop) (H : u30 Try.prog g0_1 rotors1_1 p2_1 a3_1 b4_1 n5_1 h K) : callM Try.prog 30 #[(Value.agg #[g0_1.v]), rotors1_1.v, (VI p2_1), (VI a3_1), (VI b4_1), (VI n5_1)] h K := by
  refine c30 (Value.agg #[g0_1.v]) rotors1_1.v (VI p2_1) (VI a3_1) (VI b4_1) (VI n5_1) h K ?_
  unfold u30 at H
  unfold t30
  have hL : Vars h [] := .nil
  refine eop_box 26 (Value.agg #[g0_1.v]) rfl hL (fun b1 h1 hb1 hf1 hL1 => ?_)
  refine ra agg26 hL1 0 0 [g0_1.v] ?_
  have H := H b1 h1 hb1 (Fr.no' (Fr.r (In []) _) hf1) hL1
  refine H.mono fun r1 h2 H => ?_
  obtain ⟨s25, s25b, s25c, s25d, rfl, hL2, H⟩ := H
  refine pop_ext (v := s25.v) rfl ?_
  refine pop_ext (v := s25b.v) rfl ?_
  refine pop_ext (v := (VI s25c)) rfl ?_
  refine pop_ext (v := (VB s25d)) rfl ?_
  exact H
def u31 (P : Program) (g0_1 : Sl) (rotors1_1 : Sl) (p2_1 : Int) (a3_1 : Int) (b4_1 : Int) (n5_1 : Int) (h : Heap) (K : Value -> Heap -> Prop) : Prop :=
 ∀ (b1 : Nat) (h1 : Heap), h.size ≤ b1 -> Fr (In []) h h1 -> Vars h1 [(b1, [g0_1.v])] ->
 callM P 81 #[(.agg #[g0_1.v]), rotors1_1.v, (VI p2_1), (VI a3_1), (VI b4_1), (VI n5_1)] h1 fun r1 h2 => ∃ s20 : Bool, r1 = (VB s20) /\ Vars h2 [(b1, [g0_1.v])] /\
 ((!s20) = true ->
 K (.tuple #[nilSl.v, (VB false)]) h2) /\
 ((!s20) = false ->
 callM P 83 #[(.agg #[g0_1.v]), rotors1_1.v, (VI p2_1), (VI a3_1), (VI b4_1), (VI n5_1)] h2 fun r2 h3 => ∃ s28 : Sl, ∃ s28b : Sl, ∃ s28c : Int, r2 = (.agg #[s28.v, s28b.v, (VI s28c)]) /\ Vars h3 [(b1, [g0_1.v])] /\
 K (.tuple #[s28b.v, (VB true)]) h3)
theorem v31 (g0_1 : Sl) (rotors1_1 : Sl) (p2_1 : Int) (a3_1 : Int) (b4_1 : Int) (n5_1 : Int) (h : Heap) (K : Value -> Heap -> Prop) (H : u31 Try.prog g0_1 rotors1_1 p2_1 a3_1 b4_1 n5_1 h K) : callM Try.prog 31 #[(Value.agg #[g0_1.v]), rotors1_1.v, (VI p2_1), (VI a3_1), (VI b4_1), (VI n5_1)] h K := by
  refine c31 (Value.agg #[g0_1.v]) rotors1_1.v (VI p2_1) (VI a3_1) (VI b4_1) (VI n5_1) h K ?_
  unfold u31 at H
  unfold t31
  have hL : Vars h [] := .nil
  refine eop_box 26 (Value.agg #[g0_1.v]) rfl hL (fun b1 h1 hb1 hf1 hL1 => ?_)
  refine ra agg26 hL1 0 0 [g0_1.v] ?_
  have H := H b1 h1 hb1 (Fr.no' (Fr.r (In []) _) hf1) hL1
  refine H.mono fun r1 h2 H => ?_
  obtain ⟨s20, rfl, hL2, H⟩ := H
  refine pop_not s20 ?_
  refine condM_b (fun hb2 => ?_) (fun hb2 => ?_)
  ·exact H.1 hb2
  have H := H.2 hb2
  refine ra agg26 hL2 0 0 [g0_1.v] ?_
  refine H.mono fun r2 h3 H => ?_
  obtain ⟨s28, s28b, s28c, rfl, hL3, H⟩ := H
  refine pop.mk' (v := s28b.v) (fun w => by kernel_rfl) ?_
  exact H
def u32 (P : Program) (a0_1 : Sl) (b1_1 : Sl) (h : Heap) (K : Value -> Heap -> Prop) : Prop :=
 ((!decide ((a0_1.n : Int) = (b1_1.n : Int))) = true ->
 K (VB false) h) /\
 ((!decide ((a0_1.n : Int) = (b1_1.n : Int))) = false ->
 ∃ J1 : Nat -> Int -> Heap -> Prop, (∃ n0 : Nat, J1 n0 0 h) /\
 ∀ (n1 : Nat) (s13 : Int) (h1 : Heap), J1 n1 s13 h1 -> Vars h1 [] ->
 ((decide (s13 < (a0_1.n : Int))) = true ->
 InB a0_1 s13 /\
 ∃ s19 : Int, hcell h1 (Sl.at a0_1 s13 1) = some (VI s19) /\
 InB b1_1 s13 /\
 ∃ s23 : Int, hcell h1 (Sl.at b1_1 s13 1) = some (VI s23) /\
 ((!decide (s19 = s23)) = true ->
 K (VB false) h1) /\
 ((!decide (s19 = s23)) = false ->
 ∃ m : Nat, m < n1 /\ J1 m (w64 (s13 + 1)) h1)) /\
 ((decide (s13 < (a0_1.n : Int))) = false ->
 K (VB true) h1))
theorem v32 (a0_1 : Sl) (b1_1 : Sl) (h : Heap) (K : Value -> Heap -> Prop) (H : u32 Try.prog a0_1 b1_1 h K) : callM Try.prog 32 #[a0_1.v, b1_1.v] h K := by
  refine c32 a0_1.v b1_1.v h K ?_
  unfold u32 at H
  unfold t32
  have hL : Vars h [] := .nil
  refine pop_len a0_1 _ _ sli37 ?_
  refine pop_len b1_1 _ _ sli37 ?_
  refine pop_ine .i64 _ _ (a0_1.n : Int) (b1_1.n : Int) ?_
  refine condM_b (fun hb1 => ?_) (fun hb1 => ?_)
  ·exact H.1 hb1
  have H := H.2 hb1
  refine pop_len a0_1 _ _ sli37 ?_
  obtain ⟨J1, ⟨n2, h0_1⟩, HB1⟩ := H
  refine loop_intro (J := fun (n : Nat) (vs : List Value) (h' : Heap) => ∃ s13 : Int, vs = [(VI s13)] /\ J1 n s13 h' /\ Vars h' []) n2 ⟨0, rfl, h0_1, hL⟩ ?_
  intro I1 mu1 hI1 junk1 tv1 h1 hi1
  obtain ⟨n1, ⟨s13, hv, hJ1, hL1⟩, hn1⟩ := hI1 _ _ hi1
  cases hv
  have H := HB1 n1 s13 h1 hJ1 hL1
  refine pop_lss .i64 s13 (a0_1.n : Int) ?_
  refine condM_b (fun hb2 => ?_) (fun hb2 => ?_)
  rotate_left
  ·exact H.2 hb2
  have H := H.1 hb2
  obtain ⟨hi2, H⟩ := H
  refine pop_index sli37 siz3 .i64 a0_1 s13 hi2 ?_
  obtain ⟨s19, hc2, H⟩ := H
  refine rop_one one3 (VI s19) hc2 ?_
  obtain ⟨hi3, H⟩ := H
  refine pop_index sli37 siz3 .i64 b1_1 s13 hi3 ?_
  obtain ⟨s23, hc1, H⟩ := H
  refine rop_one one3 (VI s23) hc1 ?_
  refine pop_ine .i64 _ _ s19 s23 ?_
  refine condM_b (fun hb3 => ?_) (fun hb3 => ?_)
  ·exact H.1 hb3
  have H := H.2 hb3
  refine pop_add .i64 s13 1 ?_
  obtain ⟨m_1, hm_1, H⟩ := H
  exact hn1 _ _ ⟨m_1, hm_1, (w64 (s13 + 1)), rfl, H, hL1⟩
def u33 (P : Program) (g0_1 : Sl) (a1_1 : Int) (b2_1 : Int) (h : Heap) (K : Value -> Heap -> Prop) : Prop :=
 ∀ (b1 : Nat) (b2 : Nat) (h2 : Heap), h.size ≤ b1 -> h.size ≤ b2 -> Fr (In []) h h2 -> Vars h2 [(b2, [(VI 0), (VI 0)]), (b1, [g0_1.v])] ->
 callM P 58 #[(.agg #[g0_1.v]), (VI a1_1), (VI b2_1)] h2 fun r1 h3 => ∃ s18 : Bool, r1 = (VB s18) /\ Vars h3 [(b2, [(VI 0), (VI 0)]), (b1, [g0_1.v])] /\
 ((!s18) = true ->
 ∀ (h4 : Heap), Fr (In [b2]) h3 h4 -> Vars h4 [(b2, [(VI 0), (VI 0)]), (b1, [g0_1.v])] ->
 K (.tuple #[(.agg #[(VI 0), (VI 0)]), (VB false)]) h4) /\
 ((!s18) = false ->
 callM P 59 #[(.agg #[g0_1.v]), (VI a1_1), (VI b2_1)] h3 fun r2 h5 => ∃ s25 : Sl, ∃ s25b : Int, r2 = (.tuple #[s25.v, (VI s25b)]) /\ Vars h5 [(b2, [(VI 0), (VI 0)]), (b1, [g0_1.v])] /\
 callM P 84 #[(VI s25b)] h5 fun r3 h6 => ∃ s29 : Int, r3 = (VI s29) /\ Vars h6 [(b2, [(VI 0), (VI 0)]), (b1, [g0_1.v])] /\
 ∃ J1 : Nat -> Int -> Int -> Heap -> Prop, (∃ n0 : Nat, J1 n0 s29 0 h6) /\
 ∀ (n1 : Nat) (num10_1 : Int) (s33 : Int) (h7 : Heap), J1 n1 num10_1 s33 h7 -> Vars h7 [(b2, [(VI 0), (VI 0)]), (b1, [g0_1.v])] ->
 ((decide (s33 < (g0_1.n : Int))) = true ->
 InB g0_1 s33 /\
 ∃ s37 : Sl, hcell h7 (Sl.at g0_1 s33 1) = some s37.v /\
 ∃ J2 : Nat -> Int -> Int -> Heap -> Prop, (∃ n0 : Nat, J2 n0 num10_1 0 h7) /\
 ∀ (n2 : Nat) (num10_2 : Int) (s40 : Int) (h8 : Heap), J2 n2 num10_2 s40 h8 -> Vars h8 [(b2, [(VI 0), (VI 0)]), (b1, [g0_1.v])] ->
 ((decide (s40 < (s37.n : Int))) = true ->
 InB s37 s40 /\
 ∃ s43 : Int, hcell h8 (Sl.at s37 s40 1) = some (VI s43) /\
 ((!decide (s33 = a1_1)) = true ->
 ((!decide (s33 = b2_1)) = true ->
 InB s25 s33 /\
 ∃ s56 : Int, hcell h8 (Sl.at s25 s33 1) = some (VI s56) /\
 InB s25 s43 /\
 ∃ s60 : Int, hcell h8 (Sl.at s25 s43 1) = some (VI s60) /\
 callM P 84 #[(VI (w64 (s56 - s60)))] h8 fun r4 h9 => ∃ s62 : Int, r4 = (VI s62) /\ Vars h9 [(b2, [(VI 0), (VI 0)]), (b1, [g0_1.v])] /\
 hcell h9 (Sl.at s25 s43 1) = some (VI s60) /\
 hcell h9 (Sl.at s25 s33 1) = some (VI s56) /\
 ∃ m : Nat, m < n2 /\ J2 m (w64 (num10_2 + s62)) (w64 (s40 + 1)) h9) /\
 ((!decide (s33 = b2_1)) = false ->
 ∃ m : Nat, m < n2 /\ J2 m num10_2 (w64 (s40 + 1)) h8)) /\
 ((!decide (s33 = a1_1)) = false ->
 ∃ m : Nat, m < n2 /\ J2 m num10_2 (w64 (s40 + 1)) h8)) /\
 ((decide (s40 < (s37.n : Int))) = false ->
 ∃ m : Nat, m < n1 /\ J1 m num10_2 (w64 (s33 + 1)) h8)) /\
 ((decide (s33 < (g0_1.n : Int))) = false ->
 callM P 84 #[(VI s25b)] h7 fun r5 h10 => ∃ s68 : Int, r5 = (VI s68) /\ Vars h10 [(b2, [(VI 0), (VI 0)]), (b1, [g0_1.v])] /\
 callM P 60 #[(VI num10_1), (VI s68)] h10 fun r6 h11 => ∃ s69 : Int, ∃ s69b : Int, r6 = (.agg #[(VI s69), (VI s69b)]) /\ Vars h11 [(b2, [(VI 0), (VI 0)]), (b1, [g0_1.v])] /\
 ∀ (h12 : Heap), Fr (In [b2]) h11 h12 -> Vars h12 [(b2, [(VI s69), (VI s69b)]), (b1, [g0_1.v])] ->
 K (.tuple #[(.agg #[(VI s69), (VI s69b)]), (VB true)]) h12))
theorem v33 (g0_1 : Sl) (a1_1 : Int) (b2_1 : Int) (h : Heap) (K : Value -> Heap -> Prop) (H : u33 Try.prog g0_1 a1_1 b2_1 h K) : callM Try.prog 33 #[(Value.agg #[g0_1.v]), (VI a1_1), (VI b2_1)] h K := by
  refine c33 (Value.agg #[g0_1.v]) (VI a1_1) (VI b2_1) h K ?_
  unfold u33 at H
  unfold t33
  have hL : Vars h [] := .nil
  refine eop_box 26 (Value.agg #[g0_1.v]) rfl hL (fun b1 h1 hb1 hf1 hL1 => ?_)
  refine eop_alloc 36 zer36 rfl hL1 (fun b2 h2 hb2 hf2 hL2 => ?_)
  refine ra agg26 hL2 1 0 [g0_1.v] ?_
  have H := H b1 b2 h2 hb1 (Nat.le_trans (Fr.size (Fr.no' (Fr.r (In []) _) hf1)) hb2) (Fr.no' (Fr.no' (Fr.r (In []) _) hf1) hf2) hL2
  refine H.mono fun r1 h3 H => ?_
  obtain ⟨s18, rfl, hL3, H⟩ := H
  refine pop_not s18 ?_
  refine condM_b (fun hb3 => ?_) (fun hb3 => ?_)
  ·have H := H.1 hb3
   refine pop.mk' (v := (Value.agg #[(VI 0), (VI 0)])) (fun w => by kernel_rfl) ?_
   refine ul siz36 hL3 0 0 [(VI 0), (VI 0)] [(b2, [(VI 0), (VI 0)]), (b1, [g0_1.v])] (fun h4 hf3 hL4 => ?_)
   refine ra agg36 hL4 0 0 [(VI 0), (VI 0)] ?_
   have H := H  h4  (Fr.old (Fr.r (In []) _) hf3) hL4
   exact H
  have H := H.2 hb3
  refine ra agg26 hL3 1 0 [g0_1.v] ?_
  refine H.mono fun r2 h5 H => ?_
  obtain ⟨s25, s25b, rfl, hL5, H⟩ := H
  refine pop_ext (v := s25.v) rfl ?_
  refine pop_ext (v := (VI s25b)) rfl ?_
  refine H.mono fun r3 h6 H => ?_
  obtain ⟨s29, rfl, hL6, H⟩ := H
  refine pop_field 0 fld26_0 b1 0 ?_
  refine rl one24 hL6 1 0 g0_1.v ?_
  refine pop_len g0_1 _ _ sli24 ?_
  obtain ⟨J1, ⟨n4, h0_2⟩, HB2⟩ := H
  refine loop_intro (J := fun (n : Nat) (vs : List Value) (h' : Heap) => ∃ num10_1 : Int, ∃ s33 : Int, vs = [(VI num10_1), (VI s33)] /\ J1 n num10_1 s33 h' /\ Vars h' [(b2, [(VI 0), (VI 0)]), (b1, [g0_1.v])]) n4 ⟨s29, 0, rfl, h0_2, hL6⟩ ?_
  intro I2 mu2 hI2 junk1 tv3 tv4 h7 hi1
  obtain ⟨n1, ⟨num10_1, s33, hv, hJ1, hL7⟩, hn1⟩ := hI2 _ _ hi1
  cases hv
  have H := HB2 n1 num10_1 s33 h7 hJ1 hL7
  refine pop_lss .i64 s33 (g0_1.n : Int) ?_
  refine condM_b (fun hb4 => ?_) (fun hb4 => ?_)
  rotate_left
  ·have H := H.2 hb4
   refine H.mono fun r5 h10 H => ?_
   obtain ⟨s68, rfl, hL10, H⟩ := H
   refine H.mono fun r6 h11 H => ?_
   obtain ⟨s69, s69b, rfl, hL11, H⟩ := H
   refine ul siz36 hL11 0 0 [(VI s69), (VI s69b)] [(b2, [(VI s69), (VI s69b)]), (b1, [g0_1.v])] (fun h12 hf4 hL12 => ?_)
   refine ra agg36 hL12 0 0 [(VI s69), (VI s69b)] ?_
   have H := H  h12  (Fr.old (Fr.r (In []) _) hf4) hL12
   exact H
  have H := H.1 hb4
  obtain ⟨hi2, H⟩ := H
  refine pop_index sli24 siz37 .i64 g0_1 s33 hi2 ?_
  obtain ⟨s37, hc6, H⟩ := H
  refine rop_one one37 s37.v hc6 ?_
  refine pop_len s37 _ _ sli37 ?_
  obtain ⟨J2, ⟨n3, h0_1⟩, HB1⟩ := H
  refine loop_intro (J := fun (n : Nat) (vs : List Value) (h' : Heap) => ∃ num10_2 : Int, ∃ s40 : Int, vs = [(VI num10_2), (VI s40)] /\ J2 n num10_2 s40 h' /\ Vars h' [(b2, [(VI 0), (VI 0)]), (b1, [g0_1.v])]) n3 ⟨num10_1, 0, rfl, h0_1, hL7⟩ ?_
  intro I1 mu1 hI1 junk2 tv1 tv2 h8 hi3
  obtain ⟨n2, ⟨num10_2, s40, hv, hJ2, hL8⟩, hn2⟩ := hI1 _ _ hi3
  cases hv
  have H := HB1 n2 num10_2 s40 h8 hJ2 hL8
  refine pop_lss .i64 s40 (s37.n : Int) ?_
  refine condM_b (fun hb5 => ?_) (fun hb5 => ?_)
  rotate_left
  ·have H := H.2 hb5
   refine pop_add .i64 s33 1 ?_
   obtain ⟨m_4, hm_4, H⟩ := H
   exact hn1 _ _ ⟨m_4, hm_4, num10_2, (w64 (s33 + 1)), rfl, H, hL8⟩
  have H := H.1 hb5
  obtain ⟨hi4, H⟩ := H
  refine pop_index sli37 siz3 .i64 s37 s40 hi4 ?_
  obtain ⟨s43, hc5, H⟩ := H
  refine rop_one one3 (VI s43) hc5 ?_
  refine pop_ine .i64 _ _ s33 a1_1 ?_
  refine guardM_st (fun hb6 => ?_) (fun hb6 => ?_)
  rotate_left
  ·have H := H.2 hb6
   refine gm hb6 ?_
   refine gm hb6 ?_
   refine pop_pickf' hb6 ?_
   refine condM_f ?_
   refine pop_add .i64 s40 1 ?_
   obtain ⟨m_3, hm_3, H⟩ := H
   exact hn2 _ _ ⟨m_3, hm_3, num10_2, (w64 (s40 + 1)), rfl, H, hL8⟩
  have H := H.1 hb6
  refine gy hb6 ?_
  refine gy hb6 ?_
  refine pop_ine .i64 _ _ s33 b2_1 ?_
  refine pop_pickt' hb6 ?_
  refine condM_b (fun hb7 => ?_) (fun hb7 => ?_)
  rotate_left
  ·have H := H.2 hb7
   refine pop_add .i64 s40 1 ?_
   obtain ⟨m_2, hm_2, H⟩ := H
   exact hn2 _ _ ⟨m_2, hm_2, num10_2, (w64 (s40 + 1)), rfl, H, hL8⟩
  have H := H.1 hb7
  obtain ⟨hi5, H⟩ := H
  refine pop_index sli37 siz3 .i64 s25 s33 hi5 ?_
  obtain ⟨s56, hc4, H⟩ := H
  refine rop_one one3 (VI s56) hc4 ?_
  obtain ⟨hi6, H⟩ := H
  refine pop_index sli37 siz3 .i64 s25 s43 hi6 ?_
  obtain ⟨s60, hc3, H⟩ := H
  refine rop_one one3 (VI s60) hc3 ?_
  refine pop_sub .i64 s56 s60 ?_
  refine H.mono fun r4 h9 H => ?_
  obtain ⟨s62, rfl, hL9, H⟩ := H
  refine ⟨?_, ?_⟩
  ·exact still_one one3 H.1
  obtain ⟨hc1, H⟩ := H
  refine ⟨?_, ?_⟩
  ·exact still_one one3 H.1
  obtain ⟨hc2, H⟩ := H
  refine pop_add .i64 num10_2 s62 ?_
  refine pop_add .i64 s40 1 ?_
  obtain ⟨m_1, hm_1, H⟩ := H
  exact hn2 _ _ ⟨m_1, hm_1, (w64 (num10_2 + s62)), (w64 (s40 + 1)), rfl, H, hL9⟩
def u34 (P : Program) (a0_1 : Sl) (h : Heap) (K : Value -> Heap -> Prop) : Prop :=
 ∃ J1 : Nat -> Int -> Int -> Heap -> Prop, (∃ n0 : Nat, J1 n0 0 0 h) /\
 ∀ (n1 : Nat) (n3_1 : Int) (s8 : Int) (h1 : Heap), J1 n1 n3_1 s8 h1 -> Vars h1 [] ->
 ((decide (s8 < (a0_1.n : Int))) = true ->
 InB a0_1 s8 /\
 ∃ s11 : Int, hcell h1 (Sl.at a0_1 s8 1) = some (VI s11) /\
 ∃ m : Nat, m < n1 /\ J1 m (w64 (n3_1 + s11)) (w64 (s8 + 1)) h1) /\
 ((decide (s8 < (a0_1.n : Int))) = false ->
 K (VI n3_1) h1)
theorem v34 (a0_1 : Sl) (h : Heap) (K : Value -> Heap -> Prop) (H : u34 Try.prog a0_1 h K) : callM Try.prog 34 #[a0_1.v] h K := by
  refine c34 a0_1.v h K ?_
  unfold u34 at H
  unfold t34
  have hL : Vars h [] := .nil
  refine pop_len a0_1 _ _ sli37 ?_
  obtain ⟨J1, ⟨n2, h0_1⟩, HB1⟩ := H
  refine loop_intro (J := fun (n : Nat) (vs : List Value) (h' : Heap) => ∃ n3_1 : Int, ∃ s8 : Int, vs = [(VI n3_1), (VI s8)] /\ J1 n n3_1 s8 h' /\ Vars h' []) n2 ⟨0, 0, rfl, h0_1, hL⟩ ?_
  intro I1 mu1 hI1 junk1 tv1 tv2 h1 hi1
  obtain ⟨n1, ⟨n3_1, s8, hv, hJ1, hL1⟩, hn1⟩ := hI1 _ _ hi1
  cases hv
  have H := HB1 n1 n3_1 s8 h1 hJ1 hL1
  refine pop_lss .i64 s8 (a0_1.n : Int) ?_
  refine condM_b (fun hb1 => ?_) (fun hb1 => ?_)
  rotate_left
  ·exact H.2 hb1
  have H := H.1 hb1
  obtain ⟨hi2, H⟩ := H
  refine pop_index sli37 siz3 .i64 a0_1 s8 hi2 ?_
  obtain ⟨s11, hc1, H⟩ := H
  refine rop_one one3 (VI s11) hc1 ?_
  refine pop_add .i64 n3_1 s11 ?_
  refine pop_add .i64 s8 1 ?_
  obtain ⟨m_1, hm_1, H⟩ := H
  exact hn1 _ _ ⟨m_1, hm_1, (w64 (n3_1 + s11)), (w64 (s8 + 1)), rfl, H, hL1⟩
def u35 (P : Program) (code0_1 : Sl) (h : Heap) (K : Value -> Heap -> Prop) : Prop :=
 ∀ (b1 : Nat) (h1 : Heap), h.size ≤ b1 -> Fr (In []) h h1 -> Vars h1 [(b1, [nilSl.v])] ->
 callM P 7 #[code0_1.v] h1 fun r1 h2 => ∃ s6 : Sl, ∃ s6b : Int, ∃ s6c : Int, r1 = (.tuple #[(.agg #[s6.v]), (VI s6b), (VI s6c)]) /\ Vars h2 [(b1, [nilSl.v])] /\
 ∀ (h3 : Heap), Fr (In [b1]) h2 h3 -> Vars h3 [(b1, [s6.v])] ->
 K (.tuple #[(.agg #[s6.v]), (VI s6b), (VI s6c)]) h3
theorem v35 (code0_1 : Sl) (h : Heap) (K : Value -> Heap -> Prop) (H : u35 Try.prog code0_1 h K) : callM Try.prog 35 #[code0_1.v] h K := by
  refine c35 code0_1.v h K ?_
  unfold u35 at H
  unfold t35
  have hL : Vars h [] := .nil
  refine eop_alloc 26 zer26 rfl hL (fun b1 h1 hb1 hf1 hL1 => ?_)
  have H := H b1 h1 hb1 (Fr.no' (Fr.r (In []) _) hf1) hL1
  refine H.mono fun r1 h2 H => ?_
  obtain ⟨s6, s6b, s6c, rfl, hL2, H⟩ := H
  refine pop_ext (v := (Value.agg #[s6.v])) rfl ?_
  refine pop_ext (v := (VI s6b)) rfl ?_
  refine pop_ext (v := (VI s6c)) rfl ?_
  refine ul siz26 hL2 0 0 [s6.v] [(b1, [s6.v])] (fun h3 hf2 hL3 => ?_)
  refine ra agg26 hL3 0 0 [s6.v] ?_
  have H := H  h3  (Fr.old (Fr.r (In []) _) hf2) hL3
  exact H
def u36 (P : Program) (g0_1 : Sl) (a1_1 : Int) (b2_1 : Int) (h : Heap) (K : Value -> Heap -> Prop) : Prop :=
 ∀ (b1 : Nat) (b2 : Nat) (h2 : Heap), h.size ≤ b1 -> h.size ≤ b2 -> Fr (In []) h h2 -> Vars h2 [(b2, [(VI 0), (VI 0)]), (b1, [g0_1.v])] ->
 callM P 61 #[(.agg #[g0_1.v]), (VI a1_1), (VI b2_1)] h2 fun r1 h3 => ∃ s11 : Bool, r1 = (VB s11) /\ Vars h3 [(b2, [(VI 0), (VI 0)]), (b1, [g0_1.v])] /\
 ((!s11) = true ->
 ∀ (h4 : Heap), Fr (In [b2]) h3 h4 -> Vars h4 [(b2, [(VI 0), (VI 0)]), (b1, [g0_1.v])] ->
 K (.tuple #[(.agg #[(VI 0), (VI 0)]), (VB false)]) h4) /\
 ((!s11) = false ->
 callM P 86 #[(.agg #[g0_1.v]), (VI a1_1), (VI b2_1)] h3 fun r2 h5 => ∃ s17 : Int, ∃ s17b : Int, r2 = (.agg #[(VI s17), (VI s17b)]) /\ Vars h5 [(b2, [(VI 0), (VI 0)]), (b1, [g0_1.v])] /\
 ∀ (h6 : Heap), Fr (In [b2]) h5 h6 -> Vars h6 [(b2, [(VI s17), (VI s17b)]), (b1, [g0_1.v])] ->
 K (.tuple #[(.agg #[(VI s17), (VI s17b)]), (VB true)]) h6)
theorem v36 (g0_1 : Sl) (a1_1 : Int) (b2_1 : Int) (h : Heap) (K : Value -> Heap -> Prop) (H : u36 Try.prog g0_1 a1_1 b2_1 h K) : callM Try.prog 36 #[(Value.agg #[g0_1.v]), (VI a1_1), (VI b2_1)] h K := by
  refine c36 (Value.agg #[g0_1.v]) (VI a1_1) (VI b2_1) h K ?_
  unfold u36 at H
  unfold t36
  have hL : Vars h [] := .nil
  refine eop_box 26 (Value.agg #[g0_1.v]) rfl hL (fun b1 h1 hb1 hf1 hL1 => ?_)
  refine eop_alloc 36 zer36 rfl hL1 (fun b2 h2 hb2 hf2 hL2 => ?_)
  refine ra agg26 hL2 1 0 [g0_1.v] ?_
  have H := H b1 b2 h2 hb1 (Nat.le_trans (Fr.size (Fr.no' (Fr.r (In []) _) hf1)) hb2) (Fr.no' (Fr.no' (Fr.r (In []) _) hf1) hf2) hL2
  refine H.mono fun r1 h3 H => ?_
  obtain ⟨s11, rfl, hL3, H⟩ := H
  refine pop_not s11 ?_
  refine condM_b (fun hb3 => ?_) (fun hb3 => ?_)
  ·have H := H.1 hb3
   refine pop.mk' (v := (Value.agg #[(VI 0), (VI 0)])) (fun w => by kernel_rfl) ?_
   refine ul siz36 hL3 0 0 [(VI 0), (VI 0)] [(b2, [(VI 0), (VI 0)]), (b1, [g0_1.v])] (fun h4 hf3 hL4 => ?_)
   refine ra agg36 hL4 0 0 [(VI 0), (VI 0)] ?_
   have H := H  h4  (Fr.old (Fr.r (In []) _) hf3) hL4
   exact H
  have H := H.2 hb3
  refine ra agg26 hL3 1 0 [g0_1.v] ?_
  refine H.mono fun r2 h5 H => ?_
  obtain ⟨s17, s17b, rfl, hL5, H⟩ := H
  refine ul siz36 hL5 0 0 [(VI s17), (VI s17b)] [(b2, [(VI s17), (VI s17b)]), (b1, [g0_1.v])] (fun h6 hf4 hL6 => ?_)
  refine ra agg36 hL6 0 0 [(VI s17), (VI s17b)] ?_
  have H := H  h6  (Fr.old (Fr.r (In []) _) hf4) hL6
  exact H
def u57 (P : Program) (b1 : Nat) (c0_1 : Sl) (c0_2 : Int) (c0_3 : Int) (h : Heap) (K : Value -> Heap -> Prop) : Prop :=
 ∀ (b2 : Nat) (h1 : Heap), h.size ≤ b2 -> Fr (In []) h h1 -> Vars h1 [(b2, [nilSl.v]), (b1, [c0_1.v, (VI c0_2), (Value.int .u64 c0_3)])] ->
 callM P 68 #[(VP b1 0)] h1 fun r1 h2 => ∃ y1 : Sl, ∃ y2 : Int, ∃ y3 : Int, ∃ s10 : Sl, r1 = (.agg #[s10.v]) /\ Vars h2 [(b2, [nilSl.v]), (b1, [y1.v, (VI y2), (Value.int .u64 y3)])] /\
 ∀ (b3 : Nat) (h4 : Heap), h2.size ≤ b3 -> Fr (In []) h2 h4 -> Vars h4 [(b3, [s10.v]), (b2, [nilSl.v]), (b1, [y1.v, (VI y2), (Value.int .u64 y3)])] ->
 ∃ J1 : Sl -> Sl -> Int -> Int -> Heap -> Prop, (callM P 106 #[(VP b1 0), (VI 2)] h4 fun r2 h5 => ∃ y8 : Sl, ∃ y9 : Int, ∃ y10 : Int, ∃ s12 : Bool, r2 = (VB s12) /\ Vars h5 [(b3, [s10.v]), (b2, [nilSl.v]), (b1, [y8.v, (VI y9), (Value.int .u64 y10)])] /\
 (s12 = true ->
 callM P 109 #[(VP b1 0)] h5 fun r3 h6 => ∃ y11 : Sl, ∃ y12 : Int, ∃ y13 : Int, ∃ s14 : Sl, r3 = (.agg #[s14.v]) /\ Vars h6 [(b3, [s10.v]), (b2, [nilSl.v]), (b1, [y11.v, (VI y12), (Value.int .u64 y13)])] /\
 ∀ (h7 : Heap), Fr (In [b3]) h6 h7 -> Vars h7 [(b3, [s14.v]), (b2, [nilSl.v]), (b1, [y11.v, (VI y12), (Value.int .u64 y13)])] ->
 J1 s14 y11 y12 y13 h7) /\
 (s12 = false ->
 J1 s10 y8 y9 y10 h5)) /\
 ∀ (y4 : Sl) (y5 : Sl) (y6 : Int) (y7 : Int) (h8 : Heap), J1 y4 y5 y6 y7 h8 -> Vars h8 [(b3, [y4.v]), (b2, [nilSl.v]), (b1, [y5.v, (VI y6), (Value.int .u64 y7)])] ->
 callM P 69 #[(VP b1 0), (.agg #[y4.v])] h8 fun r4 h9 => ∃ y14 : Sl, ∃ y15 : Int, ∃ y16 : Int, ∃ s17 : Int, r4 = (VI s17) /\ Vars h9 [(b3, [y4.v]), (b2, [nilSl.v]), (b1, [y14.v, (VI y15), (Value.int .u64 y16)])] /\
 callM P 69 #[(VP b1 0), (.agg #[y4.v])] h9 fun r5 h10 => ∃ y17 : Sl, ∃ y18 : Int, ∃ y19 : Int, ∃ s20 : Int, r5 = (VI s20) /\ Vars h10 [(b3, [y4.v]), (b2, [nilSl.v]), (b1, [y17.v, (VI y18), (Value.int .u64 y19)])] /\
 ∃ J2 : Int -> Sl -> Int -> Int -> Heap -> Prop, (((decide (1 < (y4.n : Int))) = true ->
 ((decide (s17 = s20)) = true ->
 callM P 106 #[(VP b1 0), (VI 8)] h10 fun r6 h11 => ∃ y24 : Sl, ∃ y25 : Int, ∃ y26 : Int, ∃ s33 : Bool, r6 = (VB s33) /\ Vars h11 [(b3, [y4.v]), (b2, [nilSl.v]), (b1, [y24.v, (VI y25), (Value.int .u64 y26)])] /\
 ((!s33) = true ->
 (y4.n : Int) ≠ 0 /\
 J2 (Int.tmod (w64 (s17 + 1)) (y4.n : Int)) y24 y25 y26 h11) /\
 ((!s33) = false ->
 J2 s20 y24 y25 y26 h11)) /\
 ((decide (s17 = s20)) = false ->
 J2 s20 y17 y18 y19 h10)) /\
 ((decide (1 < (y4.n : Int))) = false ->
 J2 s20 y17 y18 y19 h10)) /\
 ∀ (y20 : Int) (y21 : Sl) (y22 : Int) (y23 : Int) (h12 : Heap), J2 y20 y21 y22 y23 h12 -> Vars h12 [(b3, [y4.v]), (b2, [nilSl.v]), (b1, [y21.v, (VI y22), (Value.int .u64 y23)])] ->
 ∀ (h13 : Heap), Fr (In [b2]) h12 h13 -> Vars h13 [(b3, [y4.v]), (b2, [y4.v]), (b1, [y21.v, (VI y22), (Value.int .u64 y23)])] ->
 K (.tuple #[(.agg #[y4.v]), (VI s17), (VI y20)]) h13
theorem v57 (b1 : Nat) (c0_1 : Sl) (c0_2 : Int) (c0_3 : Int) (h : Heap) (K : Value -> Heap -> Prop) (hL : Vars h [(b1, [c0_1.v, (VI c0_2), (Value.int .u64 c0_3)])]) (H : u57 Try.prog b1 c0_1 c0_2 c0_3 h K) : callM Try.prog 57 #[(VP b1 0)] h K := by
  refine c57 (VP b1 0) h K ?_
  unfold u57 at H
  unfold t57
  refine eop_alloc 26 zer26 rfl hL (fun b2 h1 hb1 hf1 hL1 => ?_)
  have H := H b2 h1 hb1 (Fr.no' (Fr.r (In []) _) hf1) hL1
  refine H.mono fun r1 h2 H => ?_
  obtain ⟨y1, y2, y3, s10, rfl, hL2, H⟩ := H
  refine eop_alloc 26 zer26 rfl hL2 (fun b3 h3 hb2 hf2 hL3 => ?_)
  refine ul siz26 hL3 0 0 [s10.v] [(b3, [s10.v]), (b2, [nilSl.v]), (b1, [y1.v, (VI y2), (Value.int .u64 y3)])] (fun h4 hf3 hL4 => ?_)
  have H := H b3 h4 hb2 (Fr.new (Fr.no' (Fr.r (In []) _) hf2) hb2 hf3) hL4
  obtain ⟨J1, H, HB2⟩ := H
  refine ⟨fun (vs : List Value) (h' : Heap) => ∃ y4 : Sl, ∃ y5 : Sl, ∃ y6 : Int, ∃ y7 : Int, vs = [] /\ J1 y4 y5 y6 y7 h' /\ Vars h' [(b3, [y4.v]), (b2, [nilSl.v]), (b1, [y5.v, (VI y6), (Value.int .u64 y7)])], ?_, ?_⟩
  ·refine H.mono fun r2 h5 H => ?_
   obtain ⟨y8, y9, y10, s12, rfl, hL5, H⟩ := H
   refine condM_b (fun hb3 => ?_) (fun hb3 => ?_)
   rotate_left
   ·have H := H.2 hb3
    exact ⟨s10, y8, y9, y10, rfl, H, hL5⟩
   have H := H.1 hb3
   refine H.mono fun r3 h6 H => ?_
   obtain ⟨y11, y12, y13, s14, rfl, hL6, H⟩ := H
   refine ul siz26 hL6 0 0 [s14.v] [(b3, [s14.v]), (b2, [nilSl.v]), (b1, [y11.v, (VI y12), (Value.int .u64 y13)])] (fun h7 hf4 hL7 => ?_)
   have H := H  h7  (Fr.old (Fr.r (In []) _) hf4) hL7
   exact ⟨s14, y11, y12, y13, rfl, H, hL7⟩
  intro junk1  h8
  rintro ⟨y4, y5, y6, y7, hv, hJ1, hL8⟩
  have H := HB2 y4 y5 y6 y7 h8 hJ1 hL8
  refine ra agg26 hL8 0 0 [y4.v] ?_
  refine ra agg26 hL8 0 0 [y4.v] ?_
  refine H.mono fun r4 h9 H => ?_
  obtain ⟨y14, y15, y16, s17, rfl, hL9, H⟩ := H
  refine ⟨?_, ?_⟩
  ·exact still_locA agg26 hL9 0 rfl 0 (vs := [y4.v]) rfl rfl
  refine H.mono fun r5 h10 H => ?_
  obtain ⟨y17, y18, y19, s20, rfl, hL10, H⟩ := H
  obtain ⟨J2, H, HB1⟩ := H
  refine ⟨fun (vs : List Value) (h' : Heap) => ∃ y20 : Int, ∃ y21 : Sl, ∃ y22 : Int, ∃ y23 : Int, vs = [(VI y20)] /\ J2 y20 y21 y22 y23 h' /\ Vars h' [(b3, [y4.v]), (b2, [nilSl.v]), (b1, [y21.v, (VI y22), (Value.int .u64 y23)])], ?_, ?_⟩
  ·refine pop_field 0 fld26_0 b3 0 ?_
   refine rl one24 hL10 0 0 y4.v ?_
   refine pop_len y4 _ _ sli24 ?_
   refine pop_gtr .i64 (y4.n : Int) 1 ?_
   refine guardM_st (fun hb4 => ?_) (fun hb4 => ?_)
   rotate_left
   ·have H := H.2 hb4
    refine gm hb4 ?_
    refine gm hb4 ?_
    refine pop_pickf' hb4 ?_
    refine gn ?_
    refine gn ?_
    refine gn ?_
    refine pop_pickf _ _ ?_
    refine condM_f ?_
    exact ⟨s20, y17, y18, y19, rfl, H, hL10⟩
   have H := H.1 hb4
   refine gy hb4 ?_
   refine gy hb4 ?_
   refine pop_ieq .i64 _ _ s17 s20 ?_
   refine pop_pickt' hb4 ?_
   refine guardM_st (fun hb5 => ?_) (fun hb5 => ?_)
   rotate_left
   ·have H := H.2 hb5
    refine gm hb5 ?_
    refine gm hb5 ?_
    refine pop_pickf' hb5 ?_
    refine condM_f ?_
    exact ⟨s20, y17, y18, y19, rfl, H, hL10⟩
   have H := H.1 hb5
   refine gy hb5 ?_
   refine H.mono fun r6 h11 H => ?_
   obtain ⟨y24, y25, y26, s33, rfl, hL11, H⟩ := H
   refine gy hb5 ?_
   refine pop_not s33 ?_
   refine pop_pickt' hb5 ?_
   refine condM_b (fun hb6 => ?_) (fun hb6 => ?_)
   rotate_left
   ·have H := H.2 hb6
    exact ⟨s20, y24, y25, y26, rfl, H, hL11⟩
   have H := H.1 hb6
   refine pop_add .i64 s17 1 ?_
   obtain ⟨hz_1, H⟩ := H
   refine pop_rem .i64 (w64 (s17 + 1)) (y4.n : Int) hz_1 ?_
   exact ⟨(Int.tmod (w64 (s17 + 1)) (y4.n : Int)), y24, y25, y26, rfl, H, hL11⟩
  intro junk2 tv1 h12
  rintro ⟨y20, y21, y22, y23, hv, hJ2, hL12⟩
  cases hv
  have H := HB1 y20 y21 y22 y23 h12 hJ2 hL12
  refine ra agg26 hL12 0 0 [y4.v] ?_
  refine ul siz26 hL12 1 0 [y4.v] [(b3, [y4.v]), (b2, [y4.v]), (b1, [y21.v, (VI y22), (Value.int .u64 y23)])] (fun h13 hf5 hL13 => ?_)
  refine ra agg26 hL13 1 0 [y4.v] ?_
  have H := H  h13  (Fr.old (Fr.r (In []) _) hf5) hL13
  exact H
def u58 (P : Program) (g0_1 : Sl) (a1_1 : Int) (b2_1 : Int) (h : Heap) (K : Value -> Heap -> Prop) : Prop :=
 ∀ (b1 : Nat) (h1 : Heap), h.size ≤ b1 -> Fr (In []) h h1 -> Vars h1 [(b1, [g0_1.v])] ->
 eop P (Instr.buildSlice 37 2 #[(0, (VI a1_1)), (1, (VI b2_1))]) h1 fun r1 h2 => ∃ s13 : Sl, r1 = s13.v /\ Vars h2 [(b1, [g0_1.v])] /\
 callM P 63 #[(.agg #[g0_1.v]), s13.v] h2 fun r2 h3 => ∃ s14 : Bool, r2 = (VB s14) /\ Vars h3 [(b1, [g0_1.v])] /\
 ((!s14) = true ->
 K (VB false) h3) /\
 ((!s14) = false ->
 ((decide (a1_1 = b2_1)) = true ->
 K (VB false) h3) /\
 ((decide (a1_1 = b2_1)) = false ->
 ∃ J1 : Nat -> Int -> Heap -> Prop, (∃ n0 : Nat, J1 n0 0 h3) /\
 ∀ (n1 : Nat) (s24 : Int) (h4 : Heap), J1 n1 s24 h4 -> Vars h4 [(b1, [g0_1.v])] ->
 ((decide (s24 < (g0_1.n : Int))) = true ->
 InB g0_1 s24 /\
 ∃ s28 : Sl, hcell h4 (Sl.at g0_1 s24 1) = some s28.v /\
 callM P 110 #[(.agg #[g0_1.v]), (VI s24)] h4 fun r3 h5 => ∃ s31 : Sl, r3 = s31.v /\ Vars h5 [(b1, [g0_1.v])] /\
 InB s31 a1_1 /\
 ∃ s35 : Int, hcell h5 (Sl.at s31 a1_1 1) = some (VI s35) /\
 ((decide (s35 < 0)) = true ->
 InB s31 b2_1 /\
 ∃ s41 : Int, hcell h5 (Sl.at s31 b2_1 1) = some (VI s41) /\
 ((decide (s41 < 0)) = true ->
 K (VB false) h5) /\
 ((decide (s41 < 0)) = false ->
 ((!decide (s24 = a1_1)) = true ->
 ((!decide (s24 = b2_1)) = true ->
 ((decide ((s28.n : Int) = 0)) = true ->
 K (VB false) h5) /\
 ((decide ((s28.n : Int) = 0)) = false ->
 ∃ m : Nat, m < n1 /\ J1 m (w64 (s24 + 1)) h5)) /\
 ((!decide (s24 = b2_1)) = false ->
 ∃ m : Nat, m < n1 /\ J1 m (w64 (s24 + 1)) h5)) /\
 ((!decide (s24 = a1_1)) = false ->
 ∃ m : Nat, m < n1 /\ J1 m (w64 (s24 + 1)) h5))) /\
 ((decide (s35 < 0)) = false ->
 ((!decide (s24 = a1_1)) = true ->
 ((!decide (s24 = b2_1)) = true ->
 ((decide ((s28.n : Int) = 0)) = true ->
 K (VB false) h5) /\
 ((decide ((s28.n : Int) = 0)) = false ->
 ∃ m : Nat, m < n1 /\ J1 m (w64 (s24 + 1)) h5)) /\
 ((!decide (s24 = b2_1)) = false ->
 ∃ m : Nat, m < n1 /\ J1 m (w64 (s24 + 1)) h5)) /\
 ((!decide (s24 = a1_1)) = false ->
 ∃ m : Nat, m < n1 /\ J1 m (w64 (s24 + 1)) h5))) /\
 ((decide (s24 < (g0_1.n : Int))) = false ->
 K (VB true) h4)))
theorem v58 (g0_1 : Sl) (a1_1 : Int) (b2_1 : Int) (h : Heap) (K : Value -> Heap -> Prop) (H : u58 Try.prog g0_1 a1_1 b2_1 h K) : callM Try.prog 58 #[(Value.agg #[g0_1.v]), (VI a1_1), (VI b2_1)] h K := by
  refine c58 (Value.agg #[g0_1.v]) (VI a1_1) (VI b2_1) h K ?_
  unfold u58 at H
  unfold t58
  have hL : Vars h [] := .nil
  refine eop_box 26 (Value.agg #[g0_1.v]) rfl hL (fun b1 h1 hb1 hf1 hL1 => ?_)
  refine ra agg26 hL1 0 0 [g0_1.v] ?_
  have H := H b1 h1 hb1 (Fr.no' (Fr.r (In []) _) hf1) hL1
  refine H.mono fun r1 h2 H => ?_
  obtain ⟨s13, rfl, hL2, H⟩ := H
  refine H.mono fun r2 h3 H => ?_
  obtain ⟨s14, rfl, hL3, H⟩ := H
  refine pop_not s14 ?_
  refine guardM_sf (fun hb2 => ?_) (fun hb2 => ?_)
  rotate_left
  ·have H := H.1 hb2
   refine gm hb2 ?_
   refine gm hb2 ?_
   refine pop_pickt' hb2 ?_
   refine condM_t ?_
   exact H
  have H := H.2 hb2
  refine gy hb2 ?_
  refine gy hb2 ?_
  refine pop_ieq .i64 _ _ a1_1 b2_1 ?_
  refine pop_pickf' hb2 ?_
  refine condM_b (fun hb3 => ?_) (fun hb3 => ?_)
  ·exact H.1 hb3
  have H := H.2 hb3
  refine pop_field 0 fld26_0 b1 0 ?_
  refine rl one24 hL3 0 0 g0_1.v ?_
  refine pop_len g0_1 _ _ sli24 ?_
  obtain ⟨J1, ⟨n2, h0_1⟩, HB1⟩ := H
  refine loop_intro (J := fun (n : Nat) (vs : List Value) (h' : Heap) => ∃ s24 : Int, vs = [(VI s24)] /\ J1 n s24 h' /\ Vars h' [(b1, [g0_1.v])]) n2 ⟨0, rfl, h0_1, hL3⟩ ?_
  intro I1 mu1 hI1 junk1 tv1 h4 hi1
  obtain ⟨n1, ⟨s24, hv, hJ1, hL4⟩, hn1⟩ := hI1 _ _ hi1
  cases hv
  have H := HB1 n1 s24 h4 hJ1 hL4
  refine pop_lss .i64 s24 (g0_1.n : Int) ?_
  refine condM_b (fun hb4 => ?_) (fun hb4 => ?_)
  rotate_left
  ·exact H.2 hb4
  have H := H.1 hb4
  obtain ⟨hi2, H⟩ := H
  refine pop_index sli24 siz37 .i64 g0_1 s24 hi2 ?_
  obtain ⟨s28, hc3, H⟩ := H
  refine rop_one one37 s28.v hc3 ?_
  refine ra agg26 hL4 0 0 [g0_1.v] ?_
  refine H.mono fun r3 h5 H => ?_
  obtain ⟨s31, rfl, hL5, H⟩ := H
  obtain ⟨hi3, H⟩ := H
  refine pop_index sli37 siz3 .i64 s31 a1_1 hi3 ?_
  obtain ⟨s35, hc2, H⟩ := H
  refine rop_one one3 (VI s35) hc2 ?_
  refine pop_lss .i64 s35 0 ?_
  refine guardM_st (fun hb5 => ?_) (fun hb5 => ?_)
  rotate_left
  ·have H := H.2 hb5
   refine gm hb5 ?_
   refine gm hb5 ?_
   refine gm hb5 ?_
   refine gm hb5 ?_
   refine pop_pickf' hb5 ?_
   refine guardM_y ?_
   refine guardM_y ?_
   refine guardM_y ?_
   refine pop_ine .i64 _ _ s24 a1_1 ?_
   refine guardM_y ?_
   refine guardM_st (fun hb10 => ?_) (fun hb10 => ?_)
   rotate_left
   ·have H := H.2 hb10
    refine gm hb10 ?_
    refine gm hb10 ?_
    refine guardM_y ?_
    refine pop_pickf' hb10 ?_
    refine guardM_y ?_
    refine gn ?_
    refine gn ?_
    refine gn ?_
    refine guardM_y ?_
    refine pop_pickf _ _ ?_
    refine pop_pickf _ _ ?_
    refine condM_f ?_
    refine pop_add .i64 s24 1 ?_
    obtain ⟨m_6, hm_6, H⟩ := H
    exact hn1 _ _ ⟨m_6, hm_6, (w64 (s24 + 1)), rfl, H, hL5⟩
   have H := H.1 hb10
   refine gy hb10 ?_
   refine gy hb10 ?_
   refine pop_ine .i64 _ _ s24 b2_1 ?_
   refine guardM_y ?_
   refine pop_pickt' hb10 ?_
   refine guardM_y ?_
   refine guardM_st (fun hb11 => ?_) (fun hb11 => ?_)
   rotate_left
   ·have H := H.2 hb11
    refine gm hb11 ?_
    refine gm hb11 ?_
    refine guardM_y ?_
    refine pop_pickf' hb11 ?_
    refine pop_pickf _ _ ?_
    refine condM_f ?_
    refine pop_add .i64 s24 1 ?_
    obtain ⟨m_5, hm_5, H⟩ := H
    exact hn1 _ _ ⟨m_5, hm_5, (w64 (s24 + 1)), rfl, H, hL5⟩
   have H := H.1 hb11
   refine gy hb11 ?_
   refine pop_len s28 _ _ sli37 ?_
   refine gy hb11 ?_
   refine pop_ieq .i64 _ _ (s28.n : Int) 0 ?_
   refine guardM_y ?_
   refine pop_pickt' hb11 ?_
   refine pop_pickf _ _ ?_
   refine condM_b (fun hb12 => ?_) (fun hb12 => ?_)
   ·exact H.1 hb12
   have H := H.2 hb12
   refine pop_add .i64 s24 1 ?_
   obtain ⟨m_4, hm_4, H⟩ := H
   exact hn1 _ _ ⟨m_4, hm_4, (w64 (s24 + 1)), rfl, H, hL5⟩
  have H := H.1 hb5
  refine gy hb5 ?_
  refine gy hb5 ?_
  obtain ⟨hi4, H⟩ := H
  refine pop_index sli37 siz3 .i64 s31 b2_1 hi4 ?_
  refine gy hb5 ?_
  obtain ⟨s41, hc1, H⟩ := H
  refine rop_one one3 (VI s41) hc1 ?_
  refine gy hb5 ?_
  refine pop_lss .i64 s41 0 ?_
  refine pop_pickt' hb5 ?_
  refine guardM_sf (fun hb6 => ?_) (fun hb6 => ?_)
  rotate_left
  ·have H := H.1 hb6
   refine gm hb6 ?_
   refine gm hb6 ?_
   refine gm hb6 ?_
   refine gn ?_
   refine gn ?_
   refine gn ?_
   refine gm hb6 ?_
   refine gm hb6 ?_
   refine gn ?_
   refine gn ?_
   refine gn ?_
   refine gm hb6 ?_
   refine pop_pickt' hb6 ?_
   refine condM_t ?_
   exact H
  have H := H.2 hb6
  refine gy hb6 ?_
  refine gy hb6 ?_
  refine pop_ine .i64 _ _ s24 a1_1 ?_
  refine gy hb6 ?_
  refine guardM_st (fun hb7 => ?_) (fun hb7 => ?_)
  rotate_left
  ·have H := H.2 hb7
   refine gm hb7 ?_
   refine gm hb7 ?_
   refine gy hb6 ?_
   refine pop_pickf' hb7 ?_
   refine gy hb6 ?_
   refine gn ?_
   refine gn ?_
   refine gn ?_
   refine gy hb6 ?_
   refine pop_pickf _ _ ?_
   refine pop_pickf' hb6 ?_
   refine condM_f ?_
   refine pop_add .i64 s24 1 ?_
   obtain ⟨m_3, hm_3, H⟩ := H
   exact hn1 _ _ ⟨m_3, hm_3, (w64 (s24 + 1)), rfl, H, hL5⟩
  have H := H.1 hb7
  refine gy hb7 ?_
  refine gy hb7 ?_
  refine pop_ine .i64 _ _ s24 b2_1 ?_
  refine gy hb6 ?_
  refine pop_pickt' hb7 ?_
  refine gy hb6 ?_
  refine guardM_st (fun hb8 => ?_) (fun hb8 => ?_)
  rotate_left
  ·have H := H.2 hb8
   refine gm hb8 ?_
   refine gm hb8 ?_
   refine gy hb6 ?_
   refine pop_pickf' hb8 ?_
   refine pop_pickf' hb6 ?_
   refine condM_f ?_
   refine pop_add .i64 s24 1 ?_
   obtain ⟨m_2, hm_2, H⟩ := H
   exact hn1 _ _ ⟨m_2, hm_2, (w64 (s24 + 1)), rfl, H, hL5⟩
  have H := H.1 hb8
  refine gy hb8 ?_
  refine pop_len s28 _ _ sli37 ?_
  refine gy hb8 ?_
  refine pop_ieq .i64 _ _ (s28.n : Int) 0 ?_
  refine gy hb6 ?_
  refine pop_pickt' hb8 ?_
  refine pop_pickf' hb6 ?_
  refine condM_b (fun hb9 => ?_) (fun hb9 => ?_)
  ·exact H.1 hb9
  have H := H.2 hb9
  refine pop_add .i64 s24 1 ?_
  obtain ⟨m_1, hm_1, H⟩ := H
  exact hn1 _ _ ⟨m_1, hm_1, (w64 (s24 + 1)), rfl, H, hL5⟩
def u59 (P : Program) (g0_1 : Sl) (a1_1 : Int) (b2_1 : Int) (h : Heap) (K : Value -> Heap -> Prop) : Prop :=
 ∀ (b1 : Nat) (h1 : Heap), h.size ≤ b1 -> Fr (In []) h h1 -> Vars h1 [(b1, [g0_1.v])] ->
 callM P 66 #[(.agg #[g0_1.v]), (VI a1_1), (VI b2_1), (Value.func (.func 111) #[] #[]), (VI 1), (VI 0)] h1 fun r1 h2 => ∃ s11 : Sl, ∃ s11b : Int, r1 = (.tuple #[s11.v, (VI s11b)]) /\ Vars h2 [(b1, [g0_1.v])] /\
 K (.tuple #[s11.v, (VI s11b)]) h2
theorem v59 (g0_1 : Sl) (a1_1 : Int) (b2_1 : Int) (h : Heap) (K : Value -> Heap -> Prop) (H : u59 Try.prog g0_1 a1_1 b2_1 h K) : callM Try.prog 59 #[(Value.agg #[g0_1.v]), (VI a1_1), (VI b2_1)] h K := by
  refine c59 (Value.agg #[g0_1.v]) (VI a1_1) (VI b2_1) h K ?_
  unfold u59 at H
  unfold t59
  have hL : Vars h [] := .nil
  refine eop_box 26 (Value.agg #[g0_1.v]) rfl hL (fun b1 h1 hb1 hf1 hL1 => ?_)
  refine ra agg26 hL1 0 0 [g0_1.v] ?_
  have H := H b1 h1 hb1 (Fr.no' (Fr.r (In []) _) hf1) hL1
  refine H.mono fun r1 h2 H => ?_
  obtain ⟨s11, s11b, rfl, hL2, H⟩ := H
  refine pop_ext (v := s11.v) rfl ?_
  refine pop_ext (v := (VI s11b)) rfl ?_
  exact H
def u60 (P : Program) (num0_1 : Int) (den1_1 : Int) (h : Heap) (K : Value -> Heap -> Prop) : Prop :=
 ∀ (b1 : Nat) (h1 : Heap), h.size ≤ b1 -> Fr (In []) h h1 -> Vars h1 [(b1, [(VI 0), (VI 0)])] ->
 callM P 112 #[(VI num0_1), (VI den1_1)] h1 fun r1 h2 => ∃ s8 : Int, r1 = (VI s8) /\ Vars h2 [(b1, [(VI 0), (VI 0)])] /\
 ∃ J1 : Int -> Heap -> Prop, (((decide (den1_1 < 0)) = true ->
 J1 (w64 (0 - s8)) h2) /\
 ((decide (den1_1 < 0)) = false ->
 J1 s8 h2)) /\
 ∀ (y1 : Int) (h3 : Heap), J1 y1 h3 -> Vars h3 [(b1, [(VI 0), (VI 0)])] ->
 y1 ≠ 0 /\
 y1 ≠ 0 /\
 ∀ (h4 : Heap), Fr (In [b1]) h3 h4 -> Vars h4 [(b1, [(VI (w64 (Int.tdiv num0_1 y1))), (VI (w64 (Int.tdiv den1_1 y1)))])] ->
 K (.agg #[(VI (w64 (Int.tdiv num0_1 y1))), (VI (w64 (Int.tdiv den1_1 y1)))]) h4
theorem v60 (num0_1 : Int) (den1_1 : Int) (h : Heap) (K : Value -> Heap -> Prop) (H : u60 Try.prog num0_1 den1_1 h K) : callM Try.prog 60 #[(VI num0_1), (VI den1_1)] h K := by
  refine c60 (VI num0_1) (VI den1_1) h K ?_
  unfold u60 at H
  unfold t60
  have hL : Vars h [] := .nil
  refine eop_alloc 36 zer36 rfl hL (fun b1 h1 hb1 hf1 hL1 => ?_)
  have H := H b1 h1 hb1 (Fr.no' (Fr.r (In []) _) hf1) hL1
  refine H.mono fun r1 h2 H => ?_
  obtain ⟨s8, rfl, hL2, H⟩ := H
  obtain ⟨J1, H, HB1⟩ := H
  refine ⟨fun (vs : List Value) (h' : Heap) => ∃ y1 : Int, vs = [(VI y1)] /\ J1 y1 h' /\ Vars h' [(b1, [(VI 0), (VI 0)])], ?_, ?_⟩
  ·refine pop_lss .i64 den1_1 0 ?_
   refine condM_b (fun hb2 => ?_) (fun hb2 => ?_)
   rotate_left
   ·have H := H.2 hb2
    exact ⟨s8, rfl, H, hL2⟩
   have H := H.1 hb2
   refine pop_neg .i64 s8 ?_
   exact ⟨(w64 (0 - s8)), rfl, H, hL2⟩
  intro junk1 tv1 h3
  rintro ⟨y1, hv, hJ1, hL3⟩
  cases hv
  have H := HB1 y1 h3 hJ1 hL3
  obtain ⟨hz_1, H⟩ := H
  refine pop_quo .i64 num0_1 y1 hz_1 ?_
  obtain ⟨hz_2, H⟩ := H
  refine pop_quo .i64 den1_1 y1 hz_2 ?_
  refine pop.mk' (v := (Value.agg #[(VI (w64 (Int.tdiv num0_1 y1))), (VI (w64 (Int.tdiv den1_1 y1)))])) (fun w => by kernel_rfl) ?_
  refine ul siz36 hL3 0 0 [(VI (w64 (Int.tdiv num0_1 y1))), (VI (w64 (Int.tdiv den1_1 y1)))] [(b1, [(VI (w64 (Int.tdiv num0_1 y1))), (VI (w64 (Int.tdiv den1_1 y1)))])] (fun h4 hf2 hL4 => ?_)
  refine ra agg36 hL4 0 0 [(VI (w64 (Int.tdiv num0_1 y1))), (VI (w64 (Int.tdiv den1_1 y1)))] ?_
  have H := H  h4  (Fr.old (Fr.r (In []) _) hf2) hL4
  exact H
def u61 (P : Program) (g0_1 : Sl) (a1_1 : Int) (b2_1 : Int) (h : Heap) (K : Value -> Heap -> Prop) : Prop :=
 ∀ (b1 : Nat) (h1 : Heap), h.size ≤ b1 -> Fr (In []) h h1 -> Vars h1 [(b1, [g0_1.v])] ->
 callM P 64 #[(.agg #[g0_1.v]), (VI a1_1), (VI b2_1)] h1 fun r1 h2 => ∃ s10 : Bool, r1 = (VB s10) /\ Vars h2 [(b1, [g0_1.v])] /\
 (s10 = true ->
 callM P 65 #[(.agg #[g0_1.v]), (VI a1_1), (VI b2_1)] h2 fun r2 h3 => ∃ s15 : Bool, r2 = (VB s15) /\ Vars h3 [(b1, [g0_1.v])] /\
 K (VB s15) h3) /\
 (s10 = false ->
 K (VB false) h2)
theorem v61 (g0_1 : Sl) (a1_1 : Int) (b2_1 : Int) (h : Heap) (K : Value -> Heap -> Prop) (H : u61 Try.prog g0_1 a1_1 b2_1 h K) : callM Try.prog 61 #[(Value.agg #[g0_1.v]), (VI a1_1), (VI b2_1)] h K := by
  refine c61 (Value.agg #[g0_1.v]) (VI a1_1) (VI b2_1) h K ?_
  unfold u61 at H
  unfold t61
  have hL : Vars h [] := .nil
  refine eop_box 26 (Value.agg #[g0_1.v]) rfl hL (fun b1 h1 hb1 hf1 hL1 => ?_)
  refine ra agg26 hL1 0 0 [g0_1.v] ?_
  have H := H b1 h1 hb1 (Fr.no' (Fr.r (In []) _) hf1) hL1
  refine H.mono fun r1 h2 H => ?_
  obtain ⟨s10, rfl, hL2, H⟩ := H
  refine guardM_st (fun hb2 => ?_) (fun hb2 => ?_)
  rotate_left
  ·have H := H.2 hb2
   refine gm hb2 ?_
   refine gm hb2 ?_
   refine gm hb2 ?_
   refine pop_pickf' hb2 ?_
   exact H
  have H := H.1 hb2
  refine ra agg26 hL2 0 0 [g0_1.v] ?_
  refine gy hb2 ?_
  refine gy hb2 ?_
  refine gy hb2 ?_
  refine H.mono fun r2 h3 H => ?_
  obtain ⟨s15, rfl, hL3, H⟩ := H
  refine pop_pickt' hb2 ?_
  exact H
def u62 (P : Program) (g0_1 : Sl) (a1_1 : Int) (b2_1 : Int) (h : Heap) (K : Value -> Heap -> Prop) : Prop :=
 ∀ (b1 : Nat) (h1 : Heap), h.size ≤ b1 -> Fr (In []) h h1 -> Vars h1 [(b1, [g0_1.v])] ->
 callM P 76 #[(.agg #[g0_1.v]), (VI a1_1), (VI b2_1)] h1 fun r1 h2 => ∃ s24 : Sl, ∃ s24b : Sl, r1 = (.tuple #[s24.v, s24b.v]) /\ Vars h2 [(b1, [g0_1.v])] /\
 ∃ J1 : Nat -> Sl -> Int -> Heap -> Prop, (∃ n0 : Nat, J1 n0 nilSl 0 h2) /\
 ∀ (n1 : Nat) (right9_1 : Sl) (s29 : Int) (h3 : Heap), J1 n1 right9_1 s29 h3 -> Vars h3 [(b1, [g0_1.v])] ->
 ((decide (s29 < (s24.n : Int))) = true ->
 InB s24 s29 /\
 ∃ s32 : Int, hcell h3 (Sl.at s24 s29 1) = some (VI s32) /\
 InB g0_1 s32 /\
 ∃ s37 : Sl, hcell h3 (Sl.at g0_1 s32 1) = some s37.v /\
 ∃ J2 : Nat -> Int -> Int -> Heap -> Prop, (∃ n0 : Nat, J2 n0 0 0 h3) /\
 ∀ (n2 : Nat) (n12_1 : Int) (s39 : Int) (h4 : Heap), J2 n2 n12_1 s39 h4 -> Vars h4 [(b1, [g0_1.v])] ->
 ((decide (s39 < (s37.n : Int))) = true ->
 InB s37 s39 /\
 ∃ s42 : Int, hcell h4 (Sl.at s37 s39 1) = some (VI s42) /\
 ((decide (s42 = a1_1)) = true ->
 ∃ m : Nat, m < n2 /\ J2 m (w64 (n12_1 + 1)) (w64 (s39 + 1)) h4) /\
 ((decide (s42 = a1_1)) = false ->
 ∃ m : Nat, m < n2 /\ J2 m n12_1 (w64 (s39 + 1)) h4)) /\
 ((decide (s39 < (s37.n : Int))) = false ->
 eop P (Instr.buildSlice 37 1 #[(0, (VI n12_1))]) h4 fun r2 h5 => ∃ s51 : Sl, r2 = s51.v /\ Vars h5 [(b1, [g0_1.v])] /\
 eop P (appS 37 37 37 right9_1.v s51.v) h5 fun r3 h6 => ∃ s52 : Sl, r3 = s52.v /\ Vars h6 [(b1, [g0_1.v])] /\
 ∃ m : Nat, m < n1 /\ J1 m s52 (w64 (s29 + 1)) h6)) /\
 ((decide (s29 < (s24.n : Int))) = false ->
 callM P 77 #[s24b.v, right9_1.v] h3 fun r4 h7 => ∃ s57 : Sl, ∃ s57b : Int, r4 = (.tuple #[s57.v, (VI s57b)]) /\ Vars h7 [(b1, [g0_1.v])] /\
 eop P (Instr.makeSlice 29 (VI (g0_1.n : Int)) (VI (g0_1.n : Int))) h7 fun r5 h8 => ∃ s63 : Sl, r5 = s63.v /\ Vars h8 [(b1, [g0_1.v])] /\
 InB s63 a1_1 /\
 uop P (Instr.storeAt 36 (Value.pointer (some (Sl.at s63 a1_1 2))) (.agg #[(VI 1), (VI 1)])) h8 fun r6 h9 => Vars h9 [(b1, [g0_1.v])] /\
 InB s63 b2_1 /\
 uop P (Instr.storeAt 36 (Value.pointer (some (Sl.at s63 b2_1 2))) (.agg #[(VI 0), (VI 1)])) h9 fun r7 h10 => Vars h10 [(b1, [g0_1.v])] /\
 ∃ J3 : Nat -> Int -> Heap -> Prop, (∃ n0 : Nat, J3 n0 0 h10) /\
 ∀ (n4 : Nat) (s74 : Int) (h11 : Heap), J3 n4 s74 h11 -> Vars h11 [(b1, [g0_1.v])] ->
 ((decide (s74 < (s24.n : Int))) = true ->
 InB s24 s74 /\
 ∃ s78 : Int, hcell h11 (Sl.at s24 s74 1) = some (VI s78) /\
 InB s57 s74 /\
 ∃ s84 : Int, hcell h11 (Sl.at s57 s74 1) = some (VI s84) /\
 callM P 74 #[(VI s84), (VI s57b)] h11 fun r8 h12 => ∃ s86 : Int, ∃ s86b : Int, r8 = (.agg #[(VI s86), (VI s86b)]) /\ Vars h12 [(b1, [g0_1.v])] /\
 InB s63 s78 /\
 uop P (Instr.storeAt 36 (Value.pointer (some (Sl.at s63 s78 2))) (.agg #[(VI s86), (VI s86b)])) h12 fun r9 h13 => Vars h13 [(b1, [g0_1.v])] /\
 ∃ m : Nat, m < n4 /\ J3 m (w64 (s74 + 1)) h13) /\
 ((decide (s74 < (s24.n : Int))) = false ->
 K s63.v h11))
theorem v62 (g0_1 : Sl) (a1_1 : Int) (b2_1 : Int) (h : Heap) (K : Value -> Heap -> Prop) (H : u62 Try.prog g0_1 a1_1 b2_1 h K) : callM Try.prog 62 #[(Value.agg #[g0_1.v]), (VI a1_1), (VI b2_1)] h K := by
  refine c62 (Value.agg #[g0_1.v]) (VI a1_1) (VI b2_1) h K ?_
  unfold u62 at H
  unfold t62
  have hL : Vars h [] := .nil
  refine eop_box 26 (Value.agg #[g0_1.v]) rfl hL (fun b1 h1 hb1 hf1 hL1 => ?_)
  refine ra agg26 hL1 0 0 [g0_1.v] ?_
  have H := H b1 h1 hb1 (Fr.no' (Fr.r (In []) _) hf1) hL1
  refine H.mono fun r1 h2 H => ?_
  obtain ⟨s24, s24b, rfl, hL2, H⟩ := H
  refine pop_ext (v := s24.v) rfl ?_
  refine pop_ext (v := s24b.v) rfl ?_
  refine pop_len s24 _ _ sli37 ?_
  obtain ⟨J1, ⟨n6, h0_3⟩, HB3⟩ := H
  refine loop_intro (J := fun (n : Nat) (vs : List Value) (h' : Heap) => ∃ right9_1 : Sl, ∃ s29 : Int, vs = [right9_1.v, (VI s29)] /\ J1 n right9_1 s29 h' /\ Vars h' [(b1, [g0_1.v])]) n6 ⟨nilSl, 0, rfl, h0_3, hL2⟩ ?_
  intro I3 mu3 hI3 junk1 tv4 tv5 h3 hi1
  obtain ⟨n1, ⟨right9_1, s29, hv, hJ1, hL3⟩, hn1⟩ := hI3 _ _ hi1
  cases hv
  have H := HB3 n1 right9_1 s29 h3 hJ1 hL3
  refine pop_lss .i64 s29 (s24.n : Int) ?_
  refine condM_b (fun hb2 => ?_) (fun hb2 => ?_)
  ·have H := H.1 hb2
   obtain ⟨hi2, H⟩ := H
   refine pop_index sli37 siz3 .i64 s24 s29 hi2 ?_
   obtain ⟨s32, hc3, H⟩ := H
   refine rop_one one3 (VI s32) hc3 ?_
   refine pop_field 0 fld26_0 b1 0 ?_
   refine rl one24 hL3 0 0 g0_1.v ?_
   obtain ⟨hi3, H⟩ := H
   refine pop_index sli24 siz37 .i64 g0_1 s32 hi3 ?_
   obtain ⟨s37, hc2, H⟩ := H
   refine rop_one one37 s37.v hc2 ?_
   refine pop_len s37 _ _ sli37 ?_
   obtain ⟨J2, ⟨n3, h0_1⟩, HB1⟩ := H
   refine loop_intro (J := fun (n : Nat) (vs : List Value) (h' : Heap) => ∃ n12_1 : Int, ∃ s39 : Int, vs = [(VI n12_1), (VI s39)] /\ J2 n n12_1 s39 h' /\ Vars h' [(b1, [g0_1.v])]) n3 ⟨0, 0, rfl, h0_1, hL3⟩ ?_
   intro I1 mu1 hI1 junk2 tv1 tv2 h4 hi4
   obtain ⟨n2, ⟨n12_1, s39, hv, hJ2, hL4⟩, hn2⟩ := hI1 _ _ hi4
   cases hv
   have H := HB1 n2 n12_1 s39 h4 hJ2 hL4
   refine pop_lss .i64 s39 (s37.n : Int) ?_
   refine condM_b (fun hb3 => ?_) (fun hb3 => ?_)
   rotate_left
   ·have H := H.2 hb3
    refine H.mono fun r2 h5 H => ?_
    obtain ⟨s51, rfl, hL5, H⟩ := H
    refine H.mono fun r3 h6 H => ?_
    obtain ⟨s52, rfl, hL6, H⟩ := H
    refine pop_add .i64 s29 1 ?_
    obtain ⟨m_3, hm_3, H⟩ := H
    exact hn1 _ _ ⟨m_3, hm_3, s52, (w64 (s29 + 1)), rfl, H, hL6⟩
   have H := H.1 hb3
   obtain ⟨hi5, H⟩ := H
   refine pop_index sli37 siz3 .i64 s37 s39 hi5 ?_
   obtain ⟨s42, hc1, H⟩ := H
   refine rop_one one3 (VI s42) hc1 ?_
   refine pop_ieq .i64 _ _ s42 a1_1 ?_
   refine condM_b (fun hb4 => ?_) (fun hb4 => ?_)
   rotate_left
   ·have H := H.2 hb4
    refine pop_add .i64 s39 1 ?_
    obtain ⟨m_2, hm_2, H⟩ := H
    exact hn2 _ _ ⟨m_2, hm_2, n12_1, (w64 (s39 + 1)), rfl, H, hL4⟩
   have H := H.1 hb4
   refine pop_add .i64 n12_1 1 ?_
   refine pop_add .i64 s39 1 ?_
   obtain ⟨m_1, hm_1, H⟩ := H
   exact hn2 _ _ ⟨m_1, hm_1, (w64 (n12_1 + 1)), (w64 (s39 + 1)), rfl, H, hL4⟩
  have H := H.2 hb2
  refine H.mono fun r4 h7 H => ?_
  obtain ⟨s57, s57b, rfl, hL7, H⟩ := H
  refine pop_ext (v := s57.v) rfl ?_
  refine pop_ext (v := (VI s57b)) rfl ?_
  refine pop_field 0 fld26_0 b1 0 ?_
  refine rl one24 hL7 0 0 g0_1.v ?_
  refine pop_len g0_1 _ _ sli24 ?_
  refine H.mono fun r5 h8 H => ?_
  obtain ⟨s63, rfl, hL8, H⟩ := H
  refine pop.mk' (v := (Value.agg #[(VI 1), (VI 1)])) (fun w => by kernel_rfl) ?_
  obtain ⟨hi6, H⟩ := H
  refine pop_index sli29 siz36 .i64 s63 a1_1 hi6 ?_
  refine H.mono fun r6 h9 H => ?_
  obtain ⟨hL9, H⟩ := H
  refine pop.mk' (v := (Value.agg #[(VI 0), (VI 1)])) (fun w => by kernel_rfl) ?_
  obtain ⟨hi7, H⟩ := H
  refine pop_index sli29 siz36 .i64 s63 b2_1 hi7 ?_
  refine H.mono fun r7 h10 H => ?_
  obtain ⟨hL10, H⟩ := H
  refine pop_len s24 _ _ sli37 ?_
  obtain ⟨J3, ⟨n5, h0_2⟩, HB2⟩ := H
  refine loop_intro (J := fun (n : Nat) (vs : List Value) (h' : Heap) => ∃ s74 : Int, vs = [(VI s74)] /\ J3 n s74 h' /\ Vars h' [(b1, [g0_1.v])]) n5 ⟨0, rfl, h0_2, hL10⟩ ?_
  intro I2 mu2 hI2 junk3 tv3 h11 hi8
  obtain ⟨n4, ⟨s74, hv, hJ3, hL11⟩, hn3⟩ := hI2 _ _ hi8
  cases hv
  have H := HB2 n4 s74 h11 hJ3 hL11
  refine pop_lss .i64 s74 (s24.n : Int) ?_
  refine condM_b (fun hb5 => ?_) (fun hb5 => ?_)
  rotate_left
  ·exact H.2 hb5
  have H := H.1 hb5
  obtain ⟨hi9, H⟩ := H
  refine pop_index sli37 siz3 .i64 s24 s74 hi9 ?_
  obtain ⟨s78, hc5, H⟩ := H
  refine rop_one one3 (VI s78) hc5 ?_
  obtain ⟨hi10, H⟩ := H
  refine pop_index sli37 siz3 .i64 s57 s74 hi10 ?_
  obtain ⟨s84, hc4, H⟩ := H
  refine rop_one one3 (VI s84) hc4 ?_
  refine H.mono fun r8 h12 H => ?_
  obtain ⟨s86, s86b, rfl, hL12, H⟩ := H
  obtain ⟨hi11, H⟩ := H
  refine pop_index sli29 siz36 .i64 s63 s78 hi11 ?_
  refine H.mono fun r9 h13 H => ?_
  obtain ⟨hL13, H⟩ := H
  refine pop_add .i64 s74 1 ?_
  obtain ⟨m_4, hm_4, H⟩ := H
  exact hn3 _ _ ⟨m_4, hm_4, (w64 (s74 + 1)), rfl, H, hL13⟩
def u63 (P : Program) (g0_1 : Sl) (places1_1 : Sl) (h : Heap) (K : Value -> Heap -> Prop) : Prop :=
 ∀ (b1 : Nat) (h1 : Heap), h.size ≤ b1 -> Fr (In []) h h1 -> Vars h1 [(b1, [g0_1.v])] ->
 callM P 113 #[(.agg #[g0_1.v])] h1 fun r1 h2 => ∃ s6 : Bool, r1 = (VB s6) /\ Vars h2 [(b1, [g0_1.v])] /\
 (s6 = true ->
 callM P 96 #[places1_1.v, (Value.func (Fn.func 114) #[] #[(VP b1 0)])] h2 fun r2 h3 => ∃ y1 : Sl, ∃ s10 : Bool, r2 = (VB s10) /\ Vars h3 [(b1, [y1.v])] /\
 K (VB (!s10)) h3) /\
 (s6 = false ->
 K (VB false) h2)
theorem v63 (g0_1 : Sl) (places1_1 : Sl) (h : Heap) (K : Value -> Heap -> Prop) (H : u63 Try.prog g0_1 places1_1 h K) : callM Try.prog 63 #[(Value.agg #[g0_1.v]), places1_1.v] h K := by
  refine c63 (Value.agg #[g0_1.v]) places1_1.v h K ?_
  unfold u63 at H
  unfold t63
  have hL : Vars h [] := .nil
  refine eop_box 26 (Value.agg #[g0_1.v]) rfl hL (fun b1 h1 hb1 hf1 hL1 => ?_)
  refine ra agg26 hL1 0 0 [g0_1.v] ?_
  have H := H b1 h1 hb1 (Fr.no' (Fr.r (In []) _) hf1) hL1
  refine H.mono fun r1 h2 H => ?_
  obtain ⟨s6, rfl, hL2, H⟩ := H
  refine guardM_st (fun hb2 => ?_) (fun hb2 => ?_)
  rotate_left
  ·have H := H.2 hb2
   refine gm hb2 ?_
   refine gm hb2 ?_
   refine gm hb2 ?_
   refine pop_pickf' hb2 ?_
   exact H
  have H := H.1 hb2
  refine gy hb2 ?_
  refine pop_func _ _ _ ?_
  refine gy hb2 ?_
  refine H.mono fun r2 h3 H => ?_
  obtain ⟨y1, s10, rfl, hL3, H⟩ := H
  refine gy hb2 ?_
  refine pop_not s10 ?_
  refine pop_pickt' hb2 ?_
  exact H
def u64 (P : Program) (g0_1 : Sl) (a1_1 : Int) (b2_1 : Int) (h : Heap) (K : Value -> Heap -> Prop) : Prop :=
 ∀ (b1 : Nat) (h1 : Heap), h.size ≤ b1 -> Fr (In []) h h1 -> Vars h1 [(b1, [g0_1.v])] ->
 callM P 72 #[(.agg #[g0_1.v]), (VI a1_1)] h1 fun r1 h2 => ∃ s9 : Bool, r1 = (VB s9) /\ Vars h2 [(b1, [g0_1.v])] /\
 (s9 = true ->
 callM P 72 #[(.agg #[g0_1.v]), (VI b2_1)] h2 fun r2 h3 => ∃ s13 : Bool, r2 = (VB s13) /\ Vars h3 [(b1, [g0_1.v])] /\
 (s13 = true ->
 K (VB (!decide (a1_1 = b2_1))) h3) /\
 (s13 = false ->
 K (VB false) h3)) /\
 (s9 = false ->
 K (VB false) h2)
theorem v64 (g0_1 : Sl) (a1_1 : Int) (b2_1 : Int) (h : Heap) (K : Value -> Heap -> Prop) (H : u64 Try.prog g0_1 a1_1 b2_1 h K) : callM Try.prog 64 #[(Value.agg #[g0_1.v]), (VI a1_1), (VI b2_1)] h K := by
  refine c64 (Value.agg #[g0_1.v]) (VI a1_1) (VI b2_1) h K ?_
  unfold u64 at H
  unfold t64
  have hL : Vars h [] := .nil
  refine eop_box 26 (Value.agg #[g0_1.v]) rfl hL (fun b1 h1 hb1 hf1 hL1 => ?_)
  refine ra agg26 hL1 0 0 [g0_1.v] ?_
  have H := H b1 h1 hb1 (Fr.no' (Fr.r (In []) _) hf1) hL1
  refine H.mono fun r1 h2 H => ?_
  obtain ⟨s9, rfl, hL2, H⟩ := H
  refine guardM_st (fun hb2 => ?_) (fun hb2 => ?_)
  rotate_left
  ·have H := H.2 hb2
   refine gm hb2 ?_
   refine gm hb2 ?_
   refine pop_pickf' hb2 ?_
   refine gn ?_
   refine gn ?_
   refine gn ?_
   refine pop_pickf _ _ ?_
   exact H
  have H := H.1 hb2
  refine ra agg26 hL2 0 0 [g0_1.v] ?_
  refine gy hb2 ?_
  refine gy hb2 ?_
  refine H.mono fun r2 h3 H => ?_
  obtain ⟨s13, rfl, hL3, H⟩ := H
  refine pop_pickt' hb2 ?_
  refine guardM_st (fun hb3 => ?_) (fun hb3 => ?_)
  rotate_left
  ·have H := H.2 hb3
   refine gm hb3 ?_
   refine gm hb3 ?_
   refine pop_pickf' hb3 ?_
   exact H
  have H := H.1 hb3
  refine gy hb3 ?_
  refine gy hb3 ?_
  refine pop_ine .i64 _ _ a1_1 b2_1 ?_
  refine pop_pickt' hb3 ?_
  exact H
def u65 (P : Program) (g0_1 : Sl) (a1_1 : Int) (b2_1 : Int) (h : Heap) (K : Value -> Heap -> Prop) : Prop :=
 ∀ (b1 : Nat) (h1 : Heap), h.size ≤ b1 -> Fr (In []) h h1 -> Vars h1 [(b1, [g0_1.v])] ->
 ∃ J1 : Nat -> Int -> Heap -> Prop, (∃ n0 : Nat, J1 n0 0 h1) /\
 ∀ (n1 : Nat) (s13 : Int) (h2 : Heap), J1 n1 s13 h2 -> Vars h2 [(b1, [g0_1.v])] ->
 ((decide (s13 < (g0_1.n : Int))) = true ->
 InB g0_1 s13 /\
 ∃ s17 : Sl, hcell h2 (Sl.at g0_1 s13 1) = some s17.v /\
 callM P 115 #[(.agg #[g0_1.v]), (VI s13)] h2 fun r1 h3 => ∃ s20 : Sl, r1 = s20.v /\ Vars h3 [(b1, [g0_1.v])] /\
 InB s20 a1_1 /\
 ∃ s24 : Int, hcell h3 (Sl.at s20 a1_1 1) = some (VI s24) /\
 ((decide (s24 < 0)) = true ->
 InB s20 b2_1 /\
 ∃ s30 : Int, hcell h3 (Sl.at s20 b2_1 1) = some (VI s30) /\
 ((decide (s30 < 0)) = true ->
 K (VB false) h3) /\
 ((decide (s30 < 0)) = false ->
 ((!decide (s13 = a1_1)) = true ->
 ((!decide (s13 = b2_1)) = true ->
 ((decide ((s17.n : Int) = 0)) = true ->
 K (VB false) h3) /\
 ((decide ((s17.n : Int) = 0)) = false ->
 ∃ m : Nat, m < n1 /\ J1 m (w64 (s13 + 1)) h3)) /\
 ((!decide (s13 = b2_1)) = false ->
 ∃ m : Nat, m < n1 /\ J1 m (w64 (s13 + 1)) h3)) /\
 ((!decide (s13 = a1_1)) = false ->
 ∃ m : Nat, m < n1 /\ J1 m (w64 (s13 + 1)) h3))) /\
 ((decide (s24 < 0)) = false ->
 ((!decide (s13 = a1_1)) = true ->
 ((!decide (s13 = b2_1)) = true ->
 ((decide ((s17.n : Int) = 0)) = true ->
 K (VB false) h3) /\
 ((decide ((s17.n : Int) = 0)) = false ->
 ∃ m : Nat, m < n1 /\ J1 m (w64 (s13 + 1)) h3)) /\
 ((!decide (s13 = b2_1)) = false ->
 ∃ m : Nat, m < n1 /\ J1 m (w64 (s13 + 1)) h3)) /\
 ((!decide (s13 = a1_1)) = false ->
 ∃ m : Nat, m < n1 /\ J1 m (w64 (s13 + 1)) h3))) /\
 ((decide (s13 < (g0_1.n : Int))) = false ->
 K (VB true) h2)
theorem v65 (g0_1 : Sl) (a1_1 : Int) (b2_1 : Int) (h : Heap) (K : Value -> Heap -> Prop) (H : u65 Try.prog g0_1 a1_1 b2_1 h K) : callM Try.prog 65 #[(Value.agg #[g0_1.v]), (VI a1_1), (VI b2_1)] h K := by
  refine c65 (Value.agg #[g0_1.v]) (VI a1_1) (VI b2_1) h K ?_
  unfold u65 at H
  unfold t65
  have hL : Vars h [] := .nil
  refine eop_box 26 (Value.agg #[g0_1.v]) rfl hL (fun b1 h1 hb1 hf1 hL1 => ?_)
  refine pop_field 0 fld26_0 b1 0 ?_
  refine rl one24 hL1 0 0 g0_1.v ?_
  refine pop_len g0_1 _ _ sli24 ?_
  have H := H b1 h1 hb1 (Fr.no' (Fr.r (In []) _) hf1) hL1
  obtain ⟨J1, ⟨n2, h0_1⟩, HB1⟩ := H
  refine loop_intro (J := fun (n : Nat) (vs : List Value) (h' : Heap) => ∃ s13 : Int, vs = [(VI s13)] /\ J1 n s13 h' /\ Vars h' [(b1, [g0_1.v])]) n2 ⟨0, rfl, h0_1, hL1⟩ ?_
  intro I1 mu1 hI1 junk1 tv1 h2 hi1
  obtain ⟨n1, ⟨s13, hv, hJ1, hL2⟩, hn1⟩ := hI1 _ _ hi1
  cases hv
  have H := HB1 n1 s13 h2 hJ1 hL2
  refine pop_lss .i64 s13 (g0_1.n : Int) ?_
  refine condM_b (fun hb2 => ?_) (fun hb2 => ?_)
  rotate_left
  ·exact H.2 hb2
  have H := H.1 hb2
  obtain ⟨hi2, H⟩ := H
  refine pop_index sli24 siz37 .i64 g0_1 s13 hi2 ?_
  obtain ⟨s17, hc3, H⟩ := H
  refine rop_one one37 s17.v hc3 ?_
  refine ra agg26 hL2 0 0 [g0_1.v] ?_
  refine H.mono fun r1 h3 H => ?_
  obtain ⟨s20, rfl, hL3, H⟩ := H
  obtain ⟨hi3, H⟩ := H
  refine pop_index sli37 siz3 .i64 s20 a1_1 hi3 ?_
  obtain ⟨s24, hc2, H⟩ := H
  refine rop_one one3 (VI s24) hc2 ?_
  refine pop_lss .i64 s24 0 ?_
  refine guardM_st (fun hb3 => ?_) (fun hb3 => ?_)
  rotate_left
  ·have H := H.2 hb3
   refine gm hb3 ?_
   refine gm hb3 ?_
   refine gm hb3 ?_
   refine gm hb3 ?_
   refine pop_pickf' hb3 ?_
   refine guardM_y ?_
   refine guardM_y ?_
   refine guardM_y ?_
   refine pop_ine .i64 _ _ s13 a1_1 ?_
   refine guardM_y ?_
   refine guardM_st (fun hb8 => ?_) (fun hb8 => ?_)
   rotate_left
   ·have H := H.2 hb8
    refine gm hb8 ?_
    refine gm hb8 ?_
    refine guardM_y ?_
    refine pop_pickf' hb8 ?_
    refine guardM_y ?_
    refine gn ?_
    refine gn ?_
    refine gn ?_
    refine guardM_y ?_
    refine pop_pickf _ _ ?_
    refine pop_pickf _ _ ?_
    refine condM_f ?_
    refine pop_add .i64 s13 1 ?_
    obtain ⟨m_6, hm_6, H⟩ := H
    exact hn1 _ _ ⟨m_6, hm_6, (w64 (s13 + 1)), rfl, H, hL3⟩
   have H := H.1 hb8
   refine gy hb8 ?_
   refine gy hb8 ?_
   refine pop_ine .i64 _ _ s13 b2_1 ?_
   refine guardM_y ?_
   refine pop_pickt' hb8 ?_
   refine guardM_y ?_
   refine guardM_st (fun hb9 => ?_) (fun hb9 => ?_)
   rotate_left
   ·have H := H.2 hb9
    refine gm hb9 ?_
    refine gm hb9 ?_
    refine guardM_y ?_
    refine pop_pickf' hb9 ?_
    refine pop_pickf _ _ ?_
    refine condM_f ?_
    refine pop_add .i64 s13 1 ?_
    obtain ⟨m_5, hm_5, H⟩ := H
    exact hn1 _ _ ⟨m_5, hm_5, (w64 (s13 + 1)), rfl, H, hL3⟩
   have H := H.1 hb9
   refine gy hb9 ?_
   refine pop_len s17 _ _ sli37 ?_
   refine gy hb9 ?_
   refine pop_ieq .i64 _ _ (s17.n : Int) 0 ?_
   refine guardM_y ?_
   refine pop_pickt' hb9 ?_
   refine pop_pickf _ _ ?_
   refine condM_b (fun hb10 => ?_) (fun hb10 => ?_)
   ·exact H.1 hb10
   have H := H.2 hb10
   refine pop_add .i64 s13 1 ?_
   obtain ⟨m_4, hm_4, H⟩ := H
   exact hn1 _ _ ⟨m_4, hm_4, (w64 (s13 + 1)), rfl, H, hL3⟩
  have H := H.1 hb3
  refine gy hb3 ?_
  refine gy hb3 ?_
  obtain ⟨hi4, H⟩ := H
  refine pop_index sli37 siz3 .i64 s20 b2_1 hi4 ?_
  refine gy hb3 ?_
  obtain ⟨s30, hc1, H⟩ := H
  refine rop_one one3 (VI s30) hc1 ?_
  refine gy hb3 ?_
  refine pop_lss .i64 s30 0 ?_
  refine pop_pickt' hb3 ?_
  refine guardM_sf (fun hb4 => ?_) (fun hb4 => ?_)
  rotate_left
  ·have H := H.1 hb4
   refine gm hb4 ?_
   refine gm hb4 ?_
   refine gm hb4 ?_
   refine gn ?_
   refine gn ?_
   refine gn ?_
   refine gm hb4 ?_
   refine gm hb4 ?_
   refine gn ?_
   refine gn ?_
   refine gn ?_
   refine gm hb4 ?_
   refine pop_pickt' hb4 ?_
   refine condM_t ?_
   exact H
  have H := H.2 hb4
  refine gy hb4 ?_
  refine gy hb4 ?_
  refine pop_ine .i64 _ _ s13 a1_1 ?_
  refine gy hb4 ?_
  refine guardM_st (fun hb5 => ?_) (fun hb5 => ?_)
  rotate_left
  ·have H := H.2 hb5
   refine gm hb5 ?_
   refine gm hb5 ?_
   refine gy hb4 ?_
   refine pop_pickf' hb5 ?_
   refine gy hb4 ?_
   refine gn ?_
   refine gn ?_
   refine gn ?_
   refine gy hb4 ?_
   refine pop_pickf _ _ ?_
   refine pop_pickf' hb4 ?_
   refine condM_f ?_
   refine pop_add .i64 s13 1 ?_
   obtain ⟨m_3, hm_3, H⟩ := H
   exact hn1 _ _ ⟨m_3, hm_3, (w64 (s13 + 1)), rfl, H, hL3⟩
  have H := H.1 hb5
  refine gy hb5 ?_
  refine gy hb5 ?_
  refine pop_ine .i64 _ _ s13 b2_1 ?_
  refine gy hb4 ?_
  refine pop_pickt' hb5 ?_
  refine gy hb4 ?_
  refine guardM_st (fun hb6 => ?_) (fun hb6 => ?_)
  rotate_left
  ·have H := H.2 hb6
   refine gm hb6 ?_
   refine gm hb6 ?_
   refine gy hb4 ?_
   refine pop_pickf' hb6 ?_
   refine pop_pickf' hb4 ?_
   refine condM_f ?_
   refine pop_add .i64 s13 1 ?_
   obtain ⟨m_2, hm_2, H⟩ := H
   exact hn1 _ _ ⟨m_2, hm_2, (w64 (s13 + 1)), rfl, H, hL3⟩
  have H := H.1 hb6
  refine gy hb6 ?_
  refine pop_len s17 _ _ sli37 ?_
  refine gy hb6 ?_
  refine pop_ieq .i64 _ _ (s17.n : Int) 0 ?_
  refine gy hb4 ?_
  refine pop_pickt' hb6 ?_
  refine pop_pickf' hb4 ?_
  refine condM_b (fun hb7 => ?_) (fun hb7 => ?_)
  ·exact H.1 hb7
  have H := H.2 hb7
  refine pop_add .i64 s13 1 ?_
  obtain ⟨m_1, hm_1, H⟩ := H
  exact hn1 _ _ ⟨m_1, hm_1, (w64 (s13 + 1)), rfl, H, hL3⟩
def u66 (P : Program) (g0_1 : Sl) (a1_1 : Int) (b2_1 : Int) (own3_1 : Value) (atA4_1 : Int) (atB5_1 : Int) (h : Heap) (K : Value -> Heap -> Prop) : Prop :=
 ∀ (b1 : Nat) (h1 : Heap), h.size ≤ b1 -> Fr (In []) h h1 -> Vars h1 [(b1, [g0_1.v])] ->
 eop P (Instr.buildSlice 37 0 #[]) h1 fun r1 h2 => ∃ s31 : Sl, r1 = s31.v /\ Vars h2 [(b1, [g0_1.v])] /\
 ∃ J1 : Nat -> Sl -> Int -> Heap -> Prop, (∃ n0 : Nat, J1 n0 s31 0 h2) /\
 ∀ (n1 : Nat) (inner14_1 : Sl) (s35 : Int) (h3 : Heap), J1 n1 inner14_1 s35 h3 -> Vars h3 [(b1, [g0_1.v])] ->
 ((decide (s35 < (g0_1.n : Int))) = true ->
 ((!decide (s35 = a1_1)) = true ->
 ((!decide (s35 = b2_1)) = true ->
 eop P (Instr.buildSlice 37 1 #[(0, (VI s35))]) h3 fun r2 h4 => ∃ s48 : Sl, r2 = s48.v /\ Vars h4 [(b1, [g0_1.v])] /\
 eop P (appS 37 37 37 inner14_1.v s48.v) h4 fun r3 h5 => ∃ s49 : Sl, r3 = s49.v /\ Vars h5 [(b1, [g0_1.v])] /\
 ∃ m : Nat, m < n1 /\ J1 m s49 (w64 (s35 + 1)) h5) /\
 ((!decide (s35 = b2_1)) = false ->
 ∃ m : Nat, m < n1 /\ J1 m inner14_1 (w64 (s35 + 1)) h3)) /\
 ((!decide (s35 = a1_1)) = false ->
 ∃ m : Nat, m < n1 /\ J1 m inner14_1 (w64 (s35 + 1)) h3)) /\
 ((decide (s35 < (g0_1.n : Int))) = false ->
 eop P (Instr.buildSlice 24 0 #[]) h3 fun r4 h6 => ∃ s51 : Sl, r4 = s51.v /\ Vars h6 [(b1, [g0_1.v])] /\
 eop P (Instr.buildSlice 37 0 #[]) h6 fun r5 h7 => ∃ s52 : Sl, r5 = s52.v /\ Vars h7 [(b1, [g0_1.v])] /\
 ∃ J2 : Nat -> Sl -> Sl -> Int -> Heap -> Prop, (∃ n0 : Nat, J2 n0 s51 s52 0 h7) /\
 ∀ (n2 : Nat) (matrix16_1 : Sl) (right17_1 : Sl) (s55 : Int) (h8 : Heap), J2 n2 matrix16_1 right17_1 s55 h8 -> Vars h8 [(b1, [g0_1.v])] ->
 ((decide (s55 < (inner14_1.n : Int))) = true ->
 InB inner14_1 s55 /\
 ∃ s58 : Int, hcell h8 (Sl.at inner14_1 s55 1) = some (VI s58) /\
 ∃ J3 : Sl -> Int -> Heap -> Prop, ((eop P (Instr.makeSlice 37 (VI (inner14_1.n : Int)) (VI (inner14_1.n : Int))) h8 fun r6 h9 => ∃ s61 : Sl, r6 = s61.v /\ Vars h9 [(b1, [g0_1.v])] /\
 callV P own3_1 [(VI s58)] h9 fun r7 h10 => ∃ s64 : Int, r7 = (VI s64) /\ Vars h10 [(b1, [g0_1.v])] /\
 J3 s61 s64 h10) /\
 (callV P own3_1 [(VI s58)] h8 fun r8 h11 => ∃ s64b : Int, r8 = (VI s64b) /\ Vars h11 [(b1, [g0_1.v])] /\
 eop P (Instr.makeSlice 37 (VI (inner14_1.n : Int)) (VI (inner14_1.n : Int))) h11 fun r9 h12 => ∃ s61b : Sl, r9 = s61b.v /\ Vars h12 [(b1, [g0_1.v])] /\
 J3 s61b s64b h12)) /\
 ∀ (y1 : Sl) (y2 : Int) (h13 : Heap), J3 y1 y2 h13 -> Vars h13 [(b1, [g0_1.v])] ->
 InB g0_1 s58 /\
 ∃ s69 : Sl, hcell h13 (Sl.at g0_1 s58 1) = some s69.v /\
 ∃ J4 : Nat -> Int -> Int -> Heap -> Prop, (∃ n0 : Nat, J4 n0 y2 0 h13) /\
 ∀ (n3 : Nat) (sum21_1 : Int) (s71 : Int) (h14 : Heap), J4 n3 sum21_1 s71 h14 -> Vars h14 [(b1, [g0_1.v])] ->
 ((decide (s71 < (s69.n : Int))) = true ->
 InB s69 s71 /\
 ∃ s74 : Int, hcell h14 (Sl.at s69 s71 1) = some (VI s74) /\
 ((decide (s74 = a1_1)) = true ->
 ∃ m : Nat, m < n3 /\ J4 m (w64 (sum21_1 + atA4_1)) (w64 (s71 + 1)) h14) /\
 ((decide (s74 = a1_1)) = false ->
 ((decide (s74 = b2_1)) = true ->
 ∃ m : Nat, m < n3 /\ J4 m (w64 (sum21_1 + atB5_1)) (w64 (s71 + 1)) h14) /\
 ((decide (s74 = b2_1)) = false ->
 callM P 116 #[inner14_1.v, (VI s74)] h14 fun r10 h15 => ∃ s79 : Int, r10 = (VI s79) /\ Vars h15 [(b1, [g0_1.v])] /\
 InB y1 s79 /\
 ∃ s81 : Int, hcell h15 (Sl.at y1 s79 1) = some (VI s81) /\
 InB y1 s79 /\
 Writable h15 (Sl.at y1 s79 1) /\ Vars (hset h15 (Sl.at y1 s79 1) (VI (w64 (s81 - 1)))) [(b1, [g0_1.v])] /\
 ∀ h16 : Heap, h16 = hset h15 (Sl.at y1 s79 1) (VI (w64 (s81 - 1))) -> Vars h16 [(b1, [g0_1.v])] ->
 ∃ m : Nat, m < n3 /\ J4 m sum21_1 (w64 (s71 + 1)) h16))) /\
 ((decide (s71 < (s69.n : Int))) = false ->
 InB y1 (matrix16_1.n : Int) /\
 ∃ s101 : Int, hcell h14 (Sl.at y1 (matrix16_1.n : Int) 1) = some (VI s101) /\
 InB g0_1 s58 /\
 ∃ s106 : Sl, hcell h14 (Sl.at g0_1 s58 1) = some s106.v /\
 InB y1 (matrix16_1.n : Int) /\
 Writable h14 (Sl.at y1 (matrix16_1.n : Int) 1) /\ Vars (hset h14 (Sl.at y1 (matrix16_1.n : Int) 1) (VI (w64 (s101 + (s106.n : Int))))) [(b1, [g0_1.v])] /\
 ∀ h17 : Heap, h17 = hset h14 (Sl.at y1 (matrix16_1.n : Int) 1) (VI (w64 (s101 + (s106.n : Int)))) -> Vars h17 [(b1, [g0_1.v])] ->
 eop P (Instr.buildSlice 24 1 #[(0, y1.v)]) h17 fun r11 h18 => ∃ s112 : Sl, r11 = s112.v /\ Vars h18 [(b1, [g0_1.v])] /\
 eop P (appS 24 24 24 matrix16_1.v s112.v) h18 fun r12 h19 => ∃ s113 : Sl, r12 = s113.v /\ Vars h19 [(b1, [g0_1.v])] /\
 eop P (Instr.buildSlice 37 1 #[(0, (VI sum21_1))]) h19 fun r13 h20 => ∃ s116 : Sl, r13 = s116.v /\ Vars h20 [(b1, [g0_1.v])] /\
 eop P (appS 37 37 37 right17_1.v s116.v) h20 fun r14 h21 => ∃ s117 : Sl, r14 = s117.v /\ Vars h21 [(b1, [g0_1.v])] /\
 ∃ m : Nat, m < n2 /\ J2 m s113 s117 (w64 (s55 + 1)) h21)) /\
 ((decide (s55 < (inner14_1.n : Int))) = false ->
 callM P 88 #[matrix16_1.v] h8 fun r15 h22 => ∃ s120 : Int, r15 = (VI s120) /\ Vars h22 [(b1, [g0_1.v])] /\
 eop P (Instr.makeSlice 37 (VI (g0_1.n : Int)) (VI (g0_1.n : Int))) h22 fun r16 h23 => ∃ s124 : Sl, r16 = s124.v /\ Vars h23 [(b1, [g0_1.v])] /\
 InB s124 a1_1 /\
 Writable h23 (Sl.at s124 a1_1 1) /\ Vars (hset h23 (Sl.at s124 a1_1 1) (VI (w64 (atA4_1 * s120)))) [(b1, [g0_1.v])] /\
 ∀ h24 : Heap, h24 = hset h23 (Sl.at s124 a1_1 1) (VI (w64 (atA4_1 * s120))) -> Vars h24 [(b1, [g0_1.v])] ->
 InB s124 b2_1 /\
 Writable h24 (Sl.at s124 b2_1 1) /\ Vars (hset h24 (Sl.at s124 b2_1 1) (VI (w64 (atB5_1 * s120)))) [(b1, [g0_1.v])] /\
 ∀ h25 : Heap, h25 = hset h24 (Sl.at s124 b2_1 1) (VI (w64 (atB5_1 * s120))) -> Vars h25 [(b1, [g0_1.v])] ->
 ∃ J5 : Nat -> Int -> Heap -> Prop, (∃ n0 : Nat, J5 n0 0 h25) /\
 ∀ (n5 : Nat) (s139 : Int) (h26 : Heap), J5 n5 s139 h26 -> Vars h26 [(b1, [g0_1.v])] ->
 ((decide (s139 < (inner14_1.n : Int))) = true ->
 InB inner14_1 s139 /\
 ∃ s143 : Int, hcell h26 (Sl.at inner14_1 s139 1) = some (VI s143) /\
 eop P (Instr.buildSlice 24 0 #[]) h26 fun r17 h27 => ∃ s144 : Sl, r17 = s144.v /\ Vars h27 [(b1, [g0_1.v])] /\
 ∃ J6 : Nat -> Sl -> Int -> Heap -> Prop, (∃ n0 : Nat, J6 n0 s144 0 h27) /\
 ∀ (n6 : Nat) (other28_1 : Sl) (s147 : Int) (h28 : Heap), J6 n6 other28_1 s147 h28 -> Vars h28 [(b1, [g0_1.v])] ->
 ((decide (s147 < (matrix16_1.n : Int))) = true ->
 InB matrix16_1 s147 /\
 ∃ s151 : Sl, hcell h28 (Sl.at matrix16_1 s147 1) = some s151.v /\
 callM P 117 #[s151.v] h28 fun r18 h29 => ∃ s153 : Sl, r18 = s153.v /\ Vars h29 [(b1, [g0_1.v])] /\
 InB right17_1 s147 /\
 ∃ s159 : Int, hcell h29 (Sl.at right17_1 s147 1) = some (VI s159) /\
 InB s153 s139 /\
 Writable h29 (Sl.at s153 s139 1) /\ Vars (hset h29 (Sl.at s153 s139 1) (VI s159)) [(b1, [g0_1.v])] /\
 ∀ h30 : Heap, h30 = hset h29 (Sl.at s153 s139 1) (VI s159) -> Vars h30 [(b1, [g0_1.v])] ->
 eop P (Instr.buildSlice 24 1 #[(0, s153.v)]) h30 fun r19 h31 => ∃ s163 : Sl, r19 = s163.v /\ Vars h31 [(b1, [g0_1.v])] /\
 eop P (appS 24 24 24 other28_1.v s163.v) h31 fun r20 h32 => ∃ s164 : Sl, r20 = s164.v /\ Vars h32 [(b1, [g0_1.v])] /\
 ∃ m : Nat, m < n6 /\ J6 m s164 (w64 (s147 + 1)) h32) /\
 ((decide (s147 < (matrix16_1.n : Int))) = false ->
 callM P 88 #[other28_1.v] h28 fun r21 h33 => ∃ s169 : Int, r21 = (VI s169) /\ Vars h33 [(b1, [g0_1.v])] /\
 InB s124 s143 /\
 Writable h33 (Sl.at s124 s143 1) /\ Vars (hset h33 (Sl.at s124 s143 1) (VI s169)) [(b1, [g0_1.v])] /\
 ∀ h34 : Heap, h34 = hset h33 (Sl.at s124 s143 1) (VI s169) -> Vars h34 [(b1, [g0_1.v])] ->
 ∃ m : Nat, m < n5 /\ J5 m (w64 (s139 + 1)) h34)) /\
 ((decide (s139 < (inner14_1.n : Int))) = false ->
 K (.tuple #[s124.v, (VI s120)]) h26)))
theorem v66 (g0_1 : Sl) (a1_1 : Int) (b2_1 : Int) (own3_1 : Value) (atA4_1 : Int) (atB5_1 : Int) (h : Heap) (K : Value -> Heap -> Prop) (H : u66 Try.prog g0_1 a1_1 b2_1 own3_1 atA4_1 atB5_1 h K) : callM Try.prog 66 #[(Value.agg #[g0_1.v]), (VI a1_1), (VI b2_1), own3_1, (VI atA4_1), (VI atB5_1)] h K := by
  refine c66 (Value.agg #[g0_1.v]) (VI a1_1) (VI b2_1) own3_1 (VI atA4_1) (VI atB5_1) h K ?_
  unfold u66 at H
  unfold t66
  have hL : Vars h [] := .nil
  refine eop_box 26 (Value.agg #[g0_1.v]) rfl hL (fun b1 h1 hb1 hf1 hL1 => ?_)
  have H := H b1 h1 hb1 (Fr.no' (Fr.r (In []) _) hf1) hL1
  refine H.mono fun r1 h2 H => ?_
  obtain ⟨s31, rfl, hL2, H⟩ := H
  refine pop_field 0 fld26_0 b1 0 ?_
  refine rl one24 hL2 0 0 g0_1.v ?_
  refine pop_len g0_1 _ _ sli24 ?_
  obtain ⟨J1, ⟨n10, h0_5⟩, HB6⟩ := H
  refine loop_intro (J := fun (n : Nat) (vs : List Value) (h' : Heap) => ∃ inner14_1 : Sl, ∃ s35 : Int, vs = [inner14_1.v, (VI s35)] /\ J1 n inner14_1 s35 h' /\ Vars h' [(b1, [g0_1.v])]) n10 ⟨s31, 0, rfl, h0_5, hL2⟩ ?_
  intro I5 mu5 hI5 junk1 tv11 tv12 h3 hi1
  obtain ⟨n1, ⟨inner14_1, s35, hv, hJ1, hL3⟩, hn1⟩ := hI5 _ _ hi1
  cases hv
  have H := HB6 n1 inner14_1 s35 h3 hJ1 hL3
  refine pop_lss .i64 s35 (g0_1.n : Int) ?_
  refine condM_b (fun hb2 => ?_) (fun hb2 => ?_)
  ·have H := H.1 hb2
   refine pop_ine .i64 _ _ s35 a1_1 ?_
   refine guardM_st (fun hb3 => ?_) (fun hb3 => ?_)
   rotate_left
   ·have H := H.2 hb3
    refine gm hb3 ?_
    refine gm hb3 ?_
    refine pop_pickf' hb3 ?_
    refine condM_f ?_
    refine pop_add .i64 s35 1 ?_
    obtain ⟨m_3, hm_3, H⟩ := H
    exact hn1 _ _ ⟨m_3, hm_3, inner14_1, (w64 (s35 + 1)), rfl, H, hL3⟩
   have H := H.1 hb3
   refine gy hb3 ?_
   refine gy hb3 ?_
   refine pop_ine .i64 _ _ s35 b2_1 ?_
   refine pop_pickt' hb3 ?_
   refine condM_b (fun hb4 => ?_) (fun hb4 => ?_)
   rotate_left
   ·have H := H.2 hb4
    refine pop_add .i64 s35 1 ?_
    obtain ⟨m_2, hm_2, H⟩ := H
    exact hn1 _ _ ⟨m_2, hm_2, inner14_1, (w64 (s35 + 1)), rfl, H, hL3⟩
   have H := H.1 hb4
   refine H.mono fun r2 h4 H => ?_
   obtain ⟨s48, rfl, hL4, H⟩ := H
   refine H.mono fun r3 h5 H => ?_
   obtain ⟨s49, rfl, hL5, H⟩ := H
   refine pop_add .i64 s35 1 ?_
   obtain ⟨m_1, hm_1, H⟩ := H
   exact hn1 _ _ ⟨m_1, hm_1, s49, (w64 (s35 + 1)), rfl, H, hL5⟩
  have H := H.2 hb2
  refine H.mono fun r4 h6 H => ?_
  obtain ⟨s51, rfl, hL6, H⟩ := H
  refine H.mono fun r5 h7 H => ?_
  obtain ⟨s52, rfl, hL7, H⟩ := H
  refine pop_len inner14_1 _ _ sli37 ?_
  obtain ⟨J2, ⟨n9, h0_4⟩, HB5⟩ := H
  refine loop_intro (J := fun (n : Nat) (vs : List Value) (h' : Heap) => ∃ matrix16_1 : Sl, ∃ right17_1 : Sl, ∃ s55 : Int, vs = [matrix16_1.v, right17_1.v, (VI s55)] /\ J2 n matrix16_1 right17_1 s55 h' /\ Vars h' [(b1, [g0_1.v])]) n9 ⟨s51, s52, 0, rfl, h0_4, hL7⟩ ?_
  intro I4 mu4 hI4 junk2 tv8 tv9 tv10 h8 hi2
  obtain ⟨n2, ⟨matrix16_1, right17_1, s55, hv, hJ2, hL8⟩, hn2⟩ := hI4 _ _ hi2
  cases hv
  have H := HB5 n2 matrix16_1 right17_1 s55 h8 hJ2 hL8
  refine pop_lss .i64 s55 (inner14_1.n : Int) ?_
  refine condM_b (fun hb5 => ?_) (fun hb5 => ?_)
  rotate_left
  ·have H := H.2 hb5
   refine H.mono fun r15 h22 H => ?_
   obtain ⟨s120, rfl, hL22, H⟩ := H
   refine pop_field 0 fld26_0 b1 0 ?_
   refine rl one24 hL22 0 0 g0_1.v ?_
   refine pop_len g0_1 _ _ sli24 ?_
   refine H.mono fun r16 h23 H => ?_
   obtain ⟨s124, rfl, hL23, H⟩ := H
   refine pop_mul .i64 atA4_1 s120 ?_
   refine pop_mul .i64 atB5_1 s120 ?_
   obtain ⟨hi12, H⟩ := H
   refine pop_index sli37 siz3 .i64 s124 a1_1 hi12 ?_
   obtain ⟨hw_3, hL24, H⟩ := H
   refine uop_cell (v := (VI (w64 (atA4_1 * s120)))) siz3 hw_3 rfl (fun h24 he_3 => ?_)
   rw [← he_3] at hL24
   have H := H h24 he_3 hL24
   obtain ⟨hi13, H⟩ := H
   refine pop_index sli37 siz3 .i64 s124 b2_1 hi13 ?_
   obtain ⟨hw_4, hL25, H⟩ := H
   refine uop_cell (v := (VI (w64 (atB5_1 * s120)))) siz3 hw_4 rfl (fun h25 he_4 => ?_)
   rw [← he_4] at hL25
   have H := H h25 he_4 hL25
   refine pop_len inner14_1 _ _ sli37 ?_
   obtain ⟨J5, ⟨n8, h0_3⟩, HB4⟩ := H
   refine loop_intro (J := fun (n : Nat) (vs : List Value) (h' : Heap) => ∃ s139 : Int, vs = [(VI s139)] /\ J5 n s139 h' /\ Vars h' [(b1, [g0_1.v])]) n8 ⟨0, rfl, h0_3, hL25⟩ ?_
   intro I3 mu3 hI3 junk5 tv7 h26 hi14
   obtain ⟨n5, ⟨s139, hv, hJ5, hL26⟩, hn4⟩ := hI3 _ _ hi14
   cases hv
   have H := HB4 n5 s139 h26 hJ5 hL26
   refine pop_lss .i64 s139 (inner14_1.n : Int) ?_
   refine condM_b (fun hb9 => ?_) (fun hb9 => ?_)
   rotate_left
   ·exact H.2 hb9
   have H := H.1 hb9
   obtain ⟨hi15, H⟩ := H
   refine pop_index sli37 siz3 .i64 inner14_1 s139 hi15 ?_
   obtain ⟨s143, hc9, H⟩ := H
   refine rop_one one3 (VI s143) hc9 ?_
   refine H.mono fun r17 h27 H => ?_
   obtain ⟨s144, rfl, hL27, H⟩ := H
   refine pop_len matrix16_1 _ _ sli24 ?_
   obtain ⟨J6, ⟨n7, h0_2⟩, HB3⟩ := H
   refine loop_intro (J := fun (n : Nat) (vs : List Value) (h' : Heap) => ∃ other28_1 : Sl, ∃ s147 : Int, vs = [other28_1.v, (VI s147)] /\ J6 n other28_1 s147 h' /\ Vars h' [(b1, [g0_1.v])]) n7 ⟨s144, 0, rfl, h0_2, hL27⟩ ?_
   intro I2 mu2 hI2 junk6 tv5 tv6 h28 hi16
   obtain ⟨n6, ⟨other28_1, s147, hv, hJ6, hL28⟩, hn5⟩ := hI2 _ _ hi16
   cases hv
   have H := HB3 n6 other28_1 s147 h28 hJ6 hL28
   refine pop_lss .i64 s147 (matrix16_1.n : Int) ?_
   refine condM_b (fun hb10 => ?_) (fun hb10 => ?_)
   rotate_left
   ·have H := H.2 hb10
    refine H.mono fun r21 h33 H => ?_
    obtain ⟨s169, rfl, hL33, H⟩ := H
    obtain ⟨hi20, H⟩ := H
    refine pop_index sli37 siz3 .i64 s124 s143 hi20 ?_
    obtain ⟨hw_6, hL34, H⟩ := H
    refine uop_cell (v := (VI s169)) siz3 hw_6 rfl (fun h34 he_6 => ?_)
    rw [← he_6] at hL34
    have H := H h34 he_6 hL34
    refine pop_add .i64 s139 1 ?_
    obtain ⟨m_9, hm_9, H⟩ := H
    exact hn4 _ _ ⟨m_9, hm_9, (w64 (s139 + 1)), rfl, H, hL34⟩
   have H := H.1 hb10
   obtain ⟨hi17, H⟩ := H
   refine pop_index sli24 siz37 .i64 matrix16_1 s147 hi17 ?_
   obtain ⟨s151, hc8, H⟩ := H
   refine rop_one one37 s151.v hc8 ?_
   refine H.mono fun r18 h29 H => ?_
   obtain ⟨s153, rfl, hL29, H⟩ := H
   obtain ⟨hi18, H⟩ := H
   refine pop_index sli37 siz3 .i64 right17_1 s147 hi18 ?_
   obtain ⟨s159, hc7, H⟩ := H
   refine rop_one one3 (VI s159) hc7 ?_
   obtain ⟨hi19, H⟩ := H
   refine pop_index sli37 siz3 .i64 s153 s139 hi19 ?_
   obtain ⟨hw_5, hL30, H⟩ := H
   refine uop_cell (v := (VI s159)) siz3 hw_5 rfl (fun h30 he_5 => ?_)
   rw [← he_5] at hL30
   have H := H h30 he_5 hL30
   refine H.mono fun r19 h31 H => ?_
   obtain ⟨s163, rfl, hL31, H⟩ := H
   refine H.mono fun r20 h32 H => ?_
   obtain ⟨s164, rfl, hL32, H⟩ := H
   refine pop_add .i64 s147 1 ?_
   obtain ⟨m_8, hm_8, H⟩ := H
   exact hn5 _ _ ⟨m_8, hm_8, s164, (w64 (s147 + 1)), rfl, H, hL32⟩
  have H := H.1 hb5
  obtain ⟨hi3, H⟩ := H
  refine pop_index sli37 siz3 .i64 inner14_1 s55 hi3 ?_
  obtain ⟨s58, hc6, H⟩ := H
  refine rop_one one3 (VI s58) hc6 ?_
  obtain ⟨J3, H, HB2⟩ := H
  refine ⟨fun (vs : List Value) (h' : Heap) => ∃ y1 : Sl, ∃ y2 : Int, vs = [y1.v, (VI y2)] /\ J3 y1 y2 h' /\ Vars h' [(b1, [g0_1.v])], ?_, ?_⟩
  ·refine pop_len inner14_1 _ _ sli37 ?_
   refine ⟨?_, ?_⟩
   ·have H := H.1
    refine H.mono fun r6 h9 H => ?_
    obtain ⟨s61, rfl, hL9, H⟩ := H
    refine H.mono fun r7 h10 H => ?_
    obtain ⟨s64, rfl, hL10, H⟩ := H
    exact ⟨s61, s64, rfl, H, hL10⟩
   have H := H.2
   refine H.mono fun r8 h11 H => ?_
   obtain ⟨s64b, rfl, hL11, H⟩ := H
   refine H.mono fun r9 h12 H => ?_
   obtain ⟨s61b, rfl, hL12, H⟩ := H
   exact ⟨s61b, s64b, rfl, H, hL12⟩
  intro junk3 tv1 tv2 h13
  rintro ⟨y1, y2, hv, hJ3, hL13⟩
  cases hv
  have H := HB2 y1 y2 h13 hJ3 hL13
  refine pop_field 0 fld26_0 b1 0 ?_
  refine rl one24 hL13 0 0 g0_1.v ?_
  obtain ⟨hi4, H⟩ := H
  refine pop_index sli24 siz37 .i64 g0_1 s58 hi4 ?_
  obtain ⟨s69, hc5, H⟩ := H
  refine rop_one one37 s69.v hc5 ?_
  refine pop_len s69 _ _ sli37 ?_
  obtain ⟨J4, ⟨n4, h0_1⟩, HB1⟩ := H
  refine loop_intro (J := fun (n : Nat) (vs : List Value) (h' : Heap) => ∃ sum21_1 : Int, ∃ s71 : Int, vs = [(VI sum21_1), (VI s71)] /\ J4 n sum21_1 s71 h' /\ Vars h' [(b1, [g0_1.v])]) n4 ⟨y2, 0, rfl, h0_1, hL13⟩ ?_
  intro I1 mu1 hI1 junk4 tv3 tv4 h14 hi5
  obtain ⟨n3, ⟨sum21_1, s71, hv, hJ4, hL14⟩, hn3⟩ := hI1 _ _ hi5
  cases hv
  have H := HB1 n3 sum21_1 s71 h14 hJ4 hL14
  refine pop_lss .i64 s71 (s69.n : Int) ?_
  refine condM_b (fun hb6 => ?_) (fun hb6 => ?_)
  rotate_left
  ·have H := H.2 hb6
   refine pop_len matrix16_1 _ _ sli24 ?_
   obtain ⟨hi9, H⟩ := H
   refine pop_index sli37 siz3 .i64 y1 (matrix16_1.n : Int) hi9 ?_
   obtain ⟨s101, hc4, H⟩ := H
   refine rop_one one3 (VI s101) hc4 ?_
   refine pop_field 0 fld26_0 b1 0 ?_
   refine rl one24 hL14 0 0 g0_1.v ?_
   obtain ⟨hi10, H⟩ := H
   refine pop_index sli24 siz37 .i64 g0_1 s58 hi10 ?_
   obtain ⟨s106, hc3, H⟩ := H
   refine rop_one one37 s106.v hc3 ?_
   refine pop_len s106 _ _ sli37 ?_
   refine pop_add .i64 s101 (s106.n : Int) ?_
   obtain ⟨hi11, H⟩ := H
   refine pop_index sli37 siz3 .i64 y1 (matrix16_1.n : Int) hi11 ?_
   obtain ⟨hw_2, hL17, H⟩ := H
   refine uop_cell (v := (VI (w64 (s101 + (s106.n : Int))))) siz3 hw_2 rfl (fun h17 he_2 => ?_)
   rw [← he_2] at hL17
   have H := H h17 he_2 hL17
   refine H.mono fun r11 h18 H => ?_
   obtain ⟨s112, rfl, hL18, H⟩ := H
   refine H.mono fun r12 h19 H => ?_
   obtain ⟨s113, rfl, hL19, H⟩ := H
   refine H.mono fun r13 h20 H => ?_
   obtain ⟨s116, rfl, hL20, H⟩ := H
   refine H.mono fun r14 h21 H => ?_
   obtain ⟨s117, rfl, hL21, H⟩ := H
   refine pop_add .i64 s55 1 ?_
   obtain ⟨m_7, hm_7, H⟩ := H
   exact hn2 _ _ ⟨m_7, hm_7, s113, s117, (w64 (s55 + 1)), rfl, H, hL21⟩
  have H := H.1 hb6
  obtain ⟨hi6, H⟩ := H
  refine pop_index sli37 siz3 .i64 s69 s71 hi6 ?_
  obtain ⟨s74, hc2, H⟩ := H
  refine rop_one one3 (VI s74) hc2 ?_
  refine pop_ieq .i64 _ _ s74 a1_1 ?_
  refine condM_b (fun hb7 => ?_) (fun hb7 => ?_)
  ·have H := H.1 hb7
   refine pop_add .i64 sum21_1 atA4_1 ?_
   refine pop_add .i64 s71 1 ?_
   obtain ⟨m_4, hm_4, H⟩ := H
   exact hn3 _ _ ⟨m_4, hm_4, (w64 (sum21_1 + atA4_1)), (w64 (s71 + 1)), rfl, H, hL14⟩
  have H := H.2 hb7
  refine pop_ieq .i64 _ _ s74 b2_1 ?_
  refine condM_b (fun hb8 => ?_) (fun hb8 => ?_)
  ·have H := H.1 hb8
   refine pop_add .i64 sum21_1 atB5_1 ?_
   refine pop_add .i64 s71 1 ?_
   obtain ⟨m_5, hm_5, H⟩ := H
   exact hn3 _ _ ⟨m_5, hm_5, (w64 (sum21_1 + atB5_1)), (w64 (s71 + 1)), rfl, H, hL14⟩
  have H := H.2 hb8
  refine H.mono fun r10 h15 H => ?_
  obtain ⟨s79, rfl, hL15, H⟩ := H
  obtain ⟨hi7, H⟩ := H
  refine pop_index sli37 siz3 .i64 y1 s79 hi7 ?_
  obtain ⟨s81, hc1, H⟩ := H
  refine rop_one one3 (VI s81) hc1 ?_
  refine pop_sub .i64 s81 1 ?_
  obtain ⟨hi8, H⟩ := H
  refine pop_index sli37 siz3 .i64 y1 s79 hi8 ?_
  obtain ⟨hw_1, hL16, H⟩ := H
  refine uop_cell (v := (VI (w64 (s81 - 1)))) siz3 hw_1 rfl (fun h16 he_1 => ?_)
  rw [← he_1] at hL16
  have H := H h16 he_1 hL16
  refine pop_add .i64 s71 1 ?_
  obtain ⟨m_6, hm_6, H⟩ := H
  exact hn3 _ _ ⟨m_6, hm_6, sum21_1, (w64 (s71 + 1)), rfl, H, hL16⟩
def u68 (P : Program) (b1 : Nat) (c0_1 : Sl) (c0_2 : Int) (c0_3 : Int) (h : Heap) (K : Value -> Heap -> Prop) : Prop :=
 ∀ (b2 : Nat) (h1 : Heap), h.size ≤ b2 -> Fr (In []) h h1 -> Vars h1 [(b2, [nilSl.v]), (b1, [c0_1.v, (VI c0_2), (Value.int .u64 c0_3)])] ->
 callM P 118 #[(VP b1 0), (VI 6)] h1 fun r1 h2 => ∃ y1 : Sl, ∃ y2 : Int, ∃ y3 : Int, ∃ s5 : Sl, r1 = (.agg #[s5.v]) /\ Vars h2 [(b2, [nilSl.v]), (b1, [y1.v, (VI y2), (Value.int .u64 y3)])] /\
 ∀ (b3 : Nat) (h4 : Heap), h2.size ≤ b3 -> Fr (In []) h2 h4 -> Vars h4 [(b3, [s5.v]), (b2, [nilSl.v]), (b1, [y1.v, (VI y2), (Value.int .u64 y3)])] ->
 callM P 70 #[(VP b1 0), (VI 16)] h4 fun r2 h5 => ∃ y4 : Sl, ∃ y5 : Int, ∃ y6 : Int, ∃ s7 : Int, r2 = (VI s7) /\ Vars h5 [(b3, [s5.v]), (b2, [nilSl.v]), (b1, [y4.v, (VI y5), (Value.int .u64 y6)])] /\
 ((decide (s7 = 0)) = true ->
 InB s5 0 /\
 ∃ s15 : Sl, hcell h5 (Sl.at s5 0 1) = some s15.v /\
 eop P (Instr.buildSlice 37 3 #[(0, (.int .i64 (-1))), (1, (VI (s5.n : Int))), (2, (.int .i64 4611686018427387904))]) h5 fun r3 h6 => ∃ s20 : Sl, r3 = s20.v /\ Vars h6 [(b3, [s5.v]), (b2, [nilSl.v]), (b1, [y4.v, (VI y5), (Value.int .u64 y6)])] /\
 hcell h6 (Sl.at s5 0 1) = some s15.v /\
 callM P 107 #[(VP b1 0), s20.v] h6 fun r4 h7 => ∃ y7 : Sl, ∃ y8 : Int, ∃ y9 : Int, ∃ s21 : Int, r4 = (VI s21) /\ Vars h7 [(b3, [s5.v]), (b2, [nilSl.v]), (b1, [y7.v, (VI y8), (Value.int .u64 y9)])] /\
 hcell h7 (Sl.at s5 0 1) = some s15.v /\
 eop P (Instr.buildSlice 37 1 #[(0, (VI s21))]) h7 fun r5 h8 => ∃ s22 : Sl, r5 = s22.v /\ Vars h8 [(b3, [s5.v]), (b2, [nilSl.v]), (b1, [y7.v, (VI y8), (Value.int .u64 y9)])] /\
 hcell h8 (Sl.at s5 0 1) = some s15.v /\
 eop P (appS 37 37 37 s15.v s22.v) h8 fun r6 h9 => ∃ s23 : Sl, r6 = s23.v /\ Vars h9 [(b3, [s5.v]), (b2, [nilSl.v]), (b1, [y7.v, (VI y8), (Value.int .u64 y9)])] /\
 InB s5 0 /\
 Writable h9 (Sl.at s5 0 1) /\ Vars (hset h9 (Sl.at s5 0 1) s23.v) [(b3, [s5.v]), (b2, [nilSl.v]), (b1, [y7.v, (VI y8), (Value.int .u64 y9)])] /\
 ∀ h10 : Heap, h10 = hset h9 (Sl.at s5 0 1) s23.v -> Vars h10 [(b3, [s5.v]), (b2, [nilSl.v]), (b1, [y7.v, (VI y8), (Value.int .u64 y9)])] ->
 ∀ (h11 : Heap), Fr (In [b2]) h10 h11 -> Vars h11 [(b3, [s5.v]), (b2, [s5.v]), (b1, [y7.v, (VI y8), (Value.int .u64 y9)])] ->
 K (.agg #[s5.v]) h11) /\
 ((decide (s7 = 0)) = false ->
 ((decide (s7 = 1)) = true ->
 callM P 70 #[(VP b1 0), (VI 2)] h5 fun r7 h12 => ∃ y10 : Sl, ∃ y11 : Int, ∃ y12 : Int, ∃ s30 : Int, r7 = (VI s30) /\ Vars h12 [(b3, [s5.v]), (b2, [nilSl.v]), (b1, [y10.v, (VI y11), (Value.int .u64 y12)])] /\
 eop P (Instr.makeSlice 37 (VI (w64 (5 + s30))) (VI (w64 (5 + s30)))) h12 fun r8 h13 => ∃ s32 : Sl, r8 = s32.v /\ Vars h13 [(b3, [s5.v]), (b2, [nilSl.v]), (b1, [y10.v, (VI y11), (Value.int .u64 y12)])] /\
 InB s5 0 /\
 Writable h13 (Sl.at s5 0 1) /\ Vars (hset h13 (Sl.at s5 0 1) s32.v) [(b3, [s5.v]), (b2, [nilSl.v]), (b1, [y10.v, (VI y11), (Value.int .u64 y12)])] /\
 ∀ h14 : Heap, h14 = hset h13 (Sl.at s5 0 1) s32.v -> Vars h14 [(b3, [s5.v]), (b2, [nilSl.v]), (b1, [y10.v, (VI y11), (Value.int .u64 y12)])] ->
 ∀ (h15 : Heap), Fr (In [b2]) h14 h15 -> Vars h15 [(b3, [s5.v]), (b2, [s5.v]), (b1, [y10.v, (VI y11), (Value.int .u64 y12)])] ->
 K (.agg #[s5.v]) h15) /\
 ((decide (s7 = 1)) = false ->
 ((decide (s7 = 2)) = true ->
 ∃ J1 : Nat -> Sl -> Sl -> Int -> Int -> Heap -> Prop, (∃ n0 : Nat, J1 n0 s5 y4 y5 y6 h5) /\
 ∀ (n1 : Nat) (y13 : Sl) (y14 : Sl) (y15 : Int) (y16 : Int) (h16 : Heap), J1 n1 y13 y14 y15 y16 h16 -> Vars h16 [(b3, [y13.v]), (b2, [nilSl.v]), (b1, [y14.v, (VI y15), (Value.int .u64 y16)])] ->
 callM P 70 #[(VP b1 0), (VI 2)] h16 fun r9 h17 => ∃ y17 : Sl, ∃ y18 : Int, ∃ y19 : Int, ∃ s40 : Int, r9 = (VI s40) /\ Vars h17 [(b3, [y13.v]), (b2, [nilSl.v]), (b1, [y17.v, (VI y18), (Value.int .u64 y19)])] /\
 ((decide ((y13.n : Int) < (w64 (8 + s40)))) = true ->
 eop P (Instr.buildSlice 37 1 #[(0, (.int .i64 0))]) h17 fun r10 h18 => ∃ s45 : Sl, r10 = s45.v /\ Vars h18 [(b3, [y13.v]), (b2, [nilSl.v]), (b1, [y17.v, (VI y18), (Value.int .u64 y19)])] /\
 eop P (Instr.buildSlice 24 1 #[(0, s45.v)]) h18 fun r11 h19 => ∃ s46 : Sl, r11 = s46.v /\ Vars h19 [(b3, [y13.v]), (b2, [nilSl.v]), (b1, [y17.v, (VI y18), (Value.int .u64 y19)])] /\
 eop P (appS 24 24 24 y13.v s46.v) h19 fun r12 h20 => ∃ s47 : Sl, r12 = s47.v /\ Vars h20 [(b3, [y13.v]), (b2, [nilSl.v]), (b1, [y17.v, (VI y18), (Value.int .u64 y19)])] /\
 ∀ (h21 : Heap), Fr (In [b3]) h20 h21 -> Vars h21 [(b3, [s47.v]), (b2, [nilSl.v]), (b1, [y17.v, (VI y18), (Value.int .u64 y19)])] ->
 ∃ m : Nat, m < n1 /\ J1 m s47 y17 y18 y19 h21) /\
 ((decide ((y13.n : Int) < (w64 (8 + s40)))) = false ->
 ∀ (h22 : Heap), Fr (In [b2]) h17 h22 -> Vars h22 [(b3, [y13.v]), (b2, [y13.v]), (b1, [y17.v, (VI y18), (Value.int .u64 y19)])] ->
 K (.agg #[y13.v]) h22)) /\
 ((decide (s7 = 2)) = false ->
 ((decide (s7 = 3)) = true ->
 ∀ (h24 : Heap), Fr (In [b2, b3]) h5 h24 -> Vars h24 [(b3, [nilSl.v]), (b2, [nilSl.v]), (b1, [y4.v, (VI y5), (Value.int .u64 y6)])] ->
 K (.agg #[nilSl.v]) h24) /\
 ((decide (s7 = 3)) = false ->
 ∀ (h25 : Heap), Fr (In [b2]) h5 h25 -> Vars h25 [(b3, [s5.v]), (b2, [s5.v]), (b1, [y4.v, (VI y5), (Value.int .u64 y6)])] ->
 K (.agg #[s5.v]) h25))))
theorem v68 (b1 : Nat) (c0_1 : Sl) (c0_2 : Int) (c0_3 : Int) (h : Heap) (K : Value -> Heap -> Prop) (hL : Vars h [(b1, [c0_1.v, (VI c0_2), (Value.int .u64 c0_3)])]) (H : u68 Try.prog b1 c0_1 c0_2 c0_3 h K) : callM Try.prog 68 #[(VP b1 0)] h K := by
  refine c68 (VP b1 0) h K ?_
  unfold u68 at H
  unfold t68
  refine eop_alloc 26 zer26 rfl hL (fun b2 h1 hb1 hf1 hL1 => ?_)
  have H := H b2 h1 hb1 (Fr.no' (Fr.r (In []) _) hf1) hL1
  refine H.mono fun r1 h2 H => ?_
  obtain ⟨y1, y2, y3, s5, rfl, hL2, H⟩ := H
  refine eop_alloc 26 zer26 rfl hL2 (fun b3 h3 hb2 hf2 hL3 => ?_)
  refine ul siz26 hL3 0 0 [s5.v] [(b3, [s5.v]), (b2, [nilSl.v]), (b1, [y1.v, (VI y2), (Value.int .u64 y3)])] (fun h4 hf3 hL4 => ?_)
  have H := H b3 h4 hb2 (Fr.new (Fr.no' (Fr.r (In []) _) hf2) hb2 hf3) hL4
  refine H.mono fun r2 h5 H => ?_
  obtain ⟨y4, y5, y6, s7, rfl, hL5, H⟩ := H
  refine pop_ieq .i64 _ _ s7 0 ?_
  refine condM_b (fun hb3 => ?_) (fun hb3 => ?_)
  ·have H := H.1 hb3
   refine pop_field 0 fld26_0 b3 0 ?_
   refine rl one24 hL5 0 0 s5.v ?_
   refine pop_field 0 fld26_0 b3 0 ?_
   refine rl one24 hL5 0 0 s5.v ?_
   obtain ⟨hi1, H⟩ := H
   refine pop_index sli24 siz37 .i64 s5 0 hi1 ?_
   obtain ⟨s15, hc4, H⟩ := H
   refine rop_one one37 s15.v hc4 ?_
   refine pop_field 0 fld26_0 b3 0 ?_
   refine rl one24 hL5 0 0 s5.v ?_
   refine pop_len s5 _ _ sli24 ?_
   refine H.mono fun r3 h6 H => ?_
   obtain ⟨s20, rfl, hL6, H⟩ := H
   refine ⟨?_, ?_⟩
   ·exact still_loc one24 hL6 0 rfl 0 (v := s5.v) rfl
   refine ⟨?_, ?_⟩
   ·exact still_one one37 H.1
   obtain ⟨hc1, H⟩ := H
   refine ⟨?_, ?_⟩
   ·exact still_loc one24 hL6 0 rfl 0 (v := s5.v) rfl
   refine ⟨?_, ?_⟩
   ·exact still_loc one24 hL6 0 rfl 0 (v := s5.v) rfl
   refine H.mono fun r4 h7 H => ?_
   obtain ⟨y7, y8, y9, s21, rfl, hL7, H⟩ := H
   refine ⟨?_, ?_⟩
   ·exact still_loc one24 hL7 0 rfl 0 (v := s5.v) rfl
   refine ⟨?_, ?_⟩
   ·exact still_one one37 H.1
   obtain ⟨hc2, H⟩ := H
   refine ⟨?_, ?_⟩
   ·exact still_loc one24 hL7 0 rfl 0 (v := s5.v) rfl
   refine ⟨?_, ?_⟩
   ·exact still_loc one24 hL7 0 rfl 0 (v := s5.v) rfl
   refine H.mono fun r5 h8 H => ?_
   obtain ⟨s22, rfl, hL8, H⟩ := H
   refine ⟨?_, ?_⟩
   ·exact still_loc one24 hL8 0 rfl 0 (v := s5.v) rfl
   refine ⟨?_, ?_⟩
   ·exact still_one one37 H.1
   obtain ⟨hc3, H⟩ := H
   refine ⟨?_, ?_⟩
   ·exact still_loc one24 hL8 0 rfl 0 (v := s5.v) rfl
   refine ⟨?_, ?_⟩
   ·exact still_loc one24 hL8 0 rfl 0 (v := s5.v) rfl
   refine H.mono fun r6 h9 H => ?_
   obtain ⟨s23, rfl, hL9, H⟩ := H
   refine ⟨?_, ?_⟩
   ·exact still_loc one24 hL9 0 rfl 0 (v := s5.v) rfl
   refine ⟨?_, ?_⟩
   ·exact still_loc one24 hL9 0 rfl 0 (v := s5.v) rfl
   refine ⟨?_, ?_⟩
   ·exact still_loc one24 hL9 0 rfl 0 (v := s5.v) rfl
   obtain ⟨hi2, H⟩ := H
   refine pop_index sli24 siz37 .i64 s5 0 hi2 ?_
   obtain ⟨hw_1, hL10, H⟩ := H
   refine uop_cell (v := s23.v) siz37 hw_1 rfl (fun h10 he_1 => ?_)
   rw [← he_1] at hL10
   have H := H h10 he_1 hL10
   refine ra agg26 hL10 0 0 [s5.v] ?_
   refine ul siz26 hL10 1 0 [s5.v] [(b3, [s5.v]), (b2, [s5.v]), (b1, [y7.v, (VI y8), (Value.int .u64 y9)])] (fun h11 hf4 hL11 => ?_)
   refine ra agg26 hL11 1 0 [s5.v] ?_
   have H := H  h11  (Fr.old (Fr.r (In []) _) hf4) hL11
   exact H
  have H := H.2 hb3
  refine pop_ieq .i64 _ _ s7 1 ?_
  refine condM_b (fun hb4 => ?_) (fun hb4 => ?_)
  ·have H := H.1 hb4
   refine pop_field 0 fld26_0 b3 0 ?_
   refine rl one24 hL5 0 0 s5.v ?_
   refine H.mono fun r7 h12 H => ?_
   obtain ⟨y10, y11, y12, s30, rfl, hL12, H⟩ := H
   refine ⟨?_, ?_⟩
   ·exact still_loc one24 hL12 0 rfl 0 (v := s5.v) rfl
   refine pop_add .i64 5 s30 ?_
   refine H.mono fun r8 h13 H => ?_
   obtain ⟨s32, rfl, hL13, H⟩ := H
   refine ⟨?_, ?_⟩
   ·exact still_loc one24 hL13 0 rfl 0 (v := s5.v) rfl
   obtain ⟨hi3, H⟩ := H
   refine pop_index sli24 siz37 .i64 s5 0 hi3 ?_
   obtain ⟨hw_2, hL14, H⟩ := H
   refine uop_cell (v := s32.v) siz37 hw_2 rfl (fun h14 he_2 => ?_)
   rw [← he_2] at hL14
   have H := H h14 he_2 hL14
   refine ra agg26 hL14 0 0 [s5.v] ?_
   refine ul siz26 hL14 1 0 [s5.v] [(b3, [s5.v]), (b2, [s5.v]), (b1, [y10.v, (VI y11), (Value.int .u64 y12)])] (fun h15 hf5 hL15 => ?_)
   refine ra agg26 hL15 1 0 [s5.v] ?_
   have H := H  h15  (Fr.old (Fr.r (In []) _) hf5) hL15
   exact H
  have H := H.2 hb4
  refine pop_ieq .i64 _ _ s7 2 ?_
  refine condM_b (fun hb5 => ?_) (fun hb5 => ?_)
  rotate_left
  ·have H := H.2 hb5
   refine pop_ieq .i64 _ _ s7 3 ?_
   refine condM_b (fun hb7 => ?_) (fun hb7 => ?_)
   rotate_left
   ·have H := H.2 hb7
    refine ra agg26 hL5 0 0 [s5.v] ?_
    refine ul siz26 hL5 1 0 [s5.v] [(b3, [s5.v]), (b2, [s5.v]), (b1, [y4.v, (VI y5), (Value.int .u64 y6)])] (fun h25 hf10 hL25 => ?_)
    refine ra agg26 hL25 1 0 [s5.v] ?_
    have H := H  h25  (Fr.old (Fr.r (In []) _) hf10) hL25
    exact H
   have H := H.1 hb7
   refine pop.mk' (v := (Value.agg #[nilSl.v])) (fun w => by kernel_rfl) ?_
   refine ul siz26 hL5 0 0 [nilSl.v] [(b3, [nilSl.v]), (b2, [nilSl.v]), (b1, [y4.v, (VI y5), (Value.int .u64 y6)])] (fun h23 hf8 hL23 => ?_)
   refine ra agg26 hL23 0 0 [nilSl.v] ?_
   refine ul siz26 hL23 1 0 [nilSl.v] [(b3, [nilSl.v]), (b2, [nilSl.v]), (b1, [y4.v, (VI y5), (Value.int .u64 y6)])] (fun h24 hf9 hL24 => ?_)
   refine ra agg26 hL24 1 0 [nilSl.v] ?_
   have H := H  h24  (Fr.old (Fr.old (Fr.r (In []) _) hf8) hf9) hL24
   exact H
  have H := H.1 hb5
  obtain ⟨J1, ⟨n2, h0_1⟩, HB1⟩ := H
  refine loop_intro (J := fun (n : Nat) (vs : List Value) (h' : Heap) => ∃ y13 : Sl, ∃ y14 : Sl, ∃ y15 : Int, ∃ y16 : Int, vs = [] /\ J1 n y13 y14 y15 y16 h' /\ Vars h' [(b3, [y13.v]), (b2, [nilSl.v]), (b1, [y14.v, (VI y15), (Value.int .u64 y16)])]) n2 ⟨s5, y4, y5, y6, rfl, h0_1, hL5⟩ ?_
  intro I1 mu1 hI1 junk1  h16 hi4
  obtain ⟨n1, ⟨y13, y14, y15, y16, hv, hJ1, hL16⟩, hn1⟩ := hI1 _ _ hi4
  cases hv
  have H := HB1 n1 y13 y14 y15 y16 h16 hJ1 hL16
  refine pop_field 0 fld26_0 b3 0 ?_
  refine rl one24 hL16 0 0 y13.v ?_
  refine pop_len y13 _ _ sli24 ?_
  refine H.mono fun r9 h17 H => ?_
  obtain ⟨y17, y18, y19, s40, rfl, hL17, H⟩ := H
  refine ⟨?_, ?_⟩
  ·exact still_loc one24 hL17 0 rfl 0 (v := y13.v) rfl
  refine pop_add .i64 8 s40 ?_
  refine pop_lss .i64 (y13.n : Int) (w64 (8 + s40)) ?_
  refine condM_b (fun hb6 => ?_) (fun hb6 => ?_)
  rotate_left
  ·have H := H.2 hb6
   refine ra agg26 hL17 0 0 [y13.v] ?_
   refine ul siz26 hL17 1 0 [y13.v] [(b3, [y13.v]), (b2, [y13.v]), (b1, [y17.v, (VI y18), (Value.int .u64 y19)])] (fun h22 hf7 hL22 => ?_)
   refine ra agg26 hL22 1 0 [y13.v] ?_
   have H := H  h22  (Fr.old (Fr.r (In []) _) hf7) hL22
   exact H
  have H := H.1 hb6
  refine pop_field 0 fld26_0 b3 0 ?_
  refine rl one24 hL17 0 0 y13.v ?_
  refine H.mono fun r10 h18 H => ?_
  obtain ⟨s45, rfl, hL18, H⟩ := H
  refine H.mono fun r11 h19 H => ?_
  obtain ⟨s46, rfl, hL19, H⟩ := H
  refine H.mono fun r12 h20 H => ?_
  obtain ⟨s47, rfl, hL20, H⟩ := H
  refine pop_field 0 fld26_0 b3 0 ?_
  refine ul siz24 hL20 0 0 [s47.v] [(b3, [s47.v]), (b2, [nilSl.v]), (b1, [y17.v, (VI y18), (Value.int .u64 y19)])] (fun h21 hf6 hL21 => ?_)
  have H := H  h21  (Fr.old (Fr.r (In []) _) hf6) hL21
  obtain ⟨m_1, hm_1, H⟩ := H
  exact hn1 _ _ ⟨m_1, hm_1, s47, y17, y18, y19, rfl, H, hL21⟩
def u69 (P : Program) (b1 : Nat) (c0_1 : Sl) (c0_2 : Int) (c0_3 : Int) (g1_1 : Sl) (h : Heap) (K : Value -> Heap -> Prop) : Prop :=
 ((decide ((g1_1.n : Int) = 0)) = true ->
 ∀ (b2 : Nat) (h1 : Heap), h.size ≤ b2 -> Fr (In []) h h1 -> Vars h1 [(b2, [g1_1.v]), (b1, [c0_1.v, (VI c0_2), (Value.int .u64 c0_3)])] ->
 eop P (Instr.buildSlice 37 4 #[(0, (.int .i64 (-1))), (1, (.int .i64 0)), (2, (VI (g1_1.n : Int))), (3, (.int .i64 4611686018427387904))]) h1 fun r5 h6 => ∃ s17b : Sl, r5 = s17b.v /\ Vars h6 [(b2, [g1_1.v]), (b1, [c0_1.v, (VI c0_2), (Value.int .u64 c0_3)])] /\
 callM P 107 #[(VP b1 0), s17b.v] h6 fun r6 h7 => ∃ y10 : Sl, ∃ y11 : Int, ∃ y12 : Int, ∃ s18b : Int, r6 = (VI s18b) /\ Vars h7 [(b2, [g1_1.v]), (b1, [y10.v, (VI y11), (Value.int .u64 y12)])] /\
 K (VI s18b) h7) /\
 ((decide ((g1_1.n : Int) = 0)) = false ->
 ∀ (b2 : Nat) (h1 : Heap), h.size ≤ b2 -> Fr (In []) h h1 -> Vars h1 [(b2, [g1_1.v]), (b1, [c0_1.v, (VI c0_2), (Value.int .u64 c0_3)])] ->
 callM P 106 #[(VP b1 0), (VI 14)] h1 fun r1 h2 => ∃ y1 : Sl, ∃ y2 : Int, ∃ y3 : Int, ∃ s11 : Bool, r1 = (VB s11) /\ Vars h2 [(b2, [g1_1.v]), (b1, [y1.v, (VI y2), (Value.int .u64 y3)])] /\
 (s11 = true ->
 eop P (Instr.buildSlice 37 4 #[(0, (.int .i64 (-1))), (1, (.int .i64 0)), (2, (VI (g1_1.n : Int))), (3, (.int .i64 4611686018427387904))]) h2 fun r2 h3 => ∃ s17 : Sl, r2 = s17.v /\ Vars h3 [(b2, [g1_1.v]), (b1, [y1.v, (VI y2), (Value.int .u64 y3)])] /\
 callM P 107 #[(VP b1 0), s17.v] h3 fun r3 h4 => ∃ y4 : Sl, ∃ y5 : Int, ∃ y6 : Int, ∃ s18 : Int, r3 = (VI s18) /\ Vars h4 [(b2, [g1_1.v]), (b1, [y4.v, (VI y5), (Value.int .u64 y6)])] /\
 K (VI s18) h4) /\
 (s11 = false ->
 callM P 70 #[(VP b1 0), (VI (g1_1.n : Int))] h2 fun r4 h5 => ∃ y7 : Sl, ∃ y8 : Int, ∃ y9 : Int, ∃ s23 : Int, r4 = (VI s23) /\ Vars h5 [(b2, [g1_1.v]), (b1, [y7.v, (VI y8), (Value.int .u64 y9)])] /\
 K (VI s23) h5))
theorem v69 (b1 : Nat) (c0_1 : Sl) (c0_2 : Int) (c0_3 : Int) (g1_1 : Sl) (h : Heap) (K : Value -> Heap -> Prop) (hL : Vars h [(b1, [c0_1.v, (VI c0_2), (Value.int .u64 c0_3)])]) (H : u69 Try.prog b1 c0_1 c0_2 c0_3 g1_1 h K) : callM Try.prog 69 #[(VP b1 0), (Value.agg #[g1_1.v])] h K := by
  refine c69 (VP b1 0) (Value.agg #[g1_1.v]) h K ?_
  unfold u69 at H
  unfold t69
  refine eop_box 26 (Value.agg #[g1_1.v]) rfl hL (fun b2 h1 hb1 hf1 hL1 => ?_)
  refine pop_field 0 fld26_0 b2 0 ?_
  refine rl one24 hL1 0 0 g1_1.v ?_
  refine pop_len g1_1 _ _ sli24 ?_
  refine pop_ieq .i64 _ _ (g1_1.n : Int) 0 ?_
  refine guardM_sf (fun hb2 => ?_) (fun hb2 => ?_)
  rotate_left
  ·have H := H.1 hb2
   refine gm hb2 ?_
   refine pop_pickt' hb2 ?_
   refine condM_t ?_
   refine pop_field 0 fld26_0 b2 0 ?_
   refine rl one24 hL1 0 0 g1_1.v ?_
   refine pop_len g1_1 _ _ sli24 ?_
   have H := H b2 h1 hb1 (Fr.no' (Fr.r (In []) _) hf1) hL1
   refine H.mono fun r5 h6 H => ?_
   obtain ⟨s17b, rfl, hL6, H⟩ := H
   refine H.mono fun r6 h7 H => ?_
   obtain ⟨y10, y11, y12, s18b, rfl, hL7, H⟩ := H
   exact H
  have H := H.2 hb2
  refine gy hb2 ?_
  have H := H b2 h1 hb1 (Fr.no' (Fr.r (In []) _) hf1) hL1
  refine H.mono fun r1 h2 H => ?_
  obtain ⟨y1, y2, y3, s11, rfl, hL2, H⟩ := H
  refine pop_pickf' hb2 ?_
  refine condM_b (fun hb3 => ?_) (fun hb3 => ?_)
  rotate_left
  ·have H := H.2 hb3
   refine pop_field 0 fld26_0 b2 0 ?_
   refine rl one24 hL2 0 0 g1_1.v ?_
   refine pop_len g1_1 _ _ sli24 ?_
   refine H.mono fun r4 h5 H => ?_
   obtain ⟨y7, y8, y9, s23, rfl, hL5, H⟩ := H
   exact H
  have H := H.1 hb3
  refine pop_field 0 fld26_0 b2 0 ?_
  refine rl one24 hL2 0 0 g1_1.v ?_
  refine pop_len g1_1 _ _ sli24 ?_
  refine H.mono fun r2 h3 H => ?_
  obtain ⟨s17, rfl, hL3, H⟩ := H
  refine H.mono fun r3 h4 H => ?_
  obtain ⟨y4, y5, y6, s18, rfl, hL4, H⟩ := H
  exact H
def u70 (P : Program) (b1 : Nat) (c0_1 : Sl) (c0_2 : Int) (c0_3 : Int) (n1_1 : Int) (h : Heap) (K : Value -> Heap -> Prop) : Prop :=
 ((decide (n1_1 ≤ 1)) = true ->
 K (VI 0) h) /\
 ((decide (n1_1 ≤ 1)) = false ->
 callM P 119 #[(VP b1 0)] h fun r1 h1 => ∃ y1 : Sl, ∃ y2 : Int, ∃ y3 : Int, ∃ s9 : Int, r1 = (VI s9) /\ Vars h1 [(b1, [y1.v, (VI y2), (Value.int .u64 y3)])] /\
 ∃ J1 : Int -> Sl -> Int -> Int -> Heap -> Prop, (((decide (200 < n1_1)) = true ->
 callM P 119 #[(VP b1 0)] h1 fun r2 h2 => ∃ y8 : Sl, ∃ y9 : Int, ∃ y10 : Int, ∃ s15 : Int, r2 = (VI s15) /\ Vars h2 [(b1, [y8.v, (VI y9), (Value.int .u64 y10)])] /\
 J1 (w64 ((w64 (s9 * 256)) + s15)) y8 y9 y10 h2) /\
 ((decide (200 < n1_1)) = false ->
 J1 s9 y1 y2 y3 h1)) /\
 ∀ (y4 : Int) (y5 : Sl) (y6 : Int) (y7 : Int) (h3 : Heap), J1 y4 y5 y6 y7 h3 -> Vars h3 [(b1, [y5.v, (VI y6), (Value.int .u64 y7)])] ->
 n1_1 ≠ 0 /\
 K (VI (Int.tmod y4 n1_1)) h3)
theorem v70 (b1 : Nat) (c0_1 : Sl) (c0_2 : Int) (c0_3 : Int) (n1_1 : Int) (h : Heap) (K : Value -> Heap -> Prop) (hL : Vars h [(b1, [c0_1.v, (VI c0_2), (Value.int .u64 c0_3)])]) (H : u70 Try.prog b1 c0_1 c0_2 c0_3 n1_1 h K) : callM Try.prog 70 #[(VP b1 0), (VI n1_1)] h K := by
  refine c70 (VP b1 0) (VI n1_1) h K ?_
  unfold u70 at H
  unfold t70
  refine pop_leq .i64 n1_1 1 ?_
  refine condM_b (fun hb1 => ?_) (fun hb1 => ?_)
  ·exact H.1 hb1
  have H := H.2 hb1
  refine H.mono fun r1 h1 H => ?_
  obtain ⟨y1, y2, y3, s9, rfl, hL1, H⟩ := H
  obtain ⟨J1, H, HB1⟩ := H
  refine ⟨fun (vs : List Value) (h' : Heap) => ∃ y4 : Int, ∃ y5 : Sl, ∃ y6 : Int, ∃ y7 : Int, vs = [(VI y4)] /\ J1 y4 y5 y6 y7 h' /\ Vars h' [(b1, [y5.v, (VI y6), (Value.int .u64 y7)])], ?_, ?_⟩
  ·refine pop_gtr .i64 n1_1 200 ?_
   refine condM_b (fun hb2 => ?_) (fun hb2 => ?_)
   rotate_left
   ·have H := H.2 hb2
    exact ⟨s9, y1, y2, y3, rfl, H, hL1⟩
   have H := H.1 hb2
   refine pop_mul .i64 s9 256 ?_
   refine H.mono fun r2 h2 H => ?_
   obtain ⟨y8, y9, y10, s15, rfl, hL2, H⟩ := H
   refine pop_add .i64 (w64 (s9 * 256)) s15 ?_
   exact ⟨(w64 ((w64 (s9 * 256)) + s15)), y8, y9, y10, rfl, H, hL2⟩
  intro junk1 tv1 h3
  rintro ⟨y4, y5, y6, y7, hv, hJ1, hL3⟩
  cases hv
  have H := HB1 y4 y5 y6 y7 h3 hJ1 hL3
  obtain ⟨hz_1, H⟩ := H
  refine pop_rem .i64 y4 n1_1 hz_1 ?_
  exact H
def u71 (P : Program) (n0_1 : Int) (low1_1 : Int) (high2_1 : Int) (h : Heap) (K : Value -> Heap -> Prop) : Prop :=
 ((decide (low1_1 ≤ n0_1)) = true ->
 K (VB (decide (n0_1 ≤ high2_1))) h) /\
 ((decide (low1_1 ≤ n0_1)) = false ->
 K (VB false) h)
theorem v71 (n0_1 : Int) (low1_1 : Int) (high2_1 : Int) (h : Heap) (K : Value -> Heap -> Prop) (H : u71 Try.prog n0_1 low1_1 high2_1 h K) : callM Try.prog 71 #[(VI n0_1), (VI low1_1), (VI high2_1)] h K := by
  refine c71 (VI n0_1) (VI low1_1) (VI high2_1) h K ?_
  unfold u71 at H
  unfold t71
  have hL : Vars h [] := .nil
  refine pop_leq .i64 low1_1 n0_1 ?_
  refine guardM_st (fun hb1 => ?_) (fun hb1 => ?_)
  rotate_left
  ·have H := H.2 hb1
   refine gm hb1 ?_
   refine gm hb1 ?_
   refine pop_pickf' hb1 ?_
   exact H
  have H := H.1 hb1
  refine gy hb1 ?_
  refine gy hb1 ?_
  refine pop_leq .i64 n0_1 high2_1 ?_
  refine pop_pickt' hb1 ?_
  exact H
def u72 (P : Program) (g0_1 : Sl) (p1_1 : Int) (h : Heap) (K : Value -> Heap -> Prop) : Prop :=
 ∀ (b1 : Nat) (h1 : Heap), h.size ≤ b1 -> Fr (In []) h h1 -> Vars h1 [(b1, [g0_1.v])] ->
 callM P 120 #[(.agg #[g0_1.v])] h1 fun r1 h2 => ∃ s6 : Bool, r1 = (VB s6) /\ Vars h2 [(b1, [g0_1.v])] /\
 (s6 = true ->
 callM P 73 #[(VI p1_1), (VI 0), (VI (w64 ((g0_1.n : Int) - 1)))] h2 fun r2 h3 => ∃ s13 : Bool, r2 = (VB s13) /\ Vars h3 [(b1, [g0_1.v])] /\
 K (VB s13) h3) /\
 (s6 = false ->
 K (VB false) h2)
theorem v72 (g0_1 : Sl) (p1_1 : Int) (h : Heap) (K : Value -> Heap -> Prop) (H : u72 Try.prog g0_1 p1_1 h K) : callM Try.prog 72 #[(Value.agg #[g0_1.v]), (VI p1_1)] h K := by
  refine c72 (Value.agg #[g0_1.v]) (VI p1_1) h K ?_
  unfold u72 at H
  unfold t72
  have hL : Vars h [] := .nil
  refine eop_box 26 (Value.agg #[g0_1.v]) rfl hL (fun b1 h1 hb1 hf1 hL1 => ?_)
  refine ra agg26 hL1 0 0 [g0_1.v] ?_
  have H := H b1 h1 hb1 (Fr.no' (Fr.r (In []) _) hf1) hL1
  refine H.mono fun r1 h2 H => ?_
  obtain ⟨s6, rfl, hL2, H⟩ := H
  refine guardM_st (fun hb2 => ?_) (fun hb2 => ?_)
  rotate_left
  ·have H := H.2 hb2
   refine gm hb2 ?_
   refine gm hb2 ?_
   refine gm hb2 ?_
   refine gm hb2 ?_
   refine gm hb2 ?_
   refine pop_pickf' hb2 ?_
   exact H
  have H := H.1 hb2
  refine gy hb2 ?_
  refine pop_field 0 fld26_0 b1 0 ?_
  refine gy hb2 ?_
  refine rl one24 hL2 0 0 g0_1.v ?_
  refine gy hb2 ?_
  refine pop_len g0_1 _ _ sli24 ?_
  refine gy hb2 ?_
  refine pop_sub .i64 (g0_1.n : Int) 1 ?_
  refine gy hb2 ?_
  refine H.mono fun r2 h3 H => ?_
  obtain ⟨s13, rfl, hL3, H⟩ := H
  refine pop_pickt' hb2 ?_
  exact H
def u73 (P : Program) (n0_1 : Int) (lo1_1 : Int) (hi2_1 : Int) (h : Heap) (K : Value -> Heap -> Prop) : Prop :=
 ((decide (lo1_1 ≤ n0_1)) = true ->
 K (VB (decide (n0_1 ≤ hi2_1))) h) /\
 ((decide (lo1_1 ≤ n0_1)) = false ->
 K (VB false) h)
theorem v73 (n0_1 : Int) (lo1_1 : Int) (hi2_1 : Int) (h : Heap) (K : Value -> Heap -> Prop) (H : u73 Try.prog n0_1 lo1_1 hi2_1 h K) : callM Try.prog 73 #[(VI n0_1), (VI lo1_1), (VI hi2_1)] h K := by
  refine c73 (VI n0_1) (VI lo1_1) (VI hi2_1) h K ?_
  unfold u73 at H
  unfold t73
  have hL : Vars h [] := .nil
  refine pop_geq .i64 n0_1 lo1_1 ?_
  refine guardM_st (fun hb1 => ?_) (fun hb1 => ?_)
  rotate_left
  ·have H := H.2 hb1
   refine gm hb1 ?_
   refine gm hb1 ?_
   refine pop_pickf' hb1 ?_
   exact H
  have H := H.1 hb1
  refine gy hb1 ?_
  refine gy hb1 ?_
  refine pop_leq .i64 n0_1 hi2_1 ?_
  refine pop_pickt' hb1 ?_
  exact H
def u74 (P : Program) (num0_1 : Int) (den1_1 : Int) (h : Heap) (K : Value -> Heap -> Prop) : Prop :=
 ∀ (b1 : Nat) (h1 : Heap), h.size ≤ b1 -> Fr (In []) h h1 -> Vars h1 [(b1, [(VI 0), (VI 0)])] ->
 ∃ J1 : Int -> Int -> Heap -> Prop, (((decide (den1_1 < 0)) = true ->
 J1 (w64 (0 - num0_1)) (w64 (0 - den1_1)) h1) /\
 ((decide (den1_1 < 0)) = false ->
 J1 num0_1 den1_1 h1)) /\
 ∀ (y1 : Int) (y2 : Int) (h2 : Heap), J1 y1 y2 h2 -> Vars h2 [(b1, [(VI 0), (VI 0)])] ->
 callM P 85 #[(VI y1)] h2 fun r1 h3 => ∃ s14 : Int, r1 = (VI s14) /\ Vars h3 [(b1, [(VI 0), (VI 0)])] /\
 ∃ J2 : Nat -> Int -> Int -> Heap -> Prop, (∃ n0 : Nat, J2 n0 s14 y2 h3) /\
 ∀ (n1 : Nat) (a5_1 : Int) (b6_1 : Int) (h4 : Heap), J2 n1 a5_1 b6_1 h4 -> Vars h4 [(b1, [(VI 0), (VI 0)])] ->
 ((decide (0 < b6_1)) = true ->
 b6_1 ≠ 0 /\
 ∃ m : Nat, m < n1 /\ J2 m b6_1 (Int.tmod a5_1 b6_1) h4) /\
 ((decide (0 < b6_1)) = false ->
 a5_1 ≠ 0 /\
 a5_1 ≠ 0 /\
 ∀ (h5 : Heap), Fr (In [b1]) h4 h5 -> Vars h5 [(b1, [(VI (w64 (Int.tdiv y1 a5_1))), (VI (w64 (Int.tdiv y2 a5_1)))])] ->
 K (.agg #[(VI (w64 (Int.tdiv y1 a5_1))), (VI (w64 (Int.tdiv y2 a5_1)))]) h5)
theorem v74 (num0_1 : Int) (den1_1 : Int) (h : Heap) (K : Value -> Heap -> Prop) (H : u74 Try.prog num0_1 den1_1 h K) : callM Try.prog 74 #[(VI num0_1), (VI den1_1)] h K := by
  refine c74 (VI num0_1) (VI den1_1) h K ?_
  unfold u74 at H
  unfold t74
  have hL : Vars h [] := .nil
  refine eop_alloc 36 zer36 rfl hL (fun b1 h1 hb1 hf1 hL1 => ?_)
  have H := H b1 h1 hb1 (Fr.no' (Fr.r (In []) _) hf1) hL1
  obtain ⟨J1, H, HB2⟩ := H
  refine ⟨fun (vs : List Value) (h' : Heap) => ∃ y1 : Int, ∃ y2 : Int, vs = [(VI y1), (VI y2)] /\ J1 y1 y2 h' /\ Vars h' [(b1, [(VI 0), (VI 0)])], ?_, ?_⟩
  ·refine pop_lss .i64 den1_1 0 ?_
   refine condM_b (fun hb2 => ?_) (fun hb2 => ?_)
   rotate_left
   ·have H := H.2 hb2
    exact ⟨num0_1, den1_1, rfl, H, hL1⟩
   have H := H.1 hb2
   refine pop_neg .i64 num0_1 ?_
   refine pop_neg .i64 den1_1 ?_
   exact ⟨(w64 (0 - num0_1)), (w64 (0 - den1_1)), rfl, H, hL1⟩
  intro junk1 tv1 tv2 h2
  rintro ⟨y1, y2, hv, hJ1, hL2⟩
  cases hv
  have H := HB2 y1 y2 h2 hJ1 hL2
  refine H.mono fun r1 h3 H => ?_
  obtain ⟨s14, rfl, hL3, H⟩ := H
  obtain ⟨J2, ⟨n2, h0_1⟩, HB1⟩ := H
  refine loop_intro (J := fun (n : Nat) (vs : List Value) (h' : Heap) => ∃ a5_1 : Int, ∃ b6_1 : Int, vs = [(VI a5_1), (VI b6_1)] /\ J2 n a5_1 b6_1 h' /\ Vars h' [(b1, [(VI 0), (VI 0)])]) n2 ⟨s14, y2, rfl, h0_1, hL3⟩ ?_
  intro I1 mu1 hI1 junk2 tv3 tv4 h4 hi1
  obtain ⟨n1, ⟨a5_1, b6_1, hv, hJ2, hL4⟩, hn1⟩ := hI1 _ _ hi1
  cases hv
  have H := HB1 n1 a5_1 b6_1 h4 hJ2 hL4
  refine pop_gtr .i64 b6_1 0 ?_
  refine condM_b (fun hb3 => ?_) (fun hb3 => ?_)
  ·have H := H.1 hb3
   obtain ⟨hz_1, H⟩ := H
   refine pop_rem .i64 a5_1 b6_1 hz_1 ?_
   obtain ⟨m_1, hm_1, H⟩ := H
   exact hn1 _ _ ⟨m_1, hm_1, b6_1, (Int.tmod a5_1 b6_1), rfl, H, hL4⟩
  have H := H.2 hb3
  obtain ⟨hz_2, H⟩ := H
  refine pop_quo .i64 y1 a5_1 hz_2 ?_
  obtain ⟨hz_3, H⟩ := H
  refine pop_quo .i64 y2 a5_1 hz_3 ?_
  refine pop.mk' (v := (Value.agg #[(VI (w64 (Int.tdiv y1 a5_1))), (VI (w64 (Int.tdiv y2 a5_1)))])) (fun w => by kernel_rfl) ?_
  refine ul siz36 hL4 0 0 [(VI (w64 (Int.tdiv y1 a5_1))), (VI (w64 (Int.tdiv y2 a5_1)))] [(b1, [(VI (w64 (Int.tdiv y1 a5_1))), (VI (w64 (Int.tdiv y2 a5_1)))])] (fun h5 hf2 hL5 => ?_)
  refine ra agg36 hL5 0 0 [(VI (w64 (Int.tdiv y1 a5_1))), (VI (w64 (Int.tdiv y2 a5_1)))] ?_
  have H := H  h5  (Fr.old (Fr.r (In []) _) hf2) hL5
  exact H
def u76 (P : Program) (g0_1 : Sl) (a1_1 : Int) (b2_1 : Int) (h : Heap) (K : Value -> Heap -> Prop) : Prop :=
 ∀ (b1 : Nat) (h1 : Heap), h.size ≤ b1 -> Fr (In []) h h1 -> Vars h1 [(b1, [g0_1.v])] ->
 ∃ J1 : Nat -> Sl -> Int -> Heap -> Prop, (∃ n0 : Nat, J1 n0 nilSl 0 h1) /\
 ∀ (n1 : Nat) (places8_1 : Sl) (s21 : Int) (h2 : Heap), J1 n1 places8_1 s21 h2 -> Vars h2 [(b1, [g0_1.v])] ->
 ((decide (s21 < (g0_1.n : Int))) = true ->
 ((!decide (s21 = a1_1)) = true ->
 ((!decide (s21 = b2_1)) = true ->
 eop P (Instr.buildSlice 37 1 #[(0, (VI s21))]) h2 fun r1 h3 => ∃ s34 : Sl, r1 = s34.v /\ Vars h3 [(b1, [g0_1.v])] /\
 eop P (appS 37 37 37 places8_1.v s34.v) h3 fun r2 h4 => ∃ s35 : Sl, r2 = s35.v /\ Vars h4 [(b1, [g0_1.v])] /\
 ∃ m : Nat, m < n1 /\ J1 m s35 (w64 (s21 + 1)) h4) /\
 ((!decide (s21 = b2_1)) = false ->
 ∃ m : Nat, m < n1 /\ J1 m places8_1 (w64 (s21 + 1)) h2)) /\
 ((!decide (s21 = a1_1)) = false ->
 ∃ m : Nat, m < n1 /\ J1 m places8_1 (w64 (s21 + 1)) h2)) /\
 ((decide (s21 < (g0_1.n : Int))) = false ->
 ∃ J2 : Nat -> Sl -> Int -> Heap -> Prop, (∃ n0 : Nat, J2 n0 nilSl 0 h2) /\
 ∀ (n2 : Nat) (m10_1 : Sl) (s39 : Int) (h5 : Heap), J2 n2 m10_1 s39 h5 -> Vars h5 [(b1, [g0_1.v])] ->
 ((decide (s39 < (places8_1.n : Int))) = true ->
 InB places8_1 s39 /\
 ∃ s42 : Int, hcell h5 (Sl.at places8_1 s39 1) = some (VI s42) /\
 eop P (Instr.makeSlice 37 (VI (places8_1.n : Int)) (VI (places8_1.n : Int))) h5 fun r3 h6 => ∃ s45 : Sl, r3 = s45.v /\ Vars h6 [(b1, [g0_1.v])] /\
 ∃ J3 : Nat -> Int -> Heap -> Prop, (∃ n0 : Nat, J3 n0 0 h6) /\
 ∀ (n3 : Nat) (s48 : Int) (h7 : Heap), J3 n3 s48 h7 -> Vars h7 [(b1, [g0_1.v])] ->
 ((decide (s48 < (places8_1.n : Int))) = true ->
 InB places8_1 s48 /\
 ∃ s52 : Int, hcell h7 (Sl.at places8_1 s48 1) = some (VI s52) /\
 ∃ J4 : Heap -> Prop, (((decide (s52 = s42)) = true ->
 InB s45 s48 /\
 ∃ s59 : Int, hcell h7 (Sl.at s45 s48 1) = some (VI s59) /\
 InB g0_1 s42 /\
 ∃ s64 : Sl, hcell h7 (Sl.at g0_1 s42 1) = some s64.v /\
 InB s45 s48 /\
 Writable h7 (Sl.at s45 s48 1) /\ Vars (hset h7 (Sl.at s45 s48 1) (VI (w64 (s59 + (s64.n : Int))))) [(b1, [g0_1.v])] /\
 ∀ h8 : Heap, h8 = hset h7 (Sl.at s45 s48 1) (VI (w64 (s59 + (s64.n : Int)))) -> Vars h8 [(b1, [g0_1.v])] ->
 J4  h8) /\
 ((decide (s52 = s42)) = false ->
 J4  h7)) /\
 ∀ (h9 : Heap), J4  h9 -> Vars h9 [(b1, [g0_1.v])] ->
 InB g0_1 s42 /\
 ∃ s72 : Sl, hcell h9 (Sl.at g0_1 s42 1) = some s72.v /\
 ∃ J5 : Nat -> Int -> Heap -> Prop, (∃ n0 : Nat, J5 n0 0 h9) /\
 ∀ (n4 : Nat) (s74 : Int) (h10 : Heap), J5 n4 s74 h10 -> Vars h10 [(b1, [g0_1.v])] ->
 ((decide (s74 < (s72.n : Int))) = true ->
 InB s72 s74 /\
 ∃ s77 : Int, hcell h10 (Sl.at s72 s74 1) = some (VI s77) /\
 ((decide (s77 = s52)) = true ->
 InB s45 s48 /\
 ∃ s84 : Int, hcell h10 (Sl.at s45 s48 1) = some (VI s84) /\
 InB s45 s48 /\
 Writable h10 (Sl.at s45 s48 1) /\ Vars (hset h10 (Sl.at s45 s48 1) (VI (w64 (s84 - 1)))) [(b1, [g0_1.v])] /\
 ∀ h11 : Heap, h11 = hset h10 (Sl.at s45 s48 1) (VI (w64 (s84 - 1))) -> Vars h11 [(b1, [g0_1.v])] ->
 ∃ m : Nat, m < n4 /\ J5 m (w64 (s74 + 1)) h11) /\
 ((decide (s77 = s52)) = false ->
 ∃ m : Nat, m < n4 /\ J5 m (w64 (s74 + 1)) h10)) /\
 ((decide (s74 < (s72.n : Int))) = false ->
 ∃ m : Nat, m < n3 /\ J3 m (w64 (s48 + 1)) h10)) /\
 ((decide (s48 < (places8_1.n : Int))) = false ->
 eop P (Instr.buildSlice 24 1 #[(0, s45.v)]) h7 fun r4 h12 => ∃ s91 : Sl, r4 = s91.v /\ Vars h12 [(b1, [g0_1.v])] /\
 eop P (appS 24 24 24 m10_1.v s91.v) h12 fun r5 h13 => ∃ s92 : Sl, r5 = s92.v /\ Vars h13 [(b1, [g0_1.v])] /\
 ∃ m : Nat, m < n2 /\ J2 m s92 (w64 (s39 + 1)) h13)) /\
 ((decide (s39 < (places8_1.n : Int))) = false ->
 K (.tuple #[places8_1.v, m10_1.v]) h5))
theorem v76 (g0_1 : Sl) (a1_1 : Int) (b2_1 : Int) (h : Heap) (K : Value -> Heap -> Prop) (H : u76 Try.prog g0_1 a1_1 b2_1 h K) : callM Try.prog 76 #[(Value.agg #[g0_1.v]), (VI a1_1), (VI b2_1)] h K := by
  refine c76 (Value.agg #[g0_1.v]) (VI a1_1) (VI b2_1) h K ?_
  unfold u76 at H
  unfold t76
  have hL : Vars h [] := .nil
  refine eop_box 26 (Value.agg #[g0_1.v]) rfl hL (fun b1 h1 hb1 hf1 hL1 => ?_)
  refine pop_field 0 fld26_0 b1 0 ?_
  refine rl one24 hL1 0 0 g0_1.v ?_
  refine pop_len g0_1 _ _ sli24 ?_
  have H := H b1 h1 hb1 (Fr.no' (Fr.r (In []) _) hf1) hL1
  obtain ⟨J1, ⟨n8, h0_4⟩, HB5⟩ := H
  refine loop_intro (J := fun (n : Nat) (vs : List Value) (h' : Heap) => ∃ places8_1 : Sl, ∃ s21 : Int, vs = [places8_1.v, (VI s21)] /\ J1 n places8_1 s21 h' /\ Vars h' [(b1, [g0_1.v])]) n8 ⟨nilSl, 0, rfl, h0_4, hL1⟩ ?_
  intro I4 mu4 hI4 junk1 tv5 tv6 h2 hi1
  obtain ⟨n1, ⟨places8_1, s21, hv, hJ1, hL2⟩, hn1⟩ := hI4 _ _ hi1
  cases hv
  have H := HB5 n1 places8_1 s21 h2 hJ1 hL2
  refine pop_lss .i64 s21 (g0_1.n : Int) ?_
  refine condM_b (fun hb2 => ?_) (fun hb2 => ?_)
  ·have H := H.1 hb2
   refine pop_ine .i64 _ _ s21 a1_1 ?_
   refine guardM_st (fun hb3 => ?_) (fun hb3 => ?_)
   rotate_left
   ·have H := H.2 hb3
    refine gm hb3 ?_
    refine gm hb3 ?_
    refine pop_pickf' hb3 ?_
    refine condM_f ?_
    refine pop_add .i64 s21 1 ?_
    obtain ⟨m_3, hm_3, H⟩ := H
    exact hn1 _ _ ⟨m_3, hm_3, places8_1, (w64 (s21 + 1)), rfl, H, hL2⟩
   have H := H.1 hb3
   refine gy hb3 ?_
   refine gy hb3 ?_
   refine pop_ine .i64 _ _ s21 b2_1 ?_
   refine pop_pickt' hb3 ?_
   refine condM_b (fun hb4 => ?_) (fun hb4 => ?_)
   rotate_left
   ·have H := H.2 hb4
    refine pop_add .i64 s21 1 ?_
    obtain ⟨m_2, hm_2, H⟩ := H
    exact hn1 _ _ ⟨m_2, hm_2, places8_1, (w64 (s21 + 1)), rfl, H, hL2⟩
   have H := H.1 hb4
   refine H.mono fun r1 h3 H => ?_
   obtain ⟨s34, rfl, hL3, H⟩ := H
   refine H.mono fun r2 h4 H => ?_
   obtain ⟨s35, rfl, hL4, H⟩ := H
   refine pop_add .i64 s21 1 ?_
   obtain ⟨m_1, hm_1, H⟩ := H
   exact hn1 _ _ ⟨m_1, hm_1, s35, (w64 (s21 + 1)), rfl, H, hL4⟩
  have H := H.2 hb2
  refine pop_len places8_1 _ _ sli37 ?_
  obtain ⟨J2, ⟨n7, h0_3⟩, HB4⟩ := H
  refine loop_intro (J := fun (n : Nat) (vs : List Value) (h' : Heap) => ∃ m10_1 : Sl, ∃ s39 : Int, vs = [m10_1.v, (VI s39)] /\ J2 n m10_1 s39 h' /\ Vars h' [(b1, [g0_1.v])]) n7 ⟨nilSl, 0, rfl, h0_3, hL2⟩ ?_
  intro I3 mu3 hI3 junk2 tv3 tv4 h5 hi2
  obtain ⟨n2, ⟨m10_1, s39, hv, hJ2, hL5⟩, hn2⟩ := hI3 _ _ hi2
  cases hv
  have H := HB4 n2 m10_1 s39 h5 hJ2 hL5
  refine pop_lss .i64 s39 (places8_1.n : Int) ?_
  refine condM_b (fun hb5 => ?_) (fun hb5 => ?_)
  rotate_left
  ·exact H.2 hb5
  have H := H.1 hb5
  obtain ⟨hi3, H⟩ := H
  refine pop_index sli37 siz3 .i64 places8_1 s39 hi3 ?_
  obtain ⟨s42, hc7, H⟩ := H
  refine rop_one one3 (VI s42) hc7 ?_
  refine pop_len places8_1 _ _ sli37 ?_
  refine H.mono fun r3 h6 H => ?_
  obtain ⟨s45, rfl, hL6, H⟩ := H
  refine pop_len places8_1 _ _ sli37 ?_
  obtain ⟨J3, ⟨n6, h0_2⟩, HB3⟩ := H
  refine loop_intro (J := fun (n : Nat) (vs : List Value) (h' : Heap) => ∃ s48 : Int, vs = [(VI s48)] /\ J3 n s48 h' /\ Vars h' [(b1, [g0_1.v])]) n6 ⟨0, rfl, h0_2, hL6⟩ ?_
  intro I2 mu2 hI2 junk3 tv2 h7 hi4
  obtain ⟨n3, ⟨s48, hv, hJ3, hL7⟩, hn3⟩ := hI2 _ _ hi4
  cases hv
  have H := HB3 n3 s48 h7 hJ3 hL7
  refine pop_lss .i64 s48 (places8_1.n : Int) ?_
  refine condM_b (fun hb6 => ?_) (fun hb6 => ?_)
  rotate_left
  ·have H := H.2 hb6
   refine H.mono fun r4 h12 H => ?_
   obtain ⟨s91, rfl, hL12, H⟩ := H
   refine H.mono fun r5 h13 H => ?_
   obtain ⟨s92, rfl, hL13, H⟩ := H
   refine pop_add .i64 s39 1 ?_
   obtain ⟨m_7, hm_7, H⟩ := H
   exact hn2 _ _ ⟨m_7, hm_7, s92, (w64 (s39 + 1)), rfl, H, hL13⟩
  have H := H.1 hb6
  obtain ⟨hi5, H⟩ := H
  refine pop_index sli37 siz3 .i64 places8_1 s48 hi5 ?_
  obtain ⟨s52, hc6, H⟩ := H
  refine rop_one one3 (VI s52) hc6 ?_
  obtain ⟨J4, H, HB2⟩ := H
  refine ⟨fun (vs : List Value) (h' : Heap) => vs = [] /\ J4  h' /\ Vars h' [(b1, [g0_1.v])], ?_, ?_⟩
  ·refine pop_ieq .i64 _ _ s52 s42 ?_
   refine condM_b (fun hb7 => ?_) (fun hb7 => ?_)
   rotate_left
   ·have H := H.2 hb7
    exact ⟨rfl, H, hL7⟩
   have H := H.1 hb7
   obtain ⟨hi6, H⟩ := H
   refine pop_index sli37 siz3 .i64 s45 s48 hi6 ?_
   obtain ⟨s59, hc2, H⟩ := H
   refine rop_one one3 (VI s59) hc2 ?_
   refine pop_field 0 fld26_0 b1 0 ?_
   refine rl one24 hL7 0 0 g0_1.v ?_
   obtain ⟨hi7, H⟩ := H
   refine pop_index sli24 siz37 .i64 g0_1 s42 hi7 ?_
   obtain ⟨s64, hc1, H⟩ := H
   refine rop_one one37 s64.v hc1 ?_
   refine pop_len s64 _ _ sli37 ?_
   refine pop_add .i64 s59 (s64.n : Int) ?_
   obtain ⟨hi8, H⟩ := H
   refine pop_index sli37 siz3 .i64 s45 s48 hi8 ?_
   obtain ⟨hw_1, hL8, H⟩ := H
   refine uop_cell (v := (VI (w64 (s59 + (s64.n : Int))))) siz3 hw_1 rfl (fun h8 he_1 => ?_)
   rw [← he_1] at hL8
   have H := H h8 he_1 hL8
   exact ⟨rfl, H, hL8⟩
  intro junk4  h9
  rintro ⟨hv, hJ4, hL9⟩
  have H := HB2  h9 hJ4 hL9
  refine pop_field 0 fld26_0 b1 0 ?_
  refine rl one24 hL9 0 0 g0_1.v ?_
  obtain ⟨hi9, H⟩ := H
  refine pop_index sli24 siz37 .i64 g0_1 s42 hi9 ?_
  obtain ⟨s72, hc5, H⟩ := H
  refine rop_one one37 s72.v hc5 ?_
  refine pop_len s72 _ _ sli37 ?_
  obtain ⟨J5, ⟨n5, h0_1⟩, HB1⟩ := H
  refine loop_intro (J := fun (n : Nat) (vs : List Value) (h' : Heap) => ∃ s74 : Int, vs = [(VI s74)] /\ J5 n s74 h' /\ Vars h' [(b1, [g0_1.v])]) n5 ⟨0, rfl, h0_1, hL9⟩ ?_
  intro I1 mu1 hI1 junk5 tv1 h10 hi10
  obtain ⟨n4, ⟨s74, hv, hJ5, hL10⟩, hn4⟩ := hI1 _ _ hi10
  cases hv
  have H := HB1 n4 s74 h10 hJ5 hL10
  refine pop_lss .i64 s74 (s72.n : Int) ?_
  refine condM_b (fun hb8 => ?_) (fun hb8 => ?_)
  rotate_left
  ·have H := H.2 hb8
   refine pop_add .i64 s48 1 ?_
   obtain ⟨m_6, hm_6, H⟩ := H
   exact hn3 _ _ ⟨m_6, hm_6, (w64 (s48 + 1)), rfl, H, hL10⟩
  have H := H.1 hb8
  obtain ⟨hi11, H⟩ := H
  refine pop_index sli37 siz3 .i64 s72 s74 hi11 ?_
  obtain ⟨s77, hc4, H⟩ := H
  refine rop_one one3 (VI s77) hc4 ?_
  refine pop_ieq .i64 _ _ s77 s52 ?_
  refine condM_b (fun hb9 => ?_) (fun hb9 => ?_)
  rotate_left
  ·have H := H.2 hb9
   refine pop_add .i64 s74 1 ?_
   obtain ⟨m_5, hm_5, H⟩ := H
   exact hn4 _ _ ⟨m_5, hm_5, (w64 (s74 + 1)), rfl, H, hL10⟩
  have H := H.1 hb9
  obtain ⟨hi12, H⟩ := H
  refine pop_index sli37 siz3 .i64 s45 s48 hi12 ?_
  obtain ⟨s84, hc3, H⟩ := H
  refine rop_one one3 (VI s84) hc3 ?_
  refine pop_sub .i64 s84 1 ?_
  obtain ⟨hi13, H⟩ := H
  refine pop_index sli37 siz3 .i64 s45 s48 hi13 ?_
  obtain ⟨hw_2, hL11, H⟩ := H
  refine uop_cell (v := (VI (w64 (s84 - 1)))) siz3 hw_2 rfl (fun h11 he_2 => ?_)
  rw [← he_2] at hL11
  have H := H h11 he_2 hL11
  refine pop_add .i64 s74 1 ?_
  obtain ⟨m_4, hm_4, H⟩ := H
  exact hn4 _ _ ⟨m_4, hm_4, (w64 (s74 + 1)), rfl, H, hL11⟩
def u77 (P : Program) (m0_1 : Sl) (right1_1 : Sl) (h : Heap) (K : Value -> Heap -> Prop) : Prop :=
 callM P 91 #[m0_1.v] h fun r1 h1 => ∃ s14 : Int, r1 = (VI s14) /\ Vars h1 [] /\
 ∃ J1 : Nat -> Sl -> Int -> Heap -> Prop, (∃ n0 : Nat, J1 n0 nilSl 0 h1) /\
 ∀ (n1 : Nat) (out7_1 : Sl) (s17 : Int) (h2 : Heap), J1 n1 out7_1 s17 h2 -> Vars h2 [] ->
 ((decide (s17 < (m0_1.n : Int))) = true ->
 ∃ J2 : Nat -> Sl -> Int -> Heap -> Prop, (∃ n0 : Nat, J2 n0 nilSl 0 h2) /\
 ∀ (n2 : Nat) (other9_1 : Sl) (s22 : Int) (h3 : Heap), J2 n2 other9_1 s22 h3 -> Vars h3 [] ->
 ((decide (s22 < (m0_1.n : Int))) = true ->
 InB m0_1 s22 /\
 ∃ s26 : Sl, hcell h3 (Sl.at m0_1 s22 1) = some s26.v /\
 callM P 121 #[s26.v] h3 fun r2 h4 => ∃ s28 : Sl, r2 = s28.v /\ Vars h4 [] /\
 InB right1_1 s22 /\
 ∃ s34 : Int, hcell h4 (Sl.at right1_1 s22 1) = some (VI s34) /\
 InB s28 s17 /\
 Writable h4 (Sl.at s28 s17 1) /\ Vars (hset h4 (Sl.at s28 s17 1) (VI s34)) [] /\
 ∀ h5 : Heap, h5 = hset h4 (Sl.at s28 s17 1) (VI s34) -> Vars h5 [] ->
 eop P (Instr.buildSlice 24 1 #[(0, s28.v)]) h5 fun r3 h6 => ∃ s38 : Sl, r3 = s38.v /\ Vars h6 [] /\
 eop P (appS 24 24 24 other9_1.v s38.v) h6 fun r4 h7 => ∃ s39 : Sl, r4 = s39.v /\ Vars h7 [] /\
 ∃ m : Nat, m < n2 /\ J2 m s39 (w64 (s22 + 1)) h7) /\
 ((decide (s22 < (m0_1.n : Int))) = false ->
 callM P 91 #[other9_1.v] h3 fun r5 h8 => ∃ s43 : Int, r5 = (VI s43) /\ Vars h8 [] /\
 eop P (Instr.buildSlice 37 1 #[(0, (VI s43))]) h8 fun r6 h9 => ∃ s44 : Sl, r6 = s44.v /\ Vars h9 [] /\
 eop P (appS 37 37 37 out7_1.v s44.v) h9 fun r7 h10 => ∃ s45 : Sl, r7 = s45.v /\ Vars h10 [] /\
 ∃ m : Nat, m < n1 /\ J1 m s45 (w64 (s17 + 1)) h10)) /\
 ((decide (s17 < (m0_1.n : Int))) = false ->
 K (.tuple #[out7_1.v, (VI s14)]) h2)
theorem v77 (m0_1 : Sl) (right1_1 : Sl) (h : Heap) (K : Value -> Heap -> Prop) (H : u77 Try.prog m0_1 right1_1 h K) : callM Try.prog 77 #[m0_1.v, right1_1.v] h K := by
  refine c77 m0_1.v right1_1.v h K ?_
  unfold u77 at H
  unfold t77
  have hL : Vars h [] := .nil
  refine H.mono fun r1 h1 H => ?_
  obtain ⟨s14, rfl, hL1, H⟩ := H
  refine pop_len m0_1 _ _ sli24 ?_
  obtain ⟨J1, ⟨n4, h0_2⟩, HB2⟩ := H
  refine loop_intro (J := fun (n : Nat) (vs : List Value) (h' : Heap) => ∃ out7_1 : Sl, ∃ s17 : Int, vs = [out7_1.v, (VI s17)] /\ J1 n out7_1 s17 h' /\ Vars h' []) n4 ⟨nilSl, 0, rfl, h0_2, hL1⟩ ?_
  intro I2 mu2 hI2 junk1 tv3 tv4 h2 hi1
  obtain ⟨n1, ⟨out7_1, s17, hv, hJ1, hL2⟩, hn1⟩ := hI2 _ _ hi1
  cases hv
  have H := HB2 n1 out7_1 s17 h2 hJ1 hL2
  refine pop_lss .i64 s17 (m0_1.n : Int) ?_
  refine condM_b (fun hb1 => ?_) (fun hb1 => ?_)
  rotate_left
  ·exact H.2 hb1
  have H := H.1 hb1
  refine pop_len m0_1 _ _ sli24 ?_
  obtain ⟨J2, ⟨n3, h0_1⟩, HB1⟩ := H
  refine loop_intro (J := fun (n : Nat) (vs : List Value) (h' : Heap) => ∃ other9_1 : Sl, ∃ s22 : Int, vs = [other9_1.v, (VI s22)] /\ J2 n other9_1 s22 h' /\ Vars h' []) n3 ⟨nilSl, 0, rfl, h0_1, hL2⟩ ?_
  intro I1 mu1 hI1 junk2 tv1 tv2 h3 hi2
  obtain ⟨n2, ⟨other9_1, s22, hv, hJ2, hL3⟩, hn2⟩ := hI1 _ _ hi2
  cases hv
  have H := HB1 n2 other9_1 s22 h3 hJ2 hL3
  refine pop_lss .i64 s22 (m0_1.n : Int) ?_
  refine condM_b (fun hb2 => ?_) (fun hb2 => ?_)
  rotate_left
  ·have H := H.2 hb2
   refine H.mono fun r5 h8 H => ?_
   obtain ⟨s43, rfl, hL8, H⟩ := H
   refine H.mono fun r6 h9 H => ?_
   obtain ⟨s44, rfl, hL9, H⟩ := H
   refine H.mono fun r7 h10 H => ?_
   obtain ⟨s45, rfl, hL10, H⟩ := H
   refine pop_add .i64 s17 1 ?_
   obtain ⟨m_2, hm_2, H⟩ := H
   exact hn1 _ _ ⟨m_2, hm_2, s45, (w64 (s17 + 1)), rfl, H, hL10⟩
  have H := H.1 hb2
  obtain ⟨hi3, H⟩ := H
  refine pop_index sli24 siz37 .i64 m0_1 s22 hi3 ?_
  obtain ⟨s26, hc2, H⟩ := H
  refine rop_one one37 s26.v hc2 ?_
  refine H.mono fun r2 h4 H => ?_
  obtain ⟨s28, rfl, hL4, H⟩ := H
  obtain ⟨hi4, H⟩ := H
  refine pop_index sli37 siz3 .i64 right1_1 s22 hi4 ?_
  obtain ⟨s34, hc1, H⟩ := H
  refine rop_one one3 (VI s34) hc1 ?_
  obtain ⟨hi5, H⟩ := H
  refine pop_index sli37 siz3 .i64 s28 s17 hi5 ?_
  obtain ⟨hw_1, hL5, H⟩ := H
  refine uop_cell (v := (VI s34)) siz3 hw_1 rfl (fun h5 he_1 => ?_)
  rw [← he_1] at hL5
  have H := H h5 he_1 hL5
  refine H.mono fun r3 h6 H => ?_
  obtain ⟨s38, rfl, hL6, H⟩ := H
  refine H.mono fun r4 h7 H => ?_
  obtain ⟨s39, rfl, hL7, H⟩ := H
  refine pop_add .i64 s22 1 ?_
  obtain ⟨m_1, hm_1, H⟩ := H
  exact hn2 _ _ ⟨m_1, hm_1, s39, (w64 (s22 + 1)), rfl, H, hL7⟩
def u78 (P : Program) (b1 : Nat) (c0_1 : Sl) (c0_2 : Int) (c0_3 : Int) (h : Heap) (K : Value -> Heap -> Prop) : Prop :=
 ∀ (b2 : Nat) (h1 : Heap), h.size ≤ b2 -> Fr (In []) h h1 -> Vars h1 [(b2, [nilSl.v]), (b1, [c0_1.v, (VI c0_2), (Value.int .u64 c0_3)])] ->
 callM P 57 #[(VP b1 0)] h1 fun r1 h2 => ∃ y1 : Sl, ∃ y2 : Int, ∃ y3 : Int, ∃ s15 : Sl, ∃ s15b : Int, ∃ s15c : Int, r1 = (.tuple #[(.agg #[s15.v]), (VI s15b), (VI s15c)]) /\ Vars h2 [(b2, [nilSl.v]), (b1, [y1.v, (VI y2), (Value.int .u64 y3)])] /\
 ∀ (b3 : Nat) (h4 : Heap), h2.size ≤ b3 -> Fr (In []) h2 h4 -> Vars h4 [(b3, [s15.v]), (b2, [nilSl.v]), (b1, [y1.v, (VI y2), (Value.int .u64 y3)])] ->
 ∃ J1 : Sl -> Sl -> Int -> Int -> Heap -> Prop, (callM P 120 #[(.agg #[s15.v])] h4 fun r2 h5 => ∃ s20 : Bool, r2 = (VB s20) /\ Vars h5 [(b3, [s15.v]), (b2, [nilSl.v]), (b1, [y1.v, (VI y2), (Value.int .u64 y3)])] /\
 (s20 = true ->
 callM P 122 #[(VP b1 0), (.agg #[s15.v])] h5 fun r3 h6 => ∃ y8 : Sl, ∃ y9 : Int, ∃ y10 : Int, ∃ s23 : Sl, ∃ s23b : Int, r3 = (.agg #[s23.v, (VI s23b)]) /\ Vars h6 [(b3, [s15.v]), (b2, [nilSl.v]), (b1, [y8.v, (VI y9), (Value.int .u64 y10)])] /\
 J1 s23 y8 y9 y10 h6) /\
 (s20 = false ->
 J1 nilSl y1 y2 y3 h5)) /\
 ∀ (y4 : Sl) (y5 : Sl) (y6 : Int) (y7 : Int) (h7 : Heap), J1 y4 y5 y6 y7 h7 -> Vars h7 [(b3, [s15.v]), (b2, [nilSl.v]), (b1, [y5.v, (VI y6), (Value.int .u64 y7)])] ->
 callM P 70 #[(VP b1 0), (VI 30)] h7 fun r4 h8 => ∃ y11 : Sl, ∃ y12 : Int, ∃ y13 : Int, ∃ s26 : Int, r4 = (VI s26) /\ Vars h8 [(b3, [s15.v]), (b2, [nilSl.v]), (b1, [y11.v, (VI y12), (Value.int .u64 y13)])] /\
 ∃ J2 : Int -> Sl -> Int -> Int -> Heap -> Prop, (callM P 106 #[(VP b1 0), (VI 12)] h8 fun r5 h9 => ∃ y18 : Sl, ∃ y19 : Int, ∃ y20 : Int, ∃ s28 : Bool, r5 = (VB s28) /\ Vars h9 [(b3, [s15.v]), (b2, [nilSl.v]), (b1, [y18.v, (VI y19), (Value.int .u64 y20)])] /\
 (s28 = true ->
 eop P (Instr.buildSlice 37 4 #[(0, (.int .i64 (-1))), (1, (.int .i64 0)), (2, (.int .i64 100)), (3, (.int .i64 101))]) h9 fun r6 h10 => ∃ s30 : Sl, r6 = s30.v /\ Vars h10 [(b3, [s15.v]), (b2, [nilSl.v]), (b1, [y18.v, (VI y19), (Value.int .u64 y20)])] /\
 callM P 107 #[(VP b1 0), s30.v] h10 fun r7 h11 => ∃ y21 : Sl, ∃ y22 : Int, ∃ y23 : Int, ∃ s31 : Int, r7 = (VI s31) /\ Vars h11 [(b3, [s15.v]), (b2, [nilSl.v]), (b1, [y21.v, (VI y22), (Value.int .u64 y23)])] /\
 J2 s31 y21 y22 y23 h11) /\
 (s28 = false ->
 J2 s26 y18 y19 y20 h9)) /\
 ∀ (y14 : Int) (y15 : Sl) (y16 : Int) (y17 : Int) (h12 : Heap), J2 y14 y15 y16 y17 h12 -> Vars h12 [(b3, [s15.v]), (b2, [nilSl.v]), (b1, [y15.v, (VI y16), (Value.int .u64 y17)])] ->
 callM P 69 #[(VP b1 0), (.agg #[s15.v])] h12 fun r8 h13 => ∃ y24 : Sl, ∃ y25 : Int, ∃ y26 : Int, ∃ s36 : Int, r8 = (VI s36) /\ Vars h13 [(b3, [s15.v]), (b2, [nilSl.v]), (b1, [y24.v, (VI y25), (Value.int .u64 y26)])] /\
 ∀ (h14 : Heap), Fr (In [b2]) h13 h14 -> Vars h14 [(b3, [s15.v]), (b2, [s15.v]), (b1, [y24.v, (VI y25), (Value.int .u64 y26)])] ->
 K (.tuple #[(.agg #[s15.v]), y4.v, (VI s36), (VI s15b), (VI s15c), (VI y14)]) h14
theorem v78 (b1 : Nat) (c0_1 : Sl) (c0_2 : Int) (c0_3 : Int) (h : Heap) (K : Value -> Heap -> Prop) (hL : Vars h [(b1, [c0_1.v, (VI c0_2), (Value.int .u64 c0_3)])]) (H : u78 Try.prog b1 c0_1 c0_2 c0_3 h K) : callM Try.prog 78 #[(VP b1 0)] h K := by
  refine c78 (VP b1 0) h K ?_
  unfold u78 at H
  unfold t78
  refine eop_alloc 26 zer26 rfl hL (fun b2 h1 hb1 hf1 hL1 => ?_)
  have H := H b2 h1 hb1 (Fr.no' (Fr.r (In []) _) hf1) hL1
  refine H.mono fun r1 h2 H => ?_
  obtain ⟨y1, y2, y3, s15, s15b, s15c, rfl, hL2, H⟩ := H
  refine pop_ext (v := (Value.agg #[s15.v])) rfl ?_
  refine pop_ext (v := (VI s15b)) rfl ?_
  refine pop_ext (v := (VI s15c)) rfl ?_
  refine eop_alloc 26 zer26 rfl hL2 (fun b3 h3 hb2 hf2 hL3 => ?_)
  refine ul siz26 hL3 0 0 [s15.v] [(b3, [s15.v]), (b2, [nilSl.v]), (b1, [y1.v, (VI y2), (Value.int .u64 y3)])] (fun h4 hf3 hL4 => ?_)
  have H := H b3 h4 hb2 (Fr.new (Fr.no' (Fr.r (In []) _) hf2) hb2 hf3) hL4
  obtain ⟨J1, H, HB2⟩ := H
  refine ⟨fun (vs : List Value) (h' : Heap) => ∃ y4 : Sl, ∃ y5 : Sl, ∃ y6 : Int, ∃ y7 : Int, vs = [y4.v] /\ J1 y4 y5 y6 y7 h' /\ Vars h' [(b3, [s15.v]), (b2, [nilSl.v]), (b1, [y5.v, (VI y6), (Value.int .u64 y7)])], ?_, ?_⟩
  ·refine ra agg26 hL4 0 0 [s15.v] ?_
   refine H.mono fun r2 h5 H => ?_
   obtain ⟨s20, rfl, hL5, H⟩ := H
   refine condM_b (fun hb3 => ?_) (fun hb3 => ?_)
   rotate_left
   ·have H := H.2 hb3
    exact ⟨nilSl, y1, y2, y3, rfl, H, hL5⟩
   have H := H.1 hb3
   refine ra agg26 hL5 0 0 [s15.v] ?_
   refine H.mono fun r3 h6 H => ?_
   obtain ⟨y8, y9, y10, s23, s23b, rfl, hL6, H⟩ := H
   refine pop.mk' (v := s23.v) (fun w => by kernel_rfl) ?_
   exact ⟨s23, y8, y9, y10, rfl, H, hL6⟩
  intro junk1 tv1 h7
  rintro ⟨y4, y5, y6, y7, hv, hJ1, hL7⟩
  cases hv
  have H := HB2 y4 y5 y6 y7 h7 hJ1 hL7
  refine H.mono fun r4 h8 H => ?_
  obtain ⟨y11, y12, y13, s26, rfl, hL8, H⟩ := H
  obtain ⟨J2, H, HB1⟩ := H
  refine ⟨fun (vs : List Value) (h' : Heap) => ∃ y14 : Int, ∃ y15 : Sl, ∃ y16 : Int, ∃ y17 : Int, vs = [(VI y14)] /\ J2 y14 y15 y16 y17 h' /\ Vars h' [(b3, [s15.v]), (b2, [nilSl.v]), (b1, [y15.v, (VI y16), (Value.int .u64 y17)])], ?_, ?_⟩
  ·refine H.mono fun r5 h9 H => ?_
   obtain ⟨y18, y19, y20, s28, rfl, hL9, H⟩ := H
   refine condM_b (fun hb4 => ?_) (fun hb4 => ?_)
   rotate_left
   ·have H := H.2 hb4
    exact ⟨s26, y18, y19, y20, rfl, H, hL9⟩
   have H := H.1 hb4
   refine H.mono fun r6 h10 H => ?_
   obtain ⟨s30, rfl, hL10, H⟩ := H
   refine H.mono fun r7 h11 H => ?_
   obtain ⟨y21, y22, y23, s31, rfl, hL11, H⟩ := H
   exact ⟨s31, y21, y22, y23, rfl, H, hL11⟩
  intro junk2 tv2 h12
  rintro ⟨y14, y15, y16, y17, hv, hJ2, hL12⟩
  cases hv
  have H := HB1 y14 y15 y16 y17 h12 hJ2 hL12
  refine ra agg26 hL12 0 0 [s15.v] ?_
  refine ra agg26 hL12 0 0 [s15.v] ?_
  refine H.mono fun r8 h13 H => ?_
  obtain ⟨y24, y25, y26, s36, rfl, hL13, H⟩ := H
  refine ⟨?_, ?_⟩
  ·exact still_locA agg26 hL13 0 rfl 0 (vs := [s15.v]) rfl rfl
  refine ul siz26 hL13 1 0 [s15.v] [(b3, [s15.v]), (b2, [s15.v]), (b1, [y24.v, (VI y25), (Value.int .u64 y26)])] (fun h14 hf4 hL14 => ?_)
  refine ra agg26 hL14 1 0 [s15.v] ?_
  have H := H  h14  (Fr.old (Fr.r (In []) _) hf4) hL14
  exact H
end Go.Proofs.Ytgiamamfnpklkaa
