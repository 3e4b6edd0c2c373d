import Derived.Test.YtgiamamfnpklkaaChancesBalancedU1
import Derived.Test.YtgiamamfnpklkaaChancesBalancedT
import Derived.Test.YtgiamamfnpklkaaM2
set_option linter.unusedVariables false
set_option linter.unusedSimpArgs false
set_option maxRecDepth 100000
set_option maxHeartbeats 16000000
namespace Go.Proofs.Ytgiamamfnpklkaa
open Go Go.Mx
def u135 (P : Program) (n0_1 : Int) (both1_1 : Bool) (h : Heap) (K : Value -> Heap -> Prop) : Prop :=
 ∀ (b1 : Nat) (b2 : Nat) (h3 : Heap), h.size ≤ b1 -> h.size ≤ b2 -> Fr (In []) h h3 -> Vars h3 [(b2, [nilSl.v]), (b1, [nilSl.v])] ->
 ∃ J1 : Nat -> Int -> Sl -> Heap -> Prop, (∃ n0 : Nat, J1 n0 0 nilSl h3) /\
 ∀ (n1 : Nat) (p6_1 : Int) (y1 : Sl) (h4 : Heap), J1 n1 p6_1 y1 h4 -> Vars h4 [(b2, [y1.v]), (b1, [nilSl.v])] ->
 ((decide (p6_1 < n0_1)) = true ->
 n0_1 ≠ 0 /\
 eop P (Instr.buildSlice 37 1 #[(0, (VI (Int.tmod (w64 (p6_1 + 1)) n0_1)))]) h4 fun r1 h5 => ∃ s18 : Sl, r1 = s18.v /\ Vars h5 [(b2, [y1.v]), (b1, [nilSl.v])] /\
 ∃ J2 : Sl -> Heap -> Prop, ((both1_1 = true ->
 n0_1 ≠ 0 /\
 eop P (Instr.buildSlice 37 1 #[(0, (VI (Int.tmod (w64 ((w64 (p6_1 + n0_1)) - 1)) n0_1)))]) h5 fun r2 h6 => ∃ s27 : Sl, r2 = s27.v /\ Vars h6 [(b2, [y1.v]), (b1, [nilSl.v])] /\
 eop P (appS 37 37 37 s18.v s27.v) h6 fun r3 h7 => ∃ s28 : Sl, r3 = s28.v /\ Vars h7 [(b2, [y1.v]), (b1, [nilSl.v])] /\
 J2 s28 h7) /\
 (both1_1 = false ->
 J2 s18 h5)) /\
 ∀ (y2 : Sl) (h8 : Heap), J2 y2 h8 -> Vars h8 [(b2, [y1.v]), (b1, [nilSl.v])] ->
 eop P (Instr.buildSlice 24 1 #[(0, y2.v)]) h8 fun r4 h9 => ∃ s32 : Sl, r4 = s32.v /\ Vars h9 [(b2, [y1.v]), (b1, [nilSl.v])] /\
 eop P (appS 24 24 24 y1.v s32.v) h9 fun r5 h10 => ∃ s33 : Sl, r5 = s33.v /\ Vars h10 [(b2, [y1.v]), (b1, [nilSl.v])] /\
 ∀ (h11 : Heap), Fr (In [b2]) h10 h11 -> Vars h11 [(b2, [s33.v]), (b1, [nilSl.v])] ->
 ∃ m : Nat, m < n1 /\ J1 m (w64 (p6_1 + 1)) s33 h11) /\
 ((decide (p6_1 < n0_1)) = false ->
 ∀ (h12 : Heap), Fr (In [b1]) h4 h12 -> Vars h12 [(b2, [y1.v]), (b1, [y1.v])] ->
 K (.agg #[y1.v]) h12)
theorem v135 (n0_1 : Int) (both1_1 : Bool) (h : Heap) (K : Value -> Heap -> Prop) (H : u135 Try.prog n0_1 both1_1 h K) : callM Try.prog 135 #[(VI n0_1), (VB both1_1)] h K := by
  refine c135 (VI n0_1) (VB both1_1) h K ?_
  unfold u135 at H
  unfold t135
  have hL : Vars h [] := .nil
  refine eop_alloc 26 zer26 rfl hL (fun b1 h1 hb1 hf1 hL1 => ?_)
  refine pop.mk' (v := (Value.agg #[nilSl.v])) (fun w => by kernel_rfl) ?_
  refine eop_alloc 26 zer26 rfl hL1 (fun b2 h2 hb2 hf2 hL2 => ?_)
  refine ul siz26 hL2 0 0 [nilSl.v] [(b2, [nilSl.v]), (b1, [nilSl.v])] (fun h3 hf3 hL3 => ?_)
  have H := H b1 b2 h3 hb1 (Nat.le_trans (Fr.size (Fr.no' (Fr.r (In []) _) hf1)) hb2) (Fr.new (Fr.no' (Fr.no' (Fr.r (In []) _) hf1) hf2) (Nat.le_trans (Fr.size (Fr.no' (Fr.r (In []) _) hf1)) hb2) hf3) hL3
  obtain ⟨J1, ⟨n2, h0_1⟩, HB2⟩ := H
  refine loop_intro (J := fun (n : Nat) (vs : List Value) (h' : Heap) => ∃ p6_1 : Int, ∃ y1 : Sl, vs = [(VI p6_1)] /\ J1 n p6_1 y1 h' /\ Vars h' [(b2, [y1.v]), (b1, [nilSl.v])]) n2 ⟨0, nilSl, rfl, h0_1, hL3⟩ ?_
  intro I1 mu1 hI1 junk1 tv2 h4 hi1
  obtain ⟨n1, ⟨p6_1, y1, hv, hJ1, hL4⟩, hn1⟩ := hI1 _ _ hi1
  cases hv
  have H := HB2 n1 p6_1 y1 h4 hJ1 hL4
  refine pop_lss .i64 p6_1 n0_1 ?_
  refine condM_b (fun hb3 => ?_) (fun hb3 => ?_)
  rotate_left
  ·have H := H.2 hb3
   refine ra agg26 hL4 0 0 [y1.v] ?_
   refine ul siz26 hL4 1 0 [y1.v] [(b2, [y1.v]), (b1, [y1.v])] (fun h12 hf5 hL12 => ?_)
   refine ra agg26 hL12 1 0 [y1.v] ?_
   have H := H  h12  (Fr.old (Fr.r (In []) _) hf5) hL12
   exact H
  have H := H.1 hb3
  refine pop_add .i64 p6_1 1 ?_
  obtain ⟨hz_1, H⟩ := H
  refine pop_rem .i64 (w64 (p6_1 + 1)) n0_1 hz_1 ?_
  refine H.mono fun r1 h5 H => ?_
  obtain ⟨s18, rfl, hL5, H⟩ := H
  obtain ⟨J2, H, HB1⟩ := H
  refine ⟨fun (vs : List Value) (h' : Heap) => ∃ y2 : Sl, vs = [y2.v] /\ J2 y2 h' /\ Vars h' [(b2, [y1.v]), (b1, [nilSl.v])], ?_, ?_⟩
  ·refine condM_b (fun hb4 => ?_) (fun hb4 => ?_)
   rotate_left
   ·have H := H.2 hb4
    exact ⟨s18, rfl, H, hL5⟩
   have H := H.1 hb4
   refine pop_add .i64 p6_1 n0_1 ?_
   refine pop_sub .i64 (w64 (p6_1 + n0_1)) 1 ?_
   obtain ⟨hz_2, H⟩ := H
   refine pop_rem .i64 (w64 ((w64 (p6_1 + n0_1)) - 1)) n0_1 hz_2 ?_
   refine H.mono fun r2 h6 H => ?_
   obtain ⟨s27, rfl, hL6, H⟩ := H
   refine H.mono fun r3 h7 H => ?_
   obtain ⟨s28, rfl, hL7, H⟩ := H
   exact ⟨s28, rfl, H, hL7⟩
  intro junk2 tv1 h8
  rintro ⟨y2, hv, hJ2, hL8⟩
  cases hv
  have H := HB1 y2 h8 hJ2 hL8
  refine pop_field 0 fld26_0 b2 0 ?_
  refine rl one24 hL8 0 0 y1.v ?_
  refine H.mono fun r4 h9 H => ?_
  obtain ⟨s32, rfl, hL9, H⟩ := H
  refine H.mono fun r5 h10 H => ?_
  obtain ⟨s33, rfl, hL10, H⟩ := H
  refine pop_field 0 fld26_0 b2 0 ?_
  refine ul siz24 hL10 0 0 [s33.v] [(b2, [s33.v]), (b1, [nilSl.v])] (fun h11 hf4 hL11 => ?_)
  refine pop_add .i64 p6_1 1 ?_
  have H := H  h11  (Fr.old (Fr.r (In []) _) hf4) hL11
  obtain ⟨m_1, hm_1, H⟩ := H
  exact hn1 _ _ ⟨m_1, hm_1, (w64 (p6_1 + 1)), s33, rfl, H, hL11⟩
def u136 (P : Program) (b1 : Nat) (c0_1 : Sl) (c0_2 : Int) (c0_3 : Int) (n1_1 : Int) (h : Heap) (K : Value -> Heap -> Prop) : Prop :=
 ∃ J1 : Nat -> Sl -> Int -> Heap -> Prop, (∃ n0 : Nat, J1 n0 nilSl 0 h) /\
 ∀ (n1 : Nat) (out5_1 : Sl) (p6_1 : Int) (h1 : Heap), J1 n1 out5_1 p6_1 h1 -> Vars h1 [(b1, [c0_1.v, (VI c0_2), (Value.int .u64 c0_3)])] ->
 ((decide (p6_1 < n1_1)) = true ->
 eop P (Instr.buildSlice 37 1 #[(0, (VI p6_1))]) h1 fun r1 h2 => ∃ s17 : Sl, r1 = s17.v /\ Vars h2 [(b1, [c0_1.v, (VI c0_2), (Value.int .u64 c0_3)])] /\
 eop P (appS 37 37 37 out5_1.v s17.v) h2 fun r2 h3 => ∃ s18 : Sl, r2 = s18.v /\ Vars h3 [(b1, [c0_1.v, (VI c0_2), (Value.int .u64 c0_3)])] /\
 ∃ m : Nat, m < n1 /\ J1 m s18 (w64 (p6_1 + 1)) h3) /\
 ((decide (p6_1 < n1_1)) = false ->
 ∃ J2 : Nat -> Int -> Sl -> Int -> Int -> Heap -> Prop, (∃ n0 : Nat, J2 n0 0 c0_1 c0_2 c0_3 h1) /\
 ∀ (n2 : Nat) (s21 : Int) (y1 : Sl) (y2 : Int) (y3 : Int) (h4 : Heap), J2 n2 s21 y1 y2 y3 h4 -> Vars h4 [(b1, [y1.v, (VI y2), (Value.int .u64 y3)])] ->
 ((decide (s21 < (out5_1.n : Int))) = true ->
 callM P 70 #[(VP b1 0), (VI n1_1)] h4 fun r3 h5 => ∃ y4 : Sl, ∃ y5 : Int, ∃ y6 : Int, ∃ s26 : Int, r3 = (VI s26) /\ Vars h5 [(b1, [y4.v, (VI y5), (Value.int .u64 y6)])] /\
 InB out5_1 s21 /\
 ∃ s30 : Int, hcell h5 (Sl.at out5_1 s21 1) = some (VI s30) /\
 InB out5_1 s26 /\
 ∃ s36 : Int, hcell h5 (Sl.at out5_1 s26 1) = some (VI s36) /\
 InB out5_1 s21 /\
 Writable h5 (Sl.at out5_1 s21 1) /\ Vars (hset h5 (Sl.at out5_1 s21 1) (VI s36)) [(b1, [y4.v, (VI y5), (Value.int .u64 y6)])] /\
 ∀ h6 : Heap, h6 = hset h5 (Sl.at out5_1 s21 1) (VI s36) -> Vars h6 [(b1, [y4.v, (VI y5), (Value.int .u64 y6)])] ->
 InB out5_1 s26 /\
 Writable h6 (Sl.at out5_1 s26 1) /\ Vars (hset h6 (Sl.at out5_1 s26 1) (VI s30)) [(b1, [y4.v, (VI y5), (Value.int .u64 y6)])] /\
 ∀ h7 : Heap, h7 = hset h6 (Sl.at out5_1 s26 1) (VI s30) -> Vars h7 [(b1, [y4.v, (VI y5), (Value.int .u64 y6)])] ->
 ∃ m : Nat, m < n2 /\ J2 m (w64 (s21 + 1)) y4 y5 y6 h7) /\
 ((decide (s21 < (out5_1.n : Int))) = false ->
 K out5_1.v h4))
theorem v136 (b1 : Nat) (c0_1 : Sl) (c0_2 : Int) (c0_3 : Int) (n1_1 : Int) (h : Heap) (K : Value -> Heap -> Prop) (hL : Vars h [(b1, [c0_1.v, (VI c0_2), (Value.int .u64 c0_3)])]) (H : u136 Try.prog b1 c0_1 c0_2 c0_3 n1_1 h K) : callM Try.prog 136 #[(VP b1 0), (VI n1_1)] h K := by
  refine c136 (VP b1 0) (VI n1_1) h K ?_
  unfold u136 at H
  unfold t136
  obtain ⟨J1, ⟨n4, h0_2⟩, HB2⟩ := H
  refine loop_intro (J := fun (n : Nat) (vs : List Value) (h' : Heap) => ∃ out5_1 : Sl, ∃ p6_1 : Int, vs = [out5_1.v, (VI p6_1)] /\ J1 n out5_1 p6_1 h' /\ Vars h' [(b1, [c0_1.v, (VI c0_2), (Value.int .u64 c0_3)])]) n4 ⟨nilSl, 0, rfl, h0_2, hL⟩ ?_
  intro I2 mu2 hI2 junk1 tv2 tv3 h1 hi1
  obtain ⟨n1, ⟨out5_1, p6_1, hv, hJ1, hL1⟩, hn1⟩ := hI2 _ _ hi1
  cases hv
  have H := HB2 n1 out5_1 p6_1 h1 hJ1 hL1
  refine pop_lss .i64 p6_1 n1_1 ?_
  refine condM_b (fun hb1 => ?_) (fun hb1 => ?_)
  ·have H := H.1 hb1
   refine H.mono fun r1 h2 H => ?_
   obtain ⟨s17, rfl, hL2, H⟩ := H
   refine H.mono fun r2 h3 H => ?_
   obtain ⟨s18, rfl, hL3, H⟩ := H
   refine pop_add .i64 p6_1 1 ?_
   obtain ⟨m_1, hm_1, H⟩ := H
   exact hn1 _ _ ⟨m_1, hm_1, s18, (w64 (p6_1 + 1)), rfl, H, hL3⟩
  have H := H.2 hb1
  refine pop_len out5_1 _ _ sli37 ?_
  obtain ⟨J2, ⟨n3, h0_1⟩, HB1⟩ := H
  refine loop_intro (J := fun (n : Nat) (vs : List Value) (h' : Heap) => ∃ s21 : Int, ∃ y1 : Sl, ∃ y2 : Int, ∃ y3 : Int, vs = [(VI s21)] /\ J2 n s21 y1 y2 y3 h' /\ Vars h' [(b1, [y1.v, (VI y2), (Value.int .u64 y3)])]) n3 ⟨0, c0_1, c0_2, c0_3, rfl, h0_1, hL1⟩ ?_
  intro I1 mu1 hI1 junk2 tv1 h4 hi2
  obtain ⟨n2, ⟨s21, y1, y2, y3, hv, hJ2, hL4⟩, hn2⟩ := hI1 _ _ hi2
  cases hv
  have H := HB1 n2 s21 y1 y2 y3 h4 hJ2 hL4
  refine pop_lss .i64 s21 (out5_1.n : Int) ?_
  refine condM_b (fun hb2 => ?_) (fun hb2 => ?_)
  rotate_left
  ·exact H.2 hb2
  have H := H.1 hb2
  refine H.mono fun r3 h5 H => ?_
  obtain ⟨y4, y5, y6, s26, rfl, hL5, H⟩ := H
  obtain ⟨hi3, H⟩ := H
  refine pop_index sli37 siz3 .i64 out5_1 s21 hi3 ?_
  obtain ⟨s30, hc2, H⟩ := H
  refine rop_one one3 (VI s30) hc2 ?_
  obtain ⟨hi4, H⟩ := H
  refine pop_index sli37 siz3 .i64 out5_1 s26 hi4 ?_
  obtain ⟨s36, hc1, H⟩ := H
  refine rop_one one3 (VI s36) hc1 ?_
  obtain ⟨hi5, H⟩ := H
  refine pop_index sli37 siz3 .i64 out5_1 s21 hi5 ?_
  obtain ⟨hw_1, hL6, H⟩ := H
  refine uop_cell (v := (VI s36)) siz3 hw_1 rfl (fun h6 he_1 => ?_)
  rw [← he_1] at hL6
  have H := H h6 he_1 hL6
  obtain ⟨hi6, H⟩ := H
  refine pop_index sli37 siz3 .i64 out5_1 s26 hi6 ?_
  obtain ⟨hw_2, hL7, H⟩ := H
  refine uop_cell (v := (VI s30)) siz3 hw_2 rfl (fun h7 he_2 => ?_)
  rw [← he_2] at hL7
  have H := H h7 he_2 hL7
  refine pop_add .i64 s21 1 ?_
  obtain ⟨m_2, hm_2, H⟩ := H
  exact hn2 _ _ ⟨m_2, hm_2, (w64 (s21 + 1)), y4, y5, y6, rfl, H, hL7⟩
def u137 (P : Program) (x0_1 : Sl) (count1_1 : Int) (h : Heap) (K : Value -> Heap -> Prop) : Prop :=
 ∃ J1 : Heap -> Prop, (((decide (count1_1 < 0)) = true ->
 pop P (Instr.makeInterface 9 (Value.string { data := #[99, 97, 110, 110, 111, 116, 32, 98, 101, 32, 110, 101, 103, 97, 116, 105, 118, 101] })) fun r1 => ∃ s11 : Value, r1 = s11 /\ 
 False) /\
 ((decide (count1_1 < 0)) = false ->
 J1  h)) /\
 ∀ (h1 : Heap), J1  h1 -> Vars h1 [] ->
 rop P (convert 3 132 (VI (x0_1.n : Int))) h1 fun r2 => ∃ s15 : Int, r2 = (Value.int .u64 s15) /\ 
 rop P (convert 3 132 (VI count1_1)) h1 fun r3 => ∃ s17 : Int, r3 = (Value.int .u64 s17) /\ 
 callM P 141 #[(Value.int .u64 s15), (Value.int .u64 s17)] h1 fun r4 h2 => ∃ s18 : Int, ∃ s18b : Int, r4 = (.tuple #[(Value.int .u64 s18), (Value.int .u64 s18b)]) /\ Vars h2 [] /\
 ∃ J2 : Heap -> Prop, (((decide (0 < s18)) = true ->
 pop P (Instr.makeInterface 9 (Value.string { data := #[116, 104, 101, 32, 114, 101, 115, 117, 108, 116, 32, 111, 102, 32, 40, 108, 101, 110, 40, 120, 41, 32, 42, 32, 99, 111, 117, 110, 116, 41, 32, 111, 118, 101, 114, 102, 108, 111, 119, 115] })) fun r6 => ∃ s27b : Value, r6 = s27b /\ 
 False) /\
 ((decide (0 < s18)) = false ->
 ((decide (9223372036854775807 < s18b)) = true ->
 pop P (Instr.makeInterface 9 (Value.string { data := #[116, 104, 101, 32, 114, 101, 115, 117, 108, 116, 32, 111, 102, 32, 40, 108, 101, 110, 40, 120, 41, 32, 42, 32, 99, 111, 117, 110, 116, 41, 32, 111, 118, 101, 114, 102, 108, 111, 119, 115] })) fun r5 => ∃ s27 : Value, r5 = s27 /\ 
 False) /\
 ((decide (9223372036854775807 < s18b)) = false ->
 J2  h2))) /\
 ∀ (h3 : Heap), J2  h3 -> Vars h3 [] ->
 rop P (convert 132 3 (Value.int .u64 s18b)) h3 fun r7 => ∃ s29 : Int, r7 = (VI s29) /\ 
 eop P (Instr.makeSlice 37 (VI s29) (VI s29)) h3 fun r8 h4 => ∃ s30 : Sl, r8 = s30.v /\ Vars h4 [] /\
 eop P (Builtin.copy_ #[37, 37] 3 #[s30.v, x0_1.v]) h4 fun r9 h5 => ∃ s33 : Int, r9 = (VI s33) /\ Vars h5 [] /\
 ∃ J3 : Nat -> Int -> Heap -> Prop, (∃ n0 : Nat, J3 n0 s33 h5) /\
 ∀ (n1 : Nat) (n8_1 : Int) (h6 : Heap), J3 n1 n8_1 h6 -> Vars h6 [] ->
 ((decide (n8_1 < (s30.n : Int))) = true ->
 pop P (Instr.sliceAt 37 s30.v (some (VI n8_1)) none none) fun r10 => ∃ s41 : Sl, r10 = s41.v /\ 
 pop P (Instr.sliceAt 37 s30.v none (some (VI n8_1)) none) fun r11 => ∃ s44 : Sl, r11 = s44.v /\ 
 eop P (Builtin.copy_ #[37, 37] 3 #[s41.v, s44.v]) h6 fun r12 h7 => ∃ s45 : Int, r12 = (VI s45) /\ Vars h7 [] /\
 ∃ m : Nat, m < n1 /\ J3 m (w64 (n8_1 + s45)) h7) /\
 ((decide (n8_1 < (s30.n : Int))) = false ->
 K s30.v h6)
theorem v137 (x0_1 : Sl) (count1_1 : Int) (h : Heap) (K : Value -> Heap -> Prop) (H : u137 Try.prog x0_1 count1_1 h K) : callM Try.prog 137 #[x0_1.v, (VI count1_1)] h K := by
  refine c137 x0_1.v (VI count1_1) h K ?_
  unfold u137 at H
  unfold t137
  have hL : Vars h [] := .nil
  obtain ⟨J1, H, HB3⟩ := H
  refine ⟨fun (vs : List Value) (h' : Heap) => vs = [] /\ J1  h' /\ Vars h' [], ?_, ?_⟩
  ·refine pop_lss .i64 count1_1 0 ?_
   refine condM_b (fun hb1 => ?_) (fun hb1 => ?_)
   rotate_left
   ·have H := H.2 hb1
    exact ⟨rfl, H, hL⟩
   have H := H.1 hb1
   refine H.mono fun r1 H => ?_
   obtain ⟨s11, rfl, H⟩ := H
   exact H.elim
  intro junk1  h1
  rintro ⟨hv, hJ1, hL1⟩
  have H := HB3  h1 hJ1 hL1
  refine pop_len x0_1 _ _ sli37 ?_
  refine H.mono fun r2 H => ?_
  obtain ⟨s15, rfl, H⟩ := H
  refine H.mono fun r3 H => ?_
  obtain ⟨s17, rfl, H⟩ := H
  refine H.mono fun r4 h2 H => ?_
  obtain ⟨s18, s18b, rfl, hL2, H⟩ := H
  refine pop_ext (v := (Value.int .u64 s18)) rfl ?_
  refine pop_ext (v := (Value.int .u64 s18b)) rfl ?_
  obtain ⟨J2, H, HB2⟩ := H
  refine ⟨fun (vs : List Value) (h' : Heap) => vs = [] /\ J2  h' /\ Vars h' [], ?_, ?_⟩
  ·refine pop_gtr .u64 s18 0 ?_
   refine guardM_sf (fun hb2 => ?_) (fun hb2 => ?_)
   rotate_left
   ·have H := H.1 hb2
    refine gm hb2 ?_
    refine pop_pickt' hb2 ?_
    refine condM_t ?_
    refine H.mono fun r6 H => ?_
    obtain ⟨s27b, rfl, H⟩ := H
    exact H.elim
   have H := H.2 hb2
   refine gy hb2 ?_
   refine pop_gtr .u64 s18b 9223372036854775807 ?_
   refine pop_pickf' hb2 ?_
   refine condM_b (fun hb3 => ?_) (fun hb3 => ?_)
   rotate_left
   ·have H := H.2 hb3
    exact ⟨rfl, H, hL2⟩
   have H := H.1 hb3
   refine H.mono fun r5 H => ?_
   obtain ⟨s27, rfl, H⟩ := H
   exact H.elim
  intro junk2  h3
  rintro ⟨hv, hJ2, hL3⟩
  have H := HB2  h3 hJ2 hL3
  refine H.mono fun r7 H => ?_
  obtain ⟨s29, rfl, H⟩ := H
  refine H.mono fun r8 h4 H => ?_
  obtain ⟨s30, rfl, hL4, H⟩ := H
  refine H.mono fun r9 h5 H => ?_
  obtain ⟨s33, rfl, hL5, H⟩ := H
  obtain ⟨J3, ⟨n2, h0_1⟩, HB1⟩ := H
  refine loop_intro (J := fun (n : Nat) (vs : List Value) (h' : Heap) => ∃ n8_1 : Int, vs = [(VI n8_1)] /\ J3 n n8_1 h' /\ Vars h' []) n2 ⟨s33, rfl, h0_1, hL5⟩ ?_
  intro I1 mu1 hI1 junk3 tv1 h6 hi1
  obtain ⟨n1, ⟨n8_1, hv, hJ3, hL6⟩, hn1⟩ := hI1 _ _ hi1
  cases hv
  have H := HB1 n1 n8_1 h6 hJ3 hL6
  refine pop_len s30 _ _ sli37 ?_
  refine pop_lss .i64 n8_1 (s30.n : Int) ?_
  refine condM_b (fun hb4 => ?_) (fun hb4 => ?_)
  rotate_left
  ·exact H.2 hb4
  have H := H.1 hb4
  refine H.mono fun r10 H => ?_
  obtain ⟨s41, rfl, H⟩ := H
  refine H.mono fun r11 H => ?_
  obtain ⟨s44, rfl, H⟩ := H
  refine H.mono fun r12 h7 H => ?_
  obtain ⟨s45, rfl, hL7, H⟩ := H
  refine pop_add .i64 n8_1 s45 ?_
  obtain ⟨m_1, hm_1, H⟩ := H
  exact hn1 _ _ ⟨m_1, hm_1, (w64 (n8_1 + s45)), rfl, H, hL7⟩
def u138 (P : Program) (q0_1 : Int) (b1 : Nat) (s1 : Int) (h : Heap) (K : Value -> Heap -> Prop) : Prop :=
 callM P 71 #[(VI q0_1), (VI 0), (VI (w64 (s1 - 1)))] h fun r1 h1 => ∃ s7 : Bool, r1 = (VB s7) /\ Vars h1 [(b1, [(VI s1)])] /\
 K (VB (!s7)) h1
theorem v138 (q0_1 : Int) (b1 : Nat) (s1 : Int) (h : Heap) (K : Value -> Heap -> Prop) (hL : Vars h [(b1, [(VI s1)])]) (H : u138 Try.prog q0_1 b1 s1 h K) : callM Try.prog 138 #[(VI q0_1), (VP b1 0)] h K := by
  refine c138 (VI q0_1) (VP b1 0) h K ?_
  unfold u138 at H
  unfold t138
  refine rl one3 hL 0 0 (VI s1) ?_
  refine pop_sub .i64 s1 1 ?_
  refine H.mono fun r1 h1 H => ?_
  obtain ⟨s7, rfl, hL1, H⟩ := H
  refine pop_not s7 ?_
  exact H
def u141 (P : Program) (x0_1 : Int) (y1_1 : Int) (h : Heap) (K : Value -> Heap -> Prop) : Prop :=
 callM P 143 #[(Value.int .u64 x0_1), (Value.int .u64 y1_1)] h fun r1 h1 => ∃ s25 : Int, ∃ s25b : Int, r1 = (.tuple #[(Value.int .u64 s25), (Value.int .u64 s25b)]) /\ Vars h1 [] /\
 K (.tuple #[(Value.int .u64 s25), (Value.int .u64 s25b)]) h1
theorem v141 (x0_1 : Int) (y1_1 : Int) (h : Heap) (K : Value -> Heap -> Prop) (H : u141 Try.prog x0_1 y1_1 h K) : callM Try.prog 141 #[(Value.int .u64 x0_1), (Value.int .u64 y1_1)] h K := by
  refine c141 (Value.int .u64 x0_1) (Value.int .u64 y1_1) h K ?_
  unfold u141 at H
  unfold t141
  have hL : Vars h [] := .nil
  refine condM_f ?_
  refine H.mono fun r1 h1 H => ?_
  obtain ⟨s25, s25b, rfl, hL1, H⟩ := H
  refine pop_ext (v := (Value.int .u64 s25)) rfl ?_
  refine pop_ext (v := (Value.int .u64 s25b)) rfl ?_
  exact H
def u143 (P : Program) (x0_1 : Int) (y1_1 : Int) (h : Heap) (K : Value -> Heap -> Prop) : Prop :=
 pop P (binA .and 67 (Value.int .u64 x0_1) (Value.int IntKind.u64 4294967295)) fun r1 => ∃ s15 : Int, r1 = (Value.int .u64 s15) /\ 
 pop P (binA .shr 67 (Value.int .u64 x0_1) (Value.int IntKind.u64 32)) fun r2 => ∃ s17 : Int, r2 = (Value.int .u64 s17) /\ 
 pop P (binA .and 67 (Value.int .u64 y1_1) (Value.int IntKind.u64 4294967295)) fun r3 => ∃ s19 : Int, r3 = (Value.int .u64 s19) /\ 
 pop P (binA .shr 67 (Value.int .u64 y1_1) (Value.int IntKind.u64 32)) fun r4 => ∃ s21 : Int, r4 = (Value.int .u64 s21) /\ 
 pop P (binA .shr 67 (Value.int .u64 (IntKind.wrap .u64 (s15 * s19))) (Value.int IntKind.u64 32)) fun r5 => ∃ s29 : Int, r5 = (Value.int .u64 s29) /\ 
 pop P (binA .and 67 (Value.int .u64 (IntKind.wrap .u64 ((IntKind.wrap .u64 (s17 * s19)) + s29))) (Value.int IntKind.u64 4294967295)) fun r6 => ∃ s32 : Int, r6 = (Value.int .u64 s32) /\ 
 pop P (binA .shr 67 (Value.int .u64 (IntKind.wrap .u64 ((IntKind.wrap .u64 (s17 * s19)) + s29))) (Value.int IntKind.u64 32)) fun r7 => ∃ s34 : Int, r7 = (Value.int .u64 s34) /\ 
 pop P (binA .shr 67 (Value.int .u64 (IntKind.wrap .u64 (s32 + (IntKind.wrap .u64 (s15 * s21))))) (Value.int IntKind.u64 32)) fun r8 => ∃ s46 : Int, r8 = (Value.int .u64 s46) /\ 
 K (.tuple #[(Value.int .u64 (IntKind.wrap .u64 ((IntKind.wrap .u64 ((IntKind.wrap .u64 (s17 * s21)) + s34)) + s46))), (Value.int .u64 (IntKind.wrap .u64 (x0_1 * y1_1)))]) h
theorem v143 (x0_1 : Int) (y1_1 : Int) (h : Heap) (K : Value -> Heap -> Prop) (H : u143 Try.prog x0_1 y1_1 h K) : callM Try.prog 143 #[(Value.int .u64 x0_1), (Value.int .u64 y1_1)] h K := by
  refine c143 (Value.int .u64 x0_1) (Value.int .u64 y1_1) h K ?_
  unfold u143 at H
  unfold t143
  have hL : Vars h [] := .nil
  refine H.mono fun r1 H => ?_
  obtain ⟨s15, rfl, H⟩ := H
  refine H.mono fun r2 H => ?_
  obtain ⟨s17, rfl, H⟩ := H
  refine H.mono fun r3 H => ?_
  obtain ⟨s19, rfl, H⟩ := H
  refine H.mono fun r4 H => ?_
  obtain ⟨s21, rfl, H⟩ := H
  refine pop_mul .u64 s15 s19 ?_
  refine pop_mul .u64 s17 s19 ?_
  refine H.mono fun r5 H => ?_
  obtain ⟨s29, rfl, H⟩ := H
  refine pop_add .u64 (IntKind.wrap .u64 (s17 * s19)) s29 ?_
  refine H.mono fun r6 H => ?_
  obtain ⟨s32, rfl, H⟩ := H
  refine H.mono fun r7 H => ?_
  obtain ⟨s34, rfl, H⟩ := H
  refine pop_mul .u64 s15 s21 ?_
  refine pop_add .u64 s32 (IntKind.wrap .u64 (s15 * s21)) ?_
  refine pop_mul .u64 s17 s21 ?_
  refine pop_add .u64 (IntKind.wrap .u64 (s17 * s21)) s34 ?_
  refine H.mono fun r8 H => ?_
  obtain ⟨s46, rfl, H⟩ := H
  refine pop_add .u64 (IntKind.wrap .u64 ((IntKind.wrap .u64 (s17 * s21)) + s34)) s46 ?_
  refine pop_mul .u64 x0_1 y1_1 ?_
  exact H
end Go.Proofs.Ytgiamamfnpklkaa
