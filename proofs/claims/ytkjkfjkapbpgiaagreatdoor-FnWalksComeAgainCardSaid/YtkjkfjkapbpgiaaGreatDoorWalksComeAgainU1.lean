import Derived.Test.YtkjkfjkapbpgiaaGreatDoorWalksComeAgainU
import Derived.Test.YtkjkfjkapbpgiaaGreatDoorWalksComeAgainT
import Derived.Test.YtkjkfjkapbpgiaaGreatDoorM2
set_option linter.unusedVariables false
set_option linter.unusedSimpArgs false
set_option maxRecDepth 100000
set_option maxHeartbeats 16000000
namespace Go.Proofs.YtkjkfjkapbpgiaaGreatDoor
open Go Go.Mx
def u81 (P : Program) (b1 : Nat) (c0_1 : Sl) (c0_2 : Int) (c0_3 : Int) (h : Heap) (K : Value -> Heap -> Prop) : Prop :=
 ∀ (b2 : Nat) (h1 : Heap), h.size ≤ b2 -> Fr (In []) h h1 -> Vars h1 [(b2, [nilSl.v]), (b1, [c0_1.v, (VI c0_2), (Value.int .u64 c0_3)])] ->
 callM P 68 #[(VP b1 0), (VI 6)] h1 fun r1 h2 => ∃ y1 : Sl, ∃ y2 : Int, ∃ y3 : Int, ∃ s10 : Bool, r1 = (VB s10) /\ Vars h2 [(b2, [nilSl.v]), (b1, [y1.v, (VI y2), (Value.int .u64 y3)])] /\
 (s10 = true ->
 callM P 121 #[(VP b1 0)] h2 fun r2 h3 => ∃ y4 : Sl, ∃ y5 : Int, ∃ y6 : Int, ∃ s12 : Sl, r2 = (.agg #[s12.v]) /\ Vars h3 [(b2, [nilSl.v]), (b1, [y4.v, (VI y5), (Value.int .u64 y6)])] /\
 ∀ (h4 : Heap), Fr (In [b2]) h3 h4 -> Vars h4 [(b2, [s12.v]), (b1, [y4.v, (VI y5), (Value.int .u64 y6)])] ->
 K (.agg #[s12.v]) h4) /\
 (s10 = false ->
 callM P 70 #[(VP b1 0), (VI 5)] h2 fun r3 h5 => ∃ y7 : Sl, ∃ y8 : Int, ∃ y9 : Int, ∃ s14 : Int, r3 = (VI s14) /\ Vars h5 [(b2, [nilSl.v]), (b1, [y7.v, (VI y8), (Value.int .u64 y9)])] /\
 callM P 68 #[(VP b1 0), (VI 2)] h5 fun r4 h6 => ∃ y10 : Sl, ∃ y11 : Int, ∃ y12 : Int, ∃ s18 : Bool, r4 = (VB s18) /\ Vars h6 [(b2, [nilSl.v]), (b1, [y10.v, (VI y11), (Value.int .u64 y12)])] /\
 callM P 129 #[(VI (w64 (1 + s14))), (VB s18)] h6 fun r5 h7 => ∃ s19 : Sl, r5 = (.agg #[s19.v]) /\ Vars h7 [(b2, [nilSl.v]), (b1, [y10.v, (VI y11), (Value.int .u64 y12)])] /\
 ∀ (b3 : Nat) (h9 : Heap), h7.size ≤ b3 -> Fr (In []) h7 h9 -> Vars h9 [(b3, [s19.v]), (b2, [nilSl.v]), (b1, [y10.v, (VI y11), (Value.int .u64 y12)])] ->
 callM P 70 #[(VP b1 0), (VI 3)] h9 fun r6 h10 => ∃ y13 : Sl, ∃ y14 : Int, ∃ y15 : Int, ∃ s21 : Int, r6 = (VI s21) /\ Vars h10 [(b3, [s19.v]), (b2, [nilSl.v]), (b1, [y13.v, (VI y14), (Value.int .u64 y15)])] /\
 ∃ J1 : Nat -> Int -> Sl -> Int -> Int -> Heap -> Prop, (∃ n0 : Nat, J1 n0 s21 y13 y14 y15 h10) /\
 ∀ (n1 : Nat) (k5_1 : Int) (y16 : Sl) (y17 : Int) (y18 : Int) (h11 : Heap), J1 n1 k5_1 y16 y17 y18 h11 -> Vars h11 [(b3, [s19.v]), (b2, [nilSl.v]), (b1, [y16.v, (VI y17), (Value.int .u64 y18)])] ->
 ((decide (0 < k5_1)) = true ->
 callM P 130 #[(VP b1 0), (VI (w64 (1 + s14)))] h11 fun r7 h12 => ∃ y19 : Sl, ∃ y20 : Int, ∃ y21 : Int, ∃ s28 : Sl, r7 = s28.v /\ Vars h12 [(b3, [s19.v]), (b2, [nilSl.v]), (b1, [y19.v, (VI y20), (Value.int .u64 y21)])] /\
 callM P 70 #[(VP b1 0), (VI (w64 (1 + s14)))] h12 fun r8 h13 => ∃ y22 : Sl, ∃ y23 : Int, ∃ y24 : Int, ∃ s31 : Int, r8 = (VI s31) /\ Vars h13 [(b3, [s19.v]), (b2, [nilSl.v]), (b1, [y22.v, (VI y23), (Value.int .u64 y24)])] /\
 ∃ J2 : Nat -> Int -> Heap -> Prop, (∃ n0 : Nat, J2 n0 0 h13) /\
 ∀ (n2 : Nat) (i8_1 : Int) (h14 : Heap), J2 n2 i8_1 h14 -> Vars h14 [(b3, [s19.v]), (b2, [nilSl.v]), (b1, [y22.v, (VI y23), (Value.int .u64 y24)])] ->
 ((decide (i8_1 < (w64 (1 + s31)))) = true ->
 InB s28 i8_1 /\
 ∃ s43 : Int, hcell h14 (Sl.at s28 i8_1 1) = some (VI s43) /\
 InB s28 i8_1 /\
 ∃ s49 : Int, hcell h14 (Sl.at s28 i8_1 1) = some (VI s49) /\
 InB s19 s49 /\
 ∃ s51 : Sl, hcell h14 (Sl.at s19 s49 1) = some s51.v /\
 (w64 (1 + s31)) ≠ 0 /\
 InB s28 (Int.tmod (w64 (i8_1 + 1)) (w64 (1 + s31))) /\
 ∃ s58 : Int, hcell h14 (Sl.at s28 (Int.tmod (w64 (i8_1 + 1)) (w64 (1 + s31))) 1) = some (VI s58) /\
 eop P (Instr.buildSlice 33 1 #[(0, (VI s58))]) h14 fun r9 h15 => ∃ s59 : Sl, r9 = s59.v /\ Vars h15 [(b3, [s19.v]), (b2, [nilSl.v]), (b1, [y22.v, (VI y23), (Value.int .u64 y24)])] /\
 hcell h15 (Sl.at s19 s49 1) = some s51.v /\
 hcell h15 (Sl.at s28 i8_1 1) = some (VI s49) /\
 hcell h15 (Sl.at s28 i8_1 1) = some (VI s43) /\
 eop P (appS 33 33 33 s51.v s59.v) h15 fun r10 h16 => ∃ s60 : Sl, r10 = s60.v /\ Vars h16 [(b3, [s19.v]), (b2, [nilSl.v]), (b1, [y22.v, (VI y23), (Value.int .u64 y24)])] /\
 hcell h16 (Sl.at s28 i8_1 1) = some (VI s49) /\
 hcell h16 (Sl.at s28 i8_1 1) = some (VI s43) /\
 InB s19 s43 /\
 Writable h16 (Sl.at s19 s43 1) /\ Vars (hset h16 (Sl.at s19 s43 1) s60.v) [(b3, [s19.v]), (b2, [nilSl.v]), (b1, [y22.v, (VI y23), (Value.int .u64 y24)])] /\
 ∀ h17 : Heap, h17 = hset h16 (Sl.at s19 s43 1) s60.v -> Vars h17 [(b3, [s19.v]), (b2, [nilSl.v]), (b1, [y22.v, (VI y23), (Value.int .u64 y24)])] ->
 ∃ m : Nat, m < n2 /\ J2 m (w64 (i8_1 + 1)) h17) /\
 ((decide (i8_1 < (w64 (1 + s31)))) = false ->
 ∃ m : Nat, m < n1 /\ J1 m (w64 (k5_1 - 1)) y22 y23 y24 h14)) /\
 ((decide (0 < k5_1)) = false ->
 ∀ (h18 : Heap), Fr (In [b2]) h11 h18 -> Vars h18 [(b3, [s19.v]), (b2, [s19.v]), (b1, [y16.v, (VI y17), (Value.int .u64 y18)])] ->
 K (.agg #[s19.v]) h18))
theorem v81 (b1 : Nat) (c0_1 : Sl) (c0_2 : Int) (c0_3 : Int) (h : Heap) (K : Value -> Heap -> Prop) (hL : Vars h [(b1, [c0_1.v, (VI c0_2), (Value.int .u64 c0_3)])]) (H : u81 Tryz.prog b1 c0_1 c0_2 c0_3 h K) : callM Tryz.prog 81 #[(VP b1 0)] h K := by
  refine c81 (VP b1 0) h K ?_
  unfold u81 at H
  unfold t81
  refine eop_alloc 26 zer26 rfl hL (fun b2 h1 hb1 hf1 hL1 => ?_)
  have H := H b2 h1 hb1 (Fr.no' (Fr.r (In []) _) hf1) hL1
  refine H.mono fun r1 h2 H => ?_
  obtain ⟨y1, y2, y3, s10, rfl, hL2, H⟩ := H
  refine condM_b (fun hb2 => ?_) (fun hb2 => ?_)
  ·have H := H.1 hb2
   refine H.mono fun r2 h3 H => ?_
   obtain ⟨y4, y5, y6, s12, rfl, hL3, H⟩ := H
   refine uop_loc siz26 hL3 0 rfl 0 [s12.v] rfl rfl rfl (Nat.le_of_ble_eq_true rfl) (L' := [(b2, [s12.v]), (b1, [y4.v, (VI y5), (Value.int .u64 y6)])]) rfl (fun h4 hf2 hL4 => ?_)
   refine rop_locA agg26 hL4 0 rfl 0 (vs := [s12.v]) rfl rfl ?_
   have H := H  h4  (Fr.old (Fr.r (In []) _) hf2) hL4
   exact H
  have H := H.2 hb2
  refine H.mono fun r3 h5 H => ?_
  obtain ⟨y7, y8, y9, s14, rfl, hL5, H⟩ := H
  refine pop_add .i64 1 s14 ?_
  refine H.mono fun r4 h6 H => ?_
  obtain ⟨y10, y11, y12, s18, rfl, hL6, H⟩ := H
  refine H.mono fun r5 h7 H => ?_
  obtain ⟨s19, rfl, hL7, H⟩ := H
  refine eop_alloc 26 zer26 rfl hL7 (fun b3 h8 hb3 hf3 hL8 => ?_)
  refine uop_loc siz26 hL8 0 rfl 0 [s19.v] rfl rfl rfl (Nat.le_of_ble_eq_true rfl) (L' := [(b3, [s19.v]), (b2, [nilSl.v]), (b1, [y10.v, (VI y11), (Value.int .u64 y12)])]) rfl (fun h9 hf4 hL9 => ?_)
  have H := H b3 h9 hb3 (Fr.new (Fr.no' (Fr.r (In []) _) hf3) hb3 hf4) hL9
  refine H.mono fun r6 h10 H => ?_
  obtain ⟨y13, y14, y15, s21, rfl, hL10, H⟩ := H
  obtain ⟨J1, ⟨n4, h0_2⟩, HB2⟩ := H
  refine loop_intro (J := fun (n : Nat) (vs : List Value) (h' : Heap) => ∃ k5_1 : Int, ∃ y16 : Sl, ∃ y17 : Int, ∃ y18 : Int, vs = [(VI k5_1)] /\ J1 n k5_1 y16 y17 y18 h' /\ Vars h' [(b3, [s19.v]), (b2, [nilSl.v]), (b1, [y16.v, (VI y17), (Value.int .u64 y18)])]) n4 ⟨s21, y13, y14, y15, rfl, h0_2, hL10⟩ ?_
  intro I2 mu2 hI2 junk1 tv2 h11 hi1
  obtain ⟨n1, ⟨k5_1, y16, y17, y18, hv, hJ1, hL11⟩, hn1⟩ := hI2 _ _ hi1
  cases hv
  have H := HB2 n1 k5_1 y16 y17 y18 h11 hJ1 hL11
  refine pop_gtr .i64 k5_1 0 ?_
  refine condM_b (fun hb4 => ?_) (fun hb4 => ?_)
  rotate_left
  ·have H := H.2 hb4
   refine rop_locA agg26 hL11 0 rfl 0 (vs := [s19.v]) rfl rfl ?_
   refine uop_loc siz26 hL11 1 rfl 0 [s19.v] rfl rfl rfl (Nat.le_of_ble_eq_true rfl) (L' := [(b3, [s19.v]), (b2, [s19.v]), (b1, [y16.v, (VI y17), (Value.int .u64 y18)])]) rfl (fun h18 hf5 hL18 => ?_)
   refine rop_locA agg26 hL18 1 rfl 0 (vs := [s19.v]) rfl rfl ?_
   have H := H  h18  (Fr.old (Fr.r (In []) _) hf5) hL18
   exact H
  have H := H.1 hb4
  refine H.mono fun r7 h12 H => ?_
  obtain ⟨y19, y20, y21, s28, rfl, hL12, H⟩ := H
  refine H.mono fun r8 h13 H => ?_
  obtain ⟨y22, y23, y24, s31, rfl, hL13, H⟩ := H
  refine pop_add .i64 1 s31 ?_
  obtain ⟨J2, ⟨n3, h0_1⟩, HB1⟩ := H
  refine loop_intro (J := fun (n : Nat) (vs : List Value) (h' : Heap) => ∃ i8_1 : Int, vs = [(VI i8_1)] /\ J2 n i8_1 h' /\ Vars h' [(b3, [s19.v]), (b2, [nilSl.v]), (b1, [y22.v, (VI y23), (Value.int .u64 y24)])]) n3 ⟨0, rfl, h0_1, hL13⟩ ?_
  intro I1 mu1 hI1 junk2 tv1 h14 hi2
  obtain ⟨n2, ⟨i8_1, hv, hJ2, hL14⟩, hn2⟩ := hI1 _ _ hi2
  cases hv
  have H := HB1 n2 i8_1 h14 hJ2 hL14
  refine pop_lss .i64 i8_1 (w64 (1 + s31)) ?_
  refine condM_b (fun hb5 => ?_) (fun hb5 => ?_)
  rotate_left
  ·have H := H.2 hb5
   refine pop_sub .i64 k5_1 1 ?_
   obtain ⟨m_2, hm_2, H⟩ := H
   exact hn1 _ _ ⟨m_2, hm_2, (w64 (k5_1 - 1)), y22, y23, y24, rfl, H, hL14⟩
  have H := H.1 hb5
  refine pop_field 0 fld26_0 b3 0 ?_
  refine rop_loc one24 hL14 0 rfl 0 (v := s19.v) rfl ?_
  obtain ⟨hi3, H⟩ := H
  refine pop_index sli33 siz3 .i64 s28 i8_1 hi3 ?_
  obtain ⟨s43, hc9, H⟩ := H
  refine rop_one one3 (VI s43) hc9 ?_
  refine pop_field 0 fld26_0 b3 0 ?_
  refine rop_loc one24 hL14 0 rfl 0 (v := s19.v) rfl ?_
  obtain ⟨hi4, H⟩ := H
  refine pop_index sli33 siz3 .i64 s28 i8_1 hi4 ?_
  obtain ⟨s49, hc8, H⟩ := H
  refine rop_one one3 (VI s49) hc8 ?_
  obtain ⟨hi5, H⟩ := H
  refine pop_index sli24 siz33 .i64 s19 s49 hi5 ?_
  obtain ⟨s51, hc7, H⟩ := H
  refine rop_one one33 s51.v hc7 ?_
  refine pop_add .i64 i8_1 1 ?_
  obtain ⟨hz_1, H⟩ := H
  refine pop_rem .i64 (w64 (i8_1 + 1)) (w64 (1 + s31)) hz_1 ?_
  obtain ⟨hi6, H⟩ := H
  refine pop_index sli33 siz3 .i64 s28 (Int.tmod (w64 (i8_1 + 1)) (w64 (1 + s31))) hi6 ?_
  obtain ⟨s58, hc6, H⟩ := H
  refine rop_one one3 (VI s58) hc6 ?_
  refine H.mono fun r9 h15 H => ?_
  obtain ⟨s59, rfl, hL15, H⟩ := H
  refine ⟨?_, ?_⟩
  ·exact still_one one33 H.1
  obtain ⟨hc1, H⟩ := H
  refine ⟨?_, ?_⟩
  ·exact still_one one3 H.1
  obtain ⟨hc2, H⟩ := H
  refine ⟨?_, ?_⟩
  ·exact still_loc one24 hL15 0 rfl 0 (v := s19.v) rfl
  refine ⟨?_, ?_⟩
  ·exact still_one one3 H.1
  obtain ⟨hc3, H⟩ := H
  refine ⟨?_, ?_⟩
  ·exact still_loc one24 hL15 0 rfl 0 (v := s19.v) rfl
  refine H.mono fun r10 h16 H => ?_
  obtain ⟨s60, rfl, hL16, H⟩ := H
  refine ⟨?_, ?_⟩
  ·exact still_one one3 H.1
  obtain ⟨hc4, H⟩ := H
  refine ⟨?_, ?_⟩
  ·exact still_loc one24 hL16 0 rfl 0 (v := s19.v) rfl
  refine ⟨?_, ?_⟩
  ·exact still_one one3 H.1
  obtain ⟨hc5, H⟩ := H
  refine ⟨?_, ?_⟩
  ·exact still_loc one24 hL16 0 rfl 0 (v := s19.v) rfl
  obtain ⟨hi7, H⟩ := H
  refine pop_index sli24 siz33 .i64 s19 s43 hi7 ?_
  obtain ⟨hw_1, hL17, H⟩ := H
  refine uop_cell (v := s60.v) siz33 hw_1 rfl (fun h17 he_1 => ?_)
  rw [← he_1] at hL17
  have H := H h17 he_1 hL17
  refine pop_add .i64 i8_1 1 ?_
  obtain ⟨m_1, hm_1, H⟩ := H
  exact hn2 _ _ ⟨m_1, hm_1, (w64 (i8_1 + 1)), rfl, H, hL17⟩
def u82 (P : Program) (g0_1 : Sl) (h : Heap) (K : Value -> Heap -> Prop) : Prop :=
 ∀ (b1 : Nat) (h1 : Heap), h.size ≤ b1 -> Fr (In []) h h1 -> Vars h1 [(b1, [g0_1.v])] ->
 callM P 74 #[(VI (g0_1.n : Int)), (VI 1), (VI 8)] h1 fun r1 h2 => ∃ s10 : Bool, r1 = (VB s10) /\ Vars h2 [(b1, [g0_1.v])] /\
 ((!s10) = true ->
 K (VB false) h2) /\
 ((!s10) = false ->
 ∃ J1 : Nat -> Int -> Heap -> Prop, (∃ n0 : Nat, J1 n0 0 h2) /\
 ∀ (n1 : Nat) (s15 : Int) (h3 : Heap), J1 n1 s15 h3 -> Vars h3 [(b1, [g0_1.v])] ->
 ((decide (s15 < (g0_1.n : Int))) = true ->
 InB g0_1 s15 /\
 ∃ s18 : Sl, hcell h3 (Sl.at g0_1 s15 1) = some s18.v /\
 ((decide (5 < (s18.n : Int))) = true ->
 K (VB false) h3) /\
 ((decide (5 < (s18.n : Int))) = false ->
 callM P 79 #[s18.v, (VI 0), (VI (w64 ((g0_1.n : Int) - 1)))] h3 fun r2 h4 => ∃ s26 : Bool, r2 = (VB s26) /\ Vars h4 [(b1, [g0_1.v])] /\
 ((!s26) = true ->
 K (VB false) h4) /\
 ((!s26) = false ->
 ∃ m : Nat, m < n1 /\ J1 m (w64 (s15 + 1)) h4))) /\
 ((decide (s15 < (g0_1.n : Int))) = false ->
 K (VB true) h3))
theorem v82 (g0_1 : Sl) (h : Heap) (K : Value -> Heap -> Prop) (H : u82 Tryz.prog g0_1 h K) : callM Tryz.prog 82 #[(Value.agg #[g0_1.v])] h K := by
  refine c82 (Value.agg #[g0_1.v]) h K ?_
  unfold u82 at H
  unfold t82
  have hL : Vars h [] := .nil
  refine eop_box 26 (Value.agg #[g0_1.v]) rfl hL (fun b1 h1 hb1 hf1 hL1 => ?_)
  refine pop_field 0 fld26_0 b1 0 ?_
  refine rop_loc one24 hL1 0 rfl 0 (v := g0_1.v) rfl ?_
  refine pop_len g0_1 _ _ sli24 ?_
  have H := H b1 h1 hb1 (Fr.no' (Fr.r (In []) _) hf1) hL1
  refine H.mono fun r1 h2 H => ?_
  obtain ⟨s10, rfl, hL2, H⟩ := H
  refine pop_not s10 ?_
  refine condM_b (fun hb2 => ?_) (fun hb2 => ?_)
  ·exact H.1 hb2
  have H := H.2 hb2
  refine pop_field 0 fld26_0 b1 0 ?_
  refine rop_loc one24 hL2 0 rfl 0 (v := g0_1.v) rfl ?_
  refine pop_len g0_1 _ _ sli24 ?_
  obtain ⟨J1, ⟨n2, h0_1⟩, HB1⟩ := H
  refine loop_intro (J := fun (n : Nat) (vs : List Value) (h' : Heap) => ∃ s15 : Int, vs = [(VI s15)] /\ J1 n s15 h' /\ Vars h' [(b1, [g0_1.v])]) n2 ⟨0, rfl, h0_1, hL2⟩ ?_
  intro I1 mu1 hI1 junk1 tv1 h3 hi1
  obtain ⟨n1, ⟨s15, hv, hJ1, hL3⟩, hn1⟩ := hI1 _ _ hi1
  cases hv
  have H := HB1 n1 s15 h3 hJ1 hL3
  refine pop_lss .i64 s15 (g0_1.n : Int) ?_
  refine condM_b (fun hb3 => ?_) (fun hb3 => ?_)
  rotate_left
  ·exact H.2 hb3
  have H := H.1 hb3
  obtain ⟨hi2, H⟩ := H
  refine pop_index sli24 siz33 .i64 g0_1 s15 hi2 ?_
  obtain ⟨s18, hc1, H⟩ := H
  refine rop_one one33 s18.v hc1 ?_
  refine pop_len s18 _ _ sli33 ?_
  refine pop_gtr .i64 (s18.n : Int) 5 ?_
  refine guardM_sf (fun hb4 => ?_) (fun hb4 => ?_)
  rotate_left
  ·have H := H.1 hb4
   refine guardM_n' hb4 (by decide) ?_
   refine guardM_n' hb4 (by decide) ?_
   refine guardM_n' hb4 (by decide) ?_
   refine guardM_n' hb4 (by decide) ?_
   refine pop_pickt' hb4 ?_
   refine condM_t ?_
   exact H
  have H := H.2 hb4
  refine guardM_y' hb4 ?_
  refine guardM_y' hb4 ?_
  refine pop_sub .i64 (g0_1.n : Int) 1 ?_
  refine guardM_y' hb4 ?_
  refine H.mono fun r2 h4 H => ?_
  obtain ⟨s26, rfl, hL4, H⟩ := H
  refine guardM_y' hb4 ?_
  refine pop_not s26 ?_
  refine pop_pickf' hb4 ?_
  refine condM_b (fun hb5 => ?_) (fun hb5 => ?_)
  ·exact H.1 hb5
  have H := H.2 hb5
  refine pop_add .i64 s15 1 ?_
  obtain ⟨m_1, hm_1, H⟩ := H
  exact hn1 _ _ ⟨m_1, hm_1, (w64 (s15 + 1)), rfl, H, hL4⟩
def u83 (P : Program) (b1 : Nat) (c0_1 : Sl) (c0_2 : Int) (c0_3 : Int) (g1_1 : Sl) (h : Heap) (K : Value -> Heap -> Prop) : Prop :=
 ∀ (b2 : Nat) (b3 : Nat) (h2 : Heap), h.size ≤ b2 -> h.size ≤ b3 -> Fr (In []) h h2 -> Vars h2 [(b3, [nilSl.v, (VI 0)]), (b2, [g1_1.v]), (b1, [c0_1.v, (VI c0_2), (Value.int .u64 c0_3)])] ->
 callM P 70 #[(VP b1 0), (VI (g1_1.n : Int))] h2 fun r1 h3 => ∃ y1 : Sl, ∃ y2 : Int, ∃ y3 : Int, ∃ s13 : Int, r1 = (VI s13) /\ Vars h3 [(b3, [nilSl.v, (VI 0)]), (b2, [g1_1.v]), (b1, [y1.v, (VI y2), (Value.int .u64 y3)])] /\
 ∀ (b4 : Nat) (h5 : Heap), h3.size ≤ b4 -> Fr (In []) h3 h5 -> Vars h5 [(b4, [nilSl.v, (VI s13)]), (b3, [nilSl.v, (VI 0)]), (b2, [g1_1.v]), (b1, [y1.v, (VI y2), (Value.int .u64 y3)])] ->
 ∃ J1 : Nat -> Int -> Sl -> Int -> Sl -> Int -> Int -> Heap -> Prop, (∃ n0 : Nat, J1 n0 0 nilSl s13 y1 y2 y3 h5) /\
 ∀ (n1 : Nat) (s18 : Int) (y4 : Sl) (y5 : Int) (y6 : Sl) (y7 : Int) (y8 : Int) (h6 : Heap), J1 n1 s18 y4 y5 y6 y7 y8 h6 -> Vars h6 [(b4, [y4.v, (VI y5)]), (b3, [nilSl.v, (VI 0)]), (b2, [g1_1.v]), (b1, [y6.v, (VI y7), (Value.int .u64 y8)])] ->
 ((decide (s18 < (g1_1.n : Int))) = true ->
 InB g1_1 s18 /\
 ∃ s21 : Sl, hcell h6 (Sl.at g1_1 s18 1) = some s21.v /\
 ∃ J2 : Int -> Sl -> Int -> Int -> Heap -> Prop, (((decide (0 < (s21.n : Int))) = true ->
 callM P 70 #[(VP b1 0), (VI (s21.n : Int))] h6 fun r2 h7 => ∃ y13 : Sl, ∃ y14 : Int, ∃ y15 : Int, ∃ s28 : Int, r2 = (VI s28) /\ Vars h7 [(b4, [y4.v, (VI y5)]), (b3, [nilSl.v, (VI 0)]), (b2, [g1_1.v]), (b1, [y13.v, (VI y14), (Value.int .u64 y15)])] /\
 J2 s28 y13 y14 y15 h7) /\
 ((decide (0 < (s21.n : Int))) = false ->
 J2 0 y6 y7 y8 h6)) /\
 ∀ (y9 : Int) (y10 : Sl) (y11 : Int) (y12 : Int) (h8 : Heap), J2 y9 y10 y11 y12 h8 -> Vars h8 [(b4, [y4.v, (VI y5)]), (b3, [nilSl.v, (VI 0)]), (b2, [g1_1.v]), (b1, [y10.v, (VI y11), (Value.int .u64 y12)])] ->
 eop P (Instr.buildSlice 33 1 #[(0, (VI y9))]) h8 fun r3 h9 => ∃ s32 : Sl, r3 = s32.v /\ Vars h9 [(b4, [y4.v, (VI y5)]), (b3, [nilSl.v, (VI 0)]), (b2, [g1_1.v]), (b1, [y10.v, (VI y11), (Value.int .u64 y12)])] /\
 eop P (appS 33 33 33 y4.v s32.v) h9 fun r4 h10 => ∃ s33 : Sl, r4 = s33.v /\ Vars h10 [(b4, [y4.v, (VI y5)]), (b3, [nilSl.v, (VI 0)]), (b2, [g1_1.v]), (b1, [y10.v, (VI y11), (Value.int .u64 y12)])] /\
 ∀ (h11 : Heap), Fr (In [b4]) h10 h11 -> Vars h11 [(b4, [s33.v, (VI y5)]), (b3, [nilSl.v, (VI 0)]), (b2, [g1_1.v]), (b1, [y10.v, (VI y11), (Value.int .u64 y12)])] ->
 ∃ m : Nat, m < n1 /\ J1 m (w64 (s18 + 1)) s33 y5 y10 y11 y12 h11) /\
 ((decide (s18 < (g1_1.n : Int))) = false ->
 ∀ (h12 : Heap), Fr (In [b3]) h6 h12 -> Vars h12 [(b4, [y4.v, (VI y5)]), (b3, [y4.v, (VI y5)]), (b2, [g1_1.v]), (b1, [y6.v, (VI y7), (Value.int .u64 y8)])] ->
 K (.agg #[y4.v, (VI y5)]) h12)
theorem v83 (b1 : Nat) (c0_1 : Sl) (c0_2 : Int) (c0_3 : Int) (g1_1 : Sl) (h : Heap) (K : Value -> Heap -> Prop) (hL : Vars h [(b1, [c0_1.v, (VI c0_2), (Value.int .u64 c0_3)])]) (H : u83 Tryz.prog b1 c0_1 c0_2 c0_3 g1_1 h K) : callM Tryz.prog 83 #[(VP b1 0), (Value.agg #[g1_1.v])] h K := by
  refine c83 (VP b1 0) (Value.agg #[g1_1.v]) h K ?_
  unfold u83 at H
  unfold t83
  refine eop_box 26 (Value.agg #[g1_1.v]) rfl hL (fun b2 h1 hb1 hf1 hL1 => ?_)
  refine eop_alloc 54 zer54 rfl hL1 (fun b3 h2 hb2 hf2 hL2 => ?_)
  refine pop_field 0 fld26_0 b2 0 ?_
  refine rop_loc one24 hL2 1 rfl 0 (v := g1_1.v) rfl ?_
  refine pop_len g1_1 _ _ sli24 ?_
  have H := H b2 b3 h2 hb1 (Nat.le_trans (Fr.size (Fr.no' (Fr.r (In []) _) hf1)) hb2) (Fr.no' (Fr.no' (Fr.r (In []) _) hf1) hf2) hL2
  refine H.mono fun r1 h3 H => ?_
  obtain ⟨y1, y2, y3, s13, rfl, hL3, H⟩ := H
  refine pop.mk' (v := (Value.agg #[nilSl.v, (VI s13)])) (fun w => by kernel_rfl) ?_
  refine eop_alloc 54 zer54 rfl hL3 (fun b4 h4 hb3 hf3 hL4 => ?_)
  refine uop_loc siz54 hL4 0 rfl 0 [nilSl.v, (VI s13)] rfl rfl rfl (Nat.le_of_ble_eq_true rfl) (L' := [(b4, [nilSl.v, (VI s13)]), (b3, [nilSl.v, (VI 0)]), (b2, [g1_1.v]), (b1, [y1.v, (VI y2), (Value.int .u64 y3)])]) rfl (fun h5 hf4 hL5 => ?_)
  refine pop_field 0 fld26_0 b2 0 ?_
  refine rop_loc one24 hL5 2 rfl 0 (v := g1_1.v) rfl ?_
  refine pop_len g1_1 _ _ sli24 ?_
  have H := H b4 h5 hb3 (Fr.new (Fr.no' (Fr.r (In []) _) hf3) hb3 hf4) hL5
  obtain ⟨J1, ⟨n2, h0_1⟩, HB2⟩ := H
  refine loop_intro (J := fun (n : Nat) (vs : List Value) (h' : Heap) => ∃ s18 : Int, ∃ y4 : Sl, ∃ y5 : Int, ∃ y6 : Sl, ∃ y7 : Int, ∃ y8 : Int, vs = [(VI s18)] /\ J1 n s18 y4 y5 y6 y7 y8 h' /\ Vars h' [(b4, [y4.v, (VI y5)]), (b3, [nilSl.v, (VI 0)]), (b2, [g1_1.v]), (b1, [y6.v, (VI y7), (Value.int .u64 y8)])]) n2 ⟨0, nilSl, s13, y1, y2, y3, rfl, h0_1, hL5⟩ ?_
  intro I1 mu1 hI1 junk1 tv2 h6 hi1
  obtain ⟨n1, ⟨s18, y4, y5, y6, y7, y8, hv, hJ1, hL6⟩, hn1⟩ := hI1 _ _ hi1
  cases hv
  have H := HB2 n1 s18 y4 y5 y6 y7 y8 h6 hJ1 hL6
  refine pop_lss .i64 s18 (g1_1.n : Int) ?_
  refine condM_b (fun hb4 => ?_) (fun hb4 => ?_)
  rotate_left
  ·have H := H.2 hb4
   refine rop_locA agg54 hL6 0 rfl 0 (vs := [y4.v, (VI y5)]) rfl rfl ?_
   refine uop_loc siz54 hL6 1 rfl 0 [y4.v, (VI y5)] rfl rfl rfl (Nat.le_of_ble_eq_true rfl) (L' := [(b4, [y4.v, (VI y5)]), (b3, [y4.v, (VI y5)]), (b2, [g1_1.v]), (b1, [y6.v, (VI y7), (Value.int .u64 y8)])]) rfl (fun h12 hf6 hL12 => ?_)
   refine rop_locA agg54 hL12 1 rfl 0 (vs := [y4.v, (VI y5)]) rfl rfl ?_
   have H := H  h12  (Fr.old (Fr.r (In []) _) hf6) hL12
   exact H
  have H := H.1 hb4
  obtain ⟨hi2, H⟩ := H
  refine pop_index sli24 siz33 .i64 g1_1 s18 hi2 ?_
  obtain ⟨s21, hc1, H⟩ := H
  refine rop_one one33 s21.v hc1 ?_
  obtain ⟨J2, H, HB1⟩ := H
  refine ⟨fun (vs : List Value) (h' : Heap) => ∃ y9 : Int, ∃ y10 : Sl, ∃ y11 : Int, ∃ y12 : Int, vs = [(VI y9)] /\ J2 y9 y10 y11 y12 h' /\ Vars h' [(b4, [y4.v, (VI y5)]), (b3, [nilSl.v, (VI 0)]), (b2, [g1_1.v]), (b1, [y10.v, (VI y11), (Value.int .u64 y12)])], ?_, ?_⟩
  ·refine pop_len s21 _ _ sli33 ?_
   refine pop_gtr .i64 (s21.n : Int) 0 ?_
   refine condM_b (fun hb5 => ?_) (fun hb5 => ?_)
   rotate_left
   ·have H := H.2 hb5
    exact ⟨0, y6, y7, y8, rfl, H, hL6⟩
   have H := H.1 hb5
   refine pop_len s21 _ _ sli33 ?_
   refine H.mono fun r2 h7 H => ?_
   obtain ⟨y13, y14, y15, s28, rfl, hL7, H⟩ := H
   exact ⟨s28, y13, y14, y15, rfl, H, hL7⟩
  intro junk2 tv1 h8
  rintro ⟨y9, y10, y11, y12, hv, hJ2, hL8⟩
  cases hv
  have H := HB1 y9 y10 y11 y12 h8 hJ2 hL8
  refine pop_field 0 fld54_0 b4 0 ?_
  refine rop_loc one33 hL8 0 rfl 0 (v := y4.v) rfl ?_
  refine H.mono fun r3 h9 H => ?_
  obtain ⟨s32, rfl, hL9, H⟩ := H
  refine H.mono fun r4 h10 H => ?_
  obtain ⟨s33, rfl, hL10, H⟩ := H
  refine pop_field 0 fld54_0 b4 0 ?_
  refine uop_loc siz33 hL10 0 rfl 0 [s33.v] rfl rfl rfl (Nat.le_of_ble_eq_true rfl) (L' := [(b4, [s33.v, (VI y5)]), (b3, [nilSl.v, (VI 0)]), (b2, [g1_1.v]), (b1, [y10.v, (VI y11), (Value.int .u64 y12)])]) rfl (fun h11 hf5 hL11 => ?_)
  refine pop_add .i64 s18 1 ?_
  have H := H  h11  (Fr.old (Fr.r (In []) _) hf5) hL11
  obtain ⟨m_1, hm_1, H⟩ := H
  exact hn1 _ _ ⟨m_1, hm_1, (w64 (s18 + 1)), s33, y5, y10, y11, y12, rfl, H, hL11⟩
def u84 (P : Program) (g0_1 : Sl) (w1_1 : Sl) (w1_2 : Int) (h : Heap) (K : Value -> Heap -> Prop) : Prop :=
 ∀ (b1 : Nat) (b2 : Nat) (h2 : Heap), h.size ≤ b1 -> h.size ≤ b2 -> Fr (In []) h h2 -> Vars h2 [(b2, [w1_1.v, (VI w1_2)]), (b1, [g0_1.v])] ->
 eop P (Instr.buildSlice 33 1 #[(0, (VI w1_2))]) h2 fun r1 h3 => ∃ s10 : Sl, r1 = s10.v /\ Vars h3 [(b2, [w1_1.v, (VI w1_2)]), (b1, [g0_1.v])] /\
 callM P 54 #[(.agg #[g0_1.v]), s10.v] h3 fun r2 h4 => ∃ s11 : Bool, r2 = (VB s11) /\ Vars h4 [(b2, [w1_1.v, (VI w1_2)]), (b1, [g0_1.v])] /\
 ((!s11) = true ->
 K (VB false) h4) /\
 ((!s11) = false ->
 ((!decide ((w1_1.n : Int) = (g0_1.n : Int))) = true ->
 K (VB false) h4) /\
 ((!decide ((w1_1.n : Int) = (g0_1.n : Int))) = false ->
 ∃ J1 : Nat -> Int -> Heap -> Prop, (∃ n0 : Nat, J1 n0 0 h4) /\
 ∀ (n1 : Nat) (s25 : Int) (h5 : Heap), J1 n1 s25 h5 -> Vars h5 [(b2, [w1_1.v, (VI w1_2)]), (b1, [g0_1.v])] ->
 ((decide (s25 < (w1_1.n : Int))) = true ->
 InB w1_1 s25 /\
 ∃ s29 : Int, hcell h5 (Sl.at w1_1 s25 1) = some (VI s29) /\
 InB g0_1 s25 /\
 ∃ s35 : Sl, hcell h5 (Sl.at g0_1 s25 1) = some s35.v /\
 pop P (Builtin.max_ #[3, 3] 3 #[(VI (w64 ((s35.n : Int) - 1))), (.int .i64 0)]) fun r3 => ∃ s38 : Int, r3 = (VI s38) /\ 
 callM P 72 #[(VI s29), (VI 0), (VI s38)] h5 fun r4 h6 => ∃ s39 : Bool, r4 = (VB s39) /\ Vars h6 [(b2, [w1_1.v, (VI w1_2)]), (b1, [g0_1.v])] /\
 ((!s39) = true ->
 K (VB false) h6) /\
 ((!s39) = false ->
 ∃ m : Nat, m < n1 /\ J1 m (w64 (s25 + 1)) h6)) /\
 ((decide (s25 < (w1_1.n : Int))) = false ->
 K (VB true) h5)))
theorem v84 (g0_1 : Sl) (w1_1 : Sl) (w1_2 : Int) (h : Heap) (K : Value -> Heap -> Prop) (H : u84 Tryz.prog g0_1 w1_1 w1_2 h K) : callM Tryz.prog 84 #[(Value.agg #[g0_1.v]), (Value.agg #[w1_1.v, (VI w1_2)])] h K := by
  refine c84 (Value.agg #[g0_1.v]) (Value.agg #[w1_1.v, (VI w1_2)]) h K ?_
  unfold u84 at H
  unfold t84
  have hL : Vars h [] := .nil
  refine eop_box 26 (Value.agg #[g0_1.v]) rfl hL (fun b1 h1 hb1 hf1 hL1 => ?_)
  refine eop_box 54 (Value.agg #[w1_1.v, (VI w1_2)]) rfl hL1 (fun b2 h2 hb2 hf2 hL2 => ?_)
  refine rop_locA agg26 hL2 1 rfl 0 (vs := [g0_1.v]) rfl rfl ?_
  refine pop_field 1 fld54_1 b2 0 ?_
  refine rop_loc one3 hL2 0 rfl 1 (v := (VI w1_2)) rfl ?_
  have H := H b1 b2 h2 hb1 (Nat.le_trans (Fr.size (Fr.no' (Fr.r (In []) _) hf1)) hb2) (Fr.no' (Fr.no' (Fr.r (In []) _) hf1) hf2) hL2
  refine H.mono fun r1 h3 H => ?_
  obtain ⟨s10, rfl, hL3, H⟩ := H
  refine H.mono fun r2 h4 H => ?_
  obtain ⟨s11, rfl, hL4, H⟩ := H
  refine pop_not s11 ?_
  refine guardM_sf (fun hb3 => ?_) (fun hb3 => ?_)
  rotate_left
  ·have H := H.1 hb3
   refine guardM_n' hb3 (by decide) ?_
   refine guardM_n' hb3 (by decide) ?_
   refine guardM_n' hb3 (by decide) ?_
   refine guardM_n' hb3 (by decide) ?_
   refine guardM_n' hb3 (by decide) ?_
   refine guardM_n' hb3 (by decide) ?_
   refine pop_pickt' hb3 ?_
   refine condM_t ?_
   exact H
  have H := H.2 hb3
  refine pop_field 0 fld54_0 b2 0 ?_
  refine guardM_y' hb3 ?_
  refine rop_loc one33 hL4 0 rfl 0 (v := w1_1.v) rfl ?_
  refine guardM_y' hb3 ?_
  refine pop_len w1_1 _ _ sli33 ?_
  refine guardM_y' hb3 ?_
  refine pop_field 0 fld26_0 b1 0 ?_
  refine guardM_y' hb3 ?_
  refine rop_loc one24 hL4 1 rfl 0 (v := g0_1.v) rfl ?_
  refine guardM_y' hb3 ?_
  refine pop_len g0_1 _ _ sli24 ?_
  refine guardM_y' hb3 ?_
  refine pop_ine .i64 _ _ (w1_1.n : Int) (g0_1.n : Int) ?_
  refine pop_pickf' hb3 ?_
  refine condM_b (fun hb4 => ?_) (fun hb4 => ?_)
  ·exact H.1 hb4
  have H := H.2 hb4
  refine pop_field 0 fld54_0 b2 0 ?_
  refine rop_loc one33 hL4 0 rfl 0 (v := w1_1.v) rfl ?_
  refine pop_len w1_1 _ _ sli33 ?_
  obtain ⟨J1, ⟨n2, h0_1⟩, HB1⟩ := H
  refine loop_intro (J := fun (n : Nat) (vs : List Value) (h' : Heap) => ∃ s25 : Int, vs = [(VI s25)] /\ J1 n s25 h' /\ Vars h' [(b2, [w1_1.v, (VI w1_2)]), (b1, [g0_1.v])]) n2 ⟨0, rfl, h0_1, hL4⟩ ?_
  intro I1 mu1 hI1 junk1 tv1 h5 hi1
  obtain ⟨n1, ⟨s25, hv, hJ1, hL5⟩, hn1⟩ := hI1 _ _ hi1
  cases hv
  have H := HB1 n1 s25 h5 hJ1 hL5
  refine pop_lss .i64 s25 (w1_1.n : Int) ?_
  refine condM_b (fun hb5 => ?_) (fun hb5 => ?_)
  rotate_left
  ·exact H.2 hb5
  have H := H.1 hb5
  obtain ⟨hi2, H⟩ := H
  refine pop_index sli33 siz3 .i64 w1_1 s25 hi2 ?_
  obtain ⟨s29, hc2, H⟩ := H
  refine rop_one one3 (VI s29) hc2 ?_
  refine pop_field 0 fld26_0 b1 0 ?_
  refine rop_loc one24 hL5 1 rfl 0 (v := g0_1.v) rfl ?_
  obtain ⟨hi3, H⟩ := H
  refine pop_index sli24 siz33 .i64 g0_1 s25 hi3 ?_
  obtain ⟨s35, hc1, H⟩ := H
  refine rop_one one33 s35.v hc1 ?_
  refine pop_len s35 _ _ sli33 ?_
  refine pop_sub .i64 (s35.n : Int) 1 ?_
  refine H.mono fun r3 H => ?_
  obtain ⟨s38, rfl, H⟩ := H
  refine H.mono fun r4 h6 H => ?_
  obtain ⟨s39, rfl, hL6, H⟩ := H
  refine pop_not s39 ?_
  refine condM_b (fun hb6 => ?_) (fun hb6 => ?_)
  ·exact H.1 hb6
  have H := H.2 hb6
  refine pop_add .i64 s25 1 ?_
  obtain ⟨m_1, hm_1, H⟩ := H
  exact hn1 _ _ ⟨m_1, hm_1, (w64 (s25 + 1)), rfl, H, hL6⟩
def u85 (P : Program) (g0_1 : Sl) (w1_1 : Sl) (w1_2 : Int) (h : Heap) (K : Value -> Heap -> Prop) : Prop :=
 ∀ (b1 : Nat) (b2 : Nat) (h2 : Heap), h.size ≤ b1 -> h.size ≤ b2 -> Fr (In []) h h2 -> Vars h2 [(b2, [w1_1.v, (VI w1_2)]), (b1, [g0_1.v])] ->
 eop P (Instr.makeMap 147 none) h2 fun r1 h3 => ∃ s13 : Value, r1 = s13 /\ Vars h3 [(b2, [w1_1.v, (VI w1_2)]), (b1, [g0_1.v])] /\
 callM P 91 #[(.agg #[w1_1.v, (VI w1_2)])] h3 fun r2 h4 => ∃ s15 : Sl, ∃ s15b : Int, r2 = (.agg #[s15.v, (VI s15b)]) /\ Vars h4 [(b2, [w1_1.v, (VI w1_2)]), (b1, [g0_1.v])] /\
 ∀ (b3 : Nat) (h6 : Heap), h4.size ≤ b3 -> Fr (In []) h4 h6 -> Vars h6 [(b3, [s15.v, (VI s15b)]), (b2, [w1_1.v, (VI w1_2)]), (b1, [g0_1.v])] ->
 ∃ J1 : Sl -> Int -> Heap -> Prop, (∃ J2 : Nat -> Int -> Sl -> Int -> Heap -> Prop, (∃ n0 : Nat, J2 n0 0 s15 s15b h6) /\
 ∀ (n1 : Nat) (n9_1 : Int) (y3 : Sl) (y4 : Int) (h7 : Heap), J2 n1 n9_1 y3 y4 h7 -> Vars h7 [(b3, [y3.v, (VI y4)]), (b2, [w1_1.v, (VI w1_2)]), (b1, [g0_1.v])] ->
 ((decide (n9_1 ≤ 2000)) = true ->
 callM P 131 #[(.agg #[y3.v, (VI y4)])] h7 fun r3 h8 => ∃ s21 : ByteArray, r3 = (VS s21) /\ Vars h8 [(b3, [y3.v, (VI y4)]), (b2, [w1_1.v, (VI w1_2)]), (b1, [g0_1.v])] /\
 rop P (Instr.lookup 147 s13 (VS s21) true) h8 fun r4 => ∃ s25 : Int, ∃ s25b : Bool, r4 = (.tuple #[(VI s25), (VB s25b)]) /\ 
 (s25b = true ->
 K (.tuple #[(VI s25), (VI (w64 (n9_1 - s25))), (VB true)]) h8) /\
 (s25b = false ->
 uop P (Instr.mapUpdate 147 s13 (VS s21) (VI n9_1)) h8 fun r5 h9 => Vars h9 [(b3, [y3.v, (VI y4)]), (b2, [w1_1.v, (VI w1_2)]), (b1, [g0_1.v])] /\
 callM P 100 #[(.agg #[g0_1.v]), (VP b3 0)] h9 fun r6 h10 => ∃ y5 : Sl, ∃ y6 : Int, ∃ s37 : Bool, r6 = (VB s37) /\ Vars h10 [(b3, [y5.v, (VI y6)]), (b2, [w1_1.v, (VI w1_2)]), (b1, [g0_1.v])] /\
 ((!s37) = true ->
 J1 y5 y6 h10) /\
 ((!s37) = false ->
 ∃ m : Nat, m < n1 /\ J2 m (w64 (n9_1 + 1)) y5 y6 h10))) /\
 ((decide (n9_1 ≤ 2000)) = false ->
 J1 y3 y4 h7)) /\
 ∀ (y1 : Sl) (y2 : Int) (h11 : Heap), J1 y1 y2 h11 -> Vars h11 [(b3, [y1.v, (VI y2)]), (b2, [w1_1.v, (VI w1_2)]), (b1, [g0_1.v])] ->
 K (.tuple #[(VI 0), (VI 0), (VB false)]) h11
theorem v85 (g0_1 : Sl) (w1_1 : Sl) (w1_2 : Int) (h : Heap) (K : Value -> Heap -> Prop) (H : u85 Tryz.prog g0_1 w1_1 w1_2 h K) : callM Tryz.prog 85 #[(Value.agg #[g0_1.v]), (Value.agg #[w1_1.v, (VI w1_2)])] h K := by
  refine c85 (Value.agg #[g0_1.v]) (Value.agg #[w1_1.v, (VI w1_2)]) h K ?_
  unfold u85 at H
  unfold t85
  have hL : Vars h [] := .nil
  refine eop_box 26 (Value.agg #[g0_1.v]) rfl hL (fun b1 h1 hb1 hf1 hL1 => ?_)
  refine eop_box 54 (Value.agg #[w1_1.v, (VI w1_2)]) rfl hL1 (fun b2 h2 hb2 hf2 hL2 => ?_)
  have H := H b1 b2 h2 hb1 (Nat.le_trans (Fr.size (Fr.no' (Fr.r (In []) _) hf1)) hb2) (Fr.no' (Fr.no' (Fr.r (In []) _) hf1) hf2) hL2
  refine H.mono fun r1 h3 H => ?_
  obtain ⟨s13, rfl, hL3, H⟩ := H
  refine rop_locA agg54 hL3 0 rfl 0 (vs := [w1_1.v, (VI w1_2)]) rfl rfl ?_
  refine H.mono fun r2 h4 H => ?_
  obtain ⟨s15, s15b, rfl, hL4, H⟩ := H
  refine eop_alloc 54 zer54 rfl hL4 (fun b3 h5 hb3 hf3 hL5 => ?_)
  refine uop_loc siz54 hL5 0 rfl 0 [s15.v, (VI s15b)] rfl rfl rfl (Nat.le_of_ble_eq_true rfl) (L' := [(b3, [s15.v, (VI s15b)]), (b2, [w1_1.v, (VI w1_2)]), (b1, [g0_1.v])]) rfl (fun h6 hf4 hL6 => ?_)
  have H := H b3 h6 hb3 (Fr.new (Fr.no' (Fr.r (In []) _) hf3) hb3 hf4) hL6
  obtain ⟨J1, H, HB2⟩ := H
  refine ⟨fun (vs : List Value) (h' : Heap) => ∃ y1 : Sl, ∃ y2 : Int, vs = [] /\ J1 y1 y2 h' /\ Vars h' [(b3, [y1.v, (VI y2)]), (b2, [w1_1.v, (VI w1_2)]), (b1, [g0_1.v])], ?_, ?_⟩
  ·obtain ⟨J2, ⟨n2, h0_1⟩, HB1⟩ := H
   refine loop_intro (J := fun (n : Nat) (vs : List Value) (h' : Heap) => ∃ n9_1 : Int, ∃ y3 : Sl, ∃ y4 : Int, vs = [(VI n9_1)] /\ J2 n n9_1 y3 y4 h' /\ Vars h' [(b3, [y3.v, (VI y4)]), (b2, [w1_1.v, (VI w1_2)]), (b1, [g0_1.v])]) n2 ⟨0, s15, s15b, rfl, h0_1, hL6⟩ ?_
   intro I1 mu1 hI1 junk1 tv1 h7 hi1
   obtain ⟨n1, ⟨n9_1, y3, y4, hv, hJ1, hL7⟩, hn1⟩ := hI1 _ _ hi1
   cases hv
   have H := HB1 n1 n9_1 y3 y4 h7 hJ1 hL7
   refine pop_leq .i64 n9_1 2000 ?_
   refine condM_b (fun hb4 => ?_) (fun hb4 => ?_)
   rotate_left
   ·have H := H.2 hb4
    exact ⟨y3, y4, rfl, H, hL7⟩
   have H := H.1 hb4
   refine rop_locA agg54 hL7 0 rfl 0 (vs := [y3.v, (VI y4)]) rfl rfl ?_
   refine H.mono fun r3 h8 H => ?_
   obtain ⟨s21, rfl, hL8, H⟩ := H
   refine H.mono fun r4 H => ?_
   obtain ⟨s25, s25b, rfl, H⟩ := H
   refine pop_ext (v := (VI s25)) rfl ?_
   refine pop_ext (v := (VB s25b)) rfl ?_
   refine condM_b (fun hb5 => ?_) (fun hb5 => ?_)
   ·have H := H.1 hb5
    refine pop_sub .i64 n9_1 s25 ?_
    exact H
   have H := H.2 hb5
   refine H.mono fun r5 h9 H => ?_
   obtain ⟨hL9, H⟩ := H
   refine rop_locA agg26 hL9 2 rfl 0 (vs := [g0_1.v]) rfl rfl ?_
   refine H.mono fun r6 h10 H => ?_
   obtain ⟨y5, y6, s37, rfl, hL10, H⟩ := H
   refine pop_not s37 ?_
   refine condM_b (fun hb6 => ?_) (fun hb6 => ?_)
   ·have H := H.1 hb6
    exact ⟨y5, y6, rfl, H, hL10⟩
   have H := H.2 hb6
   refine pop_add .i64 n9_1 1 ?_
   obtain ⟨m_1, hm_1, H⟩ := H
   exact hn1 _ _ ⟨m_1, hm_1, (w64 (n9_1 + 1)), y5, y6, rfl, H, hL10⟩
  intro junk2  h11
  rintro ⟨y1, y2, hv, hJ2, hL11⟩
  have H := HB2 y1 y2 h11 hJ2 hL11
  exact H
def u86 (P : Program) (g0_1 : Sl) (w1_1 : Sl) (w1_2 : Int) (h : Heap) (K : Value -> Heap -> Prop) : Prop :=
 ∀ (b1 : Nat) (b2 : Nat) (b3 : Nat) (h3 : Heap), h.size ≤ b1 -> h.size ≤ b2 -> h.size ≤ b3 -> Fr (In []) h h3 -> Vars h3 [(b3, [nilSl.v, (VI 0)]), (b2, [w1_1.v, (VI w1_2)]), (b1, [g0_1.v])] ->
 ∃ J1 : Nat -> Sl -> Int -> Nat -> Sl -> Int -> Heap -> Prop, ((∀ (b6 : Nat) (h4 : Heap), h3.size ≤ b6 -> Fr (In []) h3 h4 -> Vars h4 [(b6, [nilSl.v, (VI 0)]), (b3, [nilSl.v, (VI 0)]), (b2, [w1_1.v, (VI w1_2)]), (b1, [g0_1.v])] ->
 ∀ (b7 : Nat) (h5 : Heap), h4.size ≤ b7 -> Fr (In []) h4 h5 -> Vars h5 [(b7, [nilSl.v, (VI 0)]), (b6, [nilSl.v, (VI 0)]), (b3, [nilSl.v, (VI 0)]), (b2, [w1_1.v, (VI w1_2)]), (b1, [g0_1.v])] ->
 ∀ (h6 : Heap), Fr (In [b6]) h5 h6 -> Vars h6 [(b7, [nilSl.v, (VI 0)]), (b6, [w1_1.v, (VI w1_2)]), (b3, [nilSl.v, (VI 0)]), (b2, [w1_1.v, (VI w1_2)]), (b1, [g0_1.v])] ->
 ∀ (h7 : Heap), Fr (In [b7]) h6 h7 -> Vars h7 [(b7, [w1_1.v, (VI w1_2)]), (b6, [w1_1.v, (VI w1_2)]), (b3, [nilSl.v, (VI 0)]), (b2, [w1_1.v, (VI w1_2)]), (b1, [g0_1.v])] ->
 J1 b6 w1_1 w1_2 b7 w1_1 w1_2 h7) /\
 (∀ (b8 : Nat) (h8 : Heap), h3.size ≤ b8 -> Fr (In []) h3 h8 -> Vars h8 [(b8, [nilSl.v, (VI 0)]), (b3, [nilSl.v, (VI 0)]), (b2, [w1_1.v, (VI w1_2)]), (b1, [g0_1.v])] ->
 ∀ (b9 : Nat) (h9 : Heap), h8.size ≤ b9 -> Fr (In []) h8 h9 -> Vars h9 [(b9, [nilSl.v, (VI 0)]), (b8, [nilSl.v, (VI 0)]), (b3, [nilSl.v, (VI 0)]), (b2, [w1_1.v, (VI w1_2)]), (b1, [g0_1.v])] ->
 ∀ (h10 : Heap), Fr (In [b9]) h9 h10 -> Vars h10 [(b9, [w1_1.v, (VI w1_2)]), (b8, [nilSl.v, (VI 0)]), (b3, [nilSl.v, (VI 0)]), (b2, [w1_1.v, (VI w1_2)]), (b1, [g0_1.v])] ->
 ∀ (h11 : Heap), Fr (In [b8]) h10 h11 -> Vars h11 [(b9, [w1_1.v, (VI w1_2)]), (b8, [w1_1.v, (VI w1_2)]), (b3, [nilSl.v, (VI 0)]), (b2, [w1_1.v, (VI w1_2)]), (b1, [g0_1.v])] ->
 J1 b9 w1_1 w1_2 b8 w1_1 w1_2 h11)) /\
 ∀ (b4 : Nat) (y1 : Sl) (y2 : Int) (b5 : Nat) (y3 : Sl) (y4 : Int) (h12 : Heap), J1 b4 y1 y2 b5 y3 y4 h12 -> Vars h12 [(b5, [y3.v, (VI y4)]), (b4, [y1.v, (VI y2)]), (b3, [nilSl.v, (VI 0)]), (b2, [w1_1.v, (VI w1_2)]), (b1, [g0_1.v])] ->
 ∃ J2 : Nat -> Bool -> Int -> Sl -> Int -> Sl -> Int -> Heap -> Prop, (∃ n0 : Nat, J2 n0 false 1 y3 y4 y1 y2 h12) /\
 ∀ (n1 : Nat) (met9_1 : Bool) (n10_1 : Int) (y5 : Sl) (y6 : Int) (y7 : Sl) (y8 : Int) (h13 : Heap), J2 n1 met9_1 n10_1 y5 y6 y7 y8 h13 -> Vars h13 [(b5, [y5.v, (VI y6)]), (b4, [y7.v, (VI y8)]), (b3, [nilSl.v, (VI 0)]), (b2, [w1_1.v, (VI w1_2)]), (b1, [g0_1.v])] ->
 ((decide ((w64 (2 * n10_1)) ≤ 4000)) = true ->
 ((!met9_1) = true ->
 callM P 105 #[(.agg #[g0_1.v]), (.agg #[y7.v, (VI y8)])] h13 fun r1 h14 => ∃ s36 : Sl, ∃ s36b : Int, ∃ s36c : Bool, r1 = (.tuple #[(.agg #[s36.v, (VI s36b)]), (VB s36c)]) /\ Vars h14 [(b5, [y5.v, (VI y6)]), (b4, [y7.v, (VI y8)]), (b3, [nilSl.v, (VI 0)]), (b2, [w1_1.v, (VI w1_2)]), (b1, [g0_1.v])] /\
 ∀ (b10 : Nat) (h16 : Heap), h14.size ≤ b10 -> Fr (In []) h14 h16 -> Vars h16 [(b10, [s36.v, (VI s36b)]), (b5, [y5.v, (VI y6)]), (b4, [y7.v, (VI y8)]), (b3, [nilSl.v, (VI 0)]), (b2, [w1_1.v, (VI w1_2)]), (b1, [g0_1.v])] ->
 callM P 105 #[(.agg #[g0_1.v]), (.agg #[y5.v, (VI y6)])] h16 fun r2 h17 => ∃ s42 : Sl, ∃ s42b : Int, ∃ s42c : Bool, r2 = (.tuple #[(.agg #[s42.v, (VI s42b)]), (VB s42c)]) /\ Vars h17 [(b10, [s36.v, (VI s36b)]), (b5, [y5.v, (VI y6)]), (b4, [y7.v, (VI y8)]), (b3, [nilSl.v, (VI 0)]), (b2, [w1_1.v, (VI w1_2)]), (b1, [g0_1.v])] /\
 ((!s36c) = true ->
 ∀ (b11 : Nat) (h28 : Heap), h17.size ≤ b11 -> Fr (In [b3]) h17 h28 -> Vars h28 [(b11, [s42.v, (VI s42b)]), (b10, [s36.v, (VI s36b)]), (b5, [y5.v, (VI y6)]), (b4, [y7.v, (VI y8)]), (b3, [w1_1.v, (VI w1_2)]), (b2, [w1_1.v, (VI w1_2)]), (b1, [g0_1.v])] ->
 K (.tuple #[(VI 0), (.agg #[w1_1.v, (VI w1_2)]), (VI 0)]) h28) /\
 ((!s36c) = false ->
 ((!s42c) = true ->
 ∀ (b11 : Nat) (h20 : Heap), h17.size ≤ b11 -> Fr (In [b3]) h17 h20 -> Vars h20 [(b11, [s42.v, (VI s42b)]), (b10, [s36.v, (VI s36b)]), (b5, [y5.v, (VI y6)]), (b4, [y7.v, (VI y8)]), (b3, [w1_1.v, (VI w1_2)]), (b2, [w1_1.v, (VI w1_2)]), (b1, [g0_1.v])] ->
 K (.tuple #[(VI 0), (.agg #[w1_1.v, (VI w1_2)]), (VI 0)]) h20) /\
 ((!s42c) = false ->
 ∀ (b11 : Nat) (h19 : Heap), h17.size ≤ b11 -> Fr (In []) h17 h19 -> Vars h19 [(b11, [s42.v, (VI s42b)]), (b10, [s36.v, (VI s36b)]), (b5, [y5.v, (VI y6)]), (b4, [y7.v, (VI y8)]), (b3, [nilSl.v, (VI 0)]), (b2, [w1_1.v, (VI w1_2)]), (b1, [g0_1.v])] ->
 callM P 105 #[(.agg #[g0_1.v]), (.agg #[s42.v, (VI s42b)])] h19 fun r3 h21 => ∃ s55 : Sl, ∃ s55b : Int, ∃ s55c : Bool, r3 = (.tuple #[(.agg #[s55.v, (VI s55b)]), (VB s55c)]) /\ Vars h21 [(b11, [s42.v, (VI s42b)]), (b10, [s36.v, (VI s36b)]), (b5, [y5.v, (VI y6)]), (b4, [y7.v, (VI y8)]), (b3, [nilSl.v, (VI 0)]), (b2, [w1_1.v, (VI w1_2)]), (b1, [g0_1.v])] /\
 ((!s55c) = true ->
 ∀ (b12 : Nat) (h24 : Heap), h21.size ≤ b12 -> Fr (In [b3]) h21 h24 -> Vars h24 [(b12, [s55.v, (VI s55b)]), (b11, [s42.v, (VI s42b)]), (b10, [s36.v, (VI s36b)]), (b5, [y5.v, (VI y6)]), (b4, [y7.v, (VI y8)]), (b3, [w1_1.v, (VI w1_2)]), (b2, [w1_1.v, (VI w1_2)]), (b1, [g0_1.v])] ->
 K (.tuple #[(VI 0), (.agg #[w1_1.v, (VI w1_2)]), (VI 0)]) h24) /\
 ((!s55c) = false ->
 ∀ (b12 : Nat) (h26 : Heap), h21.size ≤ b12 -> Fr (In [b5, b4]) h21 h26 -> Vars h26 [(b12, [s55.v, (VI s55b)]), (b11, [s42.v, (VI s42b)]), (b10, [s36.v, (VI s36b)]), (b5, [s55.v, (VI s55b)]), (b4, [s36.v, (VI s36b)]), (b3, [nilSl.v, (VI 0)]), (b2, [w1_1.v, (VI w1_2)]), (b1, [g0_1.v])] ->
 callM P 132 #[(.agg #[s36.v, (VI s36b)]), (.agg #[s55.v, (VI s55b)])] h26 fun r4 h27 => ∃ s65 : Bool, r4 = (VB s65) /\ Vars h27 [(b12, [s55.v, (VI s55b)]), (b11, [s42.v, (VI s42b)]), (b10, [s36.v, (VI s36b)]), (b5, [s55.v, (VI s55b)]), (b4, [s36.v, (VI s36b)]), (b3, [nilSl.v, (VI 0)]), (b2, [w1_1.v, (VI w1_2)]), (b1, [g0_1.v])] /\
 ∃ m : Nat, m < n1 /\ J2 m s65 (w64 (n10_1 + 1)) s55 s55b s36 s36b h27)))) /\
 ((!met9_1) = false ->
 callM P 89 #[(.agg #[g0_1.v]), (.agg #[y7.v, (VI y8)]), (VI 2000)] h13 fun r5 h29 => ∃ s71 : Int, r5 = (VI s71) /\ Vars h29 [(b5, [y5.v, (VI y6)]), (b4, [y7.v, (VI y8)]), (b3, [nilSl.v, (VI 0)]), (b2, [w1_1.v, (VI w1_2)]), (b1, [g0_1.v])] /\
 ((decide (s71 = 0)) = true ->
 ∀ (h30 : Heap), Fr (In [b3]) h29 h30 -> Vars h30 [(b5, [y5.v, (VI y6)]), (b4, [y7.v, (VI y8)]), (b3, [w1_1.v, (VI w1_2)]), (b2, [w1_1.v, (VI w1_2)]), (b1, [g0_1.v])] ->
 K (.tuple #[(VI 0), (.agg #[w1_1.v, (VI w1_2)]), (VI 0)]) h30) /\
 ((decide (s71 = 0)) = false ->
 ∃ J3 : Nat -> Sl -> Int -> Nat -> Sl -> Int -> Heap -> Prop, ((∀ (b15 : Nat) (h31 : Heap), h29.size ≤ b15 -> Fr (In []) h29 h31 -> Vars h31 [(b15, [nilSl.v, (VI 0)]), (b5, [y5.v, (VI y6)]), (b4, [y7.v, (VI y8)]), (b3, [nilSl.v, (VI 0)]), (b2, [w1_1.v, (VI w1_2)]), (b1, [g0_1.v])] ->
 ∀ (b16 : Nat) (h32 : Heap), h31.size ≤ b16 -> Fr (In []) h31 h32 -> Vars h32 [(b16, [nilSl.v, (VI 0)]), (b15, [nilSl.v, (VI 0)]), (b5, [y5.v, (VI y6)]), (b4, [y7.v, (VI y8)]), (b3, [nilSl.v, (VI 0)]), (b2, [w1_1.v, (VI w1_2)]), (b1, [g0_1.v])] ->
 ∀ (h33 : Heap), Fr (In [b15]) h32 h33 -> Vars h33 [(b16, [nilSl.v, (VI 0)]), (b15, [w1_1.v, (VI w1_2)]), (b5, [y5.v, (VI y6)]), (b4, [y7.v, (VI y8)]), (b3, [nilSl.v, (VI 0)]), (b2, [w1_1.v, (VI w1_2)]), (b1, [g0_1.v])] ->
 ∀ (h34 : Heap), Fr (In [b16]) h33 h34 -> Vars h34 [(b16, [w1_1.v, (VI w1_2)]), (b15, [w1_1.v, (VI w1_2)]), (b5, [y5.v, (VI y6)]), (b4, [y7.v, (VI y8)]), (b3, [nilSl.v, (VI 0)]), (b2, [w1_1.v, (VI w1_2)]), (b1, [g0_1.v])] ->
 J3 b15 w1_1 w1_2 b16 w1_1 w1_2 h34) /\
 (∀ (b17 : Nat) (h35 : Heap), h29.size ≤ b17 -> Fr (In []) h29 h35 -> Vars h35 [(b17, [nilSl.v, (VI 0)]), (b5, [y5.v, (VI y6)]), (b4, [y7.v, (VI y8)]), (b3, [nilSl.v, (VI 0)]), (b2, [w1_1.v, (VI w1_2)]), (b1, [g0_1.v])] ->
 ∀ (b18 : Nat) (h36 : Heap), h35.size ≤ b18 -> Fr (In []) h35 h36 -> Vars h36 [(b18, [nilSl.v, (VI 0)]), (b17, [nilSl.v, (VI 0)]), (b5, [y5.v, (VI y6)]), (b4, [y7.v, (VI y8)]), (b3, [nilSl.v, (VI 0)]), (b2, [w1_1.v, (VI w1_2)]), (b1, [g0_1.v])] ->
 ∀ (h37 : Heap), Fr (In [b18]) h36 h37 -> Vars h37 [(b18, [w1_1.v, (VI w1_2)]), (b17, [nilSl.v, (VI 0)]), (b5, [y5.v, (VI y6)]), (b4, [y7.v, (VI y8)]), (b3, [nilSl.v, (VI 0)]), (b2, [w1_1.v, (VI w1_2)]), (b1, [g0_1.v])] ->
 ∀ (h38 : Heap), Fr (In [b17]) h37 h38 -> Vars h38 [(b18, [w1_1.v, (VI w1_2)]), (b17, [w1_1.v, (VI w1_2)]), (b5, [y5.v, (VI y6)]), (b4, [y7.v, (VI y8)]), (b3, [nilSl.v, (VI 0)]), (b2, [w1_1.v, (VI w1_2)]), (b1, [g0_1.v])] ->
 J3 b18 w1_1 w1_2 b17 w1_1 w1_2 h38)) /\
 ∀ (b13 : Nat) (y9 : Sl) (y10 : Int) (b14 : Nat) (y11 : Sl) (y12 : Int) (h39 : Heap), J3 b13 y9 y10 b14 y11 y12 h39 -> Vars h39 [(b14, [y11.v, (VI y12)]), (b13, [y9.v, (VI y10)]), (b5, [y5.v, (VI y6)]), (b4, [y7.v, (VI y8)]), (b3, [nilSl.v, (VI 0)]), (b2, [w1_1.v, (VI w1_2)]), (b1, [g0_1.v])] ->
 ∃ J4 : Nat -> Int -> Sl -> Int -> Heap -> Prop, (∃ n0 : Nat, J4 n0 0 y11 y12 h39) /\
 ∀ (n2 : Nat) (n20_1 : Int) (y13 : Sl) (y14 : Int) (h40 : Heap), J4 n2 n20_1 y13 y14 h40 -> Vars h40 [(b14, [y13.v, (VI y14)]), (b13, [y9.v, (VI y10)]), (b5, [y5.v, (VI y6)]), (b4, [y7.v, (VI y8)]), (b3, [nilSl.v, (VI 0)]), (b2, [w1_1.v, (VI w1_2)]), (b1, [g0_1.v])] ->
 ((decide (n20_1 < s71)) = true ->
 callM P 105 #[(.agg #[g0_1.v]), (.agg #[y13.v, (VI y14)])] h40 fun r6 h41 => ∃ s85 : Sl, ∃ s85b : Int, ∃ s85c : Bool, r6 = (.tuple #[(.agg #[s85.v, (VI s85b)]), (VB s85c)]) /\ Vars h41 [(b14, [y13.v, (VI y14)]), (b13, [y9.v, (VI y10)]), (b5, [y5.v, (VI y6)]), (b4, [y7.v, (VI y8)]), (b3, [nilSl.v, (VI 0)]), (b2, [w1_1.v, (VI w1_2)]), (b1, [g0_1.v])] /\
 ∀ (h42 : Heap), Fr (In [b14]) h41 h42 -> Vars h42 [(b14, [s85.v, (VI s85b)]), (b13, [y9.v, (VI y10)]), (b5, [y5.v, (VI y6)]), (b4, [y7.v, (VI y8)]), (b3, [nilSl.v, (VI 0)]), (b2, [w1_1.v, (VI w1_2)]), (b1, [g0_1.v])] ->
 ∃ m : Nat, m < n2 /\ J4 m (w64 (n20_1 + 1)) s85 s85b h42) /\
 ((decide (n20_1 < s71)) = false ->
 ∃ J5 : Nat -> Int -> Sl -> Int -> Sl -> Int -> Heap -> Prop, (∃ n0 : Nat, J5 n0 0 y13 y14 y9 y10 h40) /\
 ∀ (n3 : Nat) (start21_1 : Int) (y15 : Sl) (y16 : Int) (y17 : Sl) (y18 : Int) (h43 : Heap), J5 n3 start21_1 y15 y16 y17 y18 h43 -> Vars h43 [(b14, [y15.v, (VI y16)]), (b13, [y17.v, (VI y18)]), (b5, [y5.v, (VI y6)]), (b4, [y7.v, (VI y8)]), (b3, [nilSl.v, (VI 0)]), (b2, [w1_1.v, (VI w1_2)]), (b1, [g0_1.v])] ->
 callM P 132 #[(.agg #[y17.v, (VI y18)]), (.agg #[y15.v, (VI y16)])] h43 fun r7 h44 => ∃ s90 : Bool, r7 = (VB s90) /\ Vars h44 [(b14, [y15.v, (VI y16)]), (b13, [y17.v, (VI y18)]), (b5, [y5.v, (VI y6)]), (b4, [y7.v, (VI y8)]), (b3, [nilSl.v, (VI 0)]), (b2, [w1_1.v, (VI w1_2)]), (b1, [g0_1.v])] /\
 ((!s90) = true ->
 ((decide (start21_1 ≤ 2000)) = true ->
 callM P 105 #[(.agg #[g0_1.v]), (.agg #[y17.v, (VI y18)])] h44 fun r8 h45 => ∃ s99 : Sl, ∃ s99b : Int, ∃ s99c : Bool, r8 = (.tuple #[(.agg #[s99.v, (VI s99b)]), (VB s99c)]) /\ Vars h45 [(b14, [y15.v, (VI y16)]), (b13, [y17.v, (VI y18)]), (b5, [y5.v, (VI y6)]), (b4, [y7.v, (VI y8)]), (b3, [nilSl.v, (VI 0)]), (b2, [w1_1.v, (VI w1_2)]), (b1, [g0_1.v])] /\
 ∀ (h46 : Heap), Fr (In [b13]) h45 h46 -> Vars h46 [(b14, [y15.v, (VI y16)]), (b13, [s99.v, (VI s99b)]), (b5, [y5.v, (VI y6)]), (b4, [y7.v, (VI y8)]), (b3, [nilSl.v, (VI 0)]), (b2, [w1_1.v, (VI w1_2)]), (b1, [g0_1.v])] ->
 callM P 105 #[(.agg #[g0_1.v]), (.agg #[y15.v, (VI y16)])] h46 fun r9 h47 => ∃ s105 : Sl, ∃ s105b : Int, ∃ s105c : Bool, r9 = (.tuple #[(.agg #[s105.v, (VI s105b)]), (VB s105c)]) /\ Vars h47 [(b14, [y15.v, (VI y16)]), (b13, [s99.v, (VI s99b)]), (b5, [y5.v, (VI y6)]), (b4, [y7.v, (VI y8)]), (b3, [nilSl.v, (VI 0)]), (b2, [w1_1.v, (VI w1_2)]), (b1, [g0_1.v])] /\
 ∀ (h48 : Heap), Fr (In [b14]) h47 h48 -> Vars h48 [(b14, [s105.v, (VI s105b)]), (b13, [s99.v, (VI s99b)]), (b5, [y5.v, (VI y6)]), (b4, [y7.v, (VI y8)]), (b3, [nilSl.v, (VI 0)]), (b2, [w1_1.v, (VI w1_2)]), (b1, [g0_1.v])] ->
 ∃ m : Nat, m < n3 /\ J5 m (w64 (start21_1 + 1)) s105 s105b s99 s99b h48) /\
 ((decide (start21_1 ≤ 2000)) = false ->
 ((decide (2000 < (w64 (start21_1 + s71)))) = true ->
 ∀ (h49 : Heap), Fr (In [b3]) h44 h49 -> Vars h49 [(b14, [y15.v, (VI y16)]), (b13, [y17.v, (VI y18)]), (b5, [y5.v, (VI y6)]), (b4, [y7.v, (VI y8)]), (b3, [w1_1.v, (VI w1_2)]), (b2, [w1_1.v, (VI w1_2)]), (b1, [g0_1.v])] ->
 K (.tuple #[(VI 0), (.agg #[w1_1.v, (VI w1_2)]), (VI 0)]) h49) /\
 ((decide (2000 < (w64 (start21_1 + s71)))) = false ->
 ∀ (h50 : Heap), Fr (In [b3]) h44 h50 -> Vars h50 [(b14, [y15.v, (VI y16)]), (b13, [y17.v, (VI y18)]), (b5, [y5.v, (VI y6)]), (b4, [y7.v, (VI y8)]), (b3, [y17.v, (VI y18)]), (b2, [w1_1.v, (VI w1_2)]), (b1, [g0_1.v])] ->
 K (.tuple #[(VI start21_1), (.agg #[y17.v, (VI y18)]), (VI s71)]) h50))) /\
 ((!s90) = false ->
 ((decide (2000 < (w64 (start21_1 + s71)))) = true ->
 ∀ (h51 : Heap), Fr (In [b3]) h44 h51 -> Vars h51 [(b14, [y15.v, (VI y16)]), (b13, [y17.v, (VI y18)]), (b5, [y5.v, (VI y6)]), (b4, [y7.v, (VI y8)]), (b3, [w1_1.v, (VI w1_2)]), (b2, [w1_1.v, (VI w1_2)]), (b1, [g0_1.v])] ->
 K (.tuple #[(VI 0), (.agg #[w1_1.v, (VI w1_2)]), (VI 0)]) h51) /\
 ((decide (2000 < (w64 (start21_1 + s71)))) = false ->
 ∀ (h52 : Heap), Fr (In [b3]) h44 h52 -> Vars h52 [(b14, [y15.v, (VI y16)]), (b13, [y17.v, (VI y18)]), (b5, [y5.v, (VI y6)]), (b4, [y7.v, (VI y8)]), (b3, [y17.v, (VI y18)]), (b2, [w1_1.v, (VI w1_2)]), (b1, [g0_1.v])] ->
 K (.tuple #[(VI start21_1), (.agg #[y17.v, (VI y18)]), (VI s71)]) h52)))))) /\
 ((decide ((w64 (2 * n10_1)) ≤ 4000)) = false ->
 ((!met9_1) = true ->
 ∀ (h53 : Heap), Fr (In [b3]) h13 h53 -> Vars h53 [(b5, [y5.v, (VI y6)]), (b4, [y7.v, (VI y8)]), (b3, [w1_1.v, (VI w1_2)]), (b2, [w1_1.v, (VI w1_2)]), (b1, [g0_1.v])] ->
 K (.tuple #[(VI 0), (.agg #[w1_1.v, (VI w1_2)]), (VI 0)]) h53) /\
 ((!met9_1) = false ->
 callM P 89 #[(.agg #[g0_1.v]), (.agg #[y7.v, (VI y8)]), (VI 2000)] h13 fun r10 h54 => ∃ s71b : Int, r10 = (VI s71b) /\ Vars h54 [(b5, [y5.v, (VI y6)]), (b4, [y7.v, (VI y8)]), (b3, [nilSl.v, (VI 0)]), (b2, [w1_1.v, (VI w1_2)]), (b1, [g0_1.v])] /\
 ((decide (s71b = 0)) = true ->
 ∀ (h55 : Heap), Fr (In [b3]) h54 h55 -> Vars h55 [(b5, [y5.v, (VI y6)]), (b4, [y7.v, (VI y8)]), (b3, [w1_1.v, (VI w1_2)]), (b2, [w1_1.v, (VI w1_2)]), (b1, [g0_1.v])] ->
 K (.tuple #[(VI 0), (.agg #[w1_1.v, (VI w1_2)]), (VI 0)]) h55) /\
 ((decide (s71b = 0)) = false ->
 ∃ J6 : Nat -> Sl -> Int -> Nat -> Sl -> Int -> Heap -> Prop, ((∀ (b21 : Nat) (h56 : Heap), h54.size ≤ b21 -> Fr (In []) h54 h56 -> Vars h56 [(b21, [nilSl.v, (VI 0)]), (b5, [y5.v, (VI y6)]), (b4, [y7.v, (VI y8)]), (b3, [nilSl.v, (VI 0)]), (b2, [w1_1.v, (VI w1_2)]), (b1, [g0_1.v])] ->
 ∀ (b22 : Nat) (h57 : Heap), h56.size ≤ b22 -> Fr (In []) h56 h57 -> Vars h57 [(b22, [nilSl.v, (VI 0)]), (b21, [nilSl.v, (VI 0)]), (b5, [y5.v, (VI y6)]), (b4, [y7.v, (VI y8)]), (b3, [nilSl.v, (VI 0)]), (b2, [w1_1.v, (VI w1_2)]), (b1, [g0_1.v])] ->
 ∀ (h58 : Heap), Fr (In [b21]) h57 h58 -> Vars h58 [(b22, [nilSl.v, (VI 0)]), (b21, [w1_1.v, (VI w1_2)]), (b5, [y5.v, (VI y6)]), (b4, [y7.v, (VI y8)]), (b3, [nilSl.v, (VI 0)]), (b2, [w1_1.v, (VI w1_2)]), (b1, [g0_1.v])] ->
 ∀ (h59 : Heap), Fr (In [b22]) h58 h59 -> Vars h59 [(b22, [w1_1.v, (VI w1_2)]), (b21, [w1_1.v, (VI w1_2)]), (b5, [y5.v, (VI y6)]), (b4, [y7.v, (VI y8)]), (b3, [nilSl.v, (VI 0)]), (b2, [w1_1.v, (VI w1_2)]), (b1, [g0_1.v])] ->
 J6 b21 w1_1 w1_2 b22 w1_1 w1_2 h59) /\
 (∀ (b23 : Nat) (h60 : Heap), h54.size ≤ b23 -> Fr (In []) h54 h60 -> Vars h60 [(b23, [nilSl.v, (VI 0)]), (b5, [y5.v, (VI y6)]), (b4, [y7.v, (VI y8)]), (b3, [nilSl.v, (VI 0)]), (b2, [w1_1.v, (VI w1_2)]), (b1, [g0_1.v])] ->
 ∀ (b24 : Nat) (h61 : Heap), h60.size ≤ b24 -> Fr (In []) h60 h61 -> Vars h61 [(b24, [nilSl.v, (VI 0)]), (b23, [nilSl.v, (VI 0)]), (b5, [y5.v, (VI y6)]), (b4, [y7.v, (VI y8)]), (b3, [nilSl.v, (VI 0)]), (b2, [w1_1.v, (VI w1_2)]), (b1, [g0_1.v])] ->
 ∀ (h62 : Heap), Fr (In [b24]) h61 h62 -> Vars h62 [(b24, [w1_1.v, (VI w1_2)]), (b23, [nilSl.v, (VI 0)]), (b5, [y5.v, (VI y6)]), (b4, [y7.v, (VI y8)]), (b3, [nilSl.v, (VI 0)]), (b2, [w1_1.v, (VI w1_2)]), (b1, [g0_1.v])] ->
 ∀ (h63 : Heap), Fr (In [b23]) h62 h63 -> Vars h63 [(b24, [w1_1.v, (VI w1_2)]), (b23, [w1_1.v, (VI w1_2)]), (b5, [y5.v, (VI y6)]), (b4, [y7.v, (VI y8)]), (b3, [nilSl.v, (VI 0)]), (b2, [w1_1.v, (VI w1_2)]), (b1, [g0_1.v])] ->
 J6 b24 w1_1 w1_2 b23 w1_1 w1_2 h63)) /\
 ∀ (b19 : Nat) (y19 : Sl) (y20 : Int) (b20 : Nat) (y21 : Sl) (y22 : Int) (h64 : Heap), J6 b19 y19 y20 b20 y21 y22 h64 -> Vars h64 [(b20, [y21.v, (VI y22)]), (b19, [y19.v, (VI y20)]), (b5, [y5.v, (VI y6)]), (b4, [y7.v, (VI y8)]), (b3, [nilSl.v, (VI 0)]), (b2, [w1_1.v, (VI w1_2)]), (b1, [g0_1.v])] ->
 ∃ J7 : Nat -> Int -> Sl -> Int -> Heap -> Prop, (∃ n0 : Nat, J7 n0 0 y21 y22 h64) /\
 ∀ (n6 : Nat) (n20_2 : Int) (y23 : Sl) (y24 : Int) (h65 : Heap), J7 n6 n20_2 y23 y24 h65 -> Vars h65 [(b20, [y23.v, (VI y24)]), (b19, [y19.v, (VI y20)]), (b5, [y5.v, (VI y6)]), (b4, [y7.v, (VI y8)]), (b3, [nilSl.v, (VI 0)]), (b2, [w1_1.v, (VI w1_2)]), (b1, [g0_1.v])] ->
 ((decide (n20_2 < s71b)) = true ->
 callM P 105 #[(.agg #[g0_1.v]), (.agg #[y23.v, (VI y24)])] h65 fun r11 h66 => ∃ s85d : Sl, ∃ s85e : Int, ∃ s85f : Bool, r11 = (.tuple #[(.agg #[s85d.v, (VI s85e)]), (VB s85f)]) /\ Vars h66 [(b20, [y23.v, (VI y24)]), (b19, [y19.v, (VI y20)]), (b5, [y5.v, (VI y6)]), (b4, [y7.v, (VI y8)]), (b3, [nilSl.v, (VI 0)]), (b2, [w1_1.v, (VI w1_2)]), (b1, [g0_1.v])] /\
 ∀ (h67 : Heap), Fr (In [b20]) h66 h67 -> Vars h67 [(b20, [s85d.v, (VI s85e)]), (b19, [y19.v, (VI y20)]), (b5, [y5.v, (VI y6)]), (b4, [y7.v, (VI y8)]), (b3, [nilSl.v, (VI 0)]), (b2, [w1_1.v, (VI w1_2)]), (b1, [g0_1.v])] ->
 ∃ m : Nat, m < n6 /\ J7 m (w64 (n20_2 + 1)) s85d s85e h67) /\
 ((decide (n20_2 < s71b)) = false ->
 ∃ J8 : Nat -> Int -> Sl -> Int -> Sl -> Int -> Heap -> Prop, (∃ n0 : Nat, J8 n0 0 y23 y24 y19 y20 h65) /\
 ∀ (n7 : Nat) (start21_2 : Int) (y25 : Sl) (y26 : Int) (y27 : Sl) (y28 : Int) (h68 : Heap), J8 n7 start21_2 y25 y26 y27 y28 h68 -> Vars h68 [(b20, [y25.v, (VI y26)]), (b19, [y27.v, (VI y28)]), (b5, [y5.v, (VI y6)]), (b4, [y7.v, (VI y8)]), (b3, [nilSl.v, (VI 0)]), (b2, [w1_1.v, (VI w1_2)]), (b1, [g0_1.v])] ->
 callM P 132 #[(.agg #[y27.v, (VI y28)]), (.agg #[y25.v, (VI y26)])] h68 fun r12 h69 => ∃ s90b : Bool, r12 = (VB s90b) /\ Vars h69 [(b20, [y25.v, (VI y26)]), (b19, [y27.v, (VI y28)]), (b5, [y5.v, (VI y6)]), (b4, [y7.v, (VI y8)]), (b3, [nilSl.v, (VI 0)]), (b2, [w1_1.v, (VI w1_2)]), (b1, [g0_1.v])] /\
 ((!s90b) = true ->
 ((decide (start21_2 ≤ 2000)) = true ->
 callM P 105 #[(.agg #[g0_1.v]), (.agg #[y27.v, (VI y28)])] h69 fun r13 h70 => ∃ s99d : Sl, ∃ s99e : Int, ∃ s99f : Bool, r13 = (.tuple #[(.agg #[s99d.v, (VI s99e)]), (VB s99f)]) /\ Vars h70 [(b20, [y25.v, (VI y26)]), (b19, [y27.v, (VI y28)]), (b5, [y5.v, (VI y6)]), (b4, [y7.v, (VI y8)]), (b3, [nilSl.v, (VI 0)]), (b2, [w1_1.v, (VI w1_2)]), (b1, [g0_1.v])] /\
 ∀ (h71 : Heap), Fr (In [b19]) h70 h71 -> Vars h71 [(b20, [y25.v, (VI y26)]), (b19, [s99d.v, (VI s99e)]), (b5, [y5.v, (VI y6)]), (b4, [y7.v, (VI y8)]), (b3, [nilSl.v, (VI 0)]), (b2, [w1_1.v, (VI w1_2)]), (b1, [g0_1.v])] ->
 callM P 105 #[(.agg #[g0_1.v]), (.agg #[y25.v, (VI y26)])] h71 fun r14 h72 => ∃ s105d : Sl, ∃ s105e : Int, ∃ s105f : Bool, r14 = (.tuple #[(.agg #[s105d.v, (VI s105e)]), (VB s105f)]) /\ Vars h72 [(b20, [y25.v, (VI y26)]), (b19, [s99d.v, (VI s99e)]), (b5, [y5.v, (VI y6)]), (b4, [y7.v, (VI y8)]), (b3, [nilSl.v, (VI 0)]), (b2, [w1_1.v, (VI w1_2)]), (b1, [g0_1.v])] /\
 ∀ (h73 : Heap), Fr (In [b20]) h72 h73 -> Vars h73 [(b20, [s105d.v, (VI s105e)]), (b19, [s99d.v, (VI s99e)]), (b5, [y5.v, (VI y6)]), (b4, [y7.v, (VI y8)]), (b3, [nilSl.v, (VI 0)]), (b2, [w1_1.v, (VI w1_2)]), (b1, [g0_1.v])] ->
 ∃ m : Nat, m < n7 /\ J8 m (w64 (start21_2 + 1)) s105d s105e s99d s99e h73) /\
 ((decide (start21_2 ≤ 2000)) = false ->
 ((decide (2000 < (w64 (start21_2 + s71b)))) = true ->
 ∀ (h74 : Heap), Fr (In [b3]) h69 h74 -> Vars h74 [(b20, [y25.v, (VI y26)]), (b19, [y27.v, (VI y28)]), (b5, [y5.v, (VI y6)]), (b4, [y7.v, (VI y8)]), (b3, [w1_1.v, (VI w1_2)]), (b2, [w1_1.v, (VI w1_2)]), (b1, [g0_1.v])] ->
 K (.tuple #[(VI 0), (.agg #[w1_1.v, (VI w1_2)]), (VI 0)]) h74) /\
 ((decide (2000 < (w64 (start21_2 + s71b)))) = false ->
 ∀ (h75 : Heap), Fr (In [b3]) h69 h75 -> Vars h75 [(b20, [y25.v, (VI y26)]), (b19, [y27.v, (VI y28)]), (b5, [y5.v, (VI y6)]), (b4, [y7.v, (VI y8)]), (b3, [y27.v, (VI y28)]), (b2, [w1_1.v, (VI w1_2)]), (b1, [g0_1.v])] ->
 K (.tuple #[(VI start21_2), (.agg #[y27.v, (VI y28)]), (VI s71b)]) h75))) /\
 ((!s90b) = false ->
 ((decide (2000 < (w64 (start21_2 + s71b)))) = true ->
 ∀ (h76 : Heap), Fr (In [b3]) h69 h76 -> Vars h76 [(b20, [y25.v, (VI y26)]), (b19, [y27.v, (VI y28)]), (b5, [y5.v, (VI y6)]), (b4, [y7.v, (VI y8)]), (b3, [w1_1.v, (VI w1_2)]), (b2, [w1_1.v, (VI w1_2)]), (b1, [g0_1.v])] ->
 K (.tuple #[(VI 0), (.agg #[w1_1.v, (VI w1_2)]), (VI 0)]) h76) /\
 ((decide (2000 < (w64 (start21_2 + s71b)))) = false ->
 ∀ (h77 : Heap), Fr (In [b3]) h69 h77 -> Vars h77 [(b20, [y25.v, (VI y26)]), (b19, [y27.v, (VI y28)]), (b5, [y5.v, (VI y6)]), (b4, [y7.v, (VI y8)]), (b3, [y27.v, (VI y28)]), (b2, [w1_1.v, (VI w1_2)]), (b1, [g0_1.v])] ->
 K (.tuple #[(VI start21_2), (.agg #[y27.v, (VI y28)]), (VI s71b)]) h77))))))
theorem v86 (g0_1 : Sl) (w1_1 : Sl) (w1_2 : Int) (h : Heap) (K : Value -> Heap -> Prop) (H : u86 Tryz.prog g0_1 w1_1 w1_2 h K) : callM Tryz.prog 86 #[(Value.agg #[g0_1.v]), (Value.agg #[w1_1.v, (VI w1_2)])] h K := by
  refine c86 (Value.agg #[g0_1.v]) (Value.agg #[w1_1.v, (VI w1_2)]) h K ?_
  unfold u86 at H
  unfold t86
  have hL : Vars h [] := .nil
  refine eop_box 26 (Value.agg #[g0_1.v]) rfl hL (fun b1 h1 hb1 hf1 hL1 => ?_)
  refine eop_box 54 (Value.agg #[w1_1.v, (VI w1_2)]) rfl hL1 (fun b2 h2 hb2 hf2 hL2 => ?_)
  refine eop_alloc 54 zer54 rfl hL2 (fun b3 h3 hb3 hf3 hL3 => ?_)
  have H := H b1 b2 b3 h3 hb1 (Nat.le_trans (Fr.size (Fr.no' (Fr.r (In []) _) hf1)) hb2) (Nat.le_trans (Fr.size (Fr.no' (Fr.no' (Fr.r (In []) _) hf1) hf2)) hb3) (Fr.no' (Fr.no' (Fr.no' (Fr.r (In []) _) hf1) hf2) hf3) hL3
  obtain ⟨J1, H, HB8⟩ := H
  refine ⟨fun (vs : List Value) (h' : Heap) => ∃ b4 : Nat, ∃ y1 : Sl, ∃ y2 : Int, ∃ b5 : Nat, ∃ y3 : Sl, ∃ y4 : Int, vs = [(VP b4 0), (VP b5 0)] /\ J1 b4 y1 y2 b5 y3 y4 h' /\ Vars h' [(b5, [y3.v, (VI y4)]), (b4, [y1.v, (VI y2)]), (b3, [nilSl.v, (VI 0)]), (b2, [w1_1.v, (VI w1_2)]), (b1, [g0_1.v])], ?_, ?_⟩
  ·refine rop_locA agg54 hL3 1 rfl 0 (vs := [w1_1.v, (VI w1_2)]) rfl rfl ?_
   refine rop_locA agg54 hL3 1 rfl 0 (vs := [w1_1.v, (VI w1_2)]) rfl rfl ?_
   refine ⟨?_, ?_⟩
   ·have H := H.1
    refine eop_alloc 54 zer54 rfl hL3 (fun b6 h4 hb4 hf4 hL4 => ?_)
    have H := H b6 h4 hb4 (Fr.no' (Fr.r (In []) _) hf4) hL4
    refine ⟨?_, ?_⟩
    ·exact still_locA agg54 hL4 2 rfl 0 (vs := [w1_1.v, (VI w1_2)]) rfl rfl
    refine ⟨?_, ?_⟩
    ·exact still_locA agg54 hL4 2 rfl 0 (vs := [w1_1.v, (VI w1_2)]) rfl rfl
    refine eop_alloc 54 zer54 rfl hL4 (fun b7 h5 hb5 hf5 hL5 => ?_)
    have H := H b7 h5 hb5 (Fr.no' (Fr.r (In []) _) hf5) hL5
    refine ⟨?_, ?_⟩
    ·exact still_locA agg54 hL5 3 rfl 0 (vs := [w1_1.v, (VI w1_2)]) rfl rfl
    refine ⟨?_, ?_⟩
    ·exact still_locA agg54 hL5 3 rfl 0 (vs := [w1_1.v, (VI w1_2)]) rfl rfl
    refine uop_loc siz54 hL5 1 rfl 0 [w1_1.v, (VI w1_2)] rfl rfl rfl (Nat.le_of_ble_eq_true rfl) (L' := [(b7, [nilSl.v, (VI 0)]), (b6, [w1_1.v, (VI w1_2)]), (b3, [nilSl.v, (VI 0)]), (b2, [w1_1.v, (VI w1_2)]), (b1, [g0_1.v])]) rfl (fun h6 hf6 hL6 => ?_)
    have H := H  h6  (Fr.old (Fr.r (In []) _) hf6) hL6
    refine ⟨?_, ?_⟩
    ·exact still_locA agg54 hL6 3 rfl 0 (vs := [w1_1.v, (VI w1_2)]) rfl rfl
    refine uop_loc siz54 hL6 0 rfl 0 [w1_1.v, (VI w1_2)] rfl rfl rfl (Nat.le_of_ble_eq_true rfl) (L' := [(b7, [w1_1.v, (VI w1_2)]), (b6, [w1_1.v, (VI w1_2)]), (b3, [nilSl.v, (VI 0)]), (b2, [w1_1.v, (VI w1_2)]), (b1, [g0_1.v])]) rfl (fun h7 hf7 hL7 => ?_)
    have H := H  h7  (Fr.old (Fr.r (In []) _) hf7) hL7
    exact ⟨b6, w1_1, w1_2, b7, w1_1, w1_2, rfl, H, hL7⟩
   have H := H.2
   refine eop_alloc 54 zer54 rfl hL3 (fun b8 h8 hb6 hf8 hL8 => ?_)
   have H := H b8 h8 hb6 (Fr.no' (Fr.r (In []) _) hf8) hL8
   refine ⟨?_, ?_⟩
   ·exact still_locA agg54 hL8 2 rfl 0 (vs := [w1_1.v, (VI w1_2)]) rfl rfl
   refine ⟨?_, ?_⟩
   ·exact still_locA agg54 hL8 2 rfl 0 (vs := [w1_1.v, (VI w1_2)]) rfl rfl
   refine eop_alloc 54 zer54 rfl hL8 (fun b9 h9 hb7 hf9 hL9 => ?_)
   have H := H b9 h9 hb7 (Fr.no' (Fr.r (In []) _) hf9) hL9
   refine ⟨?_, ?_⟩
   ·exact still_locA agg54 hL9 3 rfl 0 (vs := [w1_1.v, (VI w1_2)]) rfl rfl
   refine ⟨?_, ?_⟩
   ·exact still_locA agg54 hL9 3 rfl 0 (vs := [w1_1.v, (VI w1_2)]) rfl rfl
   refine uop_loc siz54 hL9 0 rfl 0 [w1_1.v, (VI w1_2)] rfl rfl rfl (Nat.le_of_ble_eq_true rfl) (L' := [(b9, [w1_1.v, (VI w1_2)]), (b8, [nilSl.v, (VI 0)]), (b3, [nilSl.v, (VI 0)]), (b2, [w1_1.v, (VI w1_2)]), (b1, [g0_1.v])]) rfl (fun h10 hf10 hL10 => ?_)
   have H := H  h10  (Fr.old (Fr.r (In []) _) hf10) hL10
   refine ⟨?_, ?_⟩
   ·exact still_locA agg54 hL10 3 rfl 0 (vs := [w1_1.v, (VI w1_2)]) rfl rfl
   refine uop_loc siz54 hL10 1 rfl 0 [w1_1.v, (VI w1_2)] rfl rfl rfl (Nat.le_of_ble_eq_true rfl) (L' := [(b9, [w1_1.v, (VI w1_2)]), (b8, [w1_1.v, (VI w1_2)]), (b3, [nilSl.v, (VI 0)]), (b2, [w1_1.v, (VI w1_2)]), (b1, [g0_1.v])]) rfl (fun h11 hf11 hL11 => ?_)
   have H := H  h11  (Fr.old (Fr.r (In []) _) hf11) hL11
   exact ⟨b9, w1_1, w1_2, b8, w1_1, w1_2, rfl, H, Vars.pick hL11 [1, 0, 2, 3, 4] rfl⟩
  intro junk1 tv1 tv2 h12
  rintro ⟨b4, y1, y2, b5, y3, y4, hv, hJ1, hL12⟩
  cases hv
  have H := HB8 b4 y1 y2 b5 y3 y4 h12 hJ1 hL12
  obtain ⟨J2, ⟨n10, h0_5⟩, HB7⟩ := H
  refine loop_intro (J := fun (n : Nat) (vs : List Value) (h' : Heap) => ∃ met9_1 : Bool, ∃ n10_1 : Int, ∃ y5 : Sl, ∃ y6 : Int, ∃ y7 : Sl, ∃ y8 : Int, vs = [(VB met9_1), (VI n10_1)] /\ J2 n met9_1 n10_1 y5 y6 y7 y8 h' /\ Vars h' [(b5, [y5.v, (VI y6)]), (b4, [y7.v, (VI y8)]), (b3, [nilSl.v, (VI 0)]), (b2, [w1_1.v, (VI w1_2)]), (b1, [g0_1.v])]) n10 ⟨false, 1, y3, y4, y1, y2, rfl, h0_5, hL12⟩ ?_
  intro I5 mu5 hI5 junk2 tv11 tv12 h13 hi1
  obtain ⟨n1, ⟨met9_1, n10_1, y5, y6, y7, y8, hv, hJ2, hL13⟩, hn1⟩ := hI5 _ _ hi1
  cases hv
  have H := HB7 n1 met9_1 n10_1 y5 y6 y7 y8 h13 hJ2 hL13
  refine pop_mul .i64 2 n10_1 ?_
  refine pop_leq .i64 (w64 (2 * n10_1)) 4000 ?_
  refine guardM_st (fun hb8 => ?_) (fun hb8 => ?_)
  rotate_left
  ·have H := H.2 hb8
   refine guardM_n' hb8 (by decide) ?_
   refine pop_pickf' hb8 ?_
   refine condM_f ?_
   refine pop_not met9_1 ?_
   refine condM_b (fun hb26 => ?_) (fun hb26 => ?_)
   ·have H := H.1 hb26
    refine rop_locA agg54 hL13 3 rfl 0 (vs := [w1_1.v, (VI w1_2)]) rfl rfl ?_
    refine uop_loc siz54 hL13 2 rfl 0 [w1_1.v, (VI w1_2)] rfl rfl rfl (Nat.le_of_ble_eq_true rfl) (L' := [(b5, [y5.v, (VI y6)]), (b4, [y7.v, (VI y8)]), (b3, [w1_1.v, (VI w1_2)]), (b2, [w1_1.v, (VI w1_2)]), (b1, [g0_1.v])]) rfl (fun h53 hf39 hL53 => ?_)
    refine rop_locA agg54 hL53 2 rfl 0 (vs := [w1_1.v, (VI w1_2)]) rfl rfl ?_
    have H := H  h53  (Fr.old (Fr.r (In []) _) hf39) hL53
    exact H
   have H := H.2 hb26
   refine rop_locA agg26 hL13 4 rfl 0 (vs := [g0_1.v]) rfl rfl ?_
   refine rop_locA agg54 hL13 1 rfl 0 (vs := [y7.v, (VI y8)]) rfl rfl ?_
   refine H.mono fun r10 h54 H => ?_
   obtain ⟨s71b, rfl, hL54, H⟩ := H
   refine pop_ieq .i64 _ _ s71b 0 ?_
   refine condM_b (fun hb27 => ?_) (fun hb27 => ?_)
   ·have H := H.1 hb27
    refine rop_locA agg54 hL54 3 rfl 0 (vs := [w1_1.v, (VI w1_2)]) rfl rfl ?_
    refine uop_loc siz54 hL54 2 rfl 0 [w1_1.v, (VI w1_2)] rfl rfl rfl (Nat.le_of_ble_eq_true rfl) (L' := [(b5, [y5.v, (VI y6)]), (b4, [y7.v, (VI y8)]), (b3, [w1_1.v, (VI w1_2)]), (b2, [w1_1.v, (VI w1_2)]), (b1, [g0_1.v])]) rfl (fun h55 hf40 hL55 => ?_)
    refine rop_locA agg54 hL55 2 rfl 0 (vs := [w1_1.v, (VI w1_2)]) rfl rfl ?_
    have H := H  h55  (Fr.old (Fr.r (In []) _) hf40) hL55
    exact H
   have H := H.2 hb27
   obtain ⟨J6, H, HB6⟩ := H
   refine ⟨fun (vs : List Value) (h' : Heap) => ∃ b19 : Nat, ∃ y19 : Sl, ∃ y20 : Int, ∃ b20 : Nat, ∃ y21 : Sl, ∃ y22 : Int, vs = [(VP b19 0), (VP b20 0)] /\ J6 b19 y19 y20 b20 y21 y22 h' /\ Vars h' [(b20, [y21.v, (VI y22)]), (b19, [y19.v, (VI y20)]), (b5, [y5.v, (VI y6)]), (b4, [y7.v, (VI y8)]), (b3, [nilSl.v, (VI 0)]), (b2, [w1_1.v, (VI w1_2)]), (b1, [g0_1.v])], ?_, ?_⟩
   ·refine rop_locA agg54 hL54 3 rfl 0 (vs := [w1_1.v, (VI w1_2)]) rfl rfl ?_
    refine rop_locA agg54 hL54 3 rfl 0 (vs := [w1_1.v, (VI w1_2)]) rfl rfl ?_
    refine ⟨?_, ?_⟩
    ·have H := H.1
     refine eop_alloc 54 zer54 rfl hL54 (fun b21 h56 hb28 hf41 hL56 => ?_)
     have H := H b21 h56 hb28 (Fr.no' (Fr.r (In []) _) hf41) hL56
     refine ⟨?_, ?_⟩
     ·exact still_locA agg54 hL56 4 rfl 0 (vs := [w1_1.v, (VI w1_2)]) rfl rfl
     refine ⟨?_, ?_⟩
     ·exact still_locA agg54 hL56 4 rfl 0 (vs := [w1_1.v, (VI w1_2)]) rfl rfl
     refine eop_alloc 54 zer54 rfl hL56 (fun b22 h57 hb29 hf42 hL57 => ?_)
     have H := H b22 h57 hb29 (Fr.no' (Fr.r (In []) _) hf42) hL57
     refine ⟨?_, ?_⟩
     ·exact still_locA agg54 hL57 5 rfl 0 (vs := [w1_1.v, (VI w1_2)]) rfl rfl
     refine ⟨?_, ?_⟩
     ·exact still_locA agg54 hL57 5 rfl 0 (vs := [w1_1.v, (VI w1_2)]) rfl rfl
     refine uop_loc siz54 hL57 1 rfl 0 [w1_1.v, (VI w1_2)] rfl rfl rfl (Nat.le_of_ble_eq_true rfl) (L' := [(b22, [nilSl.v, (VI 0)]), (b21, [w1_1.v, (VI w1_2)]), (b5, [y5.v, (VI y6)]), (b4, [y7.v, (VI y8)]), (b3, [nilSl.v, (VI 0)]), (b2, [w1_1.v, (VI w1_2)]), (b1, [g0_1.v])]) rfl (fun h58 hf43 hL58 => ?_)
     have H := H  h58  (Fr.old (Fr.r (In []) _) hf43) hL58
     refine ⟨?_, ?_⟩
     ·exact still_locA agg54 hL58 5 rfl 0 (vs := [w1_1.v, (VI w1_2)]) rfl rfl
     refine uop_loc siz54 hL58 0 rfl 0 [w1_1.v, (VI w1_2)] rfl rfl rfl (Nat.le_of_ble_eq_true rfl) (L' := [(b22, [w1_1.v, (VI w1_2)]), (b21, [w1_1.v, (VI w1_2)]), (b5, [y5.v, (VI y6)]), (b4, [y7.v, (VI y8)]), (b3, [nilSl.v, (VI 0)]), (b2, [w1_1.v, (VI w1_2)]), (b1, [g0_1.v])]) rfl (fun h59 hf44 hL59 => ?_)
     have H := H  h59  (Fr.old (Fr.r (In []) _) hf44) hL59
     exact ⟨b21, w1_1, w1_2, b22, w1_1, w1_2, rfl, H, hL59⟩
    have H := H.2
    refine eop_alloc 54 zer54 rfl hL54 (fun b23 h60 hb30 hf45 hL60 => ?_)
    have H := H b23 h60 hb30 (Fr.no' (Fr.r (In []) _) hf45) hL60
    refine ⟨?_, ?_⟩
    ·exact still_locA agg54 hL60 4 rfl 0 (vs := [w1_1.v, (VI w1_2)]) rfl rfl
    refine ⟨?_, ?_⟩
    ·exact still_locA agg54 hL60 4 rfl 0 (vs := [w1_1.v, (VI w1_2)]) rfl rfl
    refine eop_alloc 54 zer54 rfl hL60 (fun b24 h61 hb31 hf46 hL61 => ?_)
    have H := H b24 h61 hb31 (Fr.no' (Fr.r (In []) _) hf46) hL61
    refine ⟨?_, ?_⟩
    ·exact still_locA agg54 hL61 5 rfl 0 (vs := [w1_1.v, (VI w1_2)]) rfl rfl
    refine ⟨?_, ?_⟩
    ·exact still_locA agg54 hL61 5 rfl 0 (vs := [w1_1.v, (VI w1_2)]) rfl rfl
    refine uop_loc siz54 hL61 0 rfl 0 [w1_1.v, (VI w1_2)] rfl rfl rfl (Nat.le_of_ble_eq_true rfl) (L' := [(b24, [w1_1.v, (VI w1_2)]), (b23, [nilSl.v, (VI 0)]), (b5, [y5.v, (VI y6)]), (b4, [y7.v, (VI y8)]), (b3, [nilSl.v, (VI 0)]), (b2, [w1_1.v, (VI w1_2)]), (b1, [g0_1.v])]) rfl (fun h62 hf47 hL62 => ?_)
    have H := H  h62  (Fr.old (Fr.r (In []) _) hf47) hL62
    refine ⟨?_, ?_⟩
    ·exact still_locA agg54 hL62 5 rfl 0 (vs := [w1_1.v, (VI w1_2)]) rfl rfl
    refine uop_loc siz54 hL62 1 rfl 0 [w1_1.v, (VI w1_2)] rfl rfl rfl (Nat.le_of_ble_eq_true rfl) (L' := [(b24, [w1_1.v, (VI w1_2)]), (b23, [w1_1.v, (VI w1_2)]), (b5, [y5.v, (VI y6)]), (b4, [y7.v, (VI y8)]), (b3, [nilSl.v, (VI 0)]), (b2, [w1_1.v, (VI w1_2)]), (b1, [g0_1.v])]) rfl (fun h63 hf48 hL63 => ?_)
    have H := H  h63  (Fr.old (Fr.r (In []) _) hf48) hL63
    exact ⟨b24, w1_1, w1_2, b23, w1_1, w1_2, rfl, H, Vars.pick hL63 [1, 0, 2, 3, 4, 5, 6] rfl⟩
   intro junk6 tv7 tv8 h64
   rintro ⟨b19, y19, y20, b20, y21, y22, hv, hJ6, hL64⟩
   cases hv
   have H := HB6 b19 y19 y20 b20 y21 y22 h64 hJ6 hL64
   obtain ⟨J7, ⟨n9, h0_4⟩, HB5⟩ := H
   refine loop_intro (J := fun (n : Nat) (vs : List Value) (h' : Heap) => ∃ n20_2 : Int, ∃ y23 : Sl, ∃ y24 : Int, vs = [(VI n20_2)] /\ J7 n n20_2 y23 y24 h' /\ Vars h' [(b20, [y23.v, (VI y24)]), (b19, [y19.v, (VI y20)]), (b5, [y5.v, (VI y6)]), (b4, [y7.v, (VI y8)]), (b3, [nilSl.v, (VI 0)]), (b2, [w1_1.v, (VI w1_2)]), (b1, [g0_1.v])]) n9 ⟨0, y21, y22, rfl, h0_4, hL64⟩ ?_
   intro I4 mu4 hI4 junk7 tv10 h65 hi4
   obtain ⟨n6, ⟨n20_2, y23, y24, hv, hJ7, hL65⟩, hn4⟩ := hI4 _ _ hi4
   cases hv
   have H := HB5 n6 n20_2 y23 y24 h65 hJ7 hL65
   refine pop_lss .i64 n20_2 s71b ?_
   refine condM_b (fun hb32 => ?_) (fun hb32 => ?_)
   ·have H := H.1 hb32
    refine rop_locA agg26 hL65 6 rfl 0 (vs := [g0_1.v]) rfl rfl ?_
    refine rop_locA agg54 hL65 0 rfl 0 (vs := [y23.v, (VI y24)]) rfl rfl ?_
    refine H.mono fun r11 h66 H => ?_
    obtain ⟨s85d, s85e, s85f, rfl, hL66, H⟩ := H
    refine pop_ext (v := (Value.agg #[s85d.v, (VI s85e)])) rfl ?_
    refine pop_ext (v := (VB s85f)) rfl ?_
    refine uop_loc siz54 hL66 0 rfl 0 [s85d.v, (VI s85e)] rfl rfl rfl (Nat.le_of_ble_eq_true rfl) (L' := [(b20, [s85d.v, (VI s85e)]), (b19, [y19.v, (VI y20)]), (b5, [y5.v, (VI y6)]), (b4, [y7.v, (VI y8)]), (b3, [nilSl.v, (VI 0)]), (b2, [w1_1.v, (VI w1_2)]), (b1, [g0_1.v])]) rfl (fun h67 hf49 hL67 => ?_)
    refine pop_add .i64 n20_2 1 ?_
    have H := H  h67  (Fr.old (Fr.r (In []) _) hf49) hL67
    obtain ⟨m_4, hm_4, H⟩ := H
    exact hn4 _ _ ⟨m_4, hm_4, (w64 (n20_2 + 1)), s85d, s85e, rfl, H, hL67⟩
   have H := H.2 hb32
   obtain ⟨J8, ⟨n8, h0_3⟩, HB4⟩ := H
   refine loop_intro (J := fun (n : Nat) (vs : List Value) (h' : Heap) => ∃ start21_2 : Int, ∃ y25 : Sl, ∃ y26 : Int, ∃ y27 : Sl, ∃ y28 : Int, vs = [(VI start21_2)] /\ J8 n start21_2 y25 y26 y27 y28 h' /\ Vars h' [(b20, [y25.v, (VI y26)]), (b19, [y27.v, (VI y28)]), (b5, [y5.v, (VI y6)]), (b4, [y7.v, (VI y8)]), (b3, [nilSl.v, (VI 0)]), (b2, [w1_1.v, (VI w1_2)]), (b1, [g0_1.v])]) n8 ⟨0, y23, y24, y19, y20, rfl, h0_3, hL65⟩ ?_
   intro I3 mu3 hI3 junk8 tv9 h68 hi5
   obtain ⟨n7, ⟨start21_2, y25, y26, y27, y28, hv, hJ8, hL68⟩, hn5⟩ := hI3 _ _ hi5
   cases hv
   have H := HB4 n7 start21_2 y25 y26 y27 y28 h68 hJ8 hL68
   refine rop_locA agg54 hL68 1 rfl 0 (vs := [y27.v, (VI y28)]) rfl rfl ?_
   refine rop_locA agg54 hL68 0 rfl 0 (vs := [y25.v, (VI y26)]) rfl rfl ?_
   refine H.mono fun r12 h69 H => ?_
   obtain ⟨s90b, rfl, hL69, H⟩ := H
   refine pop_not s90b ?_
   refine guardM_st (fun hb33 => ?_) (fun hb33 => ?_)
   rotate_left
   ·have H := H.2 hb33
    refine guardM_n' hb33 (by decide) ?_
    refine pop_pickf' hb33 ?_
    refine condM_f ?_
    refine pop_add .i64 start21_2 s71b ?_
    refine pop_gtr .i64 (w64 (start21_2 + s71b)) 2000 ?_
    refine condM_b (fun hb36 => ?_) (fun hb36 => ?_)
    ·have H := H.1 hb36
     refine rop_locA agg54 hL69 5 rfl 0 (vs := [w1_1.v, (VI w1_2)]) rfl rfl ?_
     refine uop_loc siz54 hL69 4 rfl 0 [w1_1.v, (VI w1_2)] rfl rfl rfl (Nat.le_of_ble_eq_true rfl) (L' := [(b20, [y25.v, (VI y26)]), (b19, [y27.v, (VI y28)]), (b5, [y5.v, (VI y6)]), (b4, [y7.v, (VI y8)]), (b3, [w1_1.v, (VI w1_2)]), (b2, [w1_1.v, (VI w1_2)]), (b1, [g0_1.v])]) rfl (fun h76 hf54 hL76 => ?_)
     refine rop_locA agg54 hL76 4 rfl 0 (vs := [w1_1.v, (VI w1_2)]) rfl rfl ?_
     have H := H  h76  (Fr.old (Fr.r (In []) _) hf54) hL76
     exact H
    have H := H.2 hb36
    refine rop_locA agg54 hL69 1 rfl 0 (vs := [y27.v, (VI y28)]) rfl rfl ?_
    refine uop_loc siz54 hL69 4 rfl 0 [y27.v, (VI y28)] rfl rfl rfl (Nat.le_of_ble_eq_true rfl) (L' := [(b20, [y25.v, (VI y26)]), (b19, [y27.v, (VI y28)]), (b5, [y5.v, (VI y6)]), (b4, [y7.v, (VI y8)]), (b3, [y27.v, (VI y28)]), (b2, [w1_1.v, (VI w1_2)]), (b1, [g0_1.v])]) rfl (fun h77 hf55 hL77 => ?_)
    refine rop_locA agg54 hL77 4 rfl 0 (vs := [y27.v, (VI y28)]) rfl rfl ?_
    have H := H  h77  (Fr.old (Fr.r (In []) _) hf55) hL77
    exact H
   have H := H.1 hb33
   refine guardM_y' hb33 ?_
   refine pop_leq .i64 start21_2 2000 ?_
   refine pop_pickt' hb33 ?_
   refine condM_b (fun hb34 => ?_) (fun hb34 => ?_)
   rotate_left
   ·have H := H.2 hb34
    refine pop_add .i64 start21_2 s71b ?_
    refine pop_gtr .i64 (w64 (start21_2 + s71b)) 2000 ?_
    refine condM_b (fun hb35 => ?_) (fun hb35 => ?_)
    ·have H := H.1 hb35
     refine rop_locA agg54 hL69 5 rfl 0 (vs := [w1_1.v, (VI w1_2)]) rfl rfl ?_
     refine uop_loc siz54 hL69 4 rfl 0 [w1_1.v, (VI w1_2)] rfl rfl rfl (Nat.le_of_ble_eq_true rfl) (L' := [(b20, [y25.v, (VI y26)]), (b19, [y27.v, (VI y28)]), (b5, [y5.v, (VI y6)]), (b4, [y7.v, (VI y8)]), (b3, [w1_1.v, (VI w1_2)]), (b2, [w1_1.v, (VI w1_2)]), (b1, [g0_1.v])]) rfl (fun h74 hf52 hL74 => ?_)
     refine rop_locA agg54 hL74 4 rfl 0 (vs := [w1_1.v, (VI w1_2)]) rfl rfl ?_
     have H := H  h74  (Fr.old (Fr.r (In []) _) hf52) hL74
     exact H
    have H := H.2 hb35
    refine rop_locA agg54 hL69 1 rfl 0 (vs := [y27.v, (VI y28)]) rfl rfl ?_
    refine uop_loc siz54 hL69 4 rfl 0 [y27.v, (VI y28)] rfl rfl rfl (Nat.le_of_ble_eq_true rfl) (L' := [(b20, [y25.v, (VI y26)]), (b19, [y27.v, (VI y28)]), (b5, [y5.v, (VI y6)]), (b4, [y7.v, (VI y8)]), (b3, [y27.v, (VI y28)]), (b2, [w1_1.v, (VI w1_2)]), (b1, [g0_1.v])]) rfl (fun h75 hf53 hL75 => ?_)
    refine rop_locA agg54 hL75 4 rfl 0 (vs := [y27.v, (VI y28)]) rfl rfl ?_
    have H := H  h75  (Fr.old (Fr.r (In []) _) hf53) hL75
    exact H
   have H := H.1 hb34
   refine rop_locA agg26 hL69 6 rfl 0 (vs := [g0_1.v]) rfl rfl ?_
   refine rop_locA agg54 hL69 1 rfl 0 (vs := [y27.v, (VI y28)]) rfl rfl ?_
   refine H.mono fun r13 h70 H => ?_
   obtain ⟨s99d, s99e, s99f, rfl, hL70, H⟩ := H
   refine pop_ext (v := (Value.agg #[s99d.v, (VI s99e)])) rfl ?_
   refine pop_ext (v := (VB s99f)) rfl ?_
   refine uop_loc siz54 hL70 1 rfl 0 [s99d.v, (VI s99e)] rfl rfl rfl (Nat.le_of_ble_eq_true rfl) (L' := [(b20, [y25.v, (VI y26)]), (b19, [s99d.v, (VI s99e)]), (b5, [y5.v, (VI y6)]), (b4, [y7.v, (VI y8)]), (b3, [nilSl.v, (VI 0)]), (b2, [w1_1.v, (VI w1_2)]), (b1, [g0_1.v])]) rfl (fun h71 hf50 hL71 => ?_)
   refine rop_locA agg26 hL71 6 rfl 0 (vs := [g0_1.v]) rfl rfl ?_
   refine rop_locA agg54 hL71 0 rfl 0 (vs := [y25.v, (VI y26)]) rfl rfl ?_
   have H := H  h71  (Fr.old (Fr.r (In []) _) hf50) hL71
   refine H.mono fun r14 h72 H => ?_
   obtain ⟨s105d, s105e, s105f, rfl, hL72, H⟩ := H
   refine pop_ext (v := (Value.agg #[s105d.v, (VI s105e)])) rfl ?_
   refine pop_ext (v := (VB s105f)) rfl ?_
   refine uop_loc siz54 hL72 0 rfl 0 [s105d.v, (VI s105e)] rfl rfl rfl (Nat.le_of_ble_eq_true rfl) (L' := [(b20, [s105d.v, (VI s105e)]), (b19, [s99d.v, (VI s99e)]), (b5, [y5.v, (VI y6)]), (b4, [y7.v, (VI y8)]), (b3, [nilSl.v, (VI 0)]), (b2, [w1_1.v, (VI w1_2)]), (b1, [g0_1.v])]) rfl (fun h73 hf51 hL73 => ?_)
   refine pop_add .i64 start21_2 1 ?_
   have H := H  h73  (Fr.old (Fr.r (In []) _) hf51) hL73
   obtain ⟨m_5, hm_5, H⟩ := H
   exact hn5 _ _ ⟨m_5, hm_5, (w64 (start21_2 + 1)), s105d, s105e, s99d, s99e, rfl, H, hL73⟩
  have H := H.1 hb8
  refine guardM_y' hb8 ?_
  refine pop_not met9_1 ?_
  refine pop_pickt' hb8 ?_
  refine condM_b (fun hb9 => ?_) (fun hb9 => ?_)
  ·have H := H.1 hb9
   refine rop_locA agg26 hL13 4 rfl 0 (vs := [g0_1.v]) rfl rfl ?_
   refine rop_locA agg54 hL13 1 rfl 0 (vs := [y7.v, (VI y8)]) rfl rfl ?_
   refine H.mono fun r1 h14 H => ?_
   obtain ⟨s36, s36b, s36c, rfl, hL14, H⟩ := H
   refine pop_ext (v := (Value.agg #[s36.v, (VI s36b)])) rfl ?_
   refine pop_ext (v := (VB s36c)) rfl ?_
   refine eop_alloc 54 zer54 rfl hL14 (fun b10 h15 hb10 hf12 hL15 => ?_)
   refine uop_loc siz54 hL15 0 rfl 0 [s36.v, (VI s36b)] rfl rfl rfl (Nat.le_of_ble_eq_true rfl) (L' := [(b10, [s36.v, (VI s36b)]), (b5, [y5.v, (VI y6)]), (b4, [y7.v, (VI y8)]), (b3, [nilSl.v, (VI 0)]), (b2, [w1_1.v, (VI w1_2)]), (b1, [g0_1.v])]) rfl (fun h16 hf13 hL16 => ?_)
   refine rop_locA agg26 hL16 5 rfl 0 (vs := [g0_1.v]) rfl rfl ?_
   refine rop_locA agg54 hL16 1 rfl 0 (vs := [y5.v, (VI y6)]) rfl rfl ?_
   have H := H b10 h16 hb10 (Fr.new (Fr.no' (Fr.r (In []) _) hf12) hb10 hf13) hL16
   refine H.mono fun r2 h17 H => ?_
   obtain ⟨s42, s42b, s42c, rfl, hL17, H⟩ := H
   refine pop_ext (v := (Value.agg #[s42.v, (VI s42b)])) rfl ?_
   refine pop_ext (v := (VB s42c)) rfl ?_
   refine eop_alloc 54 zer54 rfl hL17 (fun b11 h18 hb11 hf14 hL18 => ?_)
   refine uop_loc siz54 hL18 0 rfl 0 [s42.v, (VI s42b)] rfl rfl rfl (Nat.le_of_ble_eq_true rfl) (L' := [(b11, [s42.v, (VI s42b)]), (b10, [s36.v, (VI s36b)]), (b5, [y5.v, (VI y6)]), (b4, [y7.v, (VI y8)]), (b3, [nilSl.v, (VI 0)]), (b2, [w1_1.v, (VI w1_2)]), (b1, [g0_1.v])]) rfl (fun h19 hf15 hL19 => ?_)
   refine pop_not s36c ?_
   refine guardM_sf (fun hb12 => ?_) (fun hb12 => ?_)
   rotate_left
   ·have H := H.1 hb12
    refine guardM_n' hb12 (by decide) ?_
    refine pop_pickt' hb12 ?_
    refine condM_t ?_
    refine rop_locA agg54 hL19 5 rfl 0 (vs := [w1_1.v, (VI w1_2)]) rfl rfl ?_
    refine uop_loc siz54 hL19 4 rfl 0 [w1_1.v, (VI w1_2)] rfl rfl rfl (Nat.le_of_ble_eq_true rfl) (L' := [(b11, [s42.v, (VI s42b)]), (b10, [s36.v, (VI s36b)]), (b5, [y5.v, (VI y6)]), (b4, [y7.v, (VI y8)]), (b3, [w1_1.v, (VI w1_2)]), (b2, [w1_1.v, (VI w1_2)]), (b1, [g0_1.v])]) rfl (fun h28 hf22 hL28 => ?_)
    refine rop_locA agg54 hL28 4 rfl 0 (vs := [w1_1.v, (VI w1_2)]) rfl rfl ?_
    have H := H b11 h28 hb11 (Fr.old (Fr.new (Fr.no' (Fr.r (In []) _) hf14) hb11 hf15) hf22) hL28
    exact H
   have H := H.2 hb12
   refine guardM_y' hb12 ?_
   refine pop_not s42c ?_
   refine pop_pickf' hb12 ?_
   refine condM_b (fun hb13 => ?_) (fun hb13 => ?_)
   ·have H := H.1 hb13
    refine rop_locA agg54 hL19 5 rfl 0 (vs := [w1_1.v, (VI w1_2)]) rfl rfl ?_
    refine uop_loc siz54 hL19 4 rfl 0 [w1_1.v, (VI w1_2)] rfl rfl rfl (Nat.le_of_ble_eq_true rfl) (L' := [(b11, [s42.v, (VI s42b)]), (b10, [s36.v, (VI s36b)]), (b5, [y5.v, (VI y6)]), (b4, [y7.v, (VI y8)]), (b3, [w1_1.v, (VI w1_2)]), (b2, [w1_1.v, (VI w1_2)]), (b1, [g0_1.v])]) rfl (fun h20 hf16 hL20 => ?_)
    refine rop_locA agg54 hL20 4 rfl 0 (vs := [w1_1.v, (VI w1_2)]) rfl rfl ?_
    have H := H b11 h20 hb11 (Fr.old (Fr.new (Fr.no' (Fr.r (In []) _) hf14) hb11 hf15) hf16) hL20
    exact H
   have H := H.2 hb13
   refine rop_locA agg26 hL19 6 rfl 0 (vs := [g0_1.v]) rfl rfl ?_
   refine rop_locA agg54 hL19 0 rfl 0 (vs := [s42.v, (VI s42b)]) rfl rfl ?_
   have H := H b11 h19 hb11 (Fr.new (Fr.no' (Fr.r (In []) _) hf14) hb11 hf15) hL19
   refine H.mono fun r3 h21 H => ?_
   obtain ⟨s55, s55b, s55c, rfl, hL21, H⟩ := H
   refine pop_ext (v := (Value.agg #[s55.v, (VI s55b)])) rfl ?_
   refine pop_ext (v := (VB s55c)) rfl ?_
   refine eop_alloc 54 zer54 rfl hL21 (fun b12 h22 hb14 hf17 hL22 => ?_)
   refine uop_loc siz54 hL22 0 rfl 0 [s55.v, (VI s55b)] rfl rfl rfl (Nat.le_of_ble_eq_true rfl) (L' := [(b12, [s55.v, (VI s55b)]), (b11, [s42.v, (VI s42b)]), (b10, [s36.v, (VI s36b)]), (b5, [y5.v, (VI y6)]), (b4, [y7.v, (VI y8)]), (b3, [nilSl.v, (VI 0)]), (b2, [w1_1.v, (VI w1_2)]), (b1, [g0_1.v])]) rfl (fun h23 hf18 hL23 => ?_)
   refine pop_not s55c ?_
   refine condM_b (fun hb15 => ?_) (fun hb15 => ?_)
   ·have H := H.1 hb15
    refine rop_locA agg54 hL23 6 rfl 0 (vs := [w1_1.v, (VI w1_2)]) rfl rfl ?_
    refine uop_loc siz54 hL23 5 rfl 0 [w1_1.v, (VI w1_2)] rfl rfl rfl (Nat.le_of_ble_eq_true rfl) (L' := [(b12, [s55.v, (VI s55b)]), (b11, [s42.v, (VI s42b)]), (b10, [s36.v, (VI s36b)]), (b5, [y5.v, (VI y6)]), (b4, [y7.v, (VI y8)]), (b3, [w1_1.v, (VI w1_2)]), (b2, [w1_1.v, (VI w1_2)]), (b1, [g0_1.v])]) rfl (fun h24 hf19 hL24 => ?_)
    refine rop_locA agg54 hL24 5 rfl 0 (vs := [w1_1.v, (VI w1_2)]) rfl rfl ?_
    have H := H b12 h24 hb14 (Fr.old (Fr.new (Fr.no' (Fr.r (In []) _) hf17) hb14 hf18) hf19) hL24
    exact H
   have H := H.2 hb15
   refine rop_locA agg54 hL23 2 rfl 0 (vs := [s36.v, (VI s36b)]) rfl rfl ?_
   refine uop_loc siz54 hL23 4 rfl 0 [s36.v, (VI s36b)] rfl rfl rfl (Nat.le_of_ble_eq_true rfl) (L' := [(b12, [s55.v, (VI s55b)]), (b11, [s42.v, (VI s42b)]), (b10, [s36.v, (VI s36b)]), (b5, [y5.v, (VI y6)]), (b4, [s36.v, (VI s36b)]), (b3, [nilSl.v, (VI 0)]), (b2, [w1_1.v, (VI w1_2)]), (b1, [g0_1.v])]) rfl (fun h25 hf20 hL25 => ?_)
   refine rop_locA agg54 hL25 0 rfl 0 (vs := [s55.v, (VI s55b)]) rfl rfl ?_
   refine uop_loc siz54 hL25 3 rfl 0 [s55.v, (VI s55b)] rfl rfl rfl (Nat.le_of_ble_eq_true rfl) (L' := [(b12, [s55.v, (VI s55b)]), (b11, [s42.v, (VI s42b)]), (b10, [s36.v, (VI s36b)]), (b5, [s55.v, (VI s55b)]), (b4, [s36.v, (VI s36b)]), (b3, [nilSl.v, (VI 0)]), (b2, [w1_1.v, (VI w1_2)]), (b1, [g0_1.v])]) rfl (fun h26 hf21 hL26 => ?_)
   refine rop_locA agg54 hL26 4 rfl 0 (vs := [s36.v, (VI s36b)]) rfl rfl ?_
   refine rop_locA agg54 hL26 3 rfl 0 (vs := [s55.v, (VI s55b)]) rfl rfl ?_
   have H := H b12 h26 hb14 (Fr.old (Fr.old (Fr.new (Fr.no' (Fr.r (In []) _) hf17) hb14 hf18) hf20) hf21) hL26
   refine H.mono fun r4 h27 H => ?_
   obtain ⟨s65, rfl, hL27, H⟩ := H
   refine pop_add .i64 n10_1 1 ?_
   obtain ⟨m_1, hm_1, H⟩ := H
   exact hn1 _ _ ⟨m_1, hm_1, s65, (w64 (n10_1 + 1)), s55, s55b, s36, s36b, rfl, H, (Vars.tail (Vars.tail (Vars.tail hL27)))⟩
  have H := H.2 hb9
  refine pop_not met9_1 ?_
  refine condM_f' hb9 ?_
  refine rop_locA agg26 hL13 4 rfl 0 (vs := [g0_1.v]) rfl rfl ?_
  refine rop_locA agg54 hL13 1 rfl 0 (vs := [y7.v, (VI y8)]) rfl rfl ?_
  refine H.mono fun r5 h29 H => ?_
  obtain ⟨s71, rfl, hL29, H⟩ := H
  refine pop_ieq .i64 _ _ s71 0 ?_
  refine condM_b (fun hb16 => ?_) (fun hb16 => ?_)
  ·have H := H.1 hb16
   refine rop_locA agg54 hL29 3 rfl 0 (vs := [w1_1.v, (VI w1_2)]) rfl rfl ?_
   refine uop_loc siz54 hL29 2 rfl 0 [w1_1.v, (VI w1_2)] rfl rfl rfl (Nat.le_of_ble_eq_true rfl) (L' := [(b5, [y5.v, (VI y6)]), (b4, [y7.v, (VI y8)]), (b3, [w1_1.v, (VI w1_2)]), (b2, [w1_1.v, (VI w1_2)]), (b1, [g0_1.v])]) rfl (fun h30 hf23 hL30 => ?_)
   refine rop_locA agg54 hL30 2 rfl 0 (vs := [w1_1.v, (VI w1_2)]) rfl rfl ?_
   have H := H  h30  (Fr.old (Fr.r (In []) _) hf23) hL30
   exact H
  have H := H.2 hb16
  obtain ⟨J3, H, HB3⟩ := H
  refine ⟨fun (vs : List Value) (h' : Heap) => ∃ b13 : Nat, ∃ y9 : Sl, ∃ y10 : Int, ∃ b14 : Nat, ∃ y11 : Sl, ∃ y12 : Int, vs = [(VP b13 0), (VP b14 0)] /\ J3 b13 y9 y10 b14 y11 y12 h' /\ Vars h' [(b14, [y11.v, (VI y12)]), (b13, [y9.v, (VI y10)]), (b5, [y5.v, (VI y6)]), (b4, [y7.v, (VI y8)]), (b3, [nilSl.v, (VI 0)]), (b2, [w1_1.v, (VI w1_2)]), (b1, [g0_1.v])], ?_, ?_⟩
  ·refine rop_locA agg54 hL29 3 rfl 0 (vs := [w1_1.v, (VI w1_2)]) rfl rfl ?_
   refine rop_locA agg54 hL29 3 rfl 0 (vs := [w1_1.v, (VI w1_2)]) rfl rfl ?_
   refine ⟨?_, ?_⟩
   ·have H := H.1
    refine eop_alloc 54 zer54 rfl hL29 (fun b15 h31 hb17 hf24 hL31 => ?_)
    have H := H b15 h31 hb17 (Fr.no' (Fr.r (In []) _) hf24) hL31
    refine ⟨?_, ?_⟩
    ·exact still_locA agg54 hL31 4 rfl 0 (vs := [w1_1.v, (VI w1_2)]) rfl rfl
    refine ⟨?_, ?_⟩
    ·exact still_locA agg54 hL31 4 rfl 0 (vs := [w1_1.v, (VI w1_2)]) rfl rfl
    refine eop_alloc 54 zer54 rfl hL31 (fun b16 h32 hb18 hf25 hL32 => ?_)
    have H := H b16 h32 hb18 (Fr.no' (Fr.r (In []) _) hf25) hL32
    refine ⟨?_, ?_⟩
    ·exact still_locA agg54 hL32 5 rfl 0 (vs := [w1_1.v, (VI w1_2)]) rfl rfl
    refine ⟨?_, ?_⟩
    ·exact still_locA agg54 hL32 5 rfl 0 (vs := [w1_1.v, (VI w1_2)]) rfl rfl
    refine uop_loc siz54 hL32 1 rfl 0 [w1_1.v, (VI w1_2)] rfl rfl rfl (Nat.le_of_ble_eq_true rfl) (L' := [(b16, [nilSl.v, (VI 0)]), (b15, [w1_1.v, (VI w1_2)]), (b5, [y5.v, (VI y6)]), (b4, [y7.v, (VI y8)]), (b3, [nilSl.v, (VI 0)]), (b2, [w1_1.v, (VI w1_2)]), (b1, [g0_1.v])]) rfl (fun h33 hf26 hL33 => ?_)
    have H := H  h33  (Fr.old (Fr.r (In []) _) hf26) hL33
    refine ⟨?_, ?_⟩
    ·exact still_locA agg54 hL33 5 rfl 0 (vs := [w1_1.v, (VI w1_2)]) rfl rfl
    refine uop_loc siz54 hL33 0 rfl 0 [w1_1.v, (VI w1_2)] rfl rfl rfl (Nat.le_of_ble_eq_true rfl) (L' := [(b16, [w1_1.v, (VI w1_2)]), (b15, [w1_1.v, (VI w1_2)]), (b5, [y5.v, (VI y6)]), (b4, [y7.v, (VI y8)]), (b3, [nilSl.v, (VI 0)]), (b2, [w1_1.v, (VI w1_2)]), (b1, [g0_1.v])]) rfl (fun h34 hf27 hL34 => ?_)
    have H := H  h34  (Fr.old (Fr.r (In []) _) hf27) hL34
    exact ⟨b15, w1_1, w1_2, b16, w1_1, w1_2, rfl, H, hL34⟩
   have H := H.2
   refine eop_alloc 54 zer54 rfl hL29 (fun b17 h35 hb19 hf28 hL35 => ?_)
   have H := H b17 h35 hb19 (Fr.no' (Fr.r (In []) _) hf28) hL35
   refine ⟨?_, ?_⟩
   ·exact still_locA agg54 hL35 4 rfl 0 (vs := [w1_1.v, (VI w1_2)]) rfl rfl
   refine ⟨?_, ?_⟩
   ·exact still_locA agg54 hL35 4 rfl 0 (vs := [w1_1.v, (VI w1_2)]) rfl rfl
   refine eop_alloc 54 zer54 rfl hL35 (fun b18 h36 hb20 hf29 hL36 => ?_)
   have H := H b18 h36 hb20 (Fr.no' (Fr.r (In []) _) hf29) hL36
   refine ⟨?_, ?_⟩
   ·exact still_locA agg54 hL36 5 rfl 0 (vs := [w1_1.v, (VI w1_2)]) rfl rfl
   refine ⟨?_, ?_⟩
   ·exact still_locA agg54 hL36 5 rfl 0 (vs := [w1_1.v, (VI w1_2)]) rfl rfl
   refine uop_loc siz54 hL36 0 rfl 0 [w1_1.v, (VI w1_2)] rfl rfl rfl (Nat.le_of_ble_eq_true rfl) (L' := [(b18, [w1_1.v, (VI w1_2)]), (b17, [nilSl.v, (VI 0)]), (b5, [y5.v, (VI y6)]), (b4, [y7.v, (VI y8)]), (b3, [nilSl.v, (VI 0)]), (b2, [w1_1.v, (VI w1_2)]), (b1, [g0_1.v])]) rfl (fun h37 hf30 hL37 => ?_)
   have H := H  h37  (Fr.old (Fr.r (In []) _) hf30) hL37
   refine ⟨?_, ?_⟩
   ·exact still_locA agg54 hL37 5 rfl 0 (vs := [w1_1.v, (VI w1_2)]) rfl rfl
   refine uop_loc siz54 hL37 1 rfl 0 [w1_1.v, (VI w1_2)] rfl rfl rfl (Nat.le_of_ble_eq_true rfl) (L' := [(b18, [w1_1.v, (VI w1_2)]), (b17, [w1_1.v, (VI w1_2)]), (b5, [y5.v, (VI y6)]), (b4, [y7.v, (VI y8)]), (b3, [nilSl.v, (VI 0)]), (b2, [w1_1.v, (VI w1_2)]), (b1, [g0_1.v])]) rfl (fun h38 hf31 hL38 => ?_)
   have H := H  h38  (Fr.old (Fr.r (In []) _) hf31) hL38
   exact ⟨b18, w1_1, w1_2, b17, w1_1, w1_2, rfl, H, Vars.pick hL38 [1, 0, 2, 3, 4, 5, 6] rfl⟩
  intro junk3 tv3 tv4 h39
  rintro ⟨b13, y9, y10, b14, y11, y12, hv, hJ3, hL39⟩
  cases hv
  have H := HB3 b13 y9 y10 b14 y11 y12 h39 hJ3 hL39
  obtain ⟨J4, ⟨n5, h0_2⟩, HB2⟩ := H
  refine loop_intro (J := fun (n : Nat) (vs : List Value) (h' : Heap) => ∃ n20_1 : Int, ∃ y13 : Sl, ∃ y14 : Int, vs = [(VI n20_1)] /\ J4 n n20_1 y13 y14 h' /\ Vars h' [(b14, [y13.v, (VI y14)]), (b13, [y9.v, (VI y10)]), (b5, [y5.v, (VI y6)]), (b4, [y7.v, (VI y8)]), (b3, [nilSl.v, (VI 0)]), (b2, [w1_1.v, (VI w1_2)]), (b1, [g0_1.v])]) n5 ⟨0, y11, y12, rfl, h0_2, hL39⟩ ?_
  intro I2 mu2 hI2 junk4 tv6 h40 hi2
  obtain ⟨n2, ⟨n20_1, y13, y14, hv, hJ4, hL40⟩, hn2⟩ := hI2 _ _ hi2
  cases hv
  have H := HB2 n2 n20_1 y13 y14 h40 hJ4 hL40
  refine pop_lss .i64 n20_1 s71 ?_
  refine condM_b (fun hb21 => ?_) (fun hb21 => ?_)
  ·have H := H.1 hb21
   refine rop_locA agg26 hL40 6 rfl 0 (vs := [g0_1.v]) rfl rfl ?_
   refine rop_locA agg54 hL40 0 rfl 0 (vs := [y13.v, (VI y14)]) rfl rfl ?_
   refine H.mono fun r6 h41 H => ?_
   obtain ⟨s85, s85b, s85c, rfl, hL41, H⟩ := H
   refine pop_ext (v := (Value.agg #[s85.v, (VI s85b)])) rfl ?_
   refine pop_ext (v := (VB s85c)) rfl ?_
   refine uop_loc siz54 hL41 0 rfl 0 [s85.v, (VI s85b)] rfl rfl rfl (Nat.le_of_ble_eq_true rfl) (L' := [(b14, [s85.v, (VI s85b)]), (b13, [y9.v, (VI y10)]), (b5, [y5.v, (VI y6)]), (b4, [y7.v, (VI y8)]), (b3, [nilSl.v, (VI 0)]), (b2, [w1_1.v, (VI w1_2)]), (b1, [g0_1.v])]) rfl (fun h42 hf32 hL42 => ?_)
   refine pop_add .i64 n20_1 1 ?_
   have H := H  h42  (Fr.old (Fr.r (In []) _) hf32) hL42
   obtain ⟨m_2, hm_2, H⟩ := H
   exact hn2 _ _ ⟨m_2, hm_2, (w64 (n20_1 + 1)), s85, s85b, rfl, H, hL42⟩
  have H := H.2 hb21
  obtain ⟨J5, ⟨n4, h0_1⟩, HB1⟩ := H
  refine loop_intro (J := fun (n : Nat) (vs : List Value) (h' : Heap) => ∃ start21_1 : Int, ∃ y15 : Sl, ∃ y16 : Int, ∃ y17 : Sl, ∃ y18 : Int, vs = [(VI start21_1)] /\ J5 n start21_1 y15 y16 y17 y18 h' /\ Vars h' [(b14, [y15.v, (VI y16)]), (b13, [y17.v, (VI y18)]), (b5, [y5.v, (VI y6)]), (b4, [y7.v, (VI y8)]), (b3, [nilSl.v, (VI 0)]), (b2, [w1_1.v, (VI w1_2)]), (b1, [g0_1.v])]) n4 ⟨0, y13, y14, y9, y10, rfl, h0_1, hL40⟩ ?_
  intro I1 mu1 hI1 junk5 tv5 h43 hi3
  obtain ⟨n3, ⟨start21_1, y15, y16, y17, y18, hv, hJ5, hL43⟩, hn3⟩ := hI1 _ _ hi3
  cases hv
  have H := HB1 n3 start21_1 y15 y16 y17 y18 h43 hJ5 hL43
  refine rop_locA agg54 hL43 1 rfl 0 (vs := [y17.v, (VI y18)]) rfl rfl ?_
  refine rop_locA agg54 hL43 0 rfl 0 (vs := [y15.v, (VI y16)]) rfl rfl ?_
  refine H.mono fun r7 h44 H => ?_
  obtain ⟨s90, rfl, hL44, H⟩ := H
  refine pop_not s90 ?_
  refine guardM_st (fun hb22 => ?_) (fun hb22 => ?_)
  rotate_left
  ·have H := H.2 hb22
   refine guardM_n' hb22 (by decide) ?_
   refine pop_pickf' hb22 ?_
   refine condM_f ?_
   refine pop_add .i64 start21_1 s71 ?_
   refine pop_gtr .i64 (w64 (start21_1 + s71)) 2000 ?_
   refine condM_b (fun hb25 => ?_) (fun hb25 => ?_)
   ·have H := H.1 hb25
    refine rop_locA agg54 hL44 5 rfl 0 (vs := [w1_1.v, (VI w1_2)]) rfl rfl ?_
    refine uop_loc siz54 hL44 4 rfl 0 [w1_1.v, (VI w1_2)] rfl rfl rfl (Nat.le_of_ble_eq_true rfl) (L' := [(b14, [y15.v, (VI y16)]), (b13, [y17.v, (VI y18)]), (b5, [y5.v, (VI y6)]), (b4, [y7.v, (VI y8)]), (b3, [w1_1.v, (VI w1_2)]), (b2, [w1_1.v, (VI w1_2)]), (b1, [g0_1.v])]) rfl (fun h51 hf37 hL51 => ?_)
    refine rop_locA agg54 hL51 4 rfl 0 (vs := [w1_1.v, (VI w1_2)]) rfl rfl ?_
    have H := H  h51  (Fr.old (Fr.r (In []) _) hf37) hL51
    exact H
   have H := H.2 hb25
   refine rop_locA agg54 hL44 1 rfl 0 (vs := [y17.v, (VI y18)]) rfl rfl ?_
   refine uop_loc siz54 hL44 4 rfl 0 [y17.v, (VI y18)] rfl rfl rfl (Nat.le_of_ble_eq_true rfl) (L' := [(b14, [y15.v, (VI y16)]), (b13, [y17.v, (VI y18)]), (b5, [y5.v, (VI y6)]), (b4, [y7.v, (VI y8)]), (b3, [y17.v, (VI y18)]), (b2, [w1_1.v, (VI w1_2)]), (b1, [g0_1.v])]) rfl (fun h52 hf38 hL52 => ?_)
   refine rop_locA agg54 hL52 4 rfl 0 (vs := [y17.v, (VI y18)]) rfl rfl ?_
   have H := H  h52  (Fr.old (Fr.r (In []) _) hf38) hL52
   exact H
  have H := H.1 hb22
  refine guardM_y' hb22 ?_
  refine pop_leq .i64 start21_1 2000 ?_
  refine pop_pickt' hb22 ?_
  refine condM_b (fun hb23 => ?_) (fun hb23 => ?_)
  rotate_left
  ·have H := H.2 hb23
   refine pop_add .i64 start21_1 s71 ?_
   refine pop_gtr .i64 (w64 (start21_1 + s71)) 2000 ?_
   refine condM_b (fun hb24 => ?_) (fun hb24 => ?_)
   ·have H := H.1 hb24
    refine rop_locA agg54 hL44 5 rfl 0 (vs := [w1_1.v, (VI w1_2)]) rfl rfl ?_
    refine uop_loc siz54 hL44 4 rfl 0 [w1_1.v, (VI w1_2)] rfl rfl rfl (Nat.le_of_ble_eq_true rfl) (L' := [(b14, [y15.v, (VI y16)]), (b13, [y17.v, (VI y18)]), (b5, [y5.v, (VI y6)]), (b4, [y7.v, (VI y8)]), (b3, [w1_1.v, (VI w1_2)]), (b2, [w1_1.v, (VI w1_2)]), (b1, [g0_1.v])]) rfl (fun h49 hf35 hL49 => ?_)
    refine rop_locA agg54 hL49 4 rfl 0 (vs := [w1_1.v, (VI w1_2)]) rfl rfl ?_
    have H := H  h49  (Fr.old (Fr.r (In []) _) hf35) hL49
    exact H
   have H := H.2 hb24
   refine rop_locA agg54 hL44 1 rfl 0 (vs := [y17.v, (VI y18)]) rfl rfl ?_
   refine uop_loc siz54 hL44 4 rfl 0 [y17.v, (VI y18)] rfl rfl rfl (Nat.le_of_ble_eq_true rfl) (L' := [(b14, [y15.v, (VI y16)]), (b13, [y17.v, (VI y18)]), (b5, [y5.v, (VI y6)]), (b4, [y7.v, (VI y8)]), (b3, [y17.v, (VI y18)]), (b2, [w1_1.v, (VI w1_2)]), (b1, [g0_1.v])]) rfl (fun h50 hf36 hL50 => ?_)
   refine rop_locA agg54 hL50 4 rfl 0 (vs := [y17.v, (VI y18)]) rfl rfl ?_
   have H := H  h50  (Fr.old (Fr.r (In []) _) hf36) hL50
   exact H
  have H := H.1 hb23
  refine rop_locA agg26 hL44 6 rfl 0 (vs := [g0_1.v]) rfl rfl ?_
  refine rop_locA agg54 hL44 1 rfl 0 (vs := [y17.v, (VI y18)]) rfl rfl ?_
  refine H.mono fun r8 h45 H => ?_
  obtain ⟨s99, s99b, s99c, rfl, hL45, H⟩ := H
  refine pop_ext (v := (Value.agg #[s99.v, (VI s99b)])) rfl ?_
  refine pop_ext (v := (VB s99c)) rfl ?_
  refine uop_loc siz54 hL45 1 rfl 0 [s99.v, (VI s99b)] rfl rfl rfl (Nat.le_of_ble_eq_true rfl) (L' := [(b14, [y15.v, (VI y16)]), (b13, [s99.v, (VI s99b)]), (b5, [y5.v, (VI y6)]), (b4, [y7.v, (VI y8)]), (b3, [nilSl.v, (VI 0)]), (b2, [w1_1.v, (VI w1_2)]), (b1, [g0_1.v])]) rfl (fun h46 hf33 hL46 => ?_)
  refine rop_locA agg26 hL46 6 rfl 0 (vs := [g0_1.v]) rfl rfl ?_
  refine rop_locA agg54 hL46 0 rfl 0 (vs := [y15.v, (VI y16)]) rfl rfl ?_
  have H := H  h46  (Fr.old (Fr.r (In []) _) hf33) hL46
  refine H.mono fun r9 h47 H => ?_
  obtain ⟨s105, s105b, s105c, rfl, hL47, H⟩ := H
  refine pop_ext (v := (Value.agg #[s105.v, (VI s105b)])) rfl ?_
  refine pop_ext (v := (VB s105c)) rfl ?_
  refine uop_loc siz54 hL47 0 rfl 0 [s105.v, (VI s105b)] rfl rfl rfl (Nat.le_of_ble_eq_true rfl) (L' := [(b14, [s105.v, (VI s105b)]), (b13, [s99.v, (VI s99b)]), (b5, [y5.v, (VI y6)]), (b4, [y7.v, (VI y8)]), (b3, [nilSl.v, (VI 0)]), (b2, [w1_1.v, (VI w1_2)]), (b1, [g0_1.v])]) rfl (fun h48 hf34 hL48 => ?_)
  refine pop_add .i64 start21_1 1 ?_
  have H := H  h48  (Fr.old (Fr.r (In []) _) hf34) hL48
  obtain ⟨m_3, hm_3, H⟩ := H
  exact hn3 _ _ ⟨m_3, hm_3, (w64 (start21_1 + 1)), s105, s105b, s99, s99b, rfl, H, hL48⟩
def u87 (P : Program) (g0_1 : Sl) (w1_1 : Sl) (w1_2 : Int) (from2_1 : Int) (so3_1 : Value) (h : Heap) (K : Value -> Heap -> Prop) : Prop :=
 ∀ (b1 : Nat) (b2 : Nat) (h2 : Heap), h.size ≤ b1 -> h.size ≤ b2 -> Fr (In []) h h2 -> Vars h2 [(b2, [w1_1.v, (VI w1_2)]), (b1, [g0_1.v])] ->
 callM P 91 #[(.agg #[w1_1.v, (VI w1_2)])] h2 fun r1 h3 => ∃ s13 : Sl, ∃ s13b : Int, r1 = (.agg #[s13.v, (VI s13b)]) /\ Vars h3 [(b2, [w1_1.v, (VI w1_2)]), (b1, [g0_1.v])] /\
 ∀ (b3 : Nat) (h5 : Heap), h3.size ≤ b3 -> Fr (In []) h3 h5 -> Vars h5 [(b3, [s13.v, (VI s13b)]), (b2, [w1_1.v, (VI w1_2)]), (b1, [g0_1.v])] ->
 ∃ J1 : Nat -> Int -> Sl -> Int -> Heap -> Prop, (∃ n0 : Nat, J1 n0 0 s13 s13b h5) /\
 ∀ (n1 : Nat) (n11_1 : Int) (y1 : Sl) (y2 : Int) (h6 : Heap), J1 n1 n11_1 y1 y2 h6 -> Vars h6 [(b3, [y1.v, (VI y2)]), (b2, [w1_1.v, (VI w1_2)]), (b1, [g0_1.v])] ->
 ((decide (n11_1 ≤ 2000)) = true ->
 ((decide (from2_1 ≤ n11_1)) = true ->
 callV P so3_1 [(.agg #[y1.v, (VI y2)])] h6 fun r2 h7 => ∃ s24 : Bool, r2 = (VB s24) /\ Vars h7 [(b3, [y1.v, (VI y2)]), (b2, [w1_1.v, (VI w1_2)]), (b1, [g0_1.v])] /\
 (s24 = true ->
 K (.tuple #[(VI n11_1), (VB true)]) h7) /\
 (s24 = false ->
 callM P 100 #[(.agg #[g0_1.v]), (VP b3 0)] h7 fun r3 h8 => ∃ y3 : Sl, ∃ y4 : Int, ∃ s28 : Bool, r3 = (VB s28) /\ Vars h8 [(b3, [y3.v, (VI y4)]), (b2, [w1_1.v, (VI w1_2)]), (b1, [g0_1.v])] /\
 ((!s28) = true ->
 K (.tuple #[(VI 0), (VB false)]) h8) /\
 ((!s28) = false ->
 ∃ m : Nat, m < n1 /\ J1 m (w64 (n11_1 + 1)) y3 y4 h8))) /\
 ((decide (from2_1 ≤ n11_1)) = false ->
 callM P 100 #[(.agg #[g0_1.v]), (VP b3 0)] h6 fun r4 h9 => ∃ y5 : Sl, ∃ y6 : Int, ∃ s28b : Bool, r4 = (VB s28b) /\ Vars h9 [(b3, [y5.v, (VI y6)]), (b2, [w1_1.v, (VI w1_2)]), (b1, [g0_1.v])] /\
 ((!s28b) = true ->
 K (.tuple #[(VI 0), (VB false)]) h9) /\
 ((!s28b) = false ->
 ∃ m : Nat, m < n1 /\ J1 m (w64 (n11_1 + 1)) y5 y6 h9))) /\
 ((decide (n11_1 ≤ 2000)) = false ->
 K (.tuple #[(VI 0), (VB false)]) h6)
theorem v87 (g0_1 : Sl) (w1_1 : Sl) (w1_2 : Int) (from2_1 : Int) (so3_1 : Value) (h : Heap) (K : Value -> Heap -> Prop) (H : u87 Tryz.prog g0_1 w1_1 w1_2 from2_1 so3_1 h K) : callM Tryz.prog 87 #[(Value.agg #[g0_1.v]), (Value.agg #[w1_1.v, (VI w1_2)]), (VI from2_1), so3_1] h K := by
  refine c87 (Value.agg #[g0_1.v]) (Value.agg #[w1_1.v, (VI w1_2)]) (VI from2_1) so3_1 h K ?_
  unfold u87 at H
  unfold t87
  have hL : Vars h [] := .nil
  refine eop_box 26 (Value.agg #[g0_1.v]) rfl hL (fun b1 h1 hb1 hf1 hL1 => ?_)
  refine eop_box 54 (Value.agg #[w1_1.v, (VI w1_2)]) rfl hL1 (fun b2 h2 hb2 hf2 hL2 => ?_)
  refine rop_locA agg54 hL2 0 rfl 0 (vs := [w1_1.v, (VI w1_2)]) rfl rfl ?_
  have H := H b1 b2 h2 hb1 (Nat.le_trans (Fr.size (Fr.no' (Fr.r (In []) _) hf1)) hb2) (Fr.no' (Fr.no' (Fr.r (In []) _) hf1) hf2) hL2
  refine H.mono fun r1 h3 H => ?_
  obtain ⟨s13, s13b, rfl, hL3, H⟩ := H
  refine eop_alloc 54 zer54 rfl hL3 (fun b3 h4 hb3 hf3 hL4 => ?_)
  refine uop_loc siz54 hL4 0 rfl 0 [s13.v, (VI s13b)] rfl rfl rfl (Nat.le_of_ble_eq_true rfl) (L' := [(b3, [s13.v, (VI s13b)]), (b2, [w1_1.v, (VI w1_2)]), (b1, [g0_1.v])]) rfl (fun h5 hf4 hL5 => ?_)
  have H := H b3 h5 hb3 (Fr.new (Fr.no' (Fr.r (In []) _) hf3) hb3 hf4) hL5
  obtain ⟨J1, ⟨n2, h0_1⟩, HB1⟩ := H
  refine loop_intro (J := fun (n : Nat) (vs : List Value) (h' : Heap) => ∃ n11_1 : Int, ∃ y1 : Sl, ∃ y2 : Int, vs = [(VI n11_1)] /\ J1 n n11_1 y1 y2 h' /\ Vars h' [(b3, [y1.v, (VI y2)]), (b2, [w1_1.v, (VI w1_2)]), (b1, [g0_1.v])]) n2 ⟨0, s13, s13b, rfl, h0_1, hL5⟩ ?_
  intro I1 mu1 hI1 junk1 tv1 h6 hi1
  obtain ⟨n1, ⟨n11_1, y1, y2, hv, hJ1, hL6⟩, hn1⟩ := hI1 _ _ hi1
  cases hv
  have H := HB1 n1 n11_1 y1 y2 h6 hJ1 hL6
  refine pop_leq .i64 n11_1 2000 ?_
  refine condM_b (fun hb4 => ?_) (fun hb4 => ?_)
  rotate_left
  ·exact H.2 hb4
  have H := H.1 hb4
  refine pop_geq .i64 n11_1 from2_1 ?_
  refine guardM_st (fun hb5 => ?_) (fun hb5 => ?_)
  rotate_left
  ·have H := H.2 hb5
   refine guardM_n' hb5 (by decide) ?_
   refine guardM_n' hb5 (by decide) ?_
   refine pop_pickf' hb5 ?_
   refine condM_f ?_
   refine rop_locA agg26 hL6 2 rfl 0 (vs := [g0_1.v]) rfl rfl ?_
   refine H.mono fun r4 h9 H => ?_
   obtain ⟨y5, y6, s28b, rfl, hL9, H⟩ := H
   refine pop_not s28b ?_
   refine condM_b (fun hb8 => ?_) (fun hb8 => ?_)
   ·exact H.1 hb8
   have H := H.2 hb8
   refine pop_add .i64 n11_1 1 ?_
   obtain ⟨m_2, hm_2, H⟩ := H
   exact hn1 _ _ ⟨m_2, hm_2, (w64 (n11_1 + 1)), y5, y6, rfl, H, hL9⟩
  have H := H.1 hb5
  refine guardM_y' hb5 ?_
  refine rop_locA agg54 hL6 0 rfl 0 (vs := [y1.v, (VI y2)]) rfl rfl ?_
  refine guardM_y' hb5 ?_
  refine H.mono fun r2 h7 H => ?_
  obtain ⟨s24, rfl, hL7, H⟩ := H
  refine pop_pickt' hb5 ?_
  refine condM_b (fun hb6 => ?_) (fun hb6 => ?_)
  ·exact H.1 hb6
  have H := H.2 hb6
  refine rop_locA agg26 hL7 2 rfl 0 (vs := [g0_1.v]) rfl rfl ?_
  refine H.mono fun r3 h8 H => ?_
  obtain ⟨y3, y4, s28, rfl, hL8, H⟩ := H
  refine pop_not s28 ?_
  refine condM_b (fun hb7 => ?_) (fun hb7 => ?_)
  ·exact H.1 hb7
  have H := H.2 hb7
  refine pop_add .i64 n11_1 1 ?_
  obtain ⟨m_1, hm_1, H⟩ := H
  exact hn1 _ _ ⟨m_1, hm_1, (w64 (n11_1 + 1)), y3, y4, rfl, H, hL8⟩
def u88 (P : Program) (w0_1 : Sl) (w0_2 : Int) (o1_1 : Sl) (o1_2 : Int) (h : Heap) (K : Value -> Heap -> Prop) : Prop :=
 ((decide (w0_2 = o1_2)) = true ->
 ∀ (b1 : Nat) (b2 : Nat) (h2 : Heap), h.size ≤ b1 -> h.size ≤ b2 -> Fr (In []) h h2 -> Vars h2 [(b2, [o1_1.v, (VI o1_2)]), (b1, [w0_1.v, (VI w0_2)])] ->
 callM P 133 #[w0_1.v, o1_1.v] h2 fun r1 h3 => ∃ s15 : Bool, r1 = (VB s15) /\ Vars h3 [(b2, [o1_1.v, (VI o1_2)]), (b1, [w0_1.v, (VI w0_2)])] /\
 K (VB s15) h3) /\
 ((decide (w0_2 = o1_2)) = false ->
 ∀ (b1 : Nat) (b2 : Nat) (h2 : Heap), h.size ≤ b1 -> h.size ≤ b2 -> Fr (In []) h h2 -> Vars h2 [(b2, [o1_1.v, (VI o1_2)]), (b1, [w0_1.v, (VI w0_2)])] ->
 K (VB false) h2)
theorem v88 (w0_1 : Sl) (w0_2 : Int) (o1_1 : Sl) (o1_2 : Int) (h : Heap) (K : Value -> Heap -> Prop) (H : u88 Tryz.prog w0_1 w0_2 o1_1 o1_2 h K) : callM Tryz.prog 88 #[(Value.agg #[w0_1.v, (VI w0_2)]), (Value.agg #[o1_1.v, (VI o1_2)])] h K := by
  refine c88 (Value.agg #[w0_1.v, (VI w0_2)]) (Value.agg #[o1_1.v, (VI o1_2)]) h K ?_
  unfold u88 at H
  unfold t88
  have hL : Vars h [] := .nil
  refine eop_box 54 (Value.agg #[w0_1.v, (VI w0_2)]) rfl hL (fun b1 h1 hb1 hf1 hL1 => ?_)
  refine eop_box 54 (Value.agg #[o1_1.v, (VI o1_2)]) rfl hL1 (fun b2 h2 hb2 hf2 hL2 => ?_)
  refine pop_field 1 fld54_1 b1 0 ?_
  refine rop_loc one3 hL2 1 rfl 1 (v := (VI w0_2)) rfl ?_
  refine pop_field 1 fld54_1 b2 0 ?_
  refine rop_loc one3 hL2 0 rfl 1 (v := (VI o1_2)) rfl ?_
  refine pop_ieq .i64 _ _ w0_2 o1_2 ?_
  refine guardM_st (fun hb3 => ?_) (fun hb3 => ?_)
  rotate_left
  ·have H := H.2 hb3
   refine guardM_n' hb3 (by decide) ?_
   refine guardM_n' hb3 (by decide) ?_
   refine guardM_n' hb3 (by decide) ?_
   refine guardM_n' hb3 (by decide) ?_
   refine pop_pickf' hb3 ?_
   have H := H b1 b2 h2 hb1 (Nat.le_trans (Fr.size (Fr.no' (Fr.r (In []) _) hf1)) hb2) (Fr.no' (Fr.no' (Fr.r (In []) _) hf1) hf2) hL2
   exact H
  have H := H.1 hb3
  refine pop_field 0 fld54_0 b1 0 ?_
  refine guardM_y' hb3 ?_
  refine rop_loc one33 hL2 1 rfl 0 (v := w0_1.v) rfl ?_
  refine guardM_y' hb3 ?_
  refine pop_field 0 fld54_0 b2 0 ?_
  refine guardM_y' hb3 ?_
  refine rop_loc one33 hL2 0 rfl 0 (v := o1_1.v) rfl ?_
  refine guardM_y' hb3 ?_
  have H := H b1 b2 h2 hb1 (Nat.le_trans (Fr.size (Fr.no' (Fr.r (In []) _) hf1)) hb2) (Fr.no' (Fr.no' (Fr.r (In []) _) hf1) hf2) hL2
  refine H.mono fun r1 h3 H => ?_
  obtain ⟨s15, rfl, hL3, H⟩ := H
  refine pop_pickt' hb3 ?_
  exact H
def u89 (P : Program) (g0_1 : Sl) (w1_1 : Sl) (w1_2 : Int) (most2_1 : Int) (h : Heap) (K : Value -> Heap -> Prop) : Prop :=
 ∀ (b1 : Nat) (b2 : Nat) (b3 : Nat) (h4 : Heap), h.size ≤ b1 -> h.size ≤ b2 -> h.size ≤ b3 -> Fr (In []) h h4 -> Vars h4 [(b3, [w1_1.v, (VI w1_2)]), (b2, [w1_1.v, (VI w1_2)]), (b1, [g0_1.v])] ->
 ∃ J1 : Nat -> Int -> Sl -> Int -> Heap -> Prop, (∃ n0 : Nat, J1 n0 1 w1_1 w1_2 h4) /\
 ∀ (n1 : Nat) (n8_1 : Int) (y1 : Sl) (y2 : Int) (h5 : Heap), J1 n1 n8_1 y1 y2 h5 -> Vars h5 [(b3, [y1.v, (VI y2)]), (b2, [w1_1.v, (VI w1_2)]), (b1, [g0_1.v])] ->
 ((decide (n8_1 ≤ most2_1)) = true ->
 callM P 105 #[(.agg #[g0_1.v]), (.agg #[y1.v, (VI y2)])] h5 fun r1 h6 => ∃ s20 : Sl, ∃ s20b : Int, ∃ s20c : Bool, r1 = (.tuple #[(.agg #[s20.v, (VI s20b)]), (VB s20c)]) /\ Vars h6 [(b3, [y1.v, (VI y2)]), (b2, [w1_1.v, (VI w1_2)]), (b1, [g0_1.v])] /\
 ((!s20c) = true ->
 ∀ (b4 : Nat) (h8 : Heap), h6.size ≤ b4 -> Fr (In []) h6 h8 -> Vars h8 [(b4, [s20.v, (VI s20b)]), (b3, [y1.v, (VI y2)]), (b2, [w1_1.v, (VI w1_2)]), (b1, [g0_1.v])] ->
 K (VI 0) h8) /\
 ((!s20c) = false ->
 ∀ (b4 : Nat) (h9 : Heap), h6.size ≤ b4 -> Fr (In [b3]) h6 h9 -> Vars h9 [(b4, [s20.v, (VI s20b)]), (b3, [s20.v, (VI s20b)]), (b2, [w1_1.v, (VI w1_2)]), (b1, [g0_1.v])] ->
 callM P 132 #[(.agg #[s20.v, (VI s20b)]), (.agg #[w1_1.v, (VI w1_2)])] h9 fun r2 h10 => ∃ s28 : Bool, r2 = (VB s28) /\ Vars h10 [(b4, [s20.v, (VI s20b)]), (b3, [s20.v, (VI s20b)]), (b2, [w1_1.v, (VI w1_2)]), (b1, [g0_1.v])] /\
 (s28 = true ->
 K (VI n8_1) h10) /\
 (s28 = false ->
 ∃ m : Nat, m < n1 /\ J1 m (w64 (n8_1 + 1)) s20 s20b h10))) /\
 ((decide (n8_1 ≤ most2_1)) = false ->
 K (VI 0) h5)
theorem v89 (g0_1 : Sl) (w1_1 : Sl) (w1_2 : Int) (most2_1 : Int) (h : Heap) (K : Value -> Heap -> Prop) (H : u89 Tryz.prog g0_1 w1_1 w1_2 most2_1 h K) : callM Tryz.prog 89 #[(Value.agg #[g0_1.v]), (Value.agg #[w1_1.v, (VI w1_2)]), (VI most2_1)] h K := by
  refine c89 (Value.agg #[g0_1.v]) (Value.agg #[w1_1.v, (VI w1_2)]) (VI most2_1) h K ?_
  unfold u89 at H
  unfold t89
  have hL : Vars h [] := .nil
  refine eop_box 26 (Value.agg #[g0_1.v]) rfl hL (fun b1 h1 hb1 hf1 hL1 => ?_)
  refine eop_box 54 (Value.agg #[w1_1.v, (VI w1_2)]) rfl hL1 (fun b2 h2 hb2 hf2 hL2 => ?_)
  refine rop_locA agg54 hL2 0 rfl 0 (vs := [w1_1.v, (VI w1_2)]) rfl rfl ?_
  refine eop_alloc 54 zer54 rfl hL2 (fun b3 h3 hb3 hf3 hL3 => ?_)
  refine uop_loc siz54 hL3 0 rfl 0 [w1_1.v, (VI w1_2)] rfl rfl rfl (Nat.le_of_ble_eq_true rfl) (L' := [(b3, [w1_1.v, (VI w1_2)]), (b2, [w1_1.v, (VI w1_2)]), (b1, [g0_1.v])]) rfl (fun h4 hf4 hL4 => ?_)
  have H := H b1 b2 b3 h4 hb1 (Nat.le_trans (Fr.size (Fr.no' (Fr.r (In []) _) hf1)) hb2) (Nat.le_trans (Fr.size (Fr.no' (Fr.no' (Fr.r (In []) _) hf1) hf2)) hb3) (Fr.new (Fr.no' (Fr.no' (Fr.no' (Fr.r (In []) _) hf1) hf2) hf3) (Nat.le_trans (Fr.size (Fr.no' (Fr.no' (Fr.r (In []) _) hf1) hf2)) hb3) hf4) hL4
  obtain ⟨J1, ⟨n2, h0_1⟩, HB1⟩ := H
  refine loop_intro (J := fun (n : Nat) (vs : List Value) (h' : Heap) => ∃ n8_1 : Int, ∃ y1 : Sl, ∃ y2 : Int, vs = [(VI n8_1)] /\ J1 n n8_1 y1 y2 h' /\ Vars h' [(b3, [y1.v, (VI y2)]), (b2, [w1_1.v, (VI w1_2)]), (b1, [g0_1.v])]) n2 ⟨1, w1_1, w1_2, rfl, h0_1, hL4⟩ ?_
  intro I1 mu1 hI1 junk1 tv1 h5 hi1
  obtain ⟨n1, ⟨n8_1, y1, y2, hv, hJ1, hL5⟩, hn1⟩ := hI1 _ _ hi1
  cases hv
  have H := HB1 n1 n8_1 y1 y2 h5 hJ1 hL5
  refine pop_leq .i64 n8_1 most2_1 ?_
  refine condM_b (fun hb4 => ?_) (fun hb4 => ?_)
  rotate_left
  ·exact H.2 hb4
  have H := H.1 hb4
  refine rop_locA agg26 hL5 2 rfl 0 (vs := [g0_1.v]) rfl rfl ?_
  refine rop_locA agg54 hL5 0 rfl 0 (vs := [y1.v, (VI y2)]) rfl rfl ?_
  refine H.mono fun r1 h6 H => ?_
  obtain ⟨s20, s20b, s20c, rfl, hL6, H⟩ := H
  refine pop_ext (v := (Value.agg #[s20.v, (VI s20b)])) rfl ?_
  refine pop_ext (v := (VB s20c)) rfl ?_
  refine eop_alloc 54 zer54 rfl hL6 (fun b4 h7 hb5 hf5 hL7 => ?_)
  refine uop_loc siz54 hL7 0 rfl 0 [s20.v, (VI s20b)] rfl rfl rfl (Nat.le_of_ble_eq_true rfl) (L' := [(b4, [s20.v, (VI s20b)]), (b3, [y1.v, (VI y2)]), (b2, [w1_1.v, (VI w1_2)]), (b1, [g0_1.v])]) rfl (fun h8 hf6 hL8 => ?_)
  refine pop_not s20c ?_
  refine condM_b (fun hb6 => ?_) (fun hb6 => ?_)
  ·have H := H.1 hb6
   have H := H b4 h8 hb5 (Fr.new (Fr.no' (Fr.r (In []) _) hf5) hb5 hf6) hL8
   exact H
  have H := H.2 hb6
  refine rop_locA agg54 hL8 0 rfl 0 (vs := [s20.v, (VI s20b)]) rfl rfl ?_
  refine uop_loc siz54 hL8 1 rfl 0 [s20.v, (VI s20b)] rfl rfl rfl (Nat.le_of_ble_eq_true rfl) (L' := [(b4, [s20.v, (VI s20b)]), (b3, [s20.v, (VI s20b)]), (b2, [w1_1.v, (VI w1_2)]), (b1, [g0_1.v])]) rfl (fun h9 hf7 hL9 => ?_)
  refine rop_locA agg54 hL9 1 rfl 0 (vs := [s20.v, (VI s20b)]) rfl rfl ?_
  refine rop_locA agg54 hL9 2 rfl 0 (vs := [w1_1.v, (VI w1_2)]) rfl rfl ?_
  have H := H b4 h9 hb5 (Fr.old (Fr.new (Fr.no' (Fr.r (In []) _) hf5) hb5 hf6) hf7) hL9
  refine H.mono fun r2 h10 H => ?_
  obtain ⟨s28, rfl, hL10, H⟩ := H
  refine condM_b (fun hb7 => ?_) (fun hb7 => ?_)
  ·exact H.1 hb7
  have H := H.2 hb7
  refine pop_add .i64 n8_1 1 ?_
  obtain ⟨m_1, hm_1, H⟩ := H
  exact hn1 _ _ ⟨m_1, hm_1, (w64 (n8_1 + 1)), s20, s20b, rfl, H, (Vars.tail hL10)⟩
def u90 (P : Program) (g0_1 : Sl) (w1_1 : Sl) (w1_2 : Int) (n2_1 : Int) (most3_1 : Int) (h : Heap) (K : Value -> Heap -> Prop) : Prop :=
 ∀ (b1 : Nat) (b2 : Nat) (h2 : Heap), h.size ≤ b1 -> h.size ≤ b2 -> Fr (In []) h h2 -> Vars h2 [(b2, [w1_1.v, (VI w1_2)]), (b1, [g0_1.v])] ->
 callM P 84 #[(.agg #[g0_1.v]), (.agg #[w1_1.v, (VI w1_2)])] h2 fun r1 h3 => ∃ s11 : Bool, r1 = (VB s11) /\ Vars h3 [(b2, [w1_1.v, (VI w1_2)]), (b1, [g0_1.v])] /\
 (s11 = true ->
 callM P 72 #[(VI n2_1), (VI 0), (VI most3_1)] h3 fun r2 h4 => ∃ s15 : Bool, r2 = (VB s15) /\ Vars h4 [(b2, [w1_1.v, (VI w1_2)]), (b1, [g0_1.v])] /\
 K (VB s15) h4) /\
 (s11 = false ->
 K (VB false) h3)
theorem v90 (g0_1 : Sl) (w1_1 : Sl) (w1_2 : Int) (n2_1 : Int) (most3_1 : Int) (h : Heap) (K : Value -> Heap -> Prop) (H : u90 Tryz.prog g0_1 w1_1 w1_2 n2_1 most3_1 h K) : callM Tryz.prog 90 #[(Value.agg #[g0_1.v]), (Value.agg #[w1_1.v, (VI w1_2)]), (VI n2_1), (VI most3_1)] h K := by
  refine c90 (Value.agg #[g0_1.v]) (Value.agg #[w1_1.v, (VI w1_2)]) (VI n2_1) (VI most3_1) h K ?_
  unfold u90 at H
  unfold t90
  have hL : Vars h [] := .nil
  refine eop_box 26 (Value.agg #[g0_1.v]) rfl hL (fun b1 h1 hb1 hf1 hL1 => ?_)
  refine eop_box 54 (Value.agg #[w1_1.v, (VI w1_2)]) rfl hL1 (fun b2 h2 hb2 hf2 hL2 => ?_)
  refine rop_locA agg26 hL2 1 rfl 0 (vs := [g0_1.v]) rfl rfl ?_
  refine rop_locA agg54 hL2 0 rfl 0 (vs := [w1_1.v, (VI w1_2)]) rfl rfl ?_
  have H := H b1 b2 h2 hb1 (Nat.le_trans (Fr.size (Fr.no' (Fr.r (In []) _) hf1)) hb2) (Fr.no' (Fr.no' (Fr.r (In []) _) hf1) hf2) hL2
  refine H.mono fun r1 h3 H => ?_
  obtain ⟨s11, rfl, hL3, H⟩ := H
  refine guardM_st (fun hb3 => ?_) (fun hb3 => ?_)
  rotate_left
  ·have H := H.2 hb3
   refine guardM_n' hb3 (by decide) ?_
   refine guardM_n' hb3 (by decide) ?_
   refine pop_pickf' hb3 ?_
   exact H
  have H := H.1 hb3
  refine guardM_y' hb3 ?_
  refine guardM_y' hb3 ?_
  refine H.mono fun r2 h4 H => ?_
  obtain ⟨s15, rfl, hL4, H⟩ := H
  refine pop_pickt' hb3 ?_
  exact H
def u91 (P : Program) (w0_1 : Sl) (w0_2 : Int) (h : Heap) (K : Value -> Heap -> Prop) : Prop :=
 ∀ (b1 : Nat) (b2 : Nat) (h2 : Heap), h.size ≤ b1 -> h.size ≤ b2 -> Fr (In []) h h2 -> Vars h2 [(b2, [nilSl.v, (VI 0)]), (b1, [w0_1.v, (VI w0_2)])] ->
 callM P 117 #[w0_1.v] h2 fun r1 h3 => ∃ s5 : Sl, r1 = s5.v /\ Vars h3 [(b2, [nilSl.v, (VI 0)]), (b1, [w0_1.v, (VI w0_2)])] /\
 ∀ (h4 : Heap), Fr (In [b2]) h3 h4 -> Vars h4 [(b2, [s5.v, (VI w0_2)]), (b1, [w0_1.v, (VI w0_2)])] ->
 K (.agg #[s5.v, (VI w0_2)]) h4
theorem v91 (w0_1 : Sl) (w0_2 : Int) (h : Heap) (K : Value -> Heap -> Prop) (H : u91 Tryz.prog w0_1 w0_2 h K) : callM Tryz.prog 91 #[(Value.agg #[w0_1.v, (VI w0_2)])] h K := by
  refine c91 (Value.agg #[w0_1.v, (VI w0_2)]) h K ?_
  unfold u91 at H
  unfold t91
  have hL : Vars h [] := .nil
  refine eop_box 54 (Value.agg #[w0_1.v, (VI w0_2)]) rfl hL (fun b1 h1 hb1 hf1 hL1 => ?_)
  refine eop_alloc 54 zer54 rfl hL1 (fun b2 h2 hb2 hf2 hL2 => ?_)
  refine pop_field 0 fld54_0 b1 0 ?_
  refine rop_loc one33 hL2 1 rfl 0 (v := w0_1.v) rfl ?_
  refine pop_field 1 fld54_1 b1 0 ?_
  refine rop_loc one3 hL2 1 rfl 1 (v := (VI w0_2)) rfl ?_
  have H := H b1 b2 h2 hb1 (Nat.le_trans (Fr.size (Fr.no' (Fr.r (In []) _) hf1)) hb2) (Fr.no' (Fr.no' (Fr.r (In []) _) hf1) hf2) hL2
  refine H.mono fun r1 h3 H => ?_
  obtain ⟨s5, rfl, hL3, H⟩ := H
  refine ⟨?_, ?_⟩
  ·exact still_loc one3 hL3 1 rfl 1 (v := (VI w0_2)) rfl
  refine pop.mk' (v := (Value.agg #[s5.v, (VI w0_2)])) (fun w => by kernel_rfl) ?_
  refine uop_loc siz54 hL3 0 rfl 0 [s5.v, (VI w0_2)] rfl rfl rfl (Nat.le_of_ble_eq_true rfl) (L' := [(b2, [s5.v, (VI w0_2)]), (b1, [w0_1.v, (VI w0_2)])]) rfl (fun h4 hf3 hL4 => ?_)
  refine rop_locA agg54 hL4 0 rfl 0 (vs := [s5.v, (VI w0_2)]) rfl rfl ?_
  have H := H  h4  (Fr.old (Fr.r (In []) _) hf3) hL4
  exact H
def u92 (P : Program) (g0_1 : Sl) (b1 : Nat) (w1_1 : Sl) (w1_2 : Int) (n2_1 : Int) (with3_1 : Value) (h : Heap) (K : Value -> Heap -> Prop) : Prop :=
 ∀ (b2 : Nat) (h1 : Heap), h.size ≤ b2 -> Fr (In []) h h1 -> Vars h1 [(b2, [g0_1.v]), (b1, [w1_1.v, (VI w1_2)])] ->
 ∃ J1 : Nat -> Int -> Sl -> Int -> Heap -> Prop, (∃ n0 : Nat, J1 n0 0 w1_1 w1_2 h1) /\
 ∀ (n1 : Nat) (s11 : Int) (y1 : Sl) (y2 : Int) (h2 : Heap), J1 n1 s11 y1 y2 h2 -> Vars h2 [(b2, [g0_1.v]), (b1, [y1.v, (VI y2)])] ->
 ((decide (s11 < n2_1)) = true ->
 callM P 100 #[(.agg #[g0_1.v]), (VP b1 0)] h2 fun r1 h3 => ∃ y3 : Sl, ∃ y4 : Int, ∃ s19 : Bool, r1 = (VB s19) /\ Vars h3 [(b2, [g0_1.v]), (b1, [y3.v, (VI y4)])] /\
 ((!s19) = true ->
 K (VB false) h3) /\
 ((!s19) = false ->
 callV P with3_1 [(VI y2)] h3 fun r2 h4 => Vars h4 [(b2, [g0_1.v]), (b1, [y3.v, (VI y4)])] /\
 ∃ m : Nat, m < n1 /\ J1 m (w64 (s11 + 1)) y3 y4 h4)) /\
 ((decide (s11 < n2_1)) = false ->
 K (VB true) h2)
theorem v92 (g0_1 : Sl) (b1 : Nat) (w1_1 : Sl) (w1_2 : Int) (n2_1 : Int) (with3_1 : Value) (h : Heap) (K : Value -> Heap -> Prop) (hL : Vars h [(b1, [w1_1.v, (VI w1_2)])]) (H : u92 Tryz.prog g0_1 b1 w1_1 w1_2 n2_1 with3_1 h K) : callM Tryz.prog 92 #[(Value.agg #[g0_1.v]), (VP b1 0), (VI n2_1), with3_1] h K := by
  refine c92 (Value.agg #[g0_1.v]) (VP b1 0) (VI n2_1) with3_1 h K ?_
  unfold u92 at H
  unfold t92
  refine eop_box 26 (Value.agg #[g0_1.v]) rfl hL (fun b2 h1 hb1 hf1 hL1 => ?_)
  have H := H b2 h1 hb1 (Fr.no' (Fr.r (In []) _) hf1) hL1
  obtain ⟨J1, ⟨n2, h0_1⟩, HB1⟩ := H
  refine loop_intro (J := fun (n : Nat) (vs : List Value) (h' : Heap) => ∃ s11 : Int, ∃ y1 : Sl, ∃ y2 : Int, vs = [(VI s11)] /\ J1 n s11 y1 y2 h' /\ Vars h' [(b2, [g0_1.v]), (b1, [y1.v, (VI y2)])]) n2 ⟨0, w1_1, w1_2, rfl, h0_1, hL1⟩ ?_
  intro I1 mu1 hI1 junk1 tv1 h2 hi1
  obtain ⟨n1, ⟨s11, y1, y2, hv, hJ1, hL2⟩, hn1⟩ := hI1 _ _ hi1
  cases hv
  have H := HB1 n1 s11 y1 y2 h2 hJ1 hL2
  refine pop_lss .i64 s11 n2_1 ?_
  refine condM_b (fun hb2 => ?_) (fun hb2 => ?_)
  rotate_left
  ·exact H.2 hb2
  have H := H.1 hb2
  refine pop_nil _ ?_
  refine pop_field 1 fld54_1 b1 0 ?_
  refine rop_loc one3 hL2 1 rfl 1 (v := (VI y2)) rfl ?_
  refine rop_locA agg26 hL2 0 rfl 0 (vs := [g0_1.v]) rfl rfl ?_
  refine H.mono fun r1 h3 H => ?_
  obtain ⟨y3, y4, s19, rfl, hL3, H⟩ := H
  refine pop_not s19 ?_
  refine condM_b (fun hb3 => ?_) (fun hb3 => ?_)
  ·exact H.1 hb3
  have H := H.2 hb3
  refine H.mono fun r2 h4 H => ?_
  obtain ⟨hL4, H⟩ := H
  refine pop_add .i64 s11 1 ?_
  obtain ⟨m_1, hm_1, H⟩ := H
  exact hn1 _ _ ⟨m_1, hm_1, (w64 (s11 + 1)), y3, y4, rfl, H, hL4⟩
def u93 (P : Program) (s0 : Int) (h : Heap) (K : Value -> Heap -> Prop) : Prop :=
 K (.tuple #[]) h
theorem v93 (s0 : Int) (h : Heap) (K : Value -> Heap -> Prop) (H : u93 Tryz.prog s0 h K) : callM Tryz.prog 93 #[(VI s0)] h K := by
  refine c93 (VI s0) h K ?_
  unfold u93 at H
  unfold t93
  have hL : Vars h [] := .nil
  exact H
def u94 (P : Program) (g0_1 : Sl) (h : Heap) (K : Value -> Heap -> Prop) : Prop :=
 ∀ (b1 : Nat) (b2 : Nat) (h3 : Heap), h.size ≤ b1 -> h.size ≤ b2 -> Fr (In []) h h3 -> Vars h3 [(b2, [(VI (g0_1.n : Int))]), (b1, [g0_1.v])] ->
 callM P 72 #[(VI (g0_1.n : Int)), (VI 1), (VI 8)] h3 fun r1 h4 => ∃ s10 : Bool, r1 = (VB s10) /\ Vars h4 [(b2, [(VI (g0_1.n : Int))]), (b1, [g0_1.v])] /\
 ((!s10) = true ->
 K (VB false) h4) /\
 ((!s10) = false ->
 ∃ J1 : Nat -> Int -> Int -> Heap -> Prop, (∃ n0 : Nat, J1 n0 0 (g0_1.n : Int) h4) /\
 ∀ (n1 : Nat) (s15 : Int) (y1 : Int) (h5 : Heap), J1 n1 s15 y1 h5 -> Vars h5 [(b2, [(VI y1)]), (b1, [g0_1.v])] ->
 ((decide (s15 < (g0_1.n : Int))) = true ->
 InB g0_1 s15 /\
 ∃ s18 : Sl, hcell h5 (Sl.at g0_1 s15 1) = some s18.v /\
 ((decide (5 < (s18.n : Int))) = true ->
 K (VB false) h5) /\
 ((decide (5 < (s18.n : Int))) = false ->
 callM P 75 #[s18.v, (Value.func (Fn.func 134) #[] #[(VP b2 0)])] h5 fun r2 h6 => ∃ y2 : Int, ∃ s25 : Bool, r2 = (VB s25) /\ Vars h6 [(b2, [(VI y2)]), (b1, [g0_1.v])] /\
 (s25 = true ->
 K (VB false) h6) /\
 (s25 = false ->
 ∃ m : Nat, m < n1 /\ J1 m (w64 (s15 + 1)) y2 h6))) /\
 ((decide (s15 < (g0_1.n : Int))) = false ->
 K (VB true) h5))
theorem v94 (g0_1 : Sl) (h : Heap) (K : Value -> Heap -> Prop) (H : u94 Tryz.prog g0_1 h K) : callM Tryz.prog 94 #[(Value.agg #[g0_1.v])] h K := by
  refine c94 (Value.agg #[g0_1.v]) h K ?_
  unfold u94 at H
  unfold t94
  have hL : Vars h [] := .nil
  refine eop_box 26 (Value.agg #[g0_1.v]) rfl hL (fun b1 h1 hb1 hf1 hL1 => ?_)
  refine pop_field 0 fld26_0 b1 0 ?_
  refine rop_loc one24 hL1 0 rfl 0 (v := g0_1.v) rfl ?_
  refine pop_len g0_1 _ _ sli24 ?_
  refine eop_alloc 3 zer3 rfl hL1 (fun b2 h2 hb2 hf2 hL2 => ?_)
  refine uop_loc siz3 hL2 0 rfl 0 [(VI (g0_1.n : Int))] rfl rfl rfl (Nat.le_of_ble_eq_true rfl) (L' := [(b2, [(VI (g0_1.n : Int))]), (b1, [g0_1.v])]) rfl (fun h3 hf3 hL3 => ?_)
  refine rop_loc one3 hL3 0 rfl 0 (v := (VI (g0_1.n : Int))) rfl ?_
  have H := H b1 b2 h3 hb1 (Nat.le_trans (Fr.size (Fr.no' (Fr.r (In []) _) hf1)) hb2) (Fr.new (Fr.no' (Fr.no' (Fr.r (In []) _) hf1) hf2) (Nat.le_trans (Fr.size (Fr.no' (Fr.r (In []) _) hf1)) hb2) hf3) hL3
  refine H.mono fun r1 h4 H => ?_
  obtain ⟨s10, rfl, hL4, H⟩ := H
  refine pop_not s10 ?_
  refine condM_b (fun hb3 => ?_) (fun hb3 => ?_)
  ·exact H.1 hb3
  have H := H.2 hb3
  refine pop_field 0 fld26_0 b1 0 ?_
  refine rop_loc one24 hL4 1 rfl 0 (v := g0_1.v) rfl ?_
  refine pop_len g0_1 _ _ sli24 ?_
  obtain ⟨J1, ⟨n2, h0_1⟩, HB1⟩ := H
  refine loop_intro (J := fun (n : Nat) (vs : List Value) (h' : Heap) => ∃ s15 : Int, ∃ y1 : Int, vs = [(VI s15)] /\ J1 n s15 y1 h' /\ Vars h' [(b2, [(VI y1)]), (b1, [g0_1.v])]) n2 ⟨0, (g0_1.n : Int), rfl, h0_1, hL4⟩ ?_
  intro I1 mu1 hI1 junk1 tv1 h5 hi1
  obtain ⟨n1, ⟨s15, y1, hv, hJ1, hL5⟩, hn1⟩ := hI1 _ _ hi1
  cases hv
  have H := HB1 n1 s15 y1 h5 hJ1 hL5
  refine pop_lss .i64 s15 (g0_1.n : Int) ?_
  refine condM_b (fun hb4 => ?_) (fun hb4 => ?_)
  rotate_left
  ·exact H.2 hb4
  have H := H.1 hb4
  obtain ⟨hi2, H⟩ := H
  refine pop_index sli24 siz33 .i64 g0_1 s15 hi2 ?_
  obtain ⟨s18, hc1, H⟩ := H
  refine rop_one one33 s18.v hc1 ?_
  refine pop_len s18 _ _ sli33 ?_
  refine pop_gtr .i64 (s18.n : Int) 5 ?_
  refine guardM_sf (fun hb5 => ?_) (fun hb5 => ?_)
  rotate_left
  ·have H := H.1 hb5
   refine guardM_n' hb5 (by decide) ?_
   refine guardM_n' hb5 (by decide) ?_
   refine pop_pickt' hb5 ?_
   refine condM_t ?_
   exact H
  have H := H.2 hb5
  refine guardM_y' hb5 ?_
  refine pop_func _ _ _ ?_
  refine guardM_y' hb5 ?_
  refine H.mono fun r2 h6 H => ?_
  obtain ⟨y2, s25, rfl, hL6, H⟩ := H
  refine pop_pickf' hb5 ?_
  refine condM_b (fun hb6 => ?_) (fun hb6 => ?_)
  ·exact H.1 hb6
  have H := H.2 hb6
  refine pop_add .i64 s15 1 ?_
  obtain ⟨m_1, hm_1, H⟩ := H
  exact hn1 _ _ ⟨m_1, hm_1, (w64 (s15 + 1)), y2, rfl, H, hL6⟩
def u95 (P : Program) (g0_1 : Sl) (h : Heap) (K : Value -> Heap -> Prop) : Prop :=
 ∀ (b1 : Nat) (h1 : Heap), h.size ≤ b1 -> Fr (In []) h h1 -> Vars h1 [(b1, [g0_1.v])] ->
 ∃ J1 : Nat -> Int -> Heap -> Prop, (∃ n0 : Nat, J1 n0 0 h1) /\
 ∀ (n1 : Nat) (s7 : Int) (h2 : Heap), J1 n1 s7 h2 -> Vars h2 [(b1, [g0_1.v])] ->
 ((decide (s7 < (g0_1.n : Int))) = true ->
 callM P 135 #[(.agg #[g0_1.v]), (VI s7)] h2 fun r1 h3 => ∃ s12 : Sl, r1 = s12.v /\ Vars h3 [(b1, [g0_1.v])] /\
 ((!decide ((s12.n : Int) = (g0_1.n : Int))) = true ->
 K (VB false) h3) /\
 ((!decide ((s12.n : Int) = (g0_1.n : Int))) = false ->
 ∃ m : Nat, m < n1 /\ J1 m (w64 (s7 + 1)) h3)) /\
 ((decide (s7 < (g0_1.n : Int))) = false ->
 K (VB true) h2)
theorem v95 (g0_1 : Sl) (h : Heap) (K : Value -> Heap -> Prop) (H : u95 Tryz.prog g0_1 h K) : callM Tryz.prog 95 #[(Value.agg #[g0_1.v])] h K := by
  refine c95 (Value.agg #[g0_1.v]) h K ?_
  unfold u95 at H
  unfold t95
  have hL : Vars h [] := .nil
  refine eop_box 26 (Value.agg #[g0_1.v]) rfl hL (fun b1 h1 hb1 hf1 hL1 => ?_)
  refine pop_field 0 fld26_0 b1 0 ?_
  refine rop_loc one24 hL1 0 rfl 0 (v := g0_1.v) rfl ?_
  refine pop_len g0_1 _ _ sli24 ?_
  have H := H b1 h1 hb1 (Fr.no' (Fr.r (In []) _) hf1) hL1
  obtain ⟨J1, ⟨n2, h0_1⟩, HB1⟩ := H
  refine loop_intro (J := fun (n : Nat) (vs : List Value) (h' : Heap) => ∃ s7 : Int, vs = [(VI s7)] /\ J1 n s7 h' /\ Vars h' [(b1, [g0_1.v])]) n2 ⟨0, rfl, h0_1, hL1⟩ ?_
  intro I1 mu1 hI1 junk1 tv1 h2 hi1
  obtain ⟨n1, ⟨s7, hv, hJ1, hL2⟩, hn1⟩ := hI1 _ _ hi1
  cases hv
  have H := HB1 n1 s7 h2 hJ1 hL2
  refine pop_lss .i64 s7 (g0_1.n : Int) ?_
  refine condM_b (fun hb2 => ?_) (fun hb2 => ?_)
  rotate_left
  ·exact H.2 hb2
  have H := H.1 hb2
  refine rop_locA agg26 hL2 0 rfl 0 (vs := [g0_1.v]) rfl rfl ?_
  refine pop_field 0 fld26_0 b1 0 ?_
  refine rop_loc one24 hL2 0 rfl 0 (v := g0_1.v) rfl ?_
  refine pop_len g0_1 _ _ sli24 ?_
  refine H.mono fun r1 h3 H => ?_
  obtain ⟨s12, rfl, hL3, H⟩ := H
  refine ⟨?_, ?_⟩
  ·exact still_loc one24 hL3 0 rfl 0 (v := g0_1.v) rfl
  refine pop_len s12 _ _ sli33 ?_
  refine pop_ine .i64 _ _ (s12.n : Int) (g0_1.n : Int) ?_
  refine condM_b (fun hb3 => ?_) (fun hb3 => ?_)
  ·exact H.1 hb3
  have H := H.2 hb3
  refine pop_add .i64 s7 1 ?_
  obtain ⟨m_1, hm_1, H⟩ := H
  exact hn1 _ _ ⟨m_1, hm_1, (w64 (s7 + 1)), rfl, H, hL3⟩
def u96 (P : Program) (g0_1 : Sl) (h : Heap) (K : Value -> Heap -> Prop) : Prop :=
 ∀ (b1 : Nat) (h1 : Heap), h.size ≤ b1 -> Fr (In []) h h1 -> Vars h1 [(b1, [g0_1.v])] ->
 ∃ J1 : Nat -> Int -> Heap -> Prop, (∃ n0 : Nat, J1 n0 0 h1) /\
 ∀ (n1 : Nat) (s8 : Int) (h2 : Heap), J1 n1 s8 h2 -> Vars h2 [(b1, [g0_1.v])] ->
 ((decide (s8 < (g0_1.n : Int))) = true ->
 InB g0_1 s8 /\
 ∃ s12 : Sl, hcell h2 (Sl.at g0_1 s8 1) = some s12.v /\
 callM P 136 #[(.agg #[g0_1.v]), (VI s8)] h2 fun r1 h3 => ∃ s17 : Int, r1 = (VI s17) /\ Vars h3 [(b1, [g0_1.v])] /\
 ((!decide ((s12.n : Int) = s17)) = true ->
 K (VB false) h3) /\
 ((!decide ((s12.n : Int) = s17)) = false ->
 ∃ m : Nat, m < n1 /\ J1 m (w64 (s8 + 1)) h3)) /\
 ((decide (s8 < (g0_1.n : Int))) = false ->
 K (VB true) h2)
theorem v96 (g0_1 : Sl) (h : Heap) (K : Value -> Heap -> Prop) (H : u96 Tryz.prog g0_1 h K) : callM Tryz.prog 96 #[(Value.agg #[g0_1.v])] h K := by
  refine c96 (Value.agg #[g0_1.v]) h K ?_
  unfold u96 at H
  unfold t96
  have hL : Vars h [] := .nil
  refine eop_box 26 (Value.agg #[g0_1.v]) rfl hL (fun b1 h1 hb1 hf1 hL1 => ?_)
  refine pop_field 0 fld26_0 b1 0 ?_
  refine rop_loc one24 hL1 0 rfl 0 (v := g0_1.v) rfl ?_
  refine pop_len g0_1 _ _ sli24 ?_
  have H := H b1 h1 hb1 (Fr.no' (Fr.r (In []) _) hf1) hL1
  obtain ⟨J1, ⟨n2, h0_1⟩, HB1⟩ := H
  refine loop_intro (J := fun (n : Nat) (vs : List Value) (h' : Heap) => ∃ s8 : Int, vs = [(VI s8)] /\ J1 n s8 h' /\ Vars h' [(b1, [g0_1.v])]) n2 ⟨0, rfl, h0_1, hL1⟩ ?_
  intro I1 mu1 hI1 junk1 tv1 h2 hi1
  obtain ⟨n1, ⟨s8, hv, hJ1, hL2⟩, hn1⟩ := hI1 _ _ hi1
  cases hv
  have H := HB1 n1 s8 h2 hJ1 hL2
  refine pop_lss .i64 s8 (g0_1.n : Int) ?_
  refine condM_b (fun hb2 => ?_) (fun hb2 => ?_)
  rotate_left
  ·exact H.2 hb2
  have H := H.1 hb2
  obtain ⟨hi2, H⟩ := H
  refine pop_index sli24 siz33 .i64 g0_1 s8 hi2 ?_
  obtain ⟨s12, hc1, H⟩ := H
  refine rop_one one33 s12.v hc1 ?_
  refine pop_len s12 _ _ sli33 ?_
  refine rop_locA agg26 hL2 0 rfl 0 (vs := [g0_1.v]) rfl rfl ?_
  refine H.mono fun r1 h3 H => ?_
  obtain ⟨s17, rfl, hL3, H⟩ := H
  refine pop_ine .i64 _ _ (s12.n : Int) s17 ?_
  refine condM_b (fun hb3 => ?_) (fun hb3 => ?_)
  ·exact H.1 hb3
  have H := H.2 hb3
  refine pop_add .i64 s8 1 ?_
  obtain ⟨m_1, hm_1, H⟩ := H
  exact hn1 _ _ ⟨m_1, hm_1, (w64 (s8 + 1)), rfl, H, hL3⟩
def u97 (P : Program) (slices0_1 : Sl) (h : Heap) (K : Value -> Heap -> Prop) : Prop :=
 ∃ J1 : Nat -> Int -> Int -> Heap -> Prop, (∃ n0 : Nat, J1 n0 0 0 h) /\
 ∀ (n1 : Nat) (size3_1 : Int) (s11 : Int) (h1 : Heap), J1 n1 size3_1 s11 h1 -> Vars h1 [] ->
 ((decide (s11 < (slices0_1.n : Int))) = true ->
 InB slices0_1 s11 /\
 ∃ s14 : Sl, hcell h1 (Sl.at slices0_1 s11 1) = some s14.v /\
 ((decide ((w64 (size3_1 + (s14.n : Int))) < 0)) = true ->
 pop P (Instr.makeInterface 9 (Value.string { data := #[108, 101, 110, 32, 111, 117, 116, 32, 111, 102, 32, 114, 97, 110, 103, 101] })) fun r1 => ∃ s21 : Value, r1 = s21 /\ 
 False) /\
 ((decide ((w64 (size3_1 + (s14.n : Int))) < 0)) = false ->
 ∃ m : Nat, m < n1 /\ J1 m (w64 (size3_1 + (s14.n : Int))) (w64 (s11 + 1)) h1)) /\
 ((decide (s11 < (slices0_1.n : Int))) = false ->
 callM P 137 #[nilSl.v, (VI size3_1)] h1 fun r2 h2 => ∃ s24 : Sl, r2 = s24.v /\ Vars h2 [] /\
 ∃ J2 : Nat -> Sl -> Int -> Heap -> Prop, (∃ n0 : Nat, J2 n0 s24 0 h2) /\
 ∀ (n2 : Nat) (newslice6_1 : Sl) (s27 : Int) (h3 : Heap), J2 n2 newslice6_1 s27 h3 -> Vars h3 [] ->
 ((decide (s27 < (slices0_1.n : Int))) = true ->
 InB slices0_1 s27 /\
 ∃ s30 : Sl, hcell h3 (Sl.at slices0_1 s27 1) = some s30.v /\
 eop P (appS 33 33 33 newslice6_1.v s30.v) h3 fun r3 h4 => ∃ s33 : Sl, r3 = s33.v /\ Vars h4 [] /\
 ∃ m : Nat, m < n2 /\ J2 m s33 (w64 (s27 + 1)) h4) /\
 ((decide (s27 < (slices0_1.n : Int))) = false ->
 K newslice6_1.v h3))
theorem v97 (slices0_1 : Sl) (h : Heap) (K : Value -> Heap -> Prop) (H : u97 Tryz.prog slices0_1 h K) : callM Tryz.prog 97 #[slices0_1.v] h K := by
  refine c97 slices0_1.v h K ?_
  unfold u97 at H
  unfold t97
  have hL : Vars h [] := .nil
  refine pop_len slices0_1 _ _ sli24 ?_
  obtain ⟨J1, ⟨n4, h0_2⟩, HB2⟩ := H
  refine loop_intro (J := fun (n : Nat) (vs : List Value) (h' : Heap) => ∃ size3_1 : Int, ∃ s11 : Int, vs = [(VI size3_1), (VI s11)] /\ J1 n size3_1 s11 h' /\ Vars h' []) n4 ⟨0, 0, rfl, h0_2, hL⟩ ?_
  intro I2 mu2 hI2 junk1 tv3 tv4 h1 hi1
  obtain ⟨n1, ⟨size3_1, s11, hv, hJ1, hL1⟩, hn1⟩ := hI2 _ _ hi1
  cases hv
  have H := HB2 n1 size3_1 s11 h1 hJ1 hL1
  refine pop_lss .i64 s11 (slices0_1.n : Int) ?_
  refine condM_b (fun hb1 => ?_) (fun hb1 => ?_)
  ·have H := H.1 hb1
   obtain ⟨hi2, H⟩ := H
   refine pop_index sli24 siz33 .i64 slices0_1 s11 hi2 ?_
   obtain ⟨s14, hc1, H⟩ := H
   refine rop_one one33 s14.v hc1 ?_
   refine pop_len s14 _ _ sli33 ?_
   refine pop_add .i64 size3_1 (s14.n : Int) ?_
   refine pop_lss .i64 (w64 (size3_1 + (s14.n : Int))) 0 ?_
   refine condM_b (fun hb2 => ?_) (fun hb2 => ?_)
   ·have H := H.1 hb2
    refine H.mono fun r1 H => ?_
    obtain ⟨s21, rfl, H⟩ := H
    exact H.elim
   have H := H.2 hb2
   refine pop_add .i64 s11 1 ?_
   obtain ⟨m_1, hm_1, H⟩ := H
   exact hn1 _ _ ⟨m_1, hm_1, (w64 (size3_1 + (s14.n : Int))), (w64 (s11 + 1)), rfl, H, hL1⟩
  have H := H.2 hb1
  refine H.mono fun r2 h2 H => ?_
  obtain ⟨s24, rfl, hL2, H⟩ := H
  refine pop_len slices0_1 _ _ sli24 ?_
  obtain ⟨J2, ⟨n3, h0_1⟩, HB1⟩ := H
  refine loop_intro (J := fun (n : Nat) (vs : List Value) (h' : Heap) => ∃ newslice6_1 : Sl, ∃ s27 : Int, vs = [newslice6_1.v, (VI s27)] /\ J2 n newslice6_1 s27 h' /\ Vars h' []) n3 ⟨s24, 0, rfl, h0_1, hL2⟩ ?_
  intro I1 mu1 hI1 junk2 tv1 tv2 h3 hi3
  obtain ⟨n2, ⟨newslice6_1, s27, hv, hJ2, hL3⟩, hn2⟩ := hI1 _ _ hi3
  cases hv
  have H := HB1 n2 newslice6_1 s27 h3 hJ2 hL3
  refine pop_lss .i64 s27 (slices0_1.n : Int) ?_
  refine condM_b (fun hb3 => ?_) (fun hb3 => ?_)
  rotate_left
  ·exact H.2 hb3
  have H := H.1 hb3
  obtain ⟨hi4, H⟩ := H
  refine pop_index sli24 siz33 .i64 slices0_1 s27 hi4 ?_
  obtain ⟨s30, hc2, H⟩ := H
  refine rop_one one33 s30.v hc2 ?_
  refine H.mono fun r3 h4 H => ?_
  obtain ⟨s33, rfl, hL4, H⟩ := H
  refine pop_add .i64 s27 1 ?_
  obtain ⟨m_2, hm_2, H⟩ := H
  exact hn2 _ _ ⟨m_2, hm_2, s33, (w64 (s27 + 1)), rfl, H, hL4⟩
def u98 (P : Program) (g0_1 : Sl) (w1_1 : Sl) (w1_2 : Int) (h : Heap) (K : Value -> Heap -> Prop) : Prop :=
 ∀ (b1 : Nat) (b2 : Nat) (h2 : Heap), h.size ≤ b1 -> h.size ≤ b2 -> Fr (In []) h h2 -> Vars h2 [(b2, [w1_1.v, (VI w1_2)]), (b1, [g0_1.v])] ->
 ∃ J1 : Nat -> Int -> Heap -> Prop, (∃ n0 : Nat, J1 n0 0 h2) /\
 ∀ (n1 : Nat) (s11 : Int) (h3 : Heap), J1 n1 s11 h3 -> Vars h3 [(b2, [w1_1.v, (VI w1_2)]), (b1, [g0_1.v])] ->
 ((decide (s11 < (g0_1.n : Int))) = true ->
 callM P 138 #[(.agg #[g0_1.v]), w1_1.v, (VI s11)] h3 fun r1 h4 => ∃ s19 : Sl, ∃ s19b : Bool, r1 = (.tuple #[s19.v, (VB s19b)]) /\ Vars h4 [(b2, [w1_1.v, (VI w1_2)]), (b1, [g0_1.v])] /\
 ((!s19b) = true ->
 K (VB false) h4) /\
 ((!s19b) = false ->
 callM P 139 #[s19.v, (VI w1_2)] h4 fun r2 h5 => ∃ s28 : Bool, r2 = (VB s28) /\ Vars h5 [(b2, [w1_1.v, (VI w1_2)]), (b1, [g0_1.v])] /\
 ((!s28) = true ->
 K (VB false) h5) /\
 ((!s28) = false ->
 ∃ m : Nat, m < n1 /\ J1 m (w64 (s11 + 1)) h5))) /\
 ((decide (s11 < (g0_1.n : Int))) = false ->
 K (VB true) h3)
theorem v98 (g0_1 : Sl) (w1_1 : Sl) (w1_2 : Int) (h : Heap) (K : Value -> Heap -> Prop) (H : u98 Tryz.prog g0_1 w1_1 w1_2 h K) : callM Tryz.prog 98 #[(Value.agg #[g0_1.v]), (Value.agg #[w1_1.v, (VI w1_2)])] h K := by
  refine c98 (Value.agg #[g0_1.v]) (Value.agg #[w1_1.v, (VI w1_2)]) h K ?_
  unfold u98 at H
  unfold t98
  have hL : Vars h [] := .nil
  refine eop_box 26 (Value.agg #[g0_1.v]) rfl hL (fun b1 h1 hb1 hf1 hL1 => ?_)
  refine eop_box 54 (Value.agg #[w1_1.v, (VI w1_2)]) rfl hL1 (fun b2 h2 hb2 hf2 hL2 => ?_)
  refine pop_field 0 fld26_0 b1 0 ?_
  refine rop_loc one24 hL2 1 rfl 0 (v := g0_1.v) rfl ?_
  refine pop_len g0_1 _ _ sli24 ?_
  have H := H b1 b2 h2 hb1 (Nat.le_trans (Fr.size (Fr.no' (Fr.r (In []) _) hf1)) hb2) (Fr.no' (Fr.no' (Fr.r (In []) _) hf1) hf2) hL2
  obtain ⟨J1, ⟨n2, h0_1⟩, HB1⟩ := H
  refine loop_intro (J := fun (n : Nat) (vs : List Value) (h' : Heap) => ∃ s11 : Int, vs = [(VI s11)] /\ J1 n s11 h' /\ Vars h' [(b2, [w1_1.v, (VI w1_2)]), (b1, [g0_1.v])]) n2 ⟨0, rfl, h0_1, hL2⟩ ?_
  intro I1 mu1 hI1 junk1 tv1 h3 hi1
  obtain ⟨n1, ⟨s11, hv, hJ1, hL3⟩, hn1⟩ := hI1 _ _ hi1
  cases hv
  have H := HB1 n1 s11 h3 hJ1 hL3
  refine pop_lss .i64 s11 (g0_1.n : Int) ?_
  refine condM_b (fun hb3 => ?_) (fun hb3 => ?_)
  rotate_left
  ·exact H.2 hb3
  have H := H.1 hb3
  refine rop_locA agg26 hL3 1 rfl 0 (vs := [g0_1.v]) rfl rfl ?_
  refine pop_field 0 fld54_0 b2 0 ?_
  refine rop_loc one33 hL3 0 rfl 0 (v := w1_1.v) rfl ?_
  refine H.mono fun r1 h4 H => ?_
  obtain ⟨s19, s19b, rfl, hL4, H⟩ := H
  refine pop_ext (v := s19.v) rfl ?_
  refine pop_ext (v := (VB s19b)) rfl ?_
  refine pop_not s19b ?_
  refine guardM_sf (fun hb4 => ?_) (fun hb4 => ?_)
  rotate_left
  ·have H := H.1 hb4
   refine guardM_n' hb4 (by decide) ?_
   refine guardM_n' hb4 (by decide) ?_
   refine guardM_n' hb4 (by decide) ?_
   refine guardM_n' hb4 (by decide) ?_
   refine pop_pickt' hb4 ?_
   refine condM_t ?_
   exact H
  have H := H.2 hb4
  refine guardM_y' hb4 ?_
  refine pop_field 1 fld54_1 b2 0 ?_
  refine guardM_y' hb4 ?_
  refine rop_loc one3 hL4 0 rfl 1 (v := (VI w1_2)) rfl ?_
  refine guardM_y' hb4 ?_
  refine H.mono fun r2 h5 H => ?_
  obtain ⟨s28, rfl, hL5, H⟩ := H
  refine guardM_y' hb4 ?_
  refine pop_not s28 ?_
  refine pop_pickf' hb4 ?_
  refine condM_b (fun hb5 => ?_) (fun hb5 => ?_)
  ·exact H.1 hb5
  have H := H.2 hb5
  refine pop_add .i64 s11 1 ?_
  obtain ⟨m_1, hm_1, H⟩ := H
  exact hn1 _ _ ⟨m_1, hm_1, (w64 (s11 + 1)), rfl, H, hL5⟩
def u99 (P : Program) (s0 : Int) (h : Heap) (K : Value -> Heap -> Prop) : Prop :=
 K (.tuple #[]) h
theorem v99 (s0 : Int) (h : Heap) (K : Value -> Heap -> Prop) (H : u99 Tryz.prog s0 h K) : callM Tryz.prog 99 #[(VI s0)] h K := by
  refine c99 (VI s0) h K ?_
  unfold u99 at H
  unfold t99
  have hL : Vars h [] := .nil
  exact H
def u100 (P : Program) (g0_1 : Sl) (b1 : Nat) (w1_1 : Sl) (w1_2 : Int) (h : Heap) (K : Value -> Heap -> Prop) : Prop :=
 InB g0_1 w1_2 /\
 ∀ (b2 : Nat) (h1 : Heap), h.size ≤ b2 -> Fr (In []) h h1 -> Vars h1 [(b2, [g0_1.v]), (b1, [w1_1.v, (VI w1_2)])] ->
 ∃ s13 : Sl, hcell h1 (Sl.at g0_1 w1_2 1) = some s13.v /\
 ((decide ((s13.n : Int) = 0)) = true ->
 K (VB false) h1) /\
 ((decide ((s13.n : Int) = 0)) = false ->
 InB w1_1 w1_2 /\
 ∃ s34 : Int, hcell h1 (Sl.at w1_1 w1_2 1) = some (VI s34) /\
 (s13.n : Int) ≠ 0 /\
 InB w1_1 w1_2 /\
 Writable h1 (Sl.at w1_1 w1_2 1) /\ Vars (hset h1 (Sl.at w1_1 w1_2 1) (VI (Int.tmod (w64 (s34 + 1)) (s13.n : Int)))) [(b2, [g0_1.v]), (b1, [w1_1.v, (VI w1_2)])] /\
 ∀ h2 : Heap, h2 = hset h1 (Sl.at w1_1 w1_2 1) (VI (Int.tmod (w64 (s34 + 1)) (s13.n : Int))) -> Vars h2 [(b2, [g0_1.v]), (b1, [w1_1.v, (VI w1_2)])] ->
 InB w1_1 w1_2 /\
 ∃ s51 : Int, hcell h2 (Sl.at w1_1 w1_2 1) = some (VI s51) /\
 InB s13 s51 /\
 ∃ s53 : Int, hcell h2 (Sl.at s13 s51 1) = some (VI s53) /\
 ∀ (h3 : Heap), Fr (In [b1]) h2 h3 -> Vars h3 [(b2, [g0_1.v]), (b1, [w1_1.v, (VI s53)])] ->
 K (VB true) h3)
theorem v100 (g0_1 : Sl) (b1 : Nat) (w1_1 : Sl) (w1_2 : Int) (h : Heap) (K : Value -> Heap -> Prop) (hL : Vars h [(b1, [w1_1.v, (VI w1_2)])]) (H : u100 Tryz.prog g0_1 b1 w1_1 w1_2 h K) : callM Tryz.prog 100 #[(Value.agg #[g0_1.v]), (VP b1 0)] h K := by
  refine c100 (Value.agg #[g0_1.v]) (VP b1 0) h K ?_
  unfold u100 at H
  unfold t100
  refine eop_box 26 (Value.agg #[g0_1.v]) rfl hL (fun b2 h1 hb1 hf1 hL1 => ?_)
  refine pop_field 0 fld26_0 b2 0 ?_
  refine rop_loc one24 hL1 0 rfl 0 (v := g0_1.v) rfl ?_
  refine pop_nil _ ?_
  refine pop_field 1 fld54_1 b1 0 ?_
  refine rop_loc one3 hL1 1 rfl 1 (v := (VI w1_2)) rfl ?_
  obtain ⟨hi1, H⟩ := H
  refine pop_index sli24 siz33 .i64 g0_1 w1_2 hi1 ?_
  have H := H b2 h1 hb1 (Fr.no' (Fr.r (In []) _) hf1) hL1
  obtain ⟨s13, hc4, H⟩ := H
  refine rop_one one33 s13.v hc4 ?_
  refine pop_len s13 _ _ sli33 ?_
  refine pop_ieq .i64 _ _ (s13.n : Int) 0 ?_
  refine condM_b (fun hb2 => ?_) (fun hb2 => ?_)
  ·exact H.1 hb2
  have H := H.2 hb2
  refine pop_nil _ ?_
  refine pop_field 0 fld54_0 b1 0 ?_
  refine rop_loc one33 hL1 1 rfl 0 (v := w1_1.v) rfl ?_
  refine pop_nil _ ?_
  refine pop_field 1 fld54_1 b1 0 ?_
  refine rop_loc one3 hL1 1 rfl 1 (v := (VI w1_2)) rfl ?_
  refine pop_nil _ ?_
  refine pop_field 0 fld54_0 b1 0 ?_
  refine rop_loc one33 hL1 1 rfl 0 (v := w1_1.v) rfl ?_
  refine pop_nil _ ?_
  refine pop_field 1 fld54_1 b1 0 ?_
  refine rop_loc one3 hL1 1 rfl 1 (v := (VI w1_2)) rfl ?_
  obtain ⟨hi2, H⟩ := H
  refine pop_index sli33 siz3 .i64 w1_1 w1_2 hi2 ?_
  obtain ⟨s34, hc3, H⟩ := H
  refine rop_one one3 (VI s34) hc3 ?_
  refine pop_add .i64 s34 1 ?_
  refine pop_len s13 _ _ sli33 ?_
  obtain ⟨hz_1, H⟩ := H
  refine pop_rem .i64 (w64 (s34 + 1)) (s13.n : Int) hz_1 ?_
  obtain ⟨hi3, H⟩ := H
  refine pop_index sli33 siz3 .i64 w1_1 w1_2 hi3 ?_
  obtain ⟨hw_1, hL2, H⟩ := H
  refine uop_cell (v := (VI (Int.tmod (w64 (s34 + 1)) (s13.n : Int)))) siz3 hw_1 rfl (fun h2 he_1 => ?_)
  rw [← he_1] at hL2
  have H := H h2 he_1 hL2
  refine pop_nil _ ?_
  refine pop_field 0 fld54_0 b1 0 ?_
  refine rop_loc one33 hL2 1 rfl 0 (v := w1_1.v) rfl ?_
  refine pop_nil _ ?_
  refine pop_field 1 fld54_1 b1 0 ?_
  refine rop_loc one3 hL2 1 rfl 1 (v := (VI w1_2)) rfl ?_
  obtain ⟨hi4, H⟩ := H
  refine pop_index sli33 siz3 .i64 w1_1 w1_2 hi4 ?_
  obtain ⟨s51, hc2, H⟩ := H
  refine rop_one one3 (VI s51) hc2 ?_
  obtain ⟨hi5, H⟩ := H
  refine pop_index sli33 siz3 .i64 s13 s51 hi5 ?_
  obtain ⟨s53, hc1, H⟩ := H
  refine rop_one one3 (VI s53) hc1 ?_
  refine pop_nil _ ?_
  refine pop_field 1 fld54_1 b1 0 ?_
  refine uop_loc siz3 hL2 1 rfl 1 [(VI s53)] rfl rfl rfl (Nat.le_of_ble_eq_true rfl) (L' := [(b2, [g0_1.v]), (b1, [w1_1.v, (VI s53)])]) rfl (fun h3 hf2 hL3 => ?_)
  have H := H  h3  (Fr.old (Fr.r (In []) _) hf2) hL3
  exact H
def u101 (P : Program) (s0 : Int) (b1 : Nat) (s1 : Sl) (b2 : Nat) (s2 : Sl) (s2b : Int) (h : Heap) (K : Value -> Heap -> Prop) : Prop :=
 eop P (Instr.buildSlice 33 1 #[(0, (VI s2b))]) h fun r1 h1 => ∃ s7 : Sl, r1 = s7.v /\ Vars h1 [(b1, [s1.v]), (b2, [s2.v, (VI s2b)])] /\
 eop P (appS 33 33 33 s1.v s7.v) h1 fun r2 h2 => ∃ s8 : Sl, r2 = s8.v /\ Vars h2 [(b1, [s1.v]), (b2, [s2.v, (VI s2b)])] /\
 ∀ (h3 : Heap), Fr (In [b1]) h2 h3 -> Vars h3 [(b1, [s8.v]), (b2, [s2.v, (VI s2b)])] ->
 K (.tuple #[]) h3
theorem v101 (s0 : Int) (b1 : Nat) (s1 : Sl) (b2 : Nat) (s2 : Sl) (s2b : Int) (h : Heap) (K : Value -> Heap -> Prop) (hL : Vars h [(b1, [s1.v]), (b2, [s2.v, (VI s2b)])]) (H : u101 Tryz.prog s0 b1 s1 b2 s2 s2b h K) : callM Tryz.prog 101 #[(VI s0), (VP b1 0), (VP b2 0)] h K := by
  refine c101 (VI s0) (VP b1 0) (VP b2 0) h K ?_
  unfold u101 at H
  unfold t101
  refine rop_loc one33 hL 0 rfl 0 (v := s1.v) rfl ?_
  refine pop_field 1 fld54_1 b2 0 ?_
  refine rop_loc one3 hL 1 rfl 1 (v := (VI s2b)) rfl ?_
  refine H.mono fun r1 h1 H => ?_
  obtain ⟨s7, rfl, hL1, H⟩ := H
  refine H.mono fun r2 h2 H => ?_
  obtain ⟨s8, rfl, hL2, H⟩ := H
  refine uop_loc siz33 hL2 0 rfl 0 [s8.v] rfl rfl rfl (Nat.le_of_ble_eq_true rfl) (L' := [(b1, [s8.v]), (b2, [s2.v, (VI s2b)])]) rfl (fun h3 hf1 hL3 => ?_)
  have H := H  h3  (Fr.old (Fr.r (In []) _) hf1) hL3
  exact H
def u102 (P : Program) (g0_1 : Sl) (h : Heap) (K : Value -> Heap -> Prop) : Prop :=
 ∀ (b1 : Nat) (h1 : Heap), h.size ≤ b1 -> Fr (In []) h h1 -> Vars h1 [(b1, [g0_1.v])] ->
 ∃ J1 : Nat -> Int -> Heap -> Prop, (∃ n0 : Nat, J1 n0 0 h1) /\
 ∀ (n1 : Nat) (s7 : Int) (h2 : Heap), J1 n1 s7 h2 -> Vars h2 [(b1, [g0_1.v])] ->
 ((decide (s7 < (g0_1.n : Int))) = true ->
 callM P 140 #[(.agg #[g0_1.v]), (VI s7)] h2 fun r1 h3 => ∃ s12 : Sl, r1 = s12.v /\ Vars h3 [(b1, [g0_1.v])] /\
 ((!decide ((s12.n : Int) = (g0_1.n : Int))) = true ->
 K (VB false) h3) /\
 ((!decide ((s12.n : Int) = (g0_1.n : Int))) = false ->
 ∃ m : Nat, m < n1 /\ J1 m (w64 (s7 + 1)) h3)) /\
 ((decide (s7 < (g0_1.n : Int))) = false ->
 K (VB true) h2)
theorem v102 (g0_1 : Sl) (h : Heap) (K : Value -> Heap -> Prop) (H : u102 Tryz.prog g0_1 h K) : callM Tryz.prog 102 #[(Value.agg #[g0_1.v])] h K := by
  refine c102 (Value.agg #[g0_1.v]) h K ?_
  unfold u102 at H
  unfold t102
  have hL : Vars h [] := .nil
  refine eop_box 26 (Value.agg #[g0_1.v]) rfl hL (fun b1 h1 hb1 hf1 hL1 => ?_)
  refine pop_field 0 fld26_0 b1 0 ?_
  refine rop_loc one24 hL1 0 rfl 0 (v := g0_1.v) rfl ?_
  refine pop_len g0_1 _ _ sli24 ?_
  have H := H b1 h1 hb1 (Fr.no' (Fr.r (In []) _) hf1) hL1
  obtain ⟨J1, ⟨n2, h0_1⟩, HB1⟩ := H
  refine loop_intro (J := fun (n : Nat) (vs : List Value) (h' : Heap) => ∃ s7 : Int, vs = [(VI s7)] /\ J1 n s7 h' /\ Vars h' [(b1, [g0_1.v])]) n2 ⟨0, rfl, h0_1, hL1⟩ ?_
  intro I1 mu1 hI1 junk1 tv1 h2 hi1
  obtain ⟨n1, ⟨s7, hv, hJ1, hL2⟩, hn1⟩ := hI1 _ _ hi1
  cases hv
  have H := HB1 n1 s7 h2 hJ1 hL2
  refine pop_lss .i64 s7 (g0_1.n : Int) ?_
  refine condM_b (fun hb2 => ?_) (fun hb2 => ?_)
  rotate_left
  ·exact H.2 hb2
  have H := H.1 hb2
  refine rop_locA agg26 hL2 0 rfl 0 (vs := [g0_1.v]) rfl rfl ?_
  refine pop_field 0 fld26_0 b1 0 ?_
  refine rop_loc one24 hL2 0 rfl 0 (v := g0_1.v) rfl ?_
  refine pop_len g0_1 _ _ sli24 ?_
  refine H.mono fun r1 h3 H => ?_
  obtain ⟨s12, rfl, hL3, H⟩ := H
  refine ⟨?_, ?_⟩
  ·exact still_loc one24 hL3 0 rfl 0 (v := g0_1.v) rfl
  refine pop_len s12 _ _ sli33 ?_
  refine pop_ine .i64 _ _ (s12.n : Int) (g0_1.n : Int) ?_
  refine condM_b (fun hb3 => ?_) (fun hb3 => ?_)
  ·exact H.1 hb3
  have H := H.2 hb3
  refine pop_add .i64 s7 1 ?_
  obtain ⟨m_1, hm_1, H⟩ := H
  exact hn1 _ _ ⟨m_1, hm_1, (w64 (s7 + 1)), rfl, H, hL3⟩
def u103 (P : Program) (g0_1 : Sl) (h : Heap) (K : Value -> Heap -> Prop) : Prop :=
 ∀ (b1 : Nat) (h1 : Heap), h.size ≤ b1 -> Fr (In []) h h1 -> Vars h1 [(b1, [g0_1.v])] ->
 ∃ J1 : Nat -> Int -> Heap -> Prop, (∃ n0 : Nat, J1 n0 0 h1) /\
 ∀ (n1 : Nat) (s8 : Int) (h2 : Heap), J1 n1 s8 h2 -> Vars h2 [(b1, [g0_1.v])] ->
 ((decide (s8 < (g0_1.n : Int))) = true ->
 InB g0_1 s8 /\
 ∃ s12 : Sl, hcell h2 (Sl.at g0_1 s8 1) = some s12.v /\
 callM P 141 #[(.agg #[g0_1.v]), (VI s8)] h2 fun r1 h3 => ∃ s17 : Int, r1 = (VI s17) /\ Vars h3 [(b1, [g0_1.v])] /\
 ((!decide ((s12.n : Int) = s17)) = true ->
 K (VB false) h3) /\
 ((!decide ((s12.n : Int) = s17)) = false ->
 ∃ m : Nat, m < n1 /\ J1 m (w64 (s8 + 1)) h3)) /\
 ((decide (s8 < (g0_1.n : Int))) = false ->
 K (VB true) h2)
theorem v103 (g0_1 : Sl) (h : Heap) (K : Value -> Heap -> Prop) (H : u103 Tryz.prog g0_1 h K) : callM Tryz.prog 103 #[(Value.agg #[g0_1.v])] h K := by
  refine c103 (Value.agg #[g0_1.v]) h K ?_
  unfold u103 at H
  unfold t103
  have hL : Vars h [] := .nil
  refine eop_box 26 (Value.agg #[g0_1.v]) rfl hL (fun b1 h1 hb1 hf1 hL1 => ?_)
  refine pop_field 0 fld26_0 b1 0 ?_
  refine rop_loc one24 hL1 0 rfl 0 (v := g0_1.v) rfl ?_
  refine pop_len g0_1 _ _ sli24 ?_
  have H := H b1 h1 hb1 (Fr.no' (Fr.r (In []) _) hf1) hL1
  obtain ⟨J1, ⟨n2, h0_1⟩, HB1⟩ := H
  refine loop_intro (J := fun (n : Nat) (vs : List Value) (h' : Heap) => ∃ s8 : Int, vs = [(VI s8)] /\ J1 n s8 h' /\ Vars h' [(b1, [g0_1.v])]) n2 ⟨0, rfl, h0_1, hL1⟩ ?_
  intro I1 mu1 hI1 junk1 tv1 h2 hi1
  obtain ⟨n1, ⟨s8, hv, hJ1, hL2⟩, hn1⟩ := hI1 _ _ hi1
  cases hv
  have H := HB1 n1 s8 h2 hJ1 hL2
  refine pop_lss .i64 s8 (g0_1.n : Int) ?_
  refine condM_b (fun hb2 => ?_) (fun hb2 => ?_)
  rotate_left
  ·exact H.2 hb2
  have H := H.1 hb2
  obtain ⟨hi2, H⟩ := H
  refine pop_index sli24 siz33 .i64 g0_1 s8 hi2 ?_
  obtain ⟨s12, hc1, H⟩ := H
  refine rop_one one33 s12.v hc1 ?_
  refine pop_len s12 _ _ sli33 ?_
  refine rop_locA agg26 hL2 0 rfl 0 (vs := [g0_1.v]) rfl rfl ?_
  refine H.mono fun r1 h3 H => ?_
  obtain ⟨s17, rfl, hL3, H⟩ := H
  refine pop_ine .i64 _ _ (s12.n : Int) s17 ?_
  refine condM_b (fun hb3 => ?_) (fun hb3 => ?_)
  ·exact H.1 hb3
  have H := H.2 hb3
  refine pop_add .i64 s8 1 ?_
  obtain ⟨m_1, hm_1, H⟩ := H
  exact hn1 _ _ ⟨m_1, hm_1, (w64 (s8 + 1)), rfl, H, hL3⟩
def u104 (P : Program) (g0_1 : Sl) (h : Heap) (K : Value -> Heap -> Prop) : Prop :=
 ∀ (b1 : Nat) (h1 : Heap), h.size ≤ b1 -> Fr (In []) h h1 -> Vars h1 [(b1, [g0_1.v])] ->
 ∃ J1 : Nat -> Int -> Int -> Heap -> Prop, (∃ n0 : Nat, J1 n0 0 0 h1) /\
 ∀ (n1 : Nat) (n3_1 : Int) (s9 : Int) (h2 : Heap), J1 n1 n3_1 s9 h2 -> Vars h2 [(b1, [g0_1.v])] ->
 ((decide (s9 < (g0_1.n : Int))) = true ->
 InB g0_1 s9 /\
 ∃ s12 : Sl, hcell h2 (Sl.at g0_1 s9 1) = some s12.v /\
 ∃ m : Nat, m < n1 /\ J1 m (w64 (n3_1 + (s12.n : Int))) (w64 (s9 + 1)) h2) /\
 ((decide (s9 < (g0_1.n : Int))) = false ->
 K (VI n3_1) h2)
theorem v104 (g0_1 : Sl) (h : Heap) (K : Value -> Heap -> Prop) (H : u104 Tryz.prog g0_1 h K) : callM Tryz.prog 104 #[(Value.agg #[g0_1.v])] h K := by
  refine c104 (Value.agg #[g0_1.v]) h K ?_
  unfold u104 at H
  unfold t104
  have hL : Vars h [] := .nil
  refine eop_box 26 (Value.agg #[g0_1.v]) rfl hL (fun b1 h1 hb1 hf1 hL1 => ?_)
  refine pop_field 0 fld26_0 b1 0 ?_
  refine rop_loc one24 hL1 0 rfl 0 (v := g0_1.v) rfl ?_
  refine pop_len g0_1 _ _ sli24 ?_
  have H := H b1 h1 hb1 (Fr.no' (Fr.r (In []) _) hf1) hL1
  obtain ⟨J1, ⟨n2, h0_1⟩, HB1⟩ := H
  refine loop_intro (J := fun (n : Nat) (vs : List Value) (h' : Heap) => ∃ n3_1 : Int, ∃ s9 : Int, vs = [(VI n3_1), (VI s9)] /\ J1 n n3_1 s9 h' /\ Vars h' [(b1, [g0_1.v])]) n2 ⟨0, 0, rfl, h0_1, hL1⟩ ?_
  intro I1 mu1 hI1 junk1 tv1 tv2 h2 hi1
  obtain ⟨n1, ⟨n3_1, s9, hv, hJ1, hL2⟩, hn1⟩ := hI1 _ _ hi1
  cases hv
  have H := HB1 n1 n3_1 s9 h2 hJ1 hL2
  refine pop_lss .i64 s9 (g0_1.n : Int) ?_
  refine condM_b (fun hb2 => ?_) (fun hb2 => ?_)
  rotate_left
  ·exact H.2 hb2
  have H := H.1 hb2
  obtain ⟨hi2, H⟩ := H
  refine pop_index sli24 siz33 .i64 g0_1 s9 hi2 ?_
  obtain ⟨s12, hc1, H⟩ := H
  refine rop_one one33 s12.v hc1 ?_
  refine pop_len s12 _ _ sli33 ?_
  refine pop_add .i64 n3_1 (s12.n : Int) ?_
  refine pop_add .i64 s9 1 ?_
  obtain ⟨m_1, hm_1, H⟩ := H
  exact hn1 _ _ ⟨m_1, hm_1, (w64 (n3_1 + (s12.n : Int))), (w64 (s9 + 1)), rfl, H, hL2⟩
def u105 (P : Program) (g0_1 : Sl) (w1_1 : Sl) (w1_2 : Int) (h : Heap) (K : Value -> Heap -> Prop) : Prop :=
 InB g0_1 w1_2 /\
 ∀ (b1 : Nat) (b2 : Nat) (b3 : Nat) (h3 : Heap), h.size ≤ b1 -> h.size ≤ b2 -> h.size ≤ b3 -> Fr (In []) h h3 -> Vars h3 [(b3, [nilSl.v, (VI 0)]), (b2, [w1_1.v, (VI w1_2)]), (b1, [g0_1.v])] ->
 ∃ s14 : Sl, hcell h3 (Sl.at g0_1 w1_2 1) = some s14.v /\
 ((decide ((s14.n : Int) = 0)) = true ->
 ∀ (h4 : Heap), Fr (In [b3]) h3 h4 -> Vars h4 [(b3, [w1_1.v, (VI w1_2)]), (b2, [w1_1.v, (VI w1_2)]), (b1, [g0_1.v])] ->
 K (.tuple #[(.agg #[w1_1.v, (VI w1_2)]), (VB false)]) h4) /\
 ((decide ((s14.n : Int) = 0)) = false ->
 callM P 119 #[w1_1.v] h3 fun r1 h5 => ∃ s21 : Sl, r1 = s21.v /\ Vars h5 [(b3, [nilSl.v, (VI 0)]), (b2, [w1_1.v, (VI w1_2)]), (b1, [g0_1.v])] /\
 InB w1_1 w1_2 /\
 ∀ (b4 : Nat) (h7 : Heap), h5.size ≤ b4 -> Fr (In []) h5 h7 -> Vars h7 [(b4, [s21.v, (VI 0)]), (b3, [nilSl.v, (VI 0)]), (b2, [w1_1.v, (VI w1_2)]), (b1, [g0_1.v])] ->
 ∃ s28 : Int, hcell h7 (Sl.at w1_1 w1_2 1) = some (VI s28) /\
 (s14.n : Int) ≠ 0 /\
 InB s21 w1_2 /\
 Writable h7 (Sl.at s21 w1_2 1) /\ Vars (hset h7 (Sl.at s21 w1_2 1) (VI (Int.tmod (w64 (s28 + 1)) (s14.n : Int)))) [(b4, [s21.v, (VI 0)]), (b3, [nilSl.v, (VI 0)]), (b2, [w1_1.v, (VI w1_2)]), (b1, [g0_1.v])] /\
 ∀ h8 : Heap, h8 = hset h7 (Sl.at s21 w1_2 1) (VI (Int.tmod (w64 (s28 + 1)) (s14.n : Int))) -> Vars h8 [(b4, [s21.v, (VI 0)]), (b3, [nilSl.v, (VI 0)]), (b2, [w1_1.v, (VI w1_2)]), (b1, [g0_1.v])] ->
 InB s14 (Int.tmod (w64 (s28 + 1)) (s14.n : Int)) /\
 ∃ s42 : Int, hcell h8 (Sl.at s14 (Int.tmod (w64 (s28 + 1)) (s14.n : Int)) 1) = some (VI s42) /\
 ∀ (h10 : Heap), Fr (In [b3, b4]) h8 h10 -> Vars h10 [(b4, [s21.v, (VI s42)]), (b3, [s21.v, (VI s42)]), (b2, [w1_1.v, (VI w1_2)]), (b1, [g0_1.v])] ->
 K (.tuple #[(.agg #[s21.v, (VI s42)]), (VB true)]) h10)
theorem v105 (g0_1 : Sl) (w1_1 : Sl) (w1_2 : Int) (h : Heap) (K : Value -> Heap -> Prop) (H : u105 Tryz.prog g0_1 w1_1 w1_2 h K) : callM Tryz.prog 105 #[(Value.agg #[g0_1.v]), (Value.agg #[w1_1.v, (VI w1_2)])] h K := by
  refine c105 (Value.agg #[g0_1.v]) (Value.agg #[w1_1.v, (VI w1_2)]) h K ?_
  unfold u105 at H
  unfold t105
  have hL : Vars h [] := .nil
  refine eop_box 26 (Value.agg #[g0_1.v]) rfl hL (fun b1 h1 hb1 hf1 hL1 => ?_)
  refine eop_box 54 (Value.agg #[w1_1.v, (VI w1_2)]) rfl hL1 (fun b2 h2 hb2 hf2 hL2 => ?_)
  refine eop_alloc 54 zer54 rfl hL2 (fun b3 h3 hb3 hf3 hL3 => ?_)
  refine pop_field 0 fld26_0 b1 0 ?_
  refine rop_loc one24 hL3 2 rfl 0 (v := g0_1.v) rfl ?_
  refine pop_field 1 fld54_1 b2 0 ?_
  refine rop_loc one3 hL3 1 rfl 1 (v := (VI w1_2)) rfl ?_
  obtain ⟨hi1, H⟩ := H
  refine pop_index sli24 siz33 .i64 g0_1 w1_2 hi1 ?_
  have H := H b1 b2 b3 h3 hb1 (Nat.le_trans (Fr.size (Fr.no' (Fr.r (In []) _) hf1)) hb2) (Nat.le_trans (Fr.size (Fr.no' (Fr.no' (Fr.r (In []) _) hf1) hf2)) hb3) (Fr.no' (Fr.no' (Fr.no' (Fr.r (In []) _) hf1) hf2) hf3) hL3
  obtain ⟨s14, hc3, H⟩ := H
  refine rop_one one33 s14.v hc3 ?_
  refine pop_len s14 _ _ sli33 ?_
  refine pop_ieq .i64 _ _ (s14.n : Int) 0 ?_
  refine condM_b (fun hb4 => ?_) (fun hb4 => ?_)
  ·have H := H.1 hb4
   refine rop_locA agg54 hL3 1 rfl 0 (vs := [w1_1.v, (VI w1_2)]) rfl rfl ?_
   refine uop_loc siz54 hL3 0 rfl 0 [w1_1.v, (VI w1_2)] rfl rfl rfl (Nat.le_of_ble_eq_true rfl) (L' := [(b3, [w1_1.v, (VI w1_2)]), (b2, [w1_1.v, (VI w1_2)]), (b1, [g0_1.v])]) rfl (fun h4 hf4 hL4 => ?_)
   refine rop_locA agg54 hL4 0 rfl 0 (vs := [w1_1.v, (VI w1_2)]) rfl rfl ?_
   have H := H  h4  (Fr.old (Fr.r (In []) _) hf4) hL4
   exact H
  have H := H.2 hb4
  refine pop_field 0 fld54_0 b2 0 ?_
  refine rop_loc one33 hL3 1 rfl 0 (v := w1_1.v) rfl ?_
  refine H.mono fun r1 h5 H => ?_
  obtain ⟨s21, rfl, hL5, H⟩ := H
  refine pop.mk' (v := (Value.agg #[s21.v, (VI 0)])) (fun w => by kernel_rfl) ?_
  refine eop_alloc 54 zer54 rfl hL5 (fun b4 h6 hb5 hf5 hL6 => ?_)
  refine uop_loc siz54 hL6 0 rfl 0 [s21.v, (VI 0)] rfl rfl rfl (Nat.le_of_ble_eq_true rfl) (L' := [(b4, [s21.v, (VI 0)]), (b3, [nilSl.v, (VI 0)]), (b2, [w1_1.v, (VI w1_2)]), (b1, [g0_1.v])]) rfl (fun h7 hf6 hL7 => ?_)
  refine pop_field 0 fld54_0 b2 0 ?_
  refine rop_loc one33 hL7 2 rfl 0 (v := w1_1.v) rfl ?_
  refine pop_field 1 fld54_1 b2 0 ?_
  refine rop_loc one3 hL7 2 rfl 1 (v := (VI w1_2)) rfl ?_
  obtain ⟨hi2, H⟩ := H
  refine pop_index sli33 siz3 .i64 w1_1 w1_2 hi2 ?_
  have H := H b4 h7 hb5 (Fr.new (Fr.no' (Fr.r (In []) _) hf5) hb5 hf6) hL7
  obtain ⟨s28, hc2, H⟩ := H
  refine rop_one one3 (VI s28) hc2 ?_
  refine pop_add .i64 s28 1 ?_
  refine pop_len s14 _ _ sli33 ?_
  obtain ⟨hz_1, H⟩ := H
  refine pop_rem .i64 (w64 (s28 + 1)) (s14.n : Int) hz_1 ?_
  refine pop_field 0 fld54_0 b4 0 ?_
  refine rop_loc one33 hL7 0 rfl 0 (v := s21.v) rfl ?_
  refine pop_field 1 fld54_1 b2 0 ?_
  refine rop_loc one3 hL7 2 rfl 1 (v := (VI w1_2)) rfl ?_
  obtain ⟨hi3, H⟩ := H
  refine pop_index sli33 siz3 .i64 s21 w1_2 hi3 ?_
  obtain ⟨hw_1, hL8, H⟩ := H
  refine uop_cell (v := (VI (Int.tmod (w64 (s28 + 1)) (s14.n : Int)))) siz3 hw_1 rfl (fun h8 he_1 => ?_)
  rw [← he_1] at hL8
  have H := H h8 he_1 hL8
  obtain ⟨hi4, H⟩ := H
  refine pop_index sli33 siz3 .i64 s14 (Int.tmod (w64 (s28 + 1)) (s14.n : Int)) hi4 ?_
  obtain ⟨s42, hc1, H⟩ := H
  refine rop_one one3 (VI s42) hc1 ?_
  refine pop_field 1 fld54_1 b4 0 ?_
  refine uop_loc siz3 hL8 0 rfl 1 [(VI s42)] rfl rfl rfl (Nat.le_of_ble_eq_true rfl) (L' := [(b4, [s21.v, (VI s42)]), (b3, [nilSl.v, (VI 0)]), (b2, [w1_1.v, (VI w1_2)]), (b1, [g0_1.v])]) rfl (fun h9 hf7 hL9 => ?_)
  refine rop_locA agg54 hL9 0 rfl 0 (vs := [s21.v, (VI s42)]) rfl rfl ?_
  refine uop_loc siz54 hL9 1 rfl 0 [s21.v, (VI s42)] rfl rfl rfl (Nat.le_of_ble_eq_true rfl) (L' := [(b4, [s21.v, (VI s42)]), (b3, [s21.v, (VI s42)]), (b2, [w1_1.v, (VI w1_2)]), (b1, [g0_1.v])]) rfl (fun h10 hf8 hL10 => ?_)
  refine rop_locA agg54 hL10 1 rfl 0 (vs := [s21.v, (VI s42)]) rfl rfl ?_
  have H := H  h10  (Fr.old (Fr.old (Fr.r (In []) _) hf7) hf8) hL10
  exact H
def u106 (P : Program) (g0_1 : Sl) (w1_1 : Sl) (w1_2 : Int) (n2_1 : Int) (h : Heap) (K : Value -> Heap -> Prop) : Prop :=
 ∀ (b1 : Nat) (b2 : Nat) (b3 : Nat) (h3 : Heap), h.size ≤ b1 -> h.size ≤ b2 -> h.size ≤ b3 -> Fr (In []) h h3 -> Vars h3 [(b3, [nilSl.v, (VI 0), nilSl.v, nilSl.v, nilSl.v]), (b2, [w1_1.v, (VI w1_2)]), (b1, [g0_1.v])] ->
 ∃ J1 : Nat -> Sl -> Int -> Sl -> Sl -> Sl -> Heap -> Prop, ((eop P (Instr.buildSlice 33 1 #[(0, (VI w1_2))]) h3 fun r1 h4 => ∃ s17 : Sl, r1 = s17.v /\ Vars h4 [(b3, [nilSl.v, (VI 0), nilSl.v, nilSl.v, nilSl.v]), (b2, [w1_1.v, (VI w1_2)]), (b1, [g0_1.v])] /\
 (eop P (Instr.makeSlice 33 (VI (g0_1.n : Int)) (VI (g0_1.n : Int))) h4 fun r2 h5 => ∃ s21 : Sl, r2 = s21.v /\ Vars h5 [(b3, [nilSl.v, (VI 0), nilSl.v, nilSl.v, nilSl.v]), (b2, [w1_1.v, (VI w1_2)]), (b1, [g0_1.v])] /\
 ∀ (b5 : Nat) (h6 : Heap), h5.size ≤ b5 -> Fr (In []) h5 h6 -> Vars h6 [(b5, [nilSl.v, (VI 0), nilSl.v, nilSl.v, nilSl.v]), (b3, [nilSl.v, (VI 0), nilSl.v, nilSl.v, nilSl.v]), (b2, [w1_1.v, (VI w1_2)]), (b1, [g0_1.v])] ->
 ∀ (h7 : Heap), Fr (In [b5]) h6 h7 -> Vars h7 [(b5, [w1_1.v, (VI w1_2), s17.v, s21.v, nilSl.v]), (b3, [nilSl.v, (VI 0), nilSl.v, nilSl.v, nilSl.v]), (b2, [w1_1.v, (VI w1_2)]), (b1, [g0_1.v])] ->
 J1 b5 w1_1 w1_2 s17 s21 nilSl h7) /\
 (∀ (b6 : Nat) (h8 : Heap), h4.size ≤ b6 -> Fr (In []) h4 h8 -> Vars h8 [(b6, [nilSl.v, (VI 0), nilSl.v, nilSl.v, nilSl.v]), (b3, [nilSl.v, (VI 0), nilSl.v, nilSl.v, nilSl.v]), (b2, [w1_1.v, (VI w1_2)]), (b1, [g0_1.v])] ->
 eop P (Instr.makeSlice 33 (VI (g0_1.n : Int)) (VI (g0_1.n : Int))) h8 fun r3 h9 => ∃ s21b : Sl, r3 = s21b.v /\ Vars h9 [(b6, [nilSl.v, (VI 0), nilSl.v, nilSl.v, nilSl.v]), (b3, [nilSl.v, (VI 0), nilSl.v, nilSl.v, nilSl.v]), (b2, [w1_1.v, (VI w1_2)]), (b1, [g0_1.v])] /\
 ∀ (h10 : Heap), Fr (In [b6]) h9 h10 -> Vars h10 [(b6, [w1_1.v, (VI w1_2), s17.v, s21b.v, nilSl.v]), (b3, [nilSl.v, (VI 0), nilSl.v, nilSl.v, nilSl.v]), (b2, [w1_1.v, (VI w1_2)]), (b1, [g0_1.v])] ->
 J1 b6 w1_1 w1_2 s17 s21b nilSl h10)) /\
 (eop P (Instr.makeSlice 33 (VI (g0_1.n : Int)) (VI (g0_1.n : Int))) h3 fun r4 h11 => ∃ s21c : Sl, r4 = s21c.v /\ Vars h11 [(b3, [nilSl.v, (VI 0), nilSl.v, nilSl.v, nilSl.v]), (b2, [w1_1.v, (VI w1_2)]), (b1, [g0_1.v])] /\
 (eop P (Instr.buildSlice 33 1 #[(0, (VI w1_2))]) h11 fun r5 h12 => ∃ s17b : Sl, r5 = s17b.v /\ Vars h12 [(b3, [nilSl.v, (VI 0), nilSl.v, nilSl.v, nilSl.v]), (b2, [w1_1.v, (VI w1_2)]), (b1, [g0_1.v])] /\
 ∀ (b7 : Nat) (h13 : Heap), h12.size ≤ b7 -> Fr (In []) h12 h13 -> Vars h13 [(b7, [nilSl.v, (VI 0), nilSl.v, nilSl.v, nilSl.v]), (b3, [nilSl.v, (VI 0), nilSl.v, nilSl.v, nilSl.v]), (b2, [w1_1.v, (VI w1_2)]), (b1, [g0_1.v])] ->
 ∀ (h14 : Heap), Fr (In [b7]) h13 h14 -> Vars h14 [(b7, [w1_1.v, (VI w1_2), s17b.v, s21c.v, nilSl.v]), (b3, [nilSl.v, (VI 0), nilSl.v, nilSl.v, nilSl.v]), (b2, [w1_1.v, (VI w1_2)]), (b1, [g0_1.v])] ->
 J1 b7 w1_1 w1_2 s17b s21c nilSl h14) /\
 (∀ (b8 : Nat) (h15 : Heap), h11.size ≤ b8 -> Fr (In []) h11 h15 -> Vars h15 [(b8, [nilSl.v, (VI 0), nilSl.v, nilSl.v, nilSl.v]), (b3, [nilSl.v, (VI 0), nilSl.v, nilSl.v, nilSl.v]), (b2, [w1_1.v, (VI w1_2)]), (b1, [g0_1.v])] ->
 eop P (Instr.buildSlice 33 1 #[(0, (VI w1_2))]) h15 fun r6 h16 => ∃ s17c : Sl, r6 = s17c.v /\ Vars h16 [(b8, [nilSl.v, (VI 0), nilSl.v, nilSl.v, nilSl.v]), (b3, [nilSl.v, (VI 0), nilSl.v, nilSl.v, nilSl.v]), (b2, [w1_1.v, (VI w1_2)]), (b1, [g0_1.v])] /\
 ∀ (h17 : Heap), Fr (In [b8]) h16 h17 -> Vars h17 [(b8, [w1_1.v, (VI w1_2), s17c.v, s21c.v, nilSl.v]), (b3, [nilSl.v, (VI 0), nilSl.v, nilSl.v, nilSl.v]), (b2, [w1_1.v, (VI w1_2)]), (b1, [g0_1.v])] ->
 J1 b8 w1_1 w1_2 s17c s21c nilSl h17)) /\
 (∀ (b9 : Nat) (h18 : Heap), h3.size ≤ b9 -> Fr (In []) h3 h18 -> Vars h18 [(b9, [nilSl.v, (VI 0), nilSl.v, nilSl.v, nilSl.v]), (b3, [nilSl.v, (VI 0), nilSl.v, nilSl.v, nilSl.v]), (b2, [w1_1.v, (VI w1_2)]), (b1, [g0_1.v])] ->
 (eop P (Instr.buildSlice 33 1 #[(0, (VI w1_2))]) h18 fun r7 h19 => ∃ s17d : Sl, r7 = s17d.v /\ Vars h19 [(b9, [nilSl.v, (VI 0), nilSl.v, nilSl.v, nilSl.v]), (b3, [nilSl.v, (VI 0), nilSl.v, nilSl.v, nilSl.v]), (b2, [w1_1.v, (VI w1_2)]), (b1, [g0_1.v])] /\
 eop P (Instr.makeSlice 33 (VI (g0_1.n : Int)) (VI (g0_1.n : Int))) h19 fun r8 h20 => ∃ s21d : Sl, r8 = s21d.v /\ Vars h20 [(b9, [nilSl.v, (VI 0), nilSl.v, nilSl.v, nilSl.v]), (b3, [nilSl.v, (VI 0), nilSl.v, nilSl.v, nilSl.v]), (b2, [w1_1.v, (VI w1_2)]), (b1, [g0_1.v])] /\
 ∀ (h21 : Heap), Fr (In [b9]) h20 h21 -> Vars h21 [(b9, [w1_1.v, (VI w1_2), s17d.v, s21d.v, nilSl.v]), (b3, [nilSl.v, (VI 0), nilSl.v, nilSl.v, nilSl.v]), (b2, [w1_1.v, (VI w1_2)]), (b1, [g0_1.v])] ->
 J1 b9 w1_1 w1_2 s17d s21d nilSl h21) /\
 (eop P (Instr.makeSlice 33 (VI (g0_1.n : Int)) (VI (g0_1.n : Int))) h18 fun r9 h22 => ∃ s21e : Sl, r9 = s21e.v /\ Vars h22 [(b9, [nilSl.v, (VI 0), nilSl.v, nilSl.v, nilSl.v]), (b3, [nilSl.v, (VI 0), nilSl.v, nilSl.v, nilSl.v]), (b2, [w1_1.v, (VI w1_2)]), (b1, [g0_1.v])] /\
 eop P (Instr.buildSlice 33 1 #[(0, (VI w1_2))]) h22 fun r10 h23 => ∃ s17e : Sl, r10 = s17e.v /\ Vars h23 [(b9, [nilSl.v, (VI 0), nilSl.v, nilSl.v, nilSl.v]), (b3, [nilSl.v, (VI 0), nilSl.v, nilSl.v, nilSl.v]), (b2, [w1_1.v, (VI w1_2)]), (b1, [g0_1.v])] /\
 ∀ (h24 : Heap), Fr (In [b9]) h23 h24 -> Vars h24 [(b9, [w1_1.v, (VI w1_2), s17e.v, s21e.v, nilSl.v]), (b3, [nilSl.v, (VI 0), nilSl.v, nilSl.v, nilSl.v]), (b2, [w1_1.v, (VI w1_2)]), (b1, [g0_1.v])] ->
 J1 b9 w1_1 w1_2 s17e s21e nilSl h24))) /\
 ∀ (b4 : Nat) (y1 : Sl) (y2 : Int) (y3 : Sl) (y4 : Sl) (y5 : Sl) (h25 : Heap), J1 b4 y1 y2 y3 y4 y5 h25 -> Vars h25 [(b4, [y1.v, (VI y2), y3.v, y4.v, y5.v]), (b3, [nilSl.v, (VI 0), nilSl.v, nilSl.v, nilSl.v]), (b2, [w1_1.v, (VI w1_2)]), (b1, [g0_1.v])] ->
 ∃ J2 : Nat -> Int -> Sl -> Int -> Sl -> Sl -> Sl -> Heap -> Prop, (∃ n0 : Nat, J2 n0 0 y1 y2 y3 y4 y5 h25) /\
 ∀ (n1 : Nat) (s26 : Int) (y6 : Sl) (y7 : Int) (y8 : Sl) (y9 : Sl) (y10 : Sl) (h26 : Heap), J2 n1 s26 y6 y7 y8 y9 y10 h26 -> Vars h26 [(b4, [y6.v, (VI y7), y8.v, y9.v, y10.v]), (b3, [nilSl.v, (VI 0), nilSl.v, nilSl.v, nilSl.v]), (b2, [w1_1.v, (VI w1_2)]), (b1, [g0_1.v])] ->
 ((decide (s26 < (g0_1.n : Int))) = true ->
 InB g0_1 s26 /\
 ∃ s29 : Sl, hcell h26 (Sl.at g0_1 s26 1) = some s29.v /\
 eop P (Instr.makeSlice 33 (VI (s29.n : Int)) (VI (s29.n : Int))) h26 fun r11 h27 => ∃ s34 : Sl, r11 = s34.v /\ Vars h27 [(b4, [y6.v, (VI y7), y8.v, y9.v, y10.v]), (b3, [nilSl.v, (VI 0), nilSl.v, nilSl.v, nilSl.v]), (b2, [w1_1.v, (VI w1_2)]), (b1, [g0_1.v])] /\
 eop P (Instr.buildSlice 24 1 #[(0, s34.v)]) h27 fun r12 h28 => ∃ s35 : Sl, r12 = s35.v /\ Vars h28 [(b4, [y6.v, (VI y7), y8.v, y9.v, y10.v]), (b3, [nilSl.v, (VI 0), nilSl.v, nilSl.v, nilSl.v]), (b2, [w1_1.v, (VI w1_2)]), (b1, [g0_1.v])] /\
 eop P (appS 24 24 24 y10.v s35.v) h28 fun r13 h29 => ∃ s36 : Sl, r13 = s36.v /\ Vars h29 [(b4, [y6.v, (VI y7), y8.v, y9.v, y10.v]), (b3, [nilSl.v, (VI 0), nilSl.v, nilSl.v, nilSl.v]), (b2, [w1_1.v, (VI w1_2)]), (b1, [g0_1.v])] /\
 ∀ (h30 : Heap), Fr (In [b4]) h29 h30 -> Vars h30 [(b4, [y6.v, (VI y7), y8.v, y9.v, s36.v]), (b3, [nilSl.v, (VI 0), nilSl.v, nilSl.v, nilSl.v]), (b2, [w1_1.v, (VI w1_2)]), (b1, [g0_1.v])] ->
 ∃ m : Nat, m < n1 /\ J2 m (w64 (s26 + 1)) y6 y7 y8 y9 s36 h30) /\
 ((decide (s26 < (g0_1.n : Int))) = false ->
 ∃ J3 : Nat -> Int -> Sl -> Int -> Sl -> Sl -> Sl -> Heap -> Prop, (∃ n0 : Nat, J3 n0 n2_1 y6 y7 y8 y9 y10 h26) /\
 ∀ (n2 : Nat) (n2_2 : Int) (y11 : Sl) (y12 : Int) (y13 : Sl) (y14 : Sl) (y15 : Sl) (h31 : Heap), J3 n2 n2_2 y11 y12 y13 y14 y15 h31 -> Vars h31 [(b4, [y11.v, (VI y12), y13.v, y14.v, y15.v]), (b3, [nilSl.v, (VI 0), nilSl.v, nilSl.v, nilSl.v]), (b2, [w1_1.v, (VI w1_2)]), (b1, [g0_1.v])] ->
 ((decide (0 < n2_2)) = true ->
 callM P 105 #[(.agg #[g0_1.v]), (.agg #[y11.v, (VI y12)])] h31 fun r14 h32 => ∃ s47 : Sl, ∃ s47b : Int, ∃ s47c : Bool, r14 = (.tuple #[(.agg #[s47.v, (VI s47b)]), (VB s47c)]) /\ Vars h32 [(b4, [y11.v, (VI y12), y13.v, y14.v, y15.v]), (b3, [nilSl.v, (VI 0), nilSl.v, nilSl.v, nilSl.v]), (b2, [w1_1.v, (VI w1_2)]), (b1, [g0_1.v])] /\
 ((!s47c) = true ->
 ∀ (b10 : Nat) (h35 : Heap), h32.size ≤ b10 -> Fr (In [b3]) h32 h35 -> Vars h35 [(b10, [s47.v, (VI s47b)]), (b4, [y11.v, (VI y12), y13.v, y14.v, y15.v]), (b3, [nilSl.v, (VI 0), nilSl.v, nilSl.v, nilSl.v]), (b2, [w1_1.v, (VI w1_2)]), (b1, [g0_1.v])] ->
 K (.tuple #[(.agg #[nilSl.v, (VI 0), nilSl.v, nilSl.v, nilSl.v]), (VB false)]) h35) /\
 ((!s47c) = false ->
 InB y15 y12 /\
 ∀ (b10 : Nat) (h34 : Heap), h32.size ≤ b10 -> Fr (In []) h32 h34 -> Vars h34 [(b10, [s47.v, (VI s47b)]), (b4, [y11.v, (VI y12), y13.v, y14.v, y15.v]), (b3, [nilSl.v, (VI 0), nilSl.v, nilSl.v, nilSl.v]), (b2, [w1_1.v, (VI w1_2)]), (b1, [g0_1.v])] ->
 ∃ s59 : Sl, hcell h34 (Sl.at y15 y12 1) = some s59.v /\
 InB s47 y12 /\
 ∃ s67 : Int, hcell h34 (Sl.at s47 y12 1) = some (VI s67) /\
 InB s59 s67 /\
 ∃ s69 : Int, hcell h34 (Sl.at s59 s67 1) = some (VI s69) /\
 InB s59 s67 /\
 Writable h34 (Sl.at s59 s67 1) /\ Vars (hset h34 (Sl.at s59 s67 1) (VI (w64 (s69 + 1)))) [(b10, [s47.v, (VI s47b)]), (b4, [y11.v, (VI y12), y13.v, y14.v, y15.v]), (b3, [nilSl.v, (VI 0), nilSl.v, nilSl.v, nilSl.v]), (b2, [w1_1.v, (VI w1_2)]), (b1, [g0_1.v])] /\
 ∀ h36 : Heap, h36 = hset h34 (Sl.at s59 s67 1) (VI (w64 (s69 + 1))) -> Vars h36 [(b10, [s47.v, (VI s47b)]), (b4, [y11.v, (VI y12), y13.v, y14.v, y15.v]), (b3, [nilSl.v, (VI 0), nilSl.v, nilSl.v, nilSl.v]), (b2, [w1_1.v, (VI w1_2)]), (b1, [g0_1.v])] ->
 InB y14 s47b /\
 ∃ s77 : Int, hcell h36 (Sl.at y14 s47b 1) = some (VI s77) /\
 InB y14 s47b /\
 Writable h36 (Sl.at y14 s47b 1) /\ Vars (hset h36 (Sl.at y14 s47b 1) (VI (w64 (s77 + 1)))) [(b10, [s47.v, (VI s47b)]), (b4, [y11.v, (VI y12), y13.v, y14.v, y15.v]), (b3, [nilSl.v, (VI 0), nilSl.v, nilSl.v, nilSl.v]), (b2, [w1_1.v, (VI w1_2)]), (b1, [g0_1.v])] /\
 ∀ h37 : Heap, h37 = hset h36 (Sl.at y14 s47b 1) (VI (w64 (s77 + 1))) -> Vars h37 [(b10, [s47.v, (VI s47b)]), (b4, [y11.v, (VI y12), y13.v, y14.v, y15.v]), (b3, [nilSl.v, (VI 0), nilSl.v, nilSl.v, nilSl.v]), (b2, [w1_1.v, (VI w1_2)]), (b1, [g0_1.v])] ->
 eop P (Instr.buildSlice 33 1 #[(0, (VI s47b))]) h37 fun r15 h38 => ∃ s84 : Sl, r15 = s84.v /\ Vars h38 [(b10, [s47.v, (VI s47b)]), (b4, [y11.v, (VI y12), y13.v, y14.v, y15.v]), (b3, [nilSl.v, (VI 0), nilSl.v, nilSl.v, nilSl.v]), (b2, [w1_1.v, (VI w1_2)]), (b1, [g0_1.v])] /\
 eop P (appS 33 33 33 y13.v s84.v) h38 fun r16 h39 => ∃ s85 : Sl, r16 = s85.v /\ Vars h39 [(b10, [s47.v, (VI s47b)]), (b4, [y11.v, (VI y12), y13.v, y14.v, y15.v]), (b3, [nilSl.v, (VI 0), nilSl.v, nilSl.v, nilSl.v]), (b2, [w1_1.v, (VI w1_2)]), (b1, [g0_1.v])] /\
 ∀ (h41 : Heap), Fr (In [b4, b4]) h39 h41 -> Vars h41 [(b10, [s47.v, (VI s47b)]), (b4, [s47.v, (VI s47b), s85.v, y14.v, y15.v]), (b3, [nilSl.v, (VI 0), nilSl.v, nilSl.v, nilSl.v]), (b2, [w1_1.v, (VI w1_2)]), (b1, [g0_1.v])] ->
 ∃ m : Nat, m < n2 /\ J3 m (w64 (n2_2 - 1)) s47 s47b s85 y14 y15 h41)) /\
 ((decide (0 < n2_2)) = false ->
 ∀ (h42 : Heap), Fr (In [b3]) h31 h42 -> Vars h42 [(b4, [y11.v, (VI y12), y13.v, y14.v, y15.v]), (b3, [y11.v, (VI y12), y13.v, y14.v, y15.v]), (b2, [w1_1.v, (VI w1_2)]), (b1, [g0_1.v])] ->
 K (.tuple #[(.agg #[y11.v, (VI y12), y13.v, y14.v, y15.v]), (VB true)]) h42))
theorem v106 (g0_1 : Sl) (w1_1 : Sl) (w1_2 : Int) (n2_1 : Int) (h : Heap) (K : Value -> Heap -> Prop) (H : u106 Tryz.prog g0_1 w1_1 w1_2 n2_1 h K) : callM Tryz.prog 106 #[(Value.agg #[g0_1.v]), (Value.agg #[w1_1.v, (VI w1_2)]), (VI n2_1)] h K := by
  refine c106 (Value.agg #[g0_1.v]) (Value.agg #[w1_1.v, (VI w1_2)]) (VI n2_1) h K ?_
  unfold u106 at H
  unfold t106
  have hL : Vars h [] := .nil
  refine eop_box 26 (Value.agg #[g0_1.v]) rfl hL (fun b1 h1 hb1 hf1 hL1 => ?_)
  refine eop_box 54 (Value.agg #[w1_1.v, (VI w1_2)]) rfl hL1 (fun b2 h2 hb2 hf2 hL2 => ?_)
  refine eop_alloc 124 zer124 rfl hL2 (fun b3 h3 hb3 hf3 hL3 => ?_)
  have H := H b1 b2 b3 h3 hb1 (Nat.le_trans (Fr.size (Fr.no' (Fr.r (In []) _) hf1)) hb2) (Nat.le_trans (Fr.size (Fr.no' (Fr.no' (Fr.r (In []) _) hf1) hf2)) hb3) (Fr.no' (Fr.no' (Fr.no' (Fr.r (In []) _) hf1) hf2) hf3) hL3
  obtain ⟨J1, H, HB3⟩ := H
  refine ⟨fun (vs : List Value) (h' : Heap) => ∃ b4 : Nat, ∃ y1 : Sl, ∃ y2 : Int, ∃ y3 : Sl, ∃ y4 : Sl, ∃ y5 : Sl, vs = [(VP b4 0)] /\ J1 b4 y1 y2 y3 y4 y5 h' /\ Vars h' [(b4, [y1.v, (VI y2), y3.v, y4.v, y5.v]), (b3, [nilSl.v, (VI 0), nilSl.v, nilSl.v, nilSl.v]), (b2, [w1_1.v, (VI w1_2)]), (b1, [g0_1.v])], ?_, ?_⟩
  ·refine rop_locA agg54 hL3 1 rfl 0 (vs := [w1_1.v, (VI w1_2)]) rfl rfl ?_
   refine pop_field 1 fld54_1 b2 0 ?_
   refine rop_loc one3 hL3 1 rfl 1 (v := (VI w1_2)) rfl ?_
   refine pop_field 0 fld26_0 b1 0 ?_
   refine rop_loc one24 hL3 2 rfl 0 (v := g0_1.v) rfl ?_
   refine pop_len g0_1 _ _ sli24 ?_
   refine ⟨?_, ?_, ?_⟩
   ·have H := H.1
    refine H.mono fun r1 h4 H => ?_
    obtain ⟨s17, rfl, hL4, H⟩ := H
    refine ⟨?_, ?_⟩
    ·exact still_loc one24 hL4 2 rfl 0 (v := g0_1.v) rfl
    refine ⟨?_, ?_⟩
    ·exact still_locA agg54 hL4 1 rfl 0 (vs := [w1_1.v, (VI w1_2)]) rfl rfl
    refine ⟨?_, ?_⟩
    ·have H := H.1
     refine H.mono fun r2 h5 H => ?_
     obtain ⟨s21, rfl, hL5, H⟩ := H
     refine ⟨?_, ?_⟩
     ·exact still_loc one24 hL5 2 rfl 0 (v := g0_1.v) rfl
     refine ⟨?_, ?_⟩
     ·exact still_locA agg54 hL5 1 rfl 0 (vs := [w1_1.v, (VI w1_2)]) rfl rfl
     refine pop.mk' (v := (Value.agg #[w1_1.v, (VI w1_2), s17.v, s21.v, nilSl.v])) (fun w => by kernel_rfl) ?_
     refine eop_alloc 124 zer124 rfl hL5 (fun b5 h6 hb4 hf4 hL6 => ?_)
     have H := H b5 h6 hb4 (Fr.no' (Fr.r (In []) _) hf4) hL6
     refine ⟨?_, ?_⟩
     ·exact still_loc one24 hL6 3 rfl 0 (v := g0_1.v) rfl
     refine ⟨?_, ?_⟩
     ·exact still_locA agg54 hL6 2 rfl 0 (vs := [w1_1.v, (VI w1_2)]) rfl rfl
     refine uop_loc siz124 hL6 0 rfl 0 [w1_1.v, (VI w1_2), s17.v, s21.v, nilSl.v] rfl rfl rfl (Nat.le_of_ble_eq_true rfl) (L' := [(b5, [w1_1.v, (VI w1_2), s17.v, s21.v, nilSl.v]), (b3, [nilSl.v, (VI 0), nilSl.v, nilSl.v, nilSl.v]), (b2, [w1_1.v, (VI w1_2)]), (b1, [g0_1.v])]) rfl (fun h7 hf5 hL7 => ?_)
     have H := H  h7  (Fr.old (Fr.r (In []) _) hf5) hL7
     exact ⟨b5, w1_1, w1_2, s17, s21, nilSl, rfl, H, hL7⟩
    have H := H.2
    refine eop_alloc 124 zer124 rfl hL4 (fun b6 h8 hb5 hf6 hL8 => ?_)
    have H := H b6 h8 hb5 (Fr.no' (Fr.r (In []) _) hf6) hL8
    refine ⟨?_, ?_⟩
    ·exact still_loc one24 hL8 3 rfl 0 (v := g0_1.v) rfl
    refine ⟨?_, ?_⟩
    ·exact still_locA agg54 hL8 2 rfl 0 (vs := [w1_1.v, (VI w1_2)]) rfl rfl
    refine H.mono fun r3 h9 H => ?_
    obtain ⟨s21b, rfl, hL9, H⟩ := H
    refine ⟨?_, ?_⟩
    ·exact still_loc one24 hL9 3 rfl 0 (v := g0_1.v) rfl
    refine ⟨?_, ?_⟩
    ·exact still_locA agg54 hL9 2 rfl 0 (vs := [w1_1.v, (VI w1_2)]) rfl rfl
    refine pop.mk' (v := (Value.agg #[w1_1.v, (VI w1_2), s17.v, s21b.v, nilSl.v])) (fun w => by kernel_rfl) ?_
    refine uop_loc siz124 hL9 0 rfl 0 [w1_1.v, (VI w1_2), s17.v, s21b.v, nilSl.v] rfl rfl rfl (Nat.le_of_ble_eq_true rfl) (L' := [(b6, [w1_1.v, (VI w1_2), s17.v, s21b.v, nilSl.v]), (b3, [nilSl.v, (VI 0), nilSl.v, nilSl.v, nilSl.v]), (b2, [w1_1.v, (VI w1_2)]), (b1, [g0_1.v])]) rfl (fun h10 hf7 hL10 => ?_)
    have H := H  h10  (Fr.old (Fr.r (In []) _) hf7) hL10
    exact ⟨b6, w1_1, w1_2, s17, s21b, nilSl, rfl, H, hL10⟩
   ·have H := H.2.1
    refine H.mono fun r4 h11 H => ?_
    obtain ⟨s21c, rfl, hL11, H⟩ := H
    refine ⟨?_, ?_⟩
    ·exact still_loc one24 hL11 2 rfl 0 (v := g0_1.v) rfl
    refine ⟨?_, ?_⟩
    ·exact still_loc one3 hL11 1 rfl 1 (v := (VI w1_2)) rfl
    refine ⟨?_, ?_⟩
    ·exact still_locA agg54 hL11 1 rfl 0 (vs := [w1_1.v, (VI w1_2)]) rfl rfl
    refine ⟨?_, ?_⟩
    ·have H := H.1
     refine H.mono fun r5 h12 H => ?_
     obtain ⟨s17b, rfl, hL12, H⟩ := H
     refine ⟨?_, ?_⟩
     ·exact still_loc one24 hL12 2 rfl 0 (v := g0_1.v) rfl
     refine ⟨?_, ?_⟩
     ·exact still_locA agg54 hL12 1 rfl 0 (vs := [w1_1.v, (VI w1_2)]) rfl rfl
     refine pop.mk' (v := (Value.agg #[w1_1.v, (VI w1_2), s17b.v, s21c.v, nilSl.v])) (fun w => by kernel_rfl) ?_
     refine eop_alloc 124 zer124 rfl hL12 (fun b7 h13 hb6 hf8 hL13 => ?_)
     have H := H b7 h13 hb6 (Fr.no' (Fr.r (In []) _) hf8) hL13
     refine ⟨?_, ?_⟩
     ·exact still_loc one24 hL13 3 rfl 0 (v := g0_1.v) rfl
     refine ⟨?_, ?_⟩
     ·exact still_locA agg54 hL13 2 rfl 0 (vs := [w1_1.v, (VI w1_2)]) rfl rfl
     refine uop_loc siz124 hL13 0 rfl 0 [w1_1.v, (VI w1_2), s17b.v, s21c.v, nilSl.v] rfl rfl rfl (Nat.le_of_ble_eq_true rfl) (L' := [(b7, [w1_1.v, (VI w1_2), s17b.v, s21c.v, nilSl.v]), (b3, [nilSl.v, (VI 0), nilSl.v, nilSl.v, nilSl.v]), (b2, [w1_1.v, (VI w1_2)]), (b1, [g0_1.v])]) rfl (fun h14 hf9 hL14 => ?_)
     have H := H  h14  (Fr.old (Fr.r (In []) _) hf9) hL14
     exact ⟨b7, w1_1, w1_2, s17b, s21c, nilSl, rfl, H, hL14⟩
    have H := H.2
    refine eop_alloc 124 zer124 rfl hL11 (fun b8 h15 hb7 hf10 hL15 => ?_)
    have H := H b8 h15 hb7 (Fr.no' (Fr.r (In []) _) hf10) hL15
    refine ⟨?_, ?_⟩
    ·exact still_loc one24 hL15 3 rfl 0 (v := g0_1.v) rfl
    refine ⟨?_, ?_⟩
    ·exact still_loc one3 hL15 2 rfl 1 (v := (VI w1_2)) rfl
    refine ⟨?_, ?_⟩
    ·exact still_locA agg54 hL15 2 rfl 0 (vs := [w1_1.v, (VI w1_2)]) rfl rfl
    refine H.mono fun r6 h16 H => ?_
    obtain ⟨s17c, rfl, hL16, H⟩ := H
    refine ⟨?_, ?_⟩
    ·exact still_loc one24 hL16 3 rfl 0 (v := g0_1.v) rfl
    refine ⟨?_, ?_⟩
    ·exact still_locA agg54 hL16 2 rfl 0 (vs := [w1_1.v, (VI w1_2)]) rfl rfl
    refine pop.mk' (v := (Value.agg #[w1_1.v, (VI w1_2), s17c.v, s21c.v, nilSl.v])) (fun w => by kernel_rfl) ?_
    refine uop_loc siz124 hL16 0 rfl 0 [w1_1.v, (VI w1_2), s17c.v, s21c.v, nilSl.v] rfl rfl rfl (Nat.le_of_ble_eq_true rfl) (L' := [(b8, [w1_1.v, (VI w1_2), s17c.v, s21c.v, nilSl.v]), (b3, [nilSl.v, (VI 0), nilSl.v, nilSl.v, nilSl.v]), (b2, [w1_1.v, (VI w1_2)]), (b1, [g0_1.v])]) rfl (fun h17 hf11 hL17 => ?_)
    have H := H  h17  (Fr.old (Fr.r (In []) _) hf11) hL17
    exact ⟨b8, w1_1, w1_2, s17c, s21c, nilSl, rfl, H, hL17⟩
   have H := H.2.2
   refine eop_alloc 124 zer124 rfl hL3 (fun b9 h18 hb8 hf12 hL18 => ?_)
   have H := H b9 h18 hb8 (Fr.no' (Fr.r (In []) _) hf12) hL18
   refine ⟨?_, ?_⟩
   ·exact still_loc one24 hL18 3 rfl 0 (v := g0_1.v) rfl
   refine ⟨?_, ?_⟩
   ·exact still_loc one3 hL18 2 rfl 1 (v := (VI w1_2)) rfl
   refine ⟨?_, ?_⟩
   ·exact still_locA agg54 hL18 2 rfl 0 (vs := [w1_1.v, (VI w1_2)]) rfl rfl
   refine ⟨?_, ?_⟩
   ·have H := H.1
    refine H.mono fun r7 h19 H => ?_
    obtain ⟨s17d, rfl, hL19, H⟩ := H
    refine ⟨?_, ?_⟩
    ·exact still_loc one24 hL19 3 rfl 0 (v := g0_1.v) rfl
    refine ⟨?_, ?_⟩
    ·exact still_locA agg54 hL19 2 rfl 0 (vs := [w1_1.v, (VI w1_2)]) rfl rfl
    refine H.mono fun r8 h20 H => ?_
    obtain ⟨s21d, rfl, hL20, H⟩ := H
    refine ⟨?_, ?_⟩
    ·exact still_loc one24 hL20 3 rfl 0 (v := g0_1.v) rfl
    refine ⟨?_, ?_⟩
    ·exact still_locA agg54 hL20 2 rfl 0 (vs := [w1_1.v, (VI w1_2)]) rfl rfl
    refine pop.mk' (v := (Value.agg #[w1_1.v, (VI w1_2), s17d.v, s21d.v, nilSl.v])) (fun w => by kernel_rfl) ?_
    refine uop_loc siz124 hL20 0 rfl 0 [w1_1.v, (VI w1_2), s17d.v, s21d.v, nilSl.v] rfl rfl rfl (Nat.le_of_ble_eq_true rfl) (L' := [(b9, [w1_1.v, (VI w1_2), s17d.v, s21d.v, nilSl.v]), (b3, [nilSl.v, (VI 0), nilSl.v, nilSl.v, nilSl.v]), (b2, [w1_1.v, (VI w1_2)]), (b1, [g0_1.v])]) rfl (fun h21 hf13 hL21 => ?_)
    have H := H  h21  (Fr.old (Fr.r (In []) _) hf13) hL21
    exact ⟨b9, w1_1, w1_2, s17d, s21d, nilSl, rfl, H, hL21⟩
   have H := H.2
   refine H.mono fun r9 h22 H => ?_
   obtain ⟨s21e, rfl, hL22, H⟩ := H
   refine ⟨?_, ?_⟩
   ·exact still_loc one24 hL22 3 rfl 0 (v := g0_1.v) rfl
   refine ⟨?_, ?_⟩
   ·exact still_loc one3 hL22 2 rfl 1 (v := (VI w1_2)) rfl
   refine ⟨?_, ?_⟩
   ·exact still_locA agg54 hL22 2 rfl 0 (vs := [w1_1.v, (VI w1_2)]) rfl rfl
   refine H.mono fun r10 h23 H => ?_
   obtain ⟨s17e, rfl, hL23, H⟩ := H
   refine ⟨?_, ?_⟩
   ·exact still_loc one24 hL23 3 rfl 0 (v := g0_1.v) rfl
   refine ⟨?_, ?_⟩
   ·exact still_locA agg54 hL23 2 rfl 0 (vs := [w1_1.v, (VI w1_2)]) rfl rfl
   refine pop.mk' (v := (Value.agg #[w1_1.v, (VI w1_2), s17e.v, s21e.v, nilSl.v])) (fun w => by kernel_rfl) ?_
   refine uop_loc siz124 hL23 0 rfl 0 [w1_1.v, (VI w1_2), s17e.v, s21e.v, nilSl.v] rfl rfl rfl (Nat.le_of_ble_eq_true rfl) (L' := [(b9, [w1_1.v, (VI w1_2), s17e.v, s21e.v, nilSl.v]), (b3, [nilSl.v, (VI 0), nilSl.v, nilSl.v, nilSl.v]), (b2, [w1_1.v, (VI w1_2)]), (b1, [g0_1.v])]) rfl (fun h24 hf14 hL24 => ?_)
   have H := H  h24  (Fr.old (Fr.r (In []) _) hf14) hL24
   exact ⟨b9, w1_1, w1_2, s17e, s21e, nilSl, rfl, H, hL24⟩
  intro junk1 tv1 h25
  rintro ⟨b4, y1, y2, y3, y4, y5, hv, hJ1, hL25⟩
  cases hv
  have H := HB3 b4 y1 y2 y3 y4 y5 h25 hJ1 hL25
  refine pop_field 0 fld26_0 b1 0 ?_
  refine rop_loc one24 hL25 3 rfl 0 (v := g0_1.v) rfl ?_
  refine pop_len g0_1 _ _ sli24 ?_
  obtain ⟨J2, ⟨n4, h0_2⟩, HB2⟩ := H
  refine loop_intro (J := fun (n : Nat) (vs : List Value) (h' : Heap) => ∃ s26 : Int, ∃ y6 : Sl, ∃ y7 : Int, ∃ y8 : Sl, ∃ y9 : Sl, ∃ y10 : Sl, vs = [(VI s26)] /\ J2 n s26 y6 y7 y8 y9 y10 h' /\ Vars h' [(b4, [y6.v, (VI y7), y8.v, y9.v, y10.v]), (b3, [nilSl.v, (VI 0), nilSl.v, nilSl.v, nilSl.v]), (b2, [w1_1.v, (VI w1_2)]), (b1, [g0_1.v])]) n4 ⟨0, y1, y2, y3, y4, y5, rfl, h0_2, hL25⟩ ?_
  intro I2 mu2 hI2 junk2 tv3 h26 hi1
  obtain ⟨n1, ⟨s26, y6, y7, y8, y9, y10, hv, hJ2, hL26⟩, hn1⟩ := hI2 _ _ hi1
  cases hv
  have H := HB2 n1 s26 y6 y7 y8 y9 y10 h26 hJ2 hL26
  refine pop_lss .i64 s26 (g0_1.n : Int) ?_
  refine condM_b (fun hb9 => ?_) (fun hb9 => ?_)
  ·have H := H.1 hb9
   obtain ⟨hi2, H⟩ := H
   refine pop_index sli24 siz33 .i64 g0_1 s26 hi2 ?_
   obtain ⟨s29, hc1, H⟩ := H
   refine rop_one one33 s29.v hc1 ?_
   refine pop_field 3 fld124_3 b4 0 ?_
   refine rop_loc one24 hL26 0 rfl 4 (v := y10.v) rfl ?_
   refine pop_len s29 _ _ sli33 ?_
   refine H.mono fun r11 h27 H => ?_
   obtain ⟨s34, rfl, hL27, H⟩ := H
   refine ⟨?_, ?_⟩
   ·exact still_loc one24 hL27 0 rfl 4 (v := y10.v) rfl
   refine H.mono fun r12 h28 H => ?_
   obtain ⟨s35, rfl, hL28, H⟩ := H
   refine ⟨?_, ?_⟩
   ·exact still_loc one24 hL28 0 rfl 4 (v := y10.v) rfl
   refine H.mono fun r13 h29 H => ?_
   obtain ⟨s36, rfl, hL29, H⟩ := H
   refine pop_field 3 fld124_3 b4 0 ?_
   refine uop_loc siz24 hL29 0 rfl 4 [s36.v] rfl rfl rfl (Nat.le_of_ble_eq_true rfl) (L' := [(b4, [y6.v, (VI y7), y8.v, y9.v, s36.v]), (b3, [nilSl.v, (VI 0), nilSl.v, nilSl.v, nilSl.v]), (b2, [w1_1.v, (VI w1_2)]), (b1, [g0_1.v])]) rfl (fun h30 hf15 hL30 => ?_)
   refine pop_add .i64 s26 1 ?_
   have H := H  h30  (Fr.old (Fr.r (In []) _) hf15) hL30
   obtain ⟨m_1, hm_1, H⟩ := H
   exact hn1 _ _ ⟨m_1, hm_1, (w64 (s26 + 1)), y6, y7, y8, y9, s36, rfl, H, hL30⟩
  have H := H.2 hb9
  obtain ⟨J3, ⟨n3, h0_1⟩, HB1⟩ := H
  refine loop_intro (J := fun (n : Nat) (vs : List Value) (h' : Heap) => ∃ n2_2 : Int, ∃ y11 : Sl, ∃ y12 : Int, ∃ y13 : Sl, ∃ y14 : Sl, ∃ y15 : Sl, vs = [(VI n2_2)] /\ J3 n n2_2 y11 y12 y13 y14 y15 h' /\ Vars h' [(b4, [y11.v, (VI y12), y13.v, y14.v, y15.v]), (b3, [nilSl.v, (VI 0), nilSl.v, nilSl.v, nilSl.v]), (b2, [w1_1.v, (VI w1_2)]), (b1, [g0_1.v])]) n3 ⟨n2_1, y6, y7, y8, y9, y10, rfl, h0_1, hL26⟩ ?_
  intro I1 mu1 hI1 junk3 tv2 h31 hi3
  obtain ⟨n2, ⟨n2_2, y11, y12, y13, y14, y15, hv, hJ3, hL31⟩, hn2⟩ := hI1 _ _ hi3
  cases hv
  have H := HB1 n2 n2_2 y11 y12 y13 y14 y15 h31 hJ3 hL31
  refine pop_gtr .i64 n2_2 0 ?_
  refine condM_b (fun hb10 => ?_) (fun hb10 => ?_)
  rotate_left
  ·have H := H.2 hb10
   refine rop_locA agg124 hL31 0 rfl 0 (vs := [y11.v, (VI y12), y13.v, y14.v, y15.v]) rfl rfl ?_
   refine uop_loc siz124 hL31 1 rfl 0 [y11.v, (VI y12), y13.v, y14.v, y15.v] rfl rfl rfl (Nat.le_of_ble_eq_true rfl) (L' := [(b4, [y11.v, (VI y12), y13.v, y14.v, y15.v]), (b3, [y11.v, (VI y12), y13.v, y14.v, y15.v]), (b2, [w1_1.v, (VI w1_2)]), (b1, [g0_1.v])]) rfl (fun h42 hf21 hL42 => ?_)
   refine rop_locA agg124 hL42 1 rfl 0 (vs := [y11.v, (VI y12), y13.v, y14.v, y15.v]) rfl rfl ?_
   have H := H  h42  (Fr.old (Fr.r (In []) _) hf21) hL42
   exact H
  have H := H.1 hb10
  refine rop_locA agg26 hL31 3 rfl 0 (vs := [g0_1.v]) rfl rfl ?_
  refine pop_field 0 fld124_0 b4 0 ?_
  refine rop_locA agg54 hL31 0 rfl 0 (vs := [y11.v, (VI y12)]) rfl rfl ?_
  refine H.mono fun r14 h32 H => ?_
  obtain ⟨s47, s47b, s47c, rfl, hL32, H⟩ := H
  refine pop_ext (v := (Value.agg #[s47.v, (VI s47b)])) rfl ?_
  refine pop_ext (v := (VB s47c)) rfl ?_
  refine eop_alloc 54 zer54 rfl hL32 (fun b10 h33 hb11 hf16 hL33 => ?_)
  refine uop_loc siz54 hL33 0 rfl 0 [s47.v, (VI s47b)] rfl rfl rfl (Nat.le_of_ble_eq_true rfl) (L' := [(b10, [s47.v, (VI s47b)]), (b4, [y11.v, (VI y12), y13.v, y14.v, y15.v]), (b3, [nilSl.v, (VI 0), nilSl.v, nilSl.v, nilSl.v]), (b2, [w1_1.v, (VI w1_2)]), (b1, [g0_1.v])]) rfl (fun h34 hf17 hL34 => ?_)
  refine pop_not s47c ?_
  refine condM_b (fun hb12 => ?_) (fun hb12 => ?_)
  ·have H := H.1 hb12
   refine pop.mk' (v := (Value.agg #[nilSl.v, (VI 0), nilSl.v, nilSl.v, nilSl.v])) (fun w => by kernel_rfl) ?_
   refine uop_loc siz124 hL34 2 rfl 0 [nilSl.v, (VI 0), nilSl.v, nilSl.v, nilSl.v] rfl rfl rfl (Nat.le_of_ble_eq_true rfl) (L' := [(b10, [s47.v, (VI s47b)]), (b4, [y11.v, (VI y12), y13.v, y14.v, y15.v]), (b3, [nilSl.v, (VI 0), nilSl.v, nilSl.v, nilSl.v]), (b2, [w1_1.v, (VI w1_2)]), (b1, [g0_1.v])]) rfl (fun h35 hf18 hL35 => ?_)
   refine rop_locA agg124 hL35 2 rfl 0 (vs := [nilSl.v, (VI 0), nilSl.v, nilSl.v, nilSl.v]) rfl rfl ?_
   have H := H b10 h35 hb11 (Fr.old (Fr.new (Fr.no' (Fr.r (In []) _) hf16) hb11 hf17) hf18) hL35
   exact H
  have H := H.2 hb12
  refine pop_field 3 fld124_3 b4 0 ?_
  refine rop_loc one24 hL34 1 rfl 4 (v := y15.v) rfl ?_
  refine pop_field 0 fld124_0 b4 0 ?_
  refine pop_field 1 fld54_1 b4 0 ?_
  refine rop_loc one3 hL34 1 rfl 1 (v := (VI y12)) rfl ?_
  obtain ⟨hi4, H⟩ := H
  refine pop_index sli24 siz33 .i64 y15 y12 hi4 ?_
  have H := H b10 h34 hb11 (Fr.new (Fr.no' (Fr.r (In []) _) hf16) hb11 hf17) hL34
  obtain ⟨s59, hc5, H⟩ := H
  refine rop_one one33 s59.v hc5 ?_
  refine pop_field 0 fld54_0 b10 0 ?_
  refine rop_loc one33 hL34 0 rfl 0 (v := s47.v) rfl ?_
  refine pop_field 0 fld124_0 b4 0 ?_
  refine pop_field 1 fld54_1 b4 0 ?_
  refine rop_loc one3 hL34 1 rfl 1 (v := (VI y12)) rfl ?_
  obtain ⟨hi5, H⟩ := H
  refine pop_index sli33 siz3 .i64 s47 y12 hi5 ?_
  obtain ⟨s67, hc4, H⟩ := H
  refine rop_one one3 (VI s67) hc4 ?_
  obtain ⟨hi6, H⟩ := H
  refine pop_index sli33 siz3 .i64 s59 s67 hi6 ?_
  obtain ⟨s69, hc3, H⟩ := H
  refine rop_one one3 (VI s69) hc3 ?_
  refine pop_add .i64 s69 1 ?_
  obtain ⟨hi7, H⟩ := H
  refine pop_index sli33 siz3 .i64 s59 s67 hi7 ?_
  obtain ⟨hw_1, hL36, H⟩ := H
  refine uop_cell (v := (VI (w64 (s69 + 1)))) siz3 hw_1 rfl (fun h36 he_1 => ?_)
  rw [← he_1] at hL36
  have H := H h36 he_1 hL36
  refine pop_field 2 fld124_2 b4 0 ?_
  refine rop_loc one33 hL36 1 rfl 3 (v := y14.v) rfl ?_
  refine pop_field 1 fld54_1 b10 0 ?_
  refine rop_loc one3 hL36 0 rfl 1 (v := (VI s47b)) rfl ?_
  obtain ⟨hi8, H⟩ := H
  refine pop_index sli33 siz3 .i64 y14 s47b hi8 ?_
  obtain ⟨s77, hc2, H⟩ := H
  refine rop_one one3 (VI s77) hc2 ?_
  refine pop_add .i64 s77 1 ?_
  obtain ⟨hi9, H⟩ := H
  refine pop_index sli33 siz3 .i64 y14 s47b hi9 ?_
  obtain ⟨hw_2, hL37, H⟩ := H
  refine uop_cell (v := (VI (w64 (s77 + 1)))) siz3 hw_2 rfl (fun h37 he_2 => ?_)
  rw [← he_2] at hL37
  have H := H h37 he_2 hL37
  refine pop_field 1 fld124_1 b4 0 ?_
  refine rop_loc one33 hL37 1 rfl 2 (v := y13.v) rfl ?_
  refine pop_field 1 fld54_1 b10 0 ?_
  refine rop_loc one3 hL37 0 rfl 1 (v := (VI s47b)) rfl ?_
  refine H.mono fun r15 h38 H => ?_
  obtain ⟨s84, rfl, hL38, H⟩ := H
  refine H.mono fun r16 h39 H => ?_
  obtain ⟨s85, rfl, hL39, H⟩ := H
  refine pop_field 1 fld124_1 b4 0 ?_
  refine uop_loc siz33 hL39 1 rfl 2 [s85.v] rfl rfl rfl (Nat.le_of_ble_eq_true rfl) (L' := [(b10, [s47.v, (VI s47b)]), (b4, [y11.v, (VI y12), s85.v, y14.v, y15.v]), (b3, [nilSl.v, (VI 0), nilSl.v, nilSl.v, nilSl.v]), (b2, [w1_1.v, (VI w1_2)]), (b1, [g0_1.v])]) rfl (fun h40 hf19 hL40 => ?_)
  refine rop_locA agg54 hL40 0 rfl 0 (vs := [s47.v, (VI s47b)]) rfl rfl ?_
  refine pop_field 0 fld124_0 b4 0 ?_
  refine uop_loc siz54 hL40 1 rfl 0 [s47.v, (VI s47b)] rfl rfl rfl (Nat.le_of_ble_eq_true rfl) (L' := [(b10, [s47.v, (VI s47b)]), (b4, [s47.v, (VI s47b), s85.v, y14.v, y15.v]), (b3, [nilSl.v, (VI 0), nilSl.v, nilSl.v, nilSl.v]), (b2, [w1_1.v, (VI w1_2)]), (b1, [g0_1.v])]) rfl (fun h41 hf20 hL41 => ?_)
  refine pop_sub .i64 n2_2 1 ?_
  have H := H  h41  (Fr.old (Fr.old (Fr.r (In []) _) hf19) hf20) hL41
  obtain ⟨m_2, hm_2, H⟩ := H
  exact hn2 _ _ ⟨m_2, hm_2, (w64 (n2_2 - 1)), s47, s47b, s85, y14, y15, rfl, H, (Vars.tail hL41)⟩
def u107 (P : Program) (now0_1 : Sl) (now0_2 : Int) (b1 : Nat) (s1 : Int) (h : Heap) (K : Value -> Heap -> Prop) : Prop :=
 ∀ (b2 : Nat) (h1 : Heap), h.size ≤ b2 -> Fr (In []) h h1 -> Vars h1 [(b2, [now0_1.v, (VI now0_2)]), (b1, [(VI s1)])] ->
 K (VB (decide (now0_2 = s1))) h1
theorem v107 (now0_1 : Sl) (now0_2 : Int) (b1 : Nat) (s1 : Int) (h : Heap) (K : Value -> Heap -> Prop) (hL : Vars h [(b1, [(VI s1)])]) (H : u107 Tryz.prog now0_1 now0_2 b1 s1 h K) : callM Tryz.prog 107 #[(Value.agg #[now0_1.v, (VI now0_2)]), (VP b1 0)] h K := by
  refine c107 (Value.agg #[now0_1.v, (VI now0_2)]) (VP b1 0) h K ?_
  unfold u107 at H
  unfold t107
  refine eop_box 54 (Value.agg #[now0_1.v, (VI now0_2)]) rfl hL (fun b2 h1 hb1 hf1 hL1 => ?_)
  refine pop_field 1 fld54_1 b2 0 ?_
  refine rop_loc one3 hL1 0 rfl 1 (v := (VI now0_2)) rfl ?_
  refine rop_loc one3 hL1 1 rfl 0 (v := (VI s1)) rfl ?_
  refine pop_ieq .i64 _ _ now0_2 s1 ?_
  have H := H b2 h1 hb1 (Fr.no' (Fr.r (In []) _) hf1) hL1
  exact H
def u108 (P : Program) (code0_1 : Sl) (h : Heap) (K : Value -> Heap -> Prop) : Prop :=
 ∀ (b1 : Nat) (b2 : Nat) (b3 : Nat) (h3 : Heap), h.size ≤ b1 -> h.size ≤ b2 -> h.size ≤ b3 -> Fr (In []) h h3 -> Vars h3 [(b3, [code0_1.v, (VI 0), (Value.int .u64 0)]), (b2, [nilSl.v, (VI 0)]), (b1, [nilSl.v])] ->
 callM P 67 #[(VP b3 0)] h3 fun r1 h4 => ∃ y1 : Sl, ∃ y2 : Int, ∃ y3 : Int, ∃ s9 : Sl, ∃ s9b : Sl, ∃ s9c : Int, r1 = (.tuple #[(.agg #[s9.v]), (.agg #[s9b.v, (VI s9c)])]) /\ Vars h4 [(b3, [y1.v, (VI y2), (Value.int .u64 y3)]), (b2, [nilSl.v, (VI 0)]), (b1, [nilSl.v])] /\
 ∀ (h6 : Heap), Fr (In [b2, b1]) h4 h6 -> Vars h6 [(b3, [y1.v, (VI y2), (Value.int .u64 y3)]), (b2, [s9b.v, (VI s9c)]), (b1, [s9.v])] ->
 K (.tuple #[(.agg #[s9.v]), (.agg #[s9b.v, (VI s9c)])]) h6
theorem v108 (code0_1 : Sl) (h : Heap) (K : Value -> Heap -> Prop) (H : u108 Tryz.prog code0_1 h K) : callM Tryz.prog 108 #[code0_1.v] h K := by
  refine c108 code0_1.v h K ?_
  unfold u108 at H
  unfold t108
  have hL : Vars h [] := .nil
  refine eop_alloc 26 zer26 rfl hL (fun b1 h1 hb1 hf1 hL1 => ?_)
  refine eop_alloc 54 zer54 rfl hL1 (fun b2 h2 hb2 hf2 hL2 => ?_)
  refine pop.mk' (v := (Value.agg #[code0_1.v, (VI 0), (Value.int .u64 0)])) (fun w => by kernel_rfl) ?_
  refine eop_box 84 (Value.agg #[code0_1.v, (VI 0), (Value.int .u64 0)]) rfl hL2 (fun b3 h3 hb3 hf3 hL3 => ?_)
  have H := H b1 b2 b3 h3 hb1 (Nat.le_trans (Fr.size (Fr.no' (Fr.r (In []) _) hf1)) hb2) (Nat.le_trans (Fr.size (Fr.no' (Fr.no' (Fr.r (In []) _) hf1) hf2)) hb3) (Fr.no' (Fr.no' (Fr.no' (Fr.r (In []) _) hf1) hf2) hf3) hL3
  refine H.mono fun r1 h4 H => ?_
  obtain ⟨y1, y2, y3, s9, s9b, s9c, rfl, hL4, H⟩ := H
  refine pop_ext (v := (Value.agg #[s9.v])) rfl ?_
  refine pop_ext (v := (Value.agg #[s9b.v, (VI s9c)])) rfl ?_
  refine uop_loc siz26 hL4 2 rfl 0 [s9.v] rfl rfl rfl (Nat.le_of_ble_eq_true rfl) (L' := [(b3, [y1.v, (VI y2), (Value.int .u64 y3)]), (b2, [nilSl.v, (VI 0)]), (b1, [s9.v])]) rfl (fun h5 hf4 hL5 => ?_)
  refine uop_loc siz54 hL5 1 rfl 0 [s9b.v, (VI s9c)] rfl rfl rfl (Nat.le_of_ble_eq_true rfl) (L' := [(b3, [y1.v, (VI y2), (Value.int .u64 y3)]), (b2, [s9b.v, (VI s9c)]), (b1, [s9.v])]) rfl (fun h6 hf5 hL6 => ?_)
  refine rop_locA agg26 hL6 2 rfl 0 (vs := [s9.v]) rfl rfl ?_
  refine rop_locA agg54 hL6 1 rfl 0 (vs := [s9b.v, (VI s9c)]) rfl rfl ?_
  have H := H  h6  (Fr.old (Fr.old (Fr.r (In []) _) hf4) hf5) hL6
  exact H
def u109 (P : Program) (now0_1 : Sl) (now0_2 : Int) (b1 : Nat) (s1 : Sl) (h : Heap) (K : Value -> Heap -> Prop) : Prop :=
 InB s1 now0_2 /\
 ∀ (b2 : Nat) (h1 : Heap), h.size ≤ b2 -> Fr (In []) h h1 -> Vars h1 [(b2, [now0_1.v, (VI now0_2)]), (b1, [s1.v])] ->
 Writable h1 (Sl.at s1 now0_2 1) /\ Vars (hset h1 (Sl.at s1 now0_2 1) (VB true)) [(b2, [now0_1.v, (VI now0_2)]), (b1, [s1.v])] /\
 ∀ h2 : Heap, h2 = hset h1 (Sl.at s1 now0_2 1) (VB true) -> Vars h2 [(b2, [now0_1.v, (VI now0_2)]), (b1, [s1.v])] ->
 callM P 110 #[s1.v, (VB false)] h2 fun r1 h3 => ∃ s9 : Bool, r1 = (VB s9) /\ Vars h3 [(b2, [now0_1.v, (VI now0_2)]), (b1, [s1.v])] /\
 K (VB (!s9)) h3
theorem v109 (now0_1 : Sl) (now0_2 : Int) (b1 : Nat) (s1 : Sl) (h : Heap) (K : Value -> Heap -> Prop) (hL : Vars h [(b1, [s1.v])]) (H : u109 Tryz.prog now0_1 now0_2 b1 s1 h K) : callM Tryz.prog 109 #[(Value.agg #[now0_1.v, (VI now0_2)]), (VP b1 0)] h K := by
  refine c109 (Value.agg #[now0_1.v, (VI now0_2)]) (VP b1 0) h K ?_
  unfold u109 at H
  unfold t109
  refine eop_box 54 (Value.agg #[now0_1.v, (VI now0_2)]) rfl hL (fun b2 h1 hb1 hf1 hL1 => ?_)
  refine rop_loc one127 hL1 1 rfl 0 (v := s1.v) rfl ?_
  refine pop_field 1 fld54_1 b2 0 ?_
  refine rop_loc one3 hL1 0 rfl 1 (v := (VI now0_2)) rfl ?_
  obtain ⟨hi1, H⟩ := H
  refine pop_index sli127 siz4 .i64 s1 now0_2 hi1 ?_
  have H := H b2 h1 hb1 (Fr.no' (Fr.r (In []) _) hf1) hL1
  obtain ⟨hw_1, hL2, H⟩ := H
  refine uop_cell (v := (VB true)) siz4 hw_1 rfl (fun h2 he_1 => ?_)
  rw [← he_1] at hL2
  have H := H h2 he_1 hL2
  refine rop_loc one127 hL2 1 rfl 0 (v := s1.v) rfl ?_
  refine H.mono fun r1 h3 H => ?_
  obtain ⟨s9, rfl, hL3, H⟩ := H
  refine pop_not s9 ?_
  exact H
def u110 (P : Program) (s0_1 : Sl) (v1_1 : Bool) (h : Heap) (K : Value -> Heap -> Prop) : Prop :=
 callM P 142 #[s0_1.v, (VB v1_1)] h fun r1 h1 => ∃ s7 : Int, r1 = (VI s7) /\ Vars h1 [] /\
 K (VB (decide (0 ≤ s7))) h1
theorem v110 (s0_1 : Sl) (v1_1 : Bool) (h : Heap) (K : Value -> Heap -> Prop) (H : u110 Tryz.prog s0_1 v1_1 h K) : callM Tryz.prog 110 #[s0_1.v, (VB v1_1)] h K := by
  refine c110 s0_1.v (VB v1_1) h K ?_
  unfold u110 at H
  unfold t110
  have hL : Vars h [] := .nil
  refine H.mono fun r1 h1 H => ?_
  obtain ⟨s7, rfl, hL1, H⟩ := H
  refine pop_geq .i64 s7 0 ?_
  exact H
def u112 (P : Program) (p0_1 : Int) (b1 : Nat) (s1 : Sl) (h : Heap) (K : Value -> Heap -> Prop) : Prop :=
 callM P 72 #[(VI p0_1), (VI 0), (VI (w64 ((s1.n : Int) - 1)))] h fun r1 h1 => ∃ s9 : Bool, r1 = (VB s9) /\ Vars h1 [(b1, [s1.v])] /\
 K (VB (!s9)) h1
theorem v112 (p0_1 : Int) (b1 : Nat) (s1 : Sl) (h : Heap) (K : Value -> Heap -> Prop) (hL : Vars h [(b1, [s1.v])]) (H : u112 Tryz.prog p0_1 b1 s1 h K) : callM Tryz.prog 112 #[(VI p0_1), (VP b1 0)] h K := by
  refine c112 (VI p0_1) (VP b1 0) h K ?_
  unfold u112 at H
  unfold t112
  refine pop_field 0 fld26_0 b1 0 ?_
  refine rop_loc one24 hL 0 rfl 0 (v := s1.v) rfl ?_
  refine pop_len s1 _ _ sli24 ?_
  refine pop_sub .i64 (s1.n : Int) 1 ?_
  refine H.mono fun r1 h1 H => ?_
  obtain ⟨s9, rfl, hL1, H⟩ := H
  refine pop_not s9 ?_
  exact H
def u115 (P : Program) (s0_1 : Sl) (v1_1 : Int) (h : Heap) (K : Value -> Heap -> Prop) : Prop :=
 ∃ J1 : Nat -> Int -> Heap -> Prop, (∃ n0 : Nat, J1 n0 0 h) /\
 ∀ (n1 : Nat) (s8 : Int) (h1 : Heap), J1 n1 s8 h1 -> Vars h1 [] ->
 ((decide (s8 < (s0_1.n : Int))) = true ->
 InB s0_1 s8 /\
 ∃ s15 : Int, hcell h1 (Sl.at s0_1 s8 1) = some (VI s15) /\
 ((decide (v1_1 = s15)) = true ->
 K (VI s8) h1) /\
 ((decide (v1_1 = s15)) = false ->
 ∃ m : Nat, m < n1 /\ J1 m (w64 (s8 + 1)) h1)) /\
 ((decide (s8 < (s0_1.n : Int))) = false ->
 K (VI (-1)) h1)
theorem v115 (s0_1 : Sl) (v1_1 : Int) (h : Heap) (K : Value -> Heap -> Prop) (H : u115 Tryz.prog s0_1 v1_1 h K) : callM Tryz.prog 115 #[s0_1.v, (VI v1_1)] h K := by
  refine c115 s0_1.v (VI v1_1) h K ?_
  unfold u115 at H
  unfold t115
  have hL : Vars h [] := .nil
  refine pop_len s0_1 _ _ sli33 ?_
  obtain ⟨J1, ⟨n2, h0_1⟩, HB1⟩ := H
  refine loop_intro (J := fun (n : Nat) (vs : List Value) (h' : Heap) => ∃ s8 : Int, vs = [(VI s8)] /\ J1 n s8 h' /\ Vars h' []) n2 ⟨0, rfl, h0_1, hL⟩ ?_
  intro I1 mu1 hI1 junk1 tv1 h1 hi1
  obtain ⟨n1, ⟨s8, hv, hJ1, hL1⟩, hn1⟩ := hI1 _ _ hi1
  cases hv
  have H := HB1 n1 s8 h1 hJ1 hL1
  refine pop_lss .i64 s8 (s0_1.n : Int) ?_
  refine condM_b (fun hb1 => ?_) (fun hb1 => ?_)
  rotate_left
  ·exact H.2 hb1
  have H := H.1 hb1
  obtain ⟨hi2, H⟩ := H
  refine pop_index sli33 siz3 .i64 s0_1 s8 hi2 ?_
  obtain ⟨s15, hc1, H⟩ := H
  refine rop_one one3 (VI s15) hc1 ?_
  refine pop_ieq .i64 _ _ v1_1 s15 ?_
  refine condM_b (fun hb2 => ?_) (fun hb2 => ?_)
  ·exact H.1 hb2
  have H := H.2 hb2
  refine pop_add .i64 s8 1 ?_
  obtain ⟨m_1, hm_1, H⟩ := H
  exact hn1 _ _ ⟨m_1, hm_1, (w64 (s8 + 1)), rfl, H, hL1⟩
def u117 (P : Program) (s0_1 : Sl) (h : Heap) (K : Value -> Heap -> Prop) : Prop :=
 pop P (binE .eql 33 (.tmp 3) (.const (Value.slice none 0 0)) s0_1.v (Value.slice none 0 0)) fun r1 => ∃ s4 : Bool, r1 = (VB s4) /\ 
 (s4 = true ->
 K nilSl.v h) /\
 (s4 = false ->
 eop P (Instr.buildSlice 33 0 #[]) h fun r2 h1 => ∃ s5 : Sl, r2 = s5.v /\ Vars h1 [] /\
 eop P (appS 33 33 33 s5.v s0_1.v) h1 fun r3 h2 => ∃ s7 : Sl, r3 = s7.v /\ Vars h2 [] /\
 K s7.v h2)
theorem v117 (s0_1 : Sl) (h : Heap) (K : Value -> Heap -> Prop) (H : u117 Tryz.prog s0_1 h K) : callM Tryz.prog 117 #[s0_1.v] h K := by
  refine c117 s0_1.v h K ?_
  unfold u117 at H
  unfold t117
  have hL : Vars h [] := .nil
  refine H.mono fun r1 H => ?_
  obtain ⟨s4, rfl, H⟩ := H
  refine condM_b (fun hb1 => ?_) (fun hb1 => ?_)
  ·exact H.1 hb1
  have H := H.2 hb1
  refine H.mono fun r2 h1 H => ?_
  obtain ⟨s5, rfl, hL1, H⟩ := H
  refine H.mono fun r3 h2 H => ?_
  obtain ⟨s7, rfl, hL2, H⟩ := H
  exact H
def u119 (P : Program) (l0_1 : Sl) (h : Heap) (K : Value -> Heap -> Prop) : Prop :=
 eop P (Instr.buildSlice 33 0 #[]) h fun r1 h1 => ∃ s3 : Sl, r1 = s3.v /\ Vars h1 [] /\
 eop P (appS 33 33 33 s3.v l0_1.v) h1 fun r2 h2 => ∃ s5 : Sl, r2 = s5.v /\ Vars h2 [] /\
 K s5.v h2
theorem v119 (l0_1 : Sl) (h : Heap) (K : Value -> Heap -> Prop) (H : u119 Tryz.prog l0_1 h K) : callM Tryz.prog 119 #[l0_1.v] h K := by
  refine c119 l0_1.v h K ?_
  unfold u119 at H
  unfold t119
  have hL : Vars h [] := .nil
  refine H.mono fun r1 h1 H => ?_
  obtain ⟨s3, rfl, hL1, H⟩ := H
  refine H.mono fun r2 h2 H => ?_
  obtain ⟨s5, rfl, hL2, H⟩ := H
  exact H
def u121 (P : Program) (b1 : Nat) (c0_1 : Sl) (c0_2 : Int) (c0_3 : Int) (h : Heap) (K : Value -> Heap -> Prop) : Prop :=
 ∀ (b2 : Nat) (h1 : Heap), h.size ≤ b2 -> Fr (In []) h h1 -> Vars h1 [(b2, [nilSl.v]), (b1, [c0_1.v, (VI c0_2), (Value.int .u64 c0_3)])] ->
 callM P 144 #[(VP b1 0), (VI 6)] h1 fun r1 h2 => ∃ y1 : Sl, ∃ y2 : Int, ∃ y3 : Int, ∃ s5 : Sl, r1 = (.agg #[s5.v]) /\ Vars h2 [(b2, [nilSl.v]), (b1, [y1.v, (VI y2), (Value.int .u64 y3)])] /\
 ∀ (b3 : Nat) (h4 : Heap), h2.size ≤ b3 -> Fr (In []) h2 h4 -> Vars h4 [(b3, [s5.v]), (b2, [nilSl.v]), (b1, [y1.v, (VI y2), (Value.int .u64 y3)])] ->
 callM P 70 #[(VP b1 0), (VI 16)] h4 fun r2 h5 => ∃ y4 : Sl, ∃ y5 : Int, ∃ y6 : Int, ∃ s7 : Int, r2 = (VI s7) /\ Vars h5 [(b3, [s5.v]), (b2, [nilSl.v]), (b1, [y4.v, (VI y5), (Value.int .u64 y6)])] /\
 ((decide (s7 = 0)) = true ->
 InB s5 0 /\
 ∃ s15 : Sl, hcell h5 (Sl.at s5 0 1) = some s15.v /\
 eop P (Instr.buildSlice 33 3 #[(0, (.int .i64 (-1))), (1, (VI (s5.n : Int))), (2, (.int .i64 4611686018427387904))]) h5 fun r3 h6 => ∃ s20 : Sl, r3 = s20.v /\ Vars h6 [(b3, [s5.v]), (b2, [nilSl.v]), (b1, [y4.v, (VI y5), (Value.int .u64 y6)])] /\
 hcell h6 (Sl.at s5 0 1) = some s15.v /\
 callM P 69 #[(VP b1 0), s20.v] h6 fun r4 h7 => ∃ y7 : Sl, ∃ y8 : Int, ∃ y9 : Int, ∃ s21 : Int, r4 = (VI s21) /\ Vars h7 [(b3, [s5.v]), (b2, [nilSl.v]), (b1, [y7.v, (VI y8), (Value.int .u64 y9)])] /\
 hcell h7 (Sl.at s5 0 1) = some s15.v /\
 eop P (Instr.buildSlice 33 1 #[(0, (VI s21))]) h7 fun r5 h8 => ∃ s22 : Sl, r5 = s22.v /\ Vars h8 [(b3, [s5.v]), (b2, [nilSl.v]), (b1, [y7.v, (VI y8), (Value.int .u64 y9)])] /\
 hcell h8 (Sl.at s5 0 1) = some s15.v /\
 eop P (appS 33 33 33 s15.v s22.v) h8 fun r6 h9 => ∃ s23 : Sl, r6 = s23.v /\ Vars h9 [(b3, [s5.v]), (b2, [nilSl.v]), (b1, [y7.v, (VI y8), (Value.int .u64 y9)])] /\
 InB s5 0 /\
 Writable h9 (Sl.at s5 0 1) /\ Vars (hset h9 (Sl.at s5 0 1) s23.v) [(b3, [s5.v]), (b2, [nilSl.v]), (b1, [y7.v, (VI y8), (Value.int .u64 y9)])] /\
 ∀ h10 : Heap, h10 = hset h9 (Sl.at s5 0 1) s23.v -> Vars h10 [(b3, [s5.v]), (b2, [nilSl.v]), (b1, [y7.v, (VI y8), (Value.int .u64 y9)])] ->
 ∀ (h11 : Heap), Fr (In [b2]) h10 h11 -> Vars h11 [(b3, [s5.v]), (b2, [s5.v]), (b1, [y7.v, (VI y8), (Value.int .u64 y9)])] ->
 K (.agg #[s5.v]) h11) /\
 ((decide (s7 = 0)) = false ->
 ((decide (s7 = 1)) = true ->
 callM P 70 #[(VP b1 0), (VI 2)] h5 fun r7 h12 => ∃ y10 : Sl, ∃ y11 : Int, ∃ y12 : Int, ∃ s30 : Int, r7 = (VI s30) /\ Vars h12 [(b3, [s5.v]), (b2, [nilSl.v]), (b1, [y10.v, (VI y11), (Value.int .u64 y12)])] /\
 eop P (Instr.makeSlice 33 (VI (w64 (5 + s30))) (VI (w64 (5 + s30)))) h12 fun r8 h13 => ∃ s32 : Sl, r8 = s32.v /\ Vars h13 [(b3, [s5.v]), (b2, [nilSl.v]), (b1, [y10.v, (VI y11), (Value.int .u64 y12)])] /\
 InB s5 0 /\
 Writable h13 (Sl.at s5 0 1) /\ Vars (hset h13 (Sl.at s5 0 1) s32.v) [(b3, [s5.v]), (b2, [nilSl.v]), (b1, [y10.v, (VI y11), (Value.int .u64 y12)])] /\
 ∀ h14 : Heap, h14 = hset h13 (Sl.at s5 0 1) s32.v -> Vars h14 [(b3, [s5.v]), (b2, [nilSl.v]), (b1, [y10.v, (VI y11), (Value.int .u64 y12)])] ->
 ∀ (h15 : Heap), Fr (In [b2]) h14 h15 -> Vars h15 [(b3, [s5.v]), (b2, [s5.v]), (b1, [y10.v, (VI y11), (Value.int .u64 y12)])] ->
 K (.agg #[s5.v]) h15) /\
 ((decide (s7 = 1)) = false ->
 ((decide (s7 = 2)) = true ->
 ∃ J1 : Nat -> Sl -> Sl -> Int -> Int -> Heap -> Prop, (∃ n0 : Nat, J1 n0 s5 y4 y5 y6 h5) /\
 ∀ (n1 : Nat) (y13 : Sl) (y14 : Sl) (y15 : Int) (y16 : Int) (h16 : Heap), J1 n1 y13 y14 y15 y16 h16 -> Vars h16 [(b3, [y13.v]), (b2, [nilSl.v]), (b1, [y14.v, (VI y15), (Value.int .u64 y16)])] ->
 callM P 70 #[(VP b1 0), (VI 2)] h16 fun r9 h17 => ∃ y17 : Sl, ∃ y18 : Int, ∃ y19 : Int, ∃ s40 : Int, r9 = (VI s40) /\ Vars h17 [(b3, [y13.v]), (b2, [nilSl.v]), (b1, [y17.v, (VI y18), (Value.int .u64 y19)])] /\
 ((decide ((y13.n : Int) < (w64 (8 + s40)))) = true ->
 eop P (Instr.buildSlice 33 1 #[(0, (.int .i64 0))]) h17 fun r10 h18 => ∃ s45 : Sl, r10 = s45.v /\ Vars h18 [(b3, [y13.v]), (b2, [nilSl.v]), (b1, [y17.v, (VI y18), (Value.int .u64 y19)])] /\
 eop P (Instr.buildSlice 24 1 #[(0, s45.v)]) h18 fun r11 h19 => ∃ s46 : Sl, r11 = s46.v /\ Vars h19 [(b3, [y13.v]), (b2, [nilSl.v]), (b1, [y17.v, (VI y18), (Value.int .u64 y19)])] /\
 eop P (appS 24 24 24 y13.v s46.v) h19 fun r12 h20 => ∃ s47 : Sl, r12 = s47.v /\ Vars h20 [(b3, [y13.v]), (b2, [nilSl.v]), (b1, [y17.v, (VI y18), (Value.int .u64 y19)])] /\
 ∀ (h21 : Heap), Fr (In [b3]) h20 h21 -> Vars h21 [(b3, [s47.v]), (b2, [nilSl.v]), (b1, [y17.v, (VI y18), (Value.int .u64 y19)])] ->
 ∃ m : Nat, m < n1 /\ J1 m s47 y17 y18 y19 h21) /\
 ((decide ((y13.n : Int) < (w64 (8 + s40)))) = false ->
 ∀ (h22 : Heap), Fr (In [b2]) h17 h22 -> Vars h22 [(b3, [y13.v]), (b2, [y13.v]), (b1, [y17.v, (VI y18), (Value.int .u64 y19)])] ->
 K (.agg #[y13.v]) h22)) /\
 ((decide (s7 = 2)) = false ->
 ((decide (s7 = 3)) = true ->
 ∀ (h24 : Heap), Fr (In [b2, b3]) h5 h24 -> Vars h24 [(b3, [nilSl.v]), (b2, [nilSl.v]), (b1, [y4.v, (VI y5), (Value.int .u64 y6)])] ->
 K (.agg #[nilSl.v]) h24) /\
 ((decide (s7 = 3)) = false ->
 ∀ (h25 : Heap), Fr (In [b2]) h5 h25 -> Vars h25 [(b3, [s5.v]), (b2, [s5.v]), (b1, [y4.v, (VI y5), (Value.int .u64 y6)])] ->
 K (.agg #[s5.v]) h25))))
theorem v121 (b1 : Nat) (c0_1 : Sl) (c0_2 : Int) (c0_3 : Int) (h : Heap) (K : Value -> Heap -> Prop) (hL : Vars h [(b1, [c0_1.v, (VI c0_2), (Value.int .u64 c0_3)])]) (H : u121 Tryz.prog b1 c0_1 c0_2 c0_3 h K) : callM Tryz.prog 121 #[(VP b1 0)] h K := by
  refine c121 (VP b1 0) h K ?_
  unfold u121 at H
  unfold t121
  refine eop_alloc 26 zer26 rfl hL (fun b2 h1 hb1 hf1 hL1 => ?_)
  have H := H b2 h1 hb1 (Fr.no' (Fr.r (In []) _) hf1) hL1
  refine H.mono fun r1 h2 H => ?_
  obtain ⟨y1, y2, y3, s5, rfl, hL2, H⟩ := H
  refine eop_alloc 26 zer26 rfl hL2 (fun b3 h3 hb2 hf2 hL3 => ?_)
  refine uop_loc siz26 hL3 0 rfl 0 [s5.v] rfl rfl rfl (Nat.le_of_ble_eq_true rfl) (L' := [(b3, [s5.v]), (b2, [nilSl.v]), (b1, [y1.v, (VI y2), (Value.int .u64 y3)])]) rfl (fun h4 hf3 hL4 => ?_)
  have H := H b3 h4 hb2 (Fr.new (Fr.no' (Fr.r (In []) _) hf2) hb2 hf3) hL4
  refine H.mono fun r2 h5 H => ?_
  obtain ⟨y4, y5, y6, s7, rfl, hL5, H⟩ := H
  refine pop_ieq .i64 _ _ s7 0 ?_
  refine condM_b (fun hb3 => ?_) (fun hb3 => ?_)
  ·have H := H.1 hb3
   refine pop_field 0 fld26_0 b3 0 ?_
   refine rop_loc one24 hL5 0 rfl 0 (v := s5.v) rfl ?_
   refine pop_field 0 fld26_0 b3 0 ?_
   refine rop_loc one24 hL5 0 rfl 0 (v := s5.v) rfl ?_
   obtain ⟨hi1, H⟩ := H
   refine pop_index sli24 siz33 .i64 s5 0 hi1 ?_
   obtain ⟨s15, hc4, H⟩ := H
   refine rop_one one33 s15.v hc4 ?_
   refine pop_field 0 fld26_0 b3 0 ?_
   refine rop_loc one24 hL5 0 rfl 0 (v := s5.v) rfl ?_
   refine pop_len s5 _ _ sli24 ?_
   refine H.mono fun r3 h6 H => ?_
   obtain ⟨s20, rfl, hL6, H⟩ := H
   refine ⟨?_, ?_⟩
   ·exact still_loc one24 hL6 0 rfl 0 (v := s5.v) rfl
   refine ⟨?_, ?_⟩
   ·exact still_one one33 H.1
   obtain ⟨hc1, H⟩ := H
   refine ⟨?_, ?_⟩
   ·exact still_loc one24 hL6 0 rfl 0 (v := s5.v) rfl
   refine ⟨?_, ?_⟩
   ·exact still_loc one24 hL6 0 rfl 0 (v := s5.v) rfl
   refine H.mono fun r4 h7 H => ?_
   obtain ⟨y7, y8, y9, s21, rfl, hL7, H⟩ := H
   refine ⟨?_, ?_⟩
   ·exact still_loc one24 hL7 0 rfl 0 (v := s5.v) rfl
   refine ⟨?_, ?_⟩
   ·exact still_one one33 H.1
   obtain ⟨hc2, H⟩ := H
   refine ⟨?_, ?_⟩
   ·exact still_loc one24 hL7 0 rfl 0 (v := s5.v) rfl
   refine ⟨?_, ?_⟩
   ·exact still_loc one24 hL7 0 rfl 0 (v := s5.v) rfl
   refine H.mono fun r5 h8 H => ?_
   obtain ⟨s22, rfl, hL8, H⟩ := H
   refine ⟨?_, ?_⟩
   ·exact still_loc one24 hL8 0 rfl 0 (v := s5.v) rfl
   refine ⟨?_, ?_⟩
   ·exact still_one one33 H.1
   obtain ⟨hc3, H⟩ := H
   refine ⟨?_, ?_⟩
   ·exact still_loc one24 hL8 0 rfl 0 (v := s5.v) rfl
   refine ⟨?_, ?_⟩
   ·exact still_loc one24 hL8 0 rfl 0 (v := s5.v) rfl
   refine H.mono fun r6 h9 H => ?_
   obtain ⟨s23, rfl, hL9, H⟩ := H
   refine ⟨?_, ?_⟩
   ·exact still_loc one24 hL9 0 rfl 0 (v := s5.v) rfl
   refine ⟨?_, ?_⟩
   ·exact still_loc one24 hL9 0 rfl 0 (v := s5.v) rfl
   refine ⟨?_, ?_⟩
   ·exact still_loc one24 hL9 0 rfl 0 (v := s5.v) rfl
   obtain ⟨hi2, H⟩ := H
   refine pop_index sli24 siz33 .i64 s5 0 hi2 ?_
   obtain ⟨hw_1, hL10, H⟩ := H
   refine uop_cell (v := s23.v) siz33 hw_1 rfl (fun h10 he_1 => ?_)
   rw [← he_1] at hL10
   have H := H h10 he_1 hL10
   refine rop_locA agg26 hL10 0 rfl 0 (vs := [s5.v]) rfl rfl ?_
   refine uop_loc siz26 hL10 1 rfl 0 [s5.v] rfl rfl rfl (Nat.le_of_ble_eq_true rfl) (L' := [(b3, [s5.v]), (b2, [s5.v]), (b1, [y7.v, (VI y8), (Value.int .u64 y9)])]) rfl (fun h11 hf4 hL11 => ?_)
   refine rop_locA agg26 hL11 1 rfl 0 (vs := [s5.v]) rfl rfl ?_
   have H := H  h11  (Fr.old (Fr.r (In []) _) hf4) hL11
   exact H
  have H := H.2 hb3
  refine pop_ieq .i64 _ _ s7 1 ?_
  refine condM_b (fun hb4 => ?_) (fun hb4 => ?_)
  ·have H := H.1 hb4
   refine pop_field 0 fld26_0 b3 0 ?_
   refine rop_loc one24 hL5 0 rfl 0 (v := s5.v) rfl ?_
   refine H.mono fun r7 h12 H => ?_
   obtain ⟨y10, y11, y12, s30, rfl, hL12, H⟩ := H
   refine ⟨?_, ?_⟩
   ·exact still_loc one24 hL12 0 rfl 0 (v := s5.v) rfl
   refine pop_add .i64 5 s30 ?_
   refine H.mono fun r8 h13 H => ?_
   obtain ⟨s32, rfl, hL13, H⟩ := H
   refine ⟨?_, ?_⟩
   ·exact still_loc one24 hL13 0 rfl 0 (v := s5.v) rfl
   obtain ⟨hi3, H⟩ := H
   refine pop_index sli24 siz33 .i64 s5 0 hi3 ?_
   obtain ⟨hw_2, hL14, H⟩ := H
   refine uop_cell (v := s32.v) siz33 hw_2 rfl (fun h14 he_2 => ?_)
   rw [← he_2] at hL14
   have H := H h14 he_2 hL14
   refine rop_locA agg26 hL14 0 rfl 0 (vs := [s5.v]) rfl rfl ?_
   refine uop_loc siz26 hL14 1 rfl 0 [s5.v] rfl rfl rfl (Nat.le_of_ble_eq_true rfl) (L' := [(b3, [s5.v]), (b2, [s5.v]), (b1, [y10.v, (VI y11), (Value.int .u64 y12)])]) rfl (fun h15 hf5 hL15 => ?_)
   refine rop_locA agg26 hL15 1 rfl 0 (vs := [s5.v]) rfl rfl ?_
   have H := H  h15  (Fr.old (Fr.r (In []) _) hf5) hL15
   exact H
  have H := H.2 hb4
  refine pop_ieq .i64 _ _ s7 2 ?_
  refine condM_b (fun hb5 => ?_) (fun hb5 => ?_)
  rotate_left
  ·have H := H.2 hb5
   refine pop_ieq .i64 _ _ s7 3 ?_
   refine condM_b (fun hb7 => ?_) (fun hb7 => ?_)
   rotate_left
   ·have H := H.2 hb7
    refine rop_locA agg26 hL5 0 rfl 0 (vs := [s5.v]) rfl rfl ?_
    refine uop_loc siz26 hL5 1 rfl 0 [s5.v] rfl rfl rfl (Nat.le_of_ble_eq_true rfl) (L' := [(b3, [s5.v]), (b2, [s5.v]), (b1, [y4.v, (VI y5), (Value.int .u64 y6)])]) rfl (fun h25 hf10 hL25 => ?_)
    refine rop_locA agg26 hL25 1 rfl 0 (vs := [s5.v]) rfl rfl ?_
    have H := H  h25  (Fr.old (Fr.r (In []) _) hf10) hL25
    exact H
   have H := H.1 hb7
   refine pop.mk' (v := (Value.agg #[nilSl.v])) (fun w => by kernel_rfl) ?_
   refine uop_loc siz26 hL5 0 rfl 0 [nilSl.v] rfl rfl rfl (Nat.le_of_ble_eq_true rfl) (L' := [(b3, [nilSl.v]), (b2, [nilSl.v]), (b1, [y4.v, (VI y5), (Value.int .u64 y6)])]) rfl (fun h23 hf8 hL23 => ?_)
   refine rop_locA agg26 hL23 0 rfl 0 (vs := [nilSl.v]) rfl rfl ?_
   refine uop_loc siz26 hL23 1 rfl 0 [nilSl.v] rfl rfl rfl (Nat.le_of_ble_eq_true rfl) (L' := [(b3, [nilSl.v]), (b2, [nilSl.v]), (b1, [y4.v, (VI y5), (Value.int .u64 y6)])]) rfl (fun h24 hf9 hL24 => ?_)
   refine rop_locA agg26 hL24 1 rfl 0 (vs := [nilSl.v]) rfl rfl ?_
   have H := H  h24  (Fr.old (Fr.old (Fr.r (In []) _) hf8) hf9) hL24
   exact H
  have H := H.1 hb5
  obtain ⟨J1, ⟨n2, h0_1⟩, HB1⟩ := H
  refine loop_intro (J := fun (n : Nat) (vs : List Value) (h' : Heap) => ∃ y13 : Sl, ∃ y14 : Sl, ∃ y15 : Int, ∃ y16 : Int, vs = [] /\ J1 n y13 y14 y15 y16 h' /\ Vars h' [(b3, [y13.v]), (b2, [nilSl.v]), (b1, [y14.v, (VI y15), (Value.int .u64 y16)])]) n2 ⟨s5, y4, y5, y6, rfl, h0_1, hL5⟩ ?_
  intro I1 mu1 hI1 junk1  h16 hi4
  obtain ⟨n1, ⟨y13, y14, y15, y16, hv, hJ1, hL16⟩, hn1⟩ := hI1 _ _ hi4
  cases hv
  have H := HB1 n1 y13 y14 y15 y16 h16 hJ1 hL16
  refine pop_field 0 fld26_0 b3 0 ?_
  refine rop_loc one24 hL16 0 rfl 0 (v := y13.v) rfl ?_
  refine pop_len y13 _ _ sli24 ?_
  refine H.mono fun r9 h17 H => ?_
  obtain ⟨y17, y18, y19, s40, rfl, hL17, H⟩ := H
  refine ⟨?_, ?_⟩
  ·exact still_loc one24 hL17 0 rfl 0 (v := y13.v) rfl
  refine pop_add .i64 8 s40 ?_
  refine pop_lss .i64 (y13.n : Int) (w64 (8 + s40)) ?_
  refine condM_b (fun hb6 => ?_) (fun hb6 => ?_)
  rotate_left
  ·have H := H.2 hb6
   refine rop_locA agg26 hL17 0 rfl 0 (vs := [y13.v]) rfl rfl ?_
   refine uop_loc siz26 hL17 1 rfl 0 [y13.v] rfl rfl rfl (Nat.le_of_ble_eq_true rfl) (L' := [(b3, [y13.v]), (b2, [y13.v]), (b1, [y17.v, (VI y18), (Value.int .u64 y19)])]) rfl (fun h22 hf7 hL22 => ?_)
   refine rop_locA agg26 hL22 1 rfl 0 (vs := [y13.v]) rfl rfl ?_
   have H := H  h22  (Fr.old (Fr.r (In []) _) hf7) hL22
   exact H
  have H := H.1 hb6
  refine pop_field 0 fld26_0 b3 0 ?_
  refine rop_loc one24 hL17 0 rfl 0 (v := y13.v) rfl ?_
  refine H.mono fun r10 h18 H => ?_
  obtain ⟨s45, rfl, hL18, H⟩ := H
  refine H.mono fun r11 h19 H => ?_
  obtain ⟨s46, rfl, hL19, H⟩ := H
  refine H.mono fun r12 h20 H => ?_
  obtain ⟨s47, rfl, hL20, H⟩ := H
  refine pop_field 0 fld26_0 b3 0 ?_
  refine uop_loc siz24 hL20 0 rfl 0 [s47.v] rfl rfl rfl (Nat.le_of_ble_eq_true rfl) (L' := [(b3, [s47.v]), (b2, [nilSl.v]), (b1, [y17.v, (VI y18), (Value.int .u64 y19)])]) rfl (fun h21 hf6 hL21 => ?_)
  have H := H  h21  (Fr.old (Fr.r (In []) _) hf6) hL21
  obtain ⟨m_1, hm_1, H⟩ := H
  exact hn1 _ _ ⟨m_1, hm_1, s47, y17, y18, y19, rfl, H, hL21⟩
def u122 (P : Program) (b1 : Nat) (c0_1 : Sl) (c0_2 : Int) (c0_3 : Int) (h : Heap) (K : Value -> Heap -> Prop) : Prop :=
 ∃ J1 : Int -> Heap -> Prop, (((decide (c0_2 < (c0_1.n : Int))) = true ->
 InB c0_1 c0_2 /\
 ∃ s23 : Int, hcell h (Sl.at c0_1 c0_2 1) = some (Value.int .u8 s23) /\
 rop P (convert 5 3 (Value.int .u8 s23)) h fun r1 => ∃ s24 : Int, r1 = (VI s24) /\ 
 J1 s24 h) /\
 ((decide (c0_2 < (c0_1.n : Int))) = false ->
 J1 0 h)) /\
 ∀ (y1 : Int) (h1 : Heap), J1 y1 h1 -> Vars h1 [(b1, [c0_1.v, (VI c0_2), (Value.int .u64 c0_3)])] ->
 ∀ (h2 : Heap), Fr (In [b1]) h1 h2 -> Vars h2 [(b1, [c0_1.v, (VI (w64 (c0_2 + 1))), (Value.int .u64 c0_3)])] ->
 rop P (convert 3 82 (VI y1)) h2 fun r2 => ∃ s39 : Int, r2 = (Value.int .u64 s39) /\ 
 ((decide ((w64 (c0_2 + 1)) ≤ (c0_1.n : Int))) = true ->
 ∀ (h3 : Heap), Fr (In [b1]) h2 h3 -> Vars h3 [(b1, [c0_1.v, (VI (w64 (c0_2 + 1))), (Value.int .u64 (IntKind.wrap .u64 ((IntKind.wrap .u64 ((IntKind.wrap .u64 (c0_3 * 6364136223846793005)) + s39)) + 1442695040888963407)))])] ->
 K (VI y1) h3) /\
 ((decide ((w64 (c0_2 + 1)) ≤ (c0_1.n : Int))) = false ->
 pop P (binA .shr 82 (Value.int .u64 (IntKind.wrap .u64 ((IntKind.wrap .u64 ((IntKind.wrap .u64 (c0_3 * 6364136223846793005)) + s39)) + 1442695040888963407))) (Value.int IntKind.u64 40)) fun r3 => ∃ s59 : Int, r3 = (Value.int .u64 s59) /\ 
 pop P (binA .and 82 (Value.int .u64 s59) (Value.int IntKind.u64 255)) fun r4 => ∃ s60 : Int, r4 = (Value.int .u64 s60) /\ 
 ∀ (h3 : Heap), Fr (In [b1]) h2 h3 -> Vars h3 [(b1, [c0_1.v, (VI (w64 (c0_2 + 1))), (Value.int .u64 (IntKind.wrap .u64 ((IntKind.wrap .u64 ((IntKind.wrap .u64 (c0_3 * 6364136223846793005)) + s39)) + 1442695040888963407)))])] ->
 rop P (convert 82 3 (Value.int .u64 s60)) h3 fun r5 => ∃ s61 : Int, r5 = (VI s61) /\ 
 K (VI s61) h3)
theorem v122 (b1 : Nat) (c0_1 : Sl) (c0_2 : Int) (c0_3 : Int) (h : Heap) (K : Value -> Heap -> Prop) (hL : Vars h [(b1, [c0_1.v, (VI c0_2), (Value.int .u64 c0_3)])]) (H : u122 Tryz.prog b1 c0_1 c0_2 c0_3 h K) : callM Tryz.prog 122 #[(VP b1 0)] h K := by
  refine c122 (VP b1 0) h K ?_
  unfold u122 at H
  unfold t122
  obtain ⟨J1, H, HB1⟩ := H
  refine ⟨fun (vs : List Value) (h' : Heap) => ∃ y1 : Int, vs = [(VI y1)] /\ J1 y1 h' /\ Vars h' [(b1, [c0_1.v, (VI c0_2), (Value.int .u64 c0_3)])], ?_, ?_⟩
  ·refine pop_nil _ ?_
   refine pop_field 1 fld84_1 b1 0 ?_
   refine rop_loc one3 hL 0 rfl 1 (v := (VI c0_2)) rfl ?_
   refine pop_nil _ ?_
   refine pop_field 0 fld84_0 b1 0 ?_
   refine rop_loc one22 hL 0 rfl 0 (v := c0_1.v) rfl ?_
   refine pop_len c0_1 _ _ sli22 ?_
   refine pop_lss .i64 c0_2 (c0_1.n : Int) ?_
   refine condM_b (fun hb1 => ?_) (fun hb1 => ?_)
   rotate_left
   ·have H := H.2 hb1
    exact ⟨0, rfl, H, hL⟩
   have H := H.1 hb1
   refine pop_nil _ ?_
   refine pop_field 0 fld84_0 b1 0 ?_
   refine rop_loc one22 hL 0 rfl 0 (v := c0_1.v) rfl ?_
   refine pop_nil _ ?_
   refine pop_field 1 fld84_1 b1 0 ?_
   refine rop_loc one3 hL 0 rfl 1 (v := (VI c0_2)) rfl ?_
   obtain ⟨hi1, H⟩ := H
   refine pop_index sli22 siz5 .i64 c0_1 c0_2 hi1 ?_
   obtain ⟨s23, hc1, H⟩ := H
   refine rop_one one5 (Value.int .u8 s23) hc1 ?_
   refine H.mono fun r1 H => ?_
   obtain ⟨s24, rfl, H⟩ := H
   exact ⟨s24, rfl, H, hL⟩
  intro junk1 tv1 h1
  rintro ⟨y1, hv, hJ1, hL1⟩
  cases hv
  have H := HB1 y1 h1 hJ1 hL1
  refine pop_nil _ ?_
  refine pop_field 1 fld84_1 b1 0 ?_
  refine rop_loc one3 hL1 0 rfl 1 (v := (VI c0_2)) rfl ?_
  refine pop_add .i64 c0_2 1 ?_
  refine pop_nil _ ?_
  refine pop_field 1 fld84_1 b1 0 ?_
  refine uop_loc siz3 hL1 0 rfl 1 [(VI (w64 (c0_2 + 1)))] rfl rfl rfl (Nat.le_of_ble_eq_true rfl) (L' := [(b1, [c0_1.v, (VI (w64 (c0_2 + 1))), (Value.int .u64 c0_3)])]) rfl (fun h2 hf1 hL2 => ?_)
  refine pop_nil _ ?_
  refine pop_field 2 fld84_2 b1 0 ?_
  refine rop_loc one82 hL2 0 rfl 2 (v := (Value.int .u64 c0_3)) rfl ?_
  refine pop_mul .u64 c0_3 6364136223846793005 ?_
  have H := H  h2  (Fr.old (Fr.r (In []) _) hf1) hL2
  refine H.mono fun r2 H => ?_
  obtain ⟨s39, rfl, H⟩ := H
  refine pop_add .u64 (IntKind.wrap .u64 (c0_3 * 6364136223846793005)) s39 ?_
  refine pop_add .u64 (IntKind.wrap .u64 ((IntKind.wrap .u64 (c0_3 * 6364136223846793005)) + s39)) 1442695040888963407 ?_
  refine pop_nil _ ?_
  refine pop_field 2 fld84_2 b1 0 ?_
  refine uop_loc siz82 hL2 0 rfl 2 [(Value.int .u64 (IntKind.wrap .u64 ((IntKind.wrap .u64 ((IntKind.wrap .u64 (c0_3 * 6364136223846793005)) + s39)) + 1442695040888963407)))] rfl rfl rfl (Nat.le_of_ble_eq_true rfl) (L' := [(b1, [c0_1.v, (VI (w64 (c0_2 + 1))), (Value.int .u64 (IntKind.wrap .u64 ((IntKind.wrap .u64 ((IntKind.wrap .u64 (c0_3 * 6364136223846793005)) + s39)) + 1442695040888963407)))])]) rfl (fun h3 hf2 hL3 => ?_)
  refine pop_nil _ ?_
  refine pop_field 1 fld84_1 b1 0 ?_
  refine rop_loc one3 hL3 0 rfl 1 (v := (VI (w64 (c0_2 + 1)))) rfl ?_
  refine pop_nil _ ?_
  refine pop_field 0 fld84_0 b1 0 ?_
  refine rop_loc one22 hL3 0 rfl 0 (v := c0_1.v) rfl ?_
  refine pop_len c0_1 _ _ sli22 ?_
  refine pop_leq .i64 (w64 (c0_2 + 1)) (c0_1.n : Int) ?_
  refine condM_b (fun hb2 => ?_) (fun hb2 => ?_)
  ·have H := H.1 hb2
   have H := H  h3  (Fr.old (Fr.r (In []) _) hf2) hL3
   exact H
  have H := H.2 hb2
  refine pop_nil _ ?_
  refine pop_field 2 fld84_2 b1 0 ?_
  refine rop_loc one82 hL3 0 rfl 2 (v := (Value.int .u64 (IntKind.wrap .u64 ((IntKind.wrap .u64 ((IntKind.wrap .u64 (c0_3 * 6364136223846793005)) + s39)) + 1442695040888963407)))) rfl ?_
  refine H.mono fun r3 H => ?_
  obtain ⟨s59, rfl, H⟩ := H
  refine H.mono fun r4 H => ?_
  obtain ⟨s60, rfl, H⟩ := H
  have H := H  h3  (Fr.old (Fr.r (In []) _) hf2) hL3
  refine H.mono fun r5 H => ?_
  obtain ⟨s61, rfl, H⟩ := H
  exact H
def u123 (P : Program) (a0_1 : Int) (b1_1 : Int) (h : Heap) (K : Value -> Heap -> Prop) : Prop :=
 ((decide (b1_1 < a0_1)) = true ->
 K (VI a0_1) h) /\
 ((decide (b1_1 < a0_1)) = false ->
 K (VI b1_1) h)
theorem v123 (a0_1 : Int) (b1_1 : Int) (h : Heap) (K : Value -> Heap -> Prop) (H : u123 Tryz.prog a0_1 b1_1 h K) : callM Tryz.prog 123 #[(VI a0_1), (VI b1_1)] h K := by
  refine c123 (VI a0_1) (VI b1_1) h K ?_
  unfold u123 at H
  unfold t123
  have hL : Vars h [] := .nil
  refine pop_gtr .i64 a0_1 b1_1 ?_
  refine condM_b (fun hb1 => ?_) (fun hb1 => ?_)
  ·exact H.1 hb1
  exact H.2 hb1
def u124 (P : Program) (s0_1 : Sl) (f1_1 : Value) (h : Heap) (K : Value -> Heap -> Prop) : Prop :=
 ∃ J1 : Nat -> Int -> Heap -> Prop, (∃ n0 : Nat, J1 n0 0 h) /\
 ∀ (n1 : Nat) (s8 : Int) (h1 : Heap), J1 n1 s8 h1 -> Vars h1 [] ->
 ((decide (s8 < (s0_1.n : Int))) = true ->
 InB s0_1 s8 /\
 ∃ s15 : Int, hcell h1 (Sl.at s0_1 s8 1) = some (VI s15) /\
 callV P f1_1 [(VI s15)] h1 fun r1 h2 => ∃ s16 : Bool, r1 = (VB s16) /\ Vars h2 [] /\
 (s16 = true ->
 K (VI s8) h2) /\
 (s16 = false ->
 ∃ m : Nat, m < n1 /\ J1 m (w64 (s8 + 1)) h2)) /\
 ((decide (s8 < (s0_1.n : Int))) = false ->
 K (VI (-1)) h1)
theorem v124 (s0_1 : Sl) (f1_1 : Value) (h : Heap) (K : Value -> Heap -> Prop) (H : u124 Tryz.prog s0_1 f1_1 h K) : callM Tryz.prog 124 #[s0_1.v, f1_1] h K := by
  refine c124 s0_1.v f1_1 h K ?_
  unfold u124 at H
  unfold t124
  have hL : Vars h [] := .nil
  refine pop_len s0_1 _ _ sli33 ?_
  obtain ⟨J1, ⟨n2, h0_1⟩, HB1⟩ := H
  refine loop_intro (J := fun (n : Nat) (vs : List Value) (h' : Heap) => ∃ s8 : Int, vs = [(VI s8)] /\ J1 n s8 h' /\ Vars h' []) n2 ⟨0, rfl, h0_1, hL⟩ ?_
  intro I1 mu1 hI1 junk1 tv1 h1 hi1
  obtain ⟨n1, ⟨s8, hv, hJ1, hL1⟩, hn1⟩ := hI1 _ _ hi1
  cases hv
  have H := HB1 n1 s8 h1 hJ1 hL1
  refine pop_lss .i64 s8 (s0_1.n : Int) ?_
  refine condM_b (fun hb1 => ?_) (fun hb1 => ?_)
  rotate_left
  ·exact H.2 hb1
  have H := H.1 hb1
  obtain ⟨hi2, H⟩ := H
  refine pop_index sli33 siz3 .i64 s0_1 s8 hi2 ?_
  obtain ⟨s15, hc1, H⟩ := H
  refine rop_one one3 (VI s15) hc1 ?_
  refine H.mono fun r1 h2 H => ?_
  obtain ⟨s16, rfl, hL2, H⟩ := H
  refine condM_b (fun hb2 => ?_) (fun hb2 => ?_)
  ·exact H.1 hb2
  have H := H.2 hb2
  refine pop_add .i64 s8 1 ?_
  obtain ⟨m_1, hm_1, H⟩ := H
  exact hn1 _ _ ⟨m_1, hm_1, (w64 (s8 + 1)), rfl, H, hL2⟩
def u129 (P : Program) (n0_1 : Int) (both1_1 : Bool) (h : Heap) (K : Value -> Heap -> Prop) : Prop :=
 ∀ (b1 : Nat) (b2 : Nat) (h3 : Heap), h.size ≤ b1 -> h.size ≤ b2 -> Fr (In []) h h3 -> Vars h3 [(b2, [nilSl.v]), (b1, [nilSl.v])] ->
 ∃ J1 : Nat -> Int -> Sl -> Heap -> Prop, (∃ n0 : Nat, J1 n0 0 nilSl h3) /\
 ∀ (n1 : Nat) (p6_1 : Int) (y1 : Sl) (h4 : Heap), J1 n1 p6_1 y1 h4 -> Vars h4 [(b2, [y1.v]), (b1, [nilSl.v])] ->
 ((decide (p6_1 < n0_1)) = true ->
 n0_1 ≠ 0 /\
 eop P (Instr.buildSlice 33 1 #[(0, (VI (Int.tmod (w64 (p6_1 + 1)) n0_1)))]) h4 fun r1 h5 => ∃ s18 : Sl, r1 = s18.v /\ Vars h5 [(b2, [y1.v]), (b1, [nilSl.v])] /\
 ∃ J2 : Sl -> Heap -> Prop, ((both1_1 = true ->
 n0_1 ≠ 0 /\
 eop P (Instr.buildSlice 33 1 #[(0, (VI (Int.tmod (w64 ((w64 (p6_1 + n0_1)) - 1)) n0_1)))]) h5 fun r2 h6 => ∃ s27 : Sl, r2 = s27.v /\ Vars h6 [(b2, [y1.v]), (b1, [nilSl.v])] /\
 eop P (appS 33 33 33 s18.v s27.v) h6 fun r3 h7 => ∃ s28 : Sl, r3 = s28.v /\ Vars h7 [(b2, [y1.v]), (b1, [nilSl.v])] /\
 J2 s28 h7) /\
 (both1_1 = false ->
 J2 s18 h5)) /\
 ∀ (y2 : Sl) (h8 : Heap), J2 y2 h8 -> Vars h8 [(b2, [y1.v]), (b1, [nilSl.v])] ->
 eop P (Instr.buildSlice 24 1 #[(0, y2.v)]) h8 fun r4 h9 => ∃ s32 : Sl, r4 = s32.v /\ Vars h9 [(b2, [y1.v]), (b1, [nilSl.v])] /\
 eop P (appS 24 24 24 y1.v s32.v) h9 fun r5 h10 => ∃ s33 : Sl, r5 = s33.v /\ Vars h10 [(b2, [y1.v]), (b1, [nilSl.v])] /\
 ∀ (h11 : Heap), Fr (In [b2]) h10 h11 -> Vars h11 [(b2, [s33.v]), (b1, [nilSl.v])] ->
 ∃ m : Nat, m < n1 /\ J1 m (w64 (p6_1 + 1)) s33 h11) /\
 ((decide (p6_1 < n0_1)) = false ->
 ∀ (h12 : Heap), Fr (In [b1]) h4 h12 -> Vars h12 [(b2, [y1.v]), (b1, [y1.v])] ->
 K (.agg #[y1.v]) h12)
end Go.Proofs.YtkjkfjkapbpgiaaGreatDoor
