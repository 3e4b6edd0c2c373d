import Derived.Test.YtkjkfjkapbpgiaaGreatUnicyclesKeptU1
import Derived.Test.YtkjkfjkapbpgiaaGreatUnicyclesKeptT
import Derived.Test.YtkjkfjkapbpgiaaGreatM2
set_option linter.unusedVariables false
set_option linter.unusedSimpArgs false
set_option maxRecDepth 100000
set_option maxHeartbeats 16000000
namespace Go.Proofs.YtkjkfjkapbpgiaaGreat
open Go Go.Mx
open Go.Instr (loadAt extract buildSlice)
theorem v123 (s0 : Sl) (c1 : Int) (h : Heap) (K : KQ) (H : u123 Tryz.prog s0 c1 h K) : callM Tryz.prog 123 #[s0.v, (VI c1)] h K := by
 refine c123 s0.v (VI c1) h K ?_
 unfold u123 at H
 unfold t123
 have hL : Vars h [] := .nil
 refine H.mono ?_
 rintro _ h1 ⟨s7, rfl, hL1, H⟩
 refine pop_geq .i64 s7 0 ?_
 exact H
def u124 (P : Program) (a0 : Int) (z1 : Int) (h : Heap) (K : KQ) : Prop :=
 ((decide (z1 < a0)) = true ->
 K (VI a0) h) /\
 ((decide (z1 < a0)) = false ->
 K (VI z1) h)
theorem v124 (a0 : Int) (z1 : Int) (h : Heap) (K : KQ) (H : u124 Tryz.prog a0 z1 h K) : callM Tryz.prog 124 #[(VI a0), (VI z1)] h K := by
 refine c124 (VI a0) (VI z1) h K ?_
 unfold u124 at H
 unfold t124
 have hL : Vars h [] := .nil
 refine pop_gtr .i64 a0 z1 ?_
 refine condM_b (fun hb1 => ?_) (fun hb1 => ?_)
 ·exact H.1 hb1
 exact H.2 hb1
def u125 (P : Program) (g0 : Sl) (v1 : Sl) (p2 : Int) (h : Heap) (K : KQ) : Prop :=
 ∀ (b1 : Nat) (h1 : Heap), h.size ≤ b1 -> Fr (In []) h h1 -> Vars h1 [(b1, [g0.v])] ->
 ∃ J1 : Nat -> Int -> Int -> Heap -> Prop, (∃ n0 : Nat, J1 n0 p2 0 h1) /\
 ∀ (n1 : Nat) (p2a : Int) (z8 : Int) (h2 : Heap), J1 n1 p2a z8 h2 -> Vars h2 [(b1, [g0.v])] ->
 ((decide (z8 < (g0.n : Int))) = true ->
 callM P 128 #[(.agg #[g0.v]), v1.v, (VI p2a)] h2 fun r1 h3 => ∃ s21 : Int, r1 = (VI s21) /\ Vars h3 [(b1, [g0.v])] /\
 ((decide (s21 < 0)) = true ->
 K (.tuple #[nilSl.v, (VB false)]) h3) /\
 ((decide (s21 < 0)) = false ->
 ∃ m : Nat, m < n1 /\ J1 m s21 (w64 (z8 + 1)) h3)) /\
 ((decide (z8 < (g0.n : Int))) = false ->
 eop P (buildSlice 29 1 #[(0, (VI p2a))]) h2 fun r2 h4 => ∃ s25 : Sl, r2 = s25.v /\ Vars h4 [(b1, [g0.v])] /\
 callM P 128 #[(.agg #[g0.v]), v1.v, (VI p2a)] h4 fun r3 h5 => ∃ s29 : Int, r3 = (VI s29) /\ Vars h5 [(b1, [g0.v])] /\
 ∃ J2 : Nat -> Sl -> Int -> Heap -> Prop, (∃ n0 : Nat, J2 n0 s25 s29 h5) /\
 ∀ (n2 : Nat) (o9 : Sl) (q10 : Int) (h6 : Heap), J2 n2 o9 q10 h6 -> Vars h6 [(b1, [g0.v])] ->
 ((!decide (q10 = p2a)) = true ->
 eop P (buildSlice 29 1 #[(0, (VI q10))]) h6 fun r4 h7 => ∃ s39 : Sl, r4 = s39.v /\ Vars h7 [(b1, [g0.v])] /\
 eop P (appS 29 29 29 o9.v s39.v) h7 fun r5 h8 => ∃ s40 : Sl, r5 = s40.v /\ Vars h8 [(b1, [g0.v])] /\
 callM P 128 #[(.agg #[g0.v]), v1.v, (VI q10)] h8 fun r6 h9 => ∃ s36 : Int, r6 = (VI s36) /\ Vars h9 [(b1, [g0.v])] /\
 ∃ m : Nat, m < n2 /\ J2 m s40 s36 h9) /\
 ((!decide (q10 = p2a)) = false ->
 K (.tuple #[o9.v, (VB true)]) h6))
theorem v125 (g0 : Sl) (v1 : Sl) (p2 : Int) (h : Heap) (K : KQ) (H : u125 Tryz.prog g0 v1 p2 h K) : callM Tryz.prog 125 #[(Value.agg #[g0.v]), v1.v, (VI p2)] h K := by
 refine c125 (Value.agg #[g0.v]) v1.v (VI p2) h K ?_
 unfold u125 at H
 unfold t125
 have hL : Vars h [] := .nil
 refine eop_box 26 (Value.agg #[g0.v]) rfl hL (fun b1 h1 hb1 hf1 hL1 => ?_)
 have H := H b1 h1 hb1 (fo hf1) hL1
 obtain ⟨J1, ⟨n4, h0a⟩, HB2⟩ := H
 refine loop_intro (J := fun (n : Nat) (vs : List Value) (h' : Heap) => ∃ p2a : Int, ∃ z8 : Int, vs = [(VI p2a), (VI z8)] /\ J1 n p2a z8 h' /\ Vars h' [(b1, [g0.v])]) n4 ⟨p2, 0, rfl, h0a, hL1⟩ ?_
 intro I2 mu2 hI2 junk1 tv3 tv4 h2 hi1
 obtain ⟨n1, ⟨p2a, z8, hv, hJ1, hL2⟩, hn1⟩ := hI2 _ _ hi1
 cases hv
 have H := HB2 n1 p2a z8 h2 hJ1 hL2
 refine pop_field 0 fld26_0 b1 0 ?_
 refine rl one24 hL2 0 0 g0.v ?_
 refine pop_len g0 _ _ sli24 ?_
 refine pop_lss .i64 z8 (g0.n : Int) ?_
 refine condM_b (fun hb2 => ?_) (fun hb2 => ?_)
 ·have H := H.1 hb2
  refine ra agg26 hL2 0 0 [g0.v] ?_
  refine H.mono ?_
  rintro _ h3 ⟨s21, rfl, hL3, H⟩
  refine pop_lss .i64 s21 0 ?_
  refine condM_b (fun hb3 => ?_) (fun hb3 => ?_)
  ·exact H.1 hb3
  have H := H.2 hb3
  refine pop_add .i64 z8 1 ?_
  obtain ⟨m_1, hm_1, H⟩ := H
  exact hn1 _ _ ⟨m_1, hm_1, s21, (w64 (z8 + 1)), rfl, H, hL3⟩
 have H := H.2 hb2
 refine H.mono ?_
 rintro _ h4 ⟨s25, rfl, hL4, H⟩
 refine ra agg26 hL4 0 0 [g0.v] ?_
 refine H.mono ?_
 rintro _ h5 ⟨s29, rfl, hL5, H⟩
 obtain ⟨J2, ⟨n3, h0⟩, HB1⟩ := H
 refine loop_intro (J := fun (n : Nat) (vs : List Value) (h' : Heap) => ∃ o9 : Sl, ∃ q10 : Int, vs = [o9.v, (VI q10)] /\ J2 n o9 q10 h' /\ Vars h' [(b1, [g0.v])]) n3 ⟨s25, s29, rfl, h0, hL5⟩ ?_
 intro I1 mu1 hI1 junk2 tv1 tv2 h6 hi2
 obtain ⟨n2, ⟨o9, q10, hv, hJ2, hL6⟩, hn2⟩ := hI1 _ _ hi2
 cases hv
 have H := HB1 n2 o9 q10 h6 hJ2 hL6
 refine pop_ine .i64 _ _ q10 p2a ?_
 refine condM_b (fun hb4 => ?_) (fun hb4 => ?_)
 rotate_left
 ·exact H.2 hb4
 have H := H.1 hb4
 refine H.mono ?_
 rintro _ h7 ⟨s39, rfl, hL7, H⟩
 refine H.mono ?_
 rintro _ h8 ⟨s40, rfl, hL8, H⟩
 refine ra agg26 hL8 0 0 [g0.v] ?_
 refine H.mono ?_
 rintro _ h9 ⟨s36, rfl, hL9, H⟩
 obtain ⟨m_2, hm_2, H⟩ := H
 exact hn2 _ _ ⟨m_2, hm_2, s40, s36, rfl, H, hL9⟩
def u126 (P : Program) (g0 : Sl) (v1 : Sl) (p2 : Int) (h : Heap) (K : KQ) : Prop :=
 InB g0 p2 /\
 ∀ (b1 : Nat) (h1 : Heap), h.size ≤ b1 -> Fr (In []) h h1 -> Vars h1 [(b1, [g0.v])] ->
 ∃ s11 : Sl, hcell h1 (Sl.at g0 p2 1) = some s11.v /\
 ((decide ((s11.n : Int) = 0)) = true ->
 K (VI (-1)) h1) /\
 ((decide ((s11.n : Int) = 0)) = false ->
 InB g0 p2 /\
 ∃ s18 : Sl, hcell h1 (Sl.at g0 p2 1) = some s18.v /\
 InB v1 p2 /\
 ∃ s22 : Int, hcell h1 (Sl.at v1 p2 1) = some (VI s22) /\
 InB s18 s22 /\
 ∃ s24 : Int, hcell h1 (Sl.at s18 s22 1) = some (VI s24) /\
 K (VI s24) h1)
theorem v126 (g0 : Sl) (v1 : Sl) (p2 : Int) (h : Heap) (K : KQ) (H : u126 Tryz.prog g0 v1 p2 h K) : callM Tryz.prog 126 #[(Value.agg #[g0.v]), v1.v, (VI p2)] h K := by
 refine c126 (Value.agg #[g0.v]) v1.v (VI p2) h K ?_
 unfold u126 at H
 unfold t126
 have hL : Vars h [] := .nil
 refine eop_box 26 (Value.agg #[g0.v]) rfl hL (fun b1 h1 hb1 hf1 hL1 => ?_)
 refine pop_field 0 fld26_0 b1 0 ?_
 refine rl one24 hL1 0 0 g0.v ?_
 obtain ⟨hi1, H⟩ := H
 refine pop_index sli24 siz29 .i64 g0 p2 hi1 ?_
 have H := H b1 h1 hb1 (fo hf1) hL1
 obtain ⟨s11, hc4, H⟩ := H
 refine rop_one one29 s11.v hc4 ?_
 refine pop_len s11 _ _ sli29 ?_
 refine pop_ieq .i64 _ _ (s11.n : Int) 0 ?_
 refine condM_b (fun hb2 => ?_) (fun hb2 => ?_)
 ·exact H.1 hb2
 have H := H.2 hb2
 refine pop_field 0 fld26_0 b1 0 ?_
 refine rl one24 hL1 0 0 g0.v ?_
 obtain ⟨hi2, H⟩ := H
 refine pop_index sli24 siz29 .i64 g0 p2 hi2 ?_
 obtain ⟨s18, hc3, H⟩ := H
 refine rop_one one29 s18.v hc3 ?_
 obtain ⟨hi3, H⟩ := H
 refine pop_index sli29 siz3 .i64 v1 p2 hi3 ?_
 obtain ⟨s22, hc2, H⟩ := H
 refine rop_one one3 (VI s22) hc2 ?_
 obtain ⟨hi4, H⟩ := H
 refine pop_index sli29 siz3 .i64 s18 s22 hi4 ?_
 obtain ⟨s24, hc1, H⟩ := H
 refine rop_one one3 (VI s24) hc1 ?_
 exact H
def u127 (P : Program) (s0 : Sl) (c1 : Int) (h : Heap) (K : KQ) : Prop :=
 ∃ J1 : Nat -> Int -> Heap -> Prop, (∃ n0 : Nat, J1 n0 0 h) /\
 ∀ (n1 : Nat) (s8 : Int) (h1 : Heap), J1 n1 s8 h1 -> Vars h1 [] ->
 ((decide (s8 < (s0.n : Int))) = true ->
 InB s0 s8 /\
 ∃ s15 : Int, hcell h1 (Sl.at s0 s8 1) = some (VI s15) /\
 ((decide (c1 = s15)) = true ->
 K (VI s8) h1) /\
 ((decide (c1 = s15)) = false ->
 ∃ m : Nat, m < n1 /\ J1 m (w64 (s8 + 1)) h1)) /\
 ((decide (s8 < (s0.n : Int))) = false ->
 K (VI (-1)) h1)
theorem v127 (s0 : Sl) (c1 : Int) (h : Heap) (K : KQ) (H : u127 Tryz.prog s0 c1 h K) : callM Tryz.prog 127 #[s0.v, (VI c1)] h K := by
 refine c127 s0.v (VI c1) h K ?_
 unfold u127 at H
 unfold t127
 have hL : Vars h [] := .nil
 refine pop_len s0 _ _ sli29 ?_
 obtain ⟨J1, ⟨n2, h0⟩, HB1⟩ := H
 refine loop_intro (J := fun (n : Nat) (vs : List Value) (h' : Heap) => ∃ s8 : Int, vs = [(VI s8)] /\ J1 n s8 h' /\ Vars h' []) n2 ⟨0, rfl, h0, hL⟩ ?_
 intro I1 mu1 hI1 junk1 tv1 h1 hi1
 obtain ⟨n1, ⟨s8, hv, hJ1, hL1⟩, hn1⟩ := hI1 _ _ hi1
 cases hv
 have H := HB1 n1 s8 h1 hJ1 hL1
 refine pop_lss .i64 s8 (s0.n : Int) ?_
 refine condM_b (fun hb1 => ?_) (fun hb1 => ?_)
 rotate_left
 ·exact H.2 hb1
 have H := H.1 hb1
 obtain ⟨hi2, H⟩ := H
 refine pop_index sli29 siz3 .i64 s0 s8 hi2 ?_
 obtain ⟨s15, hc1, H⟩ := H
 refine rop_one one3 (VI s15) hc1 ?_
 refine pop_ieq .i64 _ _ c1 s15 ?_
 refine condM_b (fun hb2 => ?_) (fun hb2 => ?_)
 ·exact H.1 hb2
 have H := H.2 hb2
 refine pop_add .i64 s8 1 ?_
 obtain ⟨m_1, hm_1, H⟩ := H
 exact hn1 _ _ ⟨m_1, hm_1, (w64 (s8 + 1)), rfl, H, hL1⟩
def u128 (P : Program) (g0 : Sl) (v1 : Sl) (p2 : Int) (h : Heap) (K : KQ) : Prop :=
 InB g0 p2 /\
 ∀ (b1 : Nat) (h1 : Heap), h.size ≤ b1 -> Fr (In []) h h1 -> Vars h1 [(b1, [g0.v])] ->
 ∃ s11 : Sl, hcell h1 (Sl.at g0 p2 1) = some s11.v /\
 ((decide ((s11.n : Int) = 0)) = true ->
 K (VI (-1)) h1) /\
 ((decide ((s11.n : Int) = 0)) = false ->
 InB g0 p2 /\
 ∃ s18 : Sl, hcell h1 (Sl.at g0 p2 1) = some s18.v /\
 InB v1 p2 /\
 ∃ s22 : Int, hcell h1 (Sl.at v1 p2 1) = some (VI s22) /\
 InB s18 s22 /\
 ∃ s24 : Int, hcell h1 (Sl.at s18 s22 1) = some (VI s24) /\
 K (VI s24) h1)
theorem v128 (g0 : Sl) (v1 : Sl) (p2 : Int) (h : Heap) (K : KQ) (H : u128 Tryz.prog g0 v1 p2 h K) : callM Tryz.prog 128 #[(Value.agg #[g0.v]), v1.v, (VI p2)] h K := by
 refine c128 (Value.agg #[g0.v]) v1.v (VI p2) h K ?_
 unfold u128 at H
 unfold t128
 have hL : Vars h [] := .nil
 refine eop_box 26 (Value.agg #[g0.v]) rfl hL (fun b1 h1 hb1 hf1 hL1 => ?_)
 refine pop_field 0 fld26_0 b1 0 ?_
 refine rl one24 hL1 0 0 g0.v ?_
 obtain ⟨hi1, H⟩ := H
 refine pop_index sli24 siz29 .i64 g0 p2 hi1 ?_
 have H := H b1 h1 hb1 (fo hf1) hL1
 obtain ⟨s11, hc4, H⟩ := H
 refine rop_one one29 s11.v hc4 ?_
 refine pop_len s11 _ _ sli29 ?_
 refine pop_ieq .i64 _ _ (s11.n : Int) 0 ?_
 refine condM_b (fun hb2 => ?_) (fun hb2 => ?_)
 ·exact H.1 hb2
 have H := H.2 hb2
 refine pop_field 0 fld26_0 b1 0 ?_
 refine rl one24 hL1 0 0 g0.v ?_
 obtain ⟨hi2, H⟩ := H
 refine pop_index sli24 siz29 .i64 g0 p2 hi2 ?_
 obtain ⟨s18, hc3, H⟩ := H
 refine rop_one one29 s18.v hc3 ?_
 obtain ⟨hi3, H⟩ := H
 refine pop_index sli29 siz3 .i64 v1 p2 hi3 ?_
 obtain ⟨s22, hc2, H⟩ := H
 refine rop_one one3 (VI s22) hc2 ?_
 obtain ⟨hi4, H⟩ := H
 refine pop_index sli29 siz3 .i64 s18 s22 hi4 ?_
 obtain ⟨s24, hc1, H⟩ := H
 refine rop_one one3 (VI s24) hc1 ?_
 exact H
def u129 (P : Program) (g0 : Sl) (v1 : Sl) (p2 : Int) (h : Heap) (K : KQ) : Prop :=
 ∀ (b1 : Nat) (h1 : Heap), h.size ≤ b1 -> Fr (In []) h h1 -> Vars h1 [(b1, [g0.v])] ->
 eop P (buildSlice 29 1 #[(0, (VI p2))]) h1 fun r1 h2 => ∃ s10 : Sl, r1 = s10.v /\ Vars h2 [(b1, [g0.v])] /\
 callM P 128 #[(.agg #[g0.v]), v1.v, (VI p2)] h2 fun r2 h3 => ∃ s14 : Int, r2 = (VI s14) /\ Vars h3 [(b1, [g0.v])] /\
 ∃ J1 : Nat -> Sl -> Int -> Heap -> Prop, (∃ n0 : Nat, J1 n0 s10 s14 h3) /\
 ∀ (n1 : Nat) (o7 : Sl) (q8 : Int) (h4 : Heap), J1 n1 o7 q8 h4 -> Vars h4 [(b1, [g0.v])] ->
 ((!decide (q8 = p2)) = true ->
 eop P (buildSlice 29 1 #[(0, (VI q8))]) h4 fun r3 h5 => ∃ s24 : Sl, r3 = s24.v /\ Vars h5 [(b1, [g0.v])] /\
 eop P (appS 29 29 29 o7.v s24.v) h5 fun r4 h6 => ∃ s25 : Sl, r4 = s25.v /\ Vars h6 [(b1, [g0.v])] /\
 callM P 128 #[(.agg #[g0.v]), v1.v, (VI q8)] h6 fun r5 h7 => ∃ s21 : Int, r5 = (VI s21) /\ Vars h7 [(b1, [g0.v])] /\
 ∃ m : Nat, m < n1 /\ J1 m s25 s21 h7) /\
 ((!decide (q8 = p2)) = false ->
 K o7.v h4)
theorem v129 (g0 : Sl) (v1 : Sl) (p2 : Int) (h : Heap) (K : KQ) (H : u129 Tryz.prog g0 v1 p2 h K) : callM Tryz.prog 129 #[(Value.agg #[g0.v]), v1.v, (VI p2)] h K := by
 refine c129 (Value.agg #[g0.v]) v1.v (VI p2) h K ?_
 unfold u129 at H
 unfold t129
 have hL : Vars h [] := .nil
 refine eop_box 26 (Value.agg #[g0.v]) rfl hL (fun b1 h1 hb1 hf1 hL1 => ?_)
 refine (H b1 h1 hb1 (fo hf1) hL1).mono ?_
 rintro _ h2 ⟨s10, rfl, hL2, H⟩
 refine ra agg26 hL2 0 0 [g0.v] ?_
 refine H.mono ?_
 rintro _ h3 ⟨s14, rfl, hL3, H⟩
 obtain ⟨J1, ⟨n2, h0⟩, HB1⟩ := H
 refine loop_intro (J := fun (n : Nat) (vs : List Value) (h' : Heap) => ∃ o7 : Sl, ∃ q8 : Int, vs = [o7.v, (VI q8)] /\ J1 n o7 q8 h' /\ Vars h' [(b1, [g0.v])]) n2 ⟨s10, s14, rfl, h0, hL3⟩ ?_
 intro I1 mu1 hI1 junk1 tv1 tv2 h4 hi1
 obtain ⟨n1, ⟨o7, q8, hv, hJ1, hL4⟩, hn1⟩ := hI1 _ _ hi1
 cases hv
 have H := HB1 n1 o7 q8 h4 hJ1 hL4
 refine pop_ine .i64 _ _ q8 p2 ?_
 refine condM_b (fun hb2 => ?_) (fun hb2 => ?_)
 rotate_left
 ·exact H.2 hb2
 have H := H.1 hb2
 refine H.mono ?_
 rintro _ h5 ⟨s24, rfl, hL5, H⟩
 refine H.mono ?_
 rintro _ h6 ⟨s25, rfl, hL6, H⟩
 refine ra agg26 hL6 0 0 [g0.v] ?_
 refine H.mono ?_
 rintro _ h7 ⟨s21, rfl, hL7, H⟩
 obtain ⟨m_1, hm_1, H⟩ := H
 exact hn1 _ _ ⟨m_1, hm_1, s25, s21, rfl, H, hL7⟩
def u130 (P : Program) (g0 : Sl) (b1 : Nat) (w1 : Sl) (w1a : Int) (h : Heap) (K : KQ) : Prop :=
 InB g0 w1a /\
 ∀ (b2 : Nat) (h1 : Heap), h.size ≤ b2 -> Fr (In []) h h1 -> Vars h1 [(b2, [g0.v]), (b1, [w1.v, (VI w1a)])] ->
 ∃ s13 : Sl, hcell h1 (Sl.at g0 w1a 1) = some s13.v /\
 ((decide ((s13.n : Int) = 0)) = true ->
 K (VB false) h1) /\
 ((decide ((s13.n : Int) = 0)) = false ->
 InB w1 w1a /\
 ∃ s34 : Int, hcell h1 (Sl.at w1 w1a 1) = some (VI s34) /\
 (s13.n : Int) ≠ 0 /\
 InB w1 w1a /\
 Writable h1 (Sl.at w1 w1a 1) /\ Vars (hset h1 (Sl.at w1 w1a 1) (VI (Int.tmod (w64 (s34 + 1)) (s13.n : Int)))) [(b2, [g0.v]), (b1, [w1.v, (VI w1a)])] /\
 ∀ h2 : Heap, h2 = hset h1 (Sl.at w1 w1a 1) (VI (Int.tmod (w64 (s34 + 1)) (s13.n : Int))) -> Vars h2 [(b2, [g0.v]), (b1, [w1.v, (VI w1a)])] ->
 InB w1 w1a /\
 ∃ s51 : Int, hcell h2 (Sl.at w1 w1a 1) = some (VI s51) /\
 InB s13 s51 /\
 ∃ s53 : Int, hcell h2 (Sl.at s13 s51 1) = some (VI s53) /\
 ∀ (h3 : Heap), Fr (In [b1]) h2 h3 -> Vars h3 [(b2, [g0.v]), (b1, [w1.v, (VI s53)])] ->
 K (VB true) h3)
theorem v130 (g0 : Sl) (b1 : Nat) (w1 : Sl) (w1a : Int) (h : Heap) (K : KQ) (hL : Vars h [(b1, [w1.v, (VI w1a)])]) (H : u130 Tryz.prog g0 b1 w1 w1a h K) : callM Tryz.prog 130 #[(Value.agg #[g0.v]), (VP b1 0)] h K := by
 refine c130 (Value.agg #[g0.v]) (VP b1 0) h K ?_
 unfold u130 at H
 unfold t130
 refine eop_box 26 (Value.agg #[g0.v]) rfl hL (fun b2 h1 hb1 hf1 hL1 => ?_)
 refine pop_field 0 fld26_0 b2 0 ?_
 refine rl one24 hL1 0 0 g0.v ?_
 refine pop_nil _ ?_
 refine pop_field 1 fld48_1 b1 0 ?_
 refine rl one3 hL1 1 1 (VI w1a) ?_
 obtain ⟨hi1, H⟩ := H
 refine pop_index sli24 siz29 .i64 g0 w1a hi1 ?_
 have H := H b2 h1 hb1 (fo hf1) hL1
 obtain ⟨s13, hc4, H⟩ := H
 refine rop_one one29 s13.v hc4 ?_
 refine pop_len s13 _ _ sli29 ?_
 refine pop_ieq .i64 _ _ (s13.n : Int) 0 ?_
 refine condM_b (fun hb2 => ?_) (fun hb2 => ?_)
 ·exact H.1 hb2
 have H := H.2 hb2
 refine pop_nil _ ?_
 refine pop_field 0 fld48_0 b1 0 ?_
 refine rl one29 hL1 1 0 w1.v ?_
 refine pop_nil _ ?_
 refine pop_field 1 fld48_1 b1 0 ?_
 refine rl one3 hL1 1 1 (VI w1a) ?_
 refine pop_nil _ ?_
 refine pop_field 0 fld48_0 b1 0 ?_
 refine rl one29 hL1 1 0 w1.v ?_
 refine pop_nil _ ?_
 refine pop_field 1 fld48_1 b1 0 ?_
 refine rl one3 hL1 1 1 (VI w1a) ?_
 obtain ⟨hi2, H⟩ := H
 refine pop_index sli29 siz3 .i64 w1 w1a hi2 ?_
 obtain ⟨s34, hc3, H⟩ := H
 refine rop_one one3 (VI s34) hc3 ?_
 refine pop_add .i64 s34 1 ?_
 refine pop_len s13 _ _ sli29 ?_
 obtain ⟨hz_1, H⟩ := H
 refine pop_rem .i64 (w64 (s34 + 1)) (s13.n : Int) hz_1 ?_
 obtain ⟨hi3, H⟩ := H
 refine pop_index sli29 siz3 .i64 w1 w1a hi3 ?_
 obtain ⟨hw_1, hL2, H⟩ := H
 refine uop_cell (v := (VI (Int.tmod (w64 (s34 + 1)) (s13.n : Int)))) siz3 hw_1 rfl (fun h2 he_1 => ?_)
 rw [← he_1] at hL2
 have H := H h2 he_1 hL2
 refine pop_nil _ ?_
 refine pop_field 0 fld48_0 b1 0 ?_
 refine rl one29 hL2 1 0 w1.v ?_
 refine pop_nil _ ?_
 refine pop_field 1 fld48_1 b1 0 ?_
 refine rl one3 hL2 1 1 (VI w1a) ?_
 obtain ⟨hi4, H⟩ := H
 refine pop_index sli29 siz3 .i64 w1 w1a hi4 ?_
 obtain ⟨s51, hc2, H⟩ := H
 refine rop_one one3 (VI s51) hc2 ?_
 obtain ⟨hi5, H⟩ := H
 refine pop_index sli29 siz3 .i64 s13 s51 hi5 ?_
 obtain ⟨s53, hc1, H⟩ := H
 refine rop_one one3 (VI s53) hc1 ?_
 refine pop_nil _ ?_
 refine pop_field 1 fld48_1 b1 0 ?_
 refine ul siz3 hL2 1 1 [(VI s53)] [(b2, [g0.v]), (b1, [w1.v, (VI s53)])] (fun h3 hf2 hL3 => ?_)
 exact H  h3  (fq hf2) hL3
def u131 (P : Program) (b1 : Nat) (c0 : Sl) (c0a : Int) (c0b : Int) (h : Heap) (K : KQ) : Prop :=
 ∀ (b2 : Nat) (h1 : Heap), h.size ≤ b2 -> Fr (In []) h h1 -> Vars h1 [(b2, [nilSl.v]), (b1, [c0.v, (VI c0a), (Value.int .u64 c0b)])] ->
 callM P 149 #[(VP b1 0), (VI 6)] h1 fun r1 h2 => ∃ y1 : Sl, ∃ y2 : Int, ∃ y3 : Int, ∃ s5 : Sl, r1 = (.agg #[s5.v]) /\ Vars h2 [(b2, [nilSl.v]), (b1, [y1.v, (VI y2), (Value.int .u64 y3)])] /\
 ∀ (b3 : Nat) (h4 : Heap), h2.size ≤ b3 -> Fr (In []) h2 h4 -> Vars h4 [(b3, [s5.v]), (b2, [nilSl.v]), (b1, [y1.v, (VI y2), (Value.int .u64 y3)])] ->
 callM P 52 #[(VP b1 0), (VI 16)] h4 fun r2 h5 => ∃ y4 : Sl, ∃ y5 : Int, ∃ y6 : Int, ∃ s7 : Int, r2 = (VI s7) /\ Vars h5 [(b3, [s5.v]), (b2, [nilSl.v]), (b1, [y4.v, (VI y5), (Value.int .u64 y6)])] /\
 ((decide (s7 = 0)) = true ->
 InB s5 0 /\
 ∃ s15 : Sl, hcell h5 (Sl.at s5 0 1) = some s15.v /\
 eop P (buildSlice 29 3 #[(0, (.int .i64 (-1))), (1, (VI (s5.n : Int))), (2, (.int .i64 4611686018427387904))]) h5 fun r3 h6 => ∃ s20 : Sl, r3 = s20.v /\ Vars h6 [(b3, [s5.v]), (b2, [nilSl.v]), (b1, [y4.v, (VI y5), (Value.int .u64 y6)])] /\
 hcell h6 (Sl.at s5 0 1) = some s15.v /\
 callM P 53 #[(VP b1 0), s20.v] h6 fun r4 h7 => ∃ y7 : Sl, ∃ y8 : Int, ∃ y9 : Int, ∃ s21 : Int, r4 = (VI s21) /\ Vars h7 [(b3, [s5.v]), (b2, [nilSl.v]), (b1, [y7.v, (VI y8), (Value.int .u64 y9)])] /\
 hcell h7 (Sl.at s5 0 1) = some s15.v /\
 eop P (buildSlice 29 1 #[(0, (VI s21))]) h7 fun r5 h8 => ∃ s22 : Sl, r5 = s22.v /\ Vars h8 [(b3, [s5.v]), (b2, [nilSl.v]), (b1, [y7.v, (VI y8), (Value.int .u64 y9)])] /\
 hcell h8 (Sl.at s5 0 1) = some s15.v /\
 eop P (appS 29 29 29 s15.v s22.v) h8 fun r6 h9 => ∃ s23 : Sl, r6 = s23.v /\ Vars h9 [(b3, [s5.v]), (b2, [nilSl.v]), (b1, [y7.v, (VI y8), (Value.int .u64 y9)])] /\
 InB s5 0 /\
 Writable h9 (Sl.at s5 0 1) /\ Vars (hset h9 (Sl.at s5 0 1) s23.v) [(b3, [s5.v]), (b2, [nilSl.v]), (b1, [y7.v, (VI y8), (Value.int .u64 y9)])] /\
 ∀ h10 : Heap, h10 = hset h9 (Sl.at s5 0 1) s23.v -> Vars h10 [(b3, [s5.v]), (b2, [nilSl.v]), (b1, [y7.v, (VI y8), (Value.int .u64 y9)])] ->
 ∀ (h11 : Heap), Fr (In [b2]) h10 h11 -> Vars h11 [(b3, [s5.v]), (b2, [s5.v]), (b1, [y7.v, (VI y8), (Value.int .u64 y9)])] ->
 K (.agg #[s5.v]) h11) /\
 ((decide (s7 = 0)) = false ->
 ((decide (s7 = 1)) = true ->
 callM P 52 #[(VP b1 0), (VI 2)] h5 fun r7 h12 => ∃ y10 : Sl, ∃ y11 : Int, ∃ y12 : Int, ∃ s30 : Int, r7 = (VI s30) /\ Vars h12 [(b3, [s5.v]), (b2, [nilSl.v]), (b1, [y10.v, (VI y11), (Value.int .u64 y12)])] /\
 eop P (Instr.makeSlice 29 (VI (w64 (5 + s30))) (VI (w64 (5 + s30)))) h12 fun r8 h13 => ∃ s32 : Sl, r8 = s32.v /\ Vars h13 [(b3, [s5.v]), (b2, [nilSl.v]), (b1, [y10.v, (VI y11), (Value.int .u64 y12)])] /\
 InB s5 0 /\
 Writable h13 (Sl.at s5 0 1) /\ Vars (hset h13 (Sl.at s5 0 1) s32.v) [(b3, [s5.v]), (b2, [nilSl.v]), (b1, [y10.v, (VI y11), (Value.int .u64 y12)])] /\
 ∀ h14 : Heap, h14 = hset h13 (Sl.at s5 0 1) s32.v -> Vars h14 [(b3, [s5.v]), (b2, [nilSl.v]), (b1, [y10.v, (VI y11), (Value.int .u64 y12)])] ->
 ∀ (h15 : Heap), Fr (In [b2]) h14 h15 -> Vars h15 [(b3, [s5.v]), (b2, [s5.v]), (b1, [y10.v, (VI y11), (Value.int .u64 y12)])] ->
 K (.agg #[s5.v]) h15) /\
 ((decide (s7 = 1)) = false ->
 ((decide (s7 = 2)) = true ->
 ∃ J1 : Nat -> Sl -> Sl -> Int -> Int -> Heap -> Prop, (∃ n0 : Nat, J1 n0 s5 y4 y5 y6 h5) /\
 ∀ (n1 : Nat) (y13 : Sl) (y14 : Sl) (y15 : Int) (y16 : Int) (h16 : Heap), J1 n1 y13 y14 y15 y16 h16 -> Vars h16 [(b3, [y13.v]), (b2, [nilSl.v]), (b1, [y14.v, (VI y15), (Value.int .u64 y16)])] ->
 callM P 52 #[(VP b1 0), (VI 2)] h16 fun r9 h17 => ∃ y17 : Sl, ∃ y18 : Int, ∃ y19 : Int, ∃ s40 : Int, r9 = (VI s40) /\ Vars h17 [(b3, [y13.v]), (b2, [nilSl.v]), (b1, [y17.v, (VI y18), (Value.int .u64 y19)])] /\
 ((decide ((y13.n : Int) < (w64 (8 + s40)))) = true ->
 eop P (buildSlice 29 1 #[(0, (.int .i64 0))]) h17 fun r10 h18 => ∃ s45 : Sl, r10 = s45.v /\ Vars h18 [(b3, [y13.v]), (b2, [nilSl.v]), (b1, [y17.v, (VI y18), (Value.int .u64 y19)])] /\
 eop P (buildSlice 24 1 #[(0, s45.v)]) h18 fun r11 h19 => ∃ s46 : Sl, r11 = s46.v /\ Vars h19 [(b3, [y13.v]), (b2, [nilSl.v]), (b1, [y17.v, (VI y18), (Value.int .u64 y19)])] /\
 eop P (appS 24 24 24 y13.v s46.v) h19 fun r12 h20 => ∃ s47 : Sl, r12 = s47.v /\ Vars h20 [(b3, [y13.v]), (b2, [nilSl.v]), (b1, [y17.v, (VI y18), (Value.int .u64 y19)])] /\
 ∀ (h21 : Heap), Fr (In [b3]) h20 h21 -> Vars h21 [(b3, [s47.v]), (b2, [nilSl.v]), (b1, [y17.v, (VI y18), (Value.int .u64 y19)])] ->
 ∃ m : Nat, m < n1 /\ J1 m s47 y17 y18 y19 h21) /\
 ((decide ((y13.n : Int) < (w64 (8 + s40)))) = false ->
 ∀ (h22 : Heap), Fr (In [b2]) h17 h22 -> Vars h22 [(b3, [y13.v]), (b2, [y13.v]), (b1, [y17.v, (VI y18), (Value.int .u64 y19)])] ->
 K (.agg #[y13.v]) h22)) /\
 ((decide (s7 = 2)) = false ->
 ((decide (s7 = 3)) = true ->
 ∀ (h24 : Heap), Fr (In [b2, b3]) h5 h24 -> Vars h24 [(b3, [nilSl.v]), (b2, [nilSl.v]), (b1, [y4.v, (VI y5), (Value.int .u64 y6)])] ->
 K (.agg #[nilSl.v]) h24) /\
 ((decide (s7 = 3)) = false ->
 ∀ (h25 : Heap), Fr (In [b2]) h5 h25 -> Vars h25 [(b3, [s5.v]), (b2, [s5.v]), (b1, [y4.v, (VI y5), (Value.int .u64 y6)])] ->
 K (.agg #[s5.v]) h25))))
theorem v131 (b1 : Nat) (c0 : Sl) (c0a : Int) (c0b : Int) (h : Heap) (K : KQ) (hL : Vars h [(b1, [c0.v, (VI c0a), (Value.int .u64 c0b)])]) (H : u131 Tryz.prog b1 c0 c0a c0b h K) : callM Tryz.prog 131 #[(VP b1 0)] h K := by
 refine c131 (VP b1 0) h K ?_
 unfold u131 at H
 unfold t131
 refine eop_alloc 26 zer26 rfl hL (fun b2 h1 hb1 hf1 hL1 => ?_)
 refine (H b2 h1 hb1 (fo hf1) hL1).mono ?_
 rintro _ h2 ⟨y1, y2, y3, s5, rfl, hL2, H⟩
 refine eop_alloc 26 zer26 rfl hL2 (fun b3 h3 hb2 hf2 hL3 => ?_)
 refine ul siz26 hL3 0 0 [s5.v] [(b3, [s5.v]), (b2, [nilSl.v]), (b1, [y1.v, (VI y2), (Value.int .u64 y3)])] (fun h4 hf3 hL4 => ?_)
 refine (H b3 h4 hb2 (Fr.new (fo hf2) hb2 hf3) hL4).mono ?_
 rintro _ h5 ⟨y4, y5, y6, s7, rfl, hL5, H⟩
 refine pop_ieq .i64 _ _ s7 0 ?_
 refine condM_b (fun hb3 => ?_) (fun hb3 => ?_)
 ·have H := H.1 hb3
  refine pop_field 0 fld26_0 b3 0 ?_
  refine rl one24 hL5 0 0 s5.v ?_
  refine pop_field 0 fld26_0 b3 0 ?_
  refine rl one24 hL5 0 0 s5.v ?_
  obtain ⟨hi1, H⟩ := H
  refine pop_index sli24 siz29 .i64 s5 0 hi1 ?_
  obtain ⟨s15, hc4, H⟩ := H
  refine rop_one one29 s15.v hc4 ?_
  refine pop_field 0 fld26_0 b3 0 ?_
  refine rl one24 hL5 0 0 s5.v ?_
  refine pop_len s5 _ _ sli24 ?_
  refine H.mono ?_
  rintro _ h6 ⟨s20, rfl, hL6, H⟩
  refine ⟨?_, ?_⟩
  ·exact still_loc one24 hL6 0 rfl 0 (v := s5.v) rfl
  refine ⟨?_, ?_⟩
  ·exact still_one one29 H.1
  obtain ⟨hc1, H⟩ := H
  refine ⟨?_, ?_⟩
  ·exact still_loc one24 hL6 0 rfl 0 (v := s5.v) rfl
  refine ⟨?_, ?_⟩
  ·exact still_loc one24 hL6 0 rfl 0 (v := s5.v) rfl
  refine H.mono ?_
  rintro _ h7 ⟨y7, y8, y9, s21, rfl, hL7, H⟩
  refine ⟨?_, ?_⟩
  ·exact still_loc one24 hL7 0 rfl 0 (v := s5.v) rfl
  refine ⟨?_, ?_⟩
  ·exact still_one one29 H.1
  obtain ⟨hc2, H⟩ := H
  refine ⟨?_, ?_⟩
  ·exact still_loc one24 hL7 0 rfl 0 (v := s5.v) rfl
  refine ⟨?_, ?_⟩
  ·exact still_loc one24 hL7 0 rfl 0 (v := s5.v) rfl
  refine H.mono ?_
  rintro _ h8 ⟨s22, rfl, hL8, H⟩
  refine ⟨?_, ?_⟩
  ·exact still_loc one24 hL8 0 rfl 0 (v := s5.v) rfl
  refine ⟨?_, ?_⟩
  ·exact still_one one29 H.1
  obtain ⟨hc3, H⟩ := H
  refine ⟨?_, ?_⟩
  ·exact still_loc one24 hL8 0 rfl 0 (v := s5.v) rfl
  refine ⟨?_, ?_⟩
  ·exact still_loc one24 hL8 0 rfl 0 (v := s5.v) rfl
  refine H.mono ?_
  rintro _ h9 ⟨s23, rfl, hL9, H⟩
  refine ⟨?_, ?_⟩
  ·exact still_loc one24 hL9 0 rfl 0 (v := s5.v) rfl
  refine ⟨?_, ?_⟩
  ·exact still_loc one24 hL9 0 rfl 0 (v := s5.v) rfl
  refine ⟨?_, ?_⟩
  ·exact still_loc one24 hL9 0 rfl 0 (v := s5.v) rfl
  obtain ⟨hi2, H⟩ := H
  refine pop_index sli24 siz29 .i64 s5 0 hi2 ?_
  obtain ⟨hw_1, hL10, H⟩ := H
  refine uop_cell (v := s23.v) siz29 hw_1 rfl (fun h10 he_1 => ?_)
  rw [← he_1] at hL10
  have H := H h10 he_1 hL10
  refine ra agg26 hL10 0 0 [s5.v] ?_
  refine ul siz26 hL10 1 0 [s5.v] [(b3, [s5.v]), (b2, [s5.v]), (b1, [y7.v, (VI y8), (Value.int .u64 y9)])] (fun h11 hf4 hL11 => ?_)
  refine ra agg26 hL11 1 0 [s5.v] ?_
  exact H  h11  (fq hf4) hL11
 have H := H.2 hb3
 refine pop_ieq .i64 _ _ s7 1 ?_
 refine condM_b (fun hb4 => ?_) (fun hb4 => ?_)
 ·have H := H.1 hb4
  refine pop_field 0 fld26_0 b3 0 ?_
  refine rl one24 hL5 0 0 s5.v ?_
  refine H.mono ?_
  rintro _ h12 ⟨y10, y11, y12, s30, rfl, hL12, H⟩
  refine ⟨?_, ?_⟩
  ·exact still_loc one24 hL12 0 rfl 0 (v := s5.v) rfl
  refine pop_add .i64 5 s30 ?_
  refine H.mono ?_
  rintro _ h13 ⟨s32, rfl, hL13, H⟩
  refine ⟨?_, ?_⟩
  ·exact still_loc one24 hL13 0 rfl 0 (v := s5.v) rfl
  obtain ⟨hi3, H⟩ := H
  refine pop_index sli24 siz29 .i64 s5 0 hi3 ?_
  obtain ⟨hw_2, hL14, H⟩ := H
  refine uop_cell (v := s32.v) siz29 hw_2 rfl (fun h14 he_2 => ?_)
  rw [← he_2] at hL14
  have H := H h14 he_2 hL14
  refine ra agg26 hL14 0 0 [s5.v] ?_
  refine ul siz26 hL14 1 0 [s5.v] [(b3, [s5.v]), (b2, [s5.v]), (b1, [y10.v, (VI y11), (Value.int .u64 y12)])] (fun h15 hf5 hL15 => ?_)
  refine ra agg26 hL15 1 0 [s5.v] ?_
  exact H  h15  (fq hf5) hL15
 have H := H.2 hb4
 refine pop_ieq .i64 _ _ s7 2 ?_
 refine condM_b (fun hb5 => ?_) (fun hb5 => ?_)
 rotate_left
 ·have H := H.2 hb5
  refine pop_ieq .i64 _ _ s7 3 ?_
  refine condM_b (fun hb7 => ?_) (fun hb7 => ?_)
  rotate_left
  ·have H := H.2 hb7
   refine ra agg26 hL5 0 0 [s5.v] ?_
   refine ul siz26 hL5 1 0 [s5.v] [(b3, [s5.v]), (b2, [s5.v]), (b1, [y4.v, (VI y5), (Value.int .u64 y6)])] (fun h25 hf10 hL25 => ?_)
   refine ra agg26 hL25 1 0 [s5.v] ?_
   exact H  h25  (fq hf10) hL25
  have H := H.1 hb7
  refine pop.mk' (v := (Value.agg #[nilSl.v])) (fun w => by kernel_rfl) ?_
  refine ul siz26 hL5 0 0 [nilSl.v] [(b3, [nilSl.v]), (b2, [nilSl.v]), (b1, [y4.v, (VI y5), (Value.int .u64 y6)])] (fun h23 hf8 hL23 => ?_)
  refine ra agg26 hL23 0 0 [nilSl.v] ?_
  refine ul siz26 hL23 1 0 [nilSl.v] [(b3, [nilSl.v]), (b2, [nilSl.v]), (b1, [y4.v, (VI y5), (Value.int .u64 y6)])] (fun h24 hf9 hL24 => ?_)
  refine ra agg26 hL24 1 0 [nilSl.v] ?_
  exact H  h24  (Fr.old (fq hf8) hf9) hL24
 have H := H.1 hb5
 obtain ⟨J1, ⟨n2, h0⟩, HB1⟩ := H
 refine loop_intro (J := fun (n : Nat) (vs : List Value) (h' : Heap) => ∃ y13 : Sl, ∃ y14 : Sl, ∃ y15 : Int, ∃ y16 : Int, vs = [] /\ J1 n y13 y14 y15 y16 h' /\ Vars h' [(b3, [y13.v]), (b2, [nilSl.v]), (b1, [y14.v, (VI y15), (Value.int .u64 y16)])]) n2 ⟨s5, y4, y5, y6, rfl, h0, hL5⟩ ?_
 intro I1 mu1 hI1 junk1  h16 hi4
 obtain ⟨n1, ⟨y13, y14, y15, y16, hv, hJ1, hL16⟩, hn1⟩ := hI1 _ _ hi4
 cases hv
 have H := HB1 n1 y13 y14 y15 y16 h16 hJ1 hL16
 refine pop_field 0 fld26_0 b3 0 ?_
 refine rl one24 hL16 0 0 y13.v ?_
 refine pop_len y13 _ _ sli24 ?_
 refine H.mono ?_
 rintro _ h17 ⟨y17, y18, y19, s40, rfl, hL17, H⟩
 refine ⟨?_, ?_⟩
 ·exact still_loc one24 hL17 0 rfl 0 (v := y13.v) rfl
 refine pop_add .i64 8 s40 ?_
 refine pop_lss .i64 (y13.n : Int) (w64 (8 + s40)) ?_
 refine condM_b (fun hb6 => ?_) (fun hb6 => ?_)
 rotate_left
 ·have H := H.2 hb6
  refine ra agg26 hL17 0 0 [y13.v] ?_
  refine ul siz26 hL17 1 0 [y13.v] [(b3, [y13.v]), (b2, [y13.v]), (b1, [y17.v, (VI y18), (Value.int .u64 y19)])] (fun h22 hf7 hL22 => ?_)
  refine ra agg26 hL22 1 0 [y13.v] ?_
  exact H  h22  (fq hf7) hL22
 have H := H.1 hb6
 refine pop_field 0 fld26_0 b3 0 ?_
 refine rl one24 hL17 0 0 y13.v ?_
 refine H.mono ?_
 rintro _ h18 ⟨s45, rfl, hL18, H⟩
 refine H.mono ?_
 rintro _ h19 ⟨s46, rfl, hL19, H⟩
 refine H.mono ?_
 rintro _ h20 ⟨s47, rfl, hL20, H⟩
 refine pop_field 0 fld26_0 b3 0 ?_
 refine ul siz24 hL20 0 0 [s47.v] [(b3, [s47.v]), (b2, [nilSl.v]), (b1, [y17.v, (VI y18), (Value.int .u64 y19)])] (fun h21 hf6 hL21 => ?_)
 have H := H  h21  (fq hf6) hL21
 obtain ⟨m_1, hm_1, H⟩ := H
 exact hn1 _ _ ⟨m_1, hm_1, s47, y17, y18, y19, rfl, H, hL21⟩
def u132 (P : Program) (m0 : Sl) (h : Heap) (K : KQ) : Prop :=
 eop P (buildSlice 24 0 #[]) h fun r1 h1 => ∃ s15 : Sl, r1 = s15.v /\ Vars h1 [] /\
 ∃ J1 : Nat -> Sl -> Int -> Heap -> Prop, (∃ n0 : Nat, J1 n0 s15 0 h1) /\
 ∀ (n1 : Nat) (a6 : Sl) (s18 : Int) (h2 : Heap), J1 n1 a6 s18 h2 -> Vars h2 [] ->
 ((decide (s18 < (m0.n : Int))) = true ->
 InB m0 s18 /\
 ∃ s21 : Sl, hcell h2 (Sl.at m0 s18 1) = some s21.v /\
 callM P 78 #[s21.v] h2 fun r2 h3 => ∃ s24 : Sl, r2 = s24.v /\ Vars h3 [] /\
 eop P (buildSlice 24 1 #[(0, s24.v)]) h3 fun r3 h4 => ∃ s25 : Sl, r3 = s25.v /\ Vars h4 [] /\
 eop P (appS 24 24 24 a6.v s25.v) h4 fun r4 h5 => ∃ s26 : Sl, r4 = s26.v /\ Vars h5 [] /\
 ∃ m : Nat, m < n1 /\ J1 m s26 (w64 (s18 + 1)) h5) /\
 ((decide (s18 < (m0.n : Int))) = false ->
 ∃ J2 : Nat -> Int -> Int -> Int -> Heap -> Prop, (∃ n0 : Nat, J2 n0 1 1 0 h2) /\
 ∀ (n2 : Nat) (s4 : Int) (l5 : Int) (s29 : Int) (h6 : Heap), J2 n2 s4 l5 s29 h6 -> Vars h6 [] ->
 ((decide (s29 < (m0.n : Int))) = true ->
 ∃ J3 : Nat -> Int -> Heap -> Prop, (∃ n0 : Nat, J3 n0 s29 h6) /\
 ∀ (n3 : Nat) (p10 : Int) (h7 : Heap), J3 n3 p10 h7 -> Vars h7 [] ->
 ((decide (p10 < (m0.n : Int))) = true ->
 InB a6 p10 /\
 ∃ s40 : Sl, hcell h7 (Sl.at a6 p10 1) = some s40.v /\
 InB s40 s29 /\
 ∃ s43 : Int, hcell h7 (Sl.at s40 s29 1) = some (VI s43) /\
 ((decide (s43 = 0)) = true ->
 ∃ m : Nat, m < n3 /\ J3 m (w64 (p10 + 1)) h7) /\
 ((decide (s43 = 0)) = false ->
 ((decide (p10 = (m0.n : Int))) = true ->
 K (VI 0) h7) /\
 ((decide (p10 = (m0.n : Int))) = false ->
 ∃ J4 : Int -> Heap -> Prop, (((!decide (p10 = s29)) = true ->
 InB a6 s29 /\
 ∃ s61 : Sl, hcell h7 (Sl.at a6 s29 1) = some s61.v /\
 InB a6 p10 /\
 ∃ s65 : Sl, hcell h7 (Sl.at a6 p10 1) = some s65.v /\
 InB a6 p10 /\
 Writable h7 (Sl.at a6 p10 1) /\ Vars (hset h7 (Sl.at a6 p10 1) s61.v) [] /\
 ∀ h8 : Heap, h8 = hset h7 (Sl.at a6 p10 1) s61.v -> Vars h8 [] ->
 InB a6 s29 /\
 Writable h8 (Sl.at a6 s29 1) /\ Vars (hset h8 (Sl.at a6 s29 1) s65.v) [] /\
 ∀ h9 : Heap, h9 = hset h8 (Sl.at a6 s29 1) s65.v -> Vars h9 [] ->
 J4 (w64 (0 - s4)) h9) /\
 ((!decide (p10 = s29)) = false ->
 J4 s4 h7)) /\
 ∀ (y1 : Int) (h10 : Heap), J4 y1 h10 -> Vars h10 [] ->
 ∃ J5 : Nat -> Int -> Heap -> Prop, (∃ n0 : Nat, J5 n0 (w64 (s29 + 1)) h10) /\
 ∀ (n4 : Nat) (i11 : Int) (h11 : Heap), J5 n4 i11 h11 -> Vars h11 [] ->
 ((decide (i11 < (m0.n : Int))) = true ->
 ∃ J6 : Nat -> Int -> Heap -> Prop, (∃ n0 : Nat, J6 n0 (w64 (s29 + 1)) h11) /\
 ∀ (n5 : Nat) (j12 : Int) (h12 : Heap), J6 n5 j12 h12 -> Vars h12 [] ->
 ((decide (j12 < (m0.n : Int))) = true ->
 InB a6 i11 /\
 ∃ s87 : Sl, hcell h12 (Sl.at a6 i11 1) = some s87.v /\
 InB a6 i11 /\
 ∃ s92 : Sl, hcell h12 (Sl.at a6 i11 1) = some s92.v /\
 InB s92 j12 /\
 ∃ s95 : Int, hcell h12 (Sl.at s92 j12 1) = some (VI s95) /\
 InB a6 s29 /\
 ∃ s99 : Sl, hcell h12 (Sl.at a6 s29 1) = some s99.v /\
 InB s99 s29 /\
 ∃ s102 : Int, hcell h12 (Sl.at s99 s29 1) = some (VI s102) /\
 InB a6 i11 /\
 ∃ s107 : Sl, hcell h12 (Sl.at a6 i11 1) = some s107.v /\
 InB s107 s29 /\
 ∃ s110 : Int, hcell h12 (Sl.at s107 s29 1) = some (VI s110) /\
 InB a6 s29 /\
 ∃ s114 : Sl, hcell h12 (Sl.at a6 s29 1) = some s114.v /\
 InB s114 j12 /\
 ∃ s117 : Int, hcell h12 (Sl.at s114 j12 1) = some (VI s117) /\
 l5 ≠ 0 /\
 InB s87 j12 /\
 Writable h12 (Sl.at s87 j12 1) /\ Vars (hset h12 (Sl.at s87 j12 1) (VI (w64 (Int.tdiv (w64 ((w64 (s95 * s102)) - (w64 (s110 * s117)))) l5)))) [] /\
 ∀ h13 : Heap, h13 = hset h12 (Sl.at s87 j12 1) (VI (w64 (Int.tdiv (w64 ((w64 (s95 * s102)) - (w64 (s110 * s117)))) l5))) -> Vars h13 [] ->
 ∃ m : Nat, m < n5 /\ J6 m (w64 (j12 + 1)) h13) /\
 ((decide (j12 < (m0.n : Int))) = false ->
 ∃ m : Nat, m < n4 /\ J5 m (w64 (i11 + 1)) h12)) /\
 ((decide (i11 < (m0.n : Int))) = false ->
 InB a6 s29 /\
 ∃ s126 : Sl, hcell h11 (Sl.at a6 s29 1) = some s126.v /\
 InB s126 s29 /\
 ∃ s129 : Int, hcell h11 (Sl.at s126 s29 1) = some (VI s129) /\
 ∃ m : Nat, m < n2 /\ J2 m y1 s129 (w64 (s29 + 1)) h11)))) /\
 ((decide (p10 < (m0.n : Int))) = false ->
 ((decide (p10 = (m0.n : Int))) = true ->
 K (VI 0) h7) /\
 ((decide (p10 = (m0.n : Int))) = false ->
 ∃ J7 : Int -> Heap -> Prop, (((!decide (p10 = s29)) = true ->
 InB a6 s29 /\
 ∃ s61b : Sl, hcell h7 (Sl.at a6 s29 1) = some s61b.v /\
 InB a6 p10 /\
 ∃ s65b : Sl, hcell h7 (Sl.at a6 p10 1) = some s65b.v /\
 InB a6 p10 /\
 Writable h7 (Sl.at a6 p10 1) /\ Vars (hset h7 (Sl.at a6 p10 1) s61b.v) [] /\
 ∀ h14 : Heap, h14 = hset h7 (Sl.at a6 p10 1) s61b.v -> Vars h14 [] ->
 InB a6 s29 /\
 Writable h14 (Sl.at a6 s29 1) /\ Vars (hset h14 (Sl.at a6 s29 1) s65b.v) [] /\
 ∀ h15 : Heap, h15 = hset h14 (Sl.at a6 s29 1) s65b.v -> Vars h15 [] ->
 J7 (w64 (0 - s4)) h15) /\
 ((!decide (p10 = s29)) = false ->
 J7 s4 h7)) /\
 ∀ (y2 : Int) (h16 : Heap), J7 y2 h16 -> Vars h16 [] ->
 ∃ J8 : Nat -> Int -> Heap -> Prop, (∃ n0 : Nat, J8 n0 (w64 (s29 + 1)) h16) /\
 ∀ (n8 : Nat) (i11a : Int) (h17 : Heap), J8 n8 i11a h17 -> Vars h17 [] ->
 ((decide (i11a < (m0.n : Int))) = true ->
 ∃ J9 : Nat -> Int -> Heap -> Prop, (∃ n0 : Nat, J9 n0 (w64 (s29 + 1)) h17) /\
 ∀ (n9 : Nat) (j12a : Int) (h18 : Heap), J9 n9 j12a h18 -> Vars h18 [] ->
 ((decide (j12a < (m0.n : Int))) = true ->
 InB a6 i11a /\
 ∃ s87b : Sl, hcell h18 (Sl.at a6 i11a 1) = some s87b.v /\
 InB a6 i11a /\
 ∃ s92b : Sl, hcell h18 (Sl.at a6 i11a 1) = some s92b.v /\
 InB s92b j12a /\
 ∃ s95b : Int, hcell h18 (Sl.at s92b j12a 1) = some (VI s95b) /\
 InB a6 s29 /\
 ∃ s99b : Sl, hcell h18 (Sl.at a6 s29 1) = some s99b.v /\
 InB s99b s29 /\
 ∃ s102b : Int, hcell h18 (Sl.at s99b s29 1) = some (VI s102b) /\
 InB a6 i11a /\
 ∃ s107b : Sl, hcell h18 (Sl.at a6 i11a 1) = some s107b.v /\
 InB s107b s29 /\
 ∃ s110b : Int, hcell h18 (Sl.at s107b s29 1) = some (VI s110b) /\
 InB a6 s29 /\
 ∃ s114b : Sl, hcell h18 (Sl.at a6 s29 1) = some s114b.v /\
 InB s114b j12a /\
 ∃ s117b : Int, hcell h18 (Sl.at s114b j12a 1) = some (VI s117b) /\
 l5 ≠ 0 /\
 InB s87b j12a /\
 Writable h18 (Sl.at s87b j12a 1) /\ Vars (hset h18 (Sl.at s87b j12a 1) (VI (w64 (Int.tdiv (w64 ((w64 (s95b * s102b)) - (w64 (s110b * s117b)))) l5)))) [] /\
 ∀ h19 : Heap, h19 = hset h18 (Sl.at s87b j12a 1) (VI (w64 (Int.tdiv (w64 ((w64 (s95b * s102b)) - (w64 (s110b * s117b)))) l5))) -> Vars h19 [] ->
 ∃ m : Nat, m < n9 /\ J9 m (w64 (j12a + 1)) h19) /\
 ((decide (j12a < (m0.n : Int))) = false ->
 ∃ m : Nat, m < n8 /\ J8 m (w64 (i11a + 1)) h18)) /\
 ((decide (i11a < (m0.n : Int))) = false ->
 InB a6 s29 /\
 ∃ s126b : Sl, hcell h17 (Sl.at a6 s29 1) = some s126b.v /\
 InB s126b s29 /\
 ∃ s129b : Int, hcell h17 (Sl.at s126b s29 1) = some (VI s129b) /\
 ∃ m : Nat, m < n2 /\ J2 m y2 s129b (w64 (s29 + 1)) h17)))) /\
 ((decide (s29 < (m0.n : Int))) = false ->
 K (VI (w64 (s4 * l5))) h6))
theorem v132 (m0 : Sl) (h : Heap) (K : KQ) (H : u132 Tryz.prog m0 h K) : callM Tryz.prog 132 #[m0.v] h K := by
 refine c132 m0.v h K ?_
 unfold u132 at H
 unfold t132
 have hL : Vars h [] := .nil
 refine pop_len m0 _ _ sli24 ?_
 refine H.mono ?_
 rintro _ h1 ⟨s15, rfl, hL1, H⟩
 refine pop_len m0 _ _ sli24 ?_
 obtain ⟨J1, ⟨n14, h0f⟩, HB9⟩ := H
 refine loop_intro (J := fun (n : Nat) (vs : List Value) (h' : Heap) => ∃ a6 : Sl, ∃ s18 : Int, vs = [a6.v, (VI s18)] /\ J1 n a6 s18 h' /\ Vars h' []) n14 ⟨s15, 0, rfl, h0f, hL1⟩ ?_
 intro I7 mu7 hI7 junk1 tv11 tv12 h2 hi1
 obtain ⟨n1, ⟨a6, s18, hv, hJ1, hL2⟩, hn1⟩ := hI7 _ _ hi1
 cases hv
 have H := HB9 n1 a6 s18 h2 hJ1 hL2
 refine pop_lss .i64 s18 (m0.n : Int) ?_
 refine condM_b (fun hb1 => ?_) (fun hb1 => ?_)
 ·have H := H.1 hb1
  obtain ⟨hi2, H⟩ := H
  refine pop_index sli24 siz29 .i64 m0 s18 hi2 ?_
  obtain ⟨s21, hc1, H⟩ := H
  refine rop_one one29 s21.v hc1 ?_
  refine H.mono ?_
  rintro _ h3 ⟨s24, rfl, hL3, H⟩
  refine H.mono ?_
  rintro _ h4 ⟨s25, rfl, hL4, H⟩
  refine H.mono ?_
  rintro _ h5 ⟨s26, rfl, hL5, H⟩
  refine pop_add .i64 s18 1 ?_
  obtain ⟨m_1, hm_1, H⟩ := H
  exact hn1 _ _ ⟨m_1, hm_1, s26, (w64 (s18 + 1)), rfl, H, hL5⟩
 have H := H.2 hb1
 obtain ⟨J2, ⟨n13, h0e⟩, HB8⟩ := H
 refine loop_intro (J := fun (n : Nat) (vs : List Value) (h' : Heap) => ∃ s4 : Int, ∃ l5 : Int, ∃ s29 : Int, vs = [(VI s4), (VI l5), (VI s29)] /\ J2 n s4 l5 s29 h' /\ Vars h' []) n13 ⟨1, 1, 0, rfl, h0e, hL2⟩ ?_
 intro I6 mu6 hI6 junk2 tv8 tv9 tv10 h6 hi3
 obtain ⟨n2, ⟨s4, l5, s29, hv, hJ2, hL6⟩, hn2⟩ := hI6 _ _ hi3
 cases hv
 have H := HB8 n2 s4 l5 s29 h6 hJ2 hL6
 refine pop_lss .i64 s29 (m0.n : Int) ?_
 refine condM_b (fun hb2 => ?_) (fun hb2 => ?_)
 rotate_left
 ·have H := H.2 hb2
  refine pop_mul .i64 s4 l5 ?_
  exact H
 have H := H.1 hb2
 obtain ⟨J3, ⟨n12, h0d⟩, HB7⟩ := H
 refine loop_intro (J := fun (n : Nat) (vs : List Value) (h' : Heap) => ∃ p10 : Int, vs = [(VI p10)] /\ J3 n p10 h' /\ Vars h' []) n12 ⟨s29, rfl, h0d, hL6⟩ ?_
 intro I5 mu5 hI5 junk3 tv7 h7 hi4
 obtain ⟨n3, ⟨p10, hv, hJ3, hL7⟩, hn3⟩ := hI5 _ _ hi4
 cases hv
 have H := HB7 n3 p10 h7 hJ3 hL7
 refine pop_lss .i64 p10 (m0.n : Int) ?_
 refine guardM_st (fun hb3 => ?_) (fun hb3 => ?_)
 rotate_left
 ·have H := H.2 hb3
  refine gm hb3 ?_
  refine gm hb3 ?_
  refine gm hb3 ?_
  refine gm hb3 ?_
  refine gm hb3 ?_
  refine gm hb3 ?_
  refine gm hb3 ?_
  refine pop_pickf' hb3 ?_
  refine condM_f ?_
  refine pop_ieq .i64 _ _ p10 (m0.n : Int) ?_
  refine condM_b (fun hb9 => ?_) (fun hb9 => ?_)
  ·exact H.1 hb9
  have H := H.2 hb9
  obtain ⟨J7, H, HB6⟩ := H
  refine ⟨fun (vs : List Value) (h' : Heap) => ∃ y2 : Int, vs = [(VI y2)] /\ J7 y2 h' /\ Vars h' [], ?_, ?_⟩
  ·refine pop_ine .i64 _ _ p10 s29 ?_
   refine condM_b (fun hb10 => ?_) (fun hb10 => ?_)
   rotate_left
   ·have H := H.2 hb10
    exact ⟨s4, rfl, H, hL7⟩
   have H := H.1 hb10
   obtain ⟨hi25, H⟩ := H
   refine pop_index sli24 siz29 .i64 a6 s29 hi25 ?_
   obtain ⟨s61b, hc18, H⟩ := H
   refine rop_one one29 s61b.v hc18 ?_
   obtain ⟨hi26, H⟩ := H
   refine pop_index sli24 siz29 .i64 a6 p10 hi26 ?_
   obtain ⟨s65b, hc17, H⟩ := H
   refine rop_one one29 s65b.v hc17 ?_
   obtain ⟨hi27, H⟩ := H
   refine pop_index sli24 siz29 .i64 a6 p10 hi27 ?_
   obtain ⟨hw_4, hL14, H⟩ := H
   refine uop_cell (v := s61b.v) siz29 hw_4 rfl (fun h14 he_4 => ?_)
   rw [← he_4] at hL14
   have H := H h14 he_4 hL14
   obtain ⟨hi28, H⟩ := H
   refine pop_index sli24 siz29 .i64 a6 s29 hi28 ?_
   obtain ⟨hw_5, hL15, H⟩ := H
   refine uop_cell (v := s65b.v) siz29 hw_5 rfl (fun h15 he_5 => ?_)
   rw [← he_5] at hL15
   have H := H h15 he_5 hL15
   refine pop_neg .i64 s4 ?_
   exact ⟨(w64 (0 - s4)), rfl, H, hL15⟩
  intro junk7 tv4 h16
  rintro ⟨y2, hv, hJ7, hL16⟩
  cases hv
  have H := HB6 y2 h16 hJ7 hL16
  refine pop_add .i64 s29 1 ?_
  obtain ⟨J8, ⟨n11, h0c⟩, HB5⟩ := H
  refine loop_intro (J := fun (n : Nat) (vs : List Value) (h' : Heap) => ∃ i11a : Int, vs = [(VI i11a)] /\ J8 n i11a h' /\ Vars h' []) n11 ⟨(w64 (s29 + 1)), rfl, h0c, hL16⟩ ?_
  intro I4 mu4 hI4 junk8 tv6 h17 hi29
  obtain ⟨n8, ⟨i11a, hv, hJ8, hL17⟩, hn6⟩ := hI4 _ _ hi29
  cases hv
  have H := HB5 n8 i11a h17 hJ8 hL17
  refine pop_lss .i64 i11a (m0.n : Int) ?_
  refine condM_b (fun hb11 => ?_) (fun hb11 => ?_)
  rotate_left
  ·have H := H.2 hb11
   obtain ⟨hi41, H⟩ := H
   refine pop_index sli24 siz29 .i64 a6 s29 hi41 ?_
   obtain ⟨s126b, hc29, H⟩ := H
   refine rop_one one29 s126b.v hc29 ?_
   obtain ⟨hi42, H⟩ := H
   refine pop_index sli29 siz3 .i64 s126b s29 hi42 ?_
   obtain ⟨s129b, hc28, H⟩ := H
   refine rop_one one3 (VI s129b) hc28 ?_
   refine pop_add .i64 s29 1 ?_
   obtain ⟨m_8, hm_8, H⟩ := H
   exact hn2 _ _ ⟨m_8, hm_8, y2, s129b, (w64 (s29 + 1)), rfl, H, hL17⟩
  have H := H.1 hb11
  refine pop_add .i64 s29 1 ?_
  obtain ⟨J9, ⟨n10, h0b⟩, HB4⟩ := H
  refine loop_intro (J := fun (n : Nat) (vs : List Value) (h' : Heap) => ∃ j12a : Int, vs = [(VI j12a)] /\ J9 n j12a h' /\ Vars h' []) n10 ⟨(w64 (s29 + 1)), rfl, h0b, hL17⟩ ?_
  intro I3 mu3 hI3 junk9 tv5 h18 hi30
  obtain ⟨n9, ⟨j12a, hv, hJ9, hL18⟩, hn7⟩ := hI3 _ _ hi30
  cases hv
  have H := HB4 n9 j12a h18 hJ9 hL18
  refine pop_lss .i64 j12a (m0.n : Int) ?_
  refine condM_b (fun hb12 => ?_) (fun hb12 => ?_)
  rotate_left
  ·have H := H.2 hb12
   refine pop_add .i64 i11a 1 ?_
   obtain ⟨m_7, hm_7, H⟩ := H
   exact hn6 _ _ ⟨m_7, hm_7, (w64 (i11a + 1)), rfl, H, hL18⟩
  have H := H.1 hb12
  obtain ⟨hi31, H⟩ := H
  refine pop_index sli24 siz29 .i64 a6 i11a hi31 ?_
  obtain ⟨s87b, hc27, H⟩ := H
  refine rop_one one29 s87b.v hc27 ?_
  obtain ⟨hi32, H⟩ := H
  refine pop_index sli24 siz29 .i64 a6 i11a hi32 ?_
  obtain ⟨s92b, hc26, H⟩ := H
  refine rop_one one29 s92b.v hc26 ?_
  obtain ⟨hi33, H⟩ := H
  refine pop_index sli29 siz3 .i64 s92b j12a hi33 ?_
  obtain ⟨s95b, hc25, H⟩ := H
  refine rop_one one3 (VI s95b) hc25 ?_
  obtain ⟨hi34, H⟩ := H
  refine pop_index sli24 siz29 .i64 a6 s29 hi34 ?_
  obtain ⟨s99b, hc24, H⟩ := H
  refine rop_one one29 s99b.v hc24 ?_
  obtain ⟨hi35, H⟩ := H
  refine pop_index sli29 siz3 .i64 s99b s29 hi35 ?_
  obtain ⟨s102b, hc23, H⟩ := H
  refine rop_one one3 (VI s102b) hc23 ?_
  refine pop_mul .i64 s95b s102b ?_
  obtain ⟨hi36, H⟩ := H
  refine pop_index sli24 siz29 .i64 a6 i11a hi36 ?_
  obtain ⟨s107b, hc22, H⟩ := H
  refine rop_one one29 s107b.v hc22 ?_
  obtain ⟨hi37, H⟩ := H
  refine pop_index sli29 siz3 .i64 s107b s29 hi37 ?_
  obtain ⟨s110b, hc21, H⟩ := H
  refine rop_one one3 (VI s110b) hc21 ?_
  obtain ⟨hi38, H⟩ := H
  refine pop_index sli24 siz29 .i64 a6 s29 hi38 ?_
  obtain ⟨s114b, hc20, H⟩ := H
  refine rop_one one29 s114b.v hc20 ?_
  obtain ⟨hi39, H⟩ := H
  refine pop_index sli29 siz3 .i64 s114b j12a hi39 ?_
  obtain ⟨s117b, hc19, H⟩ := H
  refine rop_one one3 (VI s117b) hc19 ?_
  refine pop_mul .i64 s110b s117b ?_
  refine pop_sub .i64 (w64 (s95b * s102b)) (w64 (s110b * s117b)) ?_
  obtain ⟨hz_2, H⟩ := H
  refine pop_quo .i64 (w64 ((w64 (s95b * s102b)) - (w64 (s110b * s117b)))) l5 hz_2 ?_
  obtain ⟨hi40, H⟩ := H
  refine pop_index sli29 siz3 .i64 s87b j12a hi40 ?_
  obtain ⟨hw_6, hL19, H⟩ := H
  refine uop_cell (v := (VI (w64 (Int.tdiv (w64 ((w64 (s95b * s102b)) - (w64 (s110b * s117b)))) l5)))) siz3 hw_6 rfl (fun h19 he_6 => ?_)
  rw [← he_6] at hL19
  have H := H h19 he_6 hL19
  refine pop_add .i64 j12a 1 ?_
  obtain ⟨m_6, hm_6, H⟩ := H
  exact hn7 _ _ ⟨m_6, hm_6, (w64 (j12a + 1)), rfl, H, hL19⟩
 have H := H.1 hb3
 refine gy hb3 ?_
 refine gy hb3 ?_
 obtain ⟨hi5, H⟩ := H
 refine pop_index sli24 siz29 .i64 a6 p10 hi5 ?_
 refine gy hb3 ?_
 obtain ⟨s40, hc16, H⟩ := H
 refine rop_one one29 s40.v hc16 ?_
 refine gy hb3 ?_
 refine gy hb3 ?_
 obtain ⟨hi6, H⟩ := H
 refine pop_index sli29 siz3 .i64 s40 s29 hi6 ?_
 refine gy hb3 ?_
 obtain ⟨s43, hc15, H⟩ := H
 refine rop_one one3 (VI s43) hc15 ?_
 refine gy hb3 ?_
 refine pop_ieq .i64 _ _ s43 0 ?_
 refine pop_pickt' hb3 ?_
 refine condM_b (fun hb4 => ?_) (fun hb4 => ?_)
 ·have H := H.1 hb4
  refine pop_add .i64 p10 1 ?_
  obtain ⟨m_2, hm_2, H⟩ := H
  exact hn3 _ _ ⟨m_2, hm_2, (w64 (p10 + 1)), rfl, H, hL7⟩
 have H := H.2 hb4
 refine pop_ieq .i64 _ _ p10 (m0.n : Int) ?_
 refine condM_b (fun hb5 => ?_) (fun hb5 => ?_)
 ·exact H.1 hb5
 have H := H.2 hb5
 obtain ⟨J4, H, HB3⟩ := H
 refine ⟨fun (vs : List Value) (h' : Heap) => ∃ y1 : Int, vs = [(VI y1)] /\ J4 y1 h' /\ Vars h' [], ?_, ?_⟩
 ·refine pop_ine .i64 _ _ p10 s29 ?_
  refine condM_b (fun hb6 => ?_) (fun hb6 => ?_)
  rotate_left
  ·have H := H.2 hb6
   exact ⟨s4, rfl, H, hL7⟩
  have H := H.1 hb6
  obtain ⟨hi7, H⟩ := H
  refine pop_index sli24 siz29 .i64 a6 s29 hi7 ?_
  obtain ⟨s61, hc3, H⟩ := H
  refine rop_one one29 s61.v hc3 ?_
  obtain ⟨hi8, H⟩ := H
  refine pop_index sli24 siz29 .i64 a6 p10 hi8 ?_
  obtain ⟨s65, hc2, H⟩ := H
  refine rop_one one29 s65.v hc2 ?_
  obtain ⟨hi9, H⟩ := H
  refine pop_index sli24 siz29 .i64 a6 p10 hi9 ?_
  obtain ⟨hw_1, hL8, H⟩ := H
  refine uop_cell (v := s61.v) siz29 hw_1 rfl (fun h8 he_1 => ?_)
  rw [← he_1] at hL8
  have H := H h8 he_1 hL8
  obtain ⟨hi10, H⟩ := H
  refine pop_index sli24 siz29 .i64 a6 s29 hi10 ?_
  obtain ⟨hw_2, hL9, H⟩ := H
  refine uop_cell (v := s65.v) siz29 hw_2 rfl (fun h9 he_2 => ?_)
  rw [← he_2] at hL9
  have H := H h9 he_2 hL9
  refine pop_neg .i64 s4 ?_
  exact ⟨(w64 (0 - s4)), rfl, H, hL9⟩
 intro junk4 tv1 h10
 rintro ⟨y1, hv, hJ4, hL10⟩
 cases hv
 have H := HB3 y1 h10 hJ4 hL10
 refine pop_add .i64 s29 1 ?_
 obtain ⟨J5, ⟨n7, h0a⟩, HB2⟩ := H
 refine loop_intro (J := fun (n : Nat) (vs : List Value) (h' : Heap) => ∃ i11 : Int, vs = [(VI i11)] /\ J5 n i11 h' /\ Vars h' []) n7 ⟨(w64 (s29 + 1)), rfl, h0a, hL10⟩ ?_
 intro I2 mu2 hI2 junk5 tv3 h11 hi11
 obtain ⟨n4, ⟨i11, hv, hJ5, hL11⟩, hn4⟩ := hI2 _ _ hi11
 cases hv
 have H := HB2 n4 i11 h11 hJ5 hL11
 refine pop_lss .i64 i11 (m0.n : Int) ?_
 refine condM_b (fun hb7 => ?_) (fun hb7 => ?_)
 rotate_left
 ·have H := H.2 hb7
  obtain ⟨hi23, H⟩ := H
  refine pop_index sli24 siz29 .i64 a6 s29 hi23 ?_
  obtain ⟨s126, hc14, H⟩ := H
  refine rop_one one29 s126.v hc14 ?_
  obtain ⟨hi24, H⟩ := H
  refine pop_index sli29 siz3 .i64 s126 s29 hi24 ?_
  obtain ⟨s129, hc13, H⟩ := H
  refine rop_one one3 (VI s129) hc13 ?_
  refine pop_add .i64 s29 1 ?_
  obtain ⟨m_5, hm_5, H⟩ := H
  exact hn2 _ _ ⟨m_5, hm_5, y1, s129, (w64 (s29 + 1)), rfl, H, hL11⟩
 have H := H.1 hb7
 refine pop_add .i64 s29 1 ?_
 obtain ⟨J6, ⟨n6, h0⟩, HB1⟩ := H
 refine loop_intro (J := fun (n : Nat) (vs : List Value) (h' : Heap) => ∃ j12 : Int, vs = [(VI j12)] /\ J6 n j12 h' /\ Vars h' []) n6 ⟨(w64 (s29 + 1)), rfl, h0, hL11⟩ ?_
 intro I1 mu1 hI1 junk6 tv2 h12 hi12
 obtain ⟨n5, ⟨j12, hv, hJ6, hL12⟩, hn5⟩ := hI1 _ _ hi12
 cases hv
 have H := HB1 n5 j12 h12 hJ6 hL12
 refine pop_lss .i64 j12 (m0.n : Int) ?_
 refine condM_b (fun hb8 => ?_) (fun hb8 => ?_)
 rotate_left
 ·have H := H.2 hb8
  refine pop_add .i64 i11 1 ?_
  obtain ⟨m_4, hm_4, H⟩ := H
  exact hn4 _ _ ⟨m_4, hm_4, (w64 (i11 + 1)), rfl, H, hL12⟩
 have H := H.1 hb8
 obtain ⟨hi13, H⟩ := H
 refine pop_index sli24 siz29 .i64 a6 i11 hi13 ?_
 obtain ⟨s87, hc12, H⟩ := H
 refine rop_one one29 s87.v hc12 ?_
 obtain ⟨hi14, H⟩ := H
 refine pop_index sli24 siz29 .i64 a6 i11 hi14 ?_
 obtain ⟨s92, hc11, H⟩ := H
 refine rop_one one29 s92.v hc11 ?_
 obtain ⟨hi15, H⟩ := H
 refine pop_index sli29 siz3 .i64 s92 j12 hi15 ?_
 obtain ⟨s95, hc10, H⟩ := H
 refine rop_one one3 (VI s95) hc10 ?_
 obtain ⟨hi16, H⟩ := H
 refine pop_index sli24 siz29 .i64 a6 s29 hi16 ?_
 obtain ⟨s99, hc9, H⟩ := H
 refine rop_one one29 s99.v hc9 ?_
 obtain ⟨hi17, H⟩ := H
 refine pop_index sli29 siz3 .i64 s99 s29 hi17 ?_
 obtain ⟨s102, hc8, H⟩ := H
 refine rop_one one3 (VI s102) hc8 ?_
 refine pop_mul .i64 s95 s102 ?_
 obtain ⟨hi18, H⟩ := H
 refine pop_index sli24 siz29 .i64 a6 i11 hi18 ?_
 obtain ⟨s107, hc7, H⟩ := H
 refine rop_one one29 s107.v hc7 ?_
 obtain ⟨hi19, H⟩ := H
 refine pop_index sli29 siz3 .i64 s107 s29 hi19 ?_
 obtain ⟨s110, hc6, H⟩ := H
 refine rop_one one3 (VI s110) hc6 ?_
 obtain ⟨hi20, H⟩ := H
 refine pop_index sli24 siz29 .i64 a6 s29 hi20 ?_
 obtain ⟨s114, hc5, H⟩ := H
 refine rop_one one29 s114.v hc5 ?_
 obtain ⟨hi21, H⟩ := H
 refine pop_index sli29 siz3 .i64 s114 j12 hi21 ?_
 obtain ⟨s117, hc4, H⟩ := H
 refine rop_one one3 (VI s117) hc4 ?_
 refine pop_mul .i64 s110 s117 ?_
 refine pop_sub .i64 (w64 (s95 * s102)) (w64 (s110 * s117)) ?_
 obtain ⟨hz_1, H⟩ := H
 refine pop_quo .i64 (w64 ((w64 (s95 * s102)) - (w64 (s110 * s117)))) l5 hz_1 ?_
 obtain ⟨hi22, H⟩ := H
 refine pop_index sli29 siz3 .i64 s87 j12 hi22 ?_
 obtain ⟨hw_3, hL13, H⟩ := H
 refine uop_cell (v := (VI (w64 (Int.tdiv (w64 ((w64 (s95 * s102)) - (w64 (s110 * s117)))) l5)))) siz3 hw_3 rfl (fun h13 he_3 => ?_)
 rw [← he_3] at hL13
 have H := H h13 he_3 hL13
 refine pop_add .i64 j12 1 ?_
 obtain ⟨m_3, hm_3, H⟩ := H
 exact hn5 _ _ ⟨m_3, hm_3, (w64 (j12 + 1)), rfl, H, hL13⟩
def u133 (P : Program) (g0 : Sl) (a1 : Int) (h : Heap) (K : KQ) : Prop :=
 ∀ (b1 : Nat) (h1 : Heap), h.size ≤ b1 -> Fr (In []) h h1 -> Vars h1 [(b1, [g0.v])] ->
 eop P (buildSlice 24 0 #[]) h1 fun r1 h2 => ∃ s11 : Sl, r1 = s11.v /\ Vars h2 [(b1, [g0.v])] /\
 ∃ J1 : Nat -> Sl -> Int -> Heap -> Prop, (∃ n0 : Nat, J1 n0 s11 0 h2) /\
 ∀ (n1 : Nat) (o5 : Sl) (s15 : Int) (h3 : Heap), J1 n1 o5 s15 h3 -> Vars h3 [(b1, [g0.v])] ->
 ((decide (s15 < (g0.n : Int))) = true ->
 InB g0 s15 /\
 ∃ s19 : Sl, hcell h3 (Sl.at g0 s15 1) = some s19.v /\
 ((decide (s15 = a1)) = true ->
 ∃ m : Nat, m < n1 /\ J1 m o5 (w64 (s15 + 1)) h3) /\
 ((decide (s15 = a1)) = false ->
 eop P (Instr.makeSlice 29 (VI (g0.n : Int)) (VI (g0.n : Int))) h3 fun r2 h4 => ∃ s26 : Sl, r2 = s26.v /\ Vars h4 [(b1, [g0.v])] /\
 InB s26 s15 /\
 Writable h4 (Sl.at s26 s15 1) /\ Vars (hset h4 (Sl.at s26 s15 1) (VI (s19.n : Int))) [(b1, [g0.v])] /\
 ∀ h5 : Heap, h5 = hset h4 (Sl.at s26 s15 1) (VI (s19.n : Int)) -> Vars h5 [(b1, [g0.v])] ->
 ∃ J2 : Nat -> Int -> Heap -> Prop, (∃ n0 : Nat, J2 n0 0 h5) /\
 ∀ (n2 : Nat) (s34 : Int) (h6 : Heap), J2 n2 s34 h6 -> Vars h6 [(b1, [g0.v])] ->
 ((decide (s34 < (s19.n : Int))) = true ->
 InB s19 s34 /\
 ∃ s37 : Int, hcell h6 (Sl.at s19 s34 1) = some (VI s37) /\
 InB s26 s37 /\
 ∃ s41 : Int, hcell h6 (Sl.at s26 s37 1) = some (VI s41) /\
 InB s26 s37 /\
 Writable h6 (Sl.at s26 s37 1) /\ Vars (hset h6 (Sl.at s26 s37 1) (VI (w64 (s41 - 1)))) [(b1, [g0.v])] /\
 ∀ h7 : Heap, h7 = hset h6 (Sl.at s26 s37 1) (VI (w64 (s41 - 1))) -> Vars h7 [(b1, [g0.v])] ->
 ∃ m : Nat, m < n2 /\ J2 m (w64 (s34 + 1)) h7) /\
 ((decide (s34 < (s19.n : Int))) = false ->
 callM P 150 #[s26.v, (VI a1), (VI (w64 (a1 + 1)))] h6 fun r3 h8 => ∃ s50 : Sl, r3 = s50.v /\ Vars h8 [(b1, [g0.v])] /\
 eop P (buildSlice 24 1 #[(0, s50.v)]) h8 fun r4 h9 => ∃ s51 : Sl, r4 = s51.v /\ Vars h9 [(b1, [g0.v])] /\
 eop P (appS 24 24 24 o5.v s51.v) h9 fun r5 h10 => ∃ s52 : Sl, r5 = s52.v /\ Vars h10 [(b1, [g0.v])] /\
 ∃ m : Nat, m < n1 /\ J1 m s52 (w64 (s15 + 1)) h10))) /\
 ((decide (s15 < (g0.n : Int))) = false ->
 K o5.v h3)
theorem v133 (g0 : Sl) (a1 : Int) (h : Heap) (K : KQ) (H : u133 Tryz.prog g0 a1 h K) : callM Tryz.prog 133 #[(Value.agg #[g0.v]), (VI a1)] h K := by
 refine c133 (Value.agg #[g0.v]) (VI a1) h K ?_
 unfold u133 at H
 unfold t133
 have hL : Vars h [] := .nil
 refine eop_box 26 (Value.agg #[g0.v]) rfl hL (fun b1 h1 hb1 hf1 hL1 => ?_)
 refine (H b1 h1 hb1 (fo hf1) hL1).mono ?_
 rintro _ h2 ⟨s11, rfl, hL2, H⟩
 refine pop_field 0 fld26_0 b1 0 ?_
 refine rl one24 hL2 0 0 g0.v ?_
 refine pop_len g0 _ _ sli24 ?_
 obtain ⟨J1, ⟨n4, h0a⟩, HB2⟩ := H
 refine loop_intro (J := fun (n : Nat) (vs : List Value) (h' : Heap) => ∃ o5 : Sl, ∃ s15 : Int, vs = [o5.v, (VI s15)] /\ J1 n o5 s15 h' /\ Vars h' [(b1, [g0.v])]) n4 ⟨s11, 0, rfl, h0a, hL2⟩ ?_
 intro I2 mu2 hI2 junk1 tv2 tv3 h3 hi1
 obtain ⟨n1, ⟨o5, s15, hv, hJ1, hL3⟩, hn1⟩ := hI2 _ _ hi1
 cases hv
 have H := HB2 n1 o5 s15 h3 hJ1 hL3
 refine pop_lss .i64 s15 (g0.n : Int) ?_
 refine condM_b (fun hb2 => ?_) (fun hb2 => ?_)
 rotate_left
 ·exact H.2 hb2
 have H := H.1 hb2
 obtain ⟨hi2, H⟩ := H
 refine pop_index sli24 siz29 .i64 g0 s15 hi2 ?_
 obtain ⟨s19, hc3, H⟩ := H
 refine rop_one one29 s19.v hc3 ?_
 refine pop_ieq .i64 _ _ s15 a1 ?_
 refine condM_b (fun hb3 => ?_) (fun hb3 => ?_)
 ·have H := H.1 hb3
  refine pop_add .i64 s15 1 ?_
  obtain ⟨m_1, hm_1, H⟩ := H
  exact hn1 _ _ ⟨m_1, hm_1, o5, (w64 (s15 + 1)), rfl, H, hL3⟩
 have H := H.2 hb3
 refine pop_field 0 fld26_0 b1 0 ?_
 refine rl one24 hL3 0 0 g0.v ?_
 refine pop_len g0 _ _ sli24 ?_
 refine H.mono ?_
 rintro _ h4 ⟨s26, rfl, hL4, H⟩
 refine pop_len s19 _ _ sli29 ?_
 obtain ⟨hi3, H⟩ := H
 refine pop_index sli29 siz3 .i64 s26 s15 hi3 ?_
 obtain ⟨hw_1, hL5, H⟩ := H
 refine uop_cell (v := (VI (s19.n : Int))) siz3 hw_1 rfl (fun h5 he_1 => ?_)
 rw [← he_1] at hL5
 have H := H h5 he_1 hL5
 refine pop_len s19 _ _ sli29 ?_
 obtain ⟨J2, ⟨n3, h0⟩, HB1⟩ := H
 refine loop_intro (J := fun (n : Nat) (vs : List Value) (h' : Heap) => ∃ s34 : Int, vs = [(VI s34)] /\ J2 n s34 h' /\ Vars h' [(b1, [g0.v])]) n3 ⟨0, rfl, h0, hL5⟩ ?_
 intro I1 mu1 hI1 junk2 tv1 h6 hi4
 obtain ⟨n2, ⟨s34, hv, hJ2, hL6⟩, hn2⟩ := hI1 _ _ hi4
 cases hv
 have H := HB1 n2 s34 h6 hJ2 hL6
 refine pop_lss .i64 s34 (s19.n : Int) ?_
 refine condM_b (fun hb4 => ?_) (fun hb4 => ?_)
 rotate_left
 ·have H := H.2 hb4
  refine pop_add .i64 a1 1 ?_
  refine H.mono ?_
  rintro _ h8 ⟨s50, rfl, hL8, H⟩
  refine H.mono ?_
  rintro _ h9 ⟨s51, rfl, hL9, H⟩
  refine H.mono ?_
  rintro _ h10 ⟨s52, rfl, hL10, H⟩
  refine pop_add .i64 s15 1 ?_
  obtain ⟨m_3, hm_3, H⟩ := H
  exact hn1 _ _ ⟨m_3, hm_3, s52, (w64 (s15 + 1)), rfl, H, hL10⟩
 have H := H.1 hb4
 obtain ⟨hi5, H⟩ := H
 refine pop_index sli29 siz3 .i64 s19 s34 hi5 ?_
 obtain ⟨s37, hc2, H⟩ := H
 refine rop_one one3 (VI s37) hc2 ?_
 obtain ⟨hi6, H⟩ := H
 refine pop_index sli29 siz3 .i64 s26 s37 hi6 ?_
 obtain ⟨s41, hc1, H⟩ := H
 refine rop_one one3 (VI s41) hc1 ?_
 refine pop_sub .i64 s41 1 ?_
 obtain ⟨hi7, H⟩ := H
 refine pop_index sli29 siz3 .i64 s26 s37 hi7 ?_
 obtain ⟨hw_2, hL7, H⟩ := H
 refine uop_cell (v := (VI (w64 (s41 - 1)))) siz3 hw_2 rfl (fun h7 he_2 => ?_)
 rw [← he_2] at hL7
 have H := H h7 he_2 hL7
 refine pop_add .i64 s34 1 ?_
 obtain ⟨m_2, hm_2, H⟩ := H
 exact hn2 _ _ ⟨m_2, hm_2, (w64 (s34 + 1)), rfl, H, hL7⟩
def u134 (P : Program) (p0 : Int) (b1 : Nat) (s1 : Sl) (h : Heap) (K : KQ) : Prop :=
 callM P 84 #[(VI p0), (VI 0), (VI (w64 ((s1.n : Int) - 1)))] h fun r1 h1 => ∃ s9 : Bool, r1 = (VB s9) /\ Vars h1 [(b1, [s1.v])] /\
 K (VB (!s9)) h1
theorem v134 (p0 : Int) (b1 : Nat) (s1 : Sl) (h : Heap) (K : KQ) (hL : Vars h [(b1, [s1.v])]) (H : u134 Tryz.prog p0 b1 s1 h K) : callM Tryz.prog 134 #[(VI p0), (VP b1 0)] h K := by
 refine c134 (VI p0) (VP b1 0) h K ?_
 unfold u134 at H
 unfold t134
 refine pop_field 0 fld26_0 b1 0 ?_
 refine rl one24 hL 0 0 s1.v ?_
 refine pop_len s1 _ _ sli24 ?_
 refine pop_sub .i64 (s1.n : Int) 1 ?_
 refine H.mono ?_
 rintro _ h1 ⟨s9, rfl, hL1, H⟩
 refine pop_not s9 ?_
 exact H
def u135 (P : Program) (b1 : Nat) (s0 : Sl) (s0a : Int) (s0b : Sl) (s0c : Sl) (s0d : Int) (p1 : Int) (h : Heap) (K : KQ) : Prop :=
 ((decide (s0d < (s0c.n : Int))) = true ->
 K (.tuple #[]) h) /\
 ((decide (s0d < (s0c.n : Int))) = false ->
 ((decide (p1 = (s0.n : Int))) = true ->
 callM P 79 #[s0b.v] h fun r1 h1 => ∃ s32 : Sl, r1 = s32.v /\ Vars h1 [(b1, [s0.v, (VI s0a), s0b.v, s0c.v, (VI s0d)])] /\
 eop P (buildSlice 24 1 #[(0, s32.v)]) h1 fun r2 h2 => ∃ s33 : Sl, r2 = s33.v /\ Vars h2 [(b1, [s0.v, (VI s0a), s0b.v, s0c.v, (VI s0d)])] /\
 eop P (appS 24 24 24 s0c.v s33.v) h2 fun r3 h3 => ∃ s34 : Sl, r3 = s34.v /\ Vars h3 [(b1, [s0.v, (VI s0a), s0b.v, s0c.v, (VI s0d)])] /\
 ∀ (h4 : Heap), Fr (In [b1]) h3 h4 -> Vars h4 [(b1, [s0.v, (VI s0a), s0b.v, s34.v, (VI s0d)])] ->
 K (.tuple #[]) h4) /\
 ((decide (p1 = (s0.n : Int))) = false ->
 ((decide (p1 = s0a)) = true ->
 callM P 135 #[(VP b1 0), (VI (w64 (p1 + 1)))] h fun r4 h5 => ∃ y1 : Sl, ∃ y2 : Int, ∃ y3 : Sl, ∃ y4 : Sl, ∃ y5 : Int, Vars h5 [(b1, [y1.v, (VI y2), y3.v, y4.v, (VI y5)])] /\
 K (.tuple #[]) h5) /\
 ((decide (p1 = s0a)) = false ->
 InB s0 p1 /\
 ∃ s54 : Sl, hcell h (Sl.at s0 p1 1) = some s54.v /\
 ∃ J1 : Nat -> Int -> Sl -> Int -> Sl -> Sl -> Int -> Heap -> Prop, (∃ n0 : Nat, J1 n0 0 s0 s0a s0b s0c s0d h) /\
 ∀ (n1 : Nat) (s56 : Int) (y6 : Sl) (y7 : Int) (y8 : Sl) (y9 : Sl) (y10 : Int) (h6 : Heap), J1 n1 s56 y6 y7 y8 y9 y10 h6 -> Vars h6 [(b1, [y6.v, (VI y7), y8.v, y9.v, (VI y10)])] ->
 ((decide (s56 < (s54.n : Int))) = true ->
 InB y8 p1 /\
 Writable h6 (Sl.at y8 p1 1) /\ Vars (hset h6 (Sl.at y8 p1 1) (VI s56)) [(b1, [y6.v, (VI y7), y8.v, y9.v, (VI y10)])] /\
 ∀ h7 : Heap, h7 = hset h6 (Sl.at y8 p1 1) (VI s56) -> Vars h7 [(b1, [y6.v, (VI y7), y8.v, y9.v, (VI y10)])] ->
 callM P 151 #[(VP b1 0), (VI p1)] h7 fun r5 h8 => ∃ y11 : Sl, ∃ y12 : Int, ∃ y13 : Sl, ∃ y14 : Sl, ∃ y15 : Int, ∃ s68 : Bool, r5 = (VB s68) /\ Vars h8 [(b1, [y11.v, (VI y12), y13.v, y14.v, (VI y15)])] /\
 ((!s68) = true ->
 callM P 135 #[(VP b1 0), (VI (w64 (p1 + 1)))] h8 fun r6 h9 => ∃ y16 : Sl, ∃ y17 : Int, ∃ y18 : Sl, ∃ y19 : Sl, ∃ y20 : Int, Vars h9 [(b1, [y16.v, (VI y17), y18.v, y19.v, (VI y20)])] /\
 ∃ m : Nat, m < n1 /\ J1 m (w64 (s56 + 1)) y16 y17 y18 y19 y20 h9) /\
 ((!s68) = false ->
 ∃ m : Nat, m < n1 /\ J1 m (w64 (s56 + 1)) y11 y12 y13 y14 y15 h8)) /\
 ((decide (s56 < (s54.n : Int))) = false ->
 InB y8 p1 /\
 Writable h6 (Sl.at y8 p1 1) /\ Vars (hset h6 (Sl.at y8 p1 1) (VI 0)) [(b1, [y6.v, (VI y7), y8.v, y9.v, (VI y10)])] /\
 ∀ h10 : Heap, h10 = hset h6 (Sl.at y8 p1 1) (VI 0) -> Vars h10 [(b1, [y6.v, (VI y7), y8.v, y9.v, (VI y10)])] ->
 K (.tuple #[]) h10))))
theorem v135 (b1 : Nat) (s0 : Sl) (s0a : Int) (s0b : Sl) (s0c : Sl) (s0d : Int) (p1 : Int) (h : Heap) (K : KQ) (hL : Vars h [(b1, [s0.v, (VI s0a), s0b.v, s0c.v, (VI s0d)])]) (H : u135 Tryz.prog b1 s0 s0a s0b s0c s0d p1 h K) : callM Tryz.prog 135 #[(VP b1 0), (VI p1)] h K := by
 refine c135 (VP b1 0) (VI p1) h K ?_
 unfold u135 at H
 unfold t135
 refine pop_nil _ ?_
 refine pop_field 3 fld138_3 b1 0 ?_
 refine rl one24 hL 0 3 s0c.v ?_
 refine pop_len s0c _ _ sli24 ?_
 refine pop_nil _ ?_
 refine pop_field 4 fld138_4 b1 0 ?_
 refine rl one3 hL 0 4 (VI s0d) ?_
 refine pop_gtr .i64 (s0c.n : Int) s0d ?_
 refine condM_b (fun hb1 => ?_) (fun hb1 => ?_)
 ·exact H.1 hb1
 have H := H.2 hb1
 refine pop_nil _ ?_
 refine pop_field 0 fld138_0 b1 0 ?_
 refine pop_field 0 fld26_0 b1 0 ?_
 refine rl one24 hL 0 0 s0.v ?_
 refine pop_len s0 _ _ sli24 ?_
 refine pop_ieq .i64 _ _ p1 (s0.n : Int) ?_
 refine condM_b (fun hb2 => ?_) (fun hb2 => ?_)
 ·have H := H.1 hb2
  refine pop_nil _ ?_
  refine pop_field 3 fld138_3 b1 0 ?_
  refine rl one24 hL 0 3 s0c.v ?_
  refine pop_nil _ ?_
  refine pop_field 2 fld138_2 b1 0 ?_
  refine rl one29 hL 0 2 s0b.v ?_
  refine H.mono ?_
  rintro _ h1 ⟨s32, rfl, hL1, H⟩
  refine ⟨?_, ?_⟩
  ·exact still_loc one24 hL1 0 rfl 3 (v := s0c.v) rfl
  refine H.mono ?_
  rintro _ h2 ⟨s33, rfl, hL2, H⟩
  refine ⟨?_, ?_⟩
  ·exact still_loc one24 hL2 0 rfl 3 (v := s0c.v) rfl
  refine H.mono ?_
  rintro _ h3 ⟨s34, rfl, hL3, H⟩
  refine pop_nil _ ?_
  refine pop_field 3 fld138_3 b1 0 ?_
  refine ul siz24 hL3 0 3 [s34.v] [(b1, [s0.v, (VI s0a), s0b.v, s34.v, (VI s0d)])] (fun h4 hf1 hL4 => ?_)
  exact H  h4  (fq hf1) hL4
 have H := H.2 hb2
 refine pop_nil _ ?_
 refine pop_field 1 fld138_1 b1 0 ?_
 refine rl one3 hL 0 1 (VI s0a) ?_
 refine pop_ieq .i64 _ _ p1 s0a ?_
 refine condM_b (fun hb3 => ?_) (fun hb3 => ?_)
 ·have H := H.1 hb3
  refine pop_add .i64 p1 1 ?_
  refine H.mono fun r4 h5 H => ?_
  obtain ⟨y1, y2, y3, y4, y5, hL5, H⟩ := H
  exact H
 have H := H.2 hb3
 refine pop_nil _ ?_
 refine pop_field 0 fld138_0 b1 0 ?_
 refine pop_field 0 fld26_0 b1 0 ?_
 refine rl one24 hL 0 0 s0.v ?_
 obtain ⟨hi1, H⟩ := H
 refine pop_index sli24 siz29 .i64 s0 p1 hi1 ?_
 obtain ⟨s54, hc1, H⟩ := H
 refine rop_one one29 s54.v hc1 ?_
 refine pop_len s54 _ _ sli29 ?_
 obtain ⟨J1, ⟨n2, h0⟩, HB1⟩ := H
 refine loop_intro (J := fun (n : Nat) (vs : List Value) (h' : Heap) => ∃ s56 : Int, ∃ y6 : Sl, ∃ y7 : Int, ∃ y8 : Sl, ∃ y9 : Sl, ∃ y10 : Int, vs = [(VI s56)] /\ J1 n s56 y6 y7 y8 y9 y10 h' /\ Vars h' [(b1, [y6.v, (VI y7), y8.v, y9.v, (VI y10)])]) n2 ⟨0, s0, s0a, s0b, s0c, s0d, rfl, h0, hL⟩ ?_
 intro I1 mu1 hI1 junk1 tv1 h6 hi2
 obtain ⟨n1, ⟨s56, y6, y7, y8, y9, y10, hv, hJ1, hL6⟩, hn1⟩ := hI1 _ _ hi2
 cases hv
 have H := HB1 n1 s56 y6 y7 y8 y9 y10 h6 hJ1 hL6
 refine pop_lss .i64 s56 (s54.n : Int) ?_
 refine condM_b (fun hb4 => ?_) (fun hb4 => ?_)
 rotate_left
 ·have H := H.2 hb4
  refine pop_nil _ ?_
  refine pop_field 2 fld138_2 b1 0 ?_
  refine rl one29 hL6 0 2 y8.v ?_
  obtain ⟨hi4, H⟩ := H
  refine pop_index sli29 siz3 .i64 y8 p1 hi4 ?_
  obtain ⟨hw_2, hL10, H⟩ := H
  refine uop_cell (v := (VI 0)) siz3 hw_2 rfl (fun h10 he_2 => ?_)
  rw [← he_2] at hL10
  exact H h10 he_2 hL10
 have H := H.1 hb4
 refine pop_nil _ ?_
 refine pop_field 2 fld138_2 b1 0 ?_
 refine rl one29 hL6 0 2 y8.v ?_
 obtain ⟨hi3, H⟩ := H
 refine pop_index sli29 siz3 .i64 y8 p1 hi3 ?_
 obtain ⟨hw_1, hL7, H⟩ := H
 refine uop_cell (v := (VI s56)) siz3 hw_1 rfl (fun h7 he_1 => ?_)
 rw [← he_1] at hL7
 refine (H h7 he_1 hL7).mono ?_
 rintro _ h8 ⟨y11, y12, y13, y14, y15, s68, rfl, hL8, H⟩
 refine pop_not s68 ?_
 refine condM_b (fun hb5 => ?_) (fun hb5 => ?_)
 rotate_left
 ·have H := H.2 hb5
  refine pop_add .i64 s56 1 ?_
  obtain ⟨m_2, hm_2, H⟩ := H
  exact hn1 _ _ ⟨m_2, hm_2, (w64 (s56 + 1)), y11, y12, y13, y14, y15, rfl, H, hL8⟩
 have H := H.1 hb5
 refine pop_add .i64 p1 1 ?_
 refine H.mono fun r6 h9 H => ?_
 obtain ⟨y16, y17, y18, y19, y20, hL9, H⟩ := H
 refine pop_add .i64 s56 1 ?_
 obtain ⟨m_1, hm_1, H⟩ := H
 exact hn1 _ _ ⟨m_1, hm_1, (w64 (s56 + 1)), y16, y17, y18, y19, y20, rfl, H, hL9⟩
def u136 (P : Program) (g0 : Sl) (p1 : Int) (h : Heap) (K : KQ) : Prop :=
 ∀ (b1 : Nat) (h1 : Heap), h.size ≤ b1 -> Fr (In []) h h1 -> Vars h1 [(b1, [g0.v])] ->
 ∃ J1 : Nat -> Int -> Heap -> Prop, (∃ n0 : Nat, J1 n0 0 h1) /\
 ∀ (n1 : Nat) (s9 : Int) (h2 : Heap), J1 n1 s9 h2 -> Vars h2 [(b1, [g0.v])] ->
 ((decide (s9 < (g0.n : Int))) = true ->
 callM P 152 #[(.agg #[g0.v]), (VI s9)] h2 fun r1 h3 => ∃ s14 : Sl, r1 = s14.v /\ Vars h3 [(b1, [g0.v])] /\
 InB s14 p1 /\
 ∃ s17 : Int, hcell h3 (Sl.at s14 p1 1) = some (VI s17) /\
 ((decide (s17 < 0)) = true ->
 K (VB false) h3) /\
 ((decide (s17 < 0)) = false ->
 ∃ m : Nat, m < n1 /\ J1 m (w64 (s9 + 1)) h3)) /\
 ((decide (s9 < (g0.n : Int))) = false ->
 K (VB true) h2)
theorem v136 (g0 : Sl) (p1 : Int) (h : Heap) (K : KQ) (H : u136 Tryz.prog g0 p1 h K) : callM Tryz.prog 136 #[(Value.agg #[g0.v]), (VI p1)] h K := by
 refine c136 (Value.agg #[g0.v]) (VI p1) h K ?_
 unfold u136 at H
 unfold t136
 have hL : Vars h [] := .nil
 refine eop_box 26 (Value.agg #[g0.v]) rfl hL (fun b1 h1 hb1 hf1 hL1 => ?_)
 refine pop_field 0 fld26_0 b1 0 ?_
 refine rl one24 hL1 0 0 g0.v ?_
 refine pop_len g0 _ _ sli24 ?_
 have H := H b1 h1 hb1 (fo hf1) hL1
 obtain ⟨J1, ⟨n2, h0⟩, HB1⟩ := H
 refine loop_intro (J := fun (n : Nat) (vs : List Value) (h' : Heap) => ∃ s9 : Int, vs = [(VI s9)] /\ J1 n s9 h' /\ Vars h' [(b1, [g0.v])]) n2 ⟨0, rfl, h0, hL1⟩ ?_
 intro I1 mu1 hI1 junk1 tv1 h2 hi1
 obtain ⟨n1, ⟨s9, hv, hJ1, hL2⟩, hn1⟩ := hI1 _ _ hi1
 cases hv
 have H := HB1 n1 s9 h2 hJ1 hL2
 refine pop_lss .i64 s9 (g0.n : Int) ?_
 refine condM_b (fun hb2 => ?_) (fun hb2 => ?_)
 rotate_left
 ·exact H.2 hb2
 have H := H.1 hb2
 refine ra agg26 hL2 0 0 [g0.v] ?_
 refine H.mono ?_
 rintro _ h3 ⟨s14, rfl, hL3, H⟩
 obtain ⟨hi2, H⟩ := H
 refine pop_index sli29 siz3 .i64 s14 p1 hi2 ?_
 obtain ⟨s17, hc1, H⟩ := H
 refine rop_one one3 (VI s17) hc1 ?_
 refine pop_lss .i64 s17 0 ?_
 refine condM_b (fun hb3 => ?_) (fun hb3 => ?_)
 ·exact H.1 hb3
 have H := H.2 hb3
 refine pop_add .i64 s9 1 ?_
 obtain ⟨m_1, hm_1, H⟩ := H
 exact hn1 _ _ ⟨m_1, hm_1, (w64 (s9 + 1)), rfl, H, hL3⟩
def u137 (P : Program) (b1 : Nat) (c0 : Sl) (c0a : Int) (c0b : Int) (g1 : Sl) (h : Heap) (K : KQ) : Prop :=
 ∀ (b2 : Nat) (b3 : Nat) (h2 : Heap), h.size ≤ b2 -> h.size ≤ b3 -> Fr (In []) h h2 -> Vars h2 [(b3, [nilSl.v, (VI 0)]), (b2, [g1.v]), (b1, [c0.v, (VI c0a), (Value.int .u64 c0b)])] ->
 callM P 52 #[(VP b1 0), (VI (g1.n : Int))] h2 fun r1 h3 => ∃ y1 : Sl, ∃ y2 : Int, ∃ y3 : Int, ∃ s13 : Int, r1 = (VI s13) /\ Vars h3 [(b3, [nilSl.v, (VI 0)]), (b2, [g1.v]), (b1, [y1.v, (VI y2), (Value.int .u64 y3)])] /\
 ∀ (b4 : Nat) (h5 : Heap), h3.size ≤ b4 -> Fr (In []) h3 h5 -> Vars h5 [(b4, [nilSl.v, (VI s13)]), (b3, [nilSl.v, (VI 0)]), (b2, [g1.v]), (b1, [y1.v, (VI y2), (Value.int .u64 y3)])] ->
 ∃ J1 : Nat -> Int -> Sl -> Int -> Sl -> Int -> Int -> Heap -> Prop, (∃ n0 : Nat, J1 n0 0 nilSl s13 y1 y2 y3 h5) /\
 ∀ (n1 : Nat) (s18 : Int) (y4 : Sl) (y5 : Int) (y6 : Sl) (y7 : Int) (y8 : Int) (h6 : Heap), J1 n1 s18 y4 y5 y6 y7 y8 h6 -> Vars h6 [(b4, [y4.v, (VI y5)]), (b3, [nilSl.v, (VI 0)]), (b2, [g1.v]), (b1, [y6.v, (VI y7), (Value.int .u64 y8)])] ->
 ((decide (s18 < (g1.n : Int))) = true ->
 InB g1 s18 /\
 ∃ s21 : Sl, hcell h6 (Sl.at g1 s18 1) = some s21.v /\
 ∃ J2 : Int -> Sl -> Int -> Int -> Heap -> Prop, (((decide (0 < (s21.n : Int))) = true ->
 callM P 52 #[(VP b1 0), (VI (s21.n : Int))] h6 fun r2 h7 => ∃ y13 : Sl, ∃ y14 : Int, ∃ y15 : Int, ∃ s28 : Int, r2 = (VI s28) /\ Vars h7 [(b4, [y4.v, (VI y5)]), (b3, [nilSl.v, (VI 0)]), (b2, [g1.v]), (b1, [y13.v, (VI y14), (Value.int .u64 y15)])] /\
 J2 s28 y13 y14 y15 h7) /\
 ((decide (0 < (s21.n : Int))) = false ->
 J2 0 y6 y7 y8 h6)) /\
 ∀ (y9 : Int) (y10 : Sl) (y11 : Int) (y12 : Int) (h8 : Heap), J2 y9 y10 y11 y12 h8 -> Vars h8 [(b4, [y4.v, (VI y5)]), (b3, [nilSl.v, (VI 0)]), (b2, [g1.v]), (b1, [y10.v, (VI y11), (Value.int .u64 y12)])] ->
 eop P (buildSlice 29 1 #[(0, (VI y9))]) h8 fun r3 h9 => ∃ s32 : Sl, r3 = s32.v /\ Vars h9 [(b4, [y4.v, (VI y5)]), (b3, [nilSl.v, (VI 0)]), (b2, [g1.v]), (b1, [y10.v, (VI y11), (Value.int .u64 y12)])] /\
 eop P (appS 29 29 29 y4.v s32.v) h9 fun r4 h10 => ∃ s33 : Sl, r4 = s33.v /\ Vars h10 [(b4, [y4.v, (VI y5)]), (b3, [nilSl.v, (VI 0)]), (b2, [g1.v]), (b1, [y10.v, (VI y11), (Value.int .u64 y12)])] /\
 ∀ (h11 : Heap), Fr (In [b4]) h10 h11 -> Vars h11 [(b4, [s33.v, (VI y5)]), (b3, [nilSl.v, (VI 0)]), (b2, [g1.v]), (b1, [y10.v, (VI y11), (Value.int .u64 y12)])] ->
 ∃ m : Nat, m < n1 /\ J1 m (w64 (s18 + 1)) s33 y5 y10 y11 y12 h11) /\
 ((decide (s18 < (g1.n : Int))) = false ->
 ∀ (h12 : Heap), Fr (In [b3]) h6 h12 -> Vars h12 [(b4, [y4.v, (VI y5)]), (b3, [y4.v, (VI y5)]), (b2, [g1.v]), (b1, [y6.v, (VI y7), (Value.int .u64 y8)])] ->
 K (.agg #[y4.v, (VI y5)]) h12)
theorem v137 (b1 : Nat) (c0 : Sl) (c0a : Int) (c0b : Int) (g1 : Sl) (h : Heap) (K : KQ) (hL : Vars h [(b1, [c0.v, (VI c0a), (Value.int .u64 c0b)])]) (H : u137 Tryz.prog b1 c0 c0a c0b g1 h K) : callM Tryz.prog 137 #[(VP b1 0), (Value.agg #[g1.v])] h K := by
 refine c137 (VP b1 0) (Value.agg #[g1.v]) h K ?_
 unfold u137 at H
 unfold t137
 refine eop_box 26 (Value.agg #[g1.v]) rfl hL (fun b2 h1 hb1 hf1 hL1 => ?_)
 refine eop_alloc 48 zer48 rfl hL1 (fun b3 h2 hb2 hf2 hL2 => ?_)
 refine pop_field 0 fld26_0 b2 0 ?_
 refine rl one24 hL2 1 0 g1.v ?_
 refine pop_len g1 _ _ sli24 ?_
 refine (H b2 b3 h2 hb1 (Nat.le_trans (Fr.size (fo hf1)) hb2) (Fr.no' (fo hf1) hf2) hL2).mono ?_
 rintro _ h3 ⟨y1, y2, y3, s13, rfl, hL3, H⟩
 refine pop.mk' (v := (Value.agg #[nilSl.v, (VI s13)])) (fun w => by kernel_rfl) ?_
 refine eop_alloc 48 zer48 rfl hL3 (fun b4 h4 hb3 hf3 hL4 => ?_)
 refine ul siz48 hL4 0 0 [nilSl.v, (VI s13)] [(b4, [nilSl.v, (VI s13)]), (b3, [nilSl.v, (VI 0)]), (b2, [g1.v]), (b1, [y1.v, (VI y2), (Value.int .u64 y3)])] (fun h5 hf4 hL5 => ?_)
 refine pop_field 0 fld26_0 b2 0 ?_
 refine rl one24 hL5 2 0 g1.v ?_
 refine pop_len g1 _ _ sli24 ?_
 have H := H b4 h5 hb3 (Fr.new (fo hf3) hb3 hf4) hL5
 obtain ⟨J1, ⟨n2, h0⟩, HB2⟩ := H
 refine loop_intro (J := fun (n : Nat) (vs : List Value) (h' : Heap) => ∃ s18 : Int, ∃ y4 : Sl, ∃ y5 : Int, ∃ y6 : Sl, ∃ y7 : Int, ∃ y8 : Int, vs = [(VI s18)] /\ J1 n s18 y4 y5 y6 y7 y8 h' /\ Vars h' [(b4, [y4.v, (VI y5)]), (b3, [nilSl.v, (VI 0)]), (b2, [g1.v]), (b1, [y6.v, (VI y7), (Value.int .u64 y8)])]) n2 ⟨0, nilSl, s13, y1, y2, y3, rfl, h0, hL5⟩ ?_
 intro I1 mu1 hI1 junk1 tv2 h6 hi1
 obtain ⟨n1, ⟨s18, y4, y5, y6, y7, y8, hv, hJ1, hL6⟩, hn1⟩ := hI1 _ _ hi1
 cases hv
 have H := HB2 n1 s18 y4 y5 y6 y7 y8 h6 hJ1 hL6
 refine pop_lss .i64 s18 (g1.n : Int) ?_
 refine condM_b (fun hb4 => ?_) (fun hb4 => ?_)
 rotate_left
 ·have H := H.2 hb4
  refine ra agg48 hL6 0 0 [y4.v, (VI y5)] ?_
  refine ul siz48 hL6 1 0 [y4.v, (VI y5)] [(b4, [y4.v, (VI y5)]), (b3, [y4.v, (VI y5)]), (b2, [g1.v]), (b1, [y6.v, (VI y7), (Value.int .u64 y8)])] (fun h12 hf6 hL12 => ?_)
  refine ra agg48 hL12 1 0 [y4.v, (VI y5)] ?_
  exact H  h12  (fq hf6) hL12
 have H := H.1 hb4
 obtain ⟨hi2, H⟩ := H
 refine pop_index sli24 siz29 .i64 g1 s18 hi2 ?_
 obtain ⟨s21, hc1, H⟩ := H
 refine rop_one one29 s21.v hc1 ?_
 obtain ⟨J2, H, HB1⟩ := H
 refine ⟨fun (vs : List Value) (h' : Heap) => ∃ y9 : Int, ∃ y10 : Sl, ∃ y11 : Int, ∃ y12 : Int, vs = [(VI y9)] /\ J2 y9 y10 y11 y12 h' /\ Vars h' [(b4, [y4.v, (VI y5)]), (b3, [nilSl.v, (VI 0)]), (b2, [g1.v]), (b1, [y10.v, (VI y11), (Value.int .u64 y12)])], ?_, ?_⟩
 ·refine pop_len s21 _ _ sli29 ?_
  refine pop_gtr .i64 (s21.n : Int) 0 ?_
  refine condM_b (fun hb5 => ?_) (fun hb5 => ?_)
  rotate_left
  ·have H := H.2 hb5
   exact ⟨0, y6, y7, y8, rfl, H, hL6⟩
  have H := H.1 hb5
  refine pop_len s21 _ _ sli29 ?_
  refine H.mono ?_
  rintro _ h7 ⟨y13, y14, y15, s28, rfl, hL7, H⟩
  exact ⟨s28, y13, y14, y15, rfl, H, hL7⟩
 intro junk2 tv1 h8
 rintro ⟨y9, y10, y11, y12, hv, hJ2, hL8⟩
 cases hv
 have H := HB1 y9 y10 y11 y12 h8 hJ2 hL8
 refine pop_field 0 fld48_0 b4 0 ?_
 refine rl one29 hL8 0 0 y4.v ?_
 refine H.mono ?_
 rintro _ h9 ⟨s32, rfl, hL9, H⟩
 refine H.mono ?_
 rintro _ h10 ⟨s33, rfl, hL10, H⟩
 refine pop_field 0 fld48_0 b4 0 ?_
 refine ul siz29 hL10 0 0 [s33.v] [(b4, [s33.v, (VI y5)]), (b3, [nilSl.v, (VI 0)]), (b2, [g1.v]), (b1, [y10.v, (VI y11), (Value.int .u64 y12)])] (fun h11 hf5 hL11 => ?_)
 refine pop_add .i64 s18 1 ?_
 have H := H  h11  (fq hf5) hL11
 obtain ⟨m_1, hm_1, H⟩ := H
 exact hn1 _ _ ⟨m_1, hm_1, (w64 (s18 + 1)), s33, y5, y10, y11, y12, rfl, H, hL11⟩
def u138 (P : Program) (g0 : Sl) (a1 : Int) (z2 : Sl) (p3 : Int) (h : Heap) (K : KQ) : Prop :=
 ∀ (b1 : Nat) (h1 : Heap), h.size ≤ b1 -> Fr (In []) h h1 -> Vars h1 [(b1, [g0.v])] ->
 ∃ J1 : Nat -> Int -> Int -> Heap -> Prop, (∃ n0 : Nat, J1 n0 p3 0 h1) /\
 ∀ (n1 : Nat) (p3a : Int) (z9 : Int) (h2 : Heap), J1 n1 p3a z9 h2 -> Vars h2 [(b1, [g0.v])] ->
 ((decide (z9 < (g0.n : Int))) = true ->
 ((decide (p3a = a1)) = true ->
 K (VI z9) h2) /\
 ((decide (p3a = a1)) = false ->
 callM P 128 #[(.agg #[g0.v]), z2.v, (VI p3a)] h2 fun r1 h3 => ∃ s24 : Int, r1 = (VI s24) /\ Vars h3 [(b1, [g0.v])] /\
 ((decide (s24 < 0)) = true ->
 K (VI (-1)) h3) /\
 ((decide (s24 < 0)) = false ->
 ∃ m : Nat, m < n1 /\ J1 m s24 (w64 (z9 + 1)) h3))) /\
 ((decide (z9 < (g0.n : Int))) = false ->
 K (VI (-1)) h2)
theorem v138 (g0 : Sl) (a1 : Int) (z2 : Sl) (p3 : Int) (h : Heap) (K : KQ) (H : u138 Tryz.prog g0 a1 z2 p3 h K) : callM Tryz.prog 138 #[(Value.agg #[g0.v]), (VI a1), z2.v, (VI p3)] h K := by
 refine c138 (Value.agg #[g0.v]) (VI a1) z2.v (VI p3) h K ?_
 unfold u138 at H
 unfold t138
 have hL : Vars h [] := .nil
 refine eop_box 26 (Value.agg #[g0.v]) rfl hL (fun b1 h1 hb1 hf1 hL1 => ?_)
 have H := H b1 h1 hb1 (fo hf1) hL1
 obtain ⟨J1, ⟨n2, h0⟩, HB1⟩ := H
 refine loop_intro (J := fun (n : Nat) (vs : List Value) (h' : Heap) => ∃ p3a : Int, ∃ z9 : Int, vs = [(VI p3a), (VI z9)] /\ J1 n p3a z9 h' /\ Vars h' [(b1, [g0.v])]) n2 ⟨p3, 0, rfl, h0, hL1⟩ ?_
 intro I1 mu1 hI1 junk1 tv1 tv2 h2 hi1
 obtain ⟨n1, ⟨p3a, z9, hv, hJ1, hL2⟩, hn1⟩ := hI1 _ _ hi1
 cases hv
 have H := HB1 n1 p3a z9 h2 hJ1 hL2
 refine pop_field 0 fld26_0 b1 0 ?_
 refine rl one24 hL2 0 0 g0.v ?_
 refine pop_len g0 _ _ sli24 ?_
 refine pop_lss .i64 z9 (g0.n : Int) ?_
 refine condM_b (fun hb2 => ?_) (fun hb2 => ?_)
 rotate_left
 ·exact H.2 hb2
 have H := H.1 hb2
 refine pop_ieq .i64 _ _ p3a a1 ?_
 refine condM_b (fun hb3 => ?_) (fun hb3 => ?_)
 ·exact H.1 hb3
 have H := H.2 hb3
 refine ra agg26 hL2 0 0 [g0.v] ?_
 refine H.mono ?_
 rintro _ h3 ⟨s24, rfl, hL3, H⟩
 refine pop_lss .i64 s24 0 ?_
 refine condM_b (fun hb4 => ?_) (fun hb4 => ?_)
 ·exact H.1 hb4
 have H := H.2 hb4
 refine pop_add .i64 z9 1 ?_
 obtain ⟨m_1, hm_1, H⟩ := H
 exact hn1 _ _ ⟨m_1, hm_1, s24, (w64 (z9 + 1)), rfl, H, hL3⟩
def u139 (P : Program) (b1 : Nat) (c0 : Sl) (c0a : Int) (c0b : Int) (h : Heap) (K : KQ) : Prop :=
 ∀ (b2 : Nat) (h1 : Heap), h.size ≤ b2 -> Fr (In []) h h1 -> Vars h1 [(b2, [nilSl.v]), (b1, [c0.v, (VI c0a), (Value.int .u64 c0b)])] ->
 callM P 67 #[(VP b1 0), (VI 6)] h1 fun r1 h2 => ∃ y1 : Sl, ∃ y2 : Int, ∃ y3 : Int, ∃ s10 : Bool, r1 = (VB s10) /\ Vars h2 [(b2, [nilSl.v]), (b1, [y1.v, (VI y2), (Value.int .u64 y3)])] /\
 (s10 = true ->
 callM P 131 #[(VP b1 0)] h2 fun r2 h3 => ∃ y4 : Sl, ∃ y5 : Int, ∃ y6 : Int, ∃ s12 : Sl, r2 = (.agg #[s12.v]) /\ Vars h3 [(b2, [nilSl.v]), (b1, [y4.v, (VI y5), (Value.int .u64 y6)])] /\
 ∀ (h4 : Heap), Fr (In [b2]) h3 h4 -> Vars h4 [(b2, [s12.v]), (b1, [y4.v, (VI y5), (Value.int .u64 y6)])] ->
 K (.agg #[s12.v]) h4) /\
 (s10 = false ->
 callM P 52 #[(VP b1 0), (VI 5)] h2 fun r3 h5 => ∃ y7 : Sl, ∃ y8 : Int, ∃ y9 : Int, ∃ s14 : Int, r3 = (VI s14) /\ Vars h5 [(b2, [nilSl.v]), (b1, [y7.v, (VI y8), (Value.int .u64 y9)])] /\
 callM P 67 #[(VP b1 0), (VI 2)] h5 fun r4 h6 => ∃ y10 : Sl, ∃ y11 : Int, ∃ y12 : Int, ∃ s18 : Bool, r4 = (VB s18) /\ Vars h6 [(b2, [nilSl.v]), (b1, [y10.v, (VI y11), (Value.int .u64 y12)])] /\
 callM P 153 #[(VI (w64 (1 + s14))), (VB s18)] h6 fun r5 h7 => ∃ s19 : Sl, r5 = (.agg #[s19.v]) /\ Vars h7 [(b2, [nilSl.v]), (b1, [y10.v, (VI y11), (Value.int .u64 y12)])] /\
 ∀ (b3 : Nat) (h9 : Heap), h7.size ≤ b3 -> Fr (In []) h7 h9 -> Vars h9 [(b3, [s19.v]), (b2, [nilSl.v]), (b1, [y10.v, (VI y11), (Value.int .u64 y12)])] ->
 callM P 52 #[(VP b1 0), (VI 3)] h9 fun r6 h10 => ∃ y13 : Sl, ∃ y14 : Int, ∃ y15 : Int, ∃ s21 : Int, r6 = (VI s21) /\ Vars h10 [(b3, [s19.v]), (b2, [nilSl.v]), (b1, [y13.v, (VI y14), (Value.int .u64 y15)])] /\
 ∃ J1 : Nat -> Int -> Sl -> Int -> Int -> Heap -> Prop, (∃ n0 : Nat, J1 n0 s21 y13 y14 y15 h10) /\
 ∀ (n1 : Nat) (k5 : Int) (y16 : Sl) (y17 : Int) (y18 : Int) (h11 : Heap), J1 n1 k5 y16 y17 y18 h11 -> Vars h11 [(b3, [s19.v]), (b2, [nilSl.v]), (b1, [y16.v, (VI y17), (Value.int .u64 y18)])] ->
 ((decide (0 < k5)) = true ->
 callM P 66 #[(VP b1 0), (VI (w64 (1 + s14)))] h11 fun r7 h12 => ∃ y19 : Sl, ∃ y20 : Int, ∃ y21 : Int, ∃ s28 : Sl, r7 = s28.v /\ Vars h12 [(b3, [s19.v]), (b2, [nilSl.v]), (b1, [y19.v, (VI y20), (Value.int .u64 y21)])] /\
 callM P 52 #[(VP b1 0), (VI (w64 (1 + s14)))] h12 fun r8 h13 => ∃ y22 : Sl, ∃ y23 : Int, ∃ y24 : Int, ∃ s31 : Int, r8 = (VI s31) /\ Vars h13 [(b3, [s19.v]), (b2, [nilSl.v]), (b1, [y22.v, (VI y23), (Value.int .u64 y24)])] /\
 ∃ J2 : Nat -> Int -> Heap -> Prop, (∃ n0 : Nat, J2 n0 0 h13) /\
 ∀ (n2 : Nat) (i8 : Int) (h14 : Heap), J2 n2 i8 h14 -> Vars h14 [(b3, [s19.v]), (b2, [nilSl.v]), (b1, [y22.v, (VI y23), (Value.int .u64 y24)])] ->
 ((decide (i8 < (w64 (1 + s31)))) = true ->
 InB s28 i8 /\
 ∃ s43 : Int, hcell h14 (Sl.at s28 i8 1) = some (VI s43) /\
 InB s28 i8 /\
 ∃ s49 : Int, hcell h14 (Sl.at s28 i8 1) = some (VI s49) /\
 InB s19 s49 /\
 ∃ s51 : Sl, hcell h14 (Sl.at s19 s49 1) = some s51.v /\
 (w64 (1 + s31)) ≠ 0 /\
 InB s28 (Int.tmod (w64 (i8 + 1)) (w64 (1 + s31))) /\
 ∃ s58 : Int, hcell h14 (Sl.at s28 (Int.tmod (w64 (i8 + 1)) (w64 (1 + s31))) 1) = some (VI s58) /\
 eop P (buildSlice 29 1 #[(0, (VI s58))]) h14 fun r9 h15 => ∃ s59 : Sl, r9 = s59.v /\ Vars h15 [(b3, [s19.v]), (b2, [nilSl.v]), (b1, [y22.v, (VI y23), (Value.int .u64 y24)])] /\
 hcell h15 (Sl.at s19 s49 1) = some s51.v /\
 hcell h15 (Sl.at s28 i8 1) = some (VI s49) /\
 hcell h15 (Sl.at s28 i8 1) = some (VI s43) /\
 eop P (appS 29 29 29 s51.v s59.v) h15 fun r10 h16 => ∃ s60 : Sl, r10 = s60.v /\ Vars h16 [(b3, [s19.v]), (b2, [nilSl.v]), (b1, [y22.v, (VI y23), (Value.int .u64 y24)])] /\
 hcell h16 (Sl.at s28 i8 1) = some (VI s49) /\
 hcell h16 (Sl.at s28 i8 1) = some (VI s43) /\
 InB s19 s43 /\
 Writable h16 (Sl.at s19 s43 1) /\ Vars (hset h16 (Sl.at s19 s43 1) s60.v) [(b3, [s19.v]), (b2, [nilSl.v]), (b1, [y22.v, (VI y23), (Value.int .u64 y24)])] /\
 ∀ h17 : Heap, h17 = hset h16 (Sl.at s19 s43 1) s60.v -> Vars h17 [(b3, [s19.v]), (b2, [nilSl.v]), (b1, [y22.v, (VI y23), (Value.int .u64 y24)])] ->
 ∃ m : Nat, m < n2 /\ J2 m (w64 (i8 + 1)) h17) /\
 ((decide (i8 < (w64 (1 + s31)))) = false ->
 ∃ m : Nat, m < n1 /\ J1 m (w64 (k5 - 1)) y22 y23 y24 h14)) /\
 ((decide (0 < k5)) = false ->
 ∀ (h18 : Heap), Fr (In [b2]) h11 h18 -> Vars h18 [(b3, [s19.v]), (b2, [s19.v]), (b1, [y16.v, (VI y17), (Value.int .u64 y18)])] ->
 K (.agg #[s19.v]) h18))
theorem v139 (b1 : Nat) (c0 : Sl) (c0a : Int) (c0b : Int) (h : Heap) (K : KQ) (hL : Vars h [(b1, [c0.v, (VI c0a), (Value.int .u64 c0b)])]) (H : u139 Tryz.prog b1 c0 c0a c0b h K) : callM Tryz.prog 139 #[(VP b1 0)] h K := by
 refine c139 (VP b1 0) h K ?_
 unfold u139 at H
 unfold t139
 refine eop_alloc 26 zer26 rfl hL (fun b2 h1 hb1 hf1 hL1 => ?_)
 refine (H b2 h1 hb1 (fo hf1) hL1).mono ?_
 rintro _ h2 ⟨y1, y2, y3, s10, rfl, hL2, H⟩
 refine condM_b (fun hb2 => ?_) (fun hb2 => ?_)
 ·have H := H.1 hb2
  refine H.mono ?_
  rintro _ h3 ⟨y4, y5, y6, s12, rfl, hL3, H⟩
  refine ul siz26 hL3 0 0 [s12.v] [(b2, [s12.v]), (b1, [y4.v, (VI y5), (Value.int .u64 y6)])] (fun h4 hf2 hL4 => ?_)
  refine ra agg26 hL4 0 0 [s12.v] ?_
  exact H  h4  (fq hf2) hL4
 have H := H.2 hb2
 refine H.mono ?_
 rintro _ h5 ⟨y7, y8, y9, s14, rfl, hL5, H⟩
 refine pop_add .i64 1 s14 ?_
 refine H.mono ?_
 rintro _ h6 ⟨y10, y11, y12, s18, rfl, hL6, H⟩
 refine H.mono ?_
 rintro _ h7 ⟨s19, rfl, hL7, H⟩
 refine eop_alloc 26 zer26 rfl hL7 (fun b3 h8 hb3 hf3 hL8 => ?_)
 refine ul siz26 hL8 0 0 [s19.v] [(b3, [s19.v]), (b2, [nilSl.v]), (b1, [y10.v, (VI y11), (Value.int .u64 y12)])] (fun h9 hf4 hL9 => ?_)
 refine (H b3 h9 hb3 (Fr.new (fo hf3) hb3 hf4) hL9).mono ?_
 rintro _ h10 ⟨y13, y14, y15, s21, rfl, hL10, H⟩
 obtain ⟨J1, ⟨n4, h0a⟩, HB2⟩ := H
 refine loop_intro (J := fun (n : Nat) (vs : List Value) (h' : Heap) => ∃ k5 : Int, ∃ y16 : Sl, ∃ y17 : Int, ∃ y18 : Int, vs = [(VI k5)] /\ J1 n k5 y16 y17 y18 h' /\ Vars h' [(b3, [s19.v]), (b2, [nilSl.v]), (b1, [y16.v, (VI y17), (Value.int .u64 y18)])]) n4 ⟨s21, y13, y14, y15, rfl, h0a, hL10⟩ ?_
 intro I2 mu2 hI2 junk1 tv2 h11 hi1
 obtain ⟨n1, ⟨k5, y16, y17, y18, hv, hJ1, hL11⟩, hn1⟩ := hI2 _ _ hi1
 cases hv
 have H := HB2 n1 k5 y16 y17 y18 h11 hJ1 hL11
 refine pop_gtr .i64 k5 0 ?_
 refine condM_b (fun hb4 => ?_) (fun hb4 => ?_)
 rotate_left
 ·have H := H.2 hb4
  refine ra agg26 hL11 0 0 [s19.v] ?_
  refine ul siz26 hL11 1 0 [s19.v] [(b3, [s19.v]), (b2, [s19.v]), (b1, [y16.v, (VI y17), (Value.int .u64 y18)])] (fun h18 hf5 hL18 => ?_)
  refine ra agg26 hL18 1 0 [s19.v] ?_
  exact H  h18  (fq hf5) hL18
 have H := H.1 hb4
 refine H.mono ?_
 rintro _ h12 ⟨y19, y20, y21, s28, rfl, hL12, H⟩
 refine H.mono ?_
 rintro _ h13 ⟨y22, y23, y24, s31, rfl, hL13, H⟩
 refine pop_add .i64 1 s31 ?_
 obtain ⟨J2, ⟨n3, h0⟩, HB1⟩ := H
 refine loop_intro (J := fun (n : Nat) (vs : List Value) (h' : Heap) => ∃ i8 : Int, vs = [(VI i8)] /\ J2 n i8 h' /\ Vars h' [(b3, [s19.v]), (b2, [nilSl.v]), (b1, [y22.v, (VI y23), (Value.int .u64 y24)])]) n3 ⟨0, rfl, h0, hL13⟩ ?_
 intro I1 mu1 hI1 junk2 tv1 h14 hi2
 obtain ⟨n2, ⟨i8, hv, hJ2, hL14⟩, hn2⟩ := hI1 _ _ hi2
 cases hv
 have H := HB1 n2 i8 h14 hJ2 hL14
 refine pop_lss .i64 i8 (w64 (1 + s31)) ?_
 refine condM_b (fun hb5 => ?_) (fun hb5 => ?_)
 rotate_left
 ·have H := H.2 hb5
  refine pop_sub .i64 k5 1 ?_
  obtain ⟨m_2, hm_2, H⟩ := H
  exact hn1 _ _ ⟨m_2, hm_2, (w64 (k5 - 1)), y22, y23, y24, rfl, H, hL14⟩
 have H := H.1 hb5
 refine pop_field 0 fld26_0 b3 0 ?_
 refine rl one24 hL14 0 0 s19.v ?_
 obtain ⟨hi3, H⟩ := H
 refine pop_index sli29 siz3 .i64 s28 i8 hi3 ?_
 obtain ⟨s43, hc9, H⟩ := H
 refine rop_one one3 (VI s43) hc9 ?_
 refine pop_field 0 fld26_0 b3 0 ?_
 refine rl one24 hL14 0 0 s19.v ?_
 obtain ⟨hi4, H⟩ := H
 refine pop_index sli29 siz3 .i64 s28 i8 hi4 ?_
 obtain ⟨s49, hc8, H⟩ := H
 refine rop_one one3 (VI s49) hc8 ?_
 obtain ⟨hi5, H⟩ := H
 refine pop_index sli24 siz29 .i64 s19 s49 hi5 ?_
 obtain ⟨s51, hc7, H⟩ := H
 refine rop_one one29 s51.v hc7 ?_
 refine pop_add .i64 i8 1 ?_
 obtain ⟨hz_1, H⟩ := H
 refine pop_rem .i64 (w64 (i8 + 1)) (w64 (1 + s31)) hz_1 ?_
 obtain ⟨hi6, H⟩ := H
 refine pop_index sli29 siz3 .i64 s28 (Int.tmod (w64 (i8 + 1)) (w64 (1 + s31))) hi6 ?_
 obtain ⟨s58, hc6, H⟩ := H
 refine rop_one one3 (VI s58) hc6 ?_
 refine H.mono ?_
 rintro _ h15 ⟨s59, rfl, hL15, H⟩
 refine ⟨?_, ?_⟩
 ·exact still_one one29 H.1
 obtain ⟨hc1, H⟩ := H
 refine ⟨?_, ?_⟩
 ·exact still_one one3 H.1
 obtain ⟨hc2, H⟩ := H
 refine ⟨?_, ?_⟩
 ·exact still_loc one24 hL15 0 rfl 0 (v := s19.v) rfl
 refine ⟨?_, ?_⟩
 ·exact still_one one3 H.1
 obtain ⟨hc3, H⟩ := H
 refine ⟨?_, ?_⟩
 ·exact still_loc one24 hL15 0 rfl 0 (v := s19.v) rfl
 refine H.mono ?_
 rintro _ h16 ⟨s60, rfl, hL16, H⟩
 refine ⟨?_, ?_⟩
 ·exact still_one one3 H.1
 obtain ⟨hc4, H⟩ := H
 refine ⟨?_, ?_⟩
 ·exact still_loc one24 hL16 0 rfl 0 (v := s19.v) rfl
 refine ⟨?_, ?_⟩
 ·exact still_one one3 H.1
 obtain ⟨hc5, H⟩ := H
 refine ⟨?_, ?_⟩
 ·exact still_loc one24 hL16 0 rfl 0 (v := s19.v) rfl
 obtain ⟨hi7, H⟩ := H
 refine pop_index sli24 siz29 .i64 s19 s43 hi7 ?_
 obtain ⟨hw_1, hL17, H⟩ := H
 refine uop_cell (v := s60.v) siz29 hw_1 rfl (fun h17 he_1 => ?_)
 rw [← he_1] at hL17
 have H := H h17 he_1 hL17
 refine pop_add .i64 i8 1 ?_
 obtain ⟨m_1, hm_1, H⟩ := H
 exact hn2 _ _ ⟨m_1, hm_1, (w64 (i8 + 1)), rfl, H, hL17⟩
def u140 (P : Program) (b1 : Nat) (c0 : Sl) (c0a : Int) (c0b : Int) (g1 : Sl) (h : Heap) (K : KQ) : Prop :=
 ((decide ((g1.n : Int) = 0)) = true ->
 ∀ (b2 : Nat) (h1 : Heap), h.size ≤ b2 -> Fr (In []) h h1 -> Vars h1 [(b2, [g1.v]), (b1, [c0.v, (VI c0a), (Value.int .u64 c0b)])] ->
 eop P (buildSlice 29 4 #[(0, (.int .i64 (-1))), (1, (.int .i64 0)), (2, (VI (g1.n : Int))), (3, (.int .i64 4611686018427387904))]) h1 fun r5 h6 => ∃ s17b : Sl, r5 = s17b.v /\ Vars h6 [(b2, [g1.v]), (b1, [c0.v, (VI c0a), (Value.int .u64 c0b)])] /\
 callM P 53 #[(VP b1 0), s17b.v] h6 fun r6 h7 => ∃ y10 : Sl, ∃ y11 : Int, ∃ y12 : Int, ∃ s18b : Int, r6 = (VI s18b) /\ Vars h7 [(b2, [g1.v]), (b1, [y10.v, (VI y11), (Value.int .u64 y12)])] /\
 K (VI s18b) h7) /\
 ((decide ((g1.n : Int) = 0)) = false ->
 ∀ (b2 : Nat) (h1 : Heap), h.size ≤ b2 -> Fr (In []) h h1 -> Vars h1 [(b2, [g1.v]), (b1, [c0.v, (VI c0a), (Value.int .u64 c0b)])] ->
 callM P 67 #[(VP b1 0), (VI 14)] h1 fun r1 h2 => ∃ y1 : Sl, ∃ y2 : Int, ∃ y3 : Int, ∃ s11 : Bool, r1 = (VB s11) /\ Vars h2 [(b2, [g1.v]), (b1, [y1.v, (VI y2), (Value.int .u64 y3)])] /\
 (s11 = true ->
 eop P (buildSlice 29 4 #[(0, (.int .i64 (-1))), (1, (.int .i64 0)), (2, (VI (g1.n : Int))), (3, (.int .i64 4611686018427387904))]) h2 fun r2 h3 => ∃ s17 : Sl, r2 = s17.v /\ Vars h3 [(b2, [g1.v]), (b1, [y1.v, (VI y2), (Value.int .u64 y3)])] /\
 callM P 53 #[(VP b1 0), s17.v] h3 fun r3 h4 => ∃ y4 : Sl, ∃ y5 : Int, ∃ y6 : Int, ∃ s18 : Int, r3 = (VI s18) /\ Vars h4 [(b2, [g1.v]), (b1, [y4.v, (VI y5), (Value.int .u64 y6)])] /\
 K (VI s18) h4) /\
 (s11 = false ->
 callM P 52 #[(VP b1 0), (VI (g1.n : Int))] h2 fun r4 h5 => ∃ y7 : Sl, ∃ y8 : Int, ∃ y9 : Int, ∃ s23 : Int, r4 = (VI s23) /\ Vars h5 [(b2, [g1.v]), (b1, [y7.v, (VI y8), (Value.int .u64 y9)])] /\
 K (VI s23) h5))
theorem v140 (b1 : Nat) (c0 : Sl) (c0a : Int) (c0b : Int) (g1 : Sl) (h : Heap) (K : KQ) (hL : Vars h [(b1, [c0.v, (VI c0a), (Value.int .u64 c0b)])]) (H : u140 Tryz.prog b1 c0 c0a c0b g1 h K) : callM Tryz.prog 140 #[(VP b1 0), (Value.agg #[g1.v])] h K := by
 refine c140 (VP b1 0) (Value.agg #[g1.v]) h K ?_
 unfold u140 at H
 unfold t140
 refine eop_box 26 (Value.agg #[g1.v]) rfl hL (fun b2 h1 hb1 hf1 hL1 => ?_)
 refine pop_field 0 fld26_0 b2 0 ?_
 refine rl one24 hL1 0 0 g1.v ?_
 refine pop_len g1 _ _ sli24 ?_
 refine pop_ieq .i64 _ _ (g1.n : Int) 0 ?_
 refine guardM_sf (fun hb2 => ?_) (fun hb2 => ?_)
 rotate_left
 ·have H := H.1 hb2
  refine gm hb2 ?_
  refine pop_pickt' hb2 ?_
  refine condM_t ?_
  refine pop_field 0 fld26_0 b2 0 ?_
  refine rl one24 hL1 0 0 g1.v ?_
  refine pop_len g1 _ _ sli24 ?_
  refine (H b2 h1 hb1 (fo hf1) hL1).mono ?_
  rintro _ h6 ⟨s17b, rfl, hL6, H⟩
  refine H.mono ?_
  rintro _ h7 ⟨y10, y11, y12, s18b, rfl, hL7, H⟩
  exact H
 have H := H.2 hb2
 refine gy hb2 ?_
 refine (H b2 h1 hb1 (fo hf1) hL1).mono ?_
 rintro _ h2 ⟨y1, y2, y3, s11, rfl, hL2, H⟩
 refine pop_pickf' hb2 ?_
 refine condM_b (fun hb3 => ?_) (fun hb3 => ?_)
 rotate_left
 ·have H := H.2 hb3
  refine pop_field 0 fld26_0 b2 0 ?_
  refine rl one24 hL2 0 0 g1.v ?_
  refine pop_len g1 _ _ sli24 ?_
  refine H.mono ?_
  rintro _ h5 ⟨y7, y8, y9, s23, rfl, hL5, H⟩
  exact H
 have H := H.1 hb3
 refine pop_field 0 fld26_0 b2 0 ?_
 refine rl one24 hL2 0 0 g1.v ?_
 refine pop_len g1 _ _ sli24 ?_
 refine H.mono ?_
 rintro _ h3 ⟨s17, rfl, hL3, H⟩
 refine H.mono ?_
 rintro _ h4 ⟨y4, y5, y6, s18, rfl, hL4, H⟩
 exact H
def u141 (P : Program) (s0 : Sl) (f1 : Value) (h : Heap) (K : KQ) : Prop :=
 ∃ J1 : Nat -> Int -> Heap -> Prop, (∃ n0 : Nat, J1 n0 0 h) /\
 ∀ (n1 : Nat) (s8 : Int) (h1 : Heap), J1 n1 s8 h1 -> Vars h1 [] ->
 ((decide (s8 < (s0.n : Int))) = true ->
 InB s0 s8 /\
 ∃ s15 : Int, hcell h1 (Sl.at s0 s8 1) = some (VI s15) /\
 callV P f1 [(VI s15)] h1 fun r1 h2 => ∃ s16 : Bool, r1 = (VB s16) /\ Vars h2 [] /\
 (s16 = true ->
 K (VI s8) h2) /\
 (s16 = false ->
 ∃ m : Nat, m < n1 /\ J1 m (w64 (s8 + 1)) h2)) /\
 ((decide (s8 < (s0.n : Int))) = false ->
 K (VI (-1)) h1)
theorem v141 (s0 : Sl) (f1 : Value) (h : Heap) (K : KQ) (H : u141 Tryz.prog s0 f1 h K) : callM Tryz.prog 141 #[s0.v, f1] h K := by
 refine c141 s0.v f1 h K ?_
 unfold u141 at H
 unfold t141
 have hL : Vars h [] := .nil
 refine pop_len s0 _ _ sli29 ?_
 obtain ⟨J1, ⟨n2, h0⟩, HB1⟩ := H
 refine loop_intro (J := fun (n : Nat) (vs : List Value) (h' : Heap) => ∃ s8 : Int, vs = [(VI s8)] /\ J1 n s8 h' /\ Vars h' []) n2 ⟨0, rfl, h0, hL⟩ ?_
 intro I1 mu1 hI1 junk1 tv1 h1 hi1
 obtain ⟨n1, ⟨s8, hv, hJ1, hL1⟩, hn1⟩ := hI1 _ _ hi1
 cases hv
 have H := HB1 n1 s8 h1 hJ1 hL1
 refine pop_lss .i64 s8 (s0.n : Int) ?_
 refine condM_b (fun hb1 => ?_) (fun hb1 => ?_)
 rotate_left
 ·exact H.2 hb1
 have H := H.1 hb1
 obtain ⟨hi2, H⟩ := H
 refine pop_index sli29 siz3 .i64 s0 s8 hi2 ?_
 obtain ⟨s15, hc1, H⟩ := H
 refine rop_one one3 (VI s15) hc1 ?_
 refine H.mono ?_
 rintro _ h2 ⟨s16, rfl, hL2, H⟩
 refine condM_b (fun hb2 => ?_) (fun hb2 => ?_)
 ·exact H.1 hb2
 have H := H.2 hb2
 refine pop_add .i64 s8 1 ?_
 obtain ⟨m_1, hm_1, H⟩ := H
 exact hn1 _ _ ⟨m_1, hm_1, (w64 (s8 + 1)), rfl, H, hL2⟩
def u148 (P : Program) (b1 : Nat) (c0 : Sl) (c0a : Int) (c0b : Int) (h : Heap) (K : KQ) : Prop :=
 ∀ (b2 : Nat) (b3 : Nat) (h2 : Heap), h.size ≤ b2 -> h.size ≤ b3 -> Fr (In []) h h2 -> Vars h2 [(b3, [nilSl.v, (VI 0)]), (b2, [nilSl.v]), (b1, [c0.v, (VI c0a), (Value.int .u64 c0b)])] ->
 callM P 131 #[(VP b1 0)] h2 fun r1 h3 => ∃ y1 : Sl, ∃ y2 : Int, ∃ y3 : Int, ∃ s7 : Sl, r1 = (.agg #[s7.v]) /\ Vars h3 [(b3, [nilSl.v, (VI 0)]), (b2, [nilSl.v]), (b1, [y1.v, (VI y2), (Value.int .u64 y3)])] /\
 ∀ (b4 : Nat) (h5 : Heap), h3.size ≤ b4 -> Fr (In []) h3 h5 -> Vars h5 [(b4, [s7.v]), (b3, [nilSl.v, (VI 0)]), (b2, [nilSl.v]), (b1, [y1.v, (VI y2), (Value.int .u64 y3)])] ->
 callM P 91 #[(.agg #[s7.v])] h5 fun r2 h6 => ∃ s9 : Bool, r2 = (VB s9) /\ Vars h6 [(b4, [s7.v]), (b3, [nilSl.v, (VI 0)]), (b2, [nilSl.v]), (b1, [y1.v, (VI y2), (Value.int .u64 y3)])] /\
 ((!s9) = true ->
 ∀ (h8 : Heap), Fr (In [b3, b2]) h6 h8 -> Vars h8 [(b4, [s7.v]), (b3, [nilSl.v, (VI 0)]), (b2, [s7.v]), (b1, [y1.v, (VI y2), (Value.int .u64 y3)])] ->
 K (.tuple #[(.agg #[s7.v]), (.agg #[nilSl.v, (VI 0)])]) h8) /\
 ((!s9) = false ->
 callM P 137 #[(VP b1 0), (.agg #[s7.v])] h6 fun r3 h9 => ∃ y4 : Sl, ∃ y5 : Int, ∃ y6 : Int, ∃ s15 : Sl, ∃ s15b : Int, r3 = (.agg #[s15.v, (VI s15b)]) /\ Vars h9 [(b4, [s7.v]), (b3, [nilSl.v, (VI 0)]), (b2, [nilSl.v]), (b1, [y4.v, (VI y5), (Value.int .u64 y6)])] /\
 ∀ (b5 : Nat) (h11 : Heap), h9.size ≤ b5 -> Fr (In []) h9 h11 -> Vars h11 [(b5, [s15.v, (VI s15b)]), (b4, [s7.v]), (b3, [nilSl.v, (VI 0)]), (b2, [nilSl.v]), (b1, [y4.v, (VI y5), (Value.int .u64 y6)])] ->
 ∃ J1 : Sl -> Int -> Sl -> Int -> Int -> Heap -> Prop, (callM P 52 #[(VP b1 0), (VI 16)] h11 fun r4 h12 => ∃ y12 : Sl, ∃ y13 : Int, ∃ y14 : Int, ∃ s17 : Int, r4 = (VI s17) /\ Vars h12 [(b5, [s15.v, (VI s15b)]), (b4, [s7.v]), (b3, [nilSl.v, (VI 0)]), (b2, [nilSl.v]), (b1, [y12.v, (VI y13), (Value.int .u64 y14)])] /\
 ((decide (s17 = 0)) = true ->
 eop P (buildSlice 29 3 #[(0, (.int .i64 (-1))), (1, (VI (s7.n : Int))), (2, (.int .i64 4611686018427387904))]) h12 fun r5 h13 => ∃ s24 : Sl, r5 = s24.v /\ Vars h13 [(b5, [s15.v, (VI s15b)]), (b4, [s7.v]), (b3, [nilSl.v, (VI 0)]), (b2, [nilSl.v]), (b1, [y12.v, (VI y13), (Value.int .u64 y14)])] /\
 callM P 53 #[(VP b1 0), s24.v] h13 fun r6 h14 => ∃ y15 : Sl, ∃ y16 : Int, ∃ y17 : Int, ∃ s25 : Int, r6 = (VI s25) /\ Vars h14 [(b5, [s15.v, (VI s15b)]), (b4, [s7.v]), (b3, [nilSl.v, (VI 0)]), (b2, [nilSl.v]), (b1, [y15.v, (VI y16), (Value.int .u64 y17)])] /\
 ∀ (h15 : Heap), Fr (In [b5]) h14 h15 -> Vars h15 [(b5, [s15.v, (VI s25)]), (b4, [s7.v]), (b3, [nilSl.v, (VI 0)]), (b2, [nilSl.v]), (b1, [y15.v, (VI y16), (Value.int .u64 y17)])] ->
 J1 s15 s25 y15 y16 y17 h15) /\
 ((decide (s17 = 0)) = false ->
 ((decide (s17 = 1)) = true ->
 (callM P 52 #[(VP b1 0), (VI (s15.n : Int))] h12 fun r7 h16 => ∃ y18 : Sl, ∃ y19 : Int, ∃ y20 : Int, ∃ s35 : Int, r7 = (VI s35) /\ Vars h16 [(b5, [s15.v, (VI s15b)]), (b4, [s7.v]), (b3, [nilSl.v, (VI 0)]), (b2, [nilSl.v]), (b1, [y18.v, (VI y19), (Value.int .u64 y20)])] /\
 eop P (buildSlice 29 3 #[(0, (.int .i64 (-1))), (1, (.int .i64 4)), (2, (.int .i64 5))]) h16 fun r8 h17 => ∃ s37 : Sl, r8 = s37.v /\ Vars h17 [(b5, [s15.v, (VI s15b)]), (b4, [s7.v]), (b3, [nilSl.v, (VI 0)]), (b2, [nilSl.v]), (b1, [y18.v, (VI y19), (Value.int .u64 y20)])] /\
 callM P 53 #[(VP b1 0), s37.v] h17 fun r9 h18 => ∃ y21 : Sl, ∃ y22 : Int, ∃ y23 : Int, ∃ s38 : Int, r9 = (VI s38) /\ Vars h18 [(b5, [s15.v, (VI s15b)]), (b4, [s7.v]), (b3, [nilSl.v, (VI 0)]), (b2, [nilSl.v]), (b1, [y21.v, (VI y22), (Value.int .u64 y23)])] /\
 InB s15 s35 /\
 Writable h18 (Sl.at s15 s35 1) /\ Vars (hset h18 (Sl.at s15 s35 1) (VI s38)) [(b5, [s15.v, (VI s15b)]), (b4, [s7.v]), (b3, [nilSl.v, (VI 0)]), (b2, [nilSl.v]), (b1, [y21.v, (VI y22), (Value.int .u64 y23)])] /\
 ∀ h19 : Heap, h19 = hset h18 (Sl.at s15 s35 1) (VI s38) -> Vars h19 [(b5, [s15.v, (VI s15b)]), (b4, [s7.v]), (b3, [nilSl.v, (VI 0)]), (b2, [nilSl.v]), (b1, [y21.v, (VI y22), (Value.int .u64 y23)])] ->
 J1 s15 s15b y21 y22 y23 h19) /\
 (eop P (buildSlice 29 3 #[(0, (.int .i64 (-1))), (1, (.int .i64 4)), (2, (.int .i64 5))]) h12 fun r10 h20 => ∃ s37b : Sl, r10 = s37b.v /\ Vars h20 [(b5, [s15.v, (VI s15b)]), (b4, [s7.v]), (b3, [nilSl.v, (VI 0)]), (b2, [nilSl.v]), (b1, [y12.v, (VI y13), (Value.int .u64 y14)])] /\
 callM P 52 #[(VP b1 0), (VI (s15.n : Int))] h20 fun r11 h21 => ∃ y24 : Sl, ∃ y25 : Int, ∃ y26 : Int, ∃ s35b : Int, r11 = (VI s35b) /\ Vars h21 [(b5, [s15.v, (VI s15b)]), (b4, [s7.v]), (b3, [nilSl.v, (VI 0)]), (b2, [nilSl.v]), (b1, [y24.v, (VI y25), (Value.int .u64 y26)])] /\
 callM P 53 #[(VP b1 0), s37b.v] h21 fun r12 h22 => ∃ y27 : Sl, ∃ y28 : Int, ∃ y29 : Int, ∃ s38b : Int, r12 = (VI s38b) /\ Vars h22 [(b5, [s15.v, (VI s15b)]), (b4, [s7.v]), (b3, [nilSl.v, (VI 0)]), (b2, [nilSl.v]), (b1, [y27.v, (VI y28), (Value.int .u64 y29)])] /\
 InB s15 s35b /\
 Writable h22 (Sl.at s15 s35b 1) /\ Vars (hset h22 (Sl.at s15 s35b 1) (VI s38b)) [(b5, [s15.v, (VI s15b)]), (b4, [s7.v]), (b3, [nilSl.v, (VI 0)]), (b2, [nilSl.v]), (b1, [y27.v, (VI y28), (Value.int .u64 y29)])] /\
 ∀ h23 : Heap, h23 = hset h22 (Sl.at s15 s35b 1) (VI s38b) -> Vars h23 [(b5, [s15.v, (VI s15b)]), (b4, [s7.v]), (b3, [nilSl.v, (VI 0)]), (b2, [nilSl.v]), (b1, [y27.v, (VI y28), (Value.int .u64 y29)])] ->
 J1 s15 s15b y27 y28 y29 h23)) /\
 ((decide (s17 = 1)) = false ->
 ((decide (s17 = 2)) = true ->
 eop P (buildSlice 29 1 #[(0, (.int .i64 0))]) h12 fun r13 h24 => ∃ s44 : Sl, r13 = s44.v /\ Vars h24 [(b5, [s15.v, (VI s15b)]), (b4, [s7.v]), (b3, [nilSl.v, (VI 0)]), (b2, [nilSl.v]), (b1, [y12.v, (VI y13), (Value.int .u64 y14)])] /\
 eop P (appS 29 29 29 s15.v s44.v) h24 fun r14 h25 => ∃ s45 : Sl, r14 = s45.v /\ Vars h25 [(b5, [s15.v, (VI s15b)]), (b4, [s7.v]), (b3, [nilSl.v, (VI 0)]), (b2, [nilSl.v]), (b1, [y12.v, (VI y13), (Value.int .u64 y14)])] /\
 ∀ (h26 : Heap), Fr (In [b5]) h25 h26 -> Vars h26 [(b5, [s45.v, (VI s15b)]), (b4, [s7.v]), (b3, [nilSl.v, (VI 0)]), (b2, [nilSl.v]), (b1, [y12.v, (VI y13), (Value.int .u64 y14)])] ->
 J1 s45 s15b y12 y13 y14 h26) /\
 ((decide (s17 = 2)) = false ->
 J1 s15 s15b y12 y13 y14 h12)))) /\
 ∀ (y7 : Sl) (y8 : Int) (y9 : Sl) (y10 : Int) (y11 : Int) (h27 : Heap), J1 y7 y8 y9 y10 y11 h27 -> Vars h27 [(b5, [y7.v, (VI y8)]), (b4, [s7.v]), (b3, [nilSl.v, (VI 0)]), (b2, [nilSl.v]), (b1, [y9.v, (VI y10), (Value.int .u64 y11)])] ->
 ∀ (h28 : Heap), Fr (In [b2]) h27 h28 -> Vars h28 [(b5, [y7.v, (VI y8)]), (b4, [s7.v]), (b3, [nilSl.v, (VI 0)]), (b2, [s7.v]), (b1, [y9.v, (VI y10), (Value.int .u64 y11)])] ->
 ∀ (h29 : Heap), Fr (In [b3]) h28 h29 -> Vars h29 [(b5, [y7.v, (VI y8)]), (b4, [s7.v]), (b3, [y7.v, (VI y8)]), (b2, [s7.v]), (b1, [y9.v, (VI y10), (Value.int .u64 y11)])] ->
 K (.tuple #[(.agg #[s7.v]), (.agg #[y7.v, (VI y8)])]) h29)
theorem v148 (b1 : Nat) (c0 : Sl) (c0a : Int) (c0b : Int) (h : Heap) (K : KQ) (hL : Vars h [(b1, [c0.v, (VI c0a), (Value.int .u64 c0b)])]) (H : u148 Tryz.prog b1 c0 c0a c0b h K) : callM Tryz.prog 148 #[(VP b1 0)] h K := by
 refine c148 (VP b1 0) h K ?_
 unfold u148 at H
 unfold t148
 refine eop_alloc 26 zer26 rfl hL (fun b2 h1 hb1 hf1 hL1 => ?_)
 refine eop_alloc 48 zer48 rfl hL1 (fun b3 h2 hb2 hf2 hL2 => ?_)
 refine (H b2 b3 h2 hb1 (Nat.le_trans (Fr.size (fo hf1)) hb2) (Fr.no' (fo hf1) hf2) hL2).mono ?_
 rintro _ h3 ⟨y1, y2, y3, s7, rfl, hL3, H⟩
 refine eop_alloc 26 zer26 rfl hL3 (fun b4 h4 hb3 hf3 hL4 => ?_)
 refine ul siz26 hL4 0 0 [s7.v] [(b4, [s7.v]), (b3, [nilSl.v, (VI 0)]), (b2, [nilSl.v]), (b1, [y1.v, (VI y2), (Value.int .u64 y3)])] (fun h5 hf4 hL5 => ?_)
 refine ra agg26 hL5 0 0 [s7.v] ?_
 refine (H b4 h5 hb3 (Fr.new (fo hf3) hb3 hf4) hL5).mono ?_
 rintro _ h6 ⟨s9, rfl, hL6, H⟩
 refine pop_not s9 ?_
 refine condM_b (fun hb4 => ?_) (fun hb4 => ?_)
 ·have H := H.1 hb4
  refine ra agg26 hL6 0 0 [s7.v] ?_
  refine pop.mk' (v := (Value.agg #[nilSl.v, (VI 0)])) (fun w => by kernel_rfl) ?_
  refine ul siz26 hL6 2 0 [s7.v] [(b4, [s7.v]), (b3, [nilSl.v, (VI 0)]), (b2, [s7.v]), (b1, [y1.v, (VI y2), (Value.int .u64 y3)])] (fun h7 hf5 hL7 => ?_)
  refine ul siz48 hL7 1 0 [nilSl.v, (VI 0)] [(b4, [s7.v]), (b3, [nilSl.v, (VI 0)]), (b2, [s7.v]), (b1, [y1.v, (VI y2), (Value.int .u64 y3)])] (fun h8 hf6 hL8 => ?_)
  refine ra agg26 hL8 2 0 [s7.v] ?_
  refine ra agg48 hL8 1 0 [nilSl.v, (VI 0)] ?_
  exact H  h8  (Fr.old (fq hf5) hf6) hL8
 have H := H.2 hb4
 refine ra agg26 hL6 0 0 [s7.v] ?_
 refine H.mono ?_
 rintro _ h9 ⟨y4, y5, y6, s15, s15b, rfl, hL9, H⟩
 refine eop_alloc 48 zer48 rfl hL9 (fun b5 h10 hb5 hf7 hL10 => ?_)
 refine ul siz48 hL10 0 0 [s15.v, (VI s15b)] [(b5, [s15.v, (VI s15b)]), (b4, [s7.v]), (b3, [nilSl.v, (VI 0)]), (b2, [nilSl.v]), (b1, [y4.v, (VI y5), (Value.int .u64 y6)])] (fun h11 hf8 hL11 => ?_)
 have H := H b5 h11 hb5 (Fr.new (fo hf7) hb5 hf8) hL11
 obtain ⟨J1, H, HB1⟩ := H
 refine ⟨fun (vs : List Value) (h' : Heap) => ∃ y7 : Sl, ∃ y8 : Int, ∃ y9 : Sl, ∃ y10 : Int, ∃ y11 : Int, vs = [] /\ J1 y7 y8 y9 y10 y11 h' /\ Vars h' [(b5, [y7.v, (VI y8)]), (b4, [s7.v]), (b3, [nilSl.v, (VI 0)]), (b2, [nilSl.v]), (b1, [y9.v, (VI y10), (Value.int .u64 y11)])], ?_, ?_⟩
 ·refine H.mono ?_
  rintro _ h12 ⟨y12, y13, y14, s17, rfl, hL12, H⟩
  refine pop_ieq .i64 _ _ s17 0 ?_
  refine condM_b (fun hb6 => ?_) (fun hb6 => ?_)
  ·have H := H.1 hb6
   refine pop_field 0 fld26_0 b4 0 ?_
   refine rl one24 hL12 1 0 s7.v ?_
   refine pop_len s7 _ _ sli24 ?_
   refine H.mono ?_
   rintro _ h13 ⟨s24, rfl, hL13, H⟩
   refine H.mono ?_
   rintro _ h14 ⟨y15, y16, y17, s25, rfl, hL14, H⟩
   refine pop_field 1 fld48_1 b5 0 ?_
   refine ul siz3 hL14 0 1 [(VI s25)] [(b5, [s15.v, (VI s25)]), (b4, [s7.v]), (b3, [nilSl.v, (VI 0)]), (b2, [nilSl.v]), (b1, [y15.v, (VI y16), (Value.int .u64 y17)])] (fun h15 hf9 hL15 => ?_)
   have H := H  h15  (fq hf9) hL15
   exact ⟨s15, s25, y15, y16, y17, rfl, H, hL15⟩
  have H := H.2 hb6
  refine pop_ieq .i64 _ _ s17 1 ?_
  refine condM_b (fun hb7 => ?_) (fun hb7 => ?_)
  rotate_left
  ·have H := H.2 hb7
   refine pop_ieq .i64 _ _ s17 2 ?_
   refine condM_b (fun hb8 => ?_) (fun hb8 => ?_)
   rotate_left
   ·have H := H.2 hb8
    exact ⟨s15, s15b, y12, y13, y14, rfl, H, hL12⟩
   have H := H.1 hb8
   refine pop_field 0 fld48_0 b5 0 ?_
   refine rl one29 hL12 0 0 s15.v ?_
   refine H.mono ?_
   rintro _ h24 ⟨s44, rfl, hL24, H⟩
   refine H.mono ?_
   rintro _ h25 ⟨s45, rfl, hL25, H⟩
   refine pop_field 0 fld48_0 b5 0 ?_
   refine ul siz29 hL25 0 0 [s45.v] [(b5, [s45.v, (VI s15b)]), (b4, [s7.v]), (b3, [nilSl.v, (VI 0)]), (b2, [nilSl.v]), (b1, [y12.v, (VI y13), (Value.int .u64 y14)])] (fun h26 hf10 hL26 => ?_)
   have H := H  h26  (fq hf10) hL26
   exact ⟨s45, s15b, y12, y13, y14, rfl, H, hL26⟩
  have H := H.1 hb7
  refine pop_field 0 fld48_0 b5 0 ?_
  refine rl one29 hL12 0 0 s15.v ?_
  refine pop_field 0 fld48_0 b5 0 ?_
  refine rl one29 hL12 0 0 s15.v ?_
  refine pop_len s15 _ _ sli29 ?_
  refine ⟨?_, ?_⟩
  ·have H := H.1
   refine H.mono ?_
   rintro _ h16 ⟨y18, y19, y20, s35, rfl, hL16, H⟩
   refine ⟨?_, ?_⟩
   ·exact still_loc one29 hL16 0 rfl 0 (v := s15.v) rfl
   refine ⟨?_, ?_⟩
   ·exact still_loc one29 hL16 0 rfl 0 (v := s15.v) rfl
   refine H.mono ?_
   rintro _ h17 ⟨s37, rfl, hL17, H⟩
   refine ⟨?_, ?_⟩
   ·exact still_loc one29 hL17 0 rfl 0 (v := s15.v) rfl
   refine ⟨?_, ?_⟩
   ·exact still_loc one29 hL17 0 rfl 0 (v := s15.v) rfl
   refine H.mono ?_
   rintro _ h18 ⟨y21, y22, y23, s38, rfl, hL18, H⟩
   refine ⟨?_, ?_⟩
   ·exact still_loc one29 hL18 0 rfl 0 (v := s15.v) rfl
   refine ⟨?_, ?_⟩
   ·exact still_loc one29 hL18 0 rfl 0 (v := s15.v) rfl
   obtain ⟨hi1, H⟩ := H
   refine pop_index sli29 siz3 .i64 s15 s35 hi1 ?_
   obtain ⟨hw_1, hL19, H⟩ := H
   refine uop_cell (v := (VI s38)) siz3 hw_1 rfl (fun h19 he_1 => ?_)
   rw [← he_1] at hL19
   have H := H h19 he_1 hL19
   exact ⟨s15, s15b, y21, y22, y23, rfl, H, hL19⟩
  have H := H.2
  refine H.mono ?_
  rintro _ h20 ⟨s37b, rfl, hL20, H⟩
  refine ⟨?_, ?_⟩
  ·exact still_loc one29 hL20 0 rfl 0 (v := s15.v) rfl
  refine ⟨?_, ?_⟩
  ·exact still_loc one29 hL20 0 rfl 0 (v := s15.v) rfl
  refine H.mono ?_
  rintro _ h21 ⟨y24, y25, y26, s35b, rfl, hL21, H⟩
  refine ⟨?_, ?_⟩
  ·exact still_loc one29 hL21 0 rfl 0 (v := s15.v) rfl
  refine ⟨?_, ?_⟩
  ·exact still_loc one29 hL21 0 rfl 0 (v := s15.v) rfl
  refine H.mono ?_
  rintro _ h22 ⟨y27, y28, y29, s38b, rfl, hL22, H⟩
  refine ⟨?_, ?_⟩
  ·exact still_loc one29 hL22 0 rfl 0 (v := s15.v) rfl
  refine ⟨?_, ?_⟩
  ·exact still_loc one29 hL22 0 rfl 0 (v := s15.v) rfl
  obtain ⟨hi2, H⟩ := H
  refine pop_index sli29 siz3 .i64 s15 s35b hi2 ?_
  obtain ⟨hw_2, hL23, H⟩ := H
  refine uop_cell (v := (VI s38b)) siz3 hw_2 rfl (fun h23 he_2 => ?_)
  rw [← he_2] at hL23
  have H := H h23 he_2 hL23
  exact ⟨s15, s15b, y27, y28, y29, rfl, H, hL23⟩
 intro junk1  h27
 rintro ⟨y7, y8, y9, y10, y11, hv, hJ1, hL27⟩
 have H := HB1 y7 y8 y9 y10 y11 h27 hJ1 hL27
 refine ra agg26 hL27 1 0 [s7.v] ?_
 refine ra agg48 hL27 0 0 [y7.v, (VI y8)] ?_
 refine ul siz26 hL27 3 0 [s7.v] [(b5, [y7.v, (VI y8)]), (b4, [s7.v]), (b3, [nilSl.v, (VI 0)]), (b2, [s7.v]), (b1, [y9.v, (VI y10), (Value.int .u64 y11)])] (fun h28 hf11 hL28 => ?_)
 have H := H  h28  (fq hf11) hL28
 refine ⟨?_, ?_⟩
 ·exact still_locA agg48 hL28 0 rfl 0 (vs := [y7.v, (VI y8)]) rfl rfl
 refine ul siz48 hL28 2 0 [y7.v, (VI y8)] [(b5, [y7.v, (VI y8)]), (b4, [s7.v]), (b3, [y7.v, (VI y8)]), (b2, [s7.v]), (b1, [y9.v, (VI y10), (Value.int .u64 y11)])] (fun h29 hf12 hL29 => ?_)
 refine ra agg26 hL29 3 0 [s7.v] ?_
 refine ra agg48 hL29 2 0 [y7.v, (VI y8)] ?_
 exact H  h29  (fq hf12) hL29
def u149 (P : Program) (b1 : Nat) (c0 : Sl) (c0a : Int) (c0b : Int) (m1 : Int) (h : Heap) (K : KQ) : Prop :=
 ∀ (b2 : Nat) (h1 : Heap), h.size ≤ b2 -> Fr (In []) h h1 -> Vars h1 [(b2, [nilSl.v]), (b1, [c0.v, (VI c0a), (Value.int .u64 c0b)])] ->
 callM P 52 #[(VP b1 0), (VI m1)] h1 fun r1 h2 => ∃ y1 : Sl, ∃ y2 : Int, ∃ y3 : Int, ∃ s13 : Int, r1 = (VI s13) /\ Vars h2 [(b2, [nilSl.v]), (b1, [y1.v, (VI y2), (Value.int .u64 y3)])] /\
 callM P 67 #[(VP b1 0), (VI 4)] h2 fun r2 h3 => ∃ y4 : Sl, ∃ y5 : Int, ∃ y6 : Int, ∃ s16 : Bool, r2 = (VB s16) /\ Vars h3 [(b2, [nilSl.v]), (b1, [y4.v, (VI y5), (Value.int .u64 y6)])] /\
 (s16 = true ->
 callM P 67 #[(VP b1 0), (VI 2)] h3 fun r3 h4 => ∃ y7 : Sl, ∃ y8 : Int, ∃ y9 : Int, ∃ s19 : Bool, r3 = (VB s19) /\ Vars h4 [(b2, [nilSl.v]), (b1, [y7.v, (VI y8), (Value.int .u64 y9)])] /\
 callM P 153 #[(VI (w64 (1 + s13))), (VB s19)] h4 fun r4 h5 => ∃ s20 : Sl, r4 = (.agg #[s20.v]) /\ Vars h5 [(b2, [nilSl.v]), (b1, [y7.v, (VI y8), (Value.int .u64 y9)])] /\
 ∀ (h6 : Heap), Fr (In [b2]) h5 h6 -> Vars h6 [(b2, [s20.v]), (b1, [y7.v, (VI y8), (Value.int .u64 y9)])] ->
 K (.agg #[s20.v]) h6) /\
 (s16 = false ->
 ∀ (b3 : Nat) (h8 : Heap), h3.size ≤ b3 -> Fr (In []) h3 h8 -> Vars h8 [(b3, [nilSl.v]), (b2, [nilSl.v]), (b1, [y4.v, (VI y5), (Value.int .u64 y6)])] ->
 ∃ J1 : Nat -> Int -> Sl -> Sl -> Int -> Int -> Heap -> Prop, (∃ n0 : Nat, J1 n0 0 nilSl y4 y5 y6 h8) /\
 ∀ (n1 : Nat) (p7 : Int) (y10 : Sl) (y11 : Sl) (y12 : Int) (y13 : Int) (h9 : Heap), J1 n1 p7 y10 y11 y12 y13 h9 -> Vars h9 [(b3, [y10.v]), (b2, [nilSl.v]), (b1, [y11.v, (VI y12), (Value.int .u64 y13)])] ->
 ((decide (p7 < (w64 (1 + s13)))) = true ->
 callM P 52 #[(VP b1 0), (VI 3)] h9 fun r5 h10 => ∃ y14 : Sl, ∃ y15 : Int, ∃ y16 : Int, ∃ s28 : Int, r5 = (VI s28) /\ Vars h10 [(b3, [y10.v]), (b2, [nilSl.v]), (b1, [y14.v, (VI y15), (Value.int .u64 y16)])] /\
 ∃ J2 : Nat -> Sl -> Int -> Sl -> Int -> Int -> Heap -> Prop, (∃ n0 : Nat, J2 n0 nilSl (w64 (1 + s28)) y14 y15 y16 h10) /\
 ∀ (n2 : Nat) (l8 : Sl) (k9 : Int) (y17 : Sl) (y18 : Int) (y19 : Int) (h11 : Heap), J2 n2 l8 k9 y17 y18 y19 h11 -> Vars h11 [(b3, [y10.v]), (b2, [nilSl.v]), (b1, [y17.v, (VI y18), (Value.int .u64 y19)])] ->
 ((decide (0 < k9)) = true ->
 callM P 52 #[(VP b1 0), (VI (w64 (1 + s13)))] h11 fun r6 h12 => ∃ y20 : Sl, ∃ y21 : Int, ∃ y22 : Int, ∃ s37 : Int, r6 = (VI s37) /\ Vars h12 [(b3, [y10.v]), (b2, [nilSl.v]), (b1, [y20.v, (VI y21), (Value.int .u64 y22)])] /\
 eop P (buildSlice 29 1 #[(0, (VI s37))]) h12 fun r7 h13 => ∃ s38 : Sl, r7 = s38.v /\ Vars h13 [(b3, [y10.v]), (b2, [nilSl.v]), (b1, [y20.v, (VI y21), (Value.int .u64 y22)])] /\
 eop P (appS 29 29 29 l8.v s38.v) h13 fun r8 h14 => ∃ s39 : Sl, r8 = s39.v /\ Vars h14 [(b3, [y10.v]), (b2, [nilSl.v]), (b1, [y20.v, (VI y21), (Value.int .u64 y22)])] /\
 ∃ m : Nat, m < n2 /\ J2 m s39 (w64 (k9 - 1)) y20 y21 y22 h14) /\
 ((decide (0 < k9)) = false ->
 ∃ J3 : Sl -> Sl -> Int -> Int -> Heap -> Prop, (callM P 67 #[(VP b1 0), (VI 8)] h11 fun r9 h15 => ∃ y27 : Sl, ∃ y28 : Int, ∃ y29 : Int, ∃ s41 : Bool, r9 = (VB s41) /\ Vars h15 [(b3, [y10.v]), (b2, [nilSl.v]), (b1, [y27.v, (VI y28), (Value.int .u64 y29)])] /\
 (s41 = true ->
 J3 nilSl y27 y28 y29 h15) /\
 (s41 = false ->
 J3 l8 y27 y28 y29 h15)) /\
 ∀ (y23 : Sl) (y24 : Sl) (y25 : Int) (y26 : Int) (h16 : Heap), J3 y23 y24 y25 y26 h16 -> Vars h16 [(b3, [y10.v]), (b2, [nilSl.v]), (b1, [y24.v, (VI y25), (Value.int .u64 y26)])] ->
 eop P (buildSlice 24 1 #[(0, y23.v)]) h16 fun r10 h17 => ∃ s45 : Sl, r10 = s45.v /\ Vars h17 [(b3, [y10.v]), (b2, [nilSl.v]), (b1, [y24.v, (VI y25), (Value.int .u64 y26)])] /\
 eop P (appS 24 24 24 y10.v s45.v) h17 fun r11 h18 => ∃ s46 : Sl, r11 = s46.v /\ Vars h18 [(b3, [y10.v]), (b2, [nilSl.v]), (b1, [y24.v, (VI y25), (Value.int .u64 y26)])] /\
 ∀ (h19 : Heap), Fr (In [b3]) h18 h19 -> Vars h19 [(b3, [s46.v]), (b2, [nilSl.v]), (b1, [y24.v, (VI y25), (Value.int .u64 y26)])] ->
 ∃ m : Nat, m < n1 /\ J1 m (w64 (p7 + 1)) s46 y24 y25 y26 h19)) /\
 ((decide (p7 < (w64 (1 + s13)))) = false ->
 callM P 67 #[(VP b1 0), (VI 2)] h9 fun r12 h20 => ∃ y30 : Sl, ∃ y31 : Int, ∃ y32 : Int, ∃ s49 : Bool, r12 = (VB s49) /\ Vars h20 [(b3, [y10.v]), (b2, [nilSl.v]), (b1, [y30.v, (VI y31), (Value.int .u64 y32)])] /\
 (s49 = true ->
 ∃ J4 : Nat -> Int -> Heap -> Prop, (∃ n0 : Nat, J4 n0 0 h20) /\
 ∀ (n4 : Nat) (s53 : Int) (h21 : Heap), J4 n4 s53 h21 -> Vars h21 [(b3, [y10.v]), (b2, [nilSl.v]), (b1, [y30.v, (VI y31), (Value.int .u64 y32)])] ->
 ((decide (s53 < (y10.n : Int))) = true ->
 InB y10 s53 /\
 ∃ s63 : Sl, hcell h21 (Sl.at y10 s53 1) = some s63.v /\
 (w64 (1 + s13)) ≠ 0 /\
 eop P (buildSlice 29 1 #[(0, (VI (Int.tmod (w64 (s53 + 1)) (w64 (1 + s13)))))]) h21 fun r13 h22 => ∃ s68 : Sl, r13 = s68.v /\ Vars h22 [(b3, [y10.v]), (b2, [nilSl.v]), (b1, [y30.v, (VI y31), (Value.int .u64 y32)])] /\
 hcell h22 (Sl.at y10 s53 1) = some s63.v /\
 eop P (appS 29 29 29 s63.v s68.v) h22 fun r14 h23 => ∃ s69 : Sl, r14 = s69.v /\ Vars h23 [(b3, [y10.v]), (b2, [nilSl.v]), (b1, [y30.v, (VI y31), (Value.int .u64 y32)])] /\
 InB y10 s53 /\
 Writable h23 (Sl.at y10 s53 1) /\ Vars (hset h23 (Sl.at y10 s53 1) s69.v) [(b3, [y10.v]), (b2, [nilSl.v]), (b1, [y30.v, (VI y31), (Value.int .u64 y32)])] /\
 ∀ h24 : Heap, h24 = hset h23 (Sl.at y10 s53 1) s69.v -> Vars h24 [(b3, [y10.v]), (b2, [nilSl.v]), (b1, [y30.v, (VI y31), (Value.int .u64 y32)])] ->
 ∃ m : Nat, m < n4 /\ J4 m (w64 (s53 + 1)) h24) /\
 ((decide (s53 < (y10.n : Int))) = false ->
 ∀ (h25 : Heap), Fr (In [b2]) h21 h25 -> Vars h25 [(b3, [y10.v]), (b2, [y10.v]), (b1, [y30.v, (VI y31), (Value.int .u64 y32)])] ->
 K (.agg #[y10.v]) h25)) /\
 (s49 = false ->
 ∀ (h26 : Heap), Fr (In [b2]) h20 h26 -> Vars h26 [(b3, [y10.v]), (b2, [y10.v]), (b1, [y30.v, (VI y31), (Value.int .u64 y32)])] ->
 K (.agg #[y10.v]) h26)))
theorem v149 (b1 : Nat) (c0 : Sl) (c0a : Int) (c0b : Int) (m1 : Int) (h : Heap) (K : KQ) (hL : Vars h [(b1, [c0.v, (VI c0a), (Value.int .u64 c0b)])]) (H : u149 Tryz.prog b1 c0 c0a c0b m1 h K) : callM Tryz.prog 149 #[(VP b1 0), (VI m1)] h K := by
 refine c149 (VP b1 0) (VI m1) h K ?_
 unfold u149 at H
 unfold t149
 refine eop_alloc 26 zer26 rfl hL (fun b2 h1 hb1 hf1 hL1 => ?_)
 refine (H b2 h1 hb1 (fo hf1) hL1).mono ?_
 rintro _ h2 ⟨y1, y2, y3, s13, rfl, hL2, H⟩
 refine pop_add .i64 1 s13 ?_
 refine H.mono ?_
 rintro _ h3 ⟨y4, y5, y6, s16, rfl, hL3, H⟩
 refine condM_b (fun hb2 => ?_) (fun hb2 => ?_)
 ·have H := H.1 hb2
  refine H.mono ?_
  rintro _ h4 ⟨y7, y8, y9, s19, rfl, hL4, H⟩
  refine H.mono ?_
  rintro _ h5 ⟨s20, rfl, hL5, H⟩
  refine ul siz26 hL5 0 0 [s20.v] [(b2, [s20.v]), (b1, [y7.v, (VI y8), (Value.int .u64 y9)])] (fun h6 hf2 hL6 => ?_)
  refine ra agg26 hL6 0 0 [s20.v] ?_
  exact H  h6  (fq hf2) hL6
 have H := H.2 hb2
 refine pop.mk' (v := (Value.agg #[nilSl.v])) (fun w => by kernel_rfl) ?_
 refine eop_alloc 26 zer26 rfl hL3 (fun b3 h7 hb3 hf3 hL7 => ?_)
 refine ul siz26 hL7 0 0 [nilSl.v] [(b3, [nilSl.v]), (b2, [nilSl.v]), (b1, [y4.v, (VI y5), (Value.int .u64 y6)])] (fun h8 hf4 hL8 => ?_)
 have H := H b3 h8 hb3 (Fr.new (fo hf3) hb3 hf4) hL8
 obtain ⟨J1, ⟨n6, h0b⟩, HB4⟩ := H
 refine loop_intro (J := fun (n : Nat) (vs : List Value) (h' : Heap) => ∃ p7 : Int, ∃ y10 : Sl, ∃ y11 : Sl, ∃ y12 : Int, ∃ y13 : Int, vs = [(VI p7)] /\ J1 n p7 y10 y11 y12 y13 h' /\ Vars h' [(b3, [y10.v]), (b2, [nilSl.v]), (b1, [y11.v, (VI y12), (Value.int .u64 y13)])]) n6 ⟨0, nilSl, y4, y5, y6, rfl, h0b, hL8⟩ ?_
 intro I3 mu3 hI3 junk1 tv5 h9 hi1
 obtain ⟨n1, ⟨p7, y10, y11, y12, y13, hv, hJ1, hL9⟩, hn1⟩ := hI3 _ _ hi1
 cases hv
 have H := HB4 n1 p7 y10 y11 y12 y13 h9 hJ1 hL9
 refine pop_lss .i64 p7 (w64 (1 + s13)) ?_
 refine condM_b (fun hb4 => ?_) (fun hb4 => ?_)
 ·have H := H.1 hb4
  refine H.mono ?_
  rintro _ h10 ⟨y14, y15, y16, s28, rfl, hL10, H⟩
  refine pop_add .i64 1 s28 ?_
  obtain ⟨J2, ⟨n3, h0⟩, HB2⟩ := H
  refine loop_intro (J := fun (n : Nat) (vs : List Value) (h' : Heap) => ∃ l8 : Sl, ∃ k9 : Int, ∃ y17 : Sl, ∃ y18 : Int, ∃ y19 : Int, vs = [l8.v, (VI k9)] /\ J2 n l8 k9 y17 y18 y19 h' /\ Vars h' [(b3, [y10.v]), (b2, [nilSl.v]), (b1, [y17.v, (VI y18), (Value.int .u64 y19)])]) n3 ⟨nilSl, (w64 (1 + s28)), y14, y15, y16, rfl, h0, hL10⟩ ?_
  intro I1 mu1 hI1 junk2 tv2 tv3 h11 hi2
  obtain ⟨n2, ⟨l8, k9, y17, y18, y19, hv, hJ2, hL11⟩, hn2⟩ := hI1 _ _ hi2
  cases hv
  have H := HB2 n2 l8 k9 y17 y18 y19 h11 hJ2 hL11
  refine pop_gtr .i64 k9 0 ?_
  refine condM_b (fun hb5 => ?_) (fun hb5 => ?_)
  ·have H := H.1 hb5
   refine H.mono ?_
   rintro _ h12 ⟨y20, y21, y22, s37, rfl, hL12, H⟩
   refine H.mono ?_
   rintro _ h13 ⟨s38, rfl, hL13, H⟩
   refine H.mono ?_
   rintro _ h14 ⟨s39, rfl, hL14, H⟩
   refine pop_sub .i64 k9 1 ?_
   obtain ⟨m_1, hm_1, H⟩ := H
   exact hn2 _ _ ⟨m_1, hm_1, s39, (w64 (k9 - 1)), y20, y21, y22, rfl, H, hL14⟩
  have H := H.2 hb5
  obtain ⟨J3, H, HB1⟩ := H
  refine ⟨fun (vs : List Value) (h' : Heap) => ∃ y23 : Sl, ∃ y24 : Sl, ∃ y25 : Int, ∃ y26 : Int, vs = [y23.v] /\ J3 y23 y24 y25 y26 h' /\ Vars h' [(b3, [y10.v]), (b2, [nilSl.v]), (b1, [y24.v, (VI y25), (Value.int .u64 y26)])], ?_, ?_⟩
  ·refine H.mono ?_
   rintro _ h15 ⟨y27, y28, y29, s41, rfl, hL15, H⟩
   refine condM_b (fun hb6 => ?_) (fun hb6 => ?_)
   ·have H := H.1 hb6
    exact ⟨nilSl, y27, y28, y29, rfl, H, hL15⟩
   have H := H.2 hb6
   exact ⟨l8, y27, y28, y29, rfl, H, hL15⟩
  intro junk3 tv1 h16
  rintro ⟨y23, y24, y25, y26, hv, hJ3, hL16⟩
  cases hv
  have H := HB1 y23 y24 y25 y26 h16 hJ3 hL16
  refine pop_field 0 fld26_0 b3 0 ?_
  refine rl one24 hL16 0 0 y10.v ?_
  refine H.mono ?_
  rintro _ h17 ⟨s45, rfl, hL17, H⟩
  refine H.mono ?_
  rintro _ h18 ⟨s46, rfl, hL18, H⟩
  refine pop_field 0 fld26_0 b3 0 ?_
  refine ul siz24 hL18 0 0 [s46.v] [(b3, [s46.v]), (b2, [nilSl.v]), (b1, [y24.v, (VI y25), (Value.int .u64 y26)])] (fun h19 hf5 hL19 => ?_)
  refine pop_add .i64 p7 1 ?_
  have H := H  h19  (fq hf5) hL19
  obtain ⟨m_2, hm_2, H⟩ := H
  exact hn1 _ _ ⟨m_2, hm_2, (w64 (p7 + 1)), s46, y24, y25, y26, rfl, H, hL19⟩
 have H := H.2 hb4
 refine H.mono ?_
 rintro _ h20 ⟨y30, y31, y32, s49, rfl, hL20, H⟩
 refine condM_b (fun hb7 => ?_) (fun hb7 => ?_)
 rotate_left
 ·have H := H.2 hb7
  refine ra agg26 hL20 0 0 [y10.v] ?_
  refine ul siz26 hL20 1 0 [y10.v] [(b3, [y10.v]), (b2, [y10.v]), (b1, [y30.v, (VI y31), (Value.int .u64 y32)])] (fun h26 hf7 hL26 => ?_)
  refine ra agg26 hL26 1 0 [y10.v] ?_
  exact H  h26  (fq hf7) hL26
 have H := H.1 hb7
 refine pop_field 0 fld26_0 b3 0 ?_
 refine rl one24 hL20 0 0 y10.v ?_
 refine pop_len y10 _ _ sli24 ?_
 obtain ⟨J4, ⟨n5, h0a⟩, HB3⟩ := H
 refine loop_intro (J := fun (n : Nat) (vs : List Value) (h' : Heap) => ∃ s53 : Int, vs = [(VI s53)] /\ J4 n s53 h' /\ Vars h' [(b3, [y10.v]), (b2, [nilSl.v]), (b1, [y30.v, (VI y31), (Value.int .u64 y32)])]) n5 ⟨0, rfl, h0a, hL20⟩ ?_
 intro I2 mu2 hI2 junk4 tv4 h21 hi3
 obtain ⟨n4, ⟨s53, hv, hJ4, hL21⟩, hn3⟩ := hI2 _ _ hi3
 cases hv
 have H := HB3 n4 s53 h21 hJ4 hL21
 refine pop_lss .i64 s53 (y10.n : Int) ?_
 refine condM_b (fun hb8 => ?_) (fun hb8 => ?_)
 rotate_left
 ·have H := H.2 hb8
  refine ra agg26 hL21 0 0 [y10.v] ?_
  refine ul siz26 hL21 1 0 [y10.v] [(b3, [y10.v]), (b2, [y10.v]), (b1, [y30.v, (VI y31), (Value.int .u64 y32)])] (fun h25 hf6 hL25 => ?_)
  refine ra agg26 hL25 1 0 [y10.v] ?_
  exact H  h25  (fq hf6) hL25
 have H := H.1 hb8
 refine pop_field 0 fld26_0 b3 0 ?_
 refine rl one24 hL21 0 0 y10.v ?_
 refine pop_field 0 fld26_0 b3 0 ?_
 refine rl one24 hL21 0 0 y10.v ?_
 obtain ⟨hi4, H⟩ := H
 refine pop_index sli24 siz29 .i64 y10 s53 hi4 ?_
 obtain ⟨s63, hc2, H⟩ := H
 refine rop_one one29 s63.v hc2 ?_
 refine pop_add .i64 s53 1 ?_
 obtain ⟨hz_1, H⟩ := H
 refine pop_rem .i64 (w64 (s53 + 1)) (w64 (1 + s13)) hz_1 ?_
 refine H.mono ?_
 rintro _ h22 ⟨s68, rfl, hL22, H⟩
 refine ⟨?_, ?_⟩
 ·exact still_one one29 H.1
 obtain ⟨hc1, H⟩ := H
 refine ⟨?_, ?_⟩
 ·exact still_loc one24 hL22 0 rfl 0 (v := y10.v) rfl
 refine ⟨?_, ?_⟩
 ·exact still_loc one24 hL22 0 rfl 0 (v := y10.v) rfl
 refine H.mono ?_
 rintro _ h23 ⟨s69, rfl, hL23, H⟩
 refine ⟨?_, ?_⟩
 ·exact still_loc one24 hL23 0 rfl 0 (v := y10.v) rfl
 refine ⟨?_, ?_⟩
 ·exact still_loc one24 hL23 0 rfl 0 (v := y10.v) rfl
 obtain ⟨hi5, H⟩ := H
 refine pop_index sli24 siz29 .i64 y10 s53 hi5 ?_
 obtain ⟨hw_1, hL24, H⟩ := H
 refine uop_cell (v := s69.v) siz29 hw_1 rfl (fun h24 he_1 => ?_)
 rw [← he_1] at hL24
 have H := H h24 he_1 hL24
 refine pop_add .i64 s53 1 ?_
 obtain ⟨m_3, hm_3, H⟩ := H
 exact hn3 _ _ ⟨m_3, hm_3, (w64 (s53 + 1)), rfl, H, hL24⟩
def u151 (P : Program) (b1 : Nat) (s0 : Sl) (s0a : Int) (s0b : Sl) (s0c : Sl) (s0d : Int) (p1 : Int) (h : Heap) (K : KQ) : Prop :=
 ∃ J1 : Nat -> Int -> Int -> Heap -> Prop, (∃ n0 : Nat, J1 n0 p1 0 h) /\
 ∀ (n1 : Nat) (q5 : Int) (z6 : Int) (h1 : Heap), J1 n1 q5 z6 h1 -> Vars h1 [(b1, [s0.v, (VI s0a), s0b.v, s0c.v, (VI s0d)])] ->
 ((decide (z6 ≤ (s0.n : Int))) = true ->
 ((decide (q5 = s0a)) = true ->
 K (VB false) h1) /\
 ((decide (q5 = s0a)) = false ->
 ((decide (p1 < q5)) = true ->
 K (VB false) h1) /\
 ((decide (p1 < q5)) = false ->
 callM P 128 #[(.agg #[s0.v]), s0b.v, (VI q5)] h1 fun r1 h2 => ∃ s38 : Int, r1 = (VI s38) /\ Vars h2 [(b1, [s0.v, (VI s0a), s0b.v, s0c.v, (VI s0d)])] /\
 ((decide (s38 < 0)) = true ->
 K (VB true) h2) /\
 ((decide (s38 < 0)) = false ->
 ∃ m : Nat, m < n1 /\ J1 m s38 (w64 (z6 + 1)) h2)))) /\
 ((decide (z6 ≤ (s0.n : Int))) = false ->
 K (VB true) h1)
theorem v151 (b1 : Nat) (s0 : Sl) (s0a : Int) (s0b : Sl) (s0c : Sl) (s0d : Int) (p1 : Int) (h : Heap) (K : KQ) (hL : Vars h [(b1, [s0.v, (VI s0a), s0b.v, s0c.v, (VI s0d)])]) (H : u151 Tryz.prog b1 s0 s0a s0b s0c s0d p1 h K) : callM Tryz.prog 151 #[(VP b1 0), (VI p1)] h K := by
 refine c151 (VP b1 0) (VI p1) h K ?_
 unfold u151 at H
 unfold t151
 obtain ⟨J1, ⟨n2, h0⟩, HB1⟩ := H
 refine loop_intro (J := fun (n : Nat) (vs : List Value) (h' : Heap) => ∃ q5 : Int, ∃ z6 : Int, vs = [(VI q5), (VI z6)] /\ J1 n q5 z6 h' /\ Vars h' [(b1, [s0.v, (VI s0a), s0b.v, s0c.v, (VI s0d)])]) n2 ⟨p1, 0, rfl, h0, hL⟩ ?_
 intro I1 mu1 hI1 junk1 tv1 tv2 h1 hi1
 obtain ⟨n1, ⟨q5, z6, hv, hJ1, hL1⟩, hn1⟩ := hI1 _ _ hi1
 cases hv
 have H := HB1 n1 q5 z6 h1 hJ1 hL1
 refine pop_nil _ ?_
 refine pop_field 0 fld138_0 b1 0 ?_
 refine pop_field 0 fld26_0 b1 0 ?_
 refine rl one24 hL1 0 0 s0.v ?_
 refine pop_len s0 _ _ sli24 ?_
 refine pop_leq .i64 z6 (s0.n : Int) ?_
 refine condM_b (fun hb1 => ?_) (fun hb1 => ?_)
 rotate_left
 ·exact H.2 hb1
 have H := H.1 hb1
 refine pop_nil _ ?_
 refine pop_field 1 fld138_1 b1 0 ?_
 refine rl one3 hL1 0 1 (VI s0a) ?_
 refine pop_ieq .i64 _ _ q5 s0a ?_
 refine guardM_sf (fun hb2 => ?_) (fun hb2 => ?_)
 rotate_left
 ·have H := H.1 hb2
  refine gm hb2 ?_
  refine gm hb2 ?_
  refine pop_pickt' hb2 ?_
  refine condM_t ?_
  exact H
 have H := H.2 hb2
 refine gy hb2 ?_
 refine gy hb2 ?_
 refine pop_gtr .i64 q5 p1 ?_
 refine pop_pickf' hb2 ?_
 refine condM_b (fun hb3 => ?_) (fun hb3 => ?_)
 ·exact H.1 hb3
 have H := H.2 hb3
 refine pop_nil _ ?_
 refine pop_field 0 fld138_0 b1 0 ?_
 refine ra agg26 hL1 0 0 [s0.v] ?_
 refine pop_nil _ ?_
 refine pop_field 2 fld138_2 b1 0 ?_
 refine rl one29 hL1 0 2 s0b.v ?_
 refine H.mono ?_
 rintro _ h2 ⟨s38, rfl, hL2, H⟩
 refine pop_lss .i64 s38 0 ?_
 refine condM_b (fun hb4 => ?_) (fun hb4 => ?_)
 ·exact H.1 hb4
 have H := H.2 hb4
 refine pop_add .i64 z6 1 ?_
 obtain ⟨m_1, hm_1, H⟩ := H
 exact hn1 _ _ ⟨m_1, hm_1, s38, (w64 (z6 + 1)), rfl, H, hL2⟩
def u152 (P : Program) (g0 : Sl) (p1 : Int) (h : Heap) (K : KQ) : Prop :=
 ∀ (b1 : Nat) (h1 : Heap), h.size ≤ b1 -> Fr (In []) h h1 -> Vars h1 [(b1, [g0.v])] ->
 eop P (Instr.makeSlice 29 (VI (g0.n : Int)) (VI (g0.n : Int))) h1 fun r1 h2 => ∃ s14 : Sl, r1 = s14.v /\ Vars h2 [(b1, [g0.v])] /\
 ∃ J1 : Nat -> Int -> Heap -> Prop, (∃ n0 : Nat, J1 n0 0 h2) /\
 ∀ (n1 : Nat) (s17 : Int) (h3 : Heap), J1 n1 s17 h3 -> Vars h3 [(b1, [g0.v])] ->
 ((decide (s17 < (s14.n : Int))) = true ->
 InB s14 s17 /\
 Writable h3 (Sl.at s14 s17 1) /\ Vars (hset h3 (Sl.at s14 s17 1) (VI (-1))) [(b1, [g0.v])] /\
 ∀ h4 : Heap, h4 = hset h3 (Sl.at s14 s17 1) (VI (-1)) -> Vars h4 [(b1, [g0.v])] ->
 ∃ m : Nat, m < n1 /\ J1 m (w64 (s17 + 1)) h4) /\
 ((decide (s17 < (s14.n : Int))) = false ->
 InB s14 p1 /\
 Writable h3 (Sl.at s14 p1 1) /\ Vars (hset h3 (Sl.at s14 p1 1) (VI 0)) [(b1, [g0.v])] /\
 ∀ h5 : Heap, h5 = hset h3 (Sl.at s14 p1 1) (VI 0) -> Vars h5 [(b1, [g0.v])] ->
 eop P (buildSlice 29 1 #[(0, (VI p1))]) h5 fun r2 h6 => ∃ s28 : Sl, r2 = s28.v /\ Vars h6 [(b1, [g0.v])] /\
 ∃ J2 : Nat -> Sl -> Int -> Heap -> Prop, (∃ n0 : Nat, J2 n0 s28 0 h6) /\
 ∀ (n2 : Nat) (q7 : Sl) (k8 : Int) (h7 : Heap), J2 n2 q7 k8 h7 -> Vars h7 [(b1, [g0.v])] ->
 ((decide (k8 < (q7.n : Int))) = true ->
 InB q7 k8 /\
 ∃ s40 : Int, hcell h7 (Sl.at q7 k8 1) = some (VI s40) /\
 InB g0 s40 /\
 ∃ s42 : Sl, hcell h7 (Sl.at g0 s40 1) = some s42.v /\
 ∃ J3 : Nat -> Sl -> Int -> Heap -> Prop, (∃ n0 : Nat, J3 n0 q7 0 h7) /\
 ∀ (n3 : Nat) (q7a : Sl) (s44 : Int) (h8 : Heap), J3 n3 q7a s44 h8 -> Vars h8 [(b1, [g0.v])] ->
 ((decide (s44 < (s42.n : Int))) = true ->
 InB s42 s44 /\
 ∃ s47 : Int, hcell h8 (Sl.at s42 s44 1) = some (VI s47) /\
 InB s14 s47 /\
 ∃ s51 : Int, hcell h8 (Sl.at s14 s47 1) = some (VI s51) /\
 ((decide (s51 < 0)) = true ->
 InB q7a k8 /\
 ∃ s59 : Int, hcell h8 (Sl.at q7a k8 1) = some (VI s59) /\
 InB s14 s59 /\
 ∃ s61 : Int, hcell h8 (Sl.at s14 s59 1) = some (VI s61) /\
 InB s14 s47 /\
 Writable h8 (Sl.at s14 s47 1) /\ Vars (hset h8 (Sl.at s14 s47 1) (VI (w64 (s61 + 1)))) [(b1, [g0.v])] /\
 ∀ h9 : Heap, h9 = hset h8 (Sl.at s14 s47 1) (VI (w64 (s61 + 1))) -> Vars h9 [(b1, [g0.v])] ->
 eop P (buildSlice 29 1 #[(0, (VI s47))]) h9 fun r3 h10 => ∃ s66 : Sl, r3 = s66.v /\ Vars h10 [(b1, [g0.v])] /\
 eop P (appS 29 29 29 q7a.v s66.v) h10 fun r4 h11 => ∃ s67 : Sl, r4 = s67.v /\ Vars h11 [(b1, [g0.v])] /\
 ∃ m : Nat, m < n3 /\ J3 m s67 (w64 (s44 + 1)) h11) /\
 ((decide (s51 < 0)) = false ->
 ∃ m : Nat, m < n3 /\ J3 m q7a (w64 (s44 + 1)) h8)) /\
 ((decide (s44 < (s42.n : Int))) = false ->
 ∃ m : Nat, m < n2 /\ J2 m q7a (w64 (k8 + 1)) h8)) /\
 ((decide (k8 < (q7.n : Int))) = false ->
 K s14.v h7))
theorem v152 (g0 : Sl) (p1 : Int) (h : Heap) (K : KQ) (H : u152 Tryz.prog g0 p1 h K) : callM Tryz.prog 152 #[(Value.agg #[g0.v]), (VI p1)] h K := by
 refine c152 (Value.agg #[g0.v]) (VI p1) h K ?_
 unfold u152 at H
 unfold t152
 have hL : Vars h [] := .nil
 refine eop_box 26 (Value.agg #[g0.v]) rfl hL (fun b1 h1 hb1 hf1 hL1 => ?_)
 refine pop_field 0 fld26_0 b1 0 ?_
 refine rl one24 hL1 0 0 g0.v ?_
 refine pop_len g0 _ _ sli24 ?_
 refine (H b1 h1 hb1 (fo hf1) hL1).mono ?_
 rintro _ h2 ⟨s14, rfl, hL2, H⟩
 refine pop_len s14 _ _ sli29 ?_
 obtain ⟨J1, ⟨n6, h0b⟩, HB3⟩ := H
 refine loop_intro (J := fun (n : Nat) (vs : List Value) (h' : Heap) => ∃ s17 : Int, vs = [(VI s17)] /\ J1 n s17 h' /\ Vars h' [(b1, [g0.v])]) n6 ⟨0, rfl, h0b, hL2⟩ ?_
 intro I3 mu3 hI3 junk1 tv5 h3 hi1
 obtain ⟨n1, ⟨s17, hv, hJ1, hL3⟩, hn1⟩ := hI3 _ _ hi1
 cases hv
 have H := HB3 n1 s17 h3 hJ1 hL3
 refine pop_lss .i64 s17 (s14.n : Int) ?_
 refine condM_b (fun hb2 => ?_) (fun hb2 => ?_)
 ·have H := H.1 hb2
  obtain ⟨hi2, H⟩ := H
  refine pop_index sli29 siz3 .i64 s14 s17 hi2 ?_
  obtain ⟨hw_1, hL4, H⟩ := H
  refine uop_cell (v := (VI (-1))) siz3 hw_1 rfl (fun h4 he_1 => ?_)
  rw [← he_1] at hL4
  have H := H h4 he_1 hL4
  refine pop_add .i64 s17 1 ?_
  obtain ⟨m_1, hm_1, H⟩ := H
  exact hn1 _ _ ⟨m_1, hm_1, (w64 (s17 + 1)), rfl, H, hL4⟩
 have H := H.2 hb2
 obtain ⟨hi3, H⟩ := H
 refine pop_index sli29 siz3 .i64 s14 p1 hi3 ?_
 obtain ⟨hw_2, hL5, H⟩ := H
 refine uop_cell (v := (VI 0)) siz3 hw_2 rfl (fun h5 he_2 => ?_)
 rw [← he_2] at hL5
 refine (H h5 he_2 hL5).mono ?_
 rintro _ h6 ⟨s28, rfl, hL6, H⟩
 obtain ⟨J2, ⟨n5, h0a⟩, HB2⟩ := H
 refine loop_intro (J := fun (n : Nat) (vs : List Value) (h' : Heap) => ∃ q7 : Sl, ∃ k8 : Int, vs = [q7.v, (VI k8)] /\ J2 n q7 k8 h' /\ Vars h' [(b1, [g0.v])]) n5 ⟨s28, 0, rfl, h0a, hL6⟩ ?_
 intro I2 mu2 hI2 junk2 tv3 tv4 h7 hi4
 obtain ⟨n2, ⟨q7, k8, hv, hJ2, hL7⟩, hn2⟩ := hI2 _ _ hi4
 cases hv
 have H := HB2 n2 q7 k8 h7 hJ2 hL7
 refine pop_len q7 _ _ sli29 ?_
 refine pop_lss .i64 k8 (q7.n : Int) ?_
 refine condM_b (fun hb3 => ?_) (fun hb3 => ?_)
 rotate_left
 ·exact H.2 hb3
 have H := H.1 hb3
 refine pop_field 0 fld26_0 b1 0 ?_
 refine rl one24 hL7 0 0 g0.v ?_
 obtain ⟨hi5, H⟩ := H
 refine pop_index sli29 siz3 .i64 q7 k8 hi5 ?_
 obtain ⟨s40, hc6, H⟩ := H
 refine rop_one one3 (VI s40) hc6 ?_
 obtain ⟨hi6, H⟩ := H
 refine pop_index sli24 siz29 .i64 g0 s40 hi6 ?_
 obtain ⟨s42, hc5, H⟩ := H
 refine rop_one one29 s42.v hc5 ?_
 refine pop_len s42 _ _ sli29 ?_
 obtain ⟨J3, ⟨n4, h0⟩, HB1⟩ := H
 refine loop_intro (J := fun (n : Nat) (vs : List Value) (h' : Heap) => ∃ q7a : Sl, ∃ s44 : Int, vs = [q7a.v, (VI s44)] /\ J3 n q7a s44 h' /\ Vars h' [(b1, [g0.v])]) n4 ⟨q7, 0, rfl, h0, hL7⟩ ?_
 intro I1 mu1 hI1 junk3 tv1 tv2 h8 hi7
 obtain ⟨n3, ⟨q7a, s44, hv, hJ3, hL8⟩, hn3⟩ := hI1 _ _ hi7
 cases hv
 have H := HB1 n3 q7a s44 h8 hJ3 hL8
 refine pop_lss .i64 s44 (s42.n : Int) ?_
 refine condM_b (fun hb4 => ?_) (fun hb4 => ?_)
 rotate_left
 ·have H := H.2 hb4
  refine pop_add .i64 k8 1 ?_
  obtain ⟨m_4, hm_4, H⟩ := H
  exact hn2 _ _ ⟨m_4, hm_4, q7a, (w64 (k8 + 1)), rfl, H, hL8⟩
 have H := H.1 hb4
 obtain ⟨hi8, H⟩ := H
 refine pop_index sli29 siz3 .i64 s42 s44 hi8 ?_
 obtain ⟨s47, hc4, H⟩ := H
 refine rop_one one3 (VI s47) hc4 ?_
 obtain ⟨hi9, H⟩ := H
 refine pop_index sli29 siz3 .i64 s14 s47 hi9 ?_
 obtain ⟨s51, hc3, H⟩ := H
 refine rop_one one3 (VI s51) hc3 ?_
 refine pop_lss .i64 s51 0 ?_
 refine condM_b (fun hb5 => ?_) (fun hb5 => ?_)
 rotate_left
 ·have H := H.2 hb5
  refine pop_add .i64 s44 1 ?_
  obtain ⟨m_3, hm_3, H⟩ := H
  exact hn3 _ _ ⟨m_3, hm_3, q7a, (w64 (s44 + 1)), rfl, H, hL8⟩
 have H := H.1 hb5
 obtain ⟨hi10, H⟩ := H
 refine pop_index sli29 siz3 .i64 q7a k8 hi10 ?_
 obtain ⟨s59, hc2, H⟩ := H
 refine rop_one one3 (VI s59) hc2 ?_
 obtain ⟨hi11, H⟩ := H
 refine pop_index sli29 siz3 .i64 s14 s59 hi11 ?_
 obtain ⟨s61, hc1, H⟩ := H
 refine rop_one one3 (VI s61) hc1 ?_
 refine pop_add .i64 s61 1 ?_
 obtain ⟨hi12, H⟩ := H
 refine pop_index sli29 siz3 .i64 s14 s47 hi12 ?_
 obtain ⟨hw_3, hL9, H⟩ := H
 refine uop_cell (v := (VI (w64 (s61 + 1)))) siz3 hw_3 rfl (fun h9 he_3 => ?_)
 rw [← he_3] at hL9
 refine (H h9 he_3 hL9).mono ?_
 rintro _ h10 ⟨s66, rfl, hL10, H⟩
 refine H.mono ?_
 rintro _ h11 ⟨s67, rfl, hL11, H⟩
 refine pop_add .i64 s44 1 ?_
 obtain ⟨m_2, hm_2, H⟩ := H
 exact hn3 _ _ ⟨m_2, hm_2, s67, (w64 (s44 + 1)), rfl, H, hL11⟩
def u153 (P : Program) (z0 : Int) (q1 : Bool) (h : Heap) (K : KQ) : Prop :=
 ∀ (b1 : Nat) (b2 : Nat) (h3 : Heap), h.size ≤ b1 -> h.size ≤ b2 -> Fr (In []) h h3 -> Vars h3 [(b2, [nilSl.v]), (b1, [nilSl.v])] ->
 ∃ J1 : Nat -> Int -> Sl -> Heap -> Prop, (∃ n0 : Nat, J1 n0 0 nilSl h3) /\
 ∀ (n1 : Nat) (p6 : Int) (y1 : Sl) (h4 : Heap), J1 n1 p6 y1 h4 -> Vars h4 [(b2, [y1.v]), (b1, [nilSl.v])] ->
 ((decide (p6 < z0)) = true ->
 z0 ≠ 0 /\
 eop P (buildSlice 29 1 #[(0, (VI (Int.tmod (w64 (p6 + 1)) z0)))]) h4 fun r1 h5 => ∃ s18 : Sl, r1 = s18.v /\ Vars h5 [(b2, [y1.v]), (b1, [nilSl.v])] /\
 ∃ J2 : Sl -> Heap -> Prop, ((q1 = true ->
 z0 ≠ 0 /\
 eop P (buildSlice 29 1 #[(0, (VI (Int.tmod (w64 ((w64 (p6 + z0)) - 1)) z0)))]) h5 fun r2 h6 => ∃ s27 : Sl, r2 = s27.v /\ Vars h6 [(b2, [y1.v]), (b1, [nilSl.v])] /\
 eop P (appS 29 29 29 s18.v s27.v) h6 fun r3 h7 => ∃ s28 : Sl, r3 = s28.v /\ Vars h7 [(b2, [y1.v]), (b1, [nilSl.v])] /\
 J2 s28 h7) /\
 (q1 = false ->
 J2 s18 h5)) /\
 ∀ (y2 : Sl) (h8 : Heap), J2 y2 h8 -> Vars h8 [(b2, [y1.v]), (b1, [nilSl.v])] ->
 eop P (buildSlice 24 1 #[(0, y2.v)]) h8 fun r4 h9 => ∃ s32 : Sl, r4 = s32.v /\ Vars h9 [(b2, [y1.v]), (b1, [nilSl.v])] /\
 eop P (appS 24 24 24 y1.v s32.v) h9 fun r5 h10 => ∃ s33 : Sl, r5 = s33.v /\ Vars h10 [(b2, [y1.v]), (b1, [nilSl.v])] /\
 ∀ (h11 : Heap), Fr (In [b2]) h10 h11 -> Vars h11 [(b2, [s33.v]), (b1, [nilSl.v])] ->
 ∃ m : Nat, m < n1 /\ J1 m (w64 (p6 + 1)) s33 h11) /\
 ((decide (p6 < z0)) = false ->
 ∀ (h12 : Heap), Fr (In [b1]) h4 h12 -> Vars h12 [(b2, [y1.v]), (b1, [y1.v])] ->
 K (.agg #[y1.v]) h12)
theorem v153 (z0 : Int) (q1 : Bool) (h : Heap) (K : KQ) (H : u153 Tryz.prog z0 q1 h K) : callM Tryz.prog 153 #[(VI z0), (VB q1)] h K := by
 refine c153 (VI z0) (VB q1) h K ?_
 unfold u153 at H
 unfold t153
 have hL : Vars h [] := .nil
 refine eop_alloc 26 zer26 rfl hL (fun b1 h1 hb1 hf1 hL1 => ?_)
 refine pop.mk' (v := (Value.agg #[nilSl.v])) (fun w => by kernel_rfl) ?_
 refine eop_alloc 26 zer26 rfl hL1 (fun b2 h2 hb2 hf2 hL2 => ?_)
 refine ul siz26 hL2 0 0 [nilSl.v] [(b2, [nilSl.v]), (b1, [nilSl.v])] (fun h3 hf3 hL3 => ?_)
 have H := H b1 b2 h3 hb1 (Nat.le_trans (Fr.size (fo hf1)) hb2) (Fr.new (Fr.no' (fo hf1) hf2) (Nat.le_trans (Fr.size (fo hf1)) hb2) hf3) hL3
 obtain ⟨J1, ⟨n2, h0⟩, HB2⟩ := H
 refine loop_intro (J := fun (n : Nat) (vs : List Value) (h' : Heap) => ∃ p6 : Int, ∃ y1 : Sl, vs = [(VI p6)] /\ J1 n p6 y1 h' /\ Vars h' [(b2, [y1.v]), (b1, [nilSl.v])]) n2 ⟨0, nilSl, rfl, h0, hL3⟩ ?_
 intro I1 mu1 hI1 junk1 tv2 h4 hi1
 obtain ⟨n1, ⟨p6, y1, hv, hJ1, hL4⟩, hn1⟩ := hI1 _ _ hi1
 cases hv
 have H := HB2 n1 p6 y1 h4 hJ1 hL4
 refine pop_lss .i64 p6 z0 ?_
 refine condM_b (fun hb3 => ?_) (fun hb3 => ?_)
 rotate_left
 ·have H := H.2 hb3
  refine ra agg26 hL4 0 0 [y1.v] ?_
  refine ul siz26 hL4 1 0 [y1.v] [(b2, [y1.v]), (b1, [y1.v])] (fun h12 hf5 hL12 => ?_)
  refine ra agg26 hL12 1 0 [y1.v] ?_
  exact H  h12  (fq hf5) hL12
 have H := H.1 hb3
 refine pop_add .i64 p6 1 ?_
 obtain ⟨hz_1, H⟩ := H
 refine pop_rem .i64 (w64 (p6 + 1)) z0 hz_1 ?_
 refine H.mono ?_
 rintro _ h5 ⟨s18, rfl, hL5, H⟩
 obtain ⟨J2, H, HB1⟩ := H
 refine ⟨fun (vs : List Value) (h' : Heap) => ∃ y2 : Sl, vs = [y2.v] /\ J2 y2 h' /\ Vars h' [(b2, [y1.v]), (b1, [nilSl.v])], ?_, ?_⟩
 ·refine condM_b (fun hb4 => ?_) (fun hb4 => ?_)
  rotate_left
  ·have H := H.2 hb4
   exact ⟨s18, rfl, H, hL5⟩
  have H := H.1 hb4
  refine pop_add .i64 p6 z0 ?_
  refine pop_sub .i64 (w64 (p6 + z0)) 1 ?_
  obtain ⟨hz_2, H⟩ := H
  refine pop_rem .i64 (w64 ((w64 (p6 + z0)) - 1)) z0 hz_2 ?_
  refine H.mono ?_
  rintro _ h6 ⟨s27, rfl, hL6, H⟩
  refine H.mono ?_
  rintro _ h7 ⟨s28, rfl, hL7, H⟩
  exact ⟨s28, rfl, H, hL7⟩
 intro junk2 tv1 h8
 rintro ⟨y2, hv, hJ2, hL8⟩
 cases hv
 have H := HB1 y2 h8 hJ2 hL8
 refine pop_field 0 fld26_0 b2 0 ?_
 refine rl one24 hL8 0 0 y1.v ?_
 refine H.mono ?_
 rintro _ h9 ⟨s32, rfl, hL9, H⟩
 refine H.mono ?_
 rintro _ h10 ⟨s33, rfl, hL10, H⟩
 refine pop_field 0 fld26_0 b2 0 ?_
 refine ul siz24 hL10 0 0 [s33.v] [(b2, [s33.v]), (b1, [nilSl.v])] (fun h11 hf4 hL11 => ?_)
 refine pop_add .i64 p6 1 ?_
 have H := H  h11  (fq hf4) hL11
 obtain ⟨m_1, hm_1, H⟩ := H
 exact hn1 _ _ ⟨m_1, hm_1, (w64 (p6 + 1)), s33, rfl, H, hL11⟩
end Go.Proofs.YtkjkfjkapbpgiaaGreat
